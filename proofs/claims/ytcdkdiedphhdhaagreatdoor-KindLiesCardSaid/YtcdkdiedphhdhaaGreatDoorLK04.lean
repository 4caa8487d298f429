/- Part of a proof. -/
import Derived.Test.YtcdkdiedphhdhaaGreatDoorK41
import Derived.Test.YtcdkdiedphhdhaaGreatDoorLK03
set_option maxRecDepth 100000
set_option maxHeartbeats 8000000
set_option linter.unusedVariables false
set_option linter.unusedSimpArgs false
open Go.Proofs.Tryz
namespace Go.Proofs.YtcdkdiedphhdhaaGreatDoor
section
open Go Go.RowKit
section
variable {t : Tr}
def SS(t:Tr)(s:List UInt8)(e:World)(x:Ending):Prop:=
 match recT t t.nodes.length s with
 |none=>x=.returned (.tuple #[.slice none 0 0,.slice none 0 0,intV 7])
 |some q=>∃a c a' c',x=.returned (.tuple #[.slice a (t.nd (q:Int)).kids.length c,.slice a' (t.nd (q:Int)).kids.length c',intV 0])/\Strs e a c ((t.nd (q:Int)).kids.map fun k=>(t.nd k).text)/\Strs e a' c' ((t.nd (q:Int)).kids.map (ofK (tysP t t.nodes.length)))
def RetFields(w:World)(t:Tr)(s:List UInt8)(e:Ending)(w':World):Prop:=
 Below w.heap.size w w'/\((InfOk t/\SS t s w' e)\/∃k er:Int,InfO t k er/\e=.returned (.tuple #[.slice none 0 0,.slice none 0 0,intV er]))
theorem ST(v:TreeV)(t:Tr)(s:List UInt8)(w:World)(bd:Bd t)(rg:Rg t)(hg:GVK w)(h:IsTree w v t)(hs:s.length<=1000000) :
 Calls prog 13 #[v.val t,strV s] w (RetFields w t s):=by
 have hx:=bd.n;have hf:=hg.step (boxT_below (v:=v) (t:=t));have he:=h.mono (boxT_below (v:=v) (t:=t)) nlr;by_cases hok:InfOk t
 .have HI:=Hd (rN v t s _ bd rg hf he hok hs)
  have Hk:=Hd (zi bd hok.1).1;have Hj:=Hd hok;clear h hg bd rg hf he hok;obtain⟨na,nc,ia,ic⟩:=v;unfold TreeV.val
  cases hrec:recT t t.nodes.length s with
  | none=>
    have Ha:=Hd hrec;clear hrec;go_enter func13,ntmps13
    go_wp2_with (go_at_call 30;refine HI.o.mono ?_;rintro e w2 hm;obtain⟨hb,rfl⟩:=(RetRec.isNone Ha.o).1 hm;have HB:=Hd (boxT_below.trans (hb.mono (by simp)):Below w.heap.size w w2);clear hb)
    refine bodyPost_ret (v:=.tuple #[.slice none 0 0,.slice none 0 0,intV 7]) (by simp[results,results13,go_sem]) rfl ⟨HB.o,.inl ⟨Hj.o,by unfold SS;rw[Ha.o]⟩⟩
  | some q=>
    have Ha:=Hd hrec;have hq:=qU hrec nlr;have hh:=Hk.o.kid q hq;have hi:=Hk.o.bd.k _ (List.getElem_mem hq);rw[<-t.nd_at hq]at hh hi;obtain⟨D,hD⟩:∃D,t.nd (q:Int)=D:=⟨_,rfl⟩
    rw[hD]at hh hi;have Hc:=Hd hD
    have Hg:Hid (∀k∈D.kids,0<=k/\k<(t.nodes.length:Int)):=Hd fun k hk=>by
     have:=hh k hk;omega
    clear hrec hh hD;go_enter func13,ntmps13
    go_wp2_with (go_at_call 30;refine HI.o.mono ?_;rintro e w2 hm;obtain⟨hb,p,w1,ka,kc,rfl,hO,hl⟩:=(RetRec.isSome Ha.o).1 hm;rw[Hc.o]at hl|-;have HB:=Hd (boxT_below.trans (hb.mono (by simp)):Below w.heap.size w w2);have HP:=Hd hO.prog;have Hh:=Hd hl;clear hb hO hl)
    go_loopw [4,23] (fun t4 t23 wr=>∃(j:Nat) (l:List (List UInt8)) (aq:Option Addr) (cq:Nat),t23=.int .i64 j/\t4=.slice aq l.length cq/\j<=D.kids.length/\l.length<=j/\Hid (l=(D.kids.take j).map fun k=>(t.nd k).text)/\Hid (dA wr w2.heap.size aq cq l)/\Hid (Below w2.heap.size w2 wr)) (fun _ t23 _=>D.kids.length-(intOf t23).toNat)
    case atStart=>exact⟨0,[],none,0,rfl,rfl,Nat.zero_le _,nlr,Hd rfl,Hd (OO _ _),Hd brf⟩
    case round=>
     obtain⟨j,l,aq,cq,rfl,rfl,hj,hB,HL,HO,Hb⟩:=hrel;have He:=Hd (HP.o.step Hb.o);by_cases hlt:j<D.kids.length
     .obtain⟨q1,q2⟩:=Hg.o _ (List.getElem_mem hlt)
      obtain⟨bk,ok,ek,hy,hw⟩:=Ints.at (show Ints wr ka kc D.kids from Row.mono Hh.o Hb.o nlr) hlt;subst ek;obtain⟨a,ha⟩:=Int.eq_ofNat_of_zero_le q1;rw[ha]at hw q2;have ho:a<t.nodes.length:=by omega
      have c0:=He.o.c0;have hA:=He.o.gl;obtain⟨bn,on,kb,kd,ea,hz,-,m1,-,-,-,-⟩:=He.o.tree.nodes.at ho;rw[ea]at c0;have hu:=t.nd_at ho;rw[<-hu]at m1;have HN:Hid (l++[(t.nd (a:Int)).text]=(D.kids.take (j+1)).map fun k=>(t.nd k).text):=Hd (by rw[List.take_succ_eq_append_getElem hlt,List.map_append,<-HL.o,ha];rfl);obtain⟨tx,he⟩:∃tx,(t.nd (a:Int)).text=tx:=⟨_,rfl⟩
      rw[he]at m1 HN;have HJ:=Hd hlt;clear hu he ea ha q1
      go_wp2_with (first
       | (at_builtin
          refine pM rfl (.tmp 27) (.tmp 37) rfl rfl (HO.o.alloc _) rfl (cN _ _ _) (by omega) (by have:=Hb.o.size;simp;omega) ?_;intro a9 c9 w9 hd hc;have Ho:=Hd hd;have Hl:=Hd (hc _ w2 nlr (Hb.o.alloc Hb.o.size _))
          clear hd hc))
      go_roundw
      case rel=>exact⟨j+1,_,a9,c9,by go_num,by simp,by omega,by simp;omega,HN,Ho,Hl⟩
      case measure=>simp[intOf];omega
     .obtain rfl:j=D.kids.length:=by omega
      have HN:Hid (l=D.kids.map fun k=>(t.nd k).text):=Hd (by rw[HL.o,List.take_length]);have Hi:Hid (l.length=D.kids.length):=Hd (by rw[HN.o,List.length_map]);have HK:=Hd (dH t (tysP t t.nodes.length) t.nodes.length p ka kc D.kids wr He.o (Row.mono Hh.o Hb.o nlr) hi hx Hg.o)
      go_wp2_with (go_at_call 31;refine HK.o.mono ?_;rintro e w3 ⟨a3,c3,rfl,hv,hr⟩;have Hn:=Hd hv;have Hf:=Hd hr;clear hv hr)
      refine bodyPost_ret (v:=.tuple #[.slice aq l.length cq,.slice a3 (D.kids.map (ofK (tysP t t.nodes.length))).length c3,intV 0]) (by simp[results,results13,go_sem]) rfl ⟨HB.o.trans ((Hb.o.trans (Hf.o.mono Hb.o.size)).mono HB.o.size),.inl ⟨Hj.o,?_⟩⟩;unfold SS;rw[Ha.o];have hn:=Row.mono (zT HO.o) Hf.o nlr;rw[Hi.o]at hn;rw[HN.o]at hn;refine⟨aq,cq,a3,c3,by rw[Hi.o,List.length_map,Hc.o],?_,?_⟩
      .unfold Strs;rw[Hc.o,List.length_map];exact hn
      .rw[Hc.o];exact zT Hn.o
 .have HI:=Hd (oX v t s _ bd rg hf he hok)
  clear h hg bd rg hf he hok;obtain⟨na,nc,ia,ic⟩:=v;unfold TreeV.val;go_enter func13,ntmps13
  go_wp2_with (go_at_call 30;refine HI.o.mono ?_;rintro e w2 ⟨hp,k,er,ht,hC,rfl⟩;have Hm:=Hd ht;have HB:=Hd (boxT_below.trans (hp.mono (by simp)):Below w.heap.size w w2);clear hp ht)
  refine bodyPost_ret (v:=.tuple #[.slice none 0 0,.slice none 0 0,intV er]) (by simp[results,results13,go_sem]) rfl ⟨HB.o,.inr ⟨k,er,Hm.o,rfl⟩⟩
end
end
end Go.Proofs.YtcdkdiedphhdhaaGreatDoor
