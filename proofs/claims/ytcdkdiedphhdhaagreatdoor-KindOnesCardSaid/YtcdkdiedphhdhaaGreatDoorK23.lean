/- Part of a proof. -/
import Derived.Test.YtcdkdiedphhdhaaGreatDoorK22
import Derived.Maps.OwnSet
import Derived.Maps.OwnOps
set_option maxRecDepth 100000
set_option maxHeartbeats 8000000
set_option linter.unusedVariables false
set_option linter.unusedSimpArgs false
open Go.Proofs.Tryz
namespace Go.Proofs.YtcdkdiedphhdhaaGreatDoor
section
open Go.RowKit
open Go.Maps
def IntSet(D:DataW Unit)(S:Int->Prop):Prop:=
 ∃es,D=.map es/\es.any (fun p=>match p.1 with|.int .i64 _=>false|_=>true)=false/\∀j:Int,Maps.has D (.int .i64 j)=true↔S j
theorem IntSet.congr{D:DataW Unit}{S S':Int->Prop}(h:IntSet D S)(e:∀j,S j↔S' j):IntSet D S':=by
 obtain⟨es,h1,h2,h3⟩:=h;exact⟨es,h1,h2,fun j=>(h3 j).trans (e j)⟩
theorem IntSet.empty:IntSet (.map []) (fun _=>False):=⟨[],rfl,rfl,fun j=>by simp[Maps.has]⟩
theorem IntSet.put{D:DataW Unit}{S:Int->Prop}(h:IntSet D S)(k:Int)(d:DataW Unit):IntSet (D.put (.int .i64 k) d) (fun j=>j=k\/S j):=by
 obtain⟨es,rfl,h2,h3⟩:=h;refine⟨_,rfl,?_,fun j=>?_⟩
 .show(DataW.insert (.int .i64 k,d) (es.filter fun p=>!p.1.sameKey (.int .i64 k))).any _=false
  rw[any_insert,Bool.or_eq_false_iff];refine⟨rfl,?_⟩;rw[List.any_eq_false]at h2|-;exact fun p hp=>h2 p (List.mem_filter.1 hp).1
 .by_cases hj:j=k
  .subst hj
   rw[has_put_same ⟨es,rfl⟩ (show WideAt.IsKeyLit (.int .i64 j)from trivial)];simp
  .rw[has_put_other (by intro e;injection e with _ e;exact hj e),h3]
   simp[hj]
theorem IntSet.del{D:DataW Unit}{S:Int->Prop}(h:IntSet D S)(k:Int):IntSet (D.del (.int .i64 k)) (fun j=>j≠k/\S j):=by
 obtain⟨es,rfl,h2,h3⟩:=h;refine⟨_,rfl,?_,fun j=>?_⟩
 .show(es.filter fun p=>!p.1.sameKey (.int .i64 k)).any _=false
  rw[List.any_eq_false]at h2|-;exact fun p hp=>h2 p (List.mem_filter.1 hp).1
 .by_cases hj:j=k
  .subst hj
   rw[has_del_same];simp
  .rw[has_del_other (by intro e;injection e with _ e;exact hj e),h3]
   simp[hj]
theorem IntSet.size{D:DataW Unit}{S:Int->Prop}(h:IntSet D S):Maps.size D=0↔∀j,¬S j:=by
 obtain⟨es,rfl,h2,h3⟩:=h;constructor
 .intro hz j hj
  have:=(h3 j).2 hj;rw[List.eq_nil_of_length_eq_zero (show es.length=0 from hz)]at this;cases this
 .intro hn
  match es,h2,h3 with
  | [],_,_=>rfl
  | p::r,h2,h3=>
    exfalso;obtain⟨⟨⟩,d⟩:=p
    all_goals first
     | (simp at h2;done)
     |skip
    rename_i q j;cases q
    all_goals first
     | (simp at h2;done)
     |skip
    refine hn j ((h3 j).1 ?_);simp[Maps.has,Lit.sameKey]
theorem EW{t:Tr}:dG t=true↔∀j:Int,¬((∃i:Nat,i<t.nodes.length/\j=i/\(t.nd i).kind=1/\(t.nd i).n<0)/\∀it∈t.items,(t.nd it).kind=40->j ∉ (t.nd it).kids):=by
 unfold dG;rw[List.all_eq_true];constructor
 .rintro h j⟨⟨i,hi,rfl,hk,hn⟩,hs⟩
  have:=h i (List.mem_range.2 hi);rw[hk,decide_eq_true hn]at this;simp only[beq_self_eq_true,Bool.and_self,Bool.not_true,Bool.false_or,List.any_eq_true,Bool.and_eq_true,beq_iff_eq]at this;obtain⟨it,hb,ha,hh⟩:=this;exact hs it hb ha (by simpa[hasI]using hh)
 .intro h i hi
  have hi:=List.mem_range.1 hi;by_cases hneg:(t.nd i).kind=1/\(t.nd i).n<0
  .have:=h i
   simp only[not_and,Classical.not_forall]at this;obtain⟨it,hb,ha,hm⟩:=this ⟨i,hi,rfl,hneg⟩;have hm:=Classical.not_not.1 hm;simp only[Bool.or_eq_true,List.any_eq_true,Bool.and_eq_true,beq_iff_eq];exact .inr ⟨it,hb,ha,by simpa[hasI]using hm⟩
  .simp only[Bool.or_eq_true,Bool.not_eq_true',Bool.and_eq_false_iff,beq_eq_false_iff_ne,decide_eq_false_iff_not]
   refine .inl ?_;by_cases hk:(t.nd i).kind=1
   .exact .inr fun hn=>hneg ⟨hk,hn⟩
   .exact .inl hk
theorem sH{t:Tr}:∀{l:List Int}{p q:Int},0<=p->ordF t l p=some q->∀it∈l,0<=it/\it<(t.nodes.length:Int)
 | [],p,q,_,_,it,hm=>by cases hm
 | a::l,p,q,hp,h,it,hm=>by
   rw[ordF]at h;split at h
   .rename_i hc
    rw[Bool.and_eq_true,decide_eq_true_iff,decide_eq_true_iff]at hc;obtain⟨m,h1,h2⟩:=Option.bind_eq_some_iff.1 h;rcases List.mem_cons.1 hm with rfl|hm
    .omega
    .exact sH (by have:=sR h1;omega) h2 it hm
   .cases h
theorem tM{t:Tr}(h:aC t=true):∀it∈t.items,0<=it/\it<(t.nodes.length:Int):=by
 unfold aC at h;rw[beq_iff_eq]at h;exact sH (Int.le_refl _) h
theorem AX:prog.underlying 214=some (.map 3 4):=by kernel_rfl
theorem nP:prog.underlying 3=some (.int .i64):=by kernel_rfl
theorem OA:prog.underlying 4=some .bool:=by kernel_rfl
abbrev OwnM(W:World)(b n:Nat)(D:DataW Unit):Prop:=W.ownsMap prog 3 (plainElem prog 4) b n D
def Neg(t:Tr)(k:Nat)(j:Int):Prop:=∃i:Nat,i<k/\j=i/\(t.nd i).kind=1/\(t.nd i).n<0
def Left(t:Tr)(l:List Int)(j:Int):Prop:=∀it∈l,(t.nd it).kind=40->j ∉ (t.nd it).kids
theorem Neg.no{t:Tr}{k:Nat}(h:¬((t.nd k).kind=1/\(t.nd k).n<0))(j:Int):Neg t k j↔Neg t (k+1) j:=by
 constructor
 .rintro⟨i,hi,r⟩;exact⟨i,by omega,r⟩
 .rintro⟨i,hi,e,r⟩
  by_cases hik:i=k
  .subst hik;exact absurd r h
  .exact⟨i,by omega,e,r⟩
theorem Neg.yes{t:Tr}{k:Nat}(h:(t.nd k).kind=1/\(t.nd k).n<0)(j:Int):(j=(k:Int)\/Neg t k j)↔Neg t (k+1) j:=by
 constructor
 .rintro(rfl|⟨i,hi,r⟩)
  .exact⟨k,by omega,rfl,h⟩
  .exact⟨i,by omega,r⟩
 .rintro⟨i,hi,e,r⟩
  by_cases hik:i=k
  .subst hik;exact .inl e
  .exact .inr ⟨i,by omega,e,r⟩
theorem Left.no{t:Tr}{m:Nat}(hm:m<t.items.length)(h:¬(t.nd t.items[m]).kind=40)(j:Int):Left t (t.items.take m) j↔Left t (t.items.take (m+1)) j:=by
 rw[List.take_succ_eq_append_getElem hm];constructor
 .intro hl it ha hk
  rcases List.mem_append.1 ha with ha|ha
  .exact hl it ha hk
  .rw[List.mem_singleton]at ha;subst ha;exact absurd hk h
 .intro hl it ha hk
  exact hl it (List.mem_append_left _ ha) hk
theorem Left.yes{t:Tr}{m:Nat}(hm:m<t.items.length)(h:(t.nd t.items[m]).kind=40)(j:Int):(Left t (t.items.take m) j/\j ∉ (t.nd t.items[m]).kids)↔Left t (t.items.take (m+1)) j:=by
 rw[List.take_succ_eq_append_getElem hm];constructor
 .rintro⟨hl,hn⟩ it ha hk
  rcases List.mem_append.1 ha with ha|ha
  .exact hl it ha hk
  .rw[List.mem_singleton]at ha;subst ha;exact hn
 .intro hl
  exact⟨fun it ha hk=>hl it (List.mem_append_left _ ha) hk,hl _ (List.mem_append_right _ (List.mem_singleton.2 rfl)) h⟩
theorem yE(v:TreeV)(t:Tr)(w:World)(bd:Bd t)(hkid:∀i,i<t.nodes.length->∀k∈(t.nd i).kids,0<=k/\k<(i:Int))(hitem:∀it∈t.items,0<=it/\it<(t.nodes.length:Int))(h:IsTree w v t) :
 Calls prog 119 #[v.val t] w (zD w (dG t)):=by
 have HT:=Hd h;have BD:=Hd bd;have He:=Hd hkid;have Hj:=Hd hitem;have hP:=bd.n;have hN:=bd.i;have hO:=@run_makeMap prog;have law:=Hd (int_keyed (P:=prog) nP);obtain⟨na,nc,ia,ic⟩:=v;clear h bd hkid hitem;unfold TreeV.val;go_enter func119,ntmps119;go_wp2
 go_loopw [14] (fun t14 wr=>∃(k:Nat) (D:DataW Unit),t14=.int .i64 k/\k<=t.nodes.length/\Hid (OwnM wr (w.heap.size+1) k D)/\Hid (IntSet D (Neg t k))/\Hid (Below (w.heap.size+1) (boxT w ⟨na,nc,ia,ic⟩ t) wr)) (fun t14 _=>t.nodes.length-(intOf t14).toNat)
 case atStart=>exact⟨0,.map [],rfl,Nat.zero_le _,Hd (by have:=World.ownsMap_made (H:=Unit) (boxT w ⟨na,nc,ia,ic⟩ t) prog 3 (plainElem prog 4);rw[World.size_alloc]at this;exact this),Hd (IntSet.empty.congr fun j=>⟨False.elim,fun⟨i,hi,_⟩=>by omega⟩),Hd (brf.alloc (by simp) _)⟩
 case round=>
  obtain⟨k,D,rfl,hk,HO,HS,HB⟩:=hrel;obtain⟨b0,b1,hT,⟨hs,hE,hF⟩,hp⟩:=boxed HB.o HT.o;have Hq:=Hd hT;have hu:=HO.o.lt;by_cases hlt:k<t.nodes.length
  .obtain⟨b,o,ka,kc,ea,hb,c0,c1,c2,c3,c4,ht⟩:=hT.nodes.at hlt
   simp only at ea;subst ea;have hh:=t.nd_at hlt;obtain⟨d,hd⟩:∃d,t.nodes[k]=d:=⟨_,rfl⟩
   rw[hd]at c0 c1 c2 c3 c4 hh;have Hg:=Hd hh;clear hT ht hh hd;cases hk1:(d.kind==1)with
   | false=>
     have he:=Neg.no (t:=t) (k:=k) (by rw[Hg.o];rintro⟨e,-⟩;rw[e]at hk1;cases hk1);have Hb:=Hd he;clear he;go_wp2
     go_roundw
     case rel=>exact⟨k+1,D,by go_num,by omega,Hd ((HO.o.alloc _).mono (Nat.le_succ _)),Hd (HS.o.congr Hb.o),Hd (HB.o.alloc (by omega) _)⟩
     case measure=>simp[intOf];omega
   | true=>
     by_cases hn:d.n<0
     .have ha:=Neg.yes (t:=t) (k:=k) (by rw[Hg.o];exact⟨by simpa using hk1,hn⟩)
      have Ha:=Hd ha;clear ha
      go_wp2_with (first|(at_mapUpdate;refine wpList_mapUpdate_own _ rfl _ _ _ 214 rfl 3 4 law.out AX _ (w.heap.size+1) k _ rfl (HO.o.alloc _) (by unfold maxLen;omega) _ _ (.int .i64 k) rfl rfl (keyOf_int_mk nP (WalkArith.wf_i64 (by omega))) (.lit (.bool true)) [] (plainElem_bool OA true) ?_;intro w1 hc hf))
      go_roundw
      case rel=>exact⟨k+1,_,by go_num,by omega,Hd hc,Hd ((HS.o.put k _).congr Ha.o),Hd ((HB.o.alloc (by omega) _).grown hf (by simp;omega) (fun j hj=>by cases hj;exact nlr))⟩
      case measure=>simp[intOf];omega
     .have he:=Neg.no (t:=t) (k:=k) (by rw[Hg.o];exact fun e=>hn e.2)
      have Hb:=Hd he;clear he;go_wp2
      go_roundw
      case rel=>exact⟨k+1,D,by go_num,by omega,Hd ((HO.o.alloc _).mono (Nat.le_succ _)),Hd (HS.o.congr Hb.o),Hd (HB.o.alloc (by omega) _)⟩
      case measure=>simp[intOf];omega
  .obtain rfl:k=t.nodes.length:=by omega
   have Hn:=HS;have Hh:=HB;go_wp2;rename World=>wk
   go_loopw [33] (fun t33 wr=>∃(m:Nat) (D:DataW Unit),t33=.int .i64 m/\m<=t.items.length/\Hid (OwnM wr (w.heap.size+1) t.nodes.length D)/\Hid (IntSet D (fun j=>Neg t t.nodes.length j/\Left t (t.items.take m) j))/\Hid (Below (w.heap.size+1) (boxT w ⟨na,nc,ia,ic⟩ t) wr)) (fun t33 _=>t.items.length-(intOf t33).toNat)
   case atStart=>exact⟨0,D,rfl,Nat.zero_le _,HO,Hd (Hn.o.congr fun j=>⟨fun h=>⟨h,fun it hit=>by simp at hit⟩,fun h=>h.1⟩),Hh⟩
   case round=>
    obtain⟨m,D,rfl,hm,HO,HS,HB⟩:=hrel;obtain⟨b0,b1,hT,⟨hs,hE,hF⟩,hp⟩:=boxed HB.o HT.o;have hu:=HO.o.lt;by_cases hlt:m<t.items.length
    .obtain⟨bi,oi,ei,hM,hK⟩:=Ints.at hT.items hlt
     simp only at ei;subst ei;have hx:=Hj.o _ (List.getElem_mem hlt);have he:=Left.no hlt;have ha:=Left.yes hlt;obtain⟨x,hH⟩:∃x,t.items[m]=x:=⟨_,rfl⟩
     rw[hH]at hK hx he ha;obtain⟨hG,hR⟩:=hx;obtain⟨i,rfl⟩:=Int.eq_ofNat_of_zero_le hG;have hv:i<t.nodes.length:=by omega
     obtain⟨b,o,ka,kc,ea,hb,c0,c1,c2,c3,c4,ht⟩:=HT.o.nodes.at hv;simp only at ea;subst ea;have hh:=t.nd_at hv;have hB:=He.o i hv;have hL:=BD.out.k _ (List.getElem_mem hv);obtain⟨d,hd⟩:∃d,t.nodes[i]=d:=⟨_,rfl⟩
     rw[hd]at c0 c1 c2 c3 c4 ht hh hL;obtain⟨ho,-⟩:=bcell hp;have e0:=(ho b (o+i*5) hb).trans c0;have e3:=(ho b (o+i*5+3) hb).trans c3;clear c0 c1 c2 c3 c4 ho;rw[hh]at he ha hB;have Hl:=Hd ht;have Hk:=Hd hB;have Hb:=Hd he;have Ha:=Hd ha;clear hT ht hh hd he ha hH hB hG;cases hk1:(d.kind==40)with
     | false=>
       have hw:¬d.kind=40:=by simpa using hk1
       have Hc:=Hd hw;go_wp2
       go_roundw
       case rel=>exact⟨m+1,D,by go_num,by omega,HO,Hd (HS.o.congr fun j=>and_congr_right fun _=>Hb.o Hc.o j),HB⟩
       case measure=>simp[intOf];omega
     | true=>
       have hw:d.kind=40:=by simpa using hk1
       have Hc:=Hd hw;have Ho:=HS;have Hm:=HO;have Hi:=HB;clear hw;go_wp2;rename World=>wj
       go_loopw [51] (fun t51 wr=>∃(q:Nat) (D:DataW Unit),t51=.int .i64 q/\q<=d.kids.length/\Hid (OwnM wr (w.heap.size+1) t.nodes.length D)/\Hid (IntSet D (fun j=>(Neg t t.nodes.length j/\Left t (t.items.take m) j)/\j ∉ d.kids.take q))/\Hid (Below (w.heap.size+1) (boxT w ⟨some ⟨b,o,none⟩,nc,some ⟨bi,oi,none⟩,ic⟩ t) wr)) (fun t51 _=>d.kids.length-(intOf t51).toNat)
       case atStart=>exact⟨0,D,rfl,Nat.zero_le _,Hm,Hd (Ho.o.congr fun j=>⟨fun h=>⟨h,by simp⟩,fun h=>h.1⟩),Hi⟩
       case round=>
        obtain⟨q,D,rfl,hq,HO,HS,HB⟩:=hrel;obtain⟨b0,b1,hT,⟨hs,hE,hF⟩,hp⟩:=boxed HB.o HT.o;have hu:=HO.o.lt;by_cases hltq:q<d.kids.length
        .obtain⟨bk,ok,ek,hJ,hD⟩:=Ints.at Hl.o hltq
         subst ek;obtain⟨ho,-⟩:=bcell hp;have hA:=(ho bk (ok+q) hJ).trans hD;have hy:=Hk.o _ (List.getElem_mem hltq)
         have hg:∀j,j ∉ d.kids.take (q+1)↔(j≠d.kids[q]/\j ∉ d.kids.take q):=by
          intro j;rw[List.take_succ_eq_append_getElem hltq];simp only[List.mem_append,List.mem_singleton,not_or];exact and_comm
         obtain⟨y,hC⟩:∃y,d.kids[q]=y:=⟨_,rfl⟩
         rw[hC]at hA hy;simp only[hC]at hg;have Hf:=Hd hg;obtain⟨hS,hU⟩:=hy;clear ho hD hC hg
         go_wp2_with (first|(at_delete;refine wpList_delete_own _ rfl _ _ 214 3 rfl 4 law.out AX _ (w.heap.size+1) t.nodes.length _ rfl HO.o _ (.int .i64 y) rfl (keyOf_int_mk nP (WalkArith.wf_i64 (by omega))) ?_;intro w1 hc hl))
         go_roundw
         case rel=>exact⟨q+1,_,by go_num,by omega,Hd hc,Hd ((HS.o.del y).congr fun j=>by rw[Hf.o j];constructor<;>(intro h;exact⟨h.2.1,h.1,h.2.2⟩)),Hd (HB.o.grown hl.grown (by omega) (fun j hj=>by cases hj;exact nlr))⟩
         case measure=>simp[intOf];omega
        .obtain rfl:q=d.kids.length:=by omega
         have Hp:=HS;go_wp2
         go_roundw
         case rel=>exact⟨m+1,D,by go_num,by omega,HO,Hd (Hp.o.congr fun j=>by rw[List.take_length,and_assoc];exact and_congr_right fun _=>Ha.o Hc.o j),HB⟩
         case measure=>simp[intOf];omega
    .obtain rfl:m=t.items.length:=by omega
     have hz:=HS.o.size;have hQ:=HO.o.size_le;obtain⟨z,hI⟩:∃z,Maps.size D=z:=⟨_,rfl⟩
     have hr:dG t=decide (z=0):=by
      rw[<-hI,Bool.eq_iff_iff,decide_eq_true_iff,hz,EW];simp only[List.take_length];rfl
     have HF:=Hd hr;clear hz hr
     go_wp2_with (first|(at_len;refine wpList_len_own _ rfl _ 214 rfl 3 4 AX _ (w.heap.size+1) t.nodes.length D rfl HO.o ?_;rw[hI]))
     go_ret;refine⟨zc ?_,hp⟩;rw[HF.o,Bool.eq_iff_iff,beq_iff_eq,decide_eq_true_iff];omega
end
section
open Go.RowKit
theorem PT{t:Tr}(rg:Rg t)(hl:¬(800<t.nodes.length\/60<t.items.length))(h1:cD t=true)(h2:aC t=true)(h3:dG t=true):gO t=true:=by
 cases hf:gO t with
 |true=>rfl
 | false=>
   have:=BJ rg;unfold fQ aD at this;rw[if_neg hl,if_neg hl,h1,h2,h3,hf]at this;simp only[Bool.not_true,Bool.and_self,Bool.false_eq_true,if_false]at this;split at this
   .omega
   .split at this<;>omega
theorem yX{t:Tr}{i:Nat}(h:dC t i=true):∀k∈(t.nd i).kids,0<=k/\k<(i:Int):=by
 cases hs:fV (t.nd i).kind (t.nd i).n with
 |none=>rw[pW hs]at h;cases h
 | some s=>
   rw[pX hs]at h;simp only[Bool.and_eq_true,List.all_eq_true]at h;intro k hk;have:=inRange_iff.1 (h.2.1 k hk);omega
theorem yO{t:Tr}(h:800<t.nodes.length\/60<t.items.length):fQ t=5:=if_pos h
theorem vE{t:Tr}(hl:¬(800<t.nodes.length\/60<t.items.length))(h:cD t=false):fQ t=4:=by
 unfold fQ;rw[if_neg hl,h];rfl
theorem tA{t:Tr}(hl:¬(800<t.nodes.length\/60<t.items.length))(h1:cD t=true)(h:aC t=false):fQ t=4:=by
 unfold fQ;rw[if_neg hl,h1,h];rfl
theorem vF{t:Tr}(hl:¬(800<t.nodes.length\/60<t.items.length))(h1:cD t=true)(h2:aC t=true)(h:dG t=false):fQ t=4:=by
 unfold fQ;rw[if_neg hl,h1,h2,h];rfl
theorem DY{t:Tr}(hl:¬(800<t.nodes.length\/60<t.items.length))(h1:cD t=true)(h2:aC t=true)(h3:dG t=true)(h:30<aM t):fQ t=5:=by
 unfold fQ;rw[if_neg hl,h1,h2,h3,if_pos h];rfl
theorem IC{t:Tr}(hl:¬(800<t.nodes.length\/60<t.items.length))(h1:cD t=true)(h2:aC t=true)(h3:dG t=true)(h:¬30<aM t):fQ t=if 0<=aA t then 3 else 0:=by
 unfold fQ;rw[if_neg hl,h1,h2,h3,if_neg h];rfl
theorem EH{t:Tr}{k:Nat}(hk:k<t.nodes.length)(h:dC t k=false):cD t=false:=by
 unfold cD;rw[Bool.eq_false_iff];intro ha;have:=List.all_eq_true.1 ha k (List.mem_range.2 hk);rw[h]at this;cases this
theorem xW(v:TreeV)(t:Tr)(w:World)(bd:Bd t)(rg:Rg t)(hg:GV w)(h:IsTree w v t) :
 Calls prog 78 #[v.val t] w (kS w (fQ t)):=by
 have HT:=Hd h;have BD:=Hd bd;have HG:=Hd hg;have RG:=Hd rg;have hu:=bd.n;obtain⟨na,nc,ia,ic⟩:=v;have HN:∀W,Calls prog 63 #[(TreeV.mk na nc ia ic).val t] W (zD W (decide (800<t.nodes.length\/60<t.items.length))):=fun W=>gS ⟨na,nc,ia,ic⟩ t W bd;have HL:=Hd HN;have HI:Hid (Below (w.heap.size+1) (boxT w ⟨na,nc,ia,ic⟩ t) (boxT w ⟨na,nc,ia,ic⟩ t)):=Hd brf;clear h bd rg hg HN;unfold TreeV.val at *;by_cases hlim:800<t.nodes.length\/60<t.items.length
 .have HC:=Hd (yO hlim)
  have HH:=Hd (decide_eq_true hlim);clear hlim;go_enter func78,ntmps78
  go_wp2_with (go_at_call 63;refine(HL.o _).mono ?_;rw[HH.o];rintro e w1 ⟨rfl,hq⟩;have Ht:Hid (Below (w.heap.size+1) (boxT w ⟨na,nc,ia,ic⟩ t) w1):=Hd (HI.o.trans (hq.mono (by simp)));obtain⟨b01,b11,ho,-,hj⟩:=boxed Ht.o HT.o;have HQ:=Hd ho;have Ho:=Hd hj;clear hq ho hj)
  go_ret;exact⟨zO HC.o.symm,Ho.o⟩
 .have Hl:=Hd hlim
  have HH:=Hd (decide_eq_false hlim);clear hlim;go_enter func78,ntmps78
  go_wp2_with (go_at_call 63;refine(HL.o _).mono ?_;rw[HH.o];rintro e w1 ⟨rfl,hq⟩;have Ht:Hid (Below (w.heap.size+1) (boxT w ⟨na,nc,ia,ic⟩ t) w1):=Hd (HI.o.trans (hq.mono (by simp)));obtain⟨b01,b11,ho,-,hj⟩:=boxed Ht.o HT.o;have HQ:=Hd ho;have Ho:=Hd hj;clear hq ho hj)
  go_loopw [9] (fun t9 wr=>∃k:Nat,t9=.int .i64 k/\k<=t.nodes.length/\Hid (∀i,i<k->dC t i=true)/\Hid (Below (w.heap.size+1) (boxT w ⟨na,nc,ia,ic⟩ t) wr)) (fun t9 _=>t.nodes.length-(intOf t9).toNat)
  case atStart=>exact⟨0,rfl,Nat.zero_le _,Hd (fun i hi=>by omega),Ht⟩
  case round=>
   obtain⟨k,rfl,hk,HA,HB⟩:=hrel;obtain⟨b0,b1,hT,-,hs⟩:=boxed HB.o HT.o;have Hn:=Hd hT;have Hz:=Hd hs;clear hT hs;by_cases hlt:k<t.nodes.length
   .have HF:=Hd (xY ⟨na,nc,ia,ic⟩ t k wr BD.out hlt (HG.o.mono Hz.o nlr) Hn.o)
    unfold TreeV.val at HF
    cases hfk:dC t k with
    | false=>
      have Hv:=Hd hfk;have HC:=Hd (vE Hl.o (EH hlt hfk));clear hfk
      go_wp2_with (go_at_call 117;refine HF.o.mono ?_;rw[Hv.o];rintro e w2 ⟨rfl,hc⟩;have Ha:=Hd hc;clear hc)
      go_ret;exact⟨zO HC.o.symm,Hz.o.trans (Ha.o.mono Hz.o.size)⟩
    | true=>
      have Hv:=Hd hfk;clear hfk
      go_wp2_with (go_at_call 117;refine HF.o.mono ?_;rw[Hv.o];rintro e w2 ⟨rfl,hc⟩;have Ha:=Hd hc;clear hc)
      go_roundw
      case rel=>
       refine⟨k+1,by go_num,by omega,Hd (fun i hi=>?_),Hd (HB.o.trans (Ha.o.mono (by have:=HB.o.size;simpa using this)))⟩;by_cases e:i=k
       .rw[e];exact Hv.o
       .exact HA.o i (by omega)
      case measure=>simp[intOf];omega
   .obtain rfl:k=t.nodes.length:=by omega
    have Hp:Hid (cD t=true):=Hd (List.all_eq_true.2 fun i hi=>HA.o i (List.mem_range.1 hi));have Hk:Hid (∀i,i<t.nodes.length->∀k∈(t.nd i).kids,0<=k/\k<(i:Int)):=Hd (fun i hi=>yX (HA.o i hi));have HO:∀W,IsTree W ⟨na,nc,ia,ic⟩ t->Calls prog 118 #[.agg #[.slice na t.nodes.length nc,.slice ia t.items.length ic]] W (zD W (aC t)):=fun W h=>uR ⟨na,nc,ia,ic⟩ t W BD.out Hk.o h;have Hq:=Hd HO;clear HO
    cases hor:aC t with
    | false=>
      have He:=Hd hor;have HC:=Hd (tA Hl.o Hp.o hor);clear hor
      go_wp2_with (go_at_call 118;refine(Hq.o _ Hn.o).mono ?_;rw[He.o];rintro e w2 ⟨rfl,hc⟩;have Ha:Hid (Below (w.heap.size+1) (boxT w ⟨na,nc,ia,ic⟩ t) w2):=Hd (HB.o.trans (hc.mono (by have:=HB.o.size;simpa using this)));obtain⟨b02,b12,he,-,ha⟩:=boxed Ha.o HT.o;have Hh:=Hd he;have Hc:=Hd ha;clear hc he ha)
      go_ret;exact⟨zO HC.o.symm,Hc.o⟩
    | true=>
      have He:=Hd hor;have HS:∀W,IsTree W ⟨na,nc,ia,ic⟩ t->Calls prog 119 #[.agg #[.slice na t.nodes.length nc,.slice ia t.items.length ic]] W (zD W (dG t)):=fun W h=>yE ⟨na,nc,ia,ic⟩ t W BD.out Hk.o (tM hor) h;have Hw:=Hd HS;clear HS hor
      cases hsg:dG t with
      | false=>
        have Hr:=Hd hsg;have HC:=Hd (vF Hl.o Hp.o He.o hsg);clear hsg
        go_wp2_with (first
         | (go_at_call 118;refine(Hq.o _ Hn.o).mono ?_;rw[He.o];rintro e w2 ⟨rfl,hc⟩;have Ha:Hid (Below (w.heap.size+1) (boxT w ⟨na,nc,ia,ic⟩ t) w2):=Hd (HB.o.trans (hc.mono (by have:=HB.o.size;simpa using this)));obtain⟨b02,b12,he,-,ha⟩:=boxed Ha.o HT.o;have Hh:=Hd he;have Hc:=Hd ha;clear hc he ha)
         | (go_at_call 119;refine(Hw.o _ Hh.o).mono ?_;rw[Hr.o];rintro e w3 ⟨rfl,hh⟩;have Hb:Hid (Below (w.heap.size+1) (boxT w ⟨na,nc,ia,ic⟩ t) w3):=Hd (Ha.o.trans (hh.mono (by have:=Ha.o.size;simpa using this)));obtain⟨b03,b13,hf,-,hb⟩:=boxed Hb.o HT.o;have Hm:=Hd hf;have Hg:=Hd hb;clear hh hf hb))
        go_ret;exact⟨zO HC.o.symm,Hg.o⟩
      | true=>
        have Hr:=Hd hsg;have HK:=PT RG.out Hl.o Hp.o He.o hsg;have HP:Hid (Choices t):=Hd (fun i hi=>yW HK hi);have HD:∀W,IsTree W ⟨na,nc,ia,ic⟩ t->Calls prog 64 #[.agg #[.slice na t.nodes.length nc,.slice ia t.items.length ic]] W (kS W (aM t)):=fun W h=>gA ⟨na,nc,ia,ic⟩ t W BD.out Hk.o h;have HU:∀W,IsTree W ⟨na,nc,ia,ic⟩ t->Calls prog 65 #[.agg #[.slice na t.nodes.length nc,.slice ia t.items.length ic]] W (kS W (aA t)):=fun W h=>iF ⟨na,nc,ia,ic⟩ t W BD.out HP.o h;have HJ:=Hd (DY Hl.o Hp.o He.o hsg);have Hu:=Hd (IC Hl.o Hp.o He.o hsg);obtain⟨dp,ht⟩:∃dp,aM t=dp:=⟨_,rfl⟩
        obtain⟨z,hz⟩:∃z,aA t=z:=⟨_,rfl⟩
        rw[ht]at HD HJ Hu;rw[hz]at HU Hu;have HE:=Hd HD;have HM:=Hd HU;clear HD HU hsg HK ht hz;by_cases h30:30<dp
        .have Hs:=Hd h30
         go_wp2_with (first
          | (go_at_call 118;refine(Hq.o _ Hn.o).mono ?_;rw[He.o];rintro e w2 ⟨rfl,hc⟩;have Ha:Hid (Below (w.heap.size+1) (boxT w ⟨na,nc,ia,ic⟩ t) w2):=Hd (HB.o.trans (hc.mono (by have:=HB.o.size;simpa using this)));obtain⟨b02,b12,he,-,ha⟩:=boxed Ha.o HT.o;have Hh:=Hd he;have Hc:=Hd ha;clear hc he ha)
          | (go_at_call 119;refine(Hw.o _ Hh.o).mono ?_;rw[Hr.o];rintro e w3 ⟨rfl,hh⟩;have Hb:Hid (Below (w.heap.size+1) (boxT w ⟨na,nc,ia,ic⟩ t) w3):=Hd (Ha.o.trans (hh.mono (by have:=Ha.o.size;simpa using this)));obtain⟨b03,b13,hf,-,hb⟩:=boxed Hb.o HT.o;have Hm:=Hd hf;have Hg:=Hd hb;clear hh hf hb)
          | (go_at_call 64;refine(HE.o _ Hm.o).mono ?_;rintro e w4 ⟨rfl,hn⟩;have Hf:Hid (Below (w.heap.size+1) (boxT w ⟨na,nc,ia,ic⟩ t) w4):=Hd (Hb.o.trans (hn.mono (by have:=Hb.o.size;simpa using this)));obtain⟨b04,b14,hm,-,hd⟩:=boxed Hf.o HT.o;have Hx:=Hd hm;have Hi:=Hd hd;clear hn hm hd))
         go_ret;exact⟨zO (HJ.o Hs.o).symm,Hi.o⟩
        .have Hs:=Hd h30
         by_cases hz:0<=z
         .have HZ:=Hd hz
          go_wp2_with (first
           | (go_at_call 118;refine(Hq.o _ Hn.o).mono ?_;rw[He.o];rintro e w2 ⟨rfl,hc⟩;have Ha:Hid (Below (w.heap.size+1) (boxT w ⟨na,nc,ia,ic⟩ t) w2):=Hd (HB.o.trans (hc.mono (by have:=HB.o.size;simpa using this)));obtain⟨b02,b12,he,-,ha⟩:=boxed Ha.o HT.o;have Hh:=Hd he;have Hc:=Hd ha;clear hc he ha)
           | (go_at_call 119;refine(Hw.o _ Hh.o).mono ?_;rw[Hr.o];rintro e w3 ⟨rfl,hh⟩;have Hb:Hid (Below (w.heap.size+1) (boxT w ⟨na,nc,ia,ic⟩ t) w3):=Hd (Ha.o.trans (hh.mono (by have:=Ha.o.size;simpa using this)));obtain⟨b03,b13,hf,-,hb⟩:=boxed Hb.o HT.o;have Hm:=Hd hf;have Hg:=Hd hb;clear hh hf hb)
           | (go_at_call 64;refine(HE.o _ Hm.o).mono ?_;rintro e w4 ⟨rfl,hn⟩;have Hf:Hid (Below (w.heap.size+1) (boxT w ⟨na,nc,ia,ic⟩ t) w4):=Hd (Hb.o.trans (hn.mono (by have:=Hb.o.size;simpa using this)));obtain⟨b04,b14,hm,-,hd⟩:=boxed Hf.o HT.o;have Hx:=Hd hm;have Hi:=Hd hd;clear hn hm hd)
           | (go_at_call 65;refine(HM.o _ Hx.o).mono ?_;rintro e w5 ⟨rfl,hr⟩;have Hy:Hid (Below (w.heap.size+1) (boxT w ⟨na,nc,ia,ic⟩ t) w5):=Hd (Hf.o.trans (hr.mono (by have:=Hf.o.size;simpa using this)));obtain⟨b05,b15,hp,-,hl⟩:=boxed Hy.o HT.o;have HR:=Hd hp;have Hj:=Hd hl;clear hr hp hl))
          go_ret;exact⟨zO (by rw[Hu.o Hs.o,if_pos HZ.o]),Hj.o⟩
         .have HZ:=Hd hz
          go_wp2_with (first
           | (go_at_call 118;refine(Hq.o _ Hn.o).mono ?_;rw[He.o];rintro e w2 ⟨rfl,hc⟩;have Ha:Hid (Below (w.heap.size+1) (boxT w ⟨na,nc,ia,ic⟩ t) w2):=Hd (HB.o.trans (hc.mono (by have:=HB.o.size;simpa using this)));obtain⟨b02,b12,he,-,ha⟩:=boxed Ha.o HT.o;have Hh:=Hd he;have Hc:=Hd ha;clear hc he ha)
           | (go_at_call 119;refine(Hw.o _ Hh.o).mono ?_;rw[Hr.o];rintro e w3 ⟨rfl,hh⟩;have Hb:Hid (Below (w.heap.size+1) (boxT w ⟨na,nc,ia,ic⟩ t) w3):=Hd (Ha.o.trans (hh.mono (by have:=Ha.o.size;simpa using this)));obtain⟨b03,b13,hf,-,hb⟩:=boxed Hb.o HT.o;have Hm:=Hd hf;have Hg:=Hd hb;clear hh hf hb)
           | (go_at_call 64;refine(HE.o _ Hm.o).mono ?_;rintro e w4 ⟨rfl,hn⟩;have Hf:Hid (Below (w.heap.size+1) (boxT w ⟨na,nc,ia,ic⟩ t) w4):=Hd (Hb.o.trans (hn.mono (by have:=Hb.o.size;simpa using this)));obtain⟨b04,b14,hm,-,hd⟩:=boxed Hf.o HT.o;have Hx:=Hd hm;have Hi:=Hd hd;clear hn hm hd)
           | (go_at_call 65;refine(HM.o _ Hx.o).mono ?_;rintro e w5 ⟨rfl,hr⟩;have Hy:Hid (Below (w.heap.size+1) (boxT w ⟨na,nc,ia,ic⟩ t) w5):=Hd (Hf.o.trans (hr.mono (by have:=Hf.o.size;simpa using this)));obtain⟨b05,b15,hp,-,hl⟩:=boxed Hy.o HT.o;have HR:=Hd hp;have Hj:=Hd hl;clear hr hp hl))
          go_ret;exact⟨zO (by rw[Hu.o Hs.o,if_neg (by have:=HZ.o;omega)]),Hj.o⟩
theorem DO(v:TreeV)(t:Tr)(w:World)(bd:Bd t)(rg:Rg t)(hg:GV w)(h:IsTree w v t) :
 Calls prog 78 #[v.val t] w (kS w (aD t)):=BJ rg▸xW v t w bd rg hg h
def idxI(l:List Int)(n:Int):Int:=first (fun i=>l[i]?==some n) l.length 0
theorem BU(l:List Int)(n:Int):decide (0<=idxI l n)=l.contains n:=by
 rw[Bool.eq_iff_iff,decide_eq_true_eq,List.contains_iff_mem];unfold idxI;have h:=gF (fun i=>l[i]?==some n) l.length;rw[h,Bool.eq_false_iff,Ne,List.all_eq_true];constructor
 .intro hh
  apply Classical.byContradiction;intro hm;apply hh;intro i hi;have hi:=List.mem_range.1 hi;cases hx:(l[i]?==some n)with
  |false=>rfl
  | true=>
    rw[beq_iff_eq]at hx;exact absurd (List.mem_of_getElem? hx) hm
 .intro hm hh
  obtain⟨i,hi,rfl⟩:=List.getElem_of_mem hm;have:=hh i (List.mem_range.2 hi);simp[hi]at this
theorem uK(a:Option Addr)(c:Nat)(l:List Int)(n:Int)(w:World)(hm:l.length<=1000000000)(h:U8s w a c l) :
 Calls prog 196 #[.slice a l.length c,.int .u8 n] w fun e w'=>e=.returned (intV (idxI l n))/\w=w':=by
 have HR:=Hd h;clear h;go_enter func196,ntmps196;go_wp2
 go_loop [8] (fun i=>∃k:Nat,k<=l.length/\i=.int .i64 k/\Hid (idxI l n=first (fun i=>l[i]?==some n) l.length k)) (fun i=>l.length-(intOf i).toNat)
 case atStart=>exact⟨0,Nat.zero_le _,rfl,Hd rfl⟩
 case round=>
  obtain⟨k,hk,rfl,HA⟩:=hrel;by_cases hlt:k<l.length
  .obtain⟨b,o,rfl,hb,hc⟩:=U8s.at HR.o hlt
   obtain⟨x,hx⟩:∃x,l[k]=x:=⟨_,rfl⟩
   rw[hx]at hc;have HX:=Hd hx;clear hx;cases he:(n==x)with
   | true=>
     have HE:=Hd he;go_wp2;go_ret;exact⟨zO (by rw[HA.o,zV hlt (by have:=HE.o;simp at this;simp[hlt,HX.o,this])]),rfl⟩
   | false=>
     have HE:=Hd he;go_wp2
     go_round
     case rel=>exact⟨k+1,by omega,by go_num,Hd (by rw[HA.o,bW hlt (by have:=HE.o;simp at this;simp[hlt,HX.o];exact fun h=>this h.symm)])⟩
     case measure=>simp[intOf];omega
  .go_wp2
   go_ret;exact⟨zO (by rw[HA.o,bS (by omega)]),rfl⟩
theorem pB(a:Option Addr)(c:Nat)(l:List Int)(n:Int)(w:World)(hm:l.length<=1000000000)(h:U8s w a c l) :
 Calls prog 163 #[.slice a l.length c,.int .u8 n] w fun e w'=>e=.returned (.bool (l.contains n))/\w=w':=by
 have HX:=Hd (BU l n);have HC:=Hd (uK a c l n w hm h);clear h;go_enter func163,ntmps163
 go_wp2_with (go_at_call 196;refine HC.o.mono ?_;rintro e w' ⟨rfl,rfl⟩)
 go_ret;exact⟨zc (by rw[<-HX.o]),rfl⟩
theorem xN(a:Option Addr)(c:Nat)(l:List Int)(n:Int)(w:World)(hm:l.length<=1000000000)(h:Ints w a c l) :
 Calls prog 126 #[.slice a l.length c,intV n] w fun e w'=>e=.returned (intV (idxI l n))/\w=w':=by
 have HR:=Hd h;clear h;go_enter func126,ntmps126;go_wp2
 go_loop [8] (fun i=>∃k:Nat,k<=l.length/\i=.int .i64 k/\Hid (idxI l n=first (fun i=>l[i]?==some n) l.length k)) (fun i=>l.length-(intOf i).toNat)
 case atStart=>exact⟨0,Nat.zero_le _,rfl,Hd rfl⟩
 case round=>
  obtain⟨k,hk,rfl,HA⟩:=hrel;by_cases hlt:k<l.length
  .obtain⟨b,o,rfl,hb,hc⟩:=Ints.at HR.o hlt
   obtain⟨x,hx⟩:∃x,l[k]=x:=⟨_,rfl⟩
   rw[hx]at hc;have HX:=Hd hx;clear hx;cases he:(n==x)with
   | true=>
     have HE:=Hd he;go_wp2;go_ret;exact⟨zO (by rw[HA.o,zV hlt (by have:=HE.o;simp at this;simp[hlt,HX.o,this])]),rfl⟩
   | false=>
     have HE:=Hd he;go_wp2
     go_round
     case rel=>exact⟨k+1,by omega,by go_num,Hd (by rw[HA.o,bW hlt (by have:=HE.o;simp at this;simp[hlt,HX.o];exact fun h=>this h.symm)])⟩
     case measure=>simp[intOf];omega
  .go_wp2
   go_ret;exact⟨zO (by rw[HA.o,bS (by omega)]),rfl⟩
theorem rD(a:Option Addr)(c:Nat)(l:List Int)(n:Int)(w:World)(hm:l.length<=1000000000)(h:Ints w a c l) :
 Calls prog 84 #[.slice a l.length c,intV n] w fun e w'=>e=.returned (.bool (l.contains n))/\w=w':=by
 have HX:=Hd (BU l n);have HC:=Hd (xN a c l n w hm h);clear h;go_enter func84,ntmps84
 go_wp2_with (go_at_call 126;refine HC.o.mono ?_;rintro e w' ⟨rfl,rfl⟩)
 go_ret;exact⟨zc (by rw[<-HX.o]),rfl⟩
theorem cH(n:Int)(w:World):Calls prog 81 #[.int .u8 n] w fun e w'=>e=.returned (.bool (bD n))/\w=w':=by
 go_enter func81,ntmps81;go_wp2
 all_goals
  go_ret;refine⟨zc ?_,rfl⟩
  (try simp_all[bD])<;>(try omega)
theorem FJ(n d:Int)(w:World):Calls prog 124 #[.int .u8 n,.int .u8 d] w (zD w (suits n d)):=by
 have HC:=Hd (pB (some ⟨w.heap.size,0,none⟩) 4 [40,43,20,34] d (w.alloc (.cells #[.int .u8 40,.int .u8 43,.int .u8 20,.int .u8 34] 5)) (by decide) (Row.made w [.int .u8 40,.int .u8 43,.int .u8 20,.int .u8 34] 5 rfl nlr));go_enter func124,ntmps124;by_cases h3:n=3
 .subst h3
  go_wp2_with (go_at_call 163;refine HC.o.mono ?_;rintro e w' ⟨rfl,rfl⟩)
  go_ret;exact⟨zc (by rw[Bool.eq_iff_iff];simp[suits,or_assoc]),by go_grown⟩
 .go_wp2
  all_goals
   go_ret;refine⟨zc ?_,brf⟩
   (try simp_all[suits])<;>(try omega)
structure ProgV where
 s:Nat
 v:TreeV
 aa:Option Addr
 ac:Nat
 da:Option Addr
 dc:Nat
abbrev ProgV.ptr(p:ProgV):Value:=.pointer (some ⟨p.s,0,none⟩)
structure IsProg (w:World) (p:ProgV) (t:Tr) (ups decl:List Int):Prop where
 c0:w.cell? ⟨p.s,0,none⟩=some (.slice p.v.na t.nodes.length p.v.nc)
 c1:w.cell? ⟨p.s,1,none⟩=some (.slice p.v.ia t.items.length p.v.ic)
 c2:w.cell? ⟨p.s,2,none⟩=some (.slice p.aa t.nodes.length p.ac)
 c3:w.cell? ⟨p.s,3,none⟩=some (.slice p.da t.nodes.length p.dc)
 tree:IsTree w p.v t
 ups:Row 1 w p.aa t.nodes.length p.ac (zq ups)
 decl:Row 1 w p.da t.nodes.length p.dc (zq decl)
theorem IsProg.upsLen{w:World}{p:ProgV}{t:Tr}{ups decl:List Int}(h:IsProg w p t ups decl):ups.length=t.nodes.length:=by
 have:=h.ups.1;simpa using this
theorem IsProg.declLen{w:World}{p:ProgV}{t:Tr}{ups decl:List Int}(h:IsProg w p t ups decl):decl.length=t.nodes.length:=by
 have:=h.decl.1;simpa using this
theorem IsProg.lt{w:World}{p:ProgV}{t:Tr}{ups decl:List Int}(h:IsProg w p t ups decl):p.s<w.heap.size:=World.block_lt_of_cell? w _ h.c0
theorem IsProg.mono{w w':World}{p:ProgV}{t:Tr}{ups decl:List Int}{B:Nat}(h:IsProg w p t ups decl)(hb:Below B w w')(hB:w.heap.size<=B):IsProg w' p t ups decl:=by
 have hl:=h.lt;have hc:∀i,w'.cell? ⟨p.s,i,none⟩=w.cell? ⟨p.s,i,none⟩:=fun i=>hb.cell (p:=⟨p.s,i,none⟩) (by show p.s<B;omega);exact⟨(hc 0).trans h.c0,(hc 1).trans h.c1,(hc 2).trans h.c2,(hc 3).trans h.c3,h.tree.mono hb hB,Row.mono h.ups hb hB,Row.mono h.decl hb hB⟩
theorem IsProg.upAt{w:World}{p:ProgV}{t:Tr}{ups decl:List Int}(h:IsProg w p t ups decl){i:Nat}(hi:i<t.nodes.length) :
 ∃b o,p.aa=some ⟨b,o,none⟩/\b<w.heap.size/\w.cell? ⟨b,o+i,none⟩=some (intV (ups.getD i 0)):=by
 have hl:=h.upsLen;have hr:Ints w p.aa p.ac ups:=by have:=h.ups;rw[<-hl]at this;exact this
 obtain⟨b,o,e,hb,hc⟩:=Ints.at hr (i:=i) (by omega);exact⟨b,o,e,hb,by rw[hc,List.getD_eq_getElem?_getD,List.getElem?_eq_getElem (by omega)];rfl⟩
def qQ(t:Tr)(ups:List Int)(i:Nat):Bool:=(t.nd i).kind==34&&(ups.getD i 0 != -1&&(t.nd (ups.getD i 0)).kind==42)
def oE(t:Tr)(ups:List Int)(i:Nat):Bool:=tB (t.nd i).kind||qQ t ups i
theorem uM(p:ProgV)(t:Tr)(ups decl:List Int)(i:Nat)(w:World)(bd:Bd t)(hi:i<t.nodes.length)(hu : -1<=ups.getD i 0/\ups.getD i 0<(t.nodes.length:Int))(h:IsProg w p t ups decl) :
 Calls prog 51 #[p.ptr,intV i] w fun e w'=>e=.returned (.bool (qQ t ups i))/\w=w':=by
 have hj:=bd.n;obtain⟨c0,c1,c2,c3,hT,-,-⟩:=id h;obtain⟨bu,ou,eu,hh,cu⟩:=h.upAt hi;obtain⟨b,o,ka,kc,ea,hb,n0,-⟩:=hT.nodes.at hi;have hf:=t.nd_at hi;obtain⟨s,v,aa,ac,da,dc⟩:=p;obtain⟨na,nc,ia,ic⟩:=v;simp only at c0 c1 c2 c3 eu ea;subst eu;subst ea;obtain⟨u,hd⟩:∃u,ups.getD i 0=u:=⟨_,rfl⟩
 obtain⟨k,hk⟩:∃k,t.nodes[i].kind=k:=⟨_,rfl⟩
 rw[hd]at cu hu;rw[hk]at n0;have hp:qQ t ups i=(k==34&&(u != -1&&(t.nd u).kind==42)):=by unfold qQ;rw[hf,hk,hd]
 have HP:=Hd hp;have HT:=Hd hT;clear h hT hd hk hp bd;cases hk34:(k==34)with
 | false=>
   have HK:=Hd hk34;go_enter func51,ntmps51;go_wp2;go_ret;exact⟨zc (by rw[HP.o,HK.o];rfl),rfl⟩
 | true=>
   have HK:=Hd hk34;by_cases hu1:u = -1
   .have ha:(u != -1)=false:=by simpa using hu1
    have HU:=Hd ha;subst hu1;go_enter func51,ntmps51;go_wp2;go_ret;exact⟨zc (by rw[HP.o,HK.o,HU.o];rfl),rfl⟩
   .have ha:(u != -1)=true:=by simpa using hu1
    have HU:=Hd ha;obtain⟨m,rfl⟩:=Int.eq_ofNat_of_zero_le (show 0<=u by omega);have hm:m<t.nodes.length:=by omega
    obtain⟨b',o',ka',kc',e',hg,m0,-⟩:=HT.o.nodes.at hm;simp only[Option.some.injEq,Addr.mk.injEq,and_true]at e';obtain⟨rfl,rfl⟩:=e';have he:=t.nd_at hm;obtain⟨k2,hc⟩:∃k,t.nodes[m].kind=k:=⟨_,rfl⟩
    rw[hc]at m0;have Ha:Hid (qQ t ups i=(k2==42)):=Hd (by rw[HP.o,HK.o,ha,he,hc];simp);clear hc he HP;go_enter func51,ntmps51;go_wp2;all_goals go_ret
    exact⟨zc Ha.o.symm,rfl⟩
theorem iD(p:ProgV)(t:Tr)(ups decl:List Int)(i:Nat)(w:World)(bd:Bd t)(hi:i<t.nodes.length)(hu : -1<=ups.getD i 0/\ups.getD i 0<(t.nodes.length:Int))(h:IsProg w p t ups decl) :
 Calls prog 33 #[p.ptr,intV i] w fun e w'=>e=.returned (.bool (oE t ups i))/\w=w':=by
 have hc:=bd.n;have HX:=Hd (uM p t ups decl i w bd hi hu h);obtain⟨c0,c1,c2,c3,hT,-,-⟩:=id h;obtain⟨b,o,ka,kc,ea,hb,n0,-⟩:=hT.nodes.at hi;have ha:=t.nd_at hi;obtain⟨s,v,aa,ac,da,dc⟩:=p;obtain⟨na,nc,ia,ic⟩:=v;simp only at c0 c1 c2 c3 ea;subst ea;obtain⟨k,hk⟩:∃k,t.nodes[i].kind=k:=⟨_,rfl⟩
 obtain⟨y,hy⟩:∃y,qQ t ups i=y:=⟨_,rfl⟩
 rw[hk]at n0;have hp:oE t ups i=(tB k||y):=by unfold oE;rw[ha,hk,hy]
 rw[hy]at HX;have HP:=Hd hp;clear h hT hk hp bd hy;go_enter func33,ntmps33
 go_wp2_with (go_at_call 51;refine HX.o.mono ?_;rintro e w' ⟨rfl,rfl⟩)
 all_goals
  go_ret;refine⟨zc ?_,rfl⟩;rw[HP.o]
  (try simp_all[tB])
def lowF(t:Tr):Nat->Int->Int
 |0,i=>i
 | f+1,i=>match (t.nd i).kids with
   | []=>i
   |k::_=>lowF t f k
def low(t:Tr)(i:Int):Int:=lowF t (i+1).toNat i
def gI(t:Tr)(ups:List Int)(node other:Nat):Bool:=decide (other<node)&&((t.nd other).text==(t.nd node).text&&((t.nd other).kind==34||oE t ups other))
theorem xT(p:ProgV)(t:Tr)(ups decl:List Int)(i node b1 b2:Nat)(w:World)(bd:Bd t)(hi:i<t.nodes.length)(hn:node<t.nodes.length)(hu : -1<=ups.getD i 0/\ups.getD i 0<(t.nodes.length:Int))(h:IsProg w p t ups decl)
 (h1:w.cell? ⟨b1,0,none⟩=some p.ptr)(h2:w.cell? ⟨b2,0,none⟩=some (intV node)) :
 Calls prog 122 #[intV i,.pointer (some ⟨b1,0,none⟩),.pointer (some ⟨b2,0,none⟩)] w (zD w (gI t ups node i)):=by
 have he:prog.follows .mixedOrders=true:=by kernel_rfl
 have hx:=bd.n;have hD:∀W,Below w.heap.size w W->Calls prog 33 #[p.ptr,intV i] W fun e w'=>e=.returned (.bool (oE t ups i))/\W=w':=fun W hW=>iD p t ups decl i W bd hi hu (h.mono hW nlr);have hq:=h.lt;have hm:=World.block_lt_of_cell? w _ h1;have ho:=World.block_lt_of_cell? w _ h2;simp only at hm ho;obtain⟨c0,c1,c2,c3,hT,-,-⟩:=id h;obtain⟨b,o,ka,kc,ea,hb,m0,m1,m2,m3,m4,-⟩:=hT.nodes.at hi;obtain⟨b',o',ka',kc',e',hr,n0,n1,-,-,-,-⟩:=hT.nodes.at hn;have hj:=t.nd_at hi;have hl:=t.nd_at hn;obtain⟨s,v,aa,ac,da,dc⟩:=p;obtain⟨na,nc,ia,ic⟩:=v;simp only at c0 c1 c2 c3 ea e' h1 hq;subst ea;simp only[Option.some.injEq,Addr.mk.injEq,and_true]at e';obtain⟨rfl,rfl⟩:=e';obtain⟨d,hd⟩:∃d,t.nodes[i]=d:=⟨_,rfl⟩
 obtain⟨g,hg⟩:∃g,t.nodes[node]=g:=⟨_,rfl⟩
 rw[hd]at m0 m1 m2 m3 m4;rw[hg]at n1;obtain⟨dc',hf⟩:∃x,oE t ups i=x:=⟨_,rfl⟩
 rw[hf]at hD;have hp:gI t ups node i=(decide (i<node)&&(d.text==g.text&&(d.kind==34||dc'))):=by unfold gI;rw[hj,hl,hd,hg,hf]
 have HP:=Hd hp;have HD:=Hd hD;have hs:s<w.heap.size+1:=by omega
 have ht:b1<w.heap.size+1:=by omega
 have hv:b2<w.heap.size+1:=by omega
 have hw:b<w.heap.size+1:=by omega
 clear h hT hd hg hj hl hp hD hf bd n0 c1 c2 c3 hu;cases hlt:decide (i<node)with
 | false=>
   have hh:decide ((i:Int)<(node:Int))=false:=decide_eq_false (by have:=of_decide_eq_false hlt;omega);have HL:=Hd hlt;go_enter func122,ntmps122;go_wp2;refine N.region_JTm 26 he (by kernel_rfl) (by kernel_rfl) rfl (by kernel_rfl) (by kernel_rfl) (fun Wz=>Below (boxD w ka kc d).heap.size (boxD w ka kc d) Wz) (brf.drew) ?_
   iterate 26 ((first|(refine N.WalkT.cons undef (N.StepP.skip rfl) ?_)|(refine N.WalkT.cons ?_ (N.StepP.pure rfl ?_) ?_;rotate_left;(intro W hJ;obtain⟨ha,hc⟩:=bcell hJ;go_simp;rfl)));simp only[N.pz])
   refine N.WalkT.nil fun W hJ=>?_;go_wp2;go_ret;exact⟨zc (by rw[HP.o,HL.o];rfl),((Below.refl _ w).alloc nlr _).trans (hJ.mono (by simp))⟩
 | true=>
   have hh:decide ((i:Int)<(node:Int))=true:=decide_eq_true (by have:=of_decide_eq_true hlt;omega);have HL:=Hd hlt;cases htx:(d.text==g.text)with
   | false=>
     have HX:=Hd htx;go_enter func122,ntmps122;go_wp2;refine N.region_JTm 26 he (by kernel_rfl) (by kernel_rfl) rfl (by kernel_rfl) (by kernel_rfl) (fun Wz=>Below (boxD w ka kc d).heap.size (boxD w ka kc d) Wz) (brf.drew) ?_
     iterate 26 ((first|(refine N.WalkT.cons undef (N.StepP.skip rfl) ?_)|(refine N.WalkT.cons ?_ (N.StepP.pure rfl ?_) ?_;rotate_left;(intro W hJ;obtain⟨ha,hc⟩:=bcell hJ;go_simp;rfl)));simp only[N.pz])
     refine N.WalkT.nil fun W hJ=>?_;go_wp2;go_ret;exact⟨zc (by rw[HP.o,HL.o,HX.o];rfl),((Below.refl _ w).alloc nlr _).trans (hJ.mono (by simp))⟩
   | true=>
     have HX:=Hd htx;cases hk:(d.kind==34)with
     | true=>
       have HK:=Hd hk;go_enter func122,ntmps122;go_wp2;refine N.region_JTm 26 he (by kernel_rfl) (by kernel_rfl) rfl (by kernel_rfl) (by kernel_rfl) (fun Wz=>Below (boxD w ka kc d).heap.size (boxD w ka kc d) Wz) (brf.drew) ?_
       iterate 26 ((first|(refine N.WalkT.cons undef (N.StepP.skip rfl) ?_)|(refine N.WalkT.cons ?_ (N.StepP.pure rfl ?_) ?_;rotate_left;(intro W hJ;obtain⟨ha,hc⟩:=bcell hJ;go_simp;rfl)));simp only[N.pz])
       refine N.WalkT.nil fun W hJ=>?_;go_wp2;go_ret;exact⟨zc (by rw[HP.o,HL.o,HX.o,HK.o];rfl),((Below.refl _ w).alloc nlr _).trans (hJ.mono (by simp))⟩
     | false=>
       have HK:=Hd hk;go_enter func122,ntmps122;go_wp2;refine N.region_JTm 26 he (by kernel_rfl) (by kernel_rfl) rfl (by kernel_rfl) (by kernel_rfl) (fun Wz=>Below (boxD w ka kc d).heap.size (boxD w ka kc d) Wz) (brf.drew) ?_
       iterate 24 (refine N.WalkT.cons ?_ (N.StepP.pure rfl ?_) ?_;rotate_left;(intro W hJ;obtain⟨ha,hc⟩:=bcell hJ;go_simp;rfl);simp only[N.pz])
       refine N.WalkT.cons (.bool dc') (N.StepP.call (f:=33) (args:=#[.pointer (some ⟨s,0,none⟩),intV i]) rfl ?hG4_24 ?cG4_24) ?rG4_24;case hG4_24=>intro W hJ;obtain⟨ha,hc⟩:=bcell hJ;go_simp;try rfl
       case cG4_24=>intro W hJ;(refine(HD.o W (((Below.refl _ w).alloc nlr _).trans (hJ.mono (by simp)))).mono ?_;rintro e w' ⟨rfl,rfl⟩;exact⟨rfl,hJ⟩)
       simp only[N.pz];refine N.WalkT.cons ?_ (N.StepP.pure rfl ?_) ?_;rotate_left;(intro W hJ;obtain⟨ha,hc⟩:=bcell hJ;go_simp;rfl);simp only[N.pz];refine N.WalkT.nil fun W hJ=>?_;go_wp2;go_ret;exact⟨zc (by rw[HP.o,HL.o,HX.o,HK.o];simp),((Below.refl _ w).alloc nlr _).trans (hJ.mono (by simp))⟩
def LU(t:Tr)(ups:List Int):Prop:=∀i,i<t.nodes.length -> -1<=ups.getD i 0/\ups.getD i 0<(t.nodes.length:Int)
def nR(t:Tr)(l:List Int):Prop:=∀x∈l,0<=x/\x<(t.nodes.length:Int)
theorem pE(p:ProgV)(t:Tr)(ups decl:List Int)(node b1 b2:Nat)(a:Option Addr)(c:Nat)(l:List Int)(w:World)(bd:Bd t)(hn:node<t.nodes.length)(hu:LU t ups)(hl:nR t l)(hll:l.length<=1000000)(h:IsProg w p t ups decl)(hr:Ints w a c l)
 (h1:w.cell? ⟨b1,0,none⟩=some p.ptr)(h2:w.cell? ⟨b2,0,none⟩=some (intV node)) :
 Calls prog 159 #[.slice a l.length c,.func (.func 122) #[] #[.pointer (some ⟨b1,0,none⟩),.pointer (some ⟨b2,0,none⟩)]] w (kS w (idxP l fun j=>gI t ups node j.toNat)):=by
 have hd:=World.block_lt_of_cell? w _ h1;have he:=World.block_lt_of_cell? w _ h2;simp only at hd he;have HC:=Hd (fun(i:Nat) (W:World) (hi:i<t.nodes.length) (hW:Below w.heap.size w W)=>xT p t ups decl i node b1 b2 W bd hi hn (hu i hi) (h.mono hW nlr) ((hW.cell (p:=⟨b1,0,none⟩) hd).trans h1) ((hW.cell (p:=⟨b2,0,none⟩) he).trans h2));have HL:=Hd hl;have HR:=Hd hr;obtain⟨q,hq⟩:∃q:Int->Bool,q=fun j=>gI t ups node j.toNat:=⟨_,rfl⟩
 rw[<-hq];have HQ:=Hd hq;clear h hr hl hu h1 h2 bd hd he hq;go_enter func159,ntmps159;go_wp2
 go_loopw [8] (fun t8 wr=>∃k:Nat,t8=.int .i64 k/\k<=l.length/\Hid (idxP l q=first (fun i=>(l[i]?.map q).getD false) l.length k)/\Hid (Below w.heap.size w wr)) (fun t8 _=>l.length-(intOf t8).toNat)
 case atStart=>exact⟨0,rfl,Nat.zero_le _,Hd rfl,Hd brf⟩
 case round=>
  obtain⟨k,rfl,hk,HA,HB⟩:=hrel;by_cases hlt:k<l.length
  .obtain⟨b,o,rfl,hb,hc⟩:=Ints.at (HR.o.mono HB.o nlr) hlt
   have hx:=HL.o _ (List.getElem_mem hlt);have hg:(l[k]?.map q).getD false=q l[k]:=by simp[hlt]
   obtain⟨x,hj⟩:∃x,l[k]=x:=⟨_,rfl⟩
   rw[hj]at hc hx hg;obtain⟨hm,ho⟩:=hx;obtain⟨m,rfl⟩:=Int.eq_ofNat_of_zero_le hm;have hf:=HC.o m wr (by omega) HB.o;have hh:gI t ups node m=q (m:Int):=by rw[HQ.o];simp
   rw[hh]at hf;have Hb:=Hd hf;obtain⟨y,hy⟩:∃y,q (m:Int)=y:=⟨_,rfl⟩
   have HY:=Hd hy;have HG:=Hd (hg.trans hy);clear hf hh hg hy hj
   cases y with
   | true=>
     go_wp2_with (go_at_call 122;refine Hb.o.mono ?_;rw[HY.o];rintro e w' ⟨rfl,ha⟩;have Ha:Hid (Below w.heap.size w w'):=Hd (HB.o.trans (ha.mono HB.o.size));clear ha)
     go_ret;exact⟨zO (by rw[HA.o];exact(zV hlt HG.o).symm),Ha.o⟩
   | false=>
     go_wp2_with (go_at_call 122;refine Hb.o.mono ?_;rw[HY.o];rintro e w' ⟨rfl,ha⟩;have Ha:Hid (Below w.heap.size w w'):=Hd (HB.o.trans (ha.mono HB.o.size));clear ha)
     go_roundw
     case rel=>exact⟨k+1,by go_num,by omega,Hd (by rw[HA.o];exact bW hlt HG.o),Ha⟩
     case measure=>simp[intOf];omega
  .go_wp2
   go_ret;exact⟨zO (by rw[HA.o];exact(bS (by omega)).symm),HB.o⟩
theorem lN(p:ProgV)(t:Tr)(ups decl:List Int)(node b1 b2:Nat)(a:Option Addr)(c:Nat)(l:List Int)(w:World)(bd:Bd t)(hn:node<t.nodes.length)(hu:LU t ups)(hl:nR t l)(hll:l.length<=1000000)(h:IsProg w p t ups decl)(hr:Ints w a c l)
 (h1:w.cell? ⟨b1,0,none⟩=some p.ptr)(h2:w.cell? ⟨b2,0,none⟩=some (intV node)) :
 Calls prog 121 #[.slice a l.length c,.func (.func 122) #[] #[.pointer (some ⟨b1,0,none⟩),.pointer (some ⟨b2,0,none⟩)]] w (zD w (l.any fun j=>gI t ups node j.toNat)):=by
 rw[<-vM];have HC:=Hd (pE p t ups decl node b1 b2 a c l w bd hn hu hl hll h hr h1 h2);clear h hr h1 h2 bd hu hl;go_enter func121,ntmps121
 go_wp2_with (go_at_call 159;refine HC.o.mono ?_;rintro e w' ⟨rfl,ha⟩;have Ha:=Hd ha;clear ha)
 go_ret;exact⟨rfl,Ha.o⟩
def yN(t:Tr)(ups:List Int)(node:Nat):List Int:=
 if (ups.getD node 0 != -1&&(t.nd node).kind==34)=true then (t.nd (ups.getD node 0)).kids else if (ups.getD node 0 == -1&&oE t ups node)=true then t.items else []
def eI(t:Tr)(ups:List Int)(node:Nat):Bool:=(yN t ups node).any fun j=>gI t ups node j.toNat
abbrev fC(w:World)(p:Value)(n:Int):World:=(w.alloc (.cells #[p] 82)).alloc (.cells #[intV n] 3)
theorem uN(p:ProgV)(t:Tr)(ups decl:List Int)(node:Nat)(w:World)(bd:Bd t)(hn:node<t.nodes.length)(hu:LU t ups)(hkid:∀i,i<t.nodes.length->nR t (t.nd i).kids)(hit:nR t t.items)(h:IsProg w p t ups decl) :
 Calls prog 80 #[p.ptr,intV node] w (zD w (eI t ups node)):=by
 have hB:prog.follows .mixedOrders=true:=by kernel_rfl
 have hC:=bd.n;have hi:Below w.heap.size w (fC w p.ptr node):=(brf.alloc nlr _).alloc (by simp) _
 have HC:∀(a:Option Addr) (c:Nat) (l:List Int) (W:World),nR t l->l.length<=1000000->Ints w a c l->Below (fC w p.ptr node).heap.size (fC w p.ptr node) W ->
  Calls prog 121 #[.slice a l.length c,.func (.func 122) #[] #[.pointer (some ⟨w.heap.size,0,none⟩),.pointer (some ⟨w.heap.size+1,0,none⟩)]] W (zD W (l.any fun j=>gI t ups node j.toNat)):=by
  intro a c l W hl hs hr hW;have hh:=hi.trans (hW.mono (by simp;omega));refine lN p t ups decl node _ _ a c l W bd hn hu hl hs (h.mono hh nlr) (hr.mono hh nlr) ?_ ?_
  .exact(hW.cell (p:=⟨w.heap.size,0,none⟩) (by simp;omega)).trans (by simp)
  .exact(hW.cell (p:=⟨w.heap.size+1,0,none⟩) (by simp)).trans (by simp)
 have Hb:=Hd HC;have Hc:∀W,Below w.heap.size w W->Calls prog 33 #[p.ptr,intV node] W fun e w'=>e=.returned (.bool (oE t ups node))/\W=w':=fun W hW=>iD p t ups decl node W bd hn (hu node hn) (h.mono hW nlr);have ht:=h.lt;have hz:=hu node hn;have hq:=bd.i;obtain⟨c0,c1,c2,c3,hT,-,-⟩:=id h;have HI:=Hd hT.items;have Hf:=Hd hit;have He:=Hd hkid;have BD:=Hd bd;have HT:=Hd hT;obtain⟨b,o,ka,kc,ea,hb,n0,-⟩:=hT.nodes.at hn;obtain⟨bu,ou,eu,hA,cu⟩:=h.upAt hn;have ho:=t.nd_at hn;obtain⟨s,v,aa,ac,da,dc⟩:=p;obtain⟨na,nc,ia,ic⟩:=v;simp only at c0 c1 c2 c3 ea eu ht HI;subst ea;subst eu;obtain⟨k,hk⟩:∃k,t.nodes[node].kind=k:=⟨_,rfl⟩
 obtain⟨u,hf⟩:∃u,ups.getD node 0=u:=⟨_,rfl⟩
 obtain⟨y,hy⟩:∃y,oE t ups node=y:=⟨_,rfl⟩
 rw[hk]at n0;rw[hf]at cu hz;rw[hy]at Hc
 have hP:eI t ups node=(if (u != -1&&k==34)=true then (t.nd u).kids else if (u == -1&&y)=true then t.items else []).any fun j=>gI t ups node j.toNat:=by
  unfold eI yN;rw[hf,ho,hk,hy]
 have HP:=Hd hP;have HD:=Hd Hc;have l1:s<w.heap.size+1:=by omega
 have l2:s<w.heap.size+1+1:=by omega
 have l3:b<w.heap.size+1:=by omega
 have l4:b<w.heap.size+1+1:=by omega
 have l5:bu<w.heap.size+1:=by omega
 have l6:bu<w.heap.size+1+1:=by omega
 clear HC Hc h hT hit hkid bd hk hf hy hP hi hu ho;by_cases hu1:u = -1
 .subst hu1
  cases y with
  | true=>
    go_enter func80,ntmps80;go_wp2
    go_quiet (fail)
    go_wp2
    go_quiet (fail)
    go_wp2_with (first
     | (go_at_call 33;go_loud (refine(HD.o _ (by repeat (first|exact brf|refine below_drewN ?_ _|refine Below.drew ?_|refine Below.alloc ?_ (by simp) _))).mono ?_;rintro e w1 ⟨rfl,rfl⟩))
     | (go_at_call 121;go_loud (refine(Hb.o ia ic t.items _ Hf.o hq HI.o (by repeat (first|exact brf|refine below_drewN ?_ _|refine Below.drew ?_|refine Below.alloc ?_ (by simp) _))).mono ?_;rintro e w1 ⟨rfl,ha⟩;have Ha:Hid (Below w.heap.size w w1):=Hd (Below.trans (by repeat (first|exact brf|refine below_drewN ?_ _|refine Below.drew ?_|refine Below.alloc ?_ (by simp) _)) (ha.mono (by simp;omega)));clear ha)))
    go_ret;exact⟨zc (by rw[HP.o];rfl),Ha.o⟩
  | false=>
    go_enter func80,ntmps80;go_wp2
    go_quiet (fail)
    go_wp2
    go_quiet (fail)
    go_wp2_with (first
     | (go_at_call 33;go_loud (refine(HD.o _ (by repeat (first|exact brf|refine below_drewN ?_ _|refine Below.drew ?_|refine Below.alloc ?_ (by simp) _))).mono ?_;rintro e w1 ⟨rfl,rfl⟩))
     | (go_at_call 121;go_loud (refine(Hb.o none 0 [] _ (fun x hx=>by cases hx) (by simp) ⟨rfl,nlr,fun _=>rfl,.inl rfl⟩ (by repeat (first|exact brf|refine below_drewN ?_ _|refine Below.drew ?_|refine Below.alloc ?_ (by simp) _))).mono ?_;rintro e w1 ⟨rfl,ha⟩;have Ha:Hid (Below w.heap.size w w1):=Hd (Below.trans (by repeat (first|exact brf|refine below_drewN ?_ _|refine Below.drew ?_|refine Below.alloc ?_ (by simp) _)) (ha.mono (by simp;omega)));clear ha)))
    go_ret;exact⟨zc (by rw[HP.o];rfl),Ha.o⟩
 .have hv:(u != -1)=true:=by simpa using hu1
  have hw:(u == -1)=false:=by simpa using hu1
  have Hj:=Hd hv;have Hk:=Hd hw;obtain⟨m,rfl⟩:=Int.eq_ofNat_of_zero_le (show 0<=u by omega);have hm:m<t.nodes.length:=by omega
  cases hk34:(k==34)with
  | false=>
    have HK:=Hd hk34;go_enter func80,ntmps80;go_wp2
    go_quiet (fail)
    go_wp2
    go_quiet (fail)
    go_wp2_with (go_at_call 121;go_loud (refine(Hb.o none 0 [] _ (fun x hx=>by cases hx) (by simp) ⟨rfl,nlr,fun _=>rfl,.inl rfl⟩ (by repeat (first|exact brf|refine below_drewN ?_ _|refine Below.drew ?_|refine Below.alloc ?_ (by simp) _))).mono ?_;rintro e w1 ⟨rfl,ha⟩;have Ha:Hid (Below w.heap.size w w1):=Hd (Below.trans (by repeat (first|exact brf|refine below_drewN ?_ _|refine Below.drew ?_|refine Below.alloc ?_ (by simp) _)) (ha.mono (by simp;omega)));clear ha))
    go_ret;exact⟨zc (by rw[HP.o];rw[HK.o,Hk.o];simp),Ha.o⟩
  | true=>
    have HK:=Hd hk34;obtain⟨b',o',ka',kc',e',hp,-,-,-,m3,-,he⟩:=HT.o.nodes.at hm;simp only[Option.some.injEq,Addr.mk.injEq,and_true]at e';obtain⟨rfl,rfl⟩:=e';have hd:=t.nd_at hm;have hc:=He.o m hm;have hj:=BD.out.k _ (List.getElem_mem hm);rw[hd]at hc;obtain⟨g,hg⟩:∃g,t.nodes[m]=g:=⟨_,rfl⟩
    rw[hg]at m3 he hc hj hd;have Hi:=Hd hd;have Hh:=Hd he;have Hg:=Hd hc;clear hd he hc hg hp;go_enter func80,ntmps80;go_wp2
    go_quiet (fail)
    go_wp2
    go_quiet (fail)
    go_wp2_with (go_at_call 121;go_loud (refine(Hb.o ka' kc' g.kids _ Hg.o hj Hh.o (by repeat (first|exact brf|refine below_drewN ?_ _|refine Below.drew ?_|refine Below.alloc ?_ (by simp) _))).mono ?_;rintro e w1 ⟨rfl,ha⟩;have Ha:Hid (Below w.heap.size w w1):=Hd (Below.trans (by repeat (first|exact brf|refine below_drewN ?_ _|refine Below.drew ?_|refine Below.alloc ?_ (by simp) _)) (ha.mono (by simp;omega)));clear ha))
    go_ret;exact⟨zc (by rw[HP.o];rw[HK.o,Hj.o,Hi.o];simp),Ha.o⟩
def IsUps(t:Tr)(ups:List Int):Prop:=∀i:Nat,i<t.nodes.length->ups.getD i 0=parent t i
theorem IsUps.within{t:Tr}{ups:List Int}(h:IsUps t ups):LU t ups:=by
 intro i hi;rw[h i hi];refine⟨cY t i,?_⟩;by_cases h0:0<=parent t i
 .obtain⟨p,e,hp⟩:=eH t i h0
  omega
 .omega
theorem lW{t:Tr}{ups:List Int}(wf:WF t)(h:IsUps t ups){i:Nat}(hi:i<t.nodes.length):oE t ups i=zn t i:=by
 unfold oE qQ zn;rw[h i hi];cases hk:((t.nd i).kind==34)with
 |false=>simp
 | true=>
   have ha:t.nodes[i].kind=34:=by rw[t.nd_at hi]at hk;simpa using hk
   have hp:=wf.par i hi ha;have:(parent t i != -1)=true:=by simp;omega
   rw[this];simp
theorem mN{t:Tr}{ups:List Int}(wf:WF t)(h:IsUps t ups){node other:Nat}(ho:other<t.nodes.length) :
 gI t ups node other=(decide (other<node)&&((t.nd other).text==(t.nd node).text&&((t.nd other).kind==34||zn t other))):=by
 unfold gI;rw[lW wf h ho]
theorem eA{n:Int}{p:Int->Bool}:∀{l:List Int},l.Pairwise (· < ·)->(fW l n p=true↔∃x∈l,x<n/\p x=true)
 | [],_=>by simp[fW]
 | a::r,h=>by
   obtain⟨h1,h2⟩:=List.pairwise_cons.1 h;have ih:=eA (n:=n) (p:=p) h2;unfold fW at ih|-;by_cases ha:a<n
   .rw[List.takeWhile_cons_of_pos (by simpa using ha),List.any_cons,Bool.or_eq_true,ih]
    constructor
    .rintro(hp|⟨x,hx,r⟩)
     .exact⟨a,by simp,ha,hp⟩
     .exact⟨x,by simp[hx],r⟩
    .rintro⟨x,hx,hn,hp⟩
     rcases List.mem_cons.1 hx with rfl|hx
     .exact .inl hp
     .exact .inr ⟨x,hx,hn,hp⟩
   .rw[List.takeWhile_cons_of_neg (by simpa using ha)]
    constructor
    .intro hh;cases hh
    .rintro⟨x,hx,hn,-⟩
     rcases List.mem_cons.1 hx with rfl|hx
     .exact absurd hn ha
     .have:=h1 x hx;omega
theorem Good.itemsAsc{t:Tr}{S:List Int}(G:Good t S):t.items.Pairwise (· < ·):=by
 have h:=G.items;refine(List.Pairwise.and_mem.1 h).imp ?_;rintro a b⟨_,hb,ha⟩;have:=(G.item b hb).2.1;omega
theorem yZ{t:Tr}{S:List Int}{ups:List Int}(wf:WF t)(G:Good t S)(h:IsUps t ups){node:Nat} :
 (t.items.any fun j=>gI t ups node j.toNat)=aE t node:=by
 rw[Bool.eq_iff_iff];unfold aE;rw[eA G.itemsAsc,List.any_eq_true];constructor
 .rintro⟨x,hx,hb⟩
  obtain⟨_,_,hl,h0,hk⟩:=G.item x hx;obtain⟨m,rfl⟩:=Int.eq_ofNat_of_zero_le h0;rw[Int.toNat_natCast,mN wf h (by omega)]at hb;simp only[Bool.and_eq_true,Bool.or_eq_true,decide_eq_true_eq]at hb;obtain⟨h1,h2,h3⟩:=hb;refine⟨m,hx,by omega,?_⟩;rw[Bool.and_eq_true];refine⟨?_,h2⟩;rcases h3 with h3|h3
  .rw[beq_iff_eq]at h3;rw[h3]at hk;cases hk
  .exact h3
 .rintro⟨x,hx,hn,hb⟩
  obtain⟨_,_,hl,h0,hk⟩:=G.item x hx;obtain⟨m,rfl⟩:=Int.eq_ofNat_of_zero_le h0;refine⟨m,hx,?_⟩;rw[Bool.and_eq_true]at hb;rw[Int.toNat_natCast,mN wf h (by omega)];simp only[Bool.and_eq_true,Bool.or_eq_true,decide_eq_true_eq];exact⟨by omega,hb.2,.inr hb.1⟩
theorem Good.kidsAsc{t:Tr}{S:List Int}(G:Good t S){i:Nat}(hi:i<t.nodes.length):(t.nd i).kids.Pairwise (· < ·):=by
 have h:=G.asc hi;refine(List.Pairwise.and_mem.1 h).imp ?_;rintro a b⟨_,hb,ha⟩;have:=(G.kid hi b hb).2.1;omega
theorem Good.params{t:Tr}{S:List Int}(G:Good t S){i:Nat}(hi:i<t.nodes.length){a b:Int}(ha:a∈(t.nd i).kids)(hb:b∈(t.nd i).kids)(hab:a<b)(hk:(t.nd b).kind=34):(t.nd a).kind=34:=by
 have hr:=G.right i hi;simp only[cM,iA,Bool.and_eq_true]at hr;have hr:=List.all_eq_true.1 hr.2;obtain⟨x,hx,rfl⟩:=List.getElem_of_mem ha;obtain⟨y,hy,rfl⟩:=List.getElem_of_mem hb;have h1:=hr x (List.mem_range.2 hx);have h2:=hr y (List.mem_range.2 hy);simp only[qM,Bool.and_eq_true,List.getD_eq_getElem?_getD,List.getElem?_eq_getElem hx,List.getElem?_eq_getElem hy,Option.getD_some]at h1 h2;have h1:=h1.1;have h2:=h2.1;rw[hk]at h2
 have hc:x<y:=by
  apply Classical.byContradiction;intro hn;have:=List.pairwise_iff_getElem.1 (G.kidsAsc hi);rcases Nat.lt_or_ge y x with h|h
  .have:=this y x hy hx h;omega
  .have:x=y:=by omega
   subst this;omega
 unfold kidK at h1 h2;by_cases c24:(t.nd i).kind=24
 .rw[if_pos (by simpa using c24)]at h2;simp at h2
 rw[if_neg (by simpa using c24)]at h1 h2;by_cases c41:(t.nd i).kind=41
 .rw[if_pos (by simpa using c41)]at h1;simpa using h1
 rw[if_neg (by simpa using c41)]at h1 h2;by_cases c34:((t.nd i).kind==34||(t.nd i).kind==33)=true
 .rw[if_pos c34]at h2;simp[cG]at h2
 rw[if_neg c34]at h1 h2;by_cases c40:(t.nd i).kind=40
 .rw[if_pos (by simpa using c40)]at h2;simp at h2
 rw[if_neg (by simpa using c40)]at h1 h2;by_cases c42:(t.nd i).kind=42
 .rw[if_pos (by simpa using c42)]at h1 h2
  by_cases y1:(y:Int)=((t.nd i).kids.length:Int)-1
  .rw[if_pos (by simpa using y1)]at h2;simp[zl]at h2
  rw[if_neg (by simpa using y1)]at h2;by_cases y2:(y:Int)=((t.nd i).kids.length:Int)-2
  .rw[if_pos (by simpa using y2)]at h2;simp[cG]at h2
  rw[if_neg (by simp;omega),if_neg (by simp;omega)]at h1;simpa using h1
 .rw[if_neg (by simpa using c42)]at h2
  simp[zl]at h2
theorem wC{t:Tr}{S:List Int}{ups:List Int}(wf:WF t)(G:Good t S)(h:IsUps t ups){node:Nat}(hn:node<t.nodes.length)(hk:(t.nd node).kind=34) :
 ((t.nd (parent t node)).kids.any fun j=>gI t ups node j.toNat)=aU t node:=by
 have hp:=wf.par node hn (by rw[t.nd_at hn]at hk;exact hk);obtain⟨i,he,hi,hm⟩:=zy hp;unfold aU;rw[he,Bool.eq_iff_iff,eA (G.kidsAsc hi),List.any_eq_true];constructor
 .rintro⟨x,hx,hb⟩
  obtain⟨_,_,hl,h0⟩:=G.kid hi x hx;obtain⟨m,rfl⟩:=Int.eq_ofNat_of_zero_le h0;rw[Int.toNat_natCast,mN wf h (by omega)]at hb;simp only[Bool.and_eq_true,Bool.or_eq_true,decide_eq_true_eq]at hb;obtain⟨h1,h2,-⟩:=hb;refine⟨m,hx,by omega,?_⟩;rw[Bool.and_eq_true,beq_iff_eq];exact⟨G.params hi hx hm (by omega) hk,h2⟩
 .rintro⟨x,hx,ha,hb⟩
  obtain⟨_,_,hl,h0⟩:=G.kid hi x hx;obtain⟨m,rfl⟩:=Int.eq_ofNat_of_zero_le h0;refine⟨m,hx,?_⟩;rw[Bool.and_eq_true]at hb;rw[Int.toNat_natCast,mN wf h (by omega)];simp only[Bool.and_eq_true,Bool.or_eq_true,decide_eq_true_eq];exact⟨by omega,hb.2,.inl hb.1⟩
theorem EJ{t:Tr}{S:List Int}{ups:List Int}(wf:WF t)(G:Good t S)(h:IsUps t ups){node:Nat}(hn:node<t.nodes.length) :
 eI t ups node=(bT t node&&zn t node&&aE t node||(t.nd node).kind==34&&aU t node):=by
 unfold eI yN;rw[h node hn,lW wf h hn];by_cases hit:(node:Int)∈t.items
 .have hp:=G.noParent hit
  have ha:bT t node=true:=by simpa[bT,hasI]using hit
  have hk:=(G.item _ hit).2.2.2.2
  have hb:((t.nd node).kind==34)=false:=by
   cases hx:((t.nd node).kind==34)with
   |false=>rfl
   |true=>rw[beq_iff_eq]at hx;rw[hx]at hk;cases hk
  rw[hp,ha,hb]
  cases zn t node with
  |false=>simp
  | true=>
    have:=yZ wf G h (node:=node);simp[this]
 .have hp:=G.parent_yes hn hit
  have ha:bT t node=false:=by
   rw[Bool.eq_false_iff];simpa[bT,hasI]using hit
  have h1:(parent t node != -1)=true:=by simp;omega
  have h2:(parent t node == -1)=false:=by simp;omega
  rw[h1,h2,ha];cases hk:((t.nd node).kind==34)with
  |false=>simp
  | true=>
    have:=wC wf G h hn (by simpa using hk);simp[this]
theorem BS{p:Int->Bool}{l:List Int}(h:∀a∈l,∀b∈l,p a=true->p b=true->a=b):l.reverse.find? p=l.find? p:=by
 cases h1:l.find? p with
 | none=>
   rw[List.find?_eq_none]at h1|-;exact fun x hx=>h1 x (by simpa using hx)
 | some a=>
   have ha:=List.mem_of_find?_eq_some h1;have hc:=List.find?_some h1
   cases h2:l.reverse.find? p with
   | none=>
     rw[List.find?_eq_none]at h2;exact absurd hc (h2 a (by simpa using ha))
   | some b=>
     have hb:=List.mem_of_find?_eq_some h2;rw[h b (by simpa using hb) a ha (List.find?_some h2) hc]
def zE(t:Tr)(node:Int):List Int:=(zX t node).1++(t.items.filter fun it=>decide (it<node)&&zn t it).reverse
def aL(t:Tr)(node:Int):Int:=
 match (zE t node).find? (fun d=>(t.nd d).text==(t.nd node).text)with
 |some d=>if suits (t.nd node).kind (t.nd d).kind then d else -1
 |none=>-1
def gR(t:Tr)(node:Int):Prop:=∀a∈t.items,∀b∈t.items,a<node->b<node->zn t a=true->zn t b=true->(t.nd a).text=(t.nd b).text->a=b
theorem AR{t:Tr}{node:Int}(ho:gR t node)(htop:(t.items.filter fun it=>decide (it<(zX t node).2)&&zn t it)=t.items.filter fun it=>decide (it<node)&&zn t it) :
 (zE t node).find? (fun d=>(t.nd d).text==(t.nd node).text)=(sight t node).find? (fun d=>(t.nd d).text==(t.nd node).text):=by
 unfold zE sight;rw[htop,List.find?_append,List.find?_append,BS];intro a ha b hb h1 h2;simp only[List.mem_filter,Bool.and_eq_true,decide_eq_true_eq]at ha hb;rw[beq_iff_eq]at h1 h2;exact ho a ha.1 b hb.1 ha.2.1 hb.2.1 ha.2.2 hb.2.2 (h1.trans h2.symm)
theorem NC{t:Tr}(wf:WF t){node:Nat}(ho:gR t node)(htop:(t.items.filter fun it=>decide (it<(zX t node).2)&&zn t it)=t.items.filter fun it=>decide (it<(node:Int))&&zn t it)(hn:bD (t.nd node).kind=true) :
 aL t node=means t node:=by
 unfold aL means nearest;rw[AR ho htop,if_pos hn];cases hf:(sight t node).find? (fun d=>(t.nd d).text==(t.nd node).text)with
 |none=>simp
 | some d=>
   have hd:=(mK wf (List.mem_of_find?_eq_some hf)).1;simp only[Option.getD_some]
   cases hs:suits (t.nd node).kind (t.nd d).kind with
   |true=>rw[if_pos rfl,if_neg];simp;omega
   |false=>rw[if_neg Bool.false_ne_true,if_pos];simp
theorem Good.begins{t:Tr}{S:List Int}(G:Good t S){j:Nat}(hj:j<t.nodes.length):stt S j<j:=by
 rcases G.kidOrItem hj with h|⟨i,hi,h⟩
 .exact(G.item _ h).2.1
 .exact(G.kid hi _ h).2.1
theorem KY{α:Type}{t:Tr}{S:List Int}(G:Good t S)(g:Int->Int->α->α){node:Int}:∀(f last:Nat) (acc:α),last<t.nodes.length->t.nodes.length<=f+last->stt S last<node->node<=last ->
 (upF t g f last (parent t last) acc).2∈t.items/\stt S (upF t g f last (parent t last) acc).2<node/\node<=(upF t g f last (parent t last) acc).2
 |0,last,acc,hl,hf,_,_=>by omega
 | f+1,last,acc,hl,hf,h1,h2=>by
   rw[upF];by_cases hp:parent t last<0
   .rw[if_pos hp]
    refine⟨?_,h1,h2⟩;apply Classical.byContradiction;intro hn;have:=G.parent_yes hl hn;omega
   .rw[if_neg hp]
    obtain⟨i,he,hi,hm⟩:=zy (show 0<=parent t last by omega);have hk:=G.kid hi _ hm;rw[he];exact KY G g f i _ hi (by omega) (by omega) (by omega)
theorem Good.top{t:Tr}{S:List Int}(G:Good t S){node:Nat}(hn:node<t.nodes.length):(zX t node).2∈t.items/\stt S (zX t node).2<node/\(node:Int)<=(zX t node).2:=
 KY G _ _ node [] hn (by omega) (G.begins hn) (Int.le_refl _)
theorem Good.ahead{t:Tr}{S:List Int}(G:Good t S){node:Nat}(hn:node<t.nodes.length) :
 (t.items.filter fun it=>decide (it<(zX t node).2)&&zn t it)=t.items.filter fun it=>decide (it<(node:Int))&&zn t it:=by
 obtain⟨h1,h2,h3⟩:=G.top hn;refine List.filter_congr fun it hit=>?_;congr 1;rw[Bool.eq_iff_iff,decide_eq_true_iff,decide_eq_true_iff];constructor
 .intro hb
  obtain⟨x,hx,e1⟩:=List.getElem_of_mem hit;obtain⟨y,hy,e2⟩:=List.getElem_of_mem h1
  have hc:x<y:=by
   apply Classical.byContradiction;intro hd;have ha:=List.pairwise_iff_getElem.1 G.itemsAsc;rcases Nat.lt_or_ge y x with h|h
   .have:=ha y x hy hx h;omega
   .have:x=y:=by omega
    subst this;omega
  have:=List.pairwise_iff_getElem.1 G.items x y hx hy hc;rw[e1,e2]at this;omega
 .intro hb;omega
theorem qL{t:Tr}{S:List Int}(wf:WF t)(G:Good t S){node:Nat}(hn:node<t.nodes.length)(ho:gR t node)(hk:bD (t.nd node).kind=true):aL t node=means t node:=
 NC wf ho (G.ahead hn) hk
theorem wV{t:Tr}{m:Int}(h:bV t m=0):(bT t m&&zn t m&&aE t m)=false:=by
 cases hx:(bT t m&&zn t m&&aE t m)with
 |false=>rfl
 |true=>rw[bV,if_pos hx]at h;cases h
theorem JG{t:Tr}{S:List Int}(G:Good t S){node:Nat}(h:∀m:Nat,m<node->bV t m=0):gR t node:=by
 have key:∀a∈t.items,∀b∈t.items,a<b->b<(node:Int)->zn t a=true->zn t b=true->(t.nd a).text=(t.nd b).text->False:=by
  intro a ha b hb hi hh hc hd hf;obtain⟨_,_,hl,h0,_⟩:=G.item b hb;obtain⟨m,rfl⟩:=Int.eq_ofNat_of_zero_le h0;have:=wV (h m (by omega));have h1:bT t m=true:=by simpa[bT,hasI]using hb
  have h2:aE t m=true:=by
   unfold aE;rw[eA G.itemsAsc];exact⟨a,ha,hi,by rw[hc,hf];simp⟩
  rw[h1,hd,h2]at this;cases this
 intro a ha b hb hj hh hc hd hf;rcases Int.lt_trichotomy a b with hg|he|hg
 .exact(key a ha b hb hg hh hc hd hf).elim
 .exact he
 .exact(key b hb a ha hg hj hd hc hf.symm).elim
def zg(t:Tr)(k:Nat):List Int:=(List.range t.nodes.length).map fun(i:Nat)=>if i<k/\bD (t.nd i).kind=true then means t i else -1
theorem EC{t:Tr}{k:Nat}{d:Int}(hd:d ≠ -1):(zg t k).contains d=true↔∃i:Nat,i<t.nodes.length/\i<k/\bD (t.nd i).kind=true/\means t i=d:=by
 rw[List.contains_iff_mem];unfold zg;rw[List.mem_map];constructor
 .rintro⟨i,hi,e⟩
  have hi:=List.mem_range.1 hi;split at e
  .rename_i h;exact⟨i,hi,h.1,h.2,e⟩
  .exact absurd e.symm hd
 .rintro⟨i,hi,h1,h2,e⟩
  exact⟨i,List.mem_range.2 hi,by rw[if_pos ⟨h1,h2⟩];exact e⟩
theorem lE{t:Tr}{i:Int}(h:means t i ≠ -1):suits (t.nd i).kind (t.nd (means t i)).kind=true:=by
 unfold means at h|-;split
 .rename_i hk
  rw[if_pos hk]at h;split
  .rename_i h1;rw[if_pos h1]at h;exact absurd rfl h
  .rename_i h1
   simp only[Bool.or_eq_true,not_or,Bool.not_eq_true',Bool.not_eq_false]at h1;exact h1.2
 .rename_i hk
  rw[if_neg hk]at h;exact absurd rfl h
theorem ET{t:Tr}{S:List Int}(G:Good t S){node:Nat}(hn:node<t.nodes.length)(hk:(t.nd node).kind=45)(hm:means t node ≠ -1) :
 (zg t node).contains (means t node)=aS t node:=by
 have hs:=lE hm;rw[hk]at hs;have hd:(t.nd (means t node)).kind=44:=by simpa[suits]using hs
 rw[Bool.eq_iff_iff,EC hm];unfold aS;rw[eA G.itemsAsc];constructor
 .rintro⟨i,hi,hf,hg,he⟩
  have h1:=lE (t:=t) (i:=i) (by rw[he];exact hm);rw[he,hd]at h1
  have hc:(t.nd i).kind=45:=by
   unfold suits at h1;split at h1
   .simp at h1
   .split at h1
    .simp at h1
    .split at h1
     .rename_i h;simpa using h
     .simp at h1
  have ha:(i:Int)∈t.items:=by
   rcases G.kidOrItem hi with h|⟨j,hj,h⟩
   .exact h
   .have:=G.kidKind hj h
    rw[hc]at this;cases this
  exact⟨i,ha,by omega,by rw[hc,he];simp⟩
 .rintro⟨it,ha,hf,hb⟩
  obtain⟨_,_,hl,h0,_⟩:=G.item it ha;obtain⟨m,rfl⟩:=Int.eq_ofNat_of_zero_le h0;simp only[Bool.and_eq_true,beq_iff_eq]at hb;exact⟨m,by omega,by omega,by rw[hb.1];rfl,hb.2⟩
def ownF(t:Tr)(d:Int):Nat->Int->Int->Bool
 |0,_,_=>false
 |f+1,kid,up=>if up<0 then false else if up=d then (t.nd d).kids[(t.nd d).kids.length-1]?==some kid else ownF t d f up (parent t up)
def fA(t:Tr)(node d:Int):Bool:=ownF t d (t.nodes.length+1) node (parent t node)
theorem JI{t:Tr}{d:Int}:∀(f:Nat) (kid up:Int),ownF t d f kid up=true->0<=up/\up<=d
 |0,kid,up,h=>by cases h
 | f+1,kid,up,h=>by
   rw[ownF]at h;split at h
   .cases h
   .split at h
    .omega
    .have:=JI f _ _ h
     have:=eU t (n:=up) (by omega) this.1;omega
theorem nE{t:Tr}{d:Int}:∀(f:Nat) (kid up:Int),ownF t d f kid up=true->bX t d f up=true
 |0,kid,up,h=>by cases h
 | f+1,kid,up,h=>by
   rw[ownF]at h;rw[bX];split at h
   .cases h
   .rename_i h0
    rw[if_neg h0];split at h
    .rename_i he;rw[if_pos he]
    .rename_i he;rw[if_neg he];exact nE f _ _ h
theorem qA{t:Tr}{d:Int}:∀(f:Nat) (n:Int),bX t d f n=true->0<=n/\n<=d
 |0,n,h=>by cases h
 | f+1,n,h=>by
   rw[bX]at h;split at h
   .cases h
   .split at h
    .omega
    .have:=qA f _ h
     have:=eU t (n:=n) (by omega) this.1;omega
theorem wN{t:Tr}{S:List Int}(G:Good t S){d:Int}(hk:(t.nd d).kind=42):∀(f:Nat) (last n:Int) (acc:List Int),n<t.nodes.length ->
 d∈(upF t (fun last n acc=>acc++zK (t.nd n) last n) f last n acc).1->d∈acc\/ownF t d f last n=true
 |0,last,n,acc,_,h=>.inl h
 | f+1,last,n,acc,hn,h=>by
   rw[upF]at h;by_cases h0:n<0
   .rw[if_pos h0]at h;exact .inl h
   .rw[if_neg h0]at h
    rw[ownF,if_neg h0];rcases wN G hk f _ _ _ (zH t (by omega)) h with h|h
    .rcases List.mem_append.1 h with h|h
     .exact .inl h
     .right
      obtain⟨m,rfl⟩:=Int.eq_ofNat_of_zero_le (show 0<=n by omega);simp only[zK,List.mem_append]at h;rcases h with h|h
      .split at h
       .rename_i hc
        obtain rfl:=List.mem_singleton.1 h;rw[hk]at hc;simp at hc
       .cases h
      .split at h
       .rename_i hc
        rcases List.mem_append.1 h with h|h
        .have:=G.kidKind (show m<t.nodes.length by omega) (List.mem_of_mem_take h)
         rw[hk]at this;cases this
        .obtain rfl:=List.mem_singleton.1 h
         rw[if_pos rfl];rw[Bool.and_eq_true]at hc;exact hc.2
       .cases h
    .right
     have:=JI f _ _ h;have:=eU t (n:=n) (by omega) this.1;rw[if_neg (by omega)];exact h
theorem RK{t:Tr}{S:List Int}(wf:WF t)(G:Good t S){node:Nat}(hn:node<t.nodes.length)(h21:(t.nd node).kind=21)(hm:means t node ≠ -1) :
 fA t node (means t node)=inside t node (means t node):=by
 have hs:=lE hm;rw[h21]at hs;have hk:(t.nd (means t node)).kind=42:=by simpa[suits]using hs
 have hd:means t node∈sight t node:=by
  unfold means at hm|-;split
  .rename_i h1
   rw[if_pos h1]at hm;split
   .rename_i h2;rw[if_pos h2]at hm;exact absurd rfl hm
   .rename_i h2
    simp only[Bool.or_eq_true,not_or,decide_eq_true_eq]at h2;have h3:=h2.1;unfold nearest at h3|-;cases hf:(sight t node).find? (fun d=>(t.nd d).text==(t.nd node).text)with
    |none=>rw[hf]at h3;simp at h3
    |some x=>exact List.mem_of_find?_eq_some hf
  .rename_i h1;rw[if_neg h1]at hm;exact absurd rfl hm
 obtain⟨d,e⟩:∃d,means t node=d:=⟨_,rfl⟩
 rw[e]at hk hd|-;have he:¬(node:Int)=d:=by rintro rfl;rw[h21]at hk;cases hk
 have hc:inside t node d=bX t d t.nodes.length (parent t node):=by
  unfold inside;rw[bX,if_neg (by omega),if_neg he]
 have ha:bX t d (t.nodes.length+1) (parent t node)=true->inside t node d=true:=by
  intro h;rw[hc];have h0:=(qA _ _ h).1;have h1:=eU t (n:=(node:Int)) (by omega) h0;rw[<-mZ t d (t.nodes.length+1) t.nodes.length _ (by omega) (by omega) (zH t (by omega))];exact h
 unfold sight at hd;rcases List.mem_append.1 hd with hd|hd
 .rcases wN G hk _ _ _ _ (zH t (by omega)) hd with h|h
  .cases h
  .have h1:fA t node d=true:=h
   rw[h1,ha (nE _ _ _ h)]
 .rw[G.ahead hn]at hd
  simp only[List.mem_filter,Bool.and_eq_true,decide_eq_true_eq]at hd
  have hb:inside t node d=false:=by
   rw[Bool.eq_false_iff];intro h;have:=(qA _ _ h).2;omega
  rw[hb,Bool.eq_false_iff];intro h;have:=ha (nE _ _ _ h);rw[hb]at this;cases this
def OM(t:Tr)(ups:List Int)(node:Nat):Int:=
 if eI t ups node then 6
 else if !bD (t.nd node).kind then 0
 else if aL t node == -1 then 10
 else if (t.nd node).kind==21&&((t.nd (aL t node)).n==0&&fA t node (aL t node))then 9
 else if (t.nd node).kind==45&&(zg t node).contains (aL t node)then 9
 else 0
theorem MF{t:Tr}{S:List Int}{ups:List Int}(wf:WF t)(G:Good t S)(hu:IsUps t ups){node:Nat}(hn:node<t.nodes.length)(ha:∀m:Nat,m<node->bV t m=0):OM t ups node=bV t node:=by
 unfold OM bV;rw[EJ wf G hu hn];cases h1:(bT t node&&zn t node&&aE t node)with
 |true=>simp
 | false=>
   cases h2:((t.nd node).kind==34&&aU t node)with
   |true=>simp
   | false=>
     cases hk:bD (t.nd node).kind with
     |false=>simp
     | true=>
       rw[qL wf G hn (JG G ha) hk];have hr:=dE wf (node:=node);by_cases hm:means t node = -1
       .rw[hm];simp
       .have h3:¬means t node<0:=by omega
        have h4:(means t node == -1)=false:=by simpa using hm
        rw[h4];simp only[Bool.or_self,Bool.false_eq_true,if_false,Bool.not_true,if_neg h3]
        have e1:((t.nd node).kind==21&&((t.nd (means t node)).n==0&&fA t node (means t node)))=((t.nd node).kind==21&&(t.nd (means t node)).n==0&&inside t node (means t node)):=by
         cases hx:((t.nd node).kind==21)with
         |false=>simp
         |true=>rw[RK wf G hn (by simpa using hx) hm];simp
        have e2:((t.nd node).kind==45&&(zg t node).contains (means t node))=((t.nd node).kind==45&&aS t node):=by
         cases hx:((t.nd node).kind==45)with
         |false=>simp
         |true=>rw[ET G hn (by simpa using hx) hm]
        rw[e1,e2]
theorem zP(t:Tr)(k:Nat):(zg t k).length=t.nodes.length:=by simp[zg]
theorem yR(t:Tr):zg t 0=List.replicate t.nodes.length (-1):=by
 unfold zg;refine List.ext_getElem (by simp) fun i h1 h2=>?_;simp
theorem bE(t:Tr):zg t t.nodes.length=(List.range t.nodes.length).map (fun k:Nat=>means t (k:Int)):=by
 unfold zg;refine List.map_congr_left fun i hi=>?_;have hi:=List.mem_range.1 hi
 cases hk:bD (t.nd i).kind with
 |true=>rw[if_pos ⟨hi,rfl⟩]
 |false=>rw[if_neg (fun h=>by cases h.2),iQ hk]
theorem IG{t:Tr}{k:Nat}(h:bD (t.nd k).kind=false):zg t (k+1)=zg t k:=by
 unfold zg;refine List.map_congr_left fun i _=>?_;by_cases e:i=k
 .subst e;rw[if_neg (fun hh=>by rw[h]at hh;cases hh.2),if_neg (fun hh=>by rw[h]at hh;cases hh.2)]
 .by_cases hi:i<k/\bD (t.nd i).kind=true
  .rw[if_pos hi,if_pos ⟨by omega,hi.2⟩]
  .rw[if_neg hi,if_neg (fun hh=>hi ⟨by omega,hh.2⟩)]
theorem ED{t:Tr}{k:Nat}(hk:k<t.nodes.length)(h:bD (t.nd k).kind=true):zg t (k+1)=(zg t k).set k (means t k):=by
 refine List.ext_getElem (by simp[zg]) fun i h1 h2=>?_;rw[List.getElem_set];simp only[zg,List.getElem_map,List.getElem_range];by_cases e:k=i
 .subst e;rw[if_pos rfl,if_pos ⟨by omega,h⟩]
 .rw[if_neg e]
  by_cases hi:i<k/\bD (t.nd i).kind=true
  .rw[if_pos hi,if_pos ⟨by omega,hi.2⟩]
  .rw[if_neg hi,if_neg (fun hh=>hi ⟨by omega,hh.2⟩)]
def eC(t:Tr):Nat->List Int
 |0=>List.replicate t.nodes.length (-1)
 |k+1=>aH (eC t k) (k:Int) (t.nd k).kids
theorem cO(t:Tr):∀k,(eC t k).length=t.nodes.length
 |0=>by simp[eC]
 |k+1=>by rw[eC,gK,cO t k]
theorem nX{d:Int}{j:Nat}:∀(l o:List Int),j<o.length->(∀k∈l,0<=k)->(aH o d l).getD j 0=if (j:Int)∈l then d else o.getD j 0
 | [],o,_,_=>by simp[aH]
 | k::l,o,hj,hl=>by
   have hk:=hl k (by simp);rw[aH,nX l _ (by simpa using hj) (fun x hx=>hl x (List.mem_cons_of_mem _ hx))];by_cases h1:(j:Int)∈l
   .rw[if_pos h1,if_pos (List.mem_cons_of_mem _ h1)]
   .rw[if_neg h1,List.getD_eq_getElem?_getD,List.getElem?_set]
    by_cases h2:(j:Int)=k
    .subst h2
     rw[if_pos (by simp),if_pos (by simpa using hj),if_pos (by simp)];rfl
    .rw[if_neg (by omega),if_neg (by simp[h2,h1]),<-List.getD_eq_getElem?_getD]
theorem CY{t:Tr}{S:List Int}(G:Good t S){j:Nat}(hj:j<t.nodes.length):∀k,k<=t.nodes.length->(eC t k).getD j 0=if 0<=parent t j/\parent t j<k then parent t j else -1
 | 0,_=>by
   rw[if_neg (by omega),eC,List.getD_eq_getElem?_getD,List.getElem?_replicate,if_pos hj];rfl
 | k+1,hk=>by
   rw[eC,nX _ _ (by rw[cO];exact hj) (fun x hx=>(G.kid (show k<t.nodes.length by omega) x hx).2.2.2),CY G hj k (by omega)];by_cases h1:(j:Int)∈(t.nd k).kids
   .have:=G.parent_of (show k<t.nodes.length by omega) h1
    rw[if_pos h1,this,if_pos (by omega)]
   .rw[if_neg h1]
    by_cases h2:0<=parent t j/\parent t j<k
    .rw[if_pos h2,if_pos (by omega)]
    .rw[if_neg h2,if_neg]
     rintro⟨h3,h4⟩;obtain⟨i,e,hi,hm⟩:=zy h3;have:i=k:=by omega
     subst this;exact h1 hm
theorem jX{t:Tr}{S:List Int}(G:Good t S):IsUps t (eC t t.nodes.length):=by
 intro j hj;rw[CY G hj _ nlr];have h1:=cY t j;have h2:=zH t (n:=(j:Int)) (by omega);split<;>omega
theorem rQ(s:Nat)(node:Int)(w:World) :
 Calls prog 125 #[.pointer (some ⟨s,0,none⟩),intV node] w fun e w'=>e=.returned (.func (.func 164) #[] #[.pointer (some ⟨w.heap.size,0,none⟩),.pointer (some ⟨w.heap.size+1,0,none⟩)])/\fC w (.pointer (some ⟨s,0,none⟩)) node=w':=by
 go_enter func125,ntmps125;go_wp2;go_ret;exact⟨rfl,rfl⟩
theorem xS(s:Nat)(node:Int)(w:World) :
 Calls prog 123 #[.pointer (some ⟨s,0,none⟩),intV node] w fun e w'=>e=.returned (.func (.func 160) #[] #[.pointer (some ⟨w.heap.size,0,none⟩),.pointer (some ⟨w.heap.size+1,0,none⟩)])/\fC w (.pointer (some ⟨s,0,none⟩)) node=w':=by
 go_enter func123,ntmps123;go_wp2;go_ret;exact⟨rfl,rfl⟩
theorem xU(s:Nat)(kid up:Int)(w:World) :
 Calls prog 161 #[.pointer (some ⟨s,0,none⟩),intV kid,intV up] w fun e w'=>e=.returned (.func (.func 194) #[] #[.pointer (some ⟨w.heap.size,0,none⟩),.pointer (some ⟨w.heap.size+1+1,0,none⟩),.pointer (some ⟨w.heap.size+1,0,none⟩)])/\(fC w (.pointer (some ⟨s,0,none⟩)) kid).alloc (.cells #[intV up] 3)=w':=by
 go_enter func161,ntmps161;go_wp2;go_ret;exact⟨rfl,rfl⟩
def gX(t:Tr):Nat->Int->Int->List (Int×Int)
 |0,_,_=>[]
 |f+1,kid,up=>if up<0 then []else (kid,up)::gX t f up (parent t up)
def kT(t:Tr)(kid up:Int):List (Int×Int):=gX t (t.nodes.length+1) kid up
def bB(t:Tr)(node:Int):List (Int×Int):=kT t node (parent t node)
def zY(t:Tr)(kid up:Int):List Int:=
 if (t.nd up).kids[(t.nd up).kids.length-1]?==some kid then
  (if (t.nd up).kind==20 then [up]else if (t.nd up).kind==42 then (t.nd up).kids.take ((t.nd up).kids.length-2)++[up]else [])
 else []
theorem rB{α:Type}(t:Tr)(h:Int->Int->List α):∀(f:Nat) (last n:Int) (acc:List α),(upF t (fun last n acc=>acc++h last n) f last n acc).1=acc++(gX t f last n).flatMap (fun p=>h p.1 p.2)
 |0,last,n,acc=>by simp[upF,gX]
 | f+1,last,n,acc=>by
   rw[upF,gX];by_cases hn:n<0
   .rw[if_pos hn,if_pos hn];simp
   .rw[if_neg hn,if_neg hn,rB t h f]
    simp
theorem BK(t:Tr)(f:Nat)(last n:Int):gX t f last n=(upF t (fun last n acc=>acc++[(last,n)]) f last n []).1:=by
 rw[rB t (fun last n=>[(last,n)])];simp
theorem yP(t:Tr)(last:Int){n:Int}(h:n<t.nodes.length):kT t last n=if n<0 then []else (last,n)::kT t n (parent t n):=by
 unfold kT;rw[gX];by_cases hn:n<0
 .rw[if_pos hn,if_pos hn]
 .rw[if_neg hn,if_neg hn]
  congr 1;rw[BK,BK];congr 1;by_cases hp:0<=parent t n
  .obtain⟨m,rfl⟩:=Int.eq_ofNat_of_zero_le (show 0<=n by omega)
   obtain⟨p,ha,hc⟩:=eH t m hp;have hb:=eT t m hp;refine KX t _ _ _ _ _ _ ?_ ?_ ?_<;>rw[ha]<;>rw[ha]at hb<;>simp at *<;>omega
  .have hp:parent t n<0:=by omega
   cases hl:t.nodes.length<;>simp[upF,hp]
theorem EA(t:Tr)(last:Int){n:Int}(h:n<0):kT t last n=[]:=by unfold kT;rw[gX,if_pos h]
theorem EB(t:Tr)(last:Int){n:Int}(h0:0<=n)(h:n<t.nodes.length):kT t last n=(last,n)::kT t n (parent t n):=by
 rw[yP t last h,if_neg (by omega)]
theorem mV{t:Tr}:∀(f:Nat) (last n:Int) (p:Int×Int),p∈gX t f last n->n<t.nodes.length->0<=p.2/\p.2<t.nodes.length/\(p.1=last\/0<=p.1/\p.1<t.nodes.length)
 |0,last,n,p,h,_=>by simp[gX]at h
 | f+1,last,n,p,h,hn=>by
   rw[gX]at h;by_cases h0:n<0
   .rw[if_pos h0]at h;simp at h
   .rw[if_neg h0]at h
    rcases List.mem_cons.1 h with rfl|h
    .exact⟨by omega,hn,.inl rfl⟩
    .obtain⟨h1,h2,h3⟩:=mV f _ _ p h (zH t (by omega))
     exact⟨h1,h2,.inr (h3.elim (fun e=>by rw[e];omega) id)⟩
theorem xD{t:Tr}(wf:WF t)(kid:Int){up:Int}(h0:0<=up)(h1:up<t.nodes.length):zY t kid up=zK (t.nd up) kid up:=by
 obtain⟨m,rfl⟩:=Int.eq_ofNat_of_zero_le h0;have hm:m<t.nodes.length:=by omega
 have hl:=wf.letK m hm;have hb:=t.nd_at hm;unfold zY zK;rw[hb];cases h20:(t.nodes[m].kind==20)with
 | true=>
   have h2:=hl (by simpa using h20);have ha:(t.nodes[m].kind==42)=false:=by rw[beq_iff_eq]at h20;rw[h20];rfl
   rw[h2,ha];simp
 | false=>
   cases ha:(t.nodes[m].kind==42)<;>simp
theorem AS{t:Tr}(wf:WF t){node:Int}(h0:0<=node):(zX t node).1=(bB t node).flatMap (fun p=>zY t p.1 p.2):=by
 unfold zX upw bB kT;rw[rB t (fun last n=>zK (t.nd n) last n),List.nil_append]
 have key:∀l:List (Int×Int),(∀p∈l,0<=p.2/\p.2<t.nodes.length)->l.flatMap (fun p=>zK (t.nd p.2) p.1 p.2)=l.flatMap (fun p=>zY t p.1 p.2):=by
  intro l
  induction l with
  |nil=>intro _;rfl
  | cons p l ih=>
    intro h;rw[List.flatMap_cons,List.flatMap_cons,ih (fun q hq=>h q (List.mem_cons_of_mem _ hq)),xD wf _ (h p (by simp)).1 (h p (by simp)).2]
 exact key _ fun p hp=>by
  obtain⟨h1,h2,_⟩:=mV _ _ _ p hp (zH t h0);exact⟨h1,h2⟩
theorem wO{t:Tr}(wf:WF t){node:Int}(h0:0<=node):zE t node=(bB t node).flatMap (fun p=>zY t p.1 p.2)++(t.items.filter fun it=>decide (it<node)&&zn t it).reverse:=by
 unfold zE;rw[AS wf h0]
theorem Good.paramKind{t:Tr}{S:List Int}(G:Good t S){i:Nat}(hi:i<t.nodes.length)(c42:(t.nd i).kind=42){x:Nat}(hx:x<(t.nd i).kids.length)(hx2:x<(t.nd i).kids.length-2):(t.nd (t.nd i).kids[x]).kind=34:=by
 have hr:=G.right i hi;simp only[cM,iA,Bool.and_eq_true]at hr;have h1:=List.all_eq_true.1 hr.2 x (List.mem_range.2 hx);simp only[qM,Bool.and_eq_true,List.getD_eq_getElem?_getD,List.getElem?_eq_getElem hx,Option.getD_some]at h1;have h1:=h1.1;unfold kidK at h1;rw[if_neg (by simp[c42]),if_neg (by simp[c42]),if_neg (by simp[c42]),if_neg (by simp[c42]),if_pos (by simp[c42])]at h1;rw[if_neg (by simp;omega),if_neg (by simp;omega)]at h1;simpa using h1
end
end Go.Proofs.YtcdkdiedphhdhaaGreatDoor
