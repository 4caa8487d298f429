/- Part of a proof. -/
import Derived.Test.YtokdgiphdnjeoaaGreatDoorQ20
import Derived.Maps.OwnSet
import Derived.Maps.OwnOps
set_option maxRecDepth 100000
set_option maxHeartbeats 8000000
set_option linter.unusedVariables false
set_option linter.unusedSimpArgs false
open Go.Proofs.Tryz
namespace Go.Proofs.YtokdgiphdnjeoaaGreatDoor
section
open Go.RowKit
open Go.Maps
def IntSet(D:DataW Unit)(S:Int→Prop):Prop:=
 ∃es,D=.map es∧es.any (fun p=>match p.1 with|.int .i64 _=>false|_=>true)=false∧∀j:Int,Maps.has D (.int .i64 j)=true↔S j
theorem IntSet.congr{D:DataW Unit}{S S':Int→Prop}(h:IntSet D S)(e:∀j,S j↔S' j):IntSet D S':=by
 obtain⟨es,h1,h2,h3⟩:=h;exact⟨es,h1,h2,fun j=>(h3 j).trans (e j)⟩
theorem IntSet.empty:IntSet (.map []) (fun _=>False):=⟨[],rfl,rfl,fun j=>by simp[Maps.has]⟩
theorem IntSet.put{D:DataW Unit}{S:Int→Prop}(h:IntSet D S)(k:Int)(d:DataW Unit):IntSet (D.put (.int .i64 k) d) (fun j=>j=k∨S j):=by
 obtain⟨es,rfl,h2,h3⟩:=h;refine⟨_,rfl,?_,fun j=>?_⟩
 ·show(DataW.insert (.int .i64 k,d) (es.filter fun p=>!p.1.sameKey (.int .i64 k))).any _=false
  rw[any_insert,Bool.or_eq_false_iff];refine⟨rfl,?_⟩;rw[List.any_eq_false]at h2⊢;exact fun p hp=>h2 p (List.mem_filter.1 hp).1
 ·by_cases hj:j=k
  ·subst hj
   rw[has_put_same ⟨es,rfl⟩ (show WideAt.IsKeyLit (.int .i64 j)from trivial)];simp
  ·rw[has_put_other (by intro e;injection e with _ e;exact hj e),h3]
   simp[hj]
theorem IntSet.del{D:DataW Unit}{S:Int→Prop}(h:IntSet D S)(k:Int):IntSet (D.del (.int .i64 k)) (fun j=>j≠k∧S j):=by
 obtain⟨es,rfl,h2,h3⟩:=h;refine⟨_,rfl,?_,fun j=>?_⟩
 ·show(es.filter fun p=>!p.1.sameKey (.int .i64 k)).any _=false
  rw[List.any_eq_false]at h2⊢;exact fun p hp=>h2 p (List.mem_filter.1 hp).1
 ·by_cases hj:j=k
  ·subst hj
   rw[has_del_same];simp
  ·rw[has_del_other (by intro e;injection e with _ e;exact hj e),h3]
   simp[hj]
theorem IntSet.size{D:DataW Unit}{S:Int→Prop}(h:IntSet D S):Maps.size D=0↔∀j,¬S j:=by
 obtain⟨es,rfl,h2,h3⟩:=h;constructor
 ·intro hz j hj
  have:=(h3 j).2 hj;rw[List.eq_nil_of_length_eq_zero (show es.length=0 from hz)]at this;cases this
 ·intro hn
  match es,h2,h3 with
  | [],_,_=>rfl
  | p::r,h2,h3=>
    exfalso;obtain⟨⟨⟩,d⟩:=p
    all_goals first
     | (simp at h2;done)
     |skip
    rename_i q j;cases q
    all_goals first
     | (simp at h2;done)
     |skip
    refine hn j ((h3 j).1 ?_);simp[Maps.has,Lit.sameKey]
theorem BX{t:Tr}:dK t=true↔∀j:Int,¬((∃i:Nat,i<t.nodes.length∧j=i∧(t.nd i).kind=1∧(t.nd i).n<0)∧∀it∈t.items,(t.nd it).kind=40→j ∉ (t.nd it).kids):=by
 unfold dK;rw[List.all_eq_true];constructor
 ·rintro h j⟨⟨i,hi,rfl,hk,hn⟩,hs⟩
  have:=h i (List.mem_range.2 hi);rw[hk,decide_eq_true hn]at this;simp only[beq_self_eq_true,Bool.and_self,Bool.not_true,Bool.false_or,List.any_eq_true,Bool.and_eq_true,beq_iff_eq]at this;obtain⟨it,hit,hik,hh⟩:=this;exact hs it hit hik (by simpa[hasI]using hh)
 ·intro h i hi
  have hi:=List.mem_range.1 hi;by_cases hneg:(t.nd i).kind=1∧(t.nd i).n<0
  ·have:=h i
   simp only[not_and,Classical.not_forall]at this;obtain⟨it,hit,hik,hm⟩:=this ⟨i,hi,rfl,hneg⟩;have hm:=Classical.not_not.1 hm;simp only[Bool.or_eq_true,List.any_eq_true,Bool.and_eq_true,beq_iff_eq];exact .inr ⟨it,hit,hik,by simpa[hasI]using hm⟩
  ·simp only[Bool.or_eq_true,Bool.not_eq_true',Bool.and_eq_false_iff,beq_eq_false_iff_ne,decide_eq_false_iff_not]
   refine .inl ?_;by_cases hk:(t.nd i).kind=1
   ·exact .inr fun hn=>hneg ⟨hk,hn⟩
   ·exact .inl hk
theorem rJ{t:Tr}:∀{l:List Int}{p q:Int},0≤p→ordF t l p=some q→∀it∈l,0≤it∧it<(t.nodes.length:Int)
 | [],p,q,_,_,it,hm=>by cases hm
 | a::l,p,q,hp,h,it,hm=>by
   rw[ordF]at h;split at h
   ·rename_i hc
    rw[Bool.and_eq_true,decide_eq_true_iff,decide_eq_true_iff]at hc;obtain⟨m,h1,h2⟩:=Option.bind_eq_some_iff.1 h;rcases List.mem_cons.1 hm with rfl|hm
    ·omega
    ·exact rJ (by have:=rR h1;omega) h2 it hm
   ·cases h
theorem sM{t:Tr}(h:aL t=true):∀it∈t.items,0≤it∧it<(t.nodes.length:Int):=by
 unfold aL at h;rw[beq_iff_eq]at h;exact rJ (Int.le_refl _) h
theorem xV:prog.underlying 127=some (.map 3 4):=by kernel_rfl
theorem fS:prog.underlying 3=some (.int .i64):=by kernel_rfl
theorem KY:prog.underlying 4=some .bool:=by kernel_rfl
abbrev OwnM(W:World)(b n:Nat)(D:DataW Unit):Prop:=W.ownsMap prog 3 (plainElem prog 4) b n D
def Neg(t:Tr)(k:Nat)(j:Int):Prop:=∃i:Nat,i<k∧j=i∧(t.nd i).kind=1∧(t.nd i).n<0
def Left(t:Tr)(l:List Int)(j:Int):Prop:=∀it∈l,(t.nd it).kind=40→j ∉ (t.nd it).kids
theorem Neg.no{t:Tr}{k:Nat}(h:¬((t.nd k).kind=1∧(t.nd k).n<0))(j:Int):Neg t k j↔Neg t (k+1) j:=by
 constructor
 ·rintro⟨i,hi,r⟩;exact⟨i,by omega,r⟩
 ·rintro⟨i,hi,e,r⟩
  by_cases hik:i=k
  ·subst hik;exact absurd r h
  ·exact⟨i,by omega,e,r⟩
theorem Neg.yes{t:Tr}{k:Nat}(h:(t.nd k).kind=1∧(t.nd k).n<0)(j:Int):(j=(k:Int)∨Neg t k j)↔Neg t (k+1) j:=by
 constructor
 ·rintro(rfl|⟨i,hi,r⟩)
  ·exact⟨k,by omega,rfl,h⟩
  ·exact⟨i,by omega,r⟩
 ·rintro⟨i,hi,e,r⟩
  by_cases hik:i=k
  ·subst hik;exact .inl e
  ·exact .inr ⟨i,by omega,e,r⟩
theorem Left.no{t:Tr}{m:Nat}(hm:m<t.items.length)(h:¬(t.nd t.items[m]).kind=40)(j:Int):Left t (t.items.take m) j↔Left t (t.items.take (m+1)) j:=by
 rw[List.take_succ_eq_append_getElem hm];constructor
 ·intro hl it hit hk
  rcases List.mem_append.1 hit with hit|hit
  ·exact hl it hit hk
  ·rw[List.mem_singleton]at hit;subst hit;exact absurd hk h
 ·intro hl it hit hk
  exact hl it (List.mem_append_left _ hit) hk
theorem Left.yes{t:Tr}{m:Nat}(hm:m<t.items.length)(h:(t.nd t.items[m]).kind=40)(j:Int):(Left t (t.items.take m) j∧j ∉ (t.nd t.items[m]).kids)↔Left t (t.items.take (m+1)) j:=by
 rw[List.take_succ_eq_append_getElem hm];constructor
 ·rintro⟨hl,hn⟩ it hit hk
  rcases List.mem_append.1 hit with hit|hit
  ·exact hl it hit hk
  ·rw[List.mem_singleton]at hit;subst hit;exact hn
 ·intro hl
  exact⟨fun it hit hk=>hl it (List.mem_append_left _ hit) hk,hl _ (List.mem_append_right _ (List.mem_singleton.2 rfl)) h⟩
theorem wN(v:TreeV)(t:Tr)(w:World)(bd:Bd t)(hkid:∀i,i<t.nodes.length→∀k∈(t.nd i).kids,0≤k∧k<(i:Int))(hitem:∀it∈t.items,0≤it∧it<(t.nodes.length:Int))(h:IsTree w v t) :
 Calls prog 144 #[v.val t] w (zq w (dK t)):=by
 have HT:=Hd h;have BD:=Hd bd;have HKID:=Hd hkid;have HIT:=Hd hitem;have hn3:=bd.n;have hi3:=bd.i;have hmm:=@run_makeMap prog;have law:=Hd (int_keyed (P:=prog) fS);obtain⟨na,nc,ia,ic⟩:=v;clear h bd hkid hitem;unfold TreeV.val;go_enter func144,ntmps144;go_wp2
 go_loopw [14] (fun t14 wr=>∃(k:Nat) (D:DataW Unit),t14=.int .i64 k∧k≤t.nodes.length∧Hid (OwnM wr (w.heap.size+1) k D)∧Hid (IntSet D (Neg t k))∧Hid (Below (w.heap.size+1) (boxT w ⟨na,nc,ia,ic⟩ t) wr)) (fun t14 _=>t.nodes.length-(intOf t14).toNat)
 case atStart=>exact⟨0,.map [],rfl,Nat.zero_le _,Hd (by have:=World.ownsMap_made (H:=Unit) (boxT w ⟨na,nc,ia,ic⟩ t) prog 3 (plainElem prog 4);rw[World.size_alloc]at this;exact this),Hd (IntSet.empty.congr fun j=>⟨False.elim,fun⟨i,hi,_⟩=>by omega⟩),Hd (brf.alloc (by simp) _)⟩
 case round=>
  obtain⟨k,D,rfl,hk,HO,HS,HB⟩:=hrel;obtain⟨b0,b1,hT,⟨hs,hs1,hs2⟩,hbw⟩:=boxed HB.out HT.out;have HTT:=Hd hT;have hlt0:=HO.out.lt;by_cases hlt:k<t.nodes.length
  ·obtain⟨b,o,ka,kc,ea,hb,c0,c1,c2,c3,c4,hkr⟩:=hT.nodes.at hlt
   simp only at ea;subst ea;have hnd:=t.nd_at hlt;obtain⟨d,hd⟩:∃d,t.nodes[k]=d:=⟨_,rfl⟩
   rw[hd]at c0 c1 c2 c3 c4 hnd;have HND:=Hd hnd;clear hT hkr hnd hd;cases hk1:(d.kind==1)with
   | false=>
     have hno:=Neg.no (t:=t) (k:=k) (by rw[HND.out];rintro⟨e,-⟩;rw[e]at hk1;cases hk1);have HNO:=Hd hno;clear hno;go_wp2
     go_roundw
     case rel=>exact⟨k+1,D,by go_num,by omega,Hd ((HO.out.alloc _).mono (Nat.le_succ _)),Hd (HS.out.congr HNO.out),Hd (HB.out.alloc (by omega) _)⟩
     case measure=>simp[intOf];omega
   | true=>
     by_cases hn:d.n<0
     ·have hyes:=Neg.yes (t:=t) (k:=k) (by rw[HND.out];exact⟨by simpa using hk1,hn⟩)
      have HYES:=Hd hyes;clear hyes
      go_wp2_with (first|(at_mapUpdate;refine wpList_mapUpdate_own _ rfl _ _ _ 127 rfl 3 4 law.out xV _ (w.heap.size+1) k _ rfl (HO.out.alloc _) (by unfold maxLen;omega) _ _ (.int .i64 k) rfl rfl (keyOf_int_mk fS (WalkArith.wf_i64 (by omega))) (.lit (.bool true)) [] (plainElem_bool KY true) ?_;intro w1 hown1 hgrow1))
      go_roundw
      case rel=>exact⟨k+1,_,by go_num,by omega,Hd hown1,Hd ((HS.out.put k _).congr HYES.out),Hd ((HB.out.alloc (by omega) _).grown hgrow1 (by simp;omega) (fun j hj=>by cases hj;exact nlr))⟩
      case measure=>simp[intOf];omega
     ·have hno:=Neg.no (t:=t) (k:=k) (by rw[HND.out];exact fun e=>hn e.2)
      have HNO:=Hd hno;clear hno;go_wp2
      go_roundw
      case rel=>exact⟨k+1,D,by go_num,by omega,Hd ((HO.out.alloc _).mono (Nat.le_succ _)),Hd (HS.out.congr HNO.out),Hd (HB.out.alloc (by omega) _)⟩
      case measure=>simp[intOf];omega
  ·obtain rfl:k=t.nodes.length:=by omega
   have HS1:=HS;have HB1:=HB;go_wp2;rename World=>wk
   go_loopw [33] (fun t33 wr=>∃(m:Nat) (D:DataW Unit),t33=.int .i64 m∧m≤t.items.length∧Hid (OwnM wr (w.heap.size+1) t.nodes.length D)∧Hid (IntSet D (fun j=>Neg t t.nodes.length j∧Left t (t.items.take m) j))∧Hid (Below (w.heap.size+1) (boxT w ⟨na,nc,ia,ic⟩ t) wr)) (fun t33 _=>t.items.length-(intOf t33).toNat)
   case atStart=>exact⟨0,D,rfl,Nat.zero_le _,HO,Hd (HS1.out.congr fun j=>⟨fun h=>⟨h,fun it hit=>by simp at hit⟩,fun h=>h.1⟩),HB1⟩
   case round=>
    obtain⟨m,D,rfl,hm,HO,HS,HB⟩:=hrel;obtain⟨b0,b1,hT,⟨hs,hs1,hs2⟩,hbw⟩:=boxed HB.out HT.out;have hlt0:=HO.out.lt;by_cases hlt:m<t.items.length
    ·obtain⟨bi,oi,ei,hbi,hci⟩:=Ints.at hT.items hlt
     simp only at ei;subst ei;have hx:=HIT.out _ (List.getElem_mem hlt);have hno:=Left.no hlt;have hyes:=Left.yes hlt;obtain⟨x,hxx⟩:∃x,t.items[m]=x:=⟨_,rfl⟩
     rw[hxx]at hci hx hno hyes;obtain⟨hx0,hx1⟩:=hx;obtain⟨i,rfl⟩:=Int.eq_ofNat_of_zero_le hx0;have hin:i<t.nodes.length:=by omega
     obtain⟨b,o,ka,kc,ea,hb,c0,c1,c2,c3,c4,hkr⟩:=HT.out.nodes.at hin;simp only at ea;subst ea;have hnd:=t.nd_at hin;have hkk:=HKID.out i hin;have hkl:=BD.out.k _ (List.getElem_mem hin);obtain⟨d,hd⟩:∃d,t.nodes[i]=d:=⟨_,rfl⟩
     rw[hd]at c0 c1 c2 c3 c4 hkr hnd hkl;obtain⟨hcw,-⟩:=bcell hbw;have e0:=(hcw b (o+i*5) hb).trans c0;have e3:=(hcw b (o+i*5+3) hb).trans c3;clear c0 c1 c2 c3 c4 hcw;rw[hnd]at hno hyes hkk;have HKR:=Hd hkr;have HKK:=Hd hkk;have HNO:=Hd hno;have HYES:=Hd hyes;clear hT hkr hnd hd hno hyes hxx hkk hx0;cases hk1:(d.kind==40)with
     | false=>
       have hk2:¬d.kind=40:=by simpa using hk1
       have HK2:=Hd hk2;go_wp2
       go_roundw
       case rel=>exact⟨m+1,D,by go_num,by omega,HO,Hd (HS.out.congr fun j=>and_congr_right fun _=>HNO.out HK2.out j),HB⟩
       case measure=>simp[intOf];omega
     | true=>
       have hk2:d.kind=40:=by simpa using hk1
       have HK2:=Hd hk2;have HS2:=HS;have HO2:=HO;have HB2:=HB;clear hk2;go_wp2;rename World=>wj
       go_loopw [51] (fun t51 wr=>∃(q:Nat) (D:DataW Unit),t51=.int .i64 q∧q≤d.kids.length∧Hid (OwnM wr (w.heap.size+1) t.nodes.length D)∧Hid (IntSet D (fun j=>(Neg t t.nodes.length j∧Left t (t.items.take m) j)∧j ∉ d.kids.take q))∧Hid (Below (w.heap.size+1) (boxT w ⟨some ⟨b,o,none⟩,nc,some ⟨bi,oi,none⟩,ic⟩ t) wr)) (fun t51 _=>d.kids.length-(intOf t51).toNat)
       case atStart=>exact⟨0,D,rfl,Nat.zero_le _,HO2,Hd (HS2.out.congr fun j=>⟨fun h=>⟨h,by simp⟩,fun h=>h.1⟩),HB2⟩
       case round=>
        obtain⟨q,D,rfl,hq,HO,HS,HB⟩:=hrel;obtain⟨b0,b1,hT,⟨hs,hs1,hs2⟩,hbw⟩:=boxed HB.out HT.out;have hlt0:=HO.out.lt;by_cases hltq:q<d.kids.length
        ·obtain⟨bk,ok,ek,hbk,hck⟩:=Ints.at HKR.out hltq
         subst ek;obtain⟨hcw,-⟩:=bcell hbw;have hck':=(hcw bk (ok+q) hbk).trans hck;have hy:=HKK.out _ (List.getElem_mem hltq)
         have hmem:∀j,j ∉ d.kids.take (q+1)↔(j≠d.kids[q]∧j ∉ d.kids.take q):=by
          intro j;rw[List.take_succ_eq_append_getElem hltq];simp only[List.mem_append,List.mem_singleton,not_or];exact and_comm
         obtain⟨y,hyy⟩:∃y,d.kids[q]=y:=⟨_,rfl⟩
         rw[hyy]at hck' hy;simp only[hyy]at hmem;have HMEM:=Hd hmem;obtain⟨hy0,hy1⟩:=hy;clear hcw hck hyy hmem
         go_wp2_with (first|(at_delete;refine wpList_delete_own _ rfl _ _ 127 3 rfl 4 law.out xV _ (w.heap.size+1) t.nodes.length _ rfl HO.out _ (.int .i64 y) rfl (keyOf_int_mk fS (WalkArith.wf_i64 (by omega))) ?_;intro w1 hown1 hturn1))
         go_roundw
         case rel=>exact⟨q+1,_,by go_num,by omega,Hd hown1,Hd ((HS.out.del y).congr fun j=>by rw[HMEM.out j];constructor<;>(intro h;exact⟨h.2.1,h.1,h.2.2⟩)),Hd (HB.out.grown hturn1.grown (by omega) (fun j hj=>by cases hj;exact nlr))⟩
         case measure=>simp[intOf];omega
        ·obtain rfl:q=d.kids.length:=by omega
         have HSE:=HS;go_wp2
         go_roundw
         case rel=>exact⟨m+1,D,by go_num,by omega,HO,Hd (HSE.out.congr fun j=>by rw[List.take_length,and_assoc];exact and_congr_right fun _=>HYES.out HK2.out j),HB⟩
         case measure=>simp[intOf];omega
    ·obtain rfl:m=t.items.length:=by omega
     have hz:=HS.out.size;have hsz:=HO.out.size_le;obtain⟨z,hz'⟩:∃z,Maps.size D=z:=⟨_,rfl⟩
     have hfin:dK t=decide (z=0):=by
      rw[←hz',Bool.eq_iff_iff,decide_eq_true_iff,hz,BX];simp only[List.take_length];rfl
     have HF:=Hd hfin;clear hz hfin
     go_wp2_with (first|(at_len;refine wpList_len_own _ rfl _ 127 rfl 3 4 xV _ (w.heap.size+1) t.nodes.length D rfl HO.out ?_;rw[hz']))
     go_ret;refine⟨zb ?_,hbw⟩;rw[HF.out,Bool.eq_iff_iff,beq_iff_eq,decide_eq_true_iff];omega
end
section
open Go.RowKit
theorem MC{t:Tr}(rg:Rg t)(hl:¬(800<t.nodes.length∨60<t.items.length))(h1:cJ t=true)(h2:aL t=true)(h3:dK t=true):dR t=true:=by
 cases hf:dR t with
 |true=>rfl
 | false=>
   have:=yD rg;unfold fK zJ at this;rw[if_neg hl,if_neg hl,h1,h2,h3,hf]at this;simp only[Bool.not_true,Bool.and_self,Bool.false_eq_true,if_false]at this;split at this
   ·omega
   ·split at this<;>omega
theorem xA{t:Tr}{i:Nat}(h:dJ t i=true):∀k∈(t.nd i).kids,0≤k∧k<(i:Int):=by
 cases hs:fQ (t.nd i).kind (t.nd i).n with
 |none=>rw[oX hs]at h;cases h
 | some s=>
   rw[oY hs]at h;simp only[Bool.and_eq_true,List.all_eq_true]at h;intro k hk;have:=inRange_iff.1 (h.2.1 k hk);omega
theorem wV{t:Tr}(h:800<t.nodes.length∨60<t.items.length):fK t=5:=if_pos h
theorem tX{t:Tr}(hl:¬(800<t.nodes.length∨60<t.items.length))(h:cJ t=false):fK t=4:=by
 unfold fK;rw[if_neg hl,h];rfl
theorem sA{t:Tr}(hl:¬(800<t.nodes.length∨60<t.items.length))(h1:cJ t=true)(h:aL t=false):fK t=4:=by
 unfold fK;rw[if_neg hl,h1,h];rfl
theorem tY{t:Tr}(hl:¬(800<t.nodes.length∨60<t.items.length))(h1:cJ t=true)(h2:aL t=true)(h:dK t=false):fK t=4:=by
 unfold fK;rw[if_neg hl,h1,h2,h];rfl
theorem AX{t:Tr}(hl:¬(800<t.nodes.length∨60<t.items.length))(h1:cJ t=true)(h2:aL t=true)(h3:dK t=true)(h:30<zW t):fK t=5:=by
 unfold fK;rw[if_neg hl,h1,h2,h3,if_pos h];rfl
theorem DT{t:Tr}(hl:¬(800<t.nodes.length∨60<t.items.length))(h1:cJ t=true)(h2:aL t=true)(h3:dK t=true)(h:¬30<zW t):fK t=if 0≤aF t then 3 else 0:=by
 unfold fK;rw[if_neg hl,h1,h2,h3,if_neg h];rfl
theorem BI{t:Tr}{k:Nat}(hk:k<t.nodes.length)(h:dJ t k=false):cJ t=false:=by
 unfold cJ;rw[Bool.eq_false_iff];intro ha;have:=List.all_eq_true.1 ha k (List.mem_range.2 hk);rw[h]at this;cases this
theorem wG(v:TreeV)(t:Tr)(w:World)(bd:Bd t)(rg:Rg t)(hg:GV w)(h:IsTree w v t) :
 Calls prog 93 #[v.val t] w (dL w (fK t)):=by
 have HT:=Hd h;have BD:=Hd bd;have HG:=Hd hg;have RG:=Hd rg;have hn3:=bd.n;obtain⟨na,nc,ia,ic⟩:=v;have HPL:∀W,Calls prog 98 #[(TreeV.mk na nc ia ic).val t] W (zq W (decide (800<t.nodes.length∨60<t.items.length))):=fun W=>fF ⟨na,nc,ia,ic⟩ t W bd;have HL:=Hd HPL;have HB0:Hid (Below (w.heap.size+1) (boxT w ⟨na,nc,ia,ic⟩ t) (boxT w ⟨na,nc,ia,ic⟩ t)):=Hd brf;clear h bd rg hg HPL;unfold TreeV.val at *;by_cases hlim:800<t.nodes.length∨60<t.items.length
 ·have HC:=Hd (wV hlim)
  have HLM:=Hd (decide_eq_true hlim);clear hlim;go_enter func93,ntmps93
  go_wp2_with (go_at_call 98;refine(HL.out _).mono ?_;rw[HLM.out];rintro e w1 ⟨rfl,hb1⟩;have HB1:Hid (Below (w.heap.size+1) (boxT w ⟨na,nc,ia,ic⟩ t) w1):=Hd (HB0.out.trans (hb1.mono (by simp)));obtain⟨b01,b11,hT1,-,hbw1⟩:=boxed HB1.out HT.out;have HT1:=Hd hT1;have HBW1:=Hd hbw1;clear hb1 hT1 hbw1)
  go_ret;exact⟨zo HC.out.symm,HBW1.out⟩
 ·have HLI:=Hd hlim
  have HLM:=Hd (decide_eq_false hlim);clear hlim;go_enter func93,ntmps93
  go_wp2_with (go_at_call 98;refine(HL.out _).mono ?_;rw[HLM.out];rintro e w1 ⟨rfl,hb1⟩;have HB1:Hid (Below (w.heap.size+1) (boxT w ⟨na,nc,ia,ic⟩ t) w1):=Hd (HB0.out.trans (hb1.mono (by simp)));obtain⟨b01,b11,hT1,-,hbw1⟩:=boxed HB1.out HT.out;have HT1:=Hd hT1;have HBW1:=Hd hbw1;clear hb1 hT1 hbw1)
  go_loopw [9] (fun t9 wr=>∃k:Nat,t9=.int .i64 k∧k≤t.nodes.length∧Hid (∀i,i<k→dJ t i=true)∧Hid (Below (w.heap.size+1) (boxT w ⟨na,nc,ia,ic⟩ t) wr)) (fun t9 _=>t.nodes.length-(intOf t9).toNat)
  case atStart=>exact⟨0,rfl,Nat.zero_le _,Hd (fun i hi=>by omega),HB1⟩
  case round=>
   obtain⟨k,rfl,hk,HA,HB⟩:=hrel;obtain⟨b0,b1,hT,-,hbw⟩:=boxed HB.out HT.out;have HTR:=Hd hT;have HBW:=Hd hbw;clear hT hbw;by_cases hlt:k<t.nodes.length
   ·have HF:=Hd (wI ⟨na,nc,ia,ic⟩ t k wr BD.out hlt (HG.out.mono HBW.out nlr) HTR.out)
    unfold TreeV.val at HF
    cases hfk:dJ t k with
    | false=>
      have HFK:=Hd hfk;have HC:=Hd (tX HLI.out (BI hlt hfk));clear hfk
      go_wp2_with (go_at_call 142;refine HF.out.mono ?_;rw[HFK.out];rintro e w2 ⟨rfl,hb2⟩;have HB2:=Hd hb2;clear hb2)
      go_ret;exact⟨zo HC.out.symm,HBW.out.trans (HB2.out.mono HBW.out.size)⟩
    | true=>
      have HFK:=Hd hfk;clear hfk
      go_wp2_with (go_at_call 142;refine HF.out.mono ?_;rw[HFK.out];rintro e w2 ⟨rfl,hb2⟩;have HB2:=Hd hb2;clear hb2)
      go_roundw
      case rel=>
       refine⟨k+1,by go_num,by omega,Hd (fun i hi=>?_),Hd (HB.out.trans (HB2.out.mono (by have:=HB.out.size;simpa using this)))⟩;by_cases e:i=k
       ·rw[e];exact HFK.out
       ·exact HA.out i (by omega)
      case measure=>simp[intOf];omega
   ·obtain rfl:k=t.nodes.length:=by omega
    have HFS:Hid (cJ t=true):=Hd (List.all_eq_true.2 fun i hi=>HA.out i (List.mem_range.1 hi));have HKID:Hid (∀i,i<t.nodes.length→∀k∈(t.nd i).kids,0≤k∧k<(i:Int)):=Hd (fun i hi=>xA (HA.out i hi));have HO:∀W,IsTree W ⟨na,nc,ia,ic⟩ t→Calls prog 143 #[.agg #[.slice na t.nodes.length nc,.slice ia t.items.length ic]] W (zq W (aL t)):=fun W h=>tL ⟨na,nc,ia,ic⟩ t W BD.out HKID.out h;have HOR:=Hd HO;clear HO
    cases hor:aL t with
    | false=>
      have HOF:=Hd hor;have HC:=Hd (sA HLI.out HFS.out hor);clear hor
      go_wp2_with (go_at_call 143;refine(HOR.out _ HTR.out).mono ?_;rw[HOF.out];rintro e w2 ⟨rfl,hb2⟩;have HB2:Hid (Below (w.heap.size+1) (boxT w ⟨na,nc,ia,ic⟩ t) w2):=Hd (HB.out.trans (hb2.mono (by have:=HB.out.size;simpa using this)));obtain⟨b02,b12,hT2,-,hbw2⟩:=boxed HB2.out HT.out;have HT2:=Hd hT2;have HBW2:=Hd hbw2;clear hb2 hT2 hbw2)
      go_ret;exact⟨zo HC.out.symm,HBW2.out⟩
    | true=>
      have HOF:=Hd hor;have HS:∀W,IsTree W ⟨na,nc,ia,ic⟩ t→Calls prog 144 #[.agg #[.slice na t.nodes.length nc,.slice ia t.items.length ic]] W (zq W (dK t)):=fun W h=>wN ⟨na,nc,ia,ic⟩ t W BD.out HKID.out (sM hor) h;have HSG:=Hd HS;clear HS hor
      cases hsg:dK t with
      | false=>
        have HSF:=Hd hsg;have HC:=Hd (tY HLI.out HFS.out HOF.out hsg);clear hsg
        go_wp2_with (first
         | (go_at_call 143;refine(HOR.out _ HTR.out).mono ?_;rw[HOF.out];rintro e w2 ⟨rfl,hb2⟩;have HB2:Hid (Below (w.heap.size+1) (boxT w ⟨na,nc,ia,ic⟩ t) w2):=Hd (HB.out.trans (hb2.mono (by have:=HB.out.size;simpa using this)));obtain⟨b02,b12,hT2,-,hbw2⟩:=boxed HB2.out HT.out;have HT2:=Hd hT2;have HBW2:=Hd hbw2;clear hb2 hT2 hbw2)
         | (go_at_call 144;refine(HSG.out _ HT2.out).mono ?_;rw[HSF.out];rintro e w3 ⟨rfl,hb3⟩;have HB3:Hid (Below (w.heap.size+1) (boxT w ⟨na,nc,ia,ic⟩ t) w3):=Hd (HB2.out.trans (hb3.mono (by have:=HB2.out.size;simpa using this)));obtain⟨b03,b13,hT3,-,hbw3⟩:=boxed HB3.out HT.out;have HT3:=Hd hT3;have HBW3:=Hd hbw3;clear hb3 hT3 hbw3))
        go_ret;exact⟨zo HC.out.symm,HBW3.out⟩
      | true=>
        have HSF:=Hd hsg;have HFR:=MC RG.out HLI.out HFS.out HOF.out hsg;have HCH:Hid (Choices t):=Hd (fun i hi=>oW HFR hi);have HD:∀W,IsTree W ⟨na,nc,ia,ic⟩ t→Calls prog 129 #[.agg #[.slice na t.nodes.length nc,.slice ia t.items.length ic]] W (dL W (zW t)):=fun W h=>fU ⟨na,nc,ia,ic⟩ t W BD.out HKID.out h;have HU:∀W,IsTree W ⟨na,nc,ia,ic⟩ t→Calls prog 130 #[.agg #[.slice na t.nodes.length nc,.slice ia t.items.length ic]] W (dL W (aF t)):=fun W h=>gZ ⟨na,nc,ia,ic⟩ t W BD.out HCH.out h;have HC5:=Hd (AX HLI.out HFS.out HOF.out hsg);have HC6:=Hd (DT HLI.out HFS.out HOF.out hsg);obtain⟨dp,hdp⟩:∃dp,zW t=dp:=⟨_,rfl⟩
        obtain⟨z,hz⟩:∃z,aF t=z:=⟨_,rfl⟩
        rw[hdp]at HD HC5 HC6;rw[hz]at HU HC6;have HDE:=Hd HD;have HOU:=Hd HU;clear HD HU hsg HFR hdp hz;by_cases h30:30<dp
        ·have H30:=Hd h30
         go_wp2_with (first
          | (go_at_call 143;refine(HOR.out _ HTR.out).mono ?_;rw[HOF.out];rintro e w2 ⟨rfl,hb2⟩;have HB2:Hid (Below (w.heap.size+1) (boxT w ⟨na,nc,ia,ic⟩ t) w2):=Hd (HB.out.trans (hb2.mono (by have:=HB.out.size;simpa using this)));obtain⟨b02,b12,hT2,-,hbw2⟩:=boxed HB2.out HT.out;have HT2:=Hd hT2;have HBW2:=Hd hbw2;clear hb2 hT2 hbw2)
          | (go_at_call 144;refine(HSG.out _ HT2.out).mono ?_;rw[HSF.out];rintro e w3 ⟨rfl,hb3⟩;have HB3:Hid (Below (w.heap.size+1) (boxT w ⟨na,nc,ia,ic⟩ t) w3):=Hd (HB2.out.trans (hb3.mono (by have:=HB2.out.size;simpa using this)));obtain⟨b03,b13,hT3,-,hbw3⟩:=boxed HB3.out HT.out;have HT3:=Hd hT3;have HBW3:=Hd hbw3;clear hb3 hT3 hbw3)
          | (go_at_call 129;refine(HDE.out _ HT3.out).mono ?_;rintro e w4 ⟨rfl,hb4⟩;have HB4:Hid (Below (w.heap.size+1) (boxT w ⟨na,nc,ia,ic⟩ t) w4):=Hd (HB3.out.trans (hb4.mono (by have:=HB3.out.size;simpa using this)));obtain⟨b04,b14,hT4,-,hbw4⟩:=boxed HB4.out HT.out;have HT4:=Hd hT4;have HBW4:=Hd hbw4;clear hb4 hT4 hbw4))
         go_ret;exact⟨zo (HC5.out H30.out).symm,HBW4.out⟩
        ·have H30:=Hd h30
         by_cases hz:0≤z
         ·have HZ:=Hd hz
          go_wp2_with (first
           | (go_at_call 143;refine(HOR.out _ HTR.out).mono ?_;rw[HOF.out];rintro e w2 ⟨rfl,hb2⟩;have HB2:Hid (Below (w.heap.size+1) (boxT w ⟨na,nc,ia,ic⟩ t) w2):=Hd (HB.out.trans (hb2.mono (by have:=HB.out.size;simpa using this)));obtain⟨b02,b12,hT2,-,hbw2⟩:=boxed HB2.out HT.out;have HT2:=Hd hT2;have HBW2:=Hd hbw2;clear hb2 hT2 hbw2)
           | (go_at_call 144;refine(HSG.out _ HT2.out).mono ?_;rw[HSF.out];rintro e w3 ⟨rfl,hb3⟩;have HB3:Hid (Below (w.heap.size+1) (boxT w ⟨na,nc,ia,ic⟩ t) w3):=Hd (HB2.out.trans (hb3.mono (by have:=HB2.out.size;simpa using this)));obtain⟨b03,b13,hT3,-,hbw3⟩:=boxed HB3.out HT.out;have HT3:=Hd hT3;have HBW3:=Hd hbw3;clear hb3 hT3 hbw3)
           | (go_at_call 129;refine(HDE.out _ HT3.out).mono ?_;rintro e w4 ⟨rfl,hb4⟩;have HB4:Hid (Below (w.heap.size+1) (boxT w ⟨na,nc,ia,ic⟩ t) w4):=Hd (HB3.out.trans (hb4.mono (by have:=HB3.out.size;simpa using this)));obtain⟨b04,b14,hT4,-,hbw4⟩:=boxed HB4.out HT.out;have HT4:=Hd hT4;have HBW4:=Hd hbw4;clear hb4 hT4 hbw4)
           | (go_at_call 130;refine(HOU.out _ HT4.out).mono ?_;rintro e w5 ⟨rfl,hb5⟩;have HB5:Hid (Below (w.heap.size+1) (boxT w ⟨na,nc,ia,ic⟩ t) w5):=Hd (HB4.out.trans (hb5.mono (by have:=HB4.out.size;simpa using this)));obtain⟨b05,b15,hT5,-,hbw5⟩:=boxed HB5.out HT.out;have HT5:=Hd hT5;have HBW5:=Hd hbw5;clear hb5 hT5 hbw5))
          go_ret;exact⟨zo (by rw[HC6.out H30.out,if_pos HZ.out]),HBW5.out⟩
         ·have HZ:=Hd hz
          go_wp2_with (first
           | (go_at_call 143;refine(HOR.out _ HTR.out).mono ?_;rw[HOF.out];rintro e w2 ⟨rfl,hb2⟩;have HB2:Hid (Below (w.heap.size+1) (boxT w ⟨na,nc,ia,ic⟩ t) w2):=Hd (HB.out.trans (hb2.mono (by have:=HB.out.size;simpa using this)));obtain⟨b02,b12,hT2,-,hbw2⟩:=boxed HB2.out HT.out;have HT2:=Hd hT2;have HBW2:=Hd hbw2;clear hb2 hT2 hbw2)
           | (go_at_call 144;refine(HSG.out _ HT2.out).mono ?_;rw[HSF.out];rintro e w3 ⟨rfl,hb3⟩;have HB3:Hid (Below (w.heap.size+1) (boxT w ⟨na,nc,ia,ic⟩ t) w3):=Hd (HB2.out.trans (hb3.mono (by have:=HB2.out.size;simpa using this)));obtain⟨b03,b13,hT3,-,hbw3⟩:=boxed HB3.out HT.out;have HT3:=Hd hT3;have HBW3:=Hd hbw3;clear hb3 hT3 hbw3)
           | (go_at_call 129;refine(HDE.out _ HT3.out).mono ?_;rintro e w4 ⟨rfl,hb4⟩;have HB4:Hid (Below (w.heap.size+1) (boxT w ⟨na,nc,ia,ic⟩ t) w4):=Hd (HB3.out.trans (hb4.mono (by have:=HB3.out.size;simpa using this)));obtain⟨b04,b14,hT4,-,hbw4⟩:=boxed HB4.out HT.out;have HT4:=Hd hT4;have HBW4:=Hd hbw4;clear hb4 hT4 hbw4)
           | (go_at_call 130;refine(HOU.out _ HT4.out).mono ?_;rintro e w5 ⟨rfl,hb5⟩;have HB5:Hid (Below (w.heap.size+1) (boxT w ⟨na,nc,ia,ic⟩ t) w5):=Hd (HB4.out.trans (hb5.mono (by have:=HB4.out.size;simpa using this)));obtain⟨b05,b15,hT5,-,hbw5⟩:=boxed HB5.out HT.out;have HT5:=Hd hT5;have HBW5:=Hd hbw5;clear hb5 hT5 hbw5))
          go_ret;exact⟨zo (by rw[HC6.out H30.out,if_neg (by have:=HZ.out;omega)]),HBW5.out⟩
theorem jO(v:TreeV)(t:Tr)(w:World)(bd:Bd t)(rg:Rg t)(hg:GV w)(h:IsTree w v t) :
 Calls prog 93 #[v.val t] w (dL w (zJ t)):=yD rg▸wG v t w bd rg hg h
def idxI(l:List Int)(n:Int):Int:=first (fun i=>l[i]?==some n) l.length 0
theorem yJ(l:List Int)(n:Int):decide (0≤idxI l n)=l.contains n:=by
 rw[Bool.eq_iff_iff,decide_eq_true_eq,List.contains_iff_mem];unfold idxI;have h:=iY (fun i=>l[i]?==some n) l.length;rw[h,Bool.eq_false_iff,Ne,List.all_eq_true];constructor
 ·intro hh
  apply Classical.byContradiction;intro hm;apply hh;intro i hi;have hi:=List.mem_range.1 hi;cases hx:(l[i]?==some n)with
  |false=>rfl
  | true=>
    rw[beq_iff_eq]at hx;exact absurd (List.mem_of_getElem? hx) hm
 ·intro hm hh
  obtain⟨i,hi,rfl⟩:=List.getElem_of_mem hm;have:=hh i (List.mem_range.2 hi);simp[hi]at this
theorem tA(a:Option Addr)(c:Nat)(l:List Int)(n:Int)(w:World)(hm:l.length≤1000000000)(h:U8s w a c l) :
 Calls prog 269 #[.slice a l.length c,.int .u8 n] w fun e w'=>e=.returned (intV (idxI l n))∧w=w':=by
 have HR:=Hd h;clear h;go_enter func269,ntmps269;go_wp2
 go_loop [8] (fun i=>∃k:Nat,k≤l.length∧i=.int .i64 k∧Hid (idxI l n=first (fun i=>l[i]?==some n) l.length k)) (fun i=>l.length-(intOf i).toNat)
 case atStart=>exact⟨0,Nat.zero_le _,rfl,Hd rfl⟩
 case round=>
  obtain⟨k,hk,rfl,HA⟩:=hrel;by_cases hlt:k<l.length
  ·obtain⟨b,o,rfl,hb,hc⟩:=U8s.at HR.out hlt
   obtain⟨x,hx⟩:∃x,l[k]=x:=⟨_,rfl⟩
   rw[hx]at hc;have HX:=Hd hx;clear hx;cases he:(n==x)with
   | true=>
     have HE:=Hd he;go_wp2;go_ret;exact⟨zo (by rw[HA.out,aE hlt (by have:=HE.out;simp at this;simp[hlt,HX.out,this])]),rfl⟩
   | false=>
     have HE:=Hd he;go_wp2
     go_round
     case rel=>exact⟨k+1,by omega,by go_num,Hd (by rw[HA.out,cI hlt (by have:=HE.out;simp at this;simp[hlt,HX.out];exact fun h=>this h.symm)])⟩
     case measure=>simp[intOf];omega
  ·go_wp2
   go_ret;exact⟨zo (by rw[HA.out,cD (by omega)]),rfl⟩
theorem nU(a:Option Addr)(c:Nat)(l:List Int)(n:Int)(w:World)(hm:l.length≤1000000000)(h:U8s w a c l) :
 Calls prog 206 #[.slice a l.length c,.int .u8 n] w fun e w'=>e=.returned (.bool (l.contains n))∧w=w':=by
 have HX:=Hd (yJ l n);have HC:=Hd (tA a c l n w hm h);clear h;go_enter func206,ntmps206
 go_wp2_with (go_at_call 269;refine HC.out.mono ?_;rintro e w' ⟨rfl,rfl⟩)
 go_ret;exact⟨zb (by rw[←HX.out]),rfl⟩
theorem vV(a:Option Addr)(c:Nat)(l:List Int)(n:Int)(w:World)(hm:l.length≤1000000000)(h:Ints w a c l) :
 Calls prog 207 #[.slice a l.length c,intV n] w fun e w'=>e=.returned (intV (idxI l n))∧w=w':=by
 have HR:=Hd h;clear h;go_enter func207,ntmps207;go_wp2
 go_loop [8] (fun i=>∃k:Nat,k≤l.length∧i=.int .i64 k∧Hid (idxI l n=first (fun i=>l[i]?==some n) l.length k)) (fun i=>l.length-(intOf i).toNat)
 case atStart=>exact⟨0,Nat.zero_le _,rfl,Hd rfl⟩
 case round=>
  obtain⟨k,hk,rfl,HA⟩:=hrel;by_cases hlt:k<l.length
  ·obtain⟨b,o,rfl,hb,hc⟩:=Ints.at HR.out hlt
   obtain⟨x,hx⟩:∃x,l[k]=x:=⟨_,rfl⟩
   rw[hx]at hc;have HX:=Hd hx;clear hx;cases he:(n==x)with
   | true=>
     have HE:=Hd he;go_wp2;go_ret;exact⟨zo (by rw[HA.out,aE hlt (by have:=HE.out;simp at this;simp[hlt,HX.out,this])]),rfl⟩
   | false=>
     have HE:=Hd he;go_wp2
     go_round
     case rel=>exact⟨k+1,by omega,by go_num,Hd (by rw[HA.out,cI hlt (by have:=HE.out;simp at this;simp[hlt,HX.out];exact fun h=>this h.symm)])⟩
     case measure=>simp[intOf];omega
  ·go_wp2
   go_ret;exact⟨zo (by rw[HA.out,cD (by omega)]),rfl⟩
theorem kD(a:Option Addr)(c:Nat)(l:List Int)(n:Int)(w:World)(hm:l.length≤1000000000)(h:Ints w a c l) :
 Calls prog 151 #[.slice a l.length c,intV n] w fun e w'=>e=.returned (.bool (l.contains n))∧w=w':=by
 have HX:=Hd (yJ l n);have HC:=Hd (vV a c l n w hm h);clear h;go_enter func151,ntmps151
 go_wp2_with (go_at_call 207;refine HC.out.mono ?_;rintro e w' ⟨rfl,rfl⟩)
 go_ret;exact⟨zb (by rw[←HX.out]),rfl⟩
theorem cN(n:Int)(w:World):Calls prog 184 #[.int .u8 n] w fun e w'=>e=.returned (.bool (aV n))∧w=w':=by
 go_enter func184,ntmps184;go_wp2
 all_goals
  go_ret;refine⟨zb ?_,rfl⟩
  (try simp_all[aV])<;>(try omega)
theorem tC(n d:Int)(w:World):Calls prog 148 #[.int .u8 n,.int .u8 d] w (zq w (suits n d)):=by
 have HC:=Hd (nU (some ⟨w.heap.size,0,none⟩) 4 [40,43,20,34] d (w.alloc (.cells #[.int .u8 40,.int .u8 43,.int .u8 20,.int .u8 34] 5)) (by decide) (Row.made w [.int .u8 40,.int .u8 43,.int .u8 20,.int .u8 34] 5 rfl nlr));go_enter func148,ntmps148;by_cases h3:n=3
 ·subst h3
  go_wp2_with (go_at_call 206;refine HC.out.mono ?_;rintro e w' ⟨rfl,rfl⟩)
  go_ret;exact⟨zb (by rw[Bool.eq_iff_iff];simp[suits,or_assoc]),by go_grown⟩
 ·go_wp2
  all_goals
   go_ret;refine⟨zb ?_,brf⟩
   (try simp_all[suits])<;>(try omega)
structure ProgV where
 s:Nat
 v:TreeV
 aa:Option Addr
 ac:Nat
 da:Option Addr
 dc:Nat
abbrev ProgV.ptr(p:ProgV):Value:=.pointer (some ⟨p.s,0,none⟩)
structure IsProg (w:World) (p:ProgV) (t:Tr) (ups decl:List Int):Prop where
 c0:w.cell? ⟨p.s,0,none⟩=some (.slice p.v.na t.nodes.length p.v.nc)
 c1:w.cell? ⟨p.s,1,none⟩=some (.slice p.v.ia t.items.length p.v.ic)
 c2:w.cell? ⟨p.s,2,none⟩=some (.slice p.aa t.nodes.length p.ac)
 c3:w.cell? ⟨p.s,3,none⟩=some (.slice p.da t.nodes.length p.dc)
 tree:IsTree w p.v t
 ups:Row 1 w p.aa t.nodes.length p.ac (zm ups)
 decl:Row 1 w p.da t.nodes.length p.dc (zm decl)
theorem IsProg.upsLen{w:World}{p:ProgV}{t:Tr}{ups decl:List Int}(h:IsProg w p t ups decl):ups.length=t.nodes.length:=by
 have:=h.ups.1;simpa using this
theorem IsProg.declLen{w:World}{p:ProgV}{t:Tr}{ups decl:List Int}(h:IsProg w p t ups decl):decl.length=t.nodes.length:=by
 have:=h.decl.1;simpa using this
theorem IsProg.lt{w:World}{p:ProgV}{t:Tr}{ups decl:List Int}(h:IsProg w p t ups decl):p.s<w.heap.size:=World.block_lt_of_cell? w _ h.c0
theorem IsProg.mono{w w':World}{p:ProgV}{t:Tr}{ups decl:List Int}{B:Nat}(h:IsProg w p t ups decl)(hb:Below B w w')(hB:w.heap.size≤B):IsProg w' p t ups decl:=by
 have hl:=h.lt;have hc:∀i,w'.cell? ⟨p.s,i,none⟩=w.cell? ⟨p.s,i,none⟩:=fun i=>hb.cell (p:=⟨p.s,i,none⟩) (by show p.s<B;omega);exact⟨(hc 0).trans h.c0,(hc 1).trans h.c1,(hc 2).trans h.c2,(hc 3).trans h.c3,h.tree.mono hb hB,Row.mono h.ups hb hB,Row.mono h.decl hb hB⟩
theorem IsProg.upAt{w:World}{p:ProgV}{t:Tr}{ups decl:List Int}(h:IsProg w p t ups decl){i:Nat}(hi:i<t.nodes.length) :
 ∃b o,p.aa=some ⟨b,o,none⟩∧b<w.heap.size∧w.cell? ⟨b,o+i,none⟩=some (intV (ups.getD i 0)):=by
 have hl:=h.upsLen;have hr:Ints w p.aa p.ac ups:=by have:=h.ups;rw[←hl]at this;exact this
 obtain⟨b,o,e,hb,hc⟩:=Ints.at hr (i:=i) (by omega);exact⟨b,o,e,hb,by rw[hc,List.getD_eq_getElem?_getD,List.getElem?_eq_getElem (by omega)];rfl⟩
def pQ(t:Tr)(ups:List Int)(i:Nat):Bool:=(t.nd i).kind==34&&(ups.getD i 0 != -1&&(t.nd (ups.getD i 0)).kind==42)
def mF(t:Tr)(ups:List Int)(i:Nat):Bool:=sB (t.nd i).kind||pQ t ups i
theorem tD(p:ProgV)(t:Tr)(ups decl:List Int)(i:Nat)(w:World)(bd:Bd t)(hi:i<t.nodes.length)(hu : -1≤ups.getD i 0∧ups.getD i 0<(t.nodes.length:Int))(h:IsProg w p t ups decl) :
 Calls prog 131 #[p.ptr,intV i] w fun e w'=>e=.returned (.bool (pQ t ups i))∧w=w':=by
 have hn3:=bd.n;obtain⟨c0,c1,c2,c3,hT,-,-⟩:=id h;obtain⟨bu,ou,eu,hbu,cu⟩:=h.upAt hi;obtain⟨b,o,ka,kc,ea,hb,n0,-⟩:=hT.nodes.at hi;have hnd:=t.nd_at hi;obtain⟨s,v,aa,ac,da,dc⟩:=p;obtain⟨na,nc,ia,ic⟩:=v;simp only at c0 c1 c2 c3 eu ea;subst eu;subst ea;obtain⟨u,hu'⟩:∃u,ups.getD i 0=u:=⟨_,rfl⟩
 obtain⟨k,hk⟩:∃k,t.nodes[i].kind=k:=⟨_,rfl⟩
 rw[hu']at cu hu;rw[hk]at n0;have hp:pQ t ups i=(k==34&&(u != -1&&(t.nd u).kind==42)):=by unfold pQ;rw[hnd,hk,hu']
 have HP:=Hd hp;have HT:=Hd hT;clear h hT hu' hk hp bd;cases hk34:(k==34)with
 | false=>
   have HK:=Hd hk34;go_enter func131,ntmps131;go_wp2;go_ret;exact⟨zb (by rw[HP.out,HK.out];rfl),rfl⟩
 | true=>
   have HK:=Hd hk34;by_cases hu1:u = -1
   ·have hu2:(u != -1)=false:=by simpa using hu1
    have HU:=Hd hu2;subst hu1;go_enter func131,ntmps131;go_wp2;go_ret;exact⟨zb (by rw[HP.out,HK.out,HU.out];rfl),rfl⟩
   ·have hu2:(u != -1)=true:=by simpa using hu1
    have HU:=Hd hu2;obtain⟨m,rfl⟩:=Int.eq_ofNat_of_zero_le (show 0≤u by omega);have hm:m<t.nodes.length:=by omega
    obtain⟨b',o',ka',kc',e',hb',m0,-⟩:=HT.out.nodes.at hm;simp only[Option.some.injEq,Addr.mk.injEq,and_true]at e';obtain⟨rfl,rfl⟩:=e';have hnm:=t.nd_at hm;obtain⟨k2,hk2⟩:∃k,t.nodes[m].kind=k:=⟨_,rfl⟩
    rw[hk2]at m0;have HP2:Hid (pQ t ups i=(k2==42)):=Hd (by rw[HP.out,HK.out,hu2,hnm,hk2];simp);clear hk2 hnm HP;go_enter func131,ntmps131;go_wp2;all_goals go_ret
    exact⟨zb HP2.out.symm,rfl⟩
theorem fH(p:ProgV)(t:Tr)(ups decl:List Int)(i:Nat)(w:World)(bd:Bd t)(hi:i<t.nodes.length)(hu : -1≤ups.getD i 0∧ups.getD i 0<(t.nodes.length:Int))(h:IsProg w p t ups decl) :
 Calls prog 84 #[p.ptr,intV i] w fun e w'=>e=.returned (.bool (mF t ups i))∧w=w':=by
 have hn3:=bd.n;have HX:=Hd (tD p t ups decl i w bd hi hu h);obtain⟨c0,c1,c2,c3,hT,-,-⟩:=id h;obtain⟨b,o,ka,kc,ea,hb,n0,-⟩:=hT.nodes.at hi;have hnd:=t.nd_at hi;obtain⟨s,v,aa,ac,da,dc⟩:=p;obtain⟨na,nc,ia,ic⟩:=v;simp only at c0 c1 c2 c3 ea;subst ea;obtain⟨k,hk⟩:∃k,t.nodes[i].kind=k:=⟨_,rfl⟩
 obtain⟨y,hy⟩:∃y,pQ t ups i=y:=⟨_,rfl⟩
 rw[hk]at n0;have hp:mF t ups i=(sB k||y):=by unfold mF;rw[hnd,hk,hy]
 rw[hy]at HX;have HP:=Hd hp;clear h hT hk hp bd hy;go_enter func84,ntmps84
 go_wp2_with (go_at_call 131;refine HX.out.mono ?_;rintro e w' ⟨rfl,rfl⟩)
 all_goals
  go_ret;refine⟨zb ?_,rfl⟩;rw[HP.out]
  (try simp_all[sB])
theorem wB(p:ProgV)(t:Tr)(ups decl:List Int)(i:Nat)(w:World)(bd:Bd t)(hi:i<t.nodes.length)(h:IsProg w p t ups decl) :
 Calls prog 146 #[p.ptr,intV i] w fun e w'=>e=.returned (.bool (decide ((t.nd i).kind≤26)&&(t.nd i).kind != 25))∧w=w':=by
 have hn3:=bd.n;obtain⟨c0,c1,c2,c3,hT,-,-⟩:=id h;obtain⟨b,o,ka,kc,ea,hb,n0,-⟩:=hT.nodes.at hi;have hnd:=t.nd_at hi;obtain⟨s,v,aa,ac,da,dc⟩:=p;obtain⟨na,nc,ia,ic⟩:=v;simp only at c0 c1 c2 c3 ea;subst ea;obtain⟨k,hk⟩:∃k,t.nodes[i].kind=k:=⟨_,rfl⟩
 rw[hk]at n0;have hp:(decide ((t.nd i).kind≤26)&&(t.nd i).kind != 25)=(decide (k≤26)&&k != 25):=by rw[hnd,hk]
 have HP:=Hd hp;clear h hT hk hp bd hnd;go_enter func146,ntmps146;go_wp2
 all_goals
  go_ret;refine⟨zb ?_,rfl⟩;rw[HP.out]
  (try simp_all)<;>(try omega)
def lowF(t:Tr):Nat→Int→Int
 |0,i=>i
 | f+1,i=>match (t.nd i).kids with
   | []=>i
   |k::_=>lowF t f k
def low(t:Tr)(i:Int):Int:=lowF t (i+1).toNat i
theorem qJ(p:ProgV)(t:Tr)(ups decl:List Int)(i:Nat)(w:World)(bd:Bd t)(hkid:∀i,i<t.nodes.length→∀k∈(t.nd i).kids,0≤k∧k<(i:Int))(hi:i<t.nodes.length)(h:IsProg w p t ups decl) :
 Calls prog 90 #[p.ptr,intV i] w fun e w'=>e=.returned (intV (low t i))∧w=w':=by
 have hn3:=bd.n;have BD:=Hd bd;have HK:=Hd hkid;obtain⟨c0,c1,c2,c3,hT,-,-⟩:=id h;have HT:=Hd hT;obtain⟨s,v,aa,ac,da,dc⟩:=p;obtain⟨na,nc,ia,ic⟩:=v;simp only at c0 c1 c2 c3;clear h hT hkid bd;go_enter func90,ntmps90;go_wp2
 go_loop [1] (fun t1=>∃(j f:Nat),t1=intV j∧j<t.nodes.length∧j<f∧Hid (low t i=lowF t f j)) (fun t1=>(intOf t1).toNat)
 case atStart=>exact⟨i,i+1,rfl,hi,by omega,Hd (by rw[low,show((i:Int)+1).toNat=i+1 by omega])⟩
 case round=>
  obtain⟨j,f,rfl,hj,hjf,HL⟩:=hrel;obtain⟨b,o,ka,kc,ea,hb,n0,n1,n2,n3,-,hkr⟩:=HT.out.nodes.at hj;simp only at ea;subst ea;have hkk:=HK.out j hj;have hkl:=BD.out.k _ (List.getElem_mem hj);have hnd:=t.nd_at hj;obtain⟨d,hd⟩:∃d,t.nodes[j]=d:=⟨_,rfl⟩
  rw[hd]at n0 n1 n2 n3 hkr hnd hkl;rw[hnd]at hkk;obtain⟨g,rfl⟩:∃g,f=g+1:=⟨f-1,by omega⟩
  have HND:=Hd hnd;have HKR:=Hd hkr;have HKK:=Hd hkk;clear hd hnd hkr hkk n0 n1 n2;by_cases hk:0<d.kids.length
  ·obtain⟨bk,ok,rfl,hbk,hck⟩:=Ints.at HKR.out hk
   have hx:=HKK.out _ (List.getElem_mem hk);obtain⟨x,hxx⟩:∃x,d.kids[0]=x:=⟨_,rfl⟩
   rw[hxx]at hck hx;obtain⟨hx0,hx1⟩:=hx;obtain⟨m,rfl⟩:=Int.eq_ofNat_of_zero_le hx0
   have HS:Hid (lowF t (g+1) j=lowF t g m):=Hd (by
    rw[lowF,HND.out]
    match hkd:d.kids,hk,hxx with
    |a::r,_,e=>simp only[List.getElem_cons_zero]at e;rw[e])
   simp only[Nat.add_zero]at hck;clear hxx;go_wp2
   go_round
   case rel=>exact⟨m,g,rfl,by omega,by omega,Hd (by rw[HL.out,HS.out])⟩
   case measure=>simp[intOf];omega
  ·have HS:Hid (lowF t (g+1) j=j):=Hd (by
    rw[lowF,HND.out,List.eq_nil_of_length_eq_zero (show d.kids.length=0 by omega)])
   go_wp2;go_ret;exact⟨zo (by rw[HL.out,HS.out]),rfl⟩
theorem AI(p:ProgV)(t:Tr)(ups decl:List Int)(i b1 b2:Nat)(d:Int)(w:World)(bd:Bd t)(hi:i<t.nodes.length)(h:IsProg w p t ups decl)
 (h1:w.cell? ⟨b1,0,none⟩=some p.ptr)(h2:w.cell? ⟨b2,0,none⟩=some (intV d)) :
 Calls prog 133 #[intV i,.pointer (some ⟨b1,0,none⟩),.pointer (some ⟨b2,0,none⟩)] w (zq w (decl[i]?==some d)):=by
 have hmo:prog.follows .mixedOrders=true:=by kernel_rfl
 have hn3:=bd.n;have hl:=h.declLen;obtain⟨c0,c1,c2,c3,-,-,hd⟩:=id h;have hr:Ints w p.da p.dc decl:=by rw[←hl]at hd;exact hd
 obtain⟨b,o,e,hb,hc⟩:=Ints.at hr (i:=i) (by omega);obtain⟨s,v,aa,ac,da,dc⟩:=p;simp only at c0 c1 c2 c3 e h1;subst e;obtain⟨x,hx⟩:∃x,decl[i]=x:=⟨_,rfl⟩
 rw[hx]at hc;have hp:(decl[i]?==some d)=(x==d):=by rw[List.getElem?_eq_getElem (by omega),hx];rfl
 have HP:=Hd hp;clear h hd hr hx hp bd;go_enter func133,ntmps133;go_wp2
 go_quiet (fail)
 go_wp2;go_ret;exact⟨zb (by rw[HP.out]),below_drewN brf _⟩
theorem wD(p:ProgV)(t:Tr)(ups decl:List Int)(q:Nat→Bool)(b1 b2:Nat)( w:World)(bd:Bd t)(h:IsProg w p t ups decl)
 (hq:∀(k:Nat) W,k<t.nodes.length→Below w.heap.size w W→Calls prog 133 #[intV k,.pointer (some ⟨b1,0,none⟩),.pointer (some ⟨b2,0,none⟩)] W (zq W (q k))) :
 Calls prog 132 #[p.ptr,.func (.func 133) #[] #[.pointer (some ⟨b1,0,none⟩),.pointer (some ⟨b2,0,none⟩)]] w (RetInts w (idxs q t.nodes.length)):=by
 have hn3:=bd.n;have HQ:=Hd hq;obtain⟨c0,c1,c2,c3,-,-,-⟩:=id h;obtain⟨s,v,aa,ac,da,dc⟩:=p;simp only at c0 c1 c2 c3;clear h hq bd;go_enter func132,ntmps132;go_wp2
 go_loopw [4,12] (fun t4 t12 wr=>∃(k:Nat) (a4:Option Addr) (c4:Nat),t12=.int .i64 k∧k≤t.nodes.length∧t4=.slice a4 (idxs q k).length c4∧Hid (OwnI wr w.heap.size a4 c4 (idxs q k))∧Hid (Below w.heap.size w wr)) (fun _ i _=>t.nodes.length-(intOf i).toNat)
 case atStart=>exact⟨0,none,0,rfl,Nat.zero_le _,rfl,Hd ⟨rfl,.inl ⟨rfl,rfl⟩⟩,Hd brf⟩
 case round=>
  obtain⟨k,a4,c4,rfl,hk,rfl,HO,HB⟩:=hrel;have hs:=HB.out.size;by_cases hlt:k<t.nodes.length
  ·have HC:=Hd (HQ.out k wr hlt HB.out)
   have hil:=kQ q k
   cases hqk:q k with
   | true=>
     have HS:=Hd (nK hqk);have HK:=Hd hqk;clear hqk
     go_wp2_with (first
      | (go_at_call 133;refine HC.out.mono ?_;rw[HK.out];rintro e w1 ⟨rfl,hb1⟩;have HB1:=Hd hb1;clear hb1)
      | (at_builtin;refine zV (news:=[(k:Int)]) rfl (.tmp 18) (.tmp 20) rfl rfl ((zy HO.out HB1.out).alloc _) rfl (aK _ _ _) (by omega) (by have:=HB1.out.size;simp;omega) ?_;intro a' c' w' l' HL hle hown' hkeep))
     go_roundw
     case rel=>exact⟨k+1,a',c',by go_num,by omega,by rw[HS.out,←HL.out],by rw[HS.out,←HL.out];exact Hd hown',Hd (hkeep _ _ nlr ((HB.out.trans (HB1.out.mono hs)).alloc (by have:=HB1.out.size;omega) _))⟩
     case measure=>simp[intOf];omega
   | false=>
     have HS:=Hd (xB hqk);have HK:=Hd hqk;clear hqk
     go_wp2_with (go_at_call 133;refine HC.out.mono ?_;rw[HK.out];rintro e w1 ⟨rfl,hb1⟩;have HB1:=Hd hb1;clear hb1)
     go_roundw
     case rel=>exact⟨k+1,a4,c4,by go_num,by omega,by rw[HS.out],by rw[HS.out];exact Hd (zy HO.out HB1.out),Hd (HB.out.trans (HB1.out.mono hs))⟩
     case measure=>simp[intOf];omega
  ·obtain rfl:k=t.nodes.length:=by omega
   go_wp2;go_ret;exact⟨a4,c4,rfl,HO.out,HB.out⟩
theorem tH(p:ProgV)(t:Tr)(ups decl:List Int)(d:Int)(w:World)(bd:Bd t)(h:IsProg w p t ups decl) :
 Calls prog 85 #[p.ptr,intV d] w (RetInts w (uses decl d)):=by
 have hl:=h.declLen;have hu:uses decl d=idxs (fun i=>decl[i]?==some d) t.nodes.length:=by rw[uses,hl]
 have HW:∀W,W=(w.alloc (.cells #[p.ptr] 117)).alloc (.cells #[intV d] 3)→Calls prog 132 #[p.ptr,.func (.func 133) #[] #[.pointer (some ⟨w.heap.size,0,none⟩),.pointer (some ⟨w.heap.size+1,0,none⟩)]] W (RetInts W (uses decl d)):=by
  rintro W rfl;rw[hu];have hb:Below w.heap.size w ((w.alloc (.cells #[p.ptr] 117)).alloc (.cells #[intV d] 3)):=(brf.alloc nlr _).alloc (by simp) _;have hp:=h.mono hb nlr;refine wD p t ups decl _ _ _ _ bd hp fun k W hk hbW=>?_;refine AI p t ups decl k _ _ d W bd hk (hp.mono hbW nlr) ?_ ?_
  ·exact(hbW.cell (p:=⟨w.heap.size,0,none⟩) (by simp;omega)).trans (by simp)
  ·exact(hbW.cell (p:=⟨w.heap.size+1,0,none⟩) (by simp)).trans (by simp)
 have HWH:=Hd (HW _ rfl);clear h HW hu hl bd;obtain⟨s,v,aa,ac,da,dc⟩:=p;go_enter func85,ntmps85
 go_wp2_with (go_at_call 132;go_loud (refine HWH.out.mono ?_;rintro e w1 ⟨a1,c1,rfl,hown,hb1⟩;have HB1:=Hd hb1;have HO1:=Hd hown;clear hb1 hown))
 go_ret;exact⟨a1,c1,rfl,aY HO1.out (by simp;omega),(brf.alloc nlr _).alloc (by simp) _ |>.trans (HB1.out.mono (by simp;omega))⟩
def fZ(t:Tr)(ups:List Int)(node other:Nat):Bool:=decide (other<node)&&((t.nd other).text==(t.nd node).text&&((t.nd other).kind==34||mF t ups other))
theorem wC(p:ProgV)(t:Tr)(ups decl:List Int)(i node b1 b2:Nat)(w:World)(bd:Bd t)(hi:i<t.nodes.length)(hn:node<t.nodes.length)(hu : -1≤ups.getD i 0∧ups.getD i 0<(t.nodes.length:Int))(h:IsProg w p t ups decl)
 (h1:w.cell? ⟨b1,0,none⟩=some p.ptr)(h2:w.cell? ⟨b2,0,none⟩=some (intV node)) :
 Calls prog 248 #[intV i,.pointer (some ⟨b1,0,none⟩),.pointer (some ⟨b2,0,none⟩)] w (zq w (fZ t ups node i)):=by
 have hmo:prog.follows .mixedOrders=true:=by kernel_rfl
 have hn3:=bd.n;have hD:∀W,Below w.heap.size w W→Calls prog 84 #[p.ptr,intV i] W fun e w'=>e=.returned (.bool (mF t ups i))∧W=w':=fun W hW=>fH p t ups decl i W bd hi hu (h.mono hW nlr);have hps:=h.lt;have hb1:=World.block_lt_of_cell? w _ h1;have hb2:=World.block_lt_of_cell? w _ h2;simp only at hb1 hb2;obtain⟨c0,c1,c2,c3,hT,-,-⟩:=id h;obtain⟨b,o,ka,kc,ea,hb,m0,m1,m2,m3,m4,-⟩:=hT.nodes.at hi;obtain⟨b',o',ka',kc',e',hb',n0,n1,-,-,-,-⟩:=hT.nodes.at hn;have hnd:=t.nd_at hi;have hnn:=t.nd_at hn;obtain⟨s,v,aa,ac,da,dc⟩:=p;obtain⟨na,nc,ia,ic⟩:=v;simp only at c0 c1 c2 c3 ea e' h1 hps;subst ea;simp only[Option.some.injEq,Addr.mk.injEq,and_true]at e';obtain⟨rfl,rfl⟩:=e';obtain⟨d,hd⟩:∃d,t.nodes[i]=d:=⟨_,rfl⟩
 obtain⟨g,hg⟩:∃g,t.nodes[node]=g:=⟨_,rfl⟩
 rw[hd]at m0 m1 m2 m3 m4;rw[hg]at n1;obtain⟨dc',hdc⟩:∃x,mF t ups i=x:=⟨_,rfl⟩
 rw[hdc]at hD;have hp:fZ t ups node i=(decide (i<node)&&(d.text==g.text&&(d.kind==34||dc'))):=by unfold fZ;rw[hnd,hnn,hd,hg,hdc]
 have HP:=Hd hp;have HD:=Hd hD;have hl1:s<w.heap.size+1:=by omega
 have hl2:b1<w.heap.size+1:=by omega
 have hl3:b2<w.heap.size+1:=by omega
 have hl4:b<w.heap.size+1:=by omega
 clear h hT hd hg hnd hnn hp hD hdc bd n0 c1 c2 c3 hu;cases hlt:decide (i<node)with
 | false=>
   have hlt':decide ((i:Int)<(node:Int))=false:=decide_eq_false (by have:=of_decide_eq_false hlt;omega);have HL:=Hd hlt;go_enter func248,ntmps248;go_wp2;refine N.region_JTm 26 hmo (by kernel_rfl) (by kernel_rfl) rfl (by kernel_rfl) (by kernel_rfl) (fun Wz=>Below (boxD w ka kc d).heap.size (boxD w ka kc d) Wz) (brf.drew) ?_
   iterate 26 ((first|(refine N.WalkT.cons undef (N.StepP.skip rfl) ?_)|(refine N.WalkT.cons ?_ (N.StepP.pure rfl ?_) ?_;rotate_left;(intro W hJ;obtain⟨hcJ,hfJ⟩:=bcell hJ;go_simp;rfl)));simp only[N.pz])
   refine N.WalkT.nil fun W hJ=>?_;go_wp2;go_ret;exact⟨zb (by rw[HP.out,HL.out];rfl),((Below.refl _ w).alloc nlr _).trans (hJ.mono (by simp))⟩
 | true=>
   have hlt':decide ((i:Int)<(node:Int))=true:=decide_eq_true (by have:=of_decide_eq_true hlt;omega);have HL:=Hd hlt;cases htx:(d.text==g.text)with
   | false=>
     have HX:=Hd htx;go_enter func248,ntmps248;go_wp2;refine N.region_JTm 26 hmo (by kernel_rfl) (by kernel_rfl) rfl (by kernel_rfl) (by kernel_rfl) (fun Wz=>Below (boxD w ka kc d).heap.size (boxD w ka kc d) Wz) (brf.drew) ?_
     iterate 26 ((first|(refine N.WalkT.cons undef (N.StepP.skip rfl) ?_)|(refine N.WalkT.cons ?_ (N.StepP.pure rfl ?_) ?_;rotate_left;(intro W hJ;obtain⟨hcJ,hfJ⟩:=bcell hJ;go_simp;rfl)));simp only[N.pz])
     refine N.WalkT.nil fun W hJ=>?_;go_wp2;go_ret;exact⟨zb (by rw[HP.out,HL.out,HX.out];rfl),((Below.refl _ w).alloc nlr _).trans (hJ.mono (by simp))⟩
   | true=>
     have HX:=Hd htx;cases hk:(d.kind==34)with
     | true=>
       have HK:=Hd hk;go_enter func248,ntmps248;go_wp2;refine N.region_JTm 26 hmo (by kernel_rfl) (by kernel_rfl) rfl (by kernel_rfl) (by kernel_rfl) (fun Wz=>Below (boxD w ka kc d).heap.size (boxD w ka kc d) Wz) (brf.drew) ?_
       iterate 26 ((first|(refine N.WalkT.cons undef (N.StepP.skip rfl) ?_)|(refine N.WalkT.cons ?_ (N.StepP.pure rfl ?_) ?_;rotate_left;(intro W hJ;obtain⟨hcJ,hfJ⟩:=bcell hJ;go_simp;rfl)));simp only[N.pz])
       refine N.WalkT.nil fun W hJ=>?_;go_wp2;go_ret;exact⟨zb (by rw[HP.out,HL.out,HX.out,HK.out];rfl),((Below.refl _ w).alloc nlr _).trans (hJ.mono (by simp))⟩
     | false=>
       have HK:=Hd hk;go_enter func248,ntmps248;go_wp2;refine N.region_JTm 26 hmo (by kernel_rfl) (by kernel_rfl) rfl (by kernel_rfl) (by kernel_rfl) (fun Wz=>Below (boxD w ka kc d).heap.size (boxD w ka kc d) Wz) (brf.drew) ?_
       iterate 24 (refine N.WalkT.cons ?_ (N.StepP.pure rfl ?_) ?_;rotate_left;(intro W hJ;obtain⟨hcJ,hfJ⟩:=bcell hJ;go_simp;rfl);simp only[N.pz])
       refine N.WalkT.cons (.bool dc') (N.StepP.call (f:=84) (args:=#[.pointer (some ⟨s,0,none⟩),intV i]) rfl ?hG4_24 ?cG4_24) ?rG4_24;case hG4_24=>intro W hJ;obtain⟨hcJ,hfJ⟩:=bcell hJ;go_simp;try rfl
       case cG4_24=>intro W hJ;(refine(HD.out W (((Below.refl _ w).alloc nlr _).trans (hJ.mono (by simp)))).mono ?_;rintro e w' ⟨rfl,rfl⟩;exact⟨rfl,hJ⟩)
       simp only[N.pz];refine N.WalkT.cons ?_ (N.StepP.pure rfl ?_) ?_;rotate_left;(intro W hJ;obtain⟨hcJ,hfJ⟩:=bcell hJ;go_simp;rfl);simp only[N.pz];refine N.WalkT.nil fun W hJ=>?_;go_wp2;go_ret;exact⟨zb (by rw[HP.out,HL.out,HX.out,HK.out];simp),((Below.refl _ w).alloc nlr _).trans (hJ.mono (by simp))⟩
def IJ(t:Tr)(ups:List Int):Prop:=∀i,i<t.nodes.length → -1≤ups.getD i 0∧ups.getD i 0<(t.nodes.length:Int)
def mS(t:Tr)(l:List Int):Prop:=∀x∈l,0≤x∧x<(t.nodes.length:Int)
theorem nW(p:ProgV)(t:Tr)(ups decl:List Int)(node b1 b2:Nat)(a:Option Addr)(c:Nat)(l:List Int)(w:World)(bd:Bd t)(hn:node<t.nodes.length)(hu:IJ t ups)(hl:mS t l)(hll:l.length≤1000000)(h:IsProg w p t ups decl)(hr:Ints w a c l)
 (h1:w.cell? ⟨b1,0,none⟩=some p.ptr)(h2:w.cell? ⟨b2,0,none⟩=some (intV node)) :
 Calls prog 297 #[.slice a l.length c,.func (.func 248) #[] #[.pointer (some ⟨b1,0,none⟩),.pointer (some ⟨b2,0,none⟩)]] w (dL w (idxP l fun j=>fZ t ups node j.toNat)):=by
 have hb1:=World.block_lt_of_cell? w _ h1;have hb2:=World.block_lt_of_cell? w _ h2;simp only at hb1 hb2;have HC:=Hd (fun(i:Nat) (W:World) (hi:i<t.nodes.length) (hW:Below w.heap.size w W)=>wC p t ups decl i node b1 b2 W bd hi hn (hu i hi) (h.mono hW nlr) ((hW.cell (p:=⟨b1,0,none⟩) hb1).trans h1) ((hW.cell (p:=⟨b2,0,none⟩) hb2).trans h2));have HL:=Hd hl;have HR:=Hd hr;obtain⟨q,hq⟩:∃q:Int→Bool,q=fun j=>fZ t ups node j.toNat:=⟨_,rfl⟩
 rw[←hq];have HQ:=Hd hq;clear h hr hl hu h1 h2 bd hb1 hb2 hq;go_enter func297,ntmps297;go_wp2
 go_loopw [8] (fun t8 wr=>∃k:Nat,t8=.int .i64 k∧k≤l.length∧Hid (idxP l q=first (fun i=>(l[i]?.map q).getD false) l.length k)∧Hid (Below w.heap.size w wr)) (fun t8 _=>l.length-(intOf t8).toNat)
 case atStart=>exact⟨0,rfl,Nat.zero_le _,Hd rfl,Hd brf⟩
 case round=>
  obtain⟨k,rfl,hk,HA,HB⟩:=hrel;by_cases hlt:k<l.length
  ·obtain⟨b,o,rfl,hb,hc⟩:=Ints.at (HR.out.mono HB.out nlr) hlt
   have hx:=HL.out _ (List.getElem_mem hlt);have hgx:(l[k]?.map q).getD false=q l[k]:=by simp[hlt]
   obtain⟨x,hxx⟩:∃x,l[k]=x:=⟨_,rfl⟩
   rw[hxx]at hc hx hgx;obtain⟨hx0,hx1⟩:=hx;obtain⟨m,rfl⟩:=Int.eq_ofNat_of_zero_le hx0;have hcc:=HC.out m wr (by omega) HB.out;have hqm:fZ t ups node m=q (m:Int):=by rw[HQ.out];simp
   rw[hqm]at hcc;have HCC:=Hd hcc;obtain⟨y,hy⟩:∃y,q (m:Int)=y:=⟨_,rfl⟩
   have HY:=Hd hy;have HG:=Hd (hgx.trans hy);clear hcc hqm hgx hy hxx
   cases y with
   | true=>
     go_wp2_with (go_at_call 248;refine HCC.out.mono ?_;rw[HY.out];rintro e w' ⟨rfl,hb'⟩;have HB':Hid (Below w.heap.size w w'):=Hd (HB.out.trans (hb'.mono HB.out.size));clear hb')
     go_ret;exact⟨zo (by rw[HA.out];exact(aE hlt HG.out).symm),HB'.out⟩
   | false=>
     go_wp2_with (go_at_call 248;refine HCC.out.mono ?_;rw[HY.out];rintro e w' ⟨rfl,hb'⟩;have HB':Hid (Below w.heap.size w w'):=Hd (HB.out.trans (hb'.mono HB.out.size));clear hb')
     go_roundw
     case rel=>exact⟨k+1,by go_num,by omega,Hd (by rw[HA.out];exact cI hlt HG.out),HB'⟩
     case measure=>simp[intOf];omega
  ·go_wp2
   go_ret;exact⟨zo (by rw[HA.out];exact(cD (by omega)).symm),HB.out⟩
theorem lB(p:ProgV)(t:Tr)(ups decl:List Int)(node b1 b2:Nat)(a:Option Addr)(c:Nat)(l:List Int)(w:World)(bd:Bd t)(hn:node<t.nodes.length)(hu:IJ t ups)(hl:mS t l)(hll:l.length≤1000000)(h:IsProg w p t ups decl)(hr:Ints w a c l)
 (h1:w.cell? ⟨b1,0,none⟩=some p.ptr)(h2:w.cell? ⟨b2,0,none⟩=some (intV node)) :
 Calls prog 247 #[.slice a l.length c,.func (.func 248) #[] #[.pointer (some ⟨b1,0,none⟩),.pointer (some ⟨b2,0,none⟩)]] w (zq w (l.any fun j=>fZ t ups node j.toNat)):=by
 rw[←uC];have HC:=Hd (nW p t ups decl node b1 b2 a c l w bd hn hu hl hll h hr h1 h2);clear h hr h1 h2 bd hu hl;go_enter func247,ntmps247
 go_wp2_with (go_at_call 297;refine HC.out.mono ?_;rintro e w' ⟨rfl,hb'⟩;have HB':=Hd hb';clear hb')
 go_ret;exact⟨rfl,HB'.out⟩
def wU(t:Tr)(ups:List Int)(node:Nat):List Int:=
 if (ups.getD node 0 != -1&&(t.nd node).kind==34)=true then (t.nd (ups.getD node 0)).kids else if (ups.getD node 0 == -1&&mF t ups node)=true then t.items else []
def eI(t:Tr)(ups:List Int)(node:Nat):Bool:=(wU t ups node).any fun j=>fZ t ups node j.toNat
abbrev dI(w:World)(p:Value)(n:Int):World:=(w.alloc (.cells #[p] 117)).alloc (.cells #[intV n] 3)
theorem tE(p:ProgV)(t:Tr)(ups decl:List Int)(node:Nat)(w:World)(bd:Bd t)(hn:node<t.nodes.length)(hu:IJ t ups)(hkid:∀i,i<t.nodes.length→mS t (t.nd i).kids)(hit:mS t t.items)(h:IsProg w p t ups decl) :
 Calls prog 183 #[p.ptr,intV node] w (zq w (eI t ups node)):=by
 have hmo:prog.follows .mixedOrders=true:=by kernel_rfl
 have hn3:=bd.n;have hb0:Below w.heap.size w (dI w p.ptr node):=(brf.alloc nlr _).alloc (by simp) _
 have HC:∀(a:Option Addr) (c:Nat) (l:List Int) (W:World),mS t l→l.length≤1000000→Ints w a c l→Below (dI w p.ptr node).heap.size (dI w p.ptr node) W →
  Calls prog 247 #[.slice a l.length c,.func (.func 248) #[] #[.pointer (some ⟨w.heap.size,0,none⟩),.pointer (some ⟨w.heap.size+1,0,none⟩)]] W (zq W (l.any fun j=>fZ t ups node j.toNat)):=by
  intro a c l W hl hll hr hW;have hW2:=hb0.trans (hW.mono (by simp;omega));refine lB p t ups decl node _ _ a c l W bd hn hu hl hll (h.mono hW2 nlr) (hr.mono hW2 nlr) ?_ ?_
  ·exact(hW.cell (p:=⟨w.heap.size,0,none⟩) (by simp;omega)).trans (by simp)
  ·exact(hW.cell (p:=⟨w.heap.size+1,0,none⟩) (by simp)).trans (by simp)
 have HCH:=Hd HC;have HDD:∀W,Below w.heap.size w W→Calls prog 84 #[p.ptr,intV node] W fun e w'=>e=.returned (.bool (mF t ups node))∧W=w':=fun W hW=>fH p t ups decl node W bd hn (hu node hn) (h.mono hW nlr);have hps:=h.lt;have hun:=hu node hn;have hil:=bd.i;obtain⟨c0,c1,c2,c3,hT,-,-⟩:=id h;have HI:=Hd hT.items;have HIT:=Hd hit;have HKID:=Hd hkid;have BD:=Hd bd;have HT:=Hd hT;obtain⟨b,o,ka,kc,ea,hb,n0,-⟩:=hT.nodes.at hn;obtain⟨bu,ou,eu,hbu,cu⟩:=h.upAt hn;have hnd:=t.nd_at hn;obtain⟨s,v,aa,ac,da,dc⟩:=p;obtain⟨na,nc,ia,ic⟩:=v;simp only at c0 c1 c2 c3 ea eu hps HI;subst ea;subst eu;obtain⟨k,hk⟩:∃k,t.nodes[node].kind=k:=⟨_,rfl⟩
 obtain⟨u,hu'⟩:∃u,ups.getD node 0=u:=⟨_,rfl⟩
 obtain⟨y,hy⟩:∃y,mF t ups node=y:=⟨_,rfl⟩
 rw[hk]at n0;rw[hu']at cu hun;rw[hy]at HDD
 have hP:eI t ups node=(if (u != -1&&k==34)=true then (t.nd u).kids else if (u == -1&&y)=true then t.items else []).any fun j=>fZ t ups node j.toNat:=by
  unfold eI wU;rw[hu',hnd,hk,hy]
 have HP:=Hd hP;have HD:=Hd HDD;have l1:s<w.heap.size+1:=by omega
 have l2:s<w.heap.size+1+1:=by omega
 have l3:b<w.heap.size+1:=by omega
 have l4:b<w.heap.size+1+1:=by omega
 have l5:bu<w.heap.size+1:=by omega
 have l6:bu<w.heap.size+1+1:=by omega
 clear HC HDD h hT hit hkid bd hk hu' hy hP hb0 hu hnd;by_cases hu1:u = -1
 ·subst hu1
  cases y with
  | true=>
    go_enter func183,ntmps183;go_wp2
    go_quiet (fail)
    go_wp2
    go_quiet (fail)
    go_wp2_with (first
     | (go_at_call 84;go_loud (refine(HD.out _ (by repeat (first|exact brf|refine below_drewN ?_ _|refine Below.drew ?_|refine Below.alloc ?_ (by simp) _))).mono ?_;rintro e w1 ⟨rfl,rfl⟩))
     | (go_at_call 247;go_loud (refine(HCH.out ia ic t.items _ HIT.out hil HI.out (by repeat (first|exact brf|refine below_drewN ?_ _|refine Below.drew ?_|refine Below.alloc ?_ (by simp) _))).mono ?_;rintro e w1 ⟨rfl,hb1⟩;have HB1:Hid (Below w.heap.size w w1):=Hd (Below.trans (by repeat (first|exact brf|refine below_drewN ?_ _|refine Below.drew ?_|refine Below.alloc ?_ (by simp) _)) (hb1.mono (by simp;omega)));clear hb1)))
    go_ret;exact⟨zb (by rw[HP.out];rfl),HB1.out⟩
  | false=>
    go_enter func183,ntmps183;go_wp2
    go_quiet (fail)
    go_wp2
    go_quiet (fail)
    go_wp2_with (first
     | (go_at_call 84;go_loud (refine(HD.out _ (by repeat (first|exact brf|refine below_drewN ?_ _|refine Below.drew ?_|refine Below.alloc ?_ (by simp) _))).mono ?_;rintro e w1 ⟨rfl,rfl⟩))
     | (go_at_call 247;go_loud (refine(HCH.out none 0 [] _ (fun x hx=>by cases hx) (by simp) ⟨rfl,nlr,fun _=>rfl,.inl rfl⟩ (by repeat (first|exact brf|refine below_drewN ?_ _|refine Below.drew ?_|refine Below.alloc ?_ (by simp) _))).mono ?_;rintro e w1 ⟨rfl,hb1⟩;have HB1:Hid (Below w.heap.size w w1):=Hd (Below.trans (by repeat (first|exact brf|refine below_drewN ?_ _|refine Below.drew ?_|refine Below.alloc ?_ (by simp) _)) (hb1.mono (by simp;omega)));clear hb1)))
    go_ret;exact⟨zb (by rw[HP.out];rfl),HB1.out⟩
 ·have hu2:(u != -1)=true:=by simpa using hu1
  have hu3:(u == -1)=false:=by simpa using hu1
  have HU2:=Hd hu2;have HU3:=Hd hu3;obtain⟨m,rfl⟩:=Int.eq_ofNat_of_zero_le (show 0≤u by omega);have hm:m<t.nodes.length:=by omega
  cases hk34:(k==34)with
  | false=>
    have HK:=Hd hk34;go_enter func183,ntmps183;go_wp2
    go_quiet (fail)
    go_wp2
    go_quiet (fail)
    go_wp2_with (go_at_call 247;go_loud (refine(HCH.out none 0 [] _ (fun x hx=>by cases hx) (by simp) ⟨rfl,nlr,fun _=>rfl,.inl rfl⟩ (by repeat (first|exact brf|refine below_drewN ?_ _|refine Below.drew ?_|refine Below.alloc ?_ (by simp) _))).mono ?_;rintro e w1 ⟨rfl,hb1⟩;have HB1:Hid (Below w.heap.size w w1):=Hd (Below.trans (by repeat (first|exact brf|refine below_drewN ?_ _|refine Below.drew ?_|refine Below.alloc ?_ (by simp) _)) (hb1.mono (by simp;omega)));clear hb1))
    go_ret;exact⟨zb (by rw[HP.out];rw[HK.out,HU3.out];simp),HB1.out⟩
  | true=>
    have HK:=Hd hk34;obtain⟨b',o',ka',kc',e',hb',-,-,-,m3,-,hkr⟩:=HT.out.nodes.at hm;simp only[Option.some.injEq,Addr.mk.injEq,and_true]at e';obtain⟨rfl,rfl⟩:=e';have hnm:=t.nd_at hm;have hkm:=HKID.out m hm;have hkl:=BD.out.k _ (List.getElem_mem hm);rw[hnm]at hkm;obtain⟨g,hg⟩:∃g,t.nodes[m]=g:=⟨_,rfl⟩
    rw[hg]at m3 hkr hkm hkl hnm;have HNM:=Hd hnm;have HKR:=Hd hkr;have HKM:=Hd hkm;clear hnm hkr hkm hg hb';go_enter func183,ntmps183;go_wp2
    go_quiet (fail)
    go_wp2
    go_quiet (fail)
    go_wp2_with (go_at_call 247;go_loud (refine(HCH.out ka' kc' g.kids _ HKM.out hkl HKR.out (by repeat (first|exact brf|refine below_drewN ?_ _|refine Below.drew ?_|refine Below.alloc ?_ (by simp) _))).mono ?_;rintro e w1 ⟨rfl,hb1⟩;have HB1:Hid (Below w.heap.size w w1):=Hd (Below.trans (by repeat (first|exact brf|refine below_drewN ?_ _|refine Below.drew ?_|refine Below.alloc ?_ (by simp) _)) (hb1.mono (by simp;omega)));clear hb1))
    go_ret;exact⟨zb (by rw[HP.out];rw[HK.out,HU2.out,HNM.out];simp),HB1.out⟩
def kY(t:Tr)(ups decl:List Int)(i:Nat):Bool:=mF t ups i&&((t.nd i).kind != 44 && !decl.contains (i:Int))
theorem tF(p:ProgV)(t:Tr)(ups decl:List Int)(i b1:Nat)(w:World)(bd:Bd t)(hi:i<t.nodes.length)(hu : -1≤ups.getD i 0∧ups.getD i 0<(t.nodes.length:Int))(h:IsProg w p t ups decl)(h1:w.cell? ⟨b1,0,none⟩=some p.ptr) :
 Calls prog 150 #[intV i,.pointer (some ⟨b1,0,none⟩)] w (zq w (kY t ups decl i)):=by
 have hn3:=bd.n;have hl:=h.declLen;have HD:=Hd (fH p t ups decl i w bd hi hu h);obtain⟨c0,c1,c2,c3,hT,-,hd⟩:=id h;have hr:Ints w p.da p.dc decl:=by rw[←hl]at hd;exact hd
 have hcc:=kD p.da p.dc decl i w (by omega) hr;rw[hl]at hcc;have HC:=Hd hcc;obtain⟨b,o,ka,kc,ea,hb,n0,-⟩:=hT.nodes.at hi;have hnd:=t.nd_at hi;obtain⟨s,v,aa,ac,da,dc⟩:=p;obtain⟨na,nc,ia,ic⟩:=v;simp only at c0 c1 c2 c3 ea h1 HC;subst ea;obtain⟨k,hk⟩:∃k,t.nodes[i].kind=k:=⟨_,rfl⟩
 obtain⟨y,hy⟩:∃y,mF t ups i=y:=⟨_,rfl⟩
 obtain⟨z,hz⟩:∃z,decl.contains (i:Int)=z:=⟨_,rfl⟩
 rw[hk]at n0;rw[hy]at HD;rw[hz]at HC;have hP:kY t ups decl i=(y&&(k != 44 && !z)):=by unfold kY;rw[hy,hnd,hk,hz]
 have HP:=Hd hP;clear h hT hd hr hcc hP hk hy hz hnd bd hl hu
 cases y with
 | false=>
   go_enter func150,ntmps150
   go_wp2_with (go_at_call 84;refine HD.out.mono ?_;rintro e w1 ⟨rfl,rfl⟩)
   go_ret;exact⟨zb (by rw[HP.out];rfl),brf⟩
 | true=>
   cases hk4:(k != 44)with
   | false=>
     have HK:=Hd hk4;have hk5:k=44:=by simpa using hk4
     subst hk5;go_enter func150,ntmps150
     go_wp2_with (go_at_call 84;refine HD.out.mono ?_;rintro e w1 ⟨rfl,rfl⟩)
     go_ret;exact⟨zb (by rw[HP.out];rfl),brf⟩
   | true=>
     have HK:=Hd hk4;have hk5:(k==44)=false:=by simpa using hk4
     go_enter func150,ntmps150
     go_wp2_with (first
      | (go_at_call 84;refine HD.out.mono ?_;rintro e w1 ⟨rfl,rfl⟩)
      | (go_at_call 151;go_loud (refine HC.out.mono ?_;rintro e w1 ⟨rfl,rfl⟩)))
     go_ret;exact⟨zb (by rw[HP.out,HK.out];simp),brf⟩
theorem rV(p:ProgV)(t:Tr)(ups decl:List Int)(q:Nat→Bool)(b1 b2:Nat)( w:World)(bd:Bd t)(h:IsProg w p t ups decl)
 (hq:∀(k:Nat) W,k<t.nodes.length→Below w.heap.size w W→Calls prog 150 #[intV k,.pointer (some ⟨b1,0,none⟩)] W (zq W (q k))) :
 Calls prog 132 #[p.ptr,.func (.func 150) #[] #[.pointer (some ⟨b1,0,none⟩)]] w (RetInts w (idxs q t.nodes.length)):=by
 have hn3:=bd.n;have HQ:=Hd hq;obtain⟨c0,c1,c2,c3,-,-,-⟩:=id h;obtain⟨s,v,aa,ac,da,dc⟩:=p;simp only at c0 c1 c2 c3;clear h hq bd;go_enter func132,ntmps132;go_wp2
 go_loopw [4,12] (fun t4 t12 wr=>∃(k:Nat) (a4:Option Addr) (c4:Nat),t12=.int .i64 k∧k≤t.nodes.length∧t4=.slice a4 (idxs q k).length c4∧Hid (OwnI wr w.heap.size a4 c4 (idxs q k))∧Hid (Below w.heap.size w wr)) (fun _ i _=>t.nodes.length-(intOf i).toNat)
 case atStart=>exact⟨0,none,0,rfl,Nat.zero_le _,rfl,Hd ⟨rfl,.inl ⟨rfl,rfl⟩⟩,Hd brf⟩
 case round=>
  obtain⟨k,a4,c4,rfl,hk,rfl,HO,HB⟩:=hrel;have hs:=HB.out.size;by_cases hlt:k<t.nodes.length
  ·have HC:=Hd (HQ.out k wr hlt HB.out)
   have hil:=kQ q k
   cases hqk:q k with
   | true=>
     have HS:=Hd (nK hqk);have HK:=Hd hqk;clear hqk
     go_wp2_with (first
      | (go_at_call 150;refine HC.out.mono ?_;rw[HK.out];rintro e w1 ⟨rfl,hb1⟩;have HB1:=Hd hb1;clear hb1)
      | (at_builtin;refine zV (news:=[(k:Int)]) rfl (.tmp 18) (.tmp 20) rfl rfl ((zy HO.out HB1.out).alloc _) rfl (aK _ _ _) (by omega) (by have:=HB1.out.size;simp;omega) ?_;intro a' c' w' l' HL hle hown' hkeep))
     go_roundw
     case rel=>exact⟨k+1,a',c',by go_num,by omega,by rw[HS.out,←HL.out],by rw[HS.out,←HL.out];exact Hd hown',Hd (hkeep _ _ nlr ((HB.out.trans (HB1.out.mono hs)).alloc (by have:=HB1.out.size;omega) _))⟩
     case measure=>simp[intOf];omega
   | false=>
     have HS:=Hd (xB hqk);have HK:=Hd hqk;clear hqk
     go_wp2_with (go_at_call 150;refine HC.out.mono ?_;rw[HK.out];rintro e w1 ⟨rfl,hb1⟩;have HB1:=Hd hb1;clear hb1)
     go_roundw
     case rel=>exact⟨k+1,a4,c4,by go_num,by omega,by rw[HS.out],by rw[HS.out];exact Hd (zy HO.out HB1.out),Hd (HB.out.trans (HB1.out.mono hs))⟩
     case measure=>simp[intOf];omega
  ·obtain rfl:k=t.nodes.length:=by omega
   go_wp2;go_ret;exact⟨a4,c4,rfl,HO.out,HB.out⟩
def IsUps(t:Tr)(ups:List Int):Prop:=∀i:Nat,i<t.nodes.length→ups.getD i 0=parent t i
theorem IsUps.within{t:Tr}{ups:List Int}(h:IsUps t ups):IJ t ups:=by
 intro i hi;rw[h i hi];refine⟨bV t i,?_⟩;by_cases h0:0≤parent t i
 ·obtain⟨p,e,hp⟩:=cG t i h0
  omega
 ·omega
theorem lJ{t:Tr}{ups:List Int}(wf:WF t)(h:IsUps t ups){i:Nat}(hi:i<t.nodes.length):mF t ups i=zh t i:=by
 unfold mF pQ zh;rw[h i hi];cases hk:((t.nd i).kind==34)with
 |false=>simp
 | true=>
   have h34:t.nodes[i].kind=34:=by rw[t.nd_at hi]at hk;simpa using hk
   have hp:=wf.par i hi h34;have:(parent t i != -1)=true:=by simp;omega
   rw[this];simp
theorem lX{t:Tr}{ups:List Int}(wf:WF t)(h:IsUps t ups){node other:Nat}(ho:other<t.nodes.length) :
 fZ t ups node other=(decide (other<node)&&((t.nd other).text==(t.nd node).text&&((t.nd other).kind==34||zh t other))):=by
 unfold fZ;rw[lJ wf h ho]
theorem CB{t:Tr}{ups decl:List Int}(wf:WF t)(h:IsUps t ups){i:Nat}(hi:i<t.nodes.length) :
 kY t ups decl i=(zh t i&&((t.nd i).kind != 44 && !hasI decl i)):=by
 unfold kY hasI;rw[lJ wf h hi]
theorem BK{p q:Nat→Bool}{n:Nat}(h:∀i,i<n→p i=q i):idxs p n=idxs q n:=by
 unfold idxs;congr 1;exact List.filter_congr fun i hi=>h i (List.mem_range.1 hi)
theorem GK(l:List Int)(n:Int):((uses l n).length==0) = !l.contains n:=by
 rw[Bool.eq_iff_iff,beq_iff_eq,Bool.not_eq_true',←Bool.not_eq_true,List.contains_iff_mem];unfold uses idxs;rw[List.length_map,List.length_eq_zero_iff,List.filter_eq_nil_iff];constructor
 ·intro h hm
  obtain⟨i,hi,e⟩:=List.getElem_of_mem hm;have:=h i (List.mem_range.2 hi);rw[List.getElem?_eq_getElem hi,e]at this;simp at this
 ·intro h i hi he
  have hi:=List.mem_range.1 hi;rw[List.getElem?_eq_getElem hi,beq_iff_eq,Option.some.injEq]at he;exact h (he▸List.getElem_mem hi)
theorem GF{t:Tr}{ups decl:List Int}(wf:WF t)(h:IsUps t ups):idxs (kY t ups decl) t.nodes.length=unused t decl:=by
 unfold unused;refine BK fun i hi=>?_;rw[CB wf h hi,GK,Bool.and_assoc];rfl
theorem fR{n:Int}{p:Int→Bool}:∀{l:List Int},l.Pairwise (· < ·)→(eH l n p=true↔∃x∈l,x<n∧p x=true)
 | [],_=>by simp[eH]
 | a::r,h=>by
   obtain⟨h1,h2⟩:=List.pairwise_cons.1 h;have ih:=fR (n:=n) (p:=p) h2;unfold eH at ih⊢;by_cases ha:a<n
   ·rw[List.takeWhile_cons_of_pos (by simpa using ha),List.any_cons,Bool.or_eq_true,ih]
    constructor
    ·rintro(hp|⟨x,hx,r⟩)
     ·exact⟨a,by simp,ha,hp⟩
     ·exact⟨x,by simp[hx],r⟩
    ·rintro⟨x,hx,hn,hp⟩
     rcases List.mem_cons.1 hx with rfl|hx
     ·exact .inl hp
     ·exact .inr ⟨x,hx,hn,hp⟩
   ·rw[List.takeWhile_cons_of_neg (by simpa using ha)]
    constructor
    ·intro hh;cases hh
    ·rintro⟨x,hx,hn,-⟩
     rcases List.mem_cons.1 hx with rfl|hx
     ·exact absurd hn ha
     ·have:=h1 x hx;omega
theorem Good.itemsAsc{t:Tr}{S:List Int}(G:Good t S):t.items.Pairwise (· < ·):=by
 have h:=G.items;refine(List.Pairwise.and_mem.1 h).imp ?_;rintro a b⟨_,hb,hab⟩;have:=(G.item b hb).2.1;omega
theorem xD{t:Tr}{S:List Int}{ups:List Int}(wf:WF t)(G:Good t S)(h:IsUps t ups){node:Nat} :
 (t.items.any fun j=>fZ t ups node j.toNat)=aN t node:=by
 rw[Bool.eq_iff_iff];unfold aN;rw[fR G.itemsAsc,List.any_eq_true];constructor
 ·rintro⟨x,hx,hb⟩
  obtain⟨_,_,hl,h0,hk⟩:=G.item x hx;obtain⟨m,rfl⟩:=Int.eq_ofNat_of_zero_le h0;rw[Int.toNat_natCast,lX wf h (by omega)]at hb;simp only[Bool.and_eq_true,Bool.or_eq_true,decide_eq_true_eq]at hb;obtain⟨h1,h2,h3⟩:=hb;refine⟨m,hx,by omega,?_⟩;rw[Bool.and_eq_true];refine⟨?_,h2⟩;rcases h3 with h3|h3
  ·rw[beq_iff_eq]at h3;rw[h3]at hk;cases hk
  ·exact h3
 ·rintro⟨x,hx,hn,hb⟩
  obtain⟨_,_,hl,h0,hk⟩:=G.item x hx;obtain⟨m,rfl⟩:=Int.eq_ofNat_of_zero_le h0;refine⟨m,hx,?_⟩;rw[Bool.and_eq_true]at hb;rw[Int.toNat_natCast,lX wf h (by omega)];simp only[Bool.and_eq_true,Bool.or_eq_true,decide_eq_true_eq];exact⟨by omega,hb.2,.inr hb.1⟩
theorem Good.kidsAsc{t:Tr}{S:List Int}(G:Good t S){i:Nat}(hi:i<t.nodes.length):(t.nd i).kids.Pairwise (· < ·):=by
 have h:=G.asc hi;refine(List.Pairwise.and_mem.1 h).imp ?_;rintro a b⟨_,hb,hab⟩;have:=(G.kid hi b hb).2.1;omega
theorem Good.params{t:Tr}{S:List Int}(G:Good t S){i:Nat}(hi:i<t.nodes.length){a b:Int}(ha:a∈(t.nd i).kids)(hb:b∈(t.nd i).kids)(hab:a<b)(hk:(t.nd b).kind=34):(t.nd a).kind=34:=by
 have hr:=G.right i hi;simp only[bJ,gR,Bool.and_eq_true]at hr;have hr:=List.all_eq_true.1 hr.2;obtain⟨x,hx,rfl⟩:=List.getElem_of_mem ha;obtain⟨y,hy,rfl⟩:=List.getElem_of_mem hb;have h1:=hr x (List.mem_range.2 hx);have h2:=hr y (List.mem_range.2 hy);simp only[kS,Bool.and_eq_true,List.getD_eq_getElem?_getD,List.getElem?_eq_getElem hx,List.getElem?_eq_getElem hy,Option.getD_some]at h1 h2;have h1:=h1.1;have h2:=h2.1;rw[hk]at h2
 have hxy:x<y:=by
  apply Classical.byContradiction;intro hn;have:=List.pairwise_iff_getElem.1 (G.kidsAsc hi);rcases Nat.lt_or_ge y x with h|h
  ·have:=this y x hy hx h;omega
  ·have:x=y:=by omega
   subst this;omega
 unfold kidK at h1 h2;by_cases c24:(t.nd i).kind=24
 ·rw[if_pos (by simpa using c24)]at h2;simp at h2
 rw[if_neg (by simpa using c24)]at h1 h2;by_cases c41:(t.nd i).kind=41
 ·rw[if_pos (by simpa using c41)]at h1;simpa using h1
 rw[if_neg (by simpa using c41)]at h1 h2;by_cases c34:((t.nd i).kind==34||(t.nd i).kind==33)=true
 ·rw[if_pos c34]at h2;simp[fT]at h2
 rw[if_neg c34]at h1 h2;by_cases c40:(t.nd i).kind=40
 ·rw[if_pos (by simpa using c40)]at h2;simp at h2
 rw[if_neg (by simpa using c40)]at h1 h2;by_cases c42:(t.nd i).kind=42
 ·rw[if_pos (by simpa using c42)]at h1 h2
  by_cases y1:(y:Int)=((t.nd i).kids.length:Int)-1
  ·rw[if_pos (by simpa using y1)]at h2;simp[bB]at h2
  rw[if_neg (by simpa using y1)]at h2;by_cases y2:(y:Int)=((t.nd i).kids.length:Int)-2
  ·rw[if_pos (by simpa using y2)]at h2;simp[fT]at h2
  rw[if_neg (by simp;omega),if_neg (by simp;omega)]at h1;simpa using h1
 ·rw[if_neg (by simpa using c42)]at h2
  simp[bB]at h2
theorem uU{t:Tr}{S:List Int}{ups:List Int}(wf:WF t)(G:Good t S)(h:IsUps t ups){node:Nat}(hn:node<t.nodes.length)(hk:(t.nd node).kind=34) :
 ((t.nd (parent t node)).kids.any fun j=>fZ t ups node j.toNat)=aO t node:=by
 have hp:=wf.par node hn (by rw[t.nd_at hn]at hk;exact hk);obtain⟨i,he,hi,hm⟩:=zF hp;unfold aO;rw[he,Bool.eq_iff_iff,fR (G.kidsAsc hi),List.any_eq_true];constructor
 ·rintro⟨x,hx,hb⟩
  obtain⟨_,_,hl,h0⟩:=G.kid hi x hx;obtain⟨m,rfl⟩:=Int.eq_ofNat_of_zero_le h0;rw[Int.toNat_natCast,lX wf h (by omega)]at hb;simp only[Bool.and_eq_true,Bool.or_eq_true,decide_eq_true_eq]at hb;obtain⟨h1,h2,-⟩:=hb;refine⟨m,hx,by omega,?_⟩;rw[Bool.and_eq_true,beq_iff_eq];exact⟨G.params hi hx hm (by omega) hk,h2⟩
 ·rintro⟨x,hx,hlt,hb⟩
  obtain⟨_,_,hl,h0⟩:=G.kid hi x hx;obtain⟨m,rfl⟩:=Int.eq_ofNat_of_zero_le h0;refine⟨m,hx,?_⟩;rw[Bool.and_eq_true]at hb;rw[Int.toNat_natCast,lX wf h (by omega)];simp only[Bool.and_eq_true,Bool.or_eq_true,decide_eq_true_eq];exact⟨by omega,hb.2,.inl hb.1⟩
theorem BL{t:Tr}{S:List Int}{ups:List Int}(wf:WF t)(G:Good t S)(h:IsUps t ups){node:Nat}(hn:node<t.nodes.length) :
 eI t ups node=(aX t node&&zh t node&&aN t node||(t.nd node).kind==34&&aO t node):=by
 unfold eI wU;rw[h node hn,lJ wf h hn];by_cases hit:(node:Int)∈t.items
 ·have hp:=G.noParent hit
  have hin:aX t node=true:=by simpa[aX,hasI]using hit
  have hk:=(G.item _ hit).2.2.2.2
  have h34:((t.nd node).kind==34)=false:=by
   cases hx:((t.nd node).kind==34)with
   |false=>rfl
   |true=>rw[beq_iff_eq]at hx;rw[hx]at hk;cases hk
  rw[hp,hin,h34]
  cases zh t node with
  |false=>simp
  | true=>
    have:=xD wf G h (node:=node);simp[this]
 ·have hp:=G.parent_yes hn hit
  have hin:aX t node=false:=by
   rw[Bool.eq_false_iff];simpa[aX,hasI]using hit
  have h1:(parent t node != -1)=true:=by simp;omega
  have h2:(parent t node == -1)=false:=by simp;omega
  rw[h1,h2,hin];cases hk:((t.nd node).kind==34)with
  |false=>simp
  | true=>
    have:=uU wf G h hn (by simpa using hk);simp[this]
theorem yH{p:Int→Bool}{l:List Int}(h:∀a∈l,∀b∈l,p a=true→p b=true→a=b):l.reverse.find? p=l.find? p:=by
 cases h1:l.find? p with
 | none=>
   rw[List.find?_eq_none]at h1⊢;exact fun x hx=>h1 x (by simpa using hx)
 | some a=>
   have ha:=List.mem_of_find?_eq_some h1;have hpa:=List.find?_some h1
   cases h2:l.reverse.find? p with
   | none=>
     rw[List.find?_eq_none]at h2;exact absurd hpa (h2 a (by simpa using ha))
   | some b=>
     have hb:=List.mem_of_find?_eq_some h2;rw[h b (by simpa using hb) a ha (List.find?_some h2) hpa]
def zA(t:Tr)(node:Int):List Int:=(zQ t node).1++(t.items.filter fun it=>decide (it<node)&&zh t it).reverse
def aU(t:Tr)(node:Int):Int:=
 match (zA t node).find? (fun d=>(t.nd d).text==(t.nd node).text)with
 |some d=>if suits (t.nd node).kind (t.nd d).kind then d else -1
 |none=>-1
def gM(t:Tr)(node:Int):Prop:=∀a∈t.items,∀b∈t.items,a<node→b<node→zh t a=true→zh t b=true→(t.nd a).text=(t.nd b).text→a=b
theorem xS{t:Tr}{node:Int}(ho:gM t node)(htop:(t.items.filter fun it=>decide (it<(zQ t node).2)&&zh t it)=t.items.filter fun it=>decide (it<node)&&zh t it) :
 (zA t node).find? (fun d=>(t.nd d).text==(t.nd node).text)=(sight t node).find? (fun d=>(t.nd d).text==(t.nd node).text):=by
 unfold zA sight;rw[htop,List.find?_append,List.find?_append,yH];intro a ha b hb h1 h2;simp only[List.mem_filter,Bool.and_eq_true,decide_eq_true_eq]at ha hb;rw[beq_iff_eq]at h1 h2;exact ho a ha.1 b hb.1 ha.2.1 hb.2.1 ha.2.2 hb.2.2 (h1.trans h2.symm)
theorem KB{t:Tr}(wf:WF t){node:Nat}(ho:gM t node)(htop:(t.items.filter fun it=>decide (it<(zQ t node).2)&&zh t it)=t.items.filter fun it=>decide (it<(node:Int))&&zh t it)(hn:aV (t.nd node).kind=true) :
 aU t node=means t node:=by
 unfold aU means nearest;rw[xS ho htop,if_pos hn];cases hf:(sight t node).find? (fun d=>(t.nd d).text==(t.nd node).text)with
 |none=>simp
 | some d=>
   have hd:=(jJ wf (List.mem_of_find?_eq_some hf)).1;simp only[Option.getD_some]
   cases hs:suits (t.nd node).kind (t.nd d).kind with
   |true=>rw[if_pos rfl,if_neg];simp;omega
   |false=>rw[if_neg Bool.false_ne_true,if_pos];simp
theorem Good.begins{t:Tr}{S:List Int}(G:Good t S){j:Nat}(hj:j<t.nodes.length):stt S j<j:=by
 rcases G.kidOrItem hj with h|⟨i,hi,h⟩
 ·exact(G.item _ h).2.1
 ·exact(G.kid hi _ h).2.1
theorem GI{α:Type}{t:Tr}{S:List Int}(G:Good t S)(g:Int→Int→α→α){node:Int}:∀(f last:Nat) (acc:α),last<t.nodes.length→t.nodes.length≤f+last→stt S last<node→node≤last →
 (upF t g f last (parent t last) acc).2∈t.items∧stt S (upF t g f last (parent t last) acc).2<node∧node≤(upF t g f last (parent t last) acc).2
 |0,last,acc,hl,hf,_,_=>by omega
 | f+1,last,acc,hl,hf,h1,h2=>by
   rw[upF];by_cases hp:parent t last<0
   ·rw[if_pos hp]
    refine⟨?_,h1,h2⟩;apply Classical.byContradiction;intro hn;have:=G.parent_yes hl hn;omega
   ·rw[if_neg hp]
    obtain⟨i,he,hi,hm⟩:=zF (show 0≤parent t last by omega);have hk:=G.kid hi _ hm;rw[he];exact GI G g f i _ hi (by omega) (by omega) (by omega)
theorem Good.top{t:Tr}{S:List Int}(G:Good t S){node:Nat}(hn:node<t.nodes.length):(zQ t node).2∈t.items∧stt S (zQ t node).2<node∧(node:Int)≤(zQ t node).2:=
 GI G _ _ node [] hn (by omega) (G.begins hn) (Int.le_refl _)
theorem Good.ahead{t:Tr}{S:List Int}(G:Good t S){node:Nat}(hn:node<t.nodes.length) :
 (t.items.filter fun it=>decide (it<(zQ t node).2)&&zh t it)=t.items.filter fun it=>decide (it<(node:Int))&&zh t it:=by
 obtain⟨h1,h2,h3⟩:=G.top hn;refine List.filter_congr fun it hit=>?_;congr 1;rw[Bool.eq_iff_iff,decide_eq_true_iff,decide_eq_true_iff];constructor
 ·intro hlt
  obtain⟨x,hx,e1⟩:=List.getElem_of_mem hit;obtain⟨y,hy,e2⟩:=List.getElem_of_mem h1
  have hxy:x<y:=by
   apply Classical.byContradiction;intro hge;have ha:=List.pairwise_iff_getElem.1 G.itemsAsc;rcases Nat.lt_or_ge y x with h|h
   ·have:=ha y x hy hx h;omega
   ·have:x=y:=by omega
    subst this;omega
  have:=List.pairwise_iff_getElem.1 G.items x y hx hy hxy;rw[e1,e2]at this;omega
 ·intro hlt;omega
theorem pO{t:Tr}{S:List Int}(wf:WF t)(G:Good t S){node:Nat}(hn:node<t.nodes.length)(ho:gM t node)(hk:aV (t.nd node).kind=true):aU t node=means t node:=
 KB wf ho (G.ahead hn) hk
theorem GB{t:Tr}{m:Int}(h:aQ t m=0):(aX t m&&zh t m&&aN t m)=false:=by
 cases hx:(aX t m&&zh t m&&aN t m)with
 |false=>rfl
 |true=>rw[aQ,if_pos hx]at h;cases h
theorem ET{t:Tr}{S:List Int}(G:Good t S){node:Nat}(h:∀m:Nat,m<node→aQ t m=0):gM t node:=by
 have key:∀a∈t.items,∀b∈t.items,a<b→b<(node:Int)→zh t a=true→zh t b=true→(t.nd a).text=(t.nd b).text→False:=by
  intro a ha b hb hab hbn hda hdb htx;obtain⟨_,_,hl,h0,_⟩:=G.item b hb;obtain⟨m,rfl⟩:=Int.eq_ofNat_of_zero_le h0;have:=GB (h m (by omega));have h1:aX t m=true:=by simpa[aX,hasI]using hb
  have h2:aN t m=true:=by
   unfold aN;rw[fR G.itemsAsc];exact⟨a,ha,hab,by rw[hda,htx];simp⟩
  rw[h1,hdb,h2]at this;cases this
 intro a ha b hb han hbn hda hdb htx;rcases Int.lt_trichotomy a b with hlt|he|hlt
 ·exact(key a ha b hb hlt hbn hda hdb htx).elim
 ·exact he
 ·exact(key b hb a ha hlt han hdb hda htx.symm).elim
def zg(t:Tr)(k:Nat):List Int:=(List.range t.nodes.length).map fun(i:Nat)=>if i<k∧aV (t.nd i).kind=true then means t i else -1
theorem BE{t:Tr}{k:Nat}{d:Int}(hd:d ≠ -1):(zg t k).contains d=true↔∃i:Nat,i<t.nodes.length∧i<k∧aV (t.nd i).kind=true∧means t i=d:=by
 rw[List.contains_iff_mem];unfold zg;rw[List.mem_map];constructor
 ·rintro⟨i,hi,e⟩
  have hi:=List.mem_range.1 hi;split at e
  ·rename_i h;exact⟨i,hi,h.1,h.2,e⟩
  ·exact absurd e.symm hd
 ·rintro⟨i,hi,h1,h2,e⟩
  exact⟨i,List.mem_range.2 hi,by rw[if_pos ⟨h1,h2⟩];exact e⟩
theorem kR{t:Tr}{i:Int}(h:means t i ≠ -1):suits (t.nd i).kind (t.nd (means t i)).kind=true:=by
 unfold means at h⊢;split
 ·rename_i hk
  rw[if_pos hk]at h;split
  ·rename_i h1;rw[if_pos h1]at h;exact absurd rfl h
  ·rename_i h1
   simp only[Bool.or_eq_true,not_or,Bool.not_eq_true',Bool.not_eq_false]at h1;exact h1.2
 ·rename_i hk
  rw[if_neg hk]at h;exact absurd rfl h
theorem BU{t:Tr}{S:List Int}(G:Good t S){node:Nat}(hn:node<t.nodes.length)(hk:(t.nd node).kind=45)(hm:means t node ≠ -1) :
 (zg t node).contains (means t node)=zT t node:=by
 have hs:=kR hm;rw[hk]at hs;have h44:(t.nd (means t node)).kind=44:=by simpa[suits]using hs
 rw[Bool.eq_iff_iff,BE hm];unfold zT;rw[fR G.itemsAsc];constructor
 ·rintro⟨i,hi,hlt,hnk,he⟩
  have h1:=kR (t:=t) (i:=i) (by rw[he];exact hm);rw[he,h44]at h1
  have h45:(t.nd i).kind=45:=by
   unfold suits at h1;split at h1
   ·simp at h1
   ·split at h1
    ·simp at h1
    ·split at h1
     ·rename_i h;simpa using h
     ·simp at h1
  have hit:(i:Int)∈t.items:=by
   rcases G.kidOrItem hi with h|⟨j,hj,h⟩
   ·exact h
   ·have:=G.kidKind hj h
    rw[h45]at this;cases this
  exact⟨i,hit,by omega,by rw[h45,he];simp⟩
 ·rintro⟨it,hit,hlt,hb⟩
  obtain⟨_,_,hl,h0,_⟩:=G.item it hit;obtain⟨m,rfl⟩:=Int.eq_ofNat_of_zero_le h0;simp only[Bool.and_eq_true,beq_iff_eq]at hb;exact⟨m,by omega,by omega,by rw[hb.1];rfl,hb.2⟩
def visF(t:Tr):List (List UInt8)→List Int→List Int
 |_,[]=>[]
 |seen,d::r=>(if !seen.contains (t.nd d).text&&suits 3 (t.nd d).kind then [d]else [])++visF t ((t.nd d).text::seen) r
theorem Good.paramKind{t:Tr}{S:List Int}(G:Good t S){i:Nat}(hi:i<t.nodes.length)(c42:(t.nd i).kind=42){x:Nat}(hx:x<(t.nd i).kids.length)(hx2:x<(t.nd i).kids.length-2):(t.nd (t.nd i).kids[x]).kind=34:=by
 have hr:=G.right i hi;simp only[bJ,gR,Bool.and_eq_true]at hr;have h1:=List.all_eq_true.1 hr.2 x (List.mem_range.2 hx);simp only[kS,Bool.and_eq_true,List.getD_eq_getElem?_getD,List.getElem?_eq_getElem hx,Option.getD_some]at h1;have h1:=h1.1;unfold kidK at h1;rw[if_neg (by simp[c42]),if_neg (by simp[c42]),if_neg (by simp[c42]),if_neg (by simp[c42]),if_pos (by simp[c42])]at h1;rw[if_neg (by simp;omega),if_neg (by simp;omega)]at h1;simpa using h1
theorem yX{t:Tr}{S:List Int}(wf:WF t)(G:Good t S):∀(f last:Nat) (acc:List Int),last<t.nodes.length→acc.Nodup→(∀x∈acc,(t.nd x).kind=20∧x≤(last:Int)) →
 (upF t (fun last n acc=>acc++zz (t.nd n) last n) f last (parent t last) acc).1.Nodup∧∀x∈(upF t (fun last n acc=>acc++zz (t.nd n) last n) f last (parent t last) acc).1,(t.nd x).kind=20∨(t.nd x).kind=34∨(t.nd x).kind=42∧(last:Int)≤x
 |0,last,acc,hl,hnd,ha=>⟨hnd,fun x hx=>.inl (ha x hx).1⟩
 | f+1,last,acc,hl,hnd,ha=>by
   rw[upF];by_cases hp:parent t last<0
   ·rw[if_pos hp]
    exact⟨hnd,fun x hx=>.inl (ha x hx).1⟩
   ·rw[if_neg hp]
    obtain⟨i,he,hi,hm⟩:=zF (show 0≤parent t last by omega);have hk:=G.kid hi _ hm;rw[he];by_cases c42:(t.nd i).kind=42
    ·have hit:(i:Int)∈t.items:=by
      apply Classical.byContradiction;intro hn;obtain⟨j,_,hj,hmj⟩:=zF (G.parent_yes hi hn);have:=G.kidKind hj hmj;rw[c42]at this;simp[cH]at this
     have hend:∀a,(upF t (fun last n acc=>acc++zz (t.nd n) last n) f i (parent t i) a).1=a:=fun a=>by
      cases f with
      |zero=>rfl
      |succ f=>rw[upF,if_pos (by rw[G.noParent hit];omega)]
     rw[hend];unfold zz;rw[if_neg (by simp[c42]),List.nil_append];by_cases hc:((t.nd i).kind==42&&(t.nd i).kids[(t.nd i).kids.length-1]?==some (last:Int))=true
     ·rw[if_pos hc]
      have hpar:∀x∈(t.nd i).kids.take ((t.nd i).kids.length-2),(t.nd x).kind=34∧x<(i:Int):=by
       intro x hx;obtain⟨k,hk,rfl⟩:=List.getElem_of_mem hx;rw[List.getElem_take];have hk2:k<(t.nd i).kids.length-2∧k<(t.nd i).kids.length:=by simp at hk;omega
       exact⟨G.paramKind hi c42 hk2.2 hk2.1,(G.kid hi _ (List.getElem_mem hk2.2)).2.2.1⟩
      refine⟨?_,?_⟩
      ·rw[List.nodup_append]
       refine⟨hnd,?_,?_⟩
       ·rw[List.nodup_append]
        refine⟨((G.kidsAsc hi).imp (fun h=>by omega)).sublist (List.take_sublist _ _),by simp,fun a ha b hb=>?_⟩;obtain rfl:=List.mem_singleton.1 hb;have:=(hpar a ha).2;omega
       ·intro a ha' b hb e
        subst e;rcases List.mem_append.1 hb with hb|hb
        ·have:=(ha a ha').1;have:=(hpar a hb).1;omega
        ·obtain rfl:=List.mem_singleton.1 hb
         have:=(ha _ ha').1;omega
      ·intro x hx
       rcases List.mem_append.1 hx with hx|hx
       ·exact .inl (ha x hx).1
       ·rcases List.mem_append.1 hx with hx|hx
        ·exact .inr (.inl (hpar x hx).1)
        ·obtain rfl:=List.mem_singleton.1 hx
         exact .inr (.inr ⟨c42,by omega⟩)
     ·rw[if_neg hc,List.append_nil]
      exact⟨hnd,fun x hx=>.inl (ha x hx).1⟩
    ·have hsa:zz (t.nd i) last i=if (t.nd i).kind==20&&(t.nd i).kids[1]?==some (last:Int)then [(i:Int)]else []:=by
      unfold zz;rw[show((t.nd i).kind==42)=false by simpa using c42,Bool.false_and,if_neg Bool.false_ne_true,List.append_nil]
     have:=yX wf G f i (acc++zz (t.nd i) last i) hi (by
      rw[hsa];split
      ·rw[List.nodup_append]
       refine⟨hnd,by simp,fun a ha' b hb e=>?_⟩;obtain rfl:=List.mem_singleton.1 hb;have:=(ha a ha').2;omega
      ·rw[List.append_nil];exact hnd) (by
      intro x hx;rcases List.mem_append.1 hx with hx|hx
      ·exact⟨(ha x hx).1,by have:=(ha x hx).2;omega⟩
      ·rw[hsa]at hx
       split at hx
       ·rename_i hc
        obtain rfl:=List.mem_singleton.1 hx;rw[Bool.and_eq_true,beq_iff_eq]at hc;exact⟨hc.1,Int.le_refl _⟩
       ·cases hx)
     refine⟨this.1,fun x hx=>?_⟩;rcases this.2 x hx with h|h|⟨h1,h2⟩
     ·exact .inl h
     ·exact .inr (.inl h)
     ·exact .inr (.inr ⟨h1,by omega⟩)
theorem mZ{t:Tr}{S:List Int}(wf:WF t)(G:Good t S){node:Nat}(hn:node<t.nodes.length):(zA t node).Nodup:=by
 have h:=yX wf G (t.nodes.length+1) node [] hn List.nodup_nil (fun x h=>by cases h);have hu:(zQ t node).1=(upF t (fun last n acc=>acc++zz (t.nd n) last n) (t.nodes.length+1) node (parent t node) []).1:=rfl;unfold zA;rw[hu,List.nodup_append];refine⟨h.1,?_,?_⟩
 ·unfold List.Nodup
  rw[List.pairwise_reverse];exact(G.itemsAsc.sublist List.filter_sublist).imp (fun h=>by omega)
 ·intro a ha b hb e
  subst e;simp only[List.mem_reverse,List.mem_filter,Bool.and_eq_true,decide_eq_true_eq]at hb;have hk:=(G.item a hb.1).2.2.2.2;rcases h.2 a ha with h|h|⟨_,h⟩
  ·rw[h]at hk;simp[cH]at hk
  ·rw[h]at hk;simp[cH]at hk
  ·omega
end
end Go.Proofs.YtokdgiphdnjeoaaGreatDoor
