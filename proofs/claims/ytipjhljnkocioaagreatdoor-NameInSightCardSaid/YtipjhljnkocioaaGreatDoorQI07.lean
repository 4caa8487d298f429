/- Part of a proof. -/
import Derived.Test.YtipjhljnkocioaaGreatDoorP37
import Derived.Test.YtipjhljnkocioaaGreatDoorQI03
import Derived.Test.YtipjhljnkocioaaGreatDoorQI05
set_option maxRecDepth 100000
set_option maxHeartbeats 8000000
set_option linter.unusedVariables false
set_option linter.unusedSimpArgs false
namespace Go.Proofs.YtipjhljnkocioaaGreatDoor
section
open Go Go.RowKit
theorem MP{t:Tr}{S:List Int}(G:Good t S){i:Nat}(hi:i<t.nodes.length):eY t i=zZ (t.nd i).kind:=by
 have hr:=G.right i hi;unfold bR okK at hr;unfold eY zZ fL dN at *;by_cases h1:1≤(t.nd i).kind
 ·simp[h1]
 ·exfalso
  have e1:((t.nd (i:Int)).kind==25)=false:=by rw[beq_eq_false_iff_ne];omega
  have e2:((t.nd (i:Int)).kind==34)=false:=by rw[beq_eq_false_iff_ne];omega
  simp[h1,e1,e2,show ¬30≤(t.nd (i:Int)).kind by omega,show ¬40≤(t.nd (i:Int)).kind by omega]at hr
theorem mem_visible{t:Tr}{i x:Int}:x∈visible t i↔x∈sight t i∧nearest t i (t.nd x).text=x∧suits 3 (t.nd x).kind=true:=by
 unfold visible;rw[(bF _).mem_iff,List.mem_filter,Bool.and_eq_true,beq_iff_eq]
theorem MF{t:Tr}(h:(zc t).2.2=0)(G:Good t (bV t)){i:Nat}(hi:i<t.nodes.length):fC t i:=
 vP G fun m hm=>(aD h).err m (by omega)
theorem MB{t:Tr}(bd:Bd t)(h:(zc t).2.2=0){i:Nat}(hi:i<t.nodes.length):(visible t i).Pairwise (· < ·):=by
 obtain⟨wf,G⟩:=zK bd h;rw[←MV wf G hi (MF h G hi)]
 have hnd:(bA (visF t [] (zB t i))).Nodup:=by
  rw[(bF _).nodup_iff,LP t _ _ (fQ wf G hi)];exact(fQ wf G hi).sublist List.filter_sublist
 have h2:(bA (visF t [] (zB t i))).Pairwise (fun a b=>a≤b∧a≠b):=List.pairwise_and_iff.2 ⟨bW _,hnd⟩;exact h2.imp fun h=>by omega
theorem MZ{t:Tr}(bd:Bd t)(h:(zc t).2.2=0){i:Nat}(hi:i<t.nodes.length):visU t i=if zZ (t.nd i).kind then (visible t i,0)else ([],7):=by
 obtain⟨wf,G⟩:=zK bd h;unfold visU;rw[jF h hi,MP G hi]
 cases zZ (t.nd i).kind with
 |true=>rw[if_pos rfl,if_pos rfl,if_pos rfl,MV wf G hi (MF h G hi)]
 |false=>simp
theorem LR{t:Tr}(bd:Bd t)(h:(zc t).2.2=0){i:Nat}(hi:i<t.nodes.length)(hk:(t.nd i).kind=3):means t i∈visible t i:=by
 obtain⟨d,hd,hdl,_,htx,hs,_⟩:=oJ bd h hi (by rw[hk];rfl);have hne:means t i ≠ -1:=by omega
 have h1:=gW hne
 have h2:means t i=nearest t i (t.nd i).text:=by
  unfold means at hne⊢;rw[if_pos (by rw[hk];rfl)]at hne⊢;split at hne
  ·exact absurd rfl hne
  ·rename_i hc;rw[if_neg hc]
 refine mem_visible.2 ⟨h1,?_,?_⟩
 ·rw[hd,htx,←h2,hd]
 ·rw[hd,←oU rfl,←hk];exact hs
theorem MJ{t:Tr}(bd:Bd t)(h:(zc t).2.2=0){i:Nat}(hi:i<t.nodes.length){x:Int}(hx:x∈visible t i):0≤x∧x<t.nodes.length∧oT 3 (t.nd x).kind=true:=by
 obtain⟨wf,G⟩:=zK bd h;obtain⟨h1,h2,h3⟩:=mem_visible.1 hx;obtain⟨_,h4,h5⟩:=fI G hi h1;exact⟨h4,h5,by rw[oU rfl];exact h3⟩
theorem LW{t:Tr}{i x y:Int}(hx:x∈visible t i)(hy:y∈visible t i)(h:(t.nd x).text=(t.nd y).text):x=y:=by
 have h1:=(mem_visible.1 hx).2.1;have h2:=(mem_visible.1 hy).2.1;rw[h]at h1;exact h1.symm.trans h2
theorem MC{t:Tr}(wf:WF t){node:Nat}(hn:node<t.nodes.length):(visible t node).length≤2000003000000:=by
 unfold visible;rw[(bF _).length_eq];exact Nat.le_trans (List.length_filter_le _ _) (EE wf hn)
theorem MA(t:Tr):∀(f:Nat) (last n:Int) (acc:List Int),(upF t (fun last n acc=>acc++zy (t.nd n) last n) f last n acc).1=acc++(upF t (fun last n acc=>acc++zy (t.nd n) last n) f last n []).1
 |0,last,n,acc=>by simp[upF]
 | f+1,last,n,acc=>by
   rw[upF,upF];by_cases hn:n<0
   ·rw[if_pos hn,if_pos hn];simp
   ·rw[if_neg hn,if_neg hn,MA t f n _ (acc++_),MA t f n _ ([]++_),List.nil_append,List.append_assoc]
theorem MY(t:Tr)(last n:Int)(acc:List Int):(upw t (fun last n acc=>acc++zy (t.nd n) last n) last n acc).1=acc++(upw t (fun last n acc=>acc++zy (t.nd n) last n) last n []).1:=MA t _ _ _ _
def UpAt(t:Tr)(i n:Int)(hs:List (List UInt8)):Prop:=
 parent t n<0∨∃acc:List Int,hs=acc.map (fun x=>(t.nd x).text)∧(aZ t i).1=(upw t (fun last n acc=>acc++zy (t.nd n) last n) n (parent t n) acc).1∧∀x∈acc,x≤n
theorem UpAt.start(t:Tr)(i:Int):UpAt t i i []:=.inr ⟨[],rfl,rfl,fun x h=>by cases h⟩
def letB(t:Tr)(n p:Int):Bool:=(t.nd p).kind==20&&((t.nd p).kids.length==2&&(t.nd p).kids.getD 1 0==n)
theorem MW{t:Tr}{S:List Int}(G:Good t S){i:Nat}(hi:i<t.nodes.length)(c42:(t.nd i).kind=42):parent t i = -1:=by
 refine G.noParent ?_;apply Classical.byContradiction;intro hn;obtain⟨j,_,hj,hmj⟩:=zO (G.parent_yes hi hn);have:=G.kidKind hj hmj;rw[c42]at this;simp[dN]at this
theorem UpAt.step{t:Tr}{S:List Int}(wf:WF t)(G:Good t S){i:Int}{n p:Nat}{hs:List (List UInt8)}(hn:n<t.nodes.length)(hp:parent t n=p)(hpl:p<t.nodes.length)(h:UpAt t i n hs) :
 (letB t n p=true→(((p:Int)∈visible t i↔(t.nd p).text ∉ hs)∧UpAt t i p (hs++[(t.nd p).text])))∧(letB t n p=false→UpAt t i p hs):=by
 have hlt:=dD t n (by omega);rw[hp]at hlt;rcases h with h|⟨acc,rfl,h2,h3⟩
 ·omega
 ·rw[hp,ME t _ _ _ (by omega),if_neg (by omega)]at h2
  constructor
  ·intro hb
   unfold letB at hb;simp only[Bool.and_eq_true,beq_iff_eq]at hb;obtain⟨hk,hl,hb⟩:=hb
   have hs1:zy (t.nd p) n p=[(p:Int)]:=by
    unfold zy;rw[List.getD_eq_getElem?_getD,List.getElem?_eq_getElem (show 1<(t.nd p).kids.length by omega),Option.getD_some]at hb;rw[List.getElem?_eq_getElem (show 1<(t.nd p).kids.length by omega),hb,hk];simp
   simp only[hs1]at h2;refine⟨?_,.inr ⟨acc++[(p:Int)],by simp,h2,?_⟩⟩
   ·rw[MY]at h2
    have hsi:sight t i=acc++((p:Int)::((upw t (fun last n acc=>acc++zy (t.nd n) last n) p (parent t p) []).1++t.items.filter fun it=>decide (it<(aZ t i).2)&&zi t it)):=by
     unfold sight;rw[h2];simp
    have hmem:(p:Int)∈sight t i:=by rw[hsi];simp
    have hsu:suits 3 (t.nd p).kind=true:=by rw[hk];rfl
    rw[mem_visible,hsu];unfold nearest;rw[hsi,List.find?_append,←hsi];constructor
    ·rintro⟨_,h4,_⟩ hm
     obtain⟨y,hy,hyt⟩:=List.mem_map.1 hm;cases hf:acc.find? (fun d=>(t.nd d).text==(t.nd p).text)with
     | none=>
       rw[List.find?_eq_none]at hf;exact hf y hy (by simpa using hyt)
     | some z=>
       rw[hf]at h4;simp only[Option.some_or,Option.getD_some]at h4;have:=h3 z (List.mem_of_find?_eq_some hf);omega
    ·intro hm
     refine⟨hmem,?_,rfl⟩
     have hf:acc.find? (fun d=>(t.nd d).text==(t.nd p).text)=none:=by
      rw[List.find?_eq_none];intro y hy he;exact hm (List.mem_map.2 ⟨y,hy,by simpa using he⟩)
     rw[hf,List.find?_cons];simp
   ·intro x hx
    rcases List.mem_append.1 hx with hx|hx
    ·have:=h3 x hx;omega
    ·obtain rfl:=List.mem_singleton.1 hx;exact Int.le_refl _
  ·intro hb
   by_cases c42:(t.nd p).kind=42
   ·exact .inl (by rw[MW G hpl c42];omega)
   ·have hs1:zy (t.nd p) n p=[]:=by
     unfold zy;rw[show((t.nd p).kind==42)=false by simpa using c42];by_cases hk:(t.nd p).kind=20
     ·have hl:(t.nd p).kids.length=2:=by rw[t.nd_at hpl];exact wf.letK p hpl (by rw[←t.nd_at hpl];exact hk)
      unfold letB at hb;rw[hk,hl,List.getD_eq_getElem?_getD,List.getElem?_eq_getElem (show 1<(t.nd p).kids.length by omega),Option.getD_some]at hb;rw[List.getElem?_eq_getElem (show 1<(t.nd p).kids.length by omega)];have:¬(t.nd p).kids[1]'(by omega)=(n:Int):=by simpa using hb
      simp[this]
     ·simp[hk]
    simp only[hs1,List.append_nil]at h2;exact .inr ⟨acc,rfl,h2,fun x hx=>by have:=h3 x hx;omega⟩
end
end Go.Proofs.YtipjhljnkocioaaGreatDoor
