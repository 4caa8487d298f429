/- Part of a proof. -/
import Derived.Test.YtipjhljnkocioaaGreatDoorC37
set_option maxRecDepth 100000
set_option maxHeartbeats 8000000
set_option linter.unusedVariables false
set_option linter.unusedSimpArgs false
namespace Go.Proofs.YtipjhljnkocioaaGreatDoor
section
open Go.RowKit
theorem OZ{t:Tr}{n:Int}(h:cI t n=0)(hk:dW (t.nd n).kind=true):0≤means t n:=by
 unfold cI at h;split at h
 ·cases h
 ·split at h
  ·cases h
  ·rw[hk,if_neg (by simp)]at h
   split at h
   ·cases h
   ·omega
theorem PI{t:Tr}{n:Int}(h:means t n ≠ -1):(t.nd (means t n)).text=(t.nd n).text∧suits (t.nd n).kind (t.nd (means t n)).kind=true∧dW (t.nd n).kind=true:=by
 unfold means at h⊢;split at h
 ·split at h
  ·exact absurd rfl h
  ·rename_i h1 h2
   rw[if_pos h1,if_neg h2];simp only[Bool.or_eq_true,decide_eq_true_eq,Bool.not_eq_true',not_or,Bool.not_eq_false]at h2;refine⟨?_,h2.2,h1⟩;unfold nearest at h2⊢;cases hf:(sight t n).find? (fun d=>(t.nd d).text==(t.nd n).text)with
   |none=>rw[hf]at h2;simp at h2
   |some d=>simpa using List.find?_some hf
 ·exact absurd rfl h
def InSight(t:Tr)(node x:Int):Prop:=
 ((t.nd x).kind=20∧(∃k,(t.nd x).kids[1]?=some k∧inside t node k=true)∧inside t node x=true)∨((t.nd x).kind=42∧inside t node x=true)∨((t.nd x).kind=34∧0≤parent t x∧(t.nd (parent t x)).kind=42∧inside t node (parent t x)=true)
theorem PB{t:Tr}{S:List Int}(G:Good t S){node:Nat}(hn:node<t.nodes.length):∀(f last:Nat) (acc:List Int),last<t.nodes.length→inside t node last=true→(∀x∈acc,InSight t node x∧0≤x∧x<t.nodes.length) →
 ∀x∈(upF t (fun last n acc=>acc++zH (t.nd n) last n) f last (parent t last) acc).1,InSight t node x∧0≤x∧x<t.nodes.length
 |0,last,acc,hl,hin,ha=>ha
 | f+1,last,acc,hl,hin,ha=>by
   rw[upF];by_cases hp:parent t last<0
   ·rw[if_pos hp];exact ha
   ·rw[if_neg hp]
    obtain⟨i,he,hi,hm⟩:=aK (show 0≤parent t last by omega);have hk:=G.kid hi _ hm;rw[he];have hini:=uD he (by omega) (by omega) _ node nlr hn hin;refine PB G hn f i _ hi hini fun x hx=>?_;rcases List.mem_append.1 hx with hx|hx
    ·exact ha x hx
    ·unfold zH at hx
     rcases List.mem_append.1 hx with hx|hx
     ·split at hx
      ·rename_i hc
       obtain rfl:=List.mem_singleton.1 hx;simp only[Bool.and_eq_true,beq_iff_eq]at hc;exact⟨.inl ⟨hc.1,⟨_,hc.2,hin⟩,hini⟩,by omega,by omega⟩
      ·cases hx
     ·split at hx
      ·rename_i hc
       simp only[Bool.and_eq_true,beq_iff_eq]at hc;rcases List.mem_append.1 hx with hx|hx
       ·obtain⟨k,hk1,rfl⟩:=List.getElem_of_mem hx
        have hk2:k<(t.nd i).kids.length-2∧k<(t.nd i).kids.length:=by simp at hk1;omega
        rw[List.getElem_take];have hmem:=List.getElem_mem hk2.2;have hp:=G.parent_of hi hmem;have hkk:=G.kid hi _ hmem;exact⟨.inr (.inr ⟨G.paramKind hi hc.1 hk2.2 hk2.1,by omega,by rw[hp];exact hc.1,by rw[hp];exact hini⟩),by omega,by omega⟩
       ·obtain rfl:=List.mem_singleton.1 hx
        exact⟨.inr (.inl ⟨hc.1,hini⟩),by omega,by omega⟩
      ·cases hx
theorem OS{t:Tr}{S:List Int}(G:Good t S){node:Nat}(hn:node<t.nodes.length){x:Int}(h:x∈sight t node):(InSight t node x∨(x∈t.items∧x<(node:Int)∧zl t x=true))∧0≤x∧x<t.nodes.length:=by
 unfold sight at h;rcases List.mem_append.1 h with h|h
 ·obtain⟨h1,h2,h3⟩:=PB G hn (t.nodes.length+1) node [] hn (kA (by omega) (by omega)) (fun x h=>by cases h) x h
  exact⟨.inl h1,h2,h3⟩
 ·rw[G.ahead hn]at h
  simp only[List.mem_filter,Bool.and_eq_true,decide_eq_true_eq]at h;obtain⟨_,_,h2,h3,_⟩:=G.item x h.1;exact⟨.inr ⟨h.1,h.2.1,h.2.2⟩,h3,h2⟩
theorem InSight.decl{t:Tr}{node x:Int}(h:InSight t node x):zl t x=true:=by
 unfold zl BB;rcases h with⟨h,_⟩|⟨h,_⟩|⟨h,_,h2,_⟩
 ·rw[h];rfl
 ·rw[h];rfl
 ·rw[h,h2];rfl
theorem PJ{t:Tr}{S:List Int}(G:Good t S){node:Nat}(hn:node<t.nodes.length){x:Int}(h:x∈sight t node):zl t x=true:=by
 rcases(OS G hn h).1 with h|h
 ·exact h.decl
 ·exact h.2.2
end
end Go.Proofs.YtipjhljnkocioaaGreatDoor
