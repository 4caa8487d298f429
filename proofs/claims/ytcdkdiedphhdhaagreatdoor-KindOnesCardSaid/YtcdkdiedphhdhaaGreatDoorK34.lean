/- Part of a proof. -/
import Derived.Test.YtcdkdiedphhdhaaGreatDoorK33
set_option maxRecDepth 100000
set_option maxHeartbeats 8000000
set_option linter.unusedVariables false
set_option linter.unusedSimpArgs false
namespace Go.Proofs.YtcdkdiedphhdhaaGreatDoor
section
open Go.RowKit
theorem fS{t:Tr}{n:Int}(h0:0<=n)(h:n<t.nodes.length):inside t n n=true:=by
 rw[bP t n h,if_neg (by omega),if_pos rfl]
theorem mB{t:Tr}{k o:Int}(hk:parent t k=o)(ho0:0<=o)(ho:o<t.nodes.length):∀(f:Nat) (x:Nat),t.nodes.length-x<=f->x<t.nodes.length->inside t x k=true->inside t x o=true
 |0,x,hf,hx,_=>by omega
 | f+1,x,hf,hx,h=>by
   rw[bP t k (by omega),if_neg (by omega)]at h;rw[bP t o (by omega),if_neg (by omega)];by_cases e:(x:Int)=o
   .rw[if_pos e]
   .rw[if_neg e]
    by_cases e2:(x:Int)=k
    .rw[e2,hk];exact fS ho0 ho
    .rw[if_neg e2]at h
     by_cases hp:0<=parent t x
     .obtain⟨i,he,hi,hm⟩:=zy hp
      have:=eU t (n:=(x:Int)) (by omega) hp;rw[he]at h|-;exact mB hk ho0 ho f i (by omega) hi h
     .have hb:=zH t (n:=(x:Int)) (by omega)
      rw[bP t k (by omega),if_pos (by omega)]at h;cases h
theorem Good.inside_iff{t:Tr}{S:List Int}(G:Good t S){o:Nat}(ho:o<t.nodes.length){x:Nat}(hx:x<t.nodes.length):inside t x o=true↔stt S o<x/\(x:Int)<=o:=by
 constructor
 .have key:∀(f:Nat) (x:Nat),t.nodes.length-x<=f->x<t.nodes.length->inside t x o=true->stt S o<x/\(x:Int)<=o:=by
   intro f
   induction f with
   |zero=>intro x hf hx;omega
   | succ f ih=>
     intro x hf hx h;rw[bP t o (by omega),if_neg (by omega)]at h;by_cases e:(x:Int)=o
     .rw[e];exact⟨G.begins ho,Int.le_refl _⟩
     .rw[if_neg e]at h
      by_cases hp:0<=parent t x
      .obtain⟨i,he,hi,hm⟩:=zy hp
       obtain⟨k1,k2,k3,k4⟩:=G.kid hi _ hm;rw[he]at h;obtain⟨h1,h2⟩:=ih i (by omega) hi h;have:=G.nest o o i nlr ho h1 (by omega);omega
      .have hb:=zH t (n:=(x:Int)) (by omega)
       rw[bP t o (by omega),if_pos (by omega)]at h;cases h
  exact key _ x nlr hx
 .have key:∀(f o:Nat),o<=f->o<t.nodes.length->stt S o<x->(x:Int)<=o->inside t x o=true:=by
   intro f
   induction f with
   | zero=>
     intro o hf ho h1 h2;obtain rfl:x=o:=by omega
     exact fS (by omega) (by omega)
   | succ f ih=>
     intro o hf ho h1 h2;by_cases e:x=o
     .subst e;exact fS (by omega) (by omega)
     .obtain⟨k,hk,h3,h4⟩:=G.cover ho h1 (by omega)
      obtain⟨k1,k2,k3,k4⟩:=G.kid ho k hk;obtain⟨k,rfl⟩:=Int.eq_ofNat_of_zero_le k4;exact mB (G.parent_of ho hk) (by omega) (by omega) _ x nlr hx (ih k (by omega) (by omega) h3 (by omega))
  rintro⟨h1,h2⟩;exact key o o nlr ho h1 h2
theorem lD{t:Tr}{node:Int}(h:means t node ≠ -1):means t node∈sight t node:=by
 unfold means at h|-;split at h
 .split at h
  .exact absurd rfl h
  .rename_i h1 h2
   rw[if_pos h1,if_neg h2];unfold nearest at h2|-;cases hf:(sight t node).find? (fun d=>(t.nd d).text==(t.nd node).text)with
   |none=>rw[hf]at h2;simp at h2
   |some d=>exact List.mem_of_find?_eq_some hf
 .exact absurd rfl h
theorem AD{t:Tr}{n:Int}(h:bV t n=0)(hk:bD (t.nd n).kind=true):0<=means t n:=by
 unfold bV at h;split at h
 .cases h
 .split at h
  .cases h
  .rw[hk,if_neg (by simp)]at h
   split at h
   .cases h
   .omega
theorem nC{t:Tr}{n:Int}(h:means t n ≠ -1):(t.nd (means t n)).text=(t.nd n).text/\suits (t.nd n).kind (t.nd (means t n)).kind=true/\bD (t.nd n).kind=true:=by
 unfold means at h|-;split at h
 .split at h
  .exact absurd rfl h
  .rename_i h1 h2
   rw[if_pos h1,if_neg h2];simp only[Bool.or_eq_true,decide_eq_true_eq,Bool.not_eq_true',not_or,Bool.not_eq_false]at h2;refine⟨?_,h2.2,h1⟩;unfold nearest at h2|-;cases hf:(sight t n).find? (fun d=>(t.nd d).text==(t.nd n).text)with
   |none=>rw[hf]at h2;simp at h2
   |some d=>simpa using List.find?_some hf
 .exact absurd rfl h
def InSight(t:Tr)(node x:Int):Prop:=
 ((t.nd x).kind=20/\(∃k,(t.nd x).kids[1]?=some k/\inside t node k=true)/\inside t node x=true)\/((t.nd x).kind=42/\inside t node x=true)\/((t.nd x).kind=34/\0<=parent t x/\(t.nd (parent t x)).kind=42/\inside t node (parent t x)=true)
theorem CX{t:Tr}{S:List Int}(G:Good t S){node:Nat}(hn:node<t.nodes.length):∀(f last:Nat) (acc:List Int),last<t.nodes.length->inside t node last=true->(∀x∈acc,InSight t node x/\0<=x/\x<t.nodes.length) ->
 ∀x∈(upF t (fun last n acc=>acc++zK (t.nd n) last n) f last (parent t last) acc).1,InSight t node x/\0<=x/\x<t.nodes.length
 |0,last,acc,hl,hin,ha=>ha
 | f+1,last,acc,hl,hin,ha=>by
   rw[upF];by_cases hp:parent t last<0
   .rw[if_pos hp];exact ha
   .rw[if_neg hp]
    obtain⟨i,he,hi,hm⟩:=zy (show 0<=parent t last by omega);have hk:=G.kid hi _ hm;rw[he];have hb:=mB he (by omega) (by omega) _ node nlr hn hin;refine CX G hn f i _ hi hb fun x hx=>?_;rcases List.mem_append.1 hx with hx|hx
    .exact ha x hx
    .unfold zK at hx
     rcases List.mem_append.1 hx with hx|hx
     .split at hx
      .rename_i hc
       obtain rfl:=List.mem_singleton.1 hx;simp only[Bool.and_eq_true,beq_iff_eq]at hc;exact⟨.inl ⟨hc.1,⟨_,hc.2,hin⟩,hb⟩,by omega,by omega⟩
      .cases hx
     .split at hx
      .rename_i hc
       simp only[Bool.and_eq_true,beq_iff_eq]at hc;rcases List.mem_append.1 hx with hx|hx
       .obtain⟨k,hg,rfl⟩:=List.getElem_of_mem hx
        have hf:k<(t.nd i).kids.length-2/\k<(t.nd i).kids.length:=by simp at hg;omega
        rw[List.getElem_take];have hd:=List.getElem_mem hf.2;have hp:=G.parent_of hi hd;have hh:=G.kid hi _ hd;exact⟨.inr (.inr ⟨G.paramKind hi hc.1 hf.2 hf.1,by omega,by rw[hp];exact hc.1,by rw[hp];exact hb⟩),by omega,by omega⟩
       .obtain rfl:=List.mem_singleton.1 hx
        exact⟨.inr (.inl ⟨hc.1,hb⟩),by omega,by omega⟩
      .cases hx
theorem lH{t:Tr}{S:List Int}(G:Good t S){node:Nat}(hn:node<t.nodes.length){x:Int}(h:x∈sight t node):(InSight t node x\/(x∈t.items/\x<(node:Int)/\zn t x=true))/\0<=x/\x<t.nodes.length:=by
 unfold sight at h;rcases List.mem_append.1 h with h|h
 .obtain⟨h1,h2,h3⟩:=CX G hn (t.nodes.length+1) node [] hn (fS (by omega) (by omega)) (fun x h=>by cases h) x h
  exact⟨.inl h1,h2,h3⟩
 .rw[G.ahead hn]at h
  simp only[List.mem_filter,Bool.and_eq_true,decide_eq_true_eq]at h;obtain⟨_,_,h2,h3,_⟩:=G.item x h.1;exact⟨.inr ⟨h.1,h.2.1,h.2.2⟩,h3,h2⟩
theorem InSight.decl{t:Tr}{node x:Int}(h:InSight t node x):zn t x=true:=by
 unfold zn tB;rcases h with⟨h,_⟩|⟨h,_⟩|⟨h,_,h2,_⟩
 .rw[h];rfl
 .rw[h];rfl
 .rw[h,h2];rfl
theorem sO{t:Tr}{S:List Int}(G:Good t S){node:Nat}(hn:node<t.nodes.length){x:Int}(h:x∈sight t node):zn t x=true:=by
 rcases(lH G hn h).1 with h|h
 .exact h.decl
 .exact h.2.2
end
end Go.Proofs.YtcdkdiedphhdhaaGreatDoor
