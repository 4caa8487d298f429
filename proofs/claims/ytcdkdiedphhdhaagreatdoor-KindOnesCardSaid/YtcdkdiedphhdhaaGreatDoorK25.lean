/- Part of a proof. -/
import Derived.Test.YtcdkdiedphhdhaaGreatDoorK12
import Derived.Test.YtcdkdiedphhdhaaGreatDoorK24
set_option maxRecDepth 100000
set_option maxHeartbeats 8000000
set_option linter.unusedVariables false
set_option linter.unusedSimpArgs false
namespace Go.Proofs.YtcdkdiedphhdhaaGreatDoor
section
open Go.RowKit
theorem RS(p:UInt8->Bool):∀l:List UInt8,(l.takeWhile p).takeWhile p=l.takeWhile p
 | []=>rfl
 | c::l=>by
   rw[List.takeWhile_cons];split
   .rename_i h;rw[List.takeWhile_cons,if_pos h,RS p l]
   .rfl
theorem QG{s x:List UInt8}(h:tokF s=(2,x)):tokF x=(2,x):=by
 cases s with
 |nil=>cases h
 | cons c l=>
   unfold tokF at h;simp only at h;split at h
   .split at h
    .simp at h
    .split at h<;>simp at h
   .rename_i hs
    split at h
    .rename_i hg
     split at h
     .rename_i hn
      have e:(c::l).takeWhile aF=x:=(Prod.mk.inj h).2;rw[e]at hn;rw[List.takeWhile_cons,if_pos hg]at e
      have hx:x.takeWhile aF=x:=by
       rw[<-e,List.takeWhile_cons,if_pos hg,RS]
      rw[<-e]at hx hn|-;unfold tokF;simp only;rw[if_neg hs,if_pos hg,hx,if_pos hn]
     .simp at h
    .split at h<;>simp at h
structure GT (l:List Tk):Prop where
 many:l.length<=800
 text:∀t∈l,t.text.length<=2000
 tok:∀t∈l,t.kind=2->tokF t.text=(2,t.text)
theorem CN{s:List UInt8}(hs:s.length<=2000):∀(f n:Nat) (l l':List Tk),GT l->nH s f n l=.ok l'->GT l'
 |0,n,l,l',hl,h=>by cases h;exact hl
 | f+1,n,l,l',hl,h=>by
   unfold nH at h;split at h
   .simp only at h
    split at h
    .cases h
    .rename_i hk
     split at h
     .cases h
     .rename_i h8
      refine CN hs f _ _ l' ?_ h;have hk':(tokF (s.drop n)).1≠0:=fun e=>hk (by rw[e];rfl);have ha:=CU hk';rw[List.length_drop]at ha;refine⟨by have:=hl.many;simp;omega,fun t ht=>?_,fun t ht hk2=>?_⟩
      .rcases List.mem_append.1 ht with ht|ht
       .exact hl.text t ht
       .obtain rfl:=List.mem_singleton.1 ht
        simp only;omega
      .rcases List.mem_append.1 ht with ht|ht
       .exact hl.tok t ht hk2
       .obtain rfl:=List.mem_singleton.1 ht
        simp only at hk2|-;exact QG (s:=s.drop n) (Prod.ext hk2 rfl)
   .cases h;exact hl
theorem CO{s:List UInt8}{l:List Tk}(h:nI s=.ok l):GT l/\s.length<=2000:=by
 unfold nI at h;split at h
 .cases h
 .rename_i hc
  have hs:s.length<=2000:=by
   apply Classical.byContradiction;intro hn;apply hc;unfold fP;rw[if_pos (by omega)];rfl
  exact⟨CN hs _ _ _ _ ⟨by simp,(fun t h=>by cases h),(fun t h=>by cases h)⟩ h,hs⟩
def cJ(s:List UInt8):Except (Int×Int) Tr:=
 match wE s with
 |.error e=>.error e
 |.ok t=>if 800<t.nodes.length\/60<t.items.length then .error (0,5)else if 30<aM t then .error (0,5)else if 0<=aA t then .error ((t.nd (aA t)).pos,3)else .ok t
end
end Go.Proofs.YtcdkdiedphhdhaaGreatDoor
