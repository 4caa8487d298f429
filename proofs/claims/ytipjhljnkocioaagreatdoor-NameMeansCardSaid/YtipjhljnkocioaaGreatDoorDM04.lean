/- Part of a proof. -/
import Derived.Test.YtipjhljnkocioaaGreatDoorC39
import Derived.Test.YtipjhljnkocioaaGreatDoorDM01
import Derived.Test.YtipjhljnkocioaaGreatDoorDM03
set_option maxRecDepth 100000
set_option maxHeartbeats 8000000
set_option linter.unusedVariables false
set_option linter.unusedSimpArgs false
namespace Go.Proofs.YtipjhljnkocioaaGreatDoor
section
open Go Go.RowKit
theorem CK{t:Tr}(h:(zc t).2.2=0):Resolved t:=by
 by_cases hc:aU t=0
 ·refine⟨hc,?_⟩
  suffices hs:∀f m,m<f→m<t.nodes.length→cI t m=0 from fun m hm=>hs (m+1) m (by omega) hm
  intro f
  induction f with
  |zero=>intro m hm;omega
  | succ f ih=>
    intro m hm hl;by_cases he:cI t m=0
    ·exact he
    ·exfalso
     have:=pQ hc hl (fun j hj=>ih j (by omega) (by omega)) he;rw[this]at h;exact he h
 ·exfalso
  unfold zc at h;rw[if_pos (by simpa using hc)]at h;exact hc h
theorem OP{t:Tr}(bd:Bd t)(h:(zc t).2.2=0):WF t∧Good t (dB t):=⟨zT bd (CK h).check,fS (aX (CK h).check)⟩
theorem PV{t:Tr}{k:Nat}(h:(zc t).2.2=0)(hk:k<t.nodes.length)(q:Int→Bool):aG t k q=if q k then 0 else 7:=by
 unfold aG;rw[h,show decide ((k:Int)<0)=false from decide_eq_false (by omega),show decide ((t.nodes.length:Int)≤k)=false from decide_eq_false (by omega)];cases q k<;>rfl
def OO(t:Tr)(i d:Int):Bool:=inside t i d&&((t.nd d).kind==42||(t.nd d).kind==20&&((t.nd d).kids.length==2&&inside t i ((t.nd d).kids.getD 1 0)))
def ON(t:Tr)(i d:Int):Bool:=(t.nd d).kind==34&&inside t i (parent t d)
def OV(t:Tr)(i d:Int):Bool:=decide (d<i)&&decide (parent t d<0)
theorem PN{t:Tr}(bd:Bd t)(h:(zc t).2.2=0){i:Nat}(hi:i<t.nodes.length)(hk:dW (t.nd i).kind=true) :
 ∃d:Nat,means t i=d∧d<t.nodes.length∧zl t d=true∧(t.nd d).text=(t.nd i).text∧OW (t.nd i).kind (t.nd d).kind=true∧(OO t i d=true∨ON t i d=true∨OV t i d=true):=by
 obtain⟨wf,G⟩:=OP bd h;have h0:=OZ ((CK h).err i hi) hk;have hr:=cU wf (node:=i);obtain⟨d,hd⟩:=Int.eq_ofNat_of_zero_le h0;have hne:means t i ≠ -1:=by omega
 have hdl:d<t.nodes.length:=by omega
 obtain⟨h1,h2,_⟩:=PI hne;have hs:=xE hne;obtain⟨h3,h4,h5⟩:=OS G hi hs;have h6:=PJ G hi hs;rw[hd]at h1 h2 h3 h6;refine⟨d,hd,hdl,h6,h1,by rw[PT hk];exact h2,?_⟩;rcases h3 with(⟨k20,⟨k,hk1,hk2⟩,hin⟩|⟨k42,hin⟩|⟨k34,hp,hp42,hin⟩) | ⟨hit,hlt,_⟩
 ·have hl:(t.nd d).kids.length=2:=by rw[t.nd_at hdl];exact wf.letK d hdl (by rw[←t.nd_at hdl];exact k20)
  refine .inl ?_;unfold OO;rw[hin,k20,hl,List.getD_eq_getElem?_getD,hk1,Option.getD_some,hk2];rfl
 ·refine .inl ?_
  unfold OO;rw[hin,k42];rfl
 ·refine .inr (.inl ?_)
  unfold ON;rw[k34,hin];rfl
 ·refine .inr (.inr ?_)
  unfold OV;rw[G.noParent hit,decide_eq_true hlt];rfl
theorem PM{t:Tr}{i:Nat}(hi:i<t.nodes.length):(zh t t.nodes.length)[i]?=some (means t i):=by
 rw[jF,List.getElem?_map,List.getElem?_range hi];rfl
theorem OR(p:Nat→Bool)(k:Nat):∀m,∃r,idxs p (k+m)=idxs p k++r
 |0=>⟨[],by simp⟩
 | m+1=>by
   obtain⟨r,h⟩:=OR p k m;exact⟨r++(if p (k+m)then [((k+m:Nat):Int)]else []),by rw[←Nat.add_assoc,uC,h,List.append_assoc]⟩
theorem PX{p:Nat→Bool}{k N:Nat}(hk:k<N)(hp:p k=true):(idxs p N)[(idxs p k).length]?=some (k:Int):=by
 obtain⟨r,h⟩:=OR p (k+1) (N-(k+1));rw[show k+1+(N-(k+1))=N by omega,kZ hp]at h;rw[h,List.append_assoc,List.getElem?_append_right nlr];simp
theorem PW{t:Tr}{d:Nat}(h:(zc t).2.2=0)(hd:d<t.nodes.length):jN t d=if zl t d then (uses (zh t t.nodes.length) d,0)else ([],7):=by
 unfold jN;rw[PV h hd];cases zl t d<;>simp
end
end Go.Proofs.YtipjhljnkocioaaGreatDoor
