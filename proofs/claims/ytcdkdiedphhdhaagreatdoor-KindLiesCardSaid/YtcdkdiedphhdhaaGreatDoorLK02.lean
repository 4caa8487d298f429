/- Part of a proof. -/
import Derived.Test.YtcdkdiedphhdhaaGreatDoorK36
set_option maxRecDepth 100000
set_option maxHeartbeats 8000000
set_option linter.unusedVariables false
set_option linter.unusedSimpArgs false
namespace Go.Proofs.YtcdkdiedphhdhaaGreatDoor
section
open Go Go.RowKit
section
variable {t : Tr}
theorem SU(bd:Bd t)(hr:(zb t).2.2=0){r:Nat}(hrn:r<t.nodes.length)(k41:(t.nd (r:Int)).kind=41){x y:Int}(hx:x∈(t.nd (r:Int)).kids)(hy:y∈(t.nd (r:Int)).kids)(e:(t.nd x).text=(t.nd y).text):x=y:=by
 obtain⟨wf,G⟩:=zi bd hr;have h0:=(zt hr).err
 have one:∀x y:Int,x∈(t.nd (r:Int)).kids->y∈(t.nd (r:Int)).kids->(t.nd x).text=(t.nd y).text->x<y->False:=fun x y hx hy e hlt=>by
  have k34:∀z∈(t.nd (r:Int)).kids,(t.nd z).kind=34:=fun z hz=>by
   obtain⟨j,hj,rfl⟩:=List.getElem_of_mem hz;have h1:=G.kidOk hrn hj;rw[k41]at h1;simpa[kidK]using h1
  obtain⟨b,rfl,hb⟩:=aN G hrn hy;have h1:=h0 b (by omega)
  have h2:aU t b=true:=by
   unfold aU;rw[G.parent_of hrn hy];exact(eA (G.kidsAsc hrn)).2 ⟨x,hx,hlt,by simp[k34 x hx,e]⟩
  unfold bV at h1;rw[h2,k34 _ hy]at h1;split at h1
  .cases h1
  .cases h1
 rcases Int.lt_trichotomy x y with h|h|h
 .exact(one x y hx hy e h).elim
 .exact h
 .exact(one y x hy hx e.symm h).elim
end
end
end Go.Proofs.YtcdkdiedphhdhaaGreatDoor
