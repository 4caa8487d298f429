/- The statement of KindOnes: proved. -/
import Derived.Test.YtcdkdiedphhdhaaGreatDoorRows
import Derived.Test.YtcdkdiedphhdhaaGreatDoorTie
import Derived.Test.YtcdkdiedphhdhaaGreatDoorCards
import Derived.Test.YtcdkdiedphhdhaaGreatDoorOK03
import Derived.Test.YtcdkdiedphhdhaaGreatDoorOK04
import Derived.SevenTiedAt
set_option maxRecDepth 100000
set_option maxHeartbeats 8000000
set_option linter.unusedVariables false
set_option linter.unusedSimpArgs false
open Go.Proofs.Tryz
namespace Go.Proofs.YtcdkdiedphhdhaaGreatDoor.kindOnes
open Go Go.ChangeShapes Go.WideShapes Go.ChangeAt Go.WideMaps Go.WideElems Go.RowKit
theorem door_met(os:Os)(args:Array Value):laidMetH prog Rows.kindOnesRow.laid ((World.doorLaid prog 86 os).forCall (fun _ _=>0) ⟨#[],args,[]⟩).memory:=
 laidMetH_of_parts3 (fuel:=8) (laidMet_of_run' 8 (by kernel_rfl) (by kernel_rfl)) (by kernel_rfl) (by kernel_rfl)
theorem lifted(os:Os)(started:os.Started)(H:Type)(enc:TypeId×Value->H) :
 ReturnsInHanded {} Tryz.checked os 3 .any (fun w args=>(Rows.kindOnesSpec.pre enc prog Tryz.f3 [] false w args/\laidMetH prog Rows.kindOnesRow.laid w)/\sizedMet enc prog Tryz.f3 (OpenSpec.ofChange Rows.kindOnesSpec) false w args)
  (Rows.kindOnesSpec.post enc prog Tryz.f3 false true false false):=by
 refine returnsInHanded_of_change_and (C:=Tryz.checked) (X:=fun w _=>laidMetH prog Rows.kindOnesRow.laid w) (fun _ _ _ hh h=>h.of_heap hh) TY started (by kernel_rfl) func3
  (ChangeSpec.witness_shaped (enc:=enc) (C:=Tryz.checked) (os:=os) (X:=fun w _=>laidMetH prog Rows.kindOnesRow.laid w) false (World.doorLaid prog 86 os) #[.string ⟨#[]⟩] 8 rfl (World.shaped_of_RefB (by kernel_rfl) (by kernel_rfl)) (by kernel_rfl) (by kernel_rfl) (by kernel_rfl) (door_met os _)) ?_
 intro W base args ds gs before ha hW _ _ hL _;have hc:∀(j:Nat) t v,Tryz.f3.params[j]?=some t->args[j]?=some v->Value.okWide prog W .any base t v:=ha;have hi:=hW;obtain⟨p,q,hd,hV,hm,hj,hk⟩:=hW;have hA:DataW.TrodAll enc prog W 0 (fun _=>true) true Tryz.f3.params.toList args.toList ds p:=hd;rw[params3]at hA hc;obtain⟨v0,vs0,d0,ds0,p0,q0,hf,rfl,rfl,h0,r0⟩:=trodAll_cons hA;obtain⟨rfl,rfl,rfl⟩:=trodAll_nil r0;obtain rfl:args = #[v0]:=by cases args;simp_all
 obtain⟨rfl,rfl⟩:=trodVars_none hV;obtain⟨l,rfl,hl⟩:=TP (hc 0 9 v0 rfl rfl) h0;have hg:=TB (by kernel_rfl) hL rfl rfl (by decide +kernel) (by decide +kernel) (by kernel_rfl);clear hd ha hL;refine(TJ l W hl hg).mono fun e W' ⟨he,hb⟩=>?_;subst he;exact⟨_,rfl,TZ MZ (by kernel_rfl) underlying4 (by kernel_rfl) rfl hi hb rfl rfl rfl⟩
theorem fact_inPlace:prog.inPlace 3=Rows.kindOnesRow.inPlace:=by kernel_rfl
theorem fact_unfollowed:prog.unfollowed 3=Rows.kindOnesRow.unfollowed:=by kernel_rfl
theorem fact_recurses:prog.recurses 3=Rows.kindOnesRow.recurses:=by kernel_rfl
theorem fact_varsNamed:prog.varsNamed 3=Rows.kindOnesRow.named:=by kernel_rfl
theorem fact_mayEnter:prog.mayEnter=true:=by kernel_rfl
theorem fact_lifts:prog.liftsFinal=Rows.kindOnesRow.lifted:=by kernel_rfl
theorem closed:joinedFacts prog 3 Tryz.f3 Rows.kindOnesSpec Rows.kindOnesRow=true:=by
 unfold joinedFacts;rw[fact_inPlace,fact_unfollowed,fact_recurses,fact_varsNamed,fact_mayEnter,fact_lifts]
 kernel_rfl
theorem over:Rows.kindOnesRow.holds Tryz.pinned (OpenSpec.ofChange Rows.kindOnesSpec):=
 OpenClaim.holds_of_wide 3 Tryz.f3 rfl rfl rfl rfl rfl rfl rfl ⟨rfl,rfl,rfl,rfl,rfl⟩ rfl rfl rfl rfl rfl (by kernel_rfl) func3 closed
  (of_decide_eq_true (by kernel_rfl)) (by unfold Func.isWrapper;first|(rw[if_pos (by decide +kernel)];kernel_rfl)|(rw[if_neg (by decide +kernel)];exact⟨rfl,rfl⟩))
  (fun os started H enc _=>lifted os started H enc)
theorem fact_wf:Rows.kindOnesRow.wfByText (OpenSpec.ofChange Rows.kindOnesSpec)=true:=by kernel_rfl
theorem fact_main:Tryz.pinned.checked.prog.mainIs=some (true,Rows.kindOnesCard.stood.harness.2.toList):=by kernel_rfl
theorem fact_look:true=Tryz.pinned.checked.prog.looks []:=by kernel_rfl
theorem fact_goes:false=Rows.kindOnesRow.goesBy Tryz.pinned.checked.prog:=by kernel_rfl
theorem fact_name:prog.funcNamed Rows.kindOnesRow.func=some 3:=by kernel_rfl
theorem fact_all:(([9]:List TypeId).all fun u=>!prog.wantsStandIn u)=true:=by kernel_rfl
theorem proved:Rows.KindOnesCardSaid:=
 Claim7.holds_tied_plain_at .later [] [.data,.data,.data,.sentinel,.sentinel,.listed,.data] true (true,Rows.kindOnesCard.stood.harness.2) true
  over (fun _ h=>by cases h) fact_wf (fun _ h=>by cases h) kindOnes_row_tie rfl ⟨rfl,rfl⟩ fact_main rfl
  (fun f fn hf hfn=>by
   obtain rfl:f=3:=Option.some.inj (fact_name.symm.trans hf) |>.symm
   obtain rfl:fn=Tryz.f3:=(Option.some.inj (func3.symm.trans hfn)).symm
   exact⟨fact_look,fun j t ht=>by
    rw[params3]at ht;have hm:t∈([9]:List TypeId):=by simpa using Array.mem_of_getElem? ht
    exact(show prog.wantsStandIn t=false by simpa using List.all_eq_true.1 fact_all t hm)⟩)
  fact_goes
#print axioms proved
end Go.Proofs.YtcdkdiedphhdhaaGreatDoor.kindOnes
