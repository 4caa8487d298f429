/- The statement of NameFrees: proved. -/
import Derived.Test.YtipjhljnkocioaaGreatDoorRows
import Derived.Test.YtipjhljnkocioaaGreatDoorTie
import Derived.Test.YtipjhljnkocioaaGreatDoorCards
import Derived.Test.YtipjhljnkocioaaGreatDoorQF03
import Derived.Test.YtipjhljnkocioaaGreatDoorQF06
import Derived.SevenTiedAt
set_option maxRecDepth 100000
set_option maxHeartbeats 8000000
set_option linter.unusedVariables false
set_option linter.unusedSimpArgs false
open Go.Proofs.Tryz
namespace Go.Proofs.YtipjhljnkocioaaGreatDoor.nameFrees
open Go Go.ChangeShapes Go.WideShapes Go.ChangeAt Go.WideMaps Go.WideElems Go.RowKit
theorem door_met(os:Os)(args:Array Value):laidMetH prog Rows.nameFreesRow.laid ((World.doorLaid prog 86 os).forCall (fun _ _=>0) ⟨#[],args,[]⟩).memory:=
 laidMetH_of_parts3 (fuel:=8) (laidMet_of_run' 8 (by kernel_rfl) (by kernel_rfl)) (by kernel_rfl) (by kernel_rfl)
theorem lifted(os:Os)(started:os.Started)(H:Type)(enc:TypeId×Value→H) :
 ReturnsInHanded {} Tryz.checked os 10 .any (fun w args=>(Rows.nameFreesSpec.pre enc prog Tryz.f10 [] false w args∧laidMetH prog Rows.nameFreesRow.laid w)∧sizedMet enc prog Tryz.f10 (OpenSpec.ofChange Rows.nameFreesSpec) false w args)
  (Rows.nameFreesSpec.post enc prog Tryz.f10 false true false false):=by
 refine returnsInHanded_of_change_and (C:=Tryz.checked) (X:=fun w _=>laidMetH prog Rows.nameFreesRow.laid w) (fun _ _ _ hh h=>h.of_heap hh) NE started (by kernel_rfl) func10
  (ChangeSpec.witness_shaped (enc:=enc) (C:=Tryz.checked) (os:=os) (X:=fun w _=>laidMetH prog Rows.nameFreesRow.laid w) false (World.doorLaid prog 86 os) #[.string ⟨#[]⟩] 8 rfl (World.shaped_of_RefB (by kernel_rfl) (by kernel_rfl)) (by kernel_rfl) (by kernel_rfl) (by kernel_rfl) (door_met os _)) ?_
 intro W base args ds gs before hval0 hW _ _ hL _;have hval:∀(j:Nat) t v,Tryz.f10.params[j]?=some t→args[j]?=some v→Value.okWide prog W .any base t v:=hval0;have hW':=hW;obtain⟨p,q,hA0,hV,hpq,hfz,hnd⟩:=hW;have hA:DataW.TrodAll enc prog W 0 (fun _=>true) true Tryz.f10.params.toList args.toList ds p:=hA0;rw[params10]at hA hval;obtain⟨v0,vs0,d0,ds0,p0,q0,hargs,rfl,rfl,h0,r0⟩:=trodAll_cons hA;obtain⟨rfl,rfl,rfl⟩:=trodAll_nil r0;obtain rfl:args = #[v0]:=by cases args;simp_all
 obtain⟨rfl,rfl⟩:=trodVars_none hV;obtain⟨l,rfl,hl⟩:=NA (hval 0 9 v0 rfl rfl) h0;have hg:=MO 6 (by kernel_rfl) (by kernel_rfl) hL;clear hA0 hval0 hL;refine(MM l W hl hg).mono fun e W' ⟨he,hb⟩=>?_;subst he;exact⟨_,rfl,NF ND (by kernel_rfl) underlying4 (by kernel_rfl) rfl hW' hb rfl rfl rfl⟩
theorem fact_inPlace:prog.inPlace 10=Rows.nameFreesRow.inPlace:=by kernel_rfl
theorem fact_unfollowed:prog.unfollowed 10=Rows.nameFreesRow.unfollowed:=by kernel_rfl
theorem fact_recurses:prog.recurses 10=Rows.nameFreesRow.recurses:=by kernel_rfl
theorem fact_varsNamed:prog.varsNamed 10=Rows.nameFreesRow.named:=by kernel_rfl
theorem fact_mayEnter:prog.mayEnter=true:=by kernel_rfl
theorem fact_lifts:prog.liftsFinal=Rows.nameFreesRow.lifted:=by kernel_rfl
theorem closed:joinedFacts prog 10 Tryz.f10 Rows.nameFreesSpec Rows.nameFreesRow=true:=by
 unfold joinedFacts;rw[fact_inPlace,fact_unfollowed,fact_recurses,fact_varsNamed,fact_mayEnter,fact_lifts]
 kernel_rfl
theorem over:Rows.nameFreesRow.holds Tryz.pinned (OpenSpec.ofChange Rows.nameFreesSpec):=
 OpenClaim.holds_of_wide 10 Tryz.f10 rfl rfl rfl rfl rfl rfl rfl ⟨rfl,rfl,rfl,rfl,rfl⟩ rfl rfl rfl rfl rfl (by kernel_rfl) func10 closed
  (of_decide_eq_true (by kernel_rfl)) (by unfold Func.isWrapper;first|(rw[if_pos (by decide +kernel)];kernel_rfl)|(rw[if_neg (by decide +kernel)];exact⟨rfl,rfl⟩))
  (fun os started H enc _=>lifted os started H enc)
theorem proved:Rows.NameFreesCardSaid:=
 Claim7.holds_tied_plain_at .later [] [.data,.data,.data,.sentinel,.sentinel,.listed,.data] true (true,Rows.nameFreesCard.stood.harness.2) true
  over (fun _ h=>by cases h) (by kernel_rfl) (fun _ h=>by cases h) nameFrees_row_tie rfl ⟨rfl,rfl⟩ (by kernel_rfl) rfl
  (fun f fn hf hfn=>by
   obtain rfl:f=10:=Option.some.inj ((show prog.funcNamed Rows.nameFreesRow.func=some 10 by kernel_rfl).symm.trans hf) |>.symm
   obtain rfl:fn=Tryz.f10:=(Option.some.inj (func10.symm.trans hfn)).symm
   exact⟨by kernel_rfl,fun j t ht=>by
    rw[params10]at ht;have hm:t∈([9]:List TypeId):=by simpa using Array.mem_of_getElem? ht
    have hall:(([9]:List TypeId).all fun u=>!prog.wantsStandIn u)=true:=by kernel_rfl
    exact(show prog.wantsStandIn t=false by simpa using List.all_eq_true.1 hall t hm)⟩)
  (by kernel_rfl)
#print axioms proved
end Go.Proofs.YtipjhljnkocioaaGreatDoor.nameFrees
