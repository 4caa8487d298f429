/- The statement of NameRenamed: proved. -/
import Derived.Test.YtipjhljnkocioaaGreatDoorRows
import Derived.Test.YtipjhljnkocioaaGreatDoorTie
import Derived.Test.YtipjhljnkocioaaGreatDoorCards
import Derived.Test.YtipjhljnkocioaaGreatDoorQR03
import Derived.Test.YtipjhljnkocioaaGreatDoorQR07
import Derived.SevenTiedAt
set_option maxRecDepth 100000
set_option maxHeartbeats 8000000
set_option linter.unusedVariables false
set_option linter.unusedSimpArgs false
open Go.Proofs.Tryz
namespace Go.Proofs.YtipjhljnkocioaaGreatDoor.nameRenamed
open Go Go.ChangeShapes Go.WideShapes Go.ChangeAt Go.WideMaps Go.WideElems Go.RowKit
theorem door_met(os:Os)(args:Array Value):laidMetH prog Rows.nameRenamedRow.laid ((World.doorLaid prog 86 os).forCall (fun _ _=>0) ⟨#[],args,[]⟩).memory:=
 laidMetH_of_parts3 (fuel:=8) (laidMet_of_run' 8 (by kernel_rfl) (by kernel_rfl)) (by kernel_rfl) (by kernel_rfl)
theorem lifted(os:Os)(started:os.Started)(H:Type)(enc:TypeId×Value→H) :
 ReturnsInHanded {} Tryz.checked os 8 .any (fun w args=>(Rows.nameRenamedSpec.pre enc prog Tryz.f8 [] false w args∧laidMetH prog Rows.nameRenamedRow.laid w)∧sizedMet enc prog Tryz.f8 (OpenSpec.ofChange Rows.nameRenamedSpec) false w args)
  (Rows.nameRenamedSpec.post enc prog Tryz.f8 false true false false):=by
 refine returnsInHanded_of_change_and (C:=Tryz.checked) (X:=fun w _=>laidMetH prog Rows.nameRenamedRow.laid w) (fun _ _ _ hh h=>h.of_heap hh) MX started (by kernel_rfl) func8
  (ChangeSpec.witness_shaped (enc:=enc) (C:=Tryz.checked) (os:=os) (X:=fun w _=>laidMetH prog Rows.nameRenamedRow.laid w) false (World.doorLaid prog 86 os) #[.string ⟨#[]⟩,.int .u8 0] 8 rfl (World.shaped_of_RefB (by kernel_rfl) (by kernel_rfl)) (by kernel_rfl) (by kernel_rfl) (by kernel_rfl) (door_met os _)) ?_
 intro W base args ds gs before hval0 hW _ _ hL _;have hval:∀(j:Nat) t v,Tryz.f8.params[j]?=some t→args[j]?=some v→Value.okWide prog W .any base t v:=hval0;have hW':=hW;obtain⟨p,q,hA0,hV,hpq,hfz,hnd⟩:=hW;have hA:DataW.TrodAll enc prog W 0 (fun _=>true) true Tryz.f8.params.toList args.toList ds p:=hA0;rw[params8]at hA hval;obtain⟨v0,vs0,d0,ds0,p0,q0,hargs,rfl,rfl,h0,r0⟩:=trodAll_cons hA;obtain⟨v1,vs1,d1,ds1,p1,q1,rfl,rfl,rfl,h1,r1⟩:=trodAll_cons r0;obtain⟨rfl,rfl,rfl⟩:=trodAll_nil r1;obtain rfl:args = #[v0,v1]:=by cases args;simp_all
 obtain⟨rfl,rfl⟩:=trodVars_none hV;obtain⟨l,rfl,hl⟩:=MT (hval 0 9 v0 rfl rfl) h0;obtain⟨n,rfl,hn⟩:=MZ (hval 1 5 v1 rfl rfl) h1;have hg:=MK 6 (by kernel_rfl) (by kernel_rfl) hL;clear hA0 hval0 hL;refine(LY l n W hn hl hg).mono fun e W' ⟨he,hb⟩=>?_;subst he;exact⟨_,rfl,MY MW (by kernel_rfl) underlying4 (by kernel_rfl) rfl hW' hb rfl rfl rfl⟩
theorem fact_inPlace:prog.inPlace 8=Rows.nameRenamedRow.inPlace:=by kernel_rfl
theorem fact_unfollowed:prog.unfollowed 8=Rows.nameRenamedRow.unfollowed:=by kernel_rfl
theorem fact_recurses:prog.recurses 8=Rows.nameRenamedRow.recurses:=by kernel_rfl
theorem fact_varsNamed:prog.varsNamed 8=Rows.nameRenamedRow.named:=by kernel_rfl
theorem fact_mayEnter:prog.mayEnter=true:=by kernel_rfl
theorem fact_lifts:prog.liftsFinal=Rows.nameRenamedRow.lifted:=by kernel_rfl
theorem closed:joinedFacts prog 8 Tryz.f8 Rows.nameRenamedSpec Rows.nameRenamedRow=true:=by
 unfold joinedFacts;rw[fact_inPlace,fact_unfollowed,fact_recurses,fact_varsNamed,fact_mayEnter,fact_lifts]
 kernel_rfl
theorem over:Rows.nameRenamedRow.holds Tryz.pinned (OpenSpec.ofChange Rows.nameRenamedSpec):=
 OpenClaim.holds_of_wide 8 Tryz.f8 rfl rfl rfl rfl rfl rfl rfl ⟨rfl,rfl,rfl,rfl,rfl⟩ rfl rfl rfl rfl rfl (by kernel_rfl) func8 closed
  (of_decide_eq_true (by kernel_rfl)) (by unfold Func.isWrapper;first|(rw[if_pos (by decide +kernel)];kernel_rfl)|(rw[if_neg (by decide +kernel)];exact⟨rfl,rfl⟩))
  (fun os started H enc _=>lifted os started H enc)
theorem proved:Rows.NameRenamedCardSaid:=
 Claim7.holds_tied_plain_at .later [] [.data,.data,.data,.sentinel,.sentinel,.listed,.data] true (true,Rows.nameRenamedCard.stood.harness.2) true
  over (fun _ h=>by cases h) (by kernel_rfl) (fun _ h=>by cases h) nameRenamed_row_tie rfl ⟨rfl,rfl⟩ (by kernel_rfl) rfl
  (fun f fn hf hfn=>by
   obtain rfl:f=8:=Option.some.inj ((show prog.funcNamed Rows.nameRenamedRow.func=some 8 by kernel_rfl).symm.trans hf) |>.symm
   obtain rfl:fn=Tryz.f8:=(Option.some.inj (func8.symm.trans hfn)).symm
   exact⟨by kernel_rfl,fun j t ht=>by
    rw[params8]at ht;have hm:t∈([9,5]:List TypeId):=by simpa using Array.mem_of_getElem? ht
    have hall:(([9,5]:List TypeId).all fun u=>!prog.wantsStandIn u)=true:=by kernel_rfl
    exact(show prog.wantsStandIn t=false by simpa using List.all_eq_true.1 hall t hm)⟩)
  (by kernel_rfl)
#print axioms proved
end Go.Proofs.YtipjhljnkocioaaGreatDoor.nameRenamed
