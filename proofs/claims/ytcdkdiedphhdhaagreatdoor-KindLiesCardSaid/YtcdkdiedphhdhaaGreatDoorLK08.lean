/- The statement of KindLies: proved. -/
import Derived.Test.YtcdkdiedphhdhaaGreatDoorRows
import Derived.Test.YtcdkdiedphhdhaaGreatDoorTie
import Derived.Test.YtcdkdiedphhdhaaGreatDoorCards
import Derived.Test.YtcdkdiedphhdhaaGreatDoorLK05
import Derived.Test.YtcdkdiedphhdhaaGreatDoorLK07
import Derived.SevenTiedAt
set_option maxRecDepth 100000
set_option maxHeartbeats 8000000
set_option linter.unusedVariables false
set_option linter.unusedSimpArgs false
open Go.Proofs.Tryz
namespace Go.Proofs.YtcdkdiedphhdhaaGreatDoor.kindLies
open Go Go.ChangeShapes Go.WideShapes Go.ChangeAt Go.WideMaps Go.WideElems Go.RowKit
theorem door_met(os:Os)(args:Array Value):laidMetH prog Rows.kindLiesRow.laid ((World.doorLaid prog 86 os).forCall (fun _ _=>0) ⟨#[],args,[]⟩).memory:=
 laidMetH_of_parts3 (fuel:=8) (laidMet_of_run' 8 (by kernel_rfl) (by kernel_rfl)) (by kernel_rfl) (by kernel_rfl)
theorem lifted(os:Os)(started:os.Started)(H:Type)(enc:TypeId×Value->H) :
 ReturnsInHanded {} Tryz.checked os 4 .any (fun w args=>(Rows.kindLiesSpec.pre enc prog Tryz.f4 [] false w args/\laidMetH prog Rows.kindLiesRow.laid w)/\sizedMet enc prog Tryz.f4 (OpenSpec.ofChange Rows.kindLiesSpec) false w args)
  (Rows.kindLiesSpec.post enc prog Tryz.f4 false true false false):=by
 refine returnsInHanded_of_change_and (C:=Tryz.checked) (X:=fun w _=>laidMetH prog Rows.kindLiesRow.laid w) (fun _ _ _ hh h=>h.of_heap hh) TG started (by kernel_rfl) func4
  (ChangeSpec.witness_shaped (enc:=enc) (C:=Tryz.checked) (os:=os) (X:=fun w _=>laidMetH prog Rows.kindLiesRow.laid w) false (World.doorLaid prog 86 os) #[.string ⟨#[]⟩,.int .u8 0] 8 rfl (World.shaped_of_RefB (by kernel_rfl) (by kernel_rfl)) (by kernel_rfl) (by kernel_rfl) (by kernel_rfl) (door_met os _)) ?_
 intro W base args ds gs before ha hW _ _ hL _;have hc:∀(j:Nat) t v,Tryz.f4.params[j]?=some t->args[j]?=some v->Value.okWide prog W .any base t v:=ha;have hi:=hW;obtain⟨p,q,hd,hV,hm,hj,hk⟩:=hW;have hA:DataW.TrodAll enc prog W 0 (fun _=>true) true Tryz.f4.params.toList args.toList ds p:=hd;rw[params4]at hA hc;obtain⟨v0,vs0,d0,ds0,p0,q0,hf,rfl,rfl,h0,r0⟩:=trodAll_cons hA;obtain⟨v1,vs1,d1,ds1,p1,q1,rfl,rfl,rfl,h1,r1⟩:=trodAll_cons r0;obtain⟨rfl,rfl,rfl⟩:=trodAll_nil r1;obtain rfl:args = #[v0,v1]:=by cases args;simp_all
 obtain⟨rfl,rfl⟩:=trodVars_none hV;obtain⟨l,rfl,hl⟩:=TE (hc 0 9 v0 rfl rfl) h0;obtain⟨n,rfl,hn⟩:=TL (hc 1 5 v1 rfl rfl) h1;have hg:=SV (by kernel_rfl) hL rfl rfl (by decide +kernel) (by decide +kernel) (by kernel_rfl);clear hd ha hL;refine(TC l n W hn hl hg).mono fun e W' ⟨he,hb⟩=>?_;subst he;exact⟨_,rfl,TH MZ (by kernel_rfl) underlying4 (by kernel_rfl) rfl hi hb rfl rfl rfl⟩
theorem fact_inPlace:prog.inPlace 4=Rows.kindLiesRow.inPlace:=by kernel_rfl
theorem fact_unfollowed:prog.unfollowed 4=Rows.kindLiesRow.unfollowed:=by kernel_rfl
theorem fact_recurses:prog.recurses 4=Rows.kindLiesRow.recurses:=by kernel_rfl
theorem fact_varsNamed:prog.varsNamed 4=Rows.kindLiesRow.named:=by kernel_rfl
theorem fact_mayEnter:prog.mayEnter=true:=by kernel_rfl
theorem fact_lifts:prog.liftsFinal=Rows.kindLiesRow.lifted:=by kernel_rfl
theorem closed:joinedFacts prog 4 Tryz.f4 Rows.kindLiesSpec Rows.kindLiesRow=true:=by
 unfold joinedFacts;rw[fact_inPlace,fact_unfollowed,fact_recurses,fact_varsNamed,fact_mayEnter,fact_lifts]
 kernel_rfl
theorem over:Rows.kindLiesRow.holds Tryz.pinned (OpenSpec.ofChange Rows.kindLiesSpec):=
 OpenClaim.holds_of_wide 4 Tryz.f4 rfl rfl rfl rfl rfl rfl rfl ⟨rfl,rfl,rfl,rfl,rfl⟩ rfl rfl rfl rfl rfl (by kernel_rfl) func4 closed
  (of_decide_eq_true (by kernel_rfl)) (by unfold Func.isWrapper;first|(rw[if_pos (by decide +kernel)];kernel_rfl)|(rw[if_neg (by decide +kernel)];exact⟨rfl,rfl⟩))
  (fun os started H enc _=>lifted os started H enc)
theorem fact_wf:Rows.kindLiesRow.wfByText (OpenSpec.ofChange Rows.kindLiesSpec)=true:=by kernel_rfl
theorem fact_main:Tryz.pinned.checked.prog.mainIs=some (true,Rows.kindLiesCard.stood.harness.2.toList):=by kernel_rfl
theorem fact_look:true=Tryz.pinned.checked.prog.looks []:=by kernel_rfl
theorem fact_goes:false=Rows.kindLiesRow.goesBy Tryz.pinned.checked.prog:=by kernel_rfl
theorem fact_name:prog.funcNamed Rows.kindLiesRow.func=some 4:=by kernel_rfl
theorem fact_all:(([9,5]:List TypeId).all fun u=>!prog.wantsStandIn u)=true:=by kernel_rfl
theorem proved:Rows.KindLiesCardSaid:=
 Claim7.holds_tied_plain_at .later [] [.data,.data,.data,.sentinel,.sentinel,.listed,.data] true (true,Rows.kindLiesCard.stood.harness.2) true
  over (fun _ h=>by cases h) fact_wf (fun _ h=>by cases h) kindLies_row_tie rfl ⟨rfl,rfl⟩ fact_main rfl
  (fun f fn hf hfn=>by
   obtain rfl:f=4:=Option.some.inj (fact_name.symm.trans hf) |>.symm
   obtain rfl:fn=Tryz.f4:=(Option.some.inj (func4.symm.trans hfn)).symm
   exact⟨fact_look,fun j t ht=>by
    rw[params4]at ht;have hm:t∈([9,5]:List TypeId):=by simpa using Array.mem_of_getElem? ht
    exact(show prog.wantsStandIn t=false by simpa using List.all_eq_true.1 fact_all t hm)⟩)
  fact_goes
#print axioms proved
end Go.Proofs.YtcdkdiedphhdhaaGreatDoor.kindLies
