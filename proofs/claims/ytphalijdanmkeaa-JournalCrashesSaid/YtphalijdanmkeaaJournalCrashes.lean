/- The row of 'JournalCrashes', proved. Written by a program of mine after the kit's template. -/
import Derived.Test.YtphalijdanmkeaaAO
import Derived.Test.YtphalijdanmkeaaOpen2
namespace Go.Proofs.Ytphalijdanmkeaa.journalCrashes
open Go.ChangeShapes Go.WideShapes Go.ChangeAt Go.RowKit
open Go.ChangeMaps (open_string shut_string)

set_option maxRecDepth 100000 in
theorem lifted (os : Os) (started : os.Started) (H : Type) (enc : TypeId × Value → H) :
    ReturnsInHanded {} Try.checked os 9 .any (Rows.journalCrashesSpec.pre6 enc Try.prog Try.f9 Rows.journalCrashesRow.domain false) (Rows.journalCrashesSpec.post enc Try.prog Try.f9 false true false false) := by
  refine returnsInHanded_of_change_sized (C := Try.checked) Try.own started (by kernel_rfl) Try.func9
    (ChangeSpec.witness6 (enc := enc) (C := Try.checked) false ⟨#[], #[.slice none 0 0, .slice none 0 0, .agg #[.slice none 0 0, .int .i64 0]], []⟩ 8 (by kernel_rfl) (by kernel_rfl) (by kernel_rfl) (by kernel_rfl)) ?_
  intro W base args ds gs before hval0 hW hcnd hsz _
  have hval : ∀ (j : Nat) t v, Try.f9.params[j]? = some t → args[j]? = some v → Value.okWide Try.prog W .any base t v := hval0
  have hW' := hW
  obtain ⟨p, q, hA0, hV, hpq, hfz, hnd⟩ := hW
  have hA : DataW.TrodAll enc Try.prog W 0 (fun _ => true) true Try.f9.params.toList args.toList ds p := hA0
  rw [Try.params9] at hA hval
  obtain ⟨v0, vs0, d0, ds0, p0, q0, hargs, rfl, rfl, h0, r0⟩ := trodAll_cons hA
  obtain ⟨v1, vs1, d1, ds1, p1, q1, rfl, rfl, rfl, h1, r1⟩ := trodAll_cons r0
  obtain ⟨v2, vs2, d2, ds2, p2, q2, rfl, rfl, rfl, h2, r2⟩ := trodAll_cons r1
  obtain ⟨rfl, rfl, rfl⟩ := trodAll_nil r2
  obtain rfl : args = #[v0, v1, v2] := by cases args; simp_all
  obtain ⟨rfl, rfl⟩ := trodVars_none hV
  have hw : ∀ (j : Nat) (t : TypeId) d, ([22, 39, 56] : List TypeId)[j]? = some t → ([d0, d1, d2] : List (DataW H))[j]? = some d → ∀ n ∈ d.weights Try.prog t, n ≤ reachBytes := by
    intro j t d ht hd n hn
    have hz : (DataW.weightsEach Try.prog [22, 39, 56] [d0, d1, d2]).all (· ≤ reachBytes) = true := by rw [Try.params9] at hsz; exact hsz
    simpa using List.all_eq_true.1 hz n (DataW.weights_mem_each ht hd n hn)
  obtain ⟨a0, n0, c0, l0, rfl, b0, k0⟩ := open_bytes (hval 0 22 v0 rfl rfl) h0
  obtain ⟨a1, n1, c1, l1, rfl, b1, rfl, k1, s1⟩ := open_writes (hval 1 39 v1 rfl rfl) h1 (hw 1 39 d1 rfl rfl)
  obtain ⟨a2, n2, c2, l2, t2, rfl, b2, k2, w2⟩ := open_power (hval 2 56 v2 rfl rfl) h2
  clear hA0 hval0
  refine (JCrashes_any a0 a1 a2 n0 c0 c1 n2 c2 l0 l1 l2 t2 W k0 b0 k1 b1 (fun x hx => Nat.le_trans (s1 x hx) (by decide)) k2 b2).mono fun e W' ⟨he, hg⟩ => ?_
  subst he
  exact ⟨_, rfl, post_law Try.laidOut (by kernel_rfl) Try.underlying4 (by kernel_rfl) rfl hW' hg rfl rfl rfl⟩

theorem over : Rows.journalCrashesRow.holds Try.pinned (OpenSpec.ofChange Rows.journalCrashesSpec) :=
  OpenClaim.holds_of_wide 9 Try.f9 rfl rfl rfl rfl rfl rfl rfl ⟨rfl, rfl, rfl, rfl, rfl⟩ rfl rfl rfl rfl rfl (by kernel_rfl) Try.func9 (by kernel_rfl)
    (of_decide_eq_true (by kernel_rfl)) (by unfold Func.isWrapper; first | (rw [if_pos (by decide +kernel)]; kernel_rfl) | (rw [if_neg (by decide +kernel)]; exact ⟨rfl, rfl⟩))
    (fun os started H enc _ => lifted os started H enc)

/-- the statement -/
theorem proved : Rows.JournalCrashesSaid :=
  over
#print axioms proved
end Go.Proofs.Ytphalijdanmkeaa.journalCrashes
