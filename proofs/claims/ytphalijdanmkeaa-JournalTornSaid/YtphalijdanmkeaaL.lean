/- The iterator over the chunks of a device. -/
import Derived.Test.YtphalijdanmkeaaK
namespace Go.Proofs.Ytphalijdanmkeaa
open Go.RowKit Go.Shelf J
attribute [local go_sem] Oper.semAt_some

abbrev encC (g : Nat) (k : Nat) : Array Value := #[.slice (some ⟨g, 32 * k, none⟩) 32 32]

/-- what the iterator asks a loop's body to keep: what lay below n₀, and the cells of its boxes -/
def Keep2 (n₀ B1 B2 : Nat) (A B : World) : Prop := Keep n₀ B1 A B ∧ Keep n₀ B2 A B
theorem Keep2.refl (n₀ B1 B2 : Nat) (A : World) : Keep2 n₀ B1 B2 A A := ⟨Keep.refl _ _ _, Keep.refl _ _ _⟩
theorem Keep2.trans {n₀ B1 B2 : Nat} {A B C : World} (h : Keep2 n₀ B1 B2 A B) (k : Keep2 n₀ B1 B2 B C) : Keep2 n₀ B1 B2 A C := ⟨h.1.trans k.1, h.2.trans k.2⟩
theorem Keep2.drew {n₀ B1 B2 : Nat} {A B : World} (h : Keep2 n₀ B1 B2 A B) : Keep2 n₀ B1 B2 A B.drew := ⟨h.1.drew, h.2.drew⟩

theorem range_prefix {k N : Nat} (h : k < N) : List.range (k + 1) <+: List.range N := by
  refine List.prefix_iff_eq_take.2 ?_
  rw [List.length_range, List.take_range]
  congr 1
  omega

set_option maxRecDepth 100000 in
set_option maxHeartbeats 2000000 in
theorem chunk1_in (n : Nat) (l B1 B2 n₀ g N : Nat) (hN : N ≤ 250) (J Jx : List Nat → World → Prop)
    (W : World) (hJ : AbidesFrom W.heap.size J) (hc1 : W.cell? ⟨B1, 0, none⟩ = some (.slice (some ⟨g, 0, none⟩) (32 * N) (32 * N))) (hc2 : W.cell? ⟨B2, 0, none⟩ = some (.int .i64 32))
    (hY : ∀ pre x W1, J pre W1 → pre.length < N → x = pre.length → YieldAt Fence.wide (n - 1) Try.prog l (encC g x) W1 fun e W' =>
      (e = .returned (.bool true) ∧ J (pre ++ [x]) W' ∧ Keep2 n₀ B1 B2 W1 W') ∨ (e = .returned (.bool false) ∧ Jx (pre ++ [x]) W'))
    (h0 : J [] W) :
    CallsIn Fence.wide n Try.prog 86 #[.func (.yield l) #[] #[], .pointer (some ⟨B1, 0, none⟩), .pointer (some ⟨B2, 0, none⟩)] W fun e W' => (∃ v, e = .returned v) ∧
      ((∃ ys, ys = List.range N ∧ J ys W') ∨ (∃ pre, pre <+: List.range N ∧ Jx pre W')) := by
  have hmo : Try.prog.follows .mixedOrders = true := by kernel_rfl
  refine callsIn_of_wp Try.func86 rfl trivial ?_ rfl
  simp only [Try.ntmps86, List.size_toArray, List.length_cons, List.length_nil, Nat.reduceAdd, Nat.reduceSub, Array.replicate_succ, Array.replicate_zero, List.push_toArray, List.append_toArray, List.nil_append, List.cons_append]
  have HJ := Lib.hid hJ
  have HY := Lib.hid hY
  have HC1 := Lib.hid hc1
  have HC2 := Lib.hid hc2
  clear hJ hY hc1 hc2
  gi_wp2
  gi_loopw [4, 5] (fun t4 _ wr => ∃ (k : Nat), k ≤ N ∧ t4 = .int .i64 (32 * (k : Int)) ∧ J (List.range k) wr ∧ Keep2 n₀ B1 B2 W wr) (fun i _ _ => 32 * N - (intOf i).toNat)
  case atStart => exact ⟨0, by omega, rfl, h0, Keep2.refl _ _ _ _⟩
  case round =>
    obtain ⟨k, hk, rfl, hJs, hnx⟩ := hrel
    have HB := Lib.hid hnx
    have hcw1 : wr.cell? ⟨B1, 0, none⟩ = some (.slice (some ⟨g, 0, none⟩) (32 * N) (32 * N)) := hnx.1.2 _ HC1.out
    have hcw2 : wr.cell? ⟨B2, 0, none⟩ = some (.int .i64 32) := hnx.2.2 _ HC2.out
    by_cases hlt : k < N
    · have hs1 : ∃ a1 c1, ∀ W, (Instr.slice 22 (.slice (some ⟨g, 0, none⟩) (32 * N) (32 * N)) (some (.int .i64 (32 * (k : Int)))) none none).run Try.prog W = .ok (.slice a1 (32 * N - 32 * k) c1) W := by
        have := fun W => run_slice_l (P := Try.prog) W 22 (some ⟨g, 0, none⟩) (32 * N) (32 * N) Try.und22 .i64 (32 * (k : Int)) (by omega) (by omega)
        simp only [Try.size5, Result.andThen, sliced, show (32 * (k : Int)).toNat = 32 * k from by omega] at this
        exact ⟨_, _, this⟩
      have hs2 : ∀ W, (Instr.slice 22 (.slice (some ⟨g, 0, none⟩) (32 * N) (32 * N)) (some (.int .i64 (32 * (k : Int)))) (some (.int .i64 (32 * (k : Int) + 32))) (some (.int .i64 (32 * (k : Int) + 32)))).run Try.prog W = .ok (.slice (some ⟨g, 32 * k, none⟩) 32 32) W := by
        intro W
        rw [run_slice_lhm (P := Try.prog) W 22 (some ⟨g, 0, none⟩) (32 * N) (32 * N) Try.und22 .i64 .i64 .i64 (32 * (k : Int)) (32 * (k : Int) + 32) (32 * (k : Int) + 32) (by omega) (by omega) (by omega) (by omega), Try.size5]
        simp only [Result.andThen, sliced, show (32 * (k : Int)).toNat = 32 * k from by omega, show (32 * (k : Int) + 32).toNat = 32 * k + 32 from by omega]
        rw [if_neg (by omega), show 32 * k + 32 - 32 * k = 32 from by omega, Nat.mul_one]
        simp only [Option.map_some, Addr.add]
        split
        · rename_i h; rw [h]
        · simp
      obtain ⟨a1, c1, hs1⟩ := hs1
      have hm1 : ¬ ((32 * N - 32 * k : Nat) : Int) < 32 := by omega
      have hm2 : (32 : Int) ≤ ((32 * N - 32 * k : Nat) : Int) := by omega
      have hlt' : 32 * (k : Int) < ((32 * N : Nat) : Int) := by omega
      obtain ⟨fn, tmps, assign, body, hy, hR⟩ := HY.out (List.range k) k wr.drew (HJ.out _ wr wr.drew none hJs ⟨rfl, rfl, rfl, Nat.le_refl _, fun _ _ _ => rfl⟩ (fun r e => by cases e)) (by simpa using hlt) (by simp)
      simp only [encC] at hy
      gi_wp2
      refine Reg.regionIn_J rfl hmo (by kernel_rfl) (by kernel_rfl) (fun w => w = wr.drew) rfl ?_
      refine Reg.WalkIn.cons ?vA0 (Reg.StepIn.pure rfl rfl (fun _ => rfl) ?hA0) ?rA0
      case hA0 => intro w hJ; go_simp; rfl
      simp only [Act.put, List.setIfInBounds_toArray, List.set_cons_zero, List.set_cons_succ]
      refine Reg.WalkIn.cons ?vA1 (Reg.StepIn.pure rfl rfl (fun _ => rfl) ?hA1) ?rA1
      case hA1 => intro w hJ; go_simp; rfl
      simp only [Act.put, List.setIfInBounds_toArray, List.set_cons_zero, List.set_cons_succ]
      refine Reg.WalkIn.cons ?vA2 (Reg.StepIn.pure rfl rfl (fun _ => rfl) ?hA2) ?rA2
      case hA2 => intro w hJ; go_simp; rfl
      simp only [Act.put, List.setIfInBounds_toArray, List.set_cons_zero, List.set_cons_succ]
      refine Reg.WalkIn.cons ?vA3 (Reg.StepIn.pure rfl rfl (fun _ => rfl) ?hA3) ?rA3
      case hA3 => intro w hJ; go_simp; rfl
      simp only [Act.put, List.setIfInBounds_toArray, List.set_cons_zero, List.set_cons_succ]
      refine Reg.WalkIn.cons ?vA4 (Reg.StepIn.pure rfl rfl (fun _ => rfl) ?hA4) ?rA4
      case hA4 => intro w hJ; go_simp; rfl
      simp only [Act.put, List.setIfInBounds_toArray, List.set_cons_zero, List.set_cons_succ]
      refine Reg.WalkIn.cons ?vA5 (Reg.StepIn.pure rfl rfl (fun _ => rfl) ?hA5) ?rA5
      case hA5 => intro w hJ; go_simp; rfl
      simp only [Act.put, List.setIfInBounds_toArray, List.set_cons_zero, List.set_cons_succ]
      refine Reg.WalkIn.cons ?vA6 (Reg.StepIn.pure rfl rfl (fun _ => rfl) ?hA6) ?rA6
      case hA6 => intro w hJ; go_simp; rfl
      simp only [Act.put, List.setIfInBounds_toArray, List.set_cons_zero, List.set_cons_succ]
      refine .nil fun w hJ => ?_
      subst hJ
      gi_wp2
      refine ⟨(fun h => by cases h), hR.mono ?_⟩
      rintro e W3 (⟨rfl, hJ3, hk3⟩ | ⟨rfl, hJx3⟩)
      · have hc3 : W3.cell? ⟨B2, 0, none⟩ = some (.int .i64 32) := hk3.2.2 _ (by simpa using hcw2)
        gi_wp2
        go_roundw
        case rel => exact ⟨k + 1, by omega, by go_num, by rw [List.range_succ]; exact hJ3, HB.out.drew.trans hk3⟩
        case measure => simp [intOf]; omega
      · gi_wp2
        refine bodyPost_ret (results_none rfl _ _ _) rfl ?_
        refine ⟨⟨_, rfl⟩, .inr ⟨List.range k ++ [k], ?_, hJx3⟩⟩
        rw [← List.range_succ]
        exact range_prefix hlt
    · obtain rfl : k = N := by omega
      gi_wp2
      go_end0
      exact ⟨⟨_, rfl⟩, .inl ⟨_, rfl, hJs⟩⟩
end Go.Proofs.Ytphalijdanmkeaa
