/- The iterator over the records. -/
import Derived.Test.YtphalijdanmkeaaE
import Derived.Test.YtphalijdanmkeaaReg
import Derived.RangeFuncNested
import Derived.RangeFuncBound
import Derived.RangeFuncBox
import Derived.RangeFuncCalls
import Derived.RangeFuncLeaves
import Derived.Shelf.Abstract
import Derived.Shelf.RegionOpen
import Derived.OwnWalkIn
import Derived.TacticsInMore
import Derived.LoopNIn
import Derived.LoopIn
import Derived.Maps.AppendAt
namespace Go.Proofs.Ytphalijdanmkeaa
open Go.RowKit Go.Shelf J
attribute [local go_sem] Oper.semAt_some

/-- lines, and where their records end -/
def pairs : Nat → Nat → Nat → List UInt8 → List (List UInt8 × Nat)
  | 0, _, _, _ => []
  | f + 1, num, at_, b => match first (b.drop at_) num with
    | none => []
    | some l => (l, at_ + (l.length + 9)) :: pairs f (num + 1) (at_ + (l.length + 9)) b

abbrev encP (x : List UInt8 × Nat) : Array Value := #[strV x.1, .int .i64 (x.2 : Int)]

theorem below_grown {w w' : World} (h : Below w.heap.size w w') : w.grownBy w' none := ⟨h.os, h.tape, h.output, h.size, fun k hk _ => h.block k hk⟩

theorem first_some {b : List UInt8} {num : Nat} {l : List UInt8} (h : first b num = some l) :
    1 ≤ lengthL b ∧ lengthL b ≤ 120 ∧ lengthL b + 9 ≤ b.length ∧ l = (b.drop 8).take (lengthL b) ∧ l.length = lengthL b ∧ isLine l = true ∧ (record l num == b.take (lengthL b + 9)) = true := by
  simp only [first] at h
  split at h
  · rename_i hn
    split at h
    · rename_i hc
      obtain rfl := Option.some.inj h
      simp only [Bool.and_eq_true] at hc
      exact ⟨hn.1, hn.2.1, hn.2.2, rfl, by simp; omega, hc.1, hc.2⟩
    · cases h
  · cases h
theorem first_bad {b : List UInt8} {num : Nat} (h : ¬ (1 ≤ lengthL b ∧ lengthL b ≤ 120 ∧ lengthL b + 9 ≤ b.length)) : first b num = none := by
  simp only [first, if_neg h]
theorem first_bad2 {b : List UInt8} {num : Nat} (h : isLine ((b.drop 8).take (lengthL b)) = false) : first b num = none := by
  simp [first, h]
theorem first_bad3 {b : List UInt8} {num : Nat} (h : (record ((b.drop 8).take (lengthL b)) num == b.take (lengthL b + 9)) = false) : first b num = none := by
  simp only [first, h, Bool.and_false, Bool.false_eq_true, if_false, ite_self]
theorem first_good {b : List UInt8} {num : Nat} (h1 : 1 ≤ lengthL b ∧ lengthL b ≤ 120 ∧ lengthL b + 9 ≤ b.length) (h2 : isLine ((b.drop 8).take (lengthL b)) = true) (h3 : (record ((b.drop 8).take (lengthL b)) num == b.take (lengthL b + 9)) = true) :
    first b num = some ((b.drop 8).take (lengthL b)) := by
  simp only [first, if_pos h1, h2, h3, Bool.and_self, if_true]
theorem first_none {b : List UInt8} {num : Nat} (h : first b num = none) (h1 : 1 ≤ lengthL b) (h2 : lengthL b ≤ 120) (h3 : lengthL b + 9 ≤ b.length) :
    isLine ((b.drop 8).take (lengthL b)) = false ∨ (isLine ((b.drop 8).take (lengthL b)) = true ∧ (record ((b.drop 8).take (lengthL b)) num == b.take (lengthL b + 9)) = false) := by
  simp only [first, if_pos (show 1 ≤ lengthL b ∧ lengthL b ≤ 120 ∧ lengthL b + 9 ≤ b.length from ⟨h1, h2, h3⟩)] at h
  split at h
  · cases h
  · rename_i hc
    simp only [Bool.and_eq_true, not_and, Bool.not_eq_true] at hc
    cases hl : isLine ((b.drop 8).take (lengthL b))
    · exact .inl rfl
    · exact .inr ⟨rfl, hc hl⟩

/-- what the iterator asks a loop's body to keep: what lay below n₀, and the cell of its box -/
def Keep (n₀ Bn : Nat) (A B : World) : Prop := Below n₀ A B ∧ ∀ v, A.cell? ⟨Bn, 0, none⟩ = some v → B.cell? ⟨Bn, 0, none⟩ = some v
theorem Keep.refl (n₀ Bn : Nat) (A : World) : Keep n₀ Bn A A := ⟨Below.refl _ _, fun _ h => h⟩
theorem Keep.trans {n₀ Bn : Nat} {A B C : World} (h : Keep n₀ Bn A B) (k : Keep n₀ Bn B C) : Keep n₀ Bn A C := ⟨h.1.trans k.1, fun v hv => k.2 v (h.2 v hv)⟩
theorem Keep.drew {n₀ Bn : Nat} {A B : World} (h : Keep n₀ Bn A B) : Keep n₀ Bn A B.drew := ⟨h.1.drew, fun v hv => h.2 v hv⟩
theorem Keep.of {n₀ Bn : Nat} {A B : World} (h : Below A.heap.size A B) (hn : n₀ ≤ A.heap.size) : Keep n₀ Bn A B :=
  ⟨h.mono hn, fun v hv => (h.cell (p := ⟨Bn, 0, none⟩) (World.block_lt_of_cell? A _ hv)).trans hv⟩

set_option maxRecDepth 100000 in
set_option maxHeartbeats 2000000 in
theorem records1_in (n : Nat) (hn : 1 ≤ n) (l Bn n₀ : Nat) (a : Option Addr) (m c : Nat) (b : List UInt8) (hm : m ≤ 140737488355328) (J Jx : List (List UInt8 × Nat) → World → Prop)
    (W : World) (hn₀ : n₀ ≤ W.heap.size) (hJ : AbidesFrom W.heap.size J) (hcell : W.cell? ⟨Bn, 0, none⟩ = some (.slice a m c)) (hR : Row 1 W a m c (b.map byteV)) (hRb : ∀ W', Keep n₀ Bn W W' → Row 1 W' a m c (b.map byteV))
    (hY : ∀ pre x W1, J pre W1 → pre.length < 60 → YieldAt Fence.wide (n - 1) Try.prog l (encP x) W1 fun e W' =>
      (e = .returned (.bool true) ∧ J (pre ++ [x]) W' ∧ Keep n₀ Bn W1 W') ∨ (e = .returned (.bool false) ∧ Jx (pre ++ [x]) W'))
    (h0 : J [] W) :
    CallsIn Fence.wide n Try.prog 83 #[.func (.yield l) #[] #[], .pointer (some ⟨Bn, 0, none⟩)] W fun e W' => (∃ v, e = .returned v) ∧
      ((∃ ys, ys = pairs 60 0 0 b ∧ J ys W') ∨ (∃ pre, pre <+: pairs 60 0 0 b ∧ Jx pre W')) := by
  have hmo : Try.prog.follows .mixedOrders = true := by kernel_rfl
  have hml : b.length = m := by have := hR.1; simpa using this
  subst hml
  refine callsIn_of_wp Try.func83 rfl trivial ?_ rfl
  simp only [Try.ntmps83, List.size_toArray, List.length_cons, List.length_nil, Nat.reduceAdd, Nat.reduceSub, Array.replicate_succ, Array.replicate_zero, List.push_toArray, List.append_toArray, List.nil_append, List.cons_append]
  have HR := Lib.hid hR
  have HRb := Lib.hid hRb
  have HJ := Lib.hid hJ
  have HY := Lib.hid hY
  clear hR hRb hJ hY
  gi_wp2
  gi_loopw [3, 4, 5, 6, 7, 8] (fun t3 _ _ _ _ t8 wr => ∃ (k at_ : Nat) (pre : List (List UInt8 × Nat)), k ≤ 60 ∧ at_ ≤ b.length ∧ t3 = .int .i64 at_ ∧ t8 = .int .i64 k ∧ pre.length = k ∧ pairs 60 0 0 b = pre ++ pairs (60 - k) k at_ b ∧ J pre wr ∧ Keep n₀ Bn W wr)
    (fun _ _ _ _ _ i _ => 60 - (intOf i).toNat)
  case atStart => exact ⟨0, 0, [], by omega, by omega, rfl, rfl, rfl, rfl, h0, Keep.refl _ _ _⟩
  case round =>
    obtain ⟨k, at_, pre, hk, hat, rfl, rfl, hpre, hpairs, hJs, hnx⟩ := hrel
    have HP := Lib.hid hpairs
    have HL := Lib.hid hpre
    have HB := Lib.hid hnx
    clear hpairs hpre
    by_cases hlt : k < 60
    · obtain ⟨d, hd⟩ : ∃ d, d = b.drop at_ := ⟨_, rfl⟩
      have hdl : d.length = b.length - at_ := by rw [hd, List.length_drop]
      have HD := Lib.hid hd
      have hst : pairs (60 - k) k at_ b = match first d k with | none => [] | some l => (l, at_ + (l.length + 9)) :: pairs (60 - (k + 1)) (k + 1) (at_ + (l.length + 9)) b := by
        rw [show 60 - k = (60 - (k + 1)) + 1 from by omega, hd]
        rfl
      have HST := Lib.hid hst
      obtain ⟨a1, c1, hs1, hr1⟩ := slice_l (P := Try.prog) (HRb.out wr HB.out) Try.und22 Try.size5 (at_ : Int) (by omega) (by omega)
      simp only [Int.toNat_natCast, Nat.mul_one, ← List.map_drop] at hs1 hr1
      rw [← hd] at hr1
      have HR1 := Lib.hid hr1
      have hcw : wr.cell? ⟨Bn, 0, none⟩ = some (.slice a b.length c) := HB.out.2 _ hcell
      obtain ⟨L, hL⟩ : ∃ L, L = lengthL d := ⟨_, rfl⟩
      have HL' := Lib.hid hL
      have NONE : Hid (first d k = none → pre = pairs 60 0 0 b) := Lib.hid fun h => by rw [HP.out, HST.out, h]; simp
      have HDL0 := Lib.hid hdl
      clear hd hst hr1 hcell hL hdl
      by_cases h1 : (decide ((1 : Int) ≤ (L : Int)) && decide ((L : Int) ≤ 120)) = true
      · have h1' := h1
        simp only [Bool.and_eq_true, decide_eq_true_eq] at h1'
        obtain ⟨h2, h3⟩ := h1'
        have H1 := Lib.hid h1
        clear h1
        by_cases h4 : (b.length : Int) < (at_ : Int) + 9 + (L : Int)
        · gi_wp2_with (first | (refine ⟨trivial, ?_⟩; gi_at_call 84; refine (callsIn_wide.2 (length_any _ _ _ d _ HR1.out)).mono ?_; rintro e w' ⟨rfl, rfl⟩; rw [← HL'.out]) | (refine ⟨trivial, ?_⟩; gi_at_call 48; refine (callsIn_wide.2 (within_any _ _ _ _)).mono ?_; rintro e w' ⟨rfl, rfl⟩; rw [H1.out]))
          refine bodyPost_ret (results_none rfl _ _ _) rfl ?_
          refine ⟨⟨_, rfl⟩, .inl ⟨pre, NONE.out (first_bad ?_), hJs⟩⟩
          rw [← HL'.out, HDL0.out]
          omega
        · have h4' : decide ((b.length : Int) < (at_ : Int) + 9 + (L : Int)) = false := by simpa using h4
          have HDL : Hid (d.length = b.length - at_) := by rw [HD.out]; exact Lib.hid (List.length_drop ..)
          obtain ⟨line, hline⟩ : ∃ line, line = (d.drop 8).take L := ⟨_, rfl⟩
          obtain ⟨a2, c2, hs2, hr2⟩ := slice_lh (P := Try.prog) (HRb.out wr HB.out) Try.und22 Try.size5 ((at_ : Int) + 8) ((at_ : Int) + 8 + (L : Int)) (by omega) (by omega) (by omega)
          have e2 : ((at_ : Int) + 8 + (L : Int)).toNat - ((at_ : Int) + 8).toNat = L := by omega
          have e3 : ((at_ : Int) + 8).toNat = at_ + 8 := by omega
          rw [e2, e3, Nat.mul_one, Nat.mul_one, ← List.map_drop, ← List.map_take, ← List.drop_drop, ← HD.out, ← hline] at hr2
          simp only [e2] at hs2
          have hcv := run_conv (P := Try.prog) hr2 22 9 5 Try.underlying22 Try.underlying5 Try.underlying9
          have hll : line.length = L := by have := hr2.1; simpa using this
          obtain ⟨a3, c3, hs3, hr3⟩ := slice_lh (P := Try.prog) (HRb.out wr HB.out) Try.und22 Try.size5 (at_ : Int) ((at_ : Int) + 9 + (L : Int)) (by omega) (by omega) (by omega)
          have e5 : ((at_ : Int) + 9 + (L : Int)).toNat - ((at_ : Int)).toNat = L + 9 := by omega
          rw [e5, Int.toNat_natCast, Nat.mul_one, Nat.mul_one, ← List.map_drop, ← List.map_take, ← HD.out] at hr3
          have hcv3 : ∀ W', Keep n₀ Bn wr W' → (convert 22 9 (.slice a3 (L + 9) c3)).run Try.prog W' = .ok (strV (d.take (L + 9))) W' := by
            intro W' hb'
            obtain ⟨a4, c4, hs4, hr4⟩ := slice_lh (P := Try.prog) (HRb.out W' (HB.out.trans hb')) Try.und22 Try.size5 (at_ : Int) ((at_ : Int) + 9 + (L : Int)) (by omega) (by omega) (by omega)
            have e := (hs3 W').symm.trans (hs4 W')
            simp only [Result.ok.injEq, Value.slice.injEq, and_true, true_and] at e
            obtain ⟨rfl, rfl⟩ := e
            rw [e5, Int.toNat_natCast, Nat.mul_one, Nat.mul_one, ← List.map_drop, ← List.map_take, ← HD.out] at hr4
            exact run_conv (P := Try.prog) hr4 22 9 5 Try.underlying22 Try.underlying5 Try.underlying9
          simp only [e5] at hs3
          have hb0 : Keep n₀ Bn wr wr.drew := (Keep.refl _ _ _).drew
          have hcl : ∀ W', Keep n₀ Bn wr W' → W'.cell? ⟨Bn, 0, none⟩ = some (.slice a b.length c) := fun W' h => h.2 _ hcw
          have HLL := Lib.hid hll
          have hl1 : 1 ≤ line.length := by omega
          have hl2 : line.length ≤ 120 := by omega
          have HLI := Lib.hid hline
          have HFIT : Hid (at_ + 9 + L ≤ b.length) := Lib.hid (by omega)
          clear e2 e3 e5 hr2 hr3 hline hll h4
          have hJ0 : J pre wr.drew := HJ.out pre wr wr.drew none hJs ⟨rfl, rfl, rfl, Nat.le_refl _, fun _ _ _ => rfl⟩ (fun r e => by cases e)
          by_cases hv : isLine line = true
          · have HV := Lib.hid hv
            clear hv
            have hBnn : n₀ ≤ wr.heap.size := Nat.le_trans hn₀ HB.out.1.size
            have hJg : Hid (∀ w w', J pre w → Below w.heap.size w w' → J pre w') := Lib.hid fun w w' hj hb => HJ.out pre w w' none hj (below_grown hb) (fun r e => by cases e)
            by_cases hrec : (record line k == d.take (L + 9)) = true
            · have eE : (((at_ + (L + 9) : Nat)) : Int) = (at_ : Int) + 9 + (L : Int) := by omega
              have EE := Lib.hid eE
              have hne : (record line k == d.take (L + 9)) = true := hrec
              have HREC := Lib.hid hrec
              clear hrec eE
              gi_wp2_with (first | (refine ⟨trivial, ?_⟩; gi_at_call 84; refine (callsIn_wide.2 (length_any _ _ _ d _ HR1.out)).mono ?_; rintro e w' ⟨rfl, rfl⟩; rw [← HL'.out]) | (refine ⟨trivial, ?_⟩; gi_at_call 48; refine (callsIn_wide.2 (within_any _ _ _ _)).mono ?_; rintro e w' ⟨rfl, rfl⟩; rw [H1.out]))
              refine Reg.regionIn_JTm rfl 18 hmo (by kernel_rfl) (by kernel_rfl) rfl (by kernel_rfl) (by kernel_rfl) (fun w => J pre w ∧ Keep n₀ Bn wr w) ⟨hJ0, hb0⟩ ?_
              simp only [List.take_succ_cons, List.take_zero, List.drop_succ_cons, List.drop_zero]
              refine Reg.WalkTIn.cons ?vE0 (Reg.StepIn.pure rfl rfl (fun _ => rfl) ?hE0) ?rE0
              case hE0 => intro w hJ; go_simp; rfl
              simp only [Act.put, List.setIfInBounds_toArray, List.set_cons_zero, List.set_cons_succ]
              refine Reg.WalkTIn.cons (.bool true) (Reg.StepIn.call (f := 65) (args := #[strV line]) rfl (fun _ => trivial) rfl rfl ?hE1 ?cE1) ?rE1
              case hE1 => intro w hJ; go_simp
              case cE1 => intro w hJ; refine (callsIn_wide.2 (valid_any line _ (by omega))).mono ?_; rintro e w' ⟨rfl, rfl⟩; rw [HV.out]; exact ⟨rfl, hJ⟩
              simp only [Act.put, List.setIfInBounds_toArray, List.set_cons_zero, List.set_cons_succ]
              refine Reg.WalkTIn.cons ?vE2 (Reg.StepIn.pure rfl rfl (fun _ => rfl) ?hE2) ?rE2
              case hE2 => intro w hJ; go_simp; rfl
              simp only [Act.put, List.setIfInBounds_toArray, List.set_cons_zero, List.set_cons_succ]
              refine Reg.WalkTIn.cons ?vE3 (Reg.StepIn.pure rfl rfl (fun _ => rfl) ?hE3) ?rE3
              case hE3 => intro w hJ; go_simp; rfl
              simp only [Act.put, List.setIfInBounds_toArray, List.set_cons_zero, List.set_cons_succ]
              refine Reg.WalkTIn.cons ?vE4 (Reg.StepIn.pure rfl rfl (fun _ => rfl) ?hE4) ?rE4
              case hE4 => intro w hJ; go_simp; rfl
              simp only [Act.put, List.setIfInBounds_toArray, List.set_cons_zero, List.set_cons_succ]
              refine Reg.WalkTIn.cons ?vE5 (Reg.StepIn.pure rfl rfl (fun _ => rfl) ?hE5) ?rE5
              case hE5 => intro w hJ; go_simp; rfl
              simp only [Act.put, List.setIfInBounds_toArray, List.set_cons_zero, List.set_cons_succ]
              refine Reg.WalkTIn.cons (strV (record line (k : Int).toNat)) (Reg.StepIn.call (f := 51) (args := #[strV line, .int .i64 k]) rfl (fun _ => trivial) rfl rfl ?hE6 ?cE6) ?rE6
              case hE6 => intro w hJ; go_simp
              case cE6 => intro w hJ; refine (callsIn_wide.2 (record_any line k _ (by omega) (by omega) (by omega))).mono ?_; rintro e w' ⟨rfl, hb⟩; exact ⟨rfl, ⟨hJg.out _ _ hJ.1 hb, hJ.2.trans (Keep.of hb (Nat.le_trans hBnn hJ.2.1.size))⟩⟩
              simp only [Act.put, List.setIfInBounds_toArray, List.set_cons_zero, List.set_cons_succ]
              refine Reg.WalkTIn.cons ?vE7 (Reg.StepIn.pure rfl rfl (fun _ => rfl) ?hE7) ?rE7
              case hE7 => intro w hJ; go_simp; rfl
              simp only [Act.put, List.setIfInBounds_toArray, List.set_cons_zero, List.set_cons_succ]
              refine Reg.WalkTIn.cons ?vE8 (Reg.StepIn.pure rfl rfl (fun _ => rfl) ?hE8) ?rE8
              case hE8 => intro w hJ; go_simp; rfl
              simp only [Act.put, List.setIfInBounds_toArray, List.set_cons_zero, List.set_cons_succ]
              refine Reg.WalkTIn.cons ?vE9 (Reg.StepIn.pure rfl rfl (fun _ => rfl) ?hE9) ?rE9
              case hE9 => intro w hJ; go_simp; rfl
              simp only [Act.put, List.setIfInBounds_toArray, List.set_cons_zero, List.set_cons_succ]
              refine Reg.WalkTIn.cons ?vE10 (Reg.StepIn.pure rfl rfl (fun _ => rfl) ?hE10) ?rE10
              case hE10 => intro w hJ; go_simp; rfl
              simp only [Act.put, List.setIfInBounds_toArray, List.set_cons_zero, List.set_cons_succ]
              refine Reg.WalkTIn.cons ?vE11 (Reg.StepIn.pure rfl rfl (fun _ => rfl) ?hE11) ?rE11
              case hE11 => intro w hJ; go_simp; rfl
              simp only [Act.put, List.setIfInBounds_toArray, List.set_cons_zero, List.set_cons_succ]
              refine Reg.WalkTIn.cons ?vE12 (Reg.StepIn.pure rfl rfl (fun _ => rfl) ?hE12) ?rE12
              case hE12 => intro w hJ; go_simp; rfl
              simp only [Act.put, List.setIfInBounds_toArray, List.set_cons_zero, List.set_cons_succ]
              refine Reg.WalkTIn.cons ?vE13 (Reg.StepIn.pure rfl rfl (fun _ => rfl) ?hE13) ?rE13
              case hE13 => intro w hJ; go_simp; rfl
              simp only [Act.put, List.setIfInBounds_toArray, List.set_cons_zero, List.set_cons_succ]
              refine Reg.WalkTIn.cons ?vE14 (Reg.StepIn.pure rfl rfl (fun _ => rfl) ?hE14) ?rE14
              case hE14 => intro w hJ; go_simp; rfl
              simp only [Act.put, List.setIfInBounds_toArray, List.set_cons_zero, List.set_cons_succ]
              refine Reg.WalkTIn.cons ?vE15 (Reg.StepIn.pure rfl rfl (fun _ => rfl) ?hE15) ?rE15
              case hE15 => intro w hJ; go_simp; rfl
              simp only [Act.put, List.setIfInBounds_toArray, List.set_cons_zero, List.set_cons_succ]
              refine Reg.WalkTIn.cons ?vE16 (Reg.StepIn.pure rfl rfl (fun _ => rfl) ?hE16) ?rE16
              case hE16 => intro w hJ; go_simp; rfl
              simp only [Act.put, List.setIfInBounds_toArray, List.set_cons_zero, List.set_cons_succ]
              refine Reg.WalkTIn.cons ?vE17 (Reg.StepIn.pure rfl rfl (fun _ => rfl) ?hE17) ?rE17
              case hE17 => intro w hJ; go_simp; rfl
              simp only [Act.put, List.setIfInBounds_toArray, List.set_cons_zero, List.set_cons_succ]
              refine .nil fun w hJ => ?_
              obtain ⟨fn, tmps, assign, body, hy, hY⟩ := HY.out pre (line, at_ + (L + 9)) w hJ.1 (by rw [HL.out]; omega)
              simp only [encP, EE.out] at hy
              gi_wp2
              refine hY.mono ?_
              rintro e W3 h3
              obtain ⟨bv, rfl, h3⟩ : ∃ bv : Bool, e = .returned (.bool bv) ∧ ((bv = true ∧ J (pre ++ [(line, at_ + (L + 9))]) W3 ∧ Keep n₀ Bn w W3) ∨ (bv = false ∧ Jx (pre ++ [(line, at_ + (L + 9))]) W3)) := by
                rcases h3 with ⟨rfl, h⟩ | ⟨rfl, h⟩
                · exact ⟨true, rfl, .inl ⟨rfl, h⟩⟩
                · exact ⟨false, rfl, .inr ⟨rfl, h⟩⟩
              have H3 := Lib.hid h3
              clear h3 hy
              have HF : first d k = some line := by
                have := first_good (b := d) (num := k) (by rw [← HL'.out, HDL.out]; have := HFIT.out; omega) (by rw [← HL'.out, ← HLI.out]; exact HV.out) (by rw [← HL'.out, ← HLI.out]; exact HREC.out)
                rw [← HL'.out, ← HLI.out] at this
                exact this
              have HPP : Hid (pairs 60 0 0 b = (pre ++ [(line, at_ + (L + 9))]) ++ pairs (60 - (k + 1)) (k + 1) (at_ + (L + 9)) b) := by
                have h1 := HP.out
                rw [HST.out, HF] at h1
                simp only [HLL.out] at h1
                exact Lib.hid (by rw [h1]; simp)
              clear HF
              cases bv
              · gi_wp2
                refine bodyPost_ret (results_none rfl _ _ _) rfl ?_
                rcases H3.out with ⟨h, _⟩ | ⟨_, h⟩
                · cases h
                · exact ⟨⟨_, rfl⟩, .inr ⟨_, ⟨_, HPP.out.symm⟩, h⟩⟩
              · gi_wp2
                rcases H3.out with ⟨_, h, hb3⟩ | ⟨h, _⟩
                · go_roundw
                  case rel => exact ⟨k + 1, at_ + (L + 9), pre ++ [(line, at_ + (L + 9))], by omega, by have := HFIT.out; omega, by rw [EE.out], by go_num, by simp [HL.out], HPP.out, h, (HB.out.trans hJ.2).trans hb3⟩
                  case measure => simp [intOf]; omega
                · cases h
            · have hrec' := Bool.eq_false_iff.2 hrec
              have hne : (record line k == d.take (L + 9)) = false := hrec'
              have HREC := Lib.hid hrec'
              clear hrec hrec'
              gi_wp2_with (first | (refine ⟨trivial, ?_⟩; gi_at_call 84; refine (callsIn_wide.2 (length_any _ _ _ d _ HR1.out)).mono ?_; rintro e w' ⟨rfl, rfl⟩; rw [← HL'.out]) | (refine ⟨trivial, ?_⟩; gi_at_call 48; refine (callsIn_wide.2 (within_any _ _ _ _)).mono ?_; rintro e w' ⟨rfl, rfl⟩; rw [H1.out]))
              refine Reg.regionIn_JTm rfl 18 hmo (by kernel_rfl) (by kernel_rfl) rfl (by kernel_rfl) (by kernel_rfl) (fun w => J pre w ∧ Keep n₀ Bn wr w) ⟨hJ0, hb0⟩ ?_
              simp only [List.take_succ_cons, List.take_zero, List.drop_succ_cons, List.drop_zero]
              refine Reg.WalkTIn.cons ?vD0 (Reg.StepIn.pure rfl rfl (fun _ => rfl) ?hD0) ?rD0
              case hD0 => intro w hJ; go_simp; rfl
              simp only [Act.put, List.setIfInBounds_toArray, List.set_cons_zero, List.set_cons_succ]
              refine Reg.WalkTIn.cons (.bool true) (Reg.StepIn.call (f := 65) (args := #[strV line]) rfl (fun _ => trivial) rfl rfl ?hD1 ?cD1) ?rD1
              case hD1 => intro w hJ; go_simp
              case cD1 => intro w hJ; refine (callsIn_wide.2 (valid_any line _ (by omega))).mono ?_; rintro e w' ⟨rfl, rfl⟩; rw [HV.out]; exact ⟨rfl, hJ⟩
              simp only [Act.put, List.setIfInBounds_toArray, List.set_cons_zero, List.set_cons_succ]
              refine Reg.WalkTIn.cons ?vD2 (Reg.StepIn.pure rfl rfl (fun _ => rfl) ?hD2) ?rD2
              case hD2 => intro w hJ; go_simp; rfl
              simp only [Act.put, List.setIfInBounds_toArray, List.set_cons_zero, List.set_cons_succ]
              refine Reg.WalkTIn.cons ?vD3 (Reg.StepIn.pure rfl rfl (fun _ => rfl) ?hD3) ?rD3
              case hD3 => intro w hJ; go_simp; rfl
              simp only [Act.put, List.setIfInBounds_toArray, List.set_cons_zero, List.set_cons_succ]
              refine Reg.WalkTIn.cons ?vD4 (Reg.StepIn.pure rfl rfl (fun _ => rfl) ?hD4) ?rD4
              case hD4 => intro w hJ; go_simp; rfl
              simp only [Act.put, List.setIfInBounds_toArray, List.set_cons_zero, List.set_cons_succ]
              refine Reg.WalkTIn.cons ?vD5 (Reg.StepIn.pure rfl rfl (fun _ => rfl) ?hD5) ?rD5
              case hD5 => intro w hJ; go_simp; rfl
              simp only [Act.put, List.setIfInBounds_toArray, List.set_cons_zero, List.set_cons_succ]
              refine Reg.WalkTIn.cons (strV (record line (k : Int).toNat)) (Reg.StepIn.call (f := 51) (args := #[strV line, .int .i64 k]) rfl (fun _ => trivial) rfl rfl ?hD6 ?cD6) ?rD6
              case hD6 => intro w hJ; go_simp
              case cD6 => intro w hJ; refine (callsIn_wide.2 (record_any line k _ (by omega) (by omega) (by omega))).mono ?_; rintro e w' ⟨rfl, hb⟩; exact ⟨rfl, ⟨hJg.out _ _ hJ.1 hb, hJ.2.trans (Keep.of hb (Nat.le_trans hBnn hJ.2.1.size))⟩⟩
              simp only [Act.put, List.setIfInBounds_toArray, List.set_cons_zero, List.set_cons_succ]
              refine Reg.WalkTIn.cons ?vD7 (Reg.StepIn.pure rfl rfl (fun _ => rfl) ?hD7) ?rD7
              case hD7 => intro w hJ; go_simp; rfl
              simp only [Act.put, List.setIfInBounds_toArray, List.set_cons_zero, List.set_cons_succ]
              refine Reg.WalkTIn.cons ?vD8 (Reg.StepIn.pure rfl rfl (fun _ => rfl) ?hD8) ?rD8
              case hD8 => intro w hJ; go_simp; rfl
              simp only [Act.put, List.setIfInBounds_toArray, List.set_cons_zero, List.set_cons_succ]
              refine Reg.WalkTIn.cons ?vD9 (Reg.StepIn.pure rfl rfl (fun _ => rfl) ?hD9) ?rD9
              case hD9 => intro w hJ; go_simp; rfl
              simp only [Act.put, List.setIfInBounds_toArray, List.set_cons_zero, List.set_cons_succ]
              refine Reg.WalkTIn.cons ?vD10 (Reg.StepIn.pure rfl rfl (fun _ => rfl) ?hD10) ?rD10
              case hD10 => intro w hJ; go_simp; rfl
              simp only [Act.put, List.setIfInBounds_toArray, List.set_cons_zero, List.set_cons_succ]
              refine Reg.WalkTIn.cons ?vD11 (Reg.StepIn.pure rfl rfl (fun _ => rfl) ?hD11) ?rD11
              case hD11 => intro w hJ; go_simp; rfl
              simp only [Act.put, List.setIfInBounds_toArray, List.set_cons_zero, List.set_cons_succ]
              refine Reg.WalkTIn.cons ?vD12 (Reg.StepIn.pure rfl rfl (fun _ => rfl) ?hD12) ?rD12
              case hD12 => intro w hJ; go_simp; rfl
              simp only [Act.put, List.setIfInBounds_toArray, List.set_cons_zero, List.set_cons_succ]
              refine Reg.WalkTIn.cons ?vD13 (Reg.StepIn.pure rfl rfl (fun _ => rfl) ?hD13) ?rD13
              case hD13 => intro w hJ; go_simp; rfl
              simp only [Act.put, List.setIfInBounds_toArray, List.set_cons_zero, List.set_cons_succ]
              refine Reg.WalkTIn.cons ?vD14 (Reg.StepIn.pure rfl rfl (fun _ => rfl) ?hD14) ?rD14
              case hD14 => intro w hJ; go_simp; rfl
              simp only [Act.put, List.setIfInBounds_toArray, List.set_cons_zero, List.set_cons_succ]
              refine Reg.WalkTIn.cons undef (Reg.StepIn.skip rfl (fun _ => trivial)) ?rD15
              simp only [Act.put, List.setIfInBounds_toArray, List.set_cons_zero, List.set_cons_succ]
              refine Reg.WalkTIn.cons undef (Reg.StepIn.skip rfl (fun _ => trivial)) ?rD16
              simp only [Act.put, List.setIfInBounds_toArray, List.set_cons_zero, List.set_cons_succ]
              refine Reg.WalkTIn.cons undef (Reg.StepIn.skip rfl (fun _ => trivial)) ?rD17
              simp only [Act.put, List.setIfInBounds_toArray, List.set_cons_zero, List.set_cons_succ]
              refine .nil fun w hJ => ?_
              gi_wp2
              refine ⟨(fun _ h => by cases h), ?_⟩
              gi_wp2
              refine bodyPost_ret (results_none rfl _ _ _) rfl ?_
              refine ⟨⟨_, rfl⟩, .inl ⟨pre, NONE.out (first_bad3 ?_), hJ.1⟩⟩
              rw [← HL'.out, ← HLI.out]
              exact HREC.out
          · have hv' := Bool.eq_false_iff.2 hv
            have HV := Lib.hid hv'
            clear hv hv'
            gi_wp2_with (first | (refine ⟨trivial, ?_⟩; gi_at_call 84; refine (callsIn_wide.2 (length_any _ _ _ d _ HR1.out)).mono ?_; rintro e w' ⟨rfl, rfl⟩; rw [← HL'.out]) | (refine ⟨trivial, ?_⟩; gi_at_call 48; refine (callsIn_wide.2 (within_any _ _ _ _)).mono ?_; rintro e w' ⟨rfl, rfl⟩; rw [H1.out]))
            refine Reg.regionIn_JTm rfl 18 hmo (by kernel_rfl) (by kernel_rfl) rfl (by kernel_rfl) (by kernel_rfl) (fun w => w = wr.drew) rfl ?_
            simp only [List.take_succ_cons, List.take_zero, List.drop_succ_cons, List.drop_zero]
            refine Reg.WalkTIn.cons ?vC0 (Reg.StepIn.pure rfl rfl (fun _ => rfl) ?hC0) ?rC0
            case hC0 => intro w hJ; go_simp; rfl
            simp only [Act.put, List.setIfInBounds_toArray, List.set_cons_zero, List.set_cons_succ]
            refine Reg.WalkTIn.cons (.bool false) (Reg.StepIn.call (f := 65) (args := #[strV line]) rfl (fun _ => trivial) rfl rfl ?hC1 ?cC1) ?rC1
            case hC1 => intro w hJ; go_simp
            case cC1 => intro w hJ; refine (callsIn_wide.2 (valid_any line _ (by omega))).mono ?_; rintro e w' ⟨rfl, rfl⟩; rw [HV.out]; exact ⟨rfl, hJ⟩
            simp only [Act.put, List.setIfInBounds_toArray, List.set_cons_zero, List.set_cons_succ]
            refine Reg.WalkTIn.cons ?vC2 (Reg.StepIn.pure rfl rfl (fun _ => rfl) ?hC2) ?rC2
            case hC2 => intro w hJ; go_simp; rfl
            simp only [Act.put, List.setIfInBounds_toArray, List.set_cons_zero, List.set_cons_succ]
            refine Reg.WalkTIn.cons ?vC3 (Reg.StepIn.pure rfl rfl (fun _ => rfl) ?hC3) ?rC3
            case hC3 => intro w hJ; go_simp; rfl
            simp only [Act.put, List.setIfInBounds_toArray, List.set_cons_zero, List.set_cons_succ]
            refine Reg.WalkTIn.cons undef (Reg.StepIn.skip rfl (fun _ => trivial)) ?rC4
            simp only [Act.put, List.setIfInBounds_toArray, List.set_cons_zero, List.set_cons_succ]
            refine Reg.WalkTIn.cons undef (Reg.StepIn.skip rfl (fun _ => trivial)) ?rC5
            simp only [Act.put, List.setIfInBounds_toArray, List.set_cons_zero, List.set_cons_succ]
            refine Reg.WalkTIn.cons undef (Reg.StepIn.skip rfl (fun _ => trivial)) ?rC6
            simp only [Act.put, List.setIfInBounds_toArray, List.set_cons_zero, List.set_cons_succ]
            refine Reg.WalkTIn.cons undef (Reg.StepIn.skip rfl (fun _ => trivial)) ?rC7
            simp only [Act.put, List.setIfInBounds_toArray, List.set_cons_zero, List.set_cons_succ]
            refine Reg.WalkTIn.cons undef (Reg.StepIn.skip rfl (fun _ => trivial)) ?rC8
            simp only [Act.put, List.setIfInBounds_toArray, List.set_cons_zero, List.set_cons_succ]
            refine Reg.WalkTIn.cons undef (Reg.StepIn.skip rfl (fun _ => trivial)) ?rC9
            simp only [Act.put, List.setIfInBounds_toArray, List.set_cons_zero, List.set_cons_succ]
            refine Reg.WalkTIn.cons undef (Reg.StepIn.skip rfl (fun _ => trivial)) ?rC10
            simp only [Act.put, List.setIfInBounds_toArray, List.set_cons_zero, List.set_cons_succ]
            refine Reg.WalkTIn.cons undef (Reg.StepIn.skip rfl (fun _ => trivial)) ?rC11
            simp only [Act.put, List.setIfInBounds_toArray, List.set_cons_zero, List.set_cons_succ]
            refine Reg.WalkTIn.cons undef (Reg.StepIn.skip rfl (fun _ => trivial)) ?rC12
            simp only [Act.put, List.setIfInBounds_toArray, List.set_cons_zero, List.set_cons_succ]
            refine Reg.WalkTIn.cons ?vC13 (Reg.StepIn.pure rfl rfl (fun _ => rfl) ?hC13) ?rC13
            case hC13 => intro w hJ; go_simp; rfl
            simp only [Act.put, List.setIfInBounds_toArray, List.set_cons_zero, List.set_cons_succ]
            refine Reg.WalkTIn.cons ?vC14 (Reg.StepIn.pure rfl rfl (fun _ => rfl) ?hC14) ?rC14
            case hC14 => intro w hJ; go_simp; rfl
            simp only [Act.put, List.setIfInBounds_toArray, List.set_cons_zero, List.set_cons_succ]
            refine Reg.WalkTIn.cons undef (Reg.StepIn.skip rfl (fun _ => trivial)) ?rC15
            simp only [Act.put, List.setIfInBounds_toArray, List.set_cons_zero, List.set_cons_succ]
            refine Reg.WalkTIn.cons undef (Reg.StepIn.skip rfl (fun _ => trivial)) ?rC16
            simp only [Act.put, List.setIfInBounds_toArray, List.set_cons_zero, List.set_cons_succ]
            refine Reg.WalkTIn.cons undef (Reg.StepIn.skip rfl (fun _ => trivial)) ?rC17
            simp only [Act.put, List.setIfInBounds_toArray, List.set_cons_zero, List.set_cons_succ]
            refine .nil fun w hJ => ?_
            subst hJ
            gi_wp2
            refine ⟨(fun _ h => by cases h), ?_⟩
            gi_wp2
            refine bodyPost_ret (results_none rfl _ _ _) rfl ?_
            refine ⟨⟨_, rfl⟩, .inl ⟨pre, NONE.out (first_bad2 ?_), hJ0⟩⟩
            rw [← HL'.out, ← HLI.out]
            exact HV.out
      · have h1' := Bool.eq_false_iff.2 h1
        have H1 := Lib.hid h1'
        clear h1 h1'
        gi_wp2_with (first | (refine ⟨trivial, ?_⟩; gi_at_call 84; refine (callsIn_wide.2 (length_any _ _ _ d _ HR1.out)).mono ?_; rintro e w' ⟨rfl, rfl⟩; rw [← HL'.out]) | (refine ⟨trivial, ?_⟩; gi_at_call 48; refine (callsIn_wide.2 (within_any _ _ _ _)).mono ?_; rintro e w' ⟨rfl, rfl⟩; rw [H1.out]))
        refine bodyPost_ret (results_none rfl _ _ _) rfl ?_
        refine ⟨⟨_, rfl⟩, .inl ⟨pre, NONE.out (first_bad ?_), hJs⟩⟩
        have := H1.out
        rw [← HL'.out]
        rintro ⟨x1, x2, _⟩
        rw [decide_eq_true (show (1 : Int) ≤ (L : Int) by omega), decide_eq_true (show (L : Int) ≤ 120 by omega)] at this
        cases this
    · obtain rfl : k = 60 := by omega
      gi_wp2
      go_end0
      refine ⟨⟨_, rfl⟩, .inl ⟨pre, ?_, hJs⟩⟩
      rw [HP.out]
      simp [pairs]
end Go.Proofs.Ytphalijdanmkeaa
