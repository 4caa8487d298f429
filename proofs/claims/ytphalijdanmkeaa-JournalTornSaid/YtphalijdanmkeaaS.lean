/- The reference: the first record of some bytes. -/
import Derived.Test.YtphalijdanmkeaaK
import Derived.Test.YtphalijdanmkeaaR
namespace Go.Proofs.Ytphalijdanmkeaa
open Go.RowKit J

theorem check_num {l : List UInt8} {num : Nat} (h : num ≤ 59) : J.check l (num : Int) = if isLine l then 0 else 2 := by
  have : (decide (0 ≤ (num : Int)) && decide ((num : Int) ≤ 59)) = true := by simp; omega
  simp only [J.check, this]
  cases isLine l <;> rfl

/-- a line, or none -/
def lineOf : Option (List UInt8) → List UInt8
  | none => []
  | some l => l

set_option maxRecDepth 100000 in
set_option maxHeartbeats 2000000 in
theorem RFirst_any (a : Option Addr) (m c : Nat) (b : List UInt8) (at_ num : Nat) (w : World) (hm : m ≤ 140737488355328) (hat : at_ ≤ m) (hnum : num ≤ 59) (h : Row 1 w a m c (b.map byteV)) :
    Calls Try.prog 59 #[.slice a m c, .int .i64 (at_ : Int), .int .i64 (num : Int)] w fun e w' => e = .returned (.tuple #[strV (lineOf (first (b.drop at_) num)), .bool (first (b.drop at_) num).isSome]) ∧ Below w.heap.size w w' := by
  have hbl : b.length = m := by simpa using h.1
  have HR := Lib.hid h
  have HBL := Lib.hid hbl
  clear h hbl
  go_enter Try.func59, Try.ntmps59
  go_wp2
  go_loopw [8, 9, 10, 11] (fun t8 _ _ _ wr => ∃ n : Nat, 1 ≤ n ∧ n ≤ 121 ∧ t8 = .int .i64 n ∧ (∀ k, 1 ≤ k → k < n → k + 9 ≤ (b.drop at_).length → hits (b.drop at_) num k = false) ∧ Below w.heap.size w wr) (fun i _ _ _ _ => 200 - (intOf i).toNat)
  case atStart => exact ⟨1, by omega, by omega, rfl, (fun k h1 h2 => by omega), Below.refl _ _⟩
  case round =>
    obtain ⟨n, hn1, hn2, rfl, hno, hbw⟩ := hrel
    have HN := Lib.hid hno
    have HB := Lib.hid hbw
    clear hno hbw
    by_cases hlt : n ≤ 120
    · by_cases hfit : (at_ : Int) + 9 + n ≤ m
      · have hRw := HR.out.mono HB.out (Nat.le_refl _)
        obtain ⟨a1, c1, hs1, hr1⟩ := slice_lh (P := Try.prog) hRw Try.und22 Try.size5 ((at_ : Int) + 8) ((at_ : Int) + 8 + n) (by omega) (by omega) (by omega)
        obtain ⟨a2, c2, hs2, hr2⟩ := slice_lh (P := Try.prog) hRw Try.und22 Try.size5 (at_ : Int) ((at_ : Int) + 9 + n) (by omega) (by omega) (by omega)
        have e1 : ((at_ : Int) + 8 + n).toNat - ((at_ : Int) + 8).toNat = n := by omega
        have e2 : ((at_ : Int) + 9 + n).toNat - (at_ : Int).toNat = n + 9 := by omega
        have e3 : ((at_ : Int) + 8).toNat = at_ + 8 := by omega
        rw [e1] at hr1
        rw [e2] at hr2
        simp only [e1] at hs1
        simp only [e2] at hs2
        simp only [e3, Int.toNat_natCast, Nat.mul_one, ← List.map_drop, ← List.map_take] at hr1 hr2
        have eL : (b.drop (at_ + 8)).take n = ((b.drop at_).drop 8).take n := by rw [List.drop_drop]
        rw [eL] at hr1
        have hLl : (((b.drop at_).drop 8).take n).length = n := by have := HBL.out; simp; omega
        have hLl' : (((b.drop at_).drop 8).take n).length ≤ 9223372036854775807 := by omega
        have hcv1 := run_conv (P := Try.prog) hr1 22 9 5 Try.underlying22 Try.underlying5 Try.underlying9
        have hcv2 := fun W (hb : Below wr.heap.size wr W) => run_conv (P := Try.prog) (hr2.mono hb (Nat.le_refl _)) 22 9 5 Try.underlying22 Try.underlying5 Try.underlying9
        have hCV2 := Lib.hid hcv2
        have hH : hits (b.drop at_) num n = (isLine (((b.drop at_).drop 8).take n) && (record (((b.drop at_).drop 8).take n) num == (b.drop at_).take (n + 9))) := rfl
        have HH := Lib.hid hH
        have HLL := Lib.hid hLl
        generalize hLn : ((b.drop at_).drop 8).take n = L at *
        clear hr1 hr2 hRw eL hH hcv2
        have hck := check_num (l := L) hnum
        by_cases hv : isLine L = true
        · rw [if_pos hv] at hck
          have HC := Lib.hid hck
          have HV := Lib.hid hv
          clear hck hv
          by_cases hr : (record L num == (b.drop at_).take (n + 9)) = true
          · have hcv := hCV2.out
            have HM := Lib.hid hr
            go_wp2_with (go_at_call 20; refine (RRecord_ok _ _ _ hLl' HC.out).mono ?_; rintro e w' ⟨rfl, hb⟩; have hcv' := hcv w' hb; simp only [Int.toNat_natCast])
            go_ret2
            have hf := first_hit (b := b.drop at_) (num := num) hn1 hlt (by have := HBL.out; simp; omega) (by rw [HH.out, HV.out, HM.out]; rfl)
            rw [hLn] at hf
            rw [hf]
            exact ⟨rfl, HB.out.trans (hb.mono HB.out.size)⟩
          · have hr' := Bool.eq_false_iff.2 hr
            have hcv := hCV2.out
            have HM := Lib.hid hr'
            clear hr
            go_wp2_with (go_at_call 20; refine (RRecord_ok _ _ _ hLl' HC.out).mono ?_; rintro e w' ⟨rfl, hb⟩; have hcv' := hcv w' hb; simp only [Int.toNat_natCast])
            go_roundw
            case rel =>
              refine ⟨n + 1, by omega, by omega, by go_num, fun k h1 h2 h3 => ?_, HB.out.trans (hb.mono HB.out.size)⟩
              by_cases hk : k = n
              · subst hk; rw [HH.out, HM.out, Bool.and_false]
              · exact HN.out k h1 (by omega) h3
            case measure => simp [intOf]; omega
        · rw [if_neg hv] at hck
          have HC := Lib.hid hck
          have HV := Lib.hid (Bool.eq_false_iff.2 hv)
          clear hck hv
          go_wp2_with (go_at_call 20; refine (RRecord_err _ _ _ _ hLl' HC.out rfl).mono ?_; rintro e w' ⟨rfl, rfl⟩)
          go_roundw
          case rel =>
            refine ⟨n + 1, by omega, by omega, by go_num, fun k h1 h2 h3 => ?_, HB.out⟩
            by_cases hk : k = n
            · subst hk; rw [HH.out, HV.out, Bool.false_and]
            · exact HN.out k h1 (by omega) h3
          case measure => simp [intOf]; omega
      · go_wp2
        go_ret2
        have hf := first_miss (b := b.drop at_) (num := num) (fun k h1 h2 h3 => HN.out k h1 (by have := HBL.out; simp at h3; omega) h3)
        rw [hf]
        exact ⟨rfl, HB.out⟩
    · obtain rfl : n = 121 := by omega
      go_wp2
      go_ret2
      have hf := first_miss (b := b.drop at_) (num := num) (fun k h1 h2 h3 => HN.out k h1 (by omega) h3)
      rw [hf]
      exact ⟨rfl, HB.out⟩
end Go.Proofs.Ytphalijdanmkeaa
