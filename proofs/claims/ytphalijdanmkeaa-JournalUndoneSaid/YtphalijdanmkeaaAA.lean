/- The reference's Append. -/
import Derived.Test.YtphalijdanmkeaaU
namespace Go.Proofs.Ytphalijdanmkeaa
open Go.RowKit Go.Shelf J

set_option maxRecDepth 100000 in
set_option maxHeartbeats 2000000 in
theorem RAppend_any (a : Option Addr) (m c : Nat) (b line : List UInt8) (w : World) (hm : m ≤ 140737488355328) (hl : line.length ≤ 9223372036854775807) (h : Row 1 w a m c (b.map byteV)) :
    Calls Try.prog 38 #[.slice a m c, strV line] w (RetWrE w (appendJ b line).1 (appendJ b line).2) := by
  have hbl : b.length = m := by simpa using h.1
  have HR := Lib.hid h
  have HBL := Lib.hid hbl
  clear h
  by_cases hc : checkD b = 0
  · have hcl := checkD_len (b := b) (by omega)
    have hlen := read_len b
    have hgd := read_good b
    have hm8 : m ≤ 8000 := by omega
    by_cases hv : isLine line = true
    · have hli : 1 ≤ line.length ∧ line.length ≤ 120 := by simp only [isLine, Bool.and_eq_true, decide_eq_true_eq] at hv; exact hv.1
      have hap0 : ((read b).length = 60 ∨ b.length < good (read b) + (line.length + 9)) → appendJ b line = ([], 8) := by
        intro hx
        have : room b.length (read b).length (good (read b)) < line.length := by
          simp only [room]
          split <;> omega
        simp [appendJ, hc, hv, this]
      have hap1 : ¬ ((read b).length = 60 ∨ b.length < good (read b) + (line.length + 9)) → appendJ b line = (toD b (b.take (good (read b)) ++ record line (read b).length), 0) := by
        intro hx
        have : ¬ room b.length (read b).length (good (read b)) < line.length := by
          simp only [room]
          split <;> omega
        simp [appendJ, hc, hv, this]
      have H0 := Lib.hid hap0
      have H1 := Lib.hid hap1
      have HC := Lib.hid hc
      have HV := Lib.hid hv
      have HL := Lib.hid hcl
      clear hap0 hap1 hc hv hcl
      by_cases h60 : (read b).length = 60
      · have hb60 : (((read b).length : Int) == 60) = true := by simp [h60]
        have H60 := Lib.hid h60
        have hap := Lib.hid (H0.out (.inl h60))
        clear h60
        go_enter Try.func38, Try.ntmps38
        go_wp2_with (first
          | (go_at_call 30; refine (RCheck_any _ _ _ b _ hm HR.out).mono ?_; rintro e w1 ⟨rfl, hb1⟩; rw [HC.out])
          | (go_at_call 52; refine (IsLine_any _ _ hl).mono ?_; rintro e w2 ⟨rfl, rfl⟩; rw [HV.out])
          | (go_at_call 26; refine (RRecover_ok _ _ _ b _ hm8 (HR.out.mono hb1 (Nat.le_refl _))).mono ?_; rintro e w3 ⟨a3, c3, rfl, ho3, hb3⟩))
        go_ret2
        rw [hap.out]
        exact RetWrE.none rfl rfl (hb1.trans (hb3.mono hb1.size))
      · have hb60 : (((read b).length : Int) == 60) = false := by simp; omega
        have hck := check_num (l := line) (num := (read b).length) (by omega)
        rw [HV.out, if_pos rfl] at hck
        have HCK := Lib.hid hck
        clear hck
        have hrl := record_length line (read b).length
        by_cases hfit : b.length < good (read b) + (line.length + 9)
        · have hap := Lib.hid (H0.out (.inr hfit))
          have hfm : (m : Int) < (good (read b) : Int) + ((line.length : Int) + 9) := by omega
          go_enter Try.func38, Try.ntmps38
          go_wp2_with (first
            | (go_at_call 30; refine (RCheck_any _ _ _ b _ hm HR.out).mono ?_; rintro e w1 ⟨rfl, hb1⟩; rw [HC.out])
            | (go_at_call 52; refine (IsLine_any _ _ hl).mono ?_; rintro e w2 ⟨rfl, rfl⟩; rw [HV.out])
            | (go_at_call 26; refine (RRecover_ok _ _ _ b _ hm8 (HR.out.mono hb1 (Nat.le_refl _))).mono ?_; rintro e w3 ⟨a3, c3, rfl, ho3, hb3⟩)
            | (go_at_call 20; refine (RRecord_ok _ _ _ hl HCK.out).mono ?_; rintro e w4 ⟨rfl, hb4⟩; simp only [Int.toNat_natCast]))
          go_ret2
          rw [hap.out]
          exact RetWrE.none rfl rfl (hb1.trans ((hb3.mono hb1.size).trans (hb4.mono (Nat.le_trans hb1.size hb3.size))))
        · have hap := Lib.hid (H1.out (by omega))
          have hfm : ¬ (m : Int) < (good (read b) : Int) + ((line.length : Int) + 9) := by omega
          have hg' : good (read b) ≤ m := by omega
          have hN32 : m = 32 * (m / 32) := by have := HL.out; omega
          have hN250 : m / 32 ≤ 250 := by have := HL.out; omega
          have hft : (b.take (good (read b)) ++ record line (read b).length).length ≤ m := by rw [List.length_append, hrl, List.length_take]; omega
          have HFT := Lib.hid hft
          have HN32 := Lib.hid hN32
          have hcs : ¬ 9223372036854775807 < good (read b) + (line.length + 9) := by omega
          clear hft hN32
          go_enter Try.func38, Try.ntmps38
          go_upto_region 12 with (first
            | (go_at_call 30; refine (RCheck_any _ _ _ b _ hm HR.out).mono ?_; rintro e w1 ⟨rfl, hb1⟩; rw [HC.out])
            | (go_at_call 52; refine (IsLine_any _ _ hl).mono ?_; rintro e w2 ⟨rfl, rfl⟩; rw [HV.out])
            | (go_at_call 26; refine (RRecover_ok _ _ _ b _ hm8 (HR.out.mono hb1 (Nat.le_refl _))).mono ?_; rintro e w3 ⟨a3, c3, rfl, ho3, hb3⟩)
            | (go_at_call 20; refine (RRecord_ok _ _ _ hl HCK.out).mono ?_; rintro e w4 ⟨rfl, hb4⟩; simp only [Int.toNat_natCast]))
          have hbw := hb1.trans ((hb3.mono hb1.size).trans (hb4.mono (Nat.le_trans hb1.size hb3.size)))
          have hRw := HR.out.mono hbw (Nat.le_refl _)
          obtain ⟨a4, c4, hsl, hR4⟩ := slice_h (P := Try.prog) hRw Try.und22 Try.size5 (good (read b) : Int) (by omega) (by omega)
          simp only [Int.toNat_natCast, Nat.mul_one, ← List.map_take] at hsl hR4
          have hcv := run_conv (P := Try.prog) hR4 22 9 5 Try.underlying22 Try.underlying5 Try.underlying9
          clear hR4
          have HRW := Lib.hid hRw
          clear hRw
          go_wp2_with (first
            | (go_at_call 60; refine (Blocks_any _ _ _ _ _ b _ _ (m / 32) hN250 HN32.out (HRW.out.mono hb5 (Nat.le_refl _)) HR5.out).mono ?_; rintro e w6 ⟨a6, c6, xs6, rfl, ho6, hw6, hb6⟩)
            | (go_at_call 61; refine (With_any _ _ _ HFT.out hm8).mono ?_; rintro e w5 ⟨a5, c5, rfl, ho5, hb5⟩; have HR5 := Lib.hid (row_of_own ho5); clear ho5))
          go_ret2
          rw [hap.out, ← HBL.out]
          have hb36 := hb5.trans (hb6.mono hb5.size)
          rw [← HBL.out] at ho6 hw6
          exact RetWr.err (w1 := w3) ho6 hw6 (Nat.le_trans hbw.size hb5.size) (hbw.trans (hb36.mono hbw.size)) 0
    · have hv' := Bool.eq_false_iff.2 hv
      have hap : appendJ b line = ([], 2) := by simp [appendJ, hc, hv']
      have HAP := Lib.hid hap
      have HC := Lib.hid hc
      have HV := Lib.hid hv'
      clear hap hc hv hv' hcl
      go_enter Try.func38, Try.ntmps38
      go_wp2_with (first
        | (go_at_call 30; refine (RCheck_any _ _ _ b _ hm HR.out).mono ?_; rintro e w1 ⟨rfl, hb1⟩; rw [HC.out])
        | (go_at_call 52; refine (IsLine_any _ _ hl).mono ?_; rintro e w2 ⟨rfl, rfl⟩; rw [HV.out]))
      go_ret2
      rw [HAP.out]
      exact RetWrE.none rfl rfl hb1
  · have hne : (checkD b != 0) = true := by simpa using hc
    have hap : appendJ b line = ([], checkD b) := by simp [appendJ, hc]
    have HAP := Lib.hid hap
    clear hap hc
    go_enter Try.func38, Try.ntmps38
    go_wp2_with (go_at_call 30; refine (RCheck_any _ _ _ b _ hm HR.out).mono ?_; rintro e w1 ⟨rfl, hb1⟩)
    go_ret2
    rw [HAP.out]
    exact RetWrE.none rfl rfl hb1
end Go.Proofs.Ytphalijdanmkeaa
