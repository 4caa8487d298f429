/- The walks of two laws: what Format hands back; sums and records. -/
import Derived.Test.YtphalijdanmkeaaP
namespace Go.Proofs.Ytphalijdanmkeaa
open Go.RowKit Go.Shelf J

/-- what every law does: it hands back true, and what was there lies as it lay -/
def Holds (w : World) (e : Ending) (w' : World) : Prop := e = .returned (.bool true) ∧ Below w.heap.size w w'

theorem kf1 (n : Int) (w : World) (h1 : 1 ≤ n) (h2 : n ≤ 250) : Calls Try.prog 14 #[.int .i64 n] w fun e w' => ∃ a m c, e = .returned (.tuple #[.slice a m c, .int .i64 0]) ∧ Row 1 w' a m c ((nulls (32 * n.toNat)).map byteV) ∧ Below w.heap.size w w' := by
  refine (Format_ok n w h1 h2).mono ?_
  rintro e w' ⟨a, c, rfl, ho, hb⟩
  obtain ⟨a2, c2, e, hr⟩ := own_row ho
  cases e
  exact ⟨a, _, c, rfl, hr, hb⟩
theorem kf2 (n : Int) (w : World) (h1 : 1 ≤ n) (h2 : n ≤ 250) : Calls Try.prog 15 #[.int .i64 n] w fun e w' => ∃ a m c, e = .returned (.tuple #[.slice a m c, .int .i64 0]) ∧ Row 1 w' a m c ((nulls (32 * n.toNat)).map byteV) ∧ Below w.heap.size w w' := by
  refine (RFormat_ok n w h1 h2).mono ?_
  rintro e w' ⟨a, c, rfl, ho, hb⟩
  obtain ⟨a2, c2, e, hr⟩ := own_row ho
  cases e
  exact ⟨a, _, c, rfl, hr, hb⟩

set_option maxRecDepth 100000 in
set_option maxHeartbeats 2000000 in
theorem JFormats_any (n : Int) (w : World) : Calls Try.prog 3 #[.int .i64 n] w (Holds w) := by
  by_cases h : (decide (1 ≤ n) && decide (n ≤ 250)) = true
  · have h1 : 1 ≤ n := by simp at h; omega
    have h2 : n ≤ 250 := by simp at h; omega
    have H1 := Lib.hid h1
    have H2 := Lib.hid h2
    clear h h1 h2
    go_enter Try.func3, Try.ntmps3
    go_upto_region 3 with (first
      | (go_at_call 14; refine (kf1 _ _ H1.out H2.out).mono ?_; rintro e w1 ⟨a1, m1, c1, rfl, hr1, hb1⟩)
      | (go_at_call 15; refine (kf2 _ _ H1.out H2.out).mono ?_; rintro e w2 ⟨a2, m2, c2, rfl, hr2, hb2⟩))
    have hcv1 := run_conv (P := Try.prog) (hr1.mono hb2 (Nat.le_refl _)) 22 9 5 Try.underlying22 Try.underlying5 Try.underlying9
    have hcv2 := run_conv (P := Try.prog) hr2 22 9 5 Try.underlying22 Try.underlying5 Try.underlying9
    have HB := Lib.hid (hb1.trans (hb2.mono hb1.size))
    clear hr1 hr2 hb1 hb2
    go_wp2_with (go_at_call 16; refine (known_any _).mono ?_; rintro e w3 ⟨rfl, hb3⟩)
    go_ret
    exact ⟨rfl, HB.out.trans (hb3.mono HB.out.size)⟩
  · have h' := Bool.eq_false_iff.2 h
    have H := Lib.hid h'
    clear h h'
    have c1 := fun w : World => run_convert_bytes_nil (P := Try.prog) w 22 5 Try.underlying22 Try.underlying5 0 0 9 Try.underlying9
    go_enter Try.func3, Try.ntmps3
    go_wp2_with (first
      | (go_at_call 14; refine (Format_err _ _ H.out).mono ?_; rintro e w1 ⟨rfl, rfl⟩)
      | (go_at_call 15; refine (RFormat_err _ _ H.out).mono ?_; rintro e w2 ⟨rfl, rfl⟩)
      | (go_at_call 16; refine (known_any _).mono ?_; rintro e w3 ⟨rfl, hb3⟩))
    go_ret
    exact ⟨rfl, hb3⟩

set_option maxRecDepth 100000 in
set_option maxHeartbeats 2000000 in
theorem JRecords_any (l : List UInt8) (n : Int) (w : World) (hl : l.length ≤ maxLen) : Calls Try.prog 4 #[strV l, .int .i64 n] w (Holds w) := by
  by_cases h : l.length ≤ 1000
  · have hl' : l.length ≤ 9223372036854775807 := by omega
    by_cases hc : J.check l n = 0
    · have HC := Lib.hid hc
      clear hc
      go_enter Try.func4, Try.ntmps4
      go_wp2_with (first
        | (go_at_call 17; refine (Sum_ok _ _ _ hl' HC.out).mono ?_; rintro e w1 ⟨rfl, rfl⟩)
        | (go_at_call 18; refine (Record_ok _ _ _ hl' HC.out).mono ?_; rintro e w2 ⟨rfl, hb2⟩)
        | (go_at_call 19; refine (RSum_ok _ _ _ hl' HC.out).mono ?_; rintro e w3 ⟨rfl, rfl⟩)
        | (go_at_call 20; refine (RRecord_ok _ _ _ hl' HC.out).mono ?_; rintro e w4 ⟨rfl, hb4⟩)
        | (go_at_call 16; refine (known_any _).mono ?_; rintro e w5 ⟨rfl, hb5⟩))
      go_ret
      exact ⟨rfl, hb2.trans ((hb4.mono hb2.size).trans (hb5.mono (Nat.le_trans hb2.size hb4.size)))⟩
    · have hne : (J.check l n != 0) = true := by simpa using hc
      have HC := Lib.hid hne
      clear hc hne
      go_enter Try.func4, Try.ntmps4
      go_wp2_with (first
        | (go_at_call 17; refine (Sum_err _ _ _ _ hl' rfl HC.out).mono ?_; rintro e w1 ⟨rfl, rfl⟩)
        | (go_at_call 18; refine (Record_err _ _ _ _ hl' rfl HC.out).mono ?_; rintro e w2 ⟨rfl, rfl⟩)
        | (go_at_call 19; refine (RSum_err _ _ _ _ hl' rfl HC.out).mono ?_; rintro e w3 ⟨rfl, rfl⟩)
        | (go_at_call 20; refine (RRecord_err _ _ _ _ hl' rfl HC.out).mono ?_; rintro e w4 ⟨rfl, rfl⟩)
        | (go_at_call 16; refine (known_any _).mono ?_; rintro e w5 ⟨rfl, hb5⟩))
      go_ret
      exact ⟨rfl, hb5⟩
  · have hb : ¬ (l.length : Int) ≤ 1000 := by omega
    have hb' : (1000 : Int) < l.length := by omega
    go_enter Try.func4, Try.ntmps4
    go_wp2_with (go_at_call 16; refine (known_any _).mono ?_; rintro e w5 ⟨rfl, hb5⟩)
    go_ret
    exact ⟨rfl, hb5⟩
theorem JRecords_str (s : ByteArray) (n : Int) (w : World) (hs : s.size ≤ maxLen) : Calls Try.prog 4 #[.string s, .int .i64 n] w (Holds w) :=
  JRecords_any s.data.toList n w (by rw [Array.length_toList]; exact hs)
end Go.Proofs.Ytphalijdanmkeaa
