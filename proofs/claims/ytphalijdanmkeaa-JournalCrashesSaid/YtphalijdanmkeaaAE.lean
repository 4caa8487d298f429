/- The law of appending: the walk. -/
import Derived.Test.YtphalijdanmkeaaAD
import Derived.Test.YtphalijdanmkeaaQ
namespace Go.Proofs.Ytphalijdanmkeaa
open Go.RowKit Go.Shelf J

theorem appendJ_len (b line : List UInt8) : (appendJ b line).1.length ≤ b.length := by
  simp only [appendJ]
  split
  · simp
  · split
    · simp
    · split
      · simp
      · exact toD_len _ _
theorem undoJ_len (b : List UInt8) (many : Int) : (undoJ b many).1.length ≤ b.length := by
  simp only [undoJ]
  split
  · simp
  · split
    · rw [List.length_reverse]; exact toD_len _ _
    · simp

set_option maxRecDepth 100000 in
set_option maxHeartbeats 4000000 in
theorem JAppends_any (a : Option Addr) (m c : Nat) (b line : List UInt8) (many : Int) (w : World) (h : Row 1 w a m c (b.map byteV)) (hm0 : m ≤ maxLen) (hl0 : line.length ≤ maxLen) (hmw : (Lit.int .i64 many).wf = true) :
    Calls Try.prog 8 #[.slice a m c, strV line, .int .i64 many] w (Holds w) := by
  have HR := Lib.hid h
  have hbl : b.length = m := by simpa using h.1
  have HMW := Lib.hid hmw
  clear h hmw
  by_cases h9 : (9000 : Int) < (m : Int)
  · go_enter Try.func8, Try.ntmps8
    go_wp2_with (go_at_call 16; refine (known_any _).mono ?_; rintro e w5 ⟨rfl, hb5⟩)
    go_ret
    exact ⟨rfl, hb5⟩
  · by_cases h1 : (1000 : Int) < (line.length : Int)
    · go_enter Try.func8, Try.ntmps8
      go_wp2_with (go_at_call 16; refine (known_any _).mono ?_; rintro e w5 ⟨rfl, hb5⟩)
      go_ret
      exact ⟨rfl, hb5⟩
    · have hm : m ≤ 140737488355328 := by omega
      have hli : line.length ≤ 9223372036854775807 := by omega
      have hl1 := appendJ_len b line
      have hl2 := undoJ_len b many
      have hL1 : (appendJ b line).1.length ≤ 140737488355328 := by omega
      have hL2 : (undoJ b many).1.length ≤ 140737488355328 := by omega
      clear hl1 hl2
      go_enter Try.func8, Try.ntmps8
      go_upto_region 8 with (first
        | (go_at_call 21; refine (own_any _ _ _ b _ HR.out hm).mono ?_; rintro e w1 ⟨a1, c1, rfl, ho1, hb1⟩; have R1 := Lib.hid (row_of_own ho1); clear ho1)
        | (go_at_call 36; refine (Append_any _ _ _ b line _ hm hli R1.out).mono ?_; intro e w2 h2; obtain ⟨a2, c2, rfl, hr2, hb2⟩ := h2.toP; have R2 := Lib.hid hr2; clear h2 hr2)
        | (go_at_call 37; refine (Undo_any _ _ _ b many _ hm HMW.out (R1.out.mono hb2 (Nat.le_refl _))).mono ?_; intro e w3 h3; obtain ⟨a3, c3, rfl, hr3, hb3⟩ := h3.toP; have R3 := Lib.hid hr3; clear h3 hr3)
        | (go_at_call 38; refine (RAppend_any _ _ _ b line _ hm hli (HR.out.mono (ext hb1 (ext hb2 hb3)) (Nat.le_refl _))).mono ?_; intro e w4 h4; obtain ⟨a4, c4, rfl, hr4, hb4⟩ := h4.toP; have R4 := Lib.hid hr4; clear h4 hr4)
        | (go_at_call 39; refine (RUndo_any _ _ _ b many _ hm HMW.out (HR.out.mono (ext hb1 (ext hb2 (ext hb3 hb4))) (Nat.le_refl _))).mono ?_; intro e w5 h5; obtain ⟨a5, c5, rfl, hr5, hb5⟩ := h5.toP; have R5 := Lib.hid hr5; clear h5 hr5))
      have e45 := hb5
      have e35 := ext hb4 hb5
      have e25 := ext hb3 e35
      have e15 := ext hb2 e25
      have e05 := ext hb1 e15
      have hcv1 := run_conv (P := Try.prog) (R1.out.mono e15 (Nat.le_refl _)) 22 9 5 Try.underlying22 Try.underlying5 Try.underlying9
      have hcv2 := run_conv (P := Try.prog) (HR.out.mono e05 (Nat.le_refl _)) 22 9 5 Try.underlying22 Try.underlying5 Try.underlying9
      have E := Lib.hid (And.intro e25 (And.intro e35 (And.intro e45 e05)))
      clear hb1 hb2 hb3 hb4 hb5 e25 e35 e45 e15 e05
      go_wp2_with (first
        | (go_at_call 31; have hb6' := hb6; refine (Same_any _ _ _ _ _ _ _ hL2 hL2 (R3.out.mono (ext E.out.2.1 hb6) (Nat.le_refl _)) (R5.out.mono hb6 (Nat.le_refl _))).mono ?_; rintro e w7 ⟨rfl, hb7⟩; rw [beq_self_eq_true])
        | (go_at_call 31; refine (Same_any _ _ _ _ _ _ _ hL1 hL1 (R2.out.mono E.out.1 (Nat.le_refl _)) (R4.out.mono E.out.2.2.1 (Nat.le_refl _))).mono ?_; rintro e w6 ⟨rfl, hb6⟩; rw [beq_self_eq_true])
        | (go_at_call 16; refine (known_any _).mono ?_; rintro e w12 ⟨rfl, hb12⟩))
      go_ret
      exact ⟨rfl, ext E.out.2.2.2 (ext hb6 (ext hb7 hb12))⟩

theorem JAppends_str (a : Option Addr) (m c : Nat) (b : List UInt8) (s : ByteArray) (many : Int) (w : World) (h : Row 1 w a m c (b.map byteV)) (hm0 : m ≤ maxLen) (hl0 : s.size ≤ maxLen) (hmw : (Lit.int .i64 many).wf = true) :
    Calls Try.prog 8 #[.slice a m c, .string s, .int .i64 many] w (Holds w) :=
  JAppends_any a m c b s.data.toList many w h hm0 (by rw [Array.length_toList]; exact hl0) hmw
end Go.Proofs.Ytphalijdanmkeaa
