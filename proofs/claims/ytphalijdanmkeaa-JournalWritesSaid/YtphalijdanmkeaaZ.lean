/- The law of writing: the walk. -/
import Derived.Test.YtphalijdanmkeaaY
namespace Go.Proofs.Ytphalijdanmkeaa
open Go.RowKit Go.Shelf J

set_option maxRecDepth 100000 in
set_option maxHeartbeats 4000000 in
theorem JWrites_any (a : Option Addr) (n c : Nat) (l : List (List UInt8)) (w : World) (h : Row 1 w a n c (l.map strV)) (hn : n ≤ maxLen) (hs : ∀ s ∈ l, s.length ≤ 9223372036854775807) : Calls Try.prog 6 #[.slice a n c] w (Holds w) := by
  obtain ⟨i0, hi, hz0, hz1, hz2⟩ := info_parts Try.info9
  have hln : l.length = n := by have := h.1; simpa using this
  have HS := Lib.hid hs
  have HR := Lib.hid h
  have hn' : (n : Int) ≤ 9223372036854775807 := by unfold maxLen at hn; omega
  clear hs h hn
  subst hln
  go_enter Try.func6, Try.ntmps6
  go_wp2
  go_loop [3, 4] (fun t3 t4 => ∃ (z : Int) (k : Nat), k ≤ l.length ∧ k ≤ 101 ∧ t3 = .int .i64 z ∧ t4 = .int .i64 k) (fun _ i => 200 - (intOf i).toNat)
  case atStart => exact ⟨0, 0, Nat.zero_le _, by omega, rfl, rfl⟩
  case round =>
    obtain ⟨z, k, hk, hk1, rfl, rfl⟩ := hrel
    by_cases hlt : k < l.length
    · by_cases h101 : k < 101
      · obtain ⟨b, o, rfl, hb, hc⟩ := HR.out.some (by omega)
        have c0 := str_at hc k hlt
        clear hc
        go_wp2
        go_round
        case rel => exact ⟨_, k + 1, by omega, by omega, rfl, by go_num⟩
        case measure => simp [intOf]; omega
      · obtain rfl : k = 101 := by omega
        have h100 : (100 : Int) < (l.length : Int) := by omega
        go_wp2_with (go_at_call 16; refine (known_any _).mono ?_; rintro e w5 ⟨rfl, hb5⟩)
        go_ret
        exact ⟨rfl, hb5⟩
    · obtain rfl : k = l.length := by omega
      by_cases h100 : (100 : Int) < (l.length : Int)
      · go_wp2_with (go_at_call 16; refine (known_any _).mono ?_; rintro e w5 ⟨rfl, hb5⟩)
        go_ret
        exact ⟨rfl, hb5⟩
      · by_cases hz : (10000 : Int) < z
        · go_wp2_with (go_at_call 16; refine (known_any _).mono ?_; rintro e w5 ⟨rfl, hb5⟩)
          go_ret
          exact ⟨rfl, hb5⟩
        · have hl : l.length ≤ 140737488355328 := by omega
          go_wp2_with (first
            | (at_builtin; refine wpList_append_row rfl (.tmp 35) (.tmp 36) 34 rfl w.heap.size 9 i0 (.string ⟨#[]⟩) 1 16 Try.underlying34 hi hz0 hz1 hz2 rfl (by decide) (.slice (some ⟨w.heap.size, 0, none⟩) 0 0) 0 [] rfl (World.ownsRow_made w #[] 0 (Nat.le_refl _) (by decide) rfl) a l.length c (l.map strV) rfl (HR.out.mono ((Below.refl _ w).alloc (Nat.le_refl _) _) (Nat.le_refl _)) (strs_one _) (by unfold maxLen; omega) (by omega) (by simp) ?_; intro a1 c1 w1 ho1 hg1; have hb1 : Below w.heap.size w w1 := ((Below.refl _ w).alloc (Nat.le_refl _) _).grown hg1 (by simp) (fun k e => by cases e; exact Nat.le_refl _); have R1 : Hid (Row 1 w1 a1 l.length c1 (l.map strV)) := Lib.hid (by simpa using row_of_own ho1); clear ho1 hg1)
            | (go_at_call 32; refine (Write_any _ _ _ l _ (by simpa using R1.out) (by omega) HS.out).mono ?_; rintro e w2 ⟨rfl, hb2⟩)
            | (go_at_call 33; refine (RWrite_any _ _ _ l _ (HR.out.mono (ext hb1 hb2) (Nat.le_refl _)) hl HS.out).mono ?_; rintro e w3 ⟨rfl, hb3⟩)
            | (go_at_call 29; refine (Lines_any _ _ _ _ _ _ l l _ (by omega) hl (by simpa using R1.out.mono (ext hb2 hb3) (Nat.le_refl _)) (HR.out.mono (ext hb1 (ext hb2 hb3)) (Nat.le_refl _))).mono ?_; rintro e w4 ⟨rfl, hb4⟩; rw [beq_self_eq_true])
            | (go_at_call 16; refine (known_any _).mono ?_; rintro e w5 ⟨rfl, hb5⟩))
          go_ret
          exact ⟨rfl, ext hb1 (ext hb2 (ext hb3 (ext hb4 hb5)))⟩
end Go.Proofs.Ytphalijdanmkeaa
