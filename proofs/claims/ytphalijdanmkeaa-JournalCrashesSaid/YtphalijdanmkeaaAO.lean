/- The law of crashes: the walk. -/
import Derived.Test.YtphalijdanmkeaaAN
import Derived.Test.YtphalijdanmkeaaAE
import Derived.Test.YtphalijdanmkeaaEmp
import Derived.Deep.Cut
import Derived.Deep.CutRange
import Derived.Deep.RegionHeld3
namespace Go.Proofs.Ytphalijdanmkeaa
open Go.RowKit Go.Shelf J

theorem alloc_then {W W' : World} {o : Obj} (h : Below (W.alloc o).heap.size (W.alloc o) W') : Below W.heap.size W W' := ((Below.refl _ W).alloc (Nat.le_refl _) o).trans (h.mono (by simp))

theorem applyJ_len (b : List UInt8) (l : List (Int × List UInt8)) : (applyJ b l).1.length ≤ b.length := by
  simp only [applyJ]
  split
  · simp
  · rename_i h
    have h' : checkW b l = 0 := by omega
    rw [applyW_length _ _ (checkW_ok h').2]
    exact Nat.le_refl _
theorem crashJ_len (b : List UInt8) (l : List (Int × List UInt8)) (ks : List Bool) (torn : Int) : (crashJ b l ks torn).1.length ≤ b.length := by
  simp only [crashJ]
  split
  · simp
  · rename_i h
    have h' : checkW b l = 0 := by omega
    split
    · rename_i ht
      rw [tornW_length (fun x hx => (checkW_ok h').2 x (kept_sub _ _ x hx)) (by omega)]
      exact Nat.le_refl _
    · simp

theorem keepS {W1 w' : World} {p : Addr} {v : Value} (hc : W1.cell? p = some v) (hlt : p.block < W1.heap.size) (hb : Below W1.heap.size W1 w') : Below W1.heap.size W1 w' ∧ w'.cell? p = some v := ⟨hb, (hb.cell hlt).trans hc⟩

set_option maxRecDepth 100000 in
set_option maxHeartbeats 4000000 in
theorem JCrashes_any (a a2 a3 : Option Addr) (m c c2 n3 c3 : Nat) (b : List UInt8) (l : List (Int × List UInt8)) (ks : List Bool) (torn : Int) (w : World) (hb : Row 1 w a m c (b.map byteV)) (hm0 : m ≤ maxLen) (h : Writes w a2 c2 l) (hl0 : l.length ≤ maxLen) (hs : ∀ x ∈ l, x.2.length ≤ 140737488355328)
    (h3 : Row 1 w a3 n3 c3 (ks.map boolV)) (hn0 : n3 ≤ maxLen) :
    Calls Try.prog 9 #[.slice a m c, .slice a2 l.length c2, .agg #[.slice a3 n3 c3, .int .i64 torn]] w (Holds w) := by
  obtain ⟨i4, hi4, hz4, hz5, hz6⟩ := info_parts Try.info4
  have HI := Lib.hid hi4
  have HZ := Lib.hid hz4
  have HZ5 := Lib.hid hz5
  have HZ6 := Lib.hid hz6
  clear hi4 hz4 hz5 hz6
  have HR := Lib.hid hb
  have HWR := Lib.hid h
  have HK3 := Lib.hid h3
  have HS := Lib.hid hs
  have hbl : b.length = m := by simpa using hb.1
  have hkl : ks.length = n3 := by simpa using h3.1
  clear hb h h3 hs
  have HB0 := Lib.hid ((Below.refl _ w).alloc (Nat.le_refl _) (.cells #[.slice a3 n3 c3, .int .i64 torn] 56))
  go_enter Try.func9, Try.ntmps9
  go_wp2
  go_loop [7, 8] (fun s i => ∃ (k : Nat) (z : Int), i = .int .i64 k ∧ s = .int .i64 z ∧ k ≤ 301) (fun _ i => 301 - (intOf i).toNat)
  case atStart => exact ⟨0, 0, rfl, rfl, by omega⟩
  case round =>
    obtain ⟨k, z, rfl, rfl, hk⟩ := hrel
    by_cases h1 : k < l.length
    · by_cases h2 : k < 301
      · obtain ⟨bb, oo, rfl, hbb, hcc⟩ := HWR.out.at (by omega)
        obtain ⟨x1, a5, c5, x2, _⟩ := hcc k h1
        have y2 := (HB0.out.cell (p := ⟨bb, oo + k * 2 + 1, none⟩) hbb).trans x2
        clear hcc
        go_wp2
        go_round
        case rel => exact ⟨k + 1, _, by go_num, rfl, by omega⟩
        case measure => simp [intOf]; omega
      · obtain rfl : k = 301 := by omega
        have h300 : (300 : Int) < (l.length : Int) := by omega
        by_cases h9 : (9000 : Int) < (m : Int)
        · go_wp2_with (go_at_call 16; refine (known_any _).mono ?_; rintro e w5 ⟨rfl, hb5⟩)
          go_ret
          exact ⟨rfl, ext HB0.out hb5⟩
        · go_wp2_with (go_at_call 16; refine (known_any _).mono ?_; rintro e w5 ⟨rfl, hb5⟩)
          go_ret
          exact ⟨rfl, ext HB0.out hb5⟩
    · by_cases h9 : (9000 : Int) < (m : Int)
      · go_wp2_with (go_at_call 16; refine (known_any _).mono ?_; rintro e w5 ⟨rfl, hb5⟩)
        go_ret
        exact ⟨rfl, ext HB0.out hb5⟩
      · by_cases h300 : (300 : Int) < (l.length : Int)
        · go_wp2_with (go_at_call 16; refine (known_any _).mono ?_; rintro e w5 ⟨rfl, hb5⟩)
          go_ret
          exact ⟨rfl, ext HB0.out hb5⟩
        · by_cases hz : (20000 : Int) < z
          · go_wp2_with (go_at_call 16; refine (known_any _).mono ?_; rintro e w5 ⟨rfl, hb5⟩)
            go_ret
            exact ⟨rfl, ext HB0.out hb5⟩
          · by_cases h400 : (400 : Int) < (n3 : Int)
            · go_wp2_with (go_at_call 16; refine (known_any _).mono ?_; rintro e w5 ⟨rfl, hb5⟩)
              go_ret
              exact ⟨rfl, ext HB0.out hb5⟩
            · have hm : m ≤ 140737488355328 := by omega
              have hl : l.length ≤ 1000000 := by omega
              have hn3 : n3 ≤ 140737488355328 := by omega
              have hz' : ¬ z > 20000 := by omega
              have hc0 : (w.alloc (.cells #[.slice a3 n3 c3, .int .i64 torn] 56)).cell? ⟨w.heap.size, 0, none⟩ = some (.slice a3 n3 c3) := by simp
              have hc1 : (w.alloc (.cells #[.slice a3 n3 c3, .int .i64 torn] 56)).cell? ⟨w.heap.size, 1, none⟩ = some (.int .i64 torn) := by simp
              have hz1 : (w.alloc (.cells #[.slice a3 n3 c3, .int .i64 torn] 56)).heap.size = w.heap.size + 1 := by simp
              go_upto_region 8 with fail
              generalize hW1 : w.alloc (.cells #[.slice a3 n3 c3, .int .i64 torn] 56) = W1 at *
              have R0 := Lib.hid (HR.out.mono HB0.out (Nat.le_refl _))
              have WR0 := Lib.hid (HWR.out.mono HB0.out (Nat.le_refl _))
              have K0 := Lib.hid (HK3.out.mono HB0.out (Nat.le_refl _))
              have hlt0 : (⟨w.heap.size, 0, none⟩ : Addr).block < W1.heap.size := by rw [hz1]; exact Nat.lt_succ_self _
              have hlt1 : (⟨w.heap.size, 1, none⟩ : Addr).block < W1.heap.size := by rw [hz1]; exact Nat.lt_succ_self _
              have HL1 := Lib.hid hlt1
              clear hz1 hlt1
              have HC0 := Lib.hid hc0
              have HC1 := Lib.hid hc1
              clear hc1
              go_cut [9, 10, 11] from 58 to 65 (fun v9 v10 v11 wc => ∃ (a9 : Option Addr) (c9 : Nat) (a10 : Option Addr) (c10 : Nat) (a11 : Option Addr) (c11 : Nat), v9 = .slice a9 m c9 ∧ v10 = .slice a10 l.length c10 ∧ v11 = .slice a11 n3 c11 ∧
                Row 1 wc a9 m c9 (b.map byteV) ∧ Writes wc a10 c10 l ∧ Row 1 wc a11 n3 c11 (ks.map boolV) ∧ Below W1.heap.size W1 wc)
              case first =>
                go_region_held3 (fun w' => Below W1.heap.size W1 w' ∧ w'.cell? ⟨w.heap.size, 0, none⟩ = some (.slice a3 n3 c3)) (first
                  | (refine keepS HC0.out hlt0 ?_; first
                    | exact (Below.refl _ _).drew
                    | exact Below.alloc (And.left (by assumption)) (Below.size (And.left (by assumption))) _
                    | exact Below.trans (And.left (by assumption)) (Below.mono hb3 (Below.size (And.left (by assumption))))
                    | exact Below.trans (And.left (by assumption)) (Below.mono hb2 (Below.size (And.left (by assumption))))
                    | exact Below.trans (And.left (by assumption)) (Below.mono hb1 (Below.size (And.left (by assumption))))
                    | fail)
                  | fail) (first
                  | (go_at_call 21; refine (own_any _ _ _ b _ (R0.out.mono (by first | assumption | exact And.left (by assumption)) (Nat.le_refl _)) hm).mono ?_; rintro e w1 ⟨a1, c1, rfl, ho1, hb1⟩; have R1 := Lib.hid (row_of_own ho1); clear ho1)
                  | (go_at_call 40; refine (Copy_any _ _ l _ hl HS.out (WR0.out.mono (by first | assumption | exact And.left (by assumption)) (Nat.le_refl _))).mono ?_; rintro e w2 ⟨a2', c2', rfl, ho2, hb2⟩; have R2 := Lib.hid ho2; clear ho2)
                  | (refine step_append_empty (by rfl) (.tmp 62) (.tmp 64) 54 (by rfl) 4 i4 (.bool false) 1 1 Try.underlying54 HI.out HZ.out HZ5.out HZ6.out _ (by rfl) a3 n3 c3 (ks.map boolV) (by rfl) (K0.out.mono (And.left (by assumption)) (Nat.le_refl _)) (by unfold maxLen; omega) (by omega) ?_; intro a11 c11 w11 ho11 hb3; have R3 := Lib.hid ho11; clear ho11)
                  | fail)
                all_goals (go_wp2_with fail)
                all_goals go_meet
                · exact ⟨a1, c1, a2', c2', a11, c11, rfl, rfl, rfl, (R1.out.mono hb2 (Nat.le_refl _)).mono (alloc_then hb3) (Nat.le_refl _), R2.out.mono (alloc_then hb3) (Nat.le_refl _), R3.out, And.left (by assumption)⟩
                · exact ⟨a1, c1, a2', c2', a11, c11, rfl, rfl, rfl, (R1.out.mono (alloc_then hb2) (Nat.le_refl _)).mono hb3 (Nat.le_refl _), R2.out.mono hb3 (Nat.le_refl _), R3.out, And.left (by assumption)⟩
                · exact ⟨a1, c1, a2', c2', a11, c11, rfl, rfl, rfl, (R1.out.mono hb2 (Nat.le_refl _)).mono hb3 (Nat.le_refl _), R2.out.mono hb3 (Nat.le_refl _), R3.out, And.left (by assumption)⟩
              case rest =>
                obtain ⟨a9, c9, a10, c10, a11, c11, rfl, rfl, rfl, r9, r10, r11, hbc⟩ := hcut
                have R9 := Lib.hid r9
                have R10 := Lib.hid r10
                have R11 := Lib.hid r11
                have HBC := Lib.hid hbc
                have hkl2 := Lib.hid hkl
                clear r9 r10 r11 hbc hc0
                have HLA := Lib.hid (applyJ_len b l)
                have HLC := Lib.hid (crashJ_len b l ks torn)
                go_wp2_with (first
                  | (go_at_call 41; refine (Apply_any a9 a10 m c9 c10 b l _ hm (by omega) R9.out R10.out).mono ?_; rintro e w4 ⟨a4, c4, rfl, ho4, hb4⟩; have R4 := Lib.hid (row_of_own ho4); clear ho4; have P4 := HBC.out.trans (hb4.mono HBC.out.size); have f1 := (P4.cell HL1.out).trans HC1.out)
                  | (go_at_call 42; refine (Crash_any a9 a10 a11 m c9 c10 n3 c11 b l ks torn _ hm hl (by omega) (R9.out.mono hb4 (Nat.le_refl _)) (R10.out.mono hb4 (Nat.le_refl _)) (R11.out.mono hb4 (Nat.le_refl _))).mono ?_; rintro e w5 ⟨a5, c5, rfl, ho5, hb5⟩; have R5 := Lib.hid (row_of_own ho5); clear ho5; have P5 := P4.trans (hb5.mono P4.size))
                  | (go_at_call 43; refine (RApply_any a a2 m c c2 b l _ hm (by omega) (R0.out.mono P5 (Nat.le_refl _)) (WR0.out.mono P5 (Nat.le_refl _))).mono ?_; rintro e w6 ⟨a6, c6, rfl, ho6, hb6⟩; have R6 := Lib.hid (row_of_own ho6); clear ho6; have P6 := P5.trans (hb6.mono P5.size); have g0 := (P6.cell hlt0).trans HC0.out; have g1 := (P6.cell HL1.out).trans HC1.out)
                  | (go_at_call 44; refine (RCrash_any a a2 a3 m c c2 n3 c3 b l ks torn _ hm hl (by omega) (R0.out.mono P6 (Nat.le_refl _)) (WR0.out.mono P6 (Nat.le_refl _)) (K0.out.mono P6 (Nat.le_refl _))).mono ?_; rintro e w7 ⟨a7, c7, rfl, ho7, hb7⟩; have R7 := Lib.hid (row_of_own ho7); clear ho7; have P7 := P6.trans (hb7.mono P6.size))
                  | fail)
                have HP7 := Lib.hid P7
                have HE := Lib.hid (And.intro hb4 (And.intro hb5 (And.intro hb6 hb7)))
                clear P4 P5 P6 P7 f1 g0 g1 hb4 hb5 hb6 hb7
                go_loopw [20] (fun i wr => ∃ j : Nat, j ≤ n3 ∧ i = .int .i64 j ∧ Below w7.heap.size w7 wr) (fun i _ => n3 - (intOf i).toNat)
                case atStart => exact ⟨0, Nat.zero_le _, rfl, Below.refl _ _⟩
                case round =>
                  obtain ⟨j, hj, rfl, hbw⟩ := hrel
                  have HBW := Lib.hid hbw
                  clear hbw
                  have P8 := HP7.out.trans (HBW.out.mono HP7.out.size)
                  by_cases hlt : j < n3
                  · have e47 := ext HE.out.1 (ext HE.out.2.1 (ext HE.out.2.2.1 (ext HE.out.2.2.2 HBW.out)))
                    obtain ⟨b11, o11, rfl, hb11, hc11⟩ := (R11.out.mono e47 (Nat.le_refl _)).some (by omega)
                    obtain ⟨b3, o3, rfl, hb3, hc3⟩ := (K0.out.mono P8 (Nat.le_refl _)).some (by omega)
                    have z1 := bool_at hc11 j (by rw [hkl2.out]; exact hlt)
                    have z2 := bool_at hc3 j (by rw [hkl2.out]; exact hlt)
                    have z0 := (P8.cell hlt0).trans HC0.out
                    clear hc11 hc3 P8 e47
                    go_wp2
                    go_quiet (fail)
                    go_wp2
                    go_roundw
                    case rel => exact ⟨j + 1, by omega, by go_num, HBW.out.trans (below_drewN _ _ _)⟩
                    case measure => simp [intOf]; omega
                  · obtain rfl : j = n3 := by omega
                    have e78 := HBW.out
                    have e68 := ext HE.out.2.2.2 e78
                    have e58 := ext HE.out.2.2.1 e68
                    have e48 := ext HE.out.2.1 e58
                    have ec8 := ext HE.out.1 e48
                    have hcv1 := run_conv (P := Try.prog) (R9.out.mono ec8 (Nat.le_refl _)) 22 9 5 Try.underlying22 Try.underlying5 Try.underlying9
                    have hcv2 := run_conv (P := Try.prog) (R0.out.mono P8 (Nat.le_refl _)) 22 9 5 Try.underlying22 Try.underlying5 Try.underlying9
                    have E := Lib.hid (And.intro e48 (And.intro e58 (And.intro e68 (And.intro e78 (And.intro ec8 P8)))))
                    clear e78 e68 e58 e48 ec8 P8
                    go_wp2_with (first
                      | (go_at_call 31; refine (Same_any _ _ _ _ l l _ (by omega) (by omega) (R10.out.mono E.out.2.2.2.2.1 (Nat.le_refl _)) (WR0.out.mono E.out.2.2.2.2.2 (Nat.le_refl _))).mono ?_; rintro e w9 ⟨rfl, hb9⟩; rw [beq_self_eq_true]
                         have k4 := run_conv (P := Try.prog) (R4.out.mono (ext E.out.1 hb9) (Nat.le_refl _)) 22 9 5 Try.underlying22 Try.underlying5 Try.underlying9
                         have k5 := run_conv (P := Try.prog) (R5.out.mono (ext E.out.2.1 hb9) (Nat.le_refl _)) 22 9 5 Try.underlying22 Try.underlying5 Try.underlying9
                         have k6 := run_conv (P := Try.prog) (R6.out.mono (ext E.out.2.2.1 hb9) (Nat.le_refl _)) 22 9 5 Try.underlying22 Try.underlying5 Try.underlying9
                         have k7 := run_conv (P := Try.prog) (R7.out.mono (ext E.out.2.2.2.1 hb9) (Nat.le_refl _)) 22 9 5 Try.underlying22 Try.underlying5 Try.underlying9)
                      | (go_at_call 16; refine (known_any _).mono ?_; rintro e w12 ⟨rfl, hb12⟩)
                      | fail)
                    go_ret
                    exact ⟨rfl, HB0.out.trans ((E.out.2.2.2.2.2.trans ((ext hb9 hb12).mono E.out.2.2.2.2.2.size)).mono HB0.out.size)⟩
end Go.Proofs.Ytphalijdanmkeaa
