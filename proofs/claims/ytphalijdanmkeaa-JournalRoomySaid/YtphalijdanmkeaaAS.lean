/- The law of room: the walk. -/
import Derived.Test.YtphalijdanmkeaaAR
import Derived.Deep.Cut
namespace Go.Proofs.Ytphalijdanmkeaa
open Go.RowKit Go.Shelf J

theorem xs_line {R : Nat} (h1 : 1 ≤ R) (h2 : R ≤ 120) : isLine (List.replicate R (120 : UInt8)) = true := by
  simp only [isLine, List.length_replicate, Bool.and_eq_true, decide_eq_true_eq]
  refine ⟨⟨h1, h2⟩, List.all_eq_true.2 fun x hx => ?_⟩
  rw [(List.mem_replicate.1 hx).2]
  decide

set_option maxRecDepth 100000 in
set_option maxHeartbeats 4000000 in
theorem JRoomy_any (a : Option Addr) (c : Nat) (l : List (List UInt8)) (blocks : UInt8) (w : World) (h : ByS w a c l) :
    Calls Try.prog 11 #[.slice a l.length c, .int .u8 (blocks.toNat : Int)] w (Holds w) := by
  have HB := Lib.hid h
  clear h
  have hmem := linesS_mem (l := l) (most := 12)
  have hlen := linesS_le l 12
  have hlines := fun W (h : ByS W a c l) => LinesBy_any a c 12 l W (by omega) h
  generalize linesS l 12 = L at hmem hlen hlines
  have hline : ∀ s ∈ L, isLine s = true := fun s hs => (hmem s hs).1
  have hfl := fun a c W h => filled_any a c L blocks W hline (by omega) h
  obtain ⟨N, hN⟩ : ∃ N, 1 + blocks.toNat % 80 = N := ⟨_, rfl⟩
  have hN1 : 1 ≤ N ∧ N ≤ 250 := by omega
  obtain ⟨n, hn⟩ : ∃ n, 32 * N = n := ⟨_, rfl⟩
  rw [hN, hn] at hfl
  have HLN := Lib.hid hlines
  have hn4 : n ≤ 140737488355328 := by omega
  by_cases hfit : good L ≤ n
  · simp only [if_pos hfit] at hfl
    have HFL := Lib.hid hfl
    obtain ⟨R, hR⟩ : ∃ R, min (n - good L - 9) 120 = R := ⟨_, rfl⟩
    have hR120 : R ≤ 120 := by omega
    have hrd := room_dev hline (by omega) hfit hn.symm hN1.1 hN1.2
    rw [hR] at hrd
    have hrm := fun a c W h => Room_any a n c (dev L n) W hn4 h
    simp only [hrd] at hrm
    have HRM := Lib.hid hrm
    have hnR : ¬ ((R : Int) < 0) := by omega
    have hnR2 : ¬ ((120 : Int) < (R : Int)) := by omega
    -- the longer line
    have haf : R < 120 → ∀ a c W, Row 1 W a n c ((dev L n).map byteV) → Calls Try.prog 36 #[.slice a n c, strV (List.replicate R 120 ++ [120])] W (RetWrE W [] 8) := by
      intro hlt a c W h
      have := Append_any a n c (dev L n) (List.replicate R 120 ++ [120]) W hn4 (by simp; omega) h
      rw [← List.replicate_succ', append_full hline (by omega) (xs_line (R := R + 1) (by omega) (by omega)) hfit (by simp; omega) hn.symm hN1.1 hN1.2] at this
      rw [← List.replicate_succ']
      exact this
    have HAF0 := Lib.hid haf
    by_cases hR0 : R = 0
    · have hRz : ((R : Int) == 0) = true := by simp [hR0]
      have HAF := Lib.hid (HAF0.out (by omega))
      have hlt : (R : Int) < 120 := by omega
      clear hmem hlen hlines hline hfl hN hn hrd hrm haf HAF0 hfit hR hR0
      go_enter Try.func11, Try.ntmps11
      go_upto_region 4 with (first
        | (go_at_call 34; refine (HLN.out _ HB.out).mono ?_; rintro e w1 ⟨a1, c1, rfl, ho1, hb1⟩; have R1 := Lib.hid (row_of_own ho1); clear ho1)
        | (go_at_call 45; refine (HFL.out _ _ _ R1.out).mono ?_; rintro e wf ⟨⟨af, cf, rfl, hrf⟩, hbf⟩; have RF := Lib.hid hrf; clear hrf)
        | fail)
      have HBF := Lib.hid (ext hb1 hbf)
      clear hb1 hbf
      go_wp2_with (first
        | (go_at_call 21; refine (own_any _ _ _ (dev L n) _ (RF.out.mono (Below.refl _ _) (Nat.le_refl _)) hn4).mono ?_; rintro e w2 ⟨a2, c2, rfl, ho2, hb2⟩; have R2 := Lib.hid (row_of_own ho2); clear ho2)
        | (go_at_call 24; refine (HRM.out _ _ _ R2.out).mono ?_; rintro e w3 ⟨rfl, hb3⟩)
        | fail)
      have HB3 := Lib.hid (ext hb2 hb3)
      clear hb2 hb3
      go_loop [9, 10] (fun s i => ∃ q : Nat, q ≤ R ∧ i = .int .i64 q ∧ s = strV (List.replicate q 120)) (fun _ i => R - (intOf i).toNat)
      case atStart => exact ⟨0, Nat.zero_le _, rfl, rfl⟩
      case round =>
        obtain ⟨q, hq, rfl, rfl⟩ := hrel
        by_cases hqr : q < R
        · go_wp2
          go_round
          case rel => exact ⟨q + 1, by omega, by go_num, by rw [List.replicate_succ']; rfl⟩
          case measure => simp [intOf]; omega
        · obtain rfl : q = R := by omega
          go_upto_region 16 with (first
            | (go_at_call 21; refine (own_any _ _ _ (dev L n) _ (RF.out.mono HB3.out (Nat.le_refl _)) hn4).mono ?_; rintro e w4 ⟨a4, c4, rfl, ho4, hb4⟩; have R4 := Lib.hid (row_of_own ho4); clear ho4)
            | (go_at_call 36; refine (HAF.out _ _ _ R4.out).mono ?_; intro e w5 h5; obtain ⟨a5, c5, rfl, hr5, hb5⟩ := h5.toP)
            | fail)
          have HB5 := Lib.hid (ext HB3.out (ext hb4 hb5))
          clear hb4 hb5 hr5
          go_wp2_with (go_at_call 16; refine (known_any _).mono ?_; rintro e wk ⟨rfl, hbk⟩)
          go_ret
          exact ⟨rfl, ext HBF.out (ext HB5.out hbk)⟩
    · have hRz : ((R : Int) == 0) = false := by simp [hR0]
      obtain ⟨K, hK⟩ : ∃ K, L ++ [List.replicate R 120] = K := ⟨_, rfl⟩
      have hx := xs_line (R := R) (by omega) (by omega)
      have hKl : ∀ s ∈ K, isLine s = true := by
        rw [← hK]
        intro s hs
        rcases List.mem_append.1 hs with hs | hs
        · exact hline s hs
        · rw [List.mem_singleton.1 hs]; exact hx
      have hKg : good K = good L + (R + 9) := by rw [← hK, jgood_snoc, List.length_replicate]
      have hKn : good K ≤ n := by omega
      have hKL : K.length = L.length + 1 := by rw [← hK]; simp
      have hap : ∀ a c W, Row 1 W a n c ((dev L n).map byteV) → Calls Try.prog 36 #[.slice a n c, strV (List.replicate R 120)] W (RetWrE W (toD (dev L n) (journal K)) 0) := by
        intro a c W h
        have := Append_any a n c (dev L n) (List.replicate R 120) W hn4 (by simp; omega) h
        rwa [append_dev hline (by omega) hx (by simp; omega) hn.symm hN1.1 hN1.2, hK] at this
      have hdl := dev_len hfit
      have hlD : (toD (dev L n) (journal K)).length ≤ 140737488355328 := Nat.le_trans (toD_len _ _) (by rw [hdl]; omega)
      have hay : ∀ a a2 c c2 W, Row 1 W a n c ((dev L n).map byteV) → Writes W a2 c2 (toD (dev L n) (journal K)) → Calls Try.prog 41 #[.slice a n c, .slice a2 (toD (dev L n) (journal K)).length c2] W fun e w' => ∃ a' c', e = .returned (.tuple #[.slice a' n c', .int .i64 0]) ∧ Row 1 w' a' n c' ((dev K n).map byteV) ∧ Below W.heap.size W w' := by
        intro a a2 c c2 W h h2
        refine (Apply_any a a2 n c c2 (dev L n) _ W hn4 hlD h h2).mono ?_
        rintro e w' ⟨a', c', he, ho, hb⟩
        rw [apply_dev (formed_of (hdl.trans hn.symm) hN1.1 hN1.2) (by rw [hdl]; exact hKn), hdl] at he ho
        have hdk := dev_len hKn
        simp only [hdk] at he ho
        exact ⟨a', c', he, row_of_own ho, hb⟩
      obtain ⟨R', hR'⟩ : ∃ R', min (n - good K - 9) 120 = R' := ⟨_, rfl⟩
      have hrk := room_dev hKl (by omega) hKn hn.symm hN1.1 hN1.2
      rw [hR'] at hrk
      have hrl := fun a c W h => Room_any a n c (dev K n) W hn4 h
      simp only [hrk] at hrl
      have HAP := Lib.hid hap
      have HAY := Lib.hid hay
      have HRL := Lib.hid hrl
      have hle : R' ≤ R := by omega
      have hlti : R = 120 ∨ R' < R := by omega
      generalize toD (dev L n) (journal K) = D at HAP HAY hlD
      by_cases hlt : R < 120
      · have HAF := Lib.hid (HAF0.out hlt)
        have hR'lt : R' < R := by omega
        have hlt' : (R : Int) < 120 := by omega
        clear hmem hlen hlines hline hfl hN hn hrd hrm haf HAF0 hfit hR hK hx hKl hKg hKn hKL hap hdl hlD hay hR' hrk hrl hlti
        go_enter Try.func11, Try.ntmps11
        go_upto_region 4 with (first
          | (go_at_call 34; refine (HLN.out _ HB.out).mono ?_; rintro e w1 ⟨a1, c1, rfl, ho1, hb1⟩; have R1 := Lib.hid (row_of_own ho1); clear ho1)
          | (go_at_call 45; refine (HFL.out _ _ _ R1.out).mono ?_; rintro e wf ⟨⟨af, cf, rfl, hrf⟩, hbf⟩; have RF := Lib.hid hrf; clear hrf)
          | fail)
        have HBF := Lib.hid (ext hb1 hbf)
        clear hb1 hbf
        go_wp2_with (first
          | (go_at_call 21; refine (own_any _ _ _ (dev L n) _ (RF.out.mono (Below.refl _ _) (Nat.le_refl _)) hn4).mono ?_; rintro e w2 ⟨a2, c2, rfl, ho2, hb2⟩; have R2 := Lib.hid (row_of_own ho2); clear ho2)
          | (go_at_call 24; refine (HRM.out _ _ _ R2.out).mono ?_; rintro e w3 ⟨rfl, hb3⟩)
          | fail)
        have HB3 := Lib.hid (ext hb2 hb3)
        clear hb2 hb3
        go_loop [9, 10] (fun s i => ∃ q : Nat, q ≤ R ∧ i = .int .i64 q ∧ s = strV (List.replicate q 120)) (fun _ i => R - (intOf i).toNat)
        case atStart => exact ⟨0, Nat.zero_le _, rfl, rfl⟩
        case round =>
          obtain ⟨q, hq, rfl, rfl⟩ := hrel
          by_cases hqr : q < R
          · go_wp2
            go_round
            case rel => exact ⟨q + 1, by omega, by go_num, by rw [List.replicate_succ']; rfl⟩
            case measure => simp [intOf]; omega
          · obtain rfl : q = R := by omega
            go_upto_region 16 with (first
              | (go_at_call 21; refine (own_any _ _ _ (dev L n) _ (RF.out.mono HB3.out (Nat.le_refl _)) hn4).mono ?_; rintro e w4 ⟨a4, c4, rfl, ho4, hb4⟩; have R4 := Lib.hid (row_of_own ho4); clear ho4)
              | (go_at_call 36; refine (HAF.out _ _ _ R4.out).mono ?_; intro e w5 h5; obtain ⟨a5, c5, rfl, hr5, hb5⟩ := h5.toP)
              | fail)
            have HB5 := Lib.hid (ext HB3.out (ext hb4 hb5))
            clear hb4 hb5 hr5
            go_upto_region 21 with (first
              | (go_at_call 21; refine (own_any _ _ _ (dev L n) _ (RF.out.mono HB5.out (Nat.le_refl _)) hn4).mono ?_; rintro e w6 ⟨a6, c6, rfl, ho6, hb6⟩; have R6 := Lib.hid (row_of_own ho6); clear ho6)
              | (go_at_call 36; refine (HAP.out _ _ _ R6.out).mono ?_; intro e w7 h7; obtain ⟨a7, c7, rfl, hr7, hb7⟩ := h7.toP; have R7 := Lib.hid hr7; clear h7 hr7)
              | fail)
            have HB7 := Lib.hid (ext HB5.out (ext hb6 hb7))
            clear hb6 hb7
            go_wp2_with (first
              | (go_at_call 41; refine (HAY.out _ _ _ _ _ (RF.out.mono HB7.out (Nat.le_refl _)) R7.out).mono ?_; rintro e w8 ⟨a8, c8, rfl, hr8, hb8⟩; have R8 := Lib.hid hr8; clear hr8)
              | (go_at_call 24; refine (HRL.out _ _ _ R8.out).mono ?_; rintro e w9 ⟨rfl, hb9⟩)
              | (go_at_call 16; refine (known_any _).mono ?_; rintro e wk ⟨rfl, hbk⟩)
              | fail)
            go_ret
            exact ⟨rfl, ext HBF.out (ext HB7.out (ext hb8 (ext hb9 hbk)))⟩
      · have hRe : ((R : Int) == 120) = true := by simp; omega
        have hnlt : ¬ (R : Int) < 120 := by omega
        clear hmem hlen hlines hline hfl hN hn hrd hrm haf HAF0 hfit hR hK hx hKl hKg hKn hKL hap hdl hlD hay hR' hrk hrl hlti hlt
        by_cases hcc : R' < R
        · have hcc' : R' < R := hcc
          go_enter Try.func11, Try.ntmps11
          go_upto_region 4 with (first
            | (go_at_call 34; refine (HLN.out _ HB.out).mono ?_; rintro e w1 ⟨a1, c1, rfl, ho1, hb1⟩; have R1 := Lib.hid (row_of_own ho1); clear ho1)
            | (go_at_call 45; refine (HFL.out _ _ _ R1.out).mono ?_; rintro e wf ⟨⟨af, cf, rfl, hrf⟩, hbf⟩; have RF := Lib.hid hrf; clear hrf)
            | fail)
          have HBF := Lib.hid (ext hb1 hbf)
          clear hb1 hbf
          go_wp2_with (first
            | (go_at_call 21; refine (own_any _ _ _ (dev L n) _ (RF.out.mono (Below.refl _ _) (Nat.le_refl _)) hn4).mono ?_; rintro e w2 ⟨a2, c2, rfl, ho2, hb2⟩; have R2 := Lib.hid (row_of_own ho2); clear ho2)
            | (go_at_call 24; refine (HRM.out _ _ _ R2.out).mono ?_; rintro e w3 ⟨rfl, hb3⟩)
            | fail)
          have HB3 := Lib.hid (ext hb2 hb3)
          clear hb2 hb3
          go_loop [9, 10] (fun s i => ∃ q : Nat, q ≤ R ∧ i = .int .i64 q ∧ s = strV (List.replicate q 120)) (fun _ i => R - (intOf i).toNat)
          case atStart => exact ⟨0, Nat.zero_le _, rfl, rfl⟩
          case round =>
            obtain ⟨q, hq, rfl, rfl⟩ := hrel
            by_cases hqr : q < R
            · go_wp2
              go_round
              case rel => exact ⟨q + 1, by omega, by go_num, by rw [List.replicate_succ']; rfl⟩
              case measure => simp [intOf]; omega
            · obtain rfl : q = R := by omega
              go_upto_region 21 with (first
                | (go_at_call 21; refine (own_any _ _ _ (dev L n) _ (RF.out.mono HB3.out (Nat.le_refl _)) hn4).mono ?_; rintro e w6 ⟨a6, c6, rfl, ho6, hb6⟩; have R6 := Lib.hid (row_of_own ho6); clear ho6)
                | (go_at_call 36; refine (HAP.out _ _ _ R6.out).mono ?_; intro e w7 h7; obtain ⟨a7, c7, rfl, hr7, hb7⟩ := h7.toP; have R7 := Lib.hid hr7; clear h7 hr7)
                | fail)
              have HB7 := Lib.hid (ext HB3.out (ext hb6 hb7))
              clear hb6 hb7
              go_wp2_with (first
                | (go_at_call 41; refine (HAY.out _ _ _ _ _ (RF.out.mono HB7.out (Nat.le_refl _)) R7.out).mono ?_; rintro e w8 ⟨a8, c8, rfl, hr8, hb8⟩; have R8 := Lib.hid hr8; clear hr8)
                | (go_at_call 24; refine (HRL.out _ _ _ R8.out).mono ?_; rintro e w9 ⟨rfl, hb9⟩)
                | (go_at_call 16; refine (known_any _).mono ?_; rintro e wk ⟨rfl, hbk⟩)
                | fail)
              go_ret
              exact ⟨rfl, ext HBF.out (ext HB7.out (ext hb8 (ext hb9 hbk)))⟩
        · have hcc' : ¬ R' < R := hcc
          go_enter Try.func11, Try.ntmps11
          go_upto_region 4 with (first
            | (go_at_call 34; refine (HLN.out _ HB.out).mono ?_; rintro e w1 ⟨a1, c1, rfl, ho1, hb1⟩; have R1 := Lib.hid (row_of_own ho1); clear ho1)
            | (go_at_call 45; refine (HFL.out _ _ _ R1.out).mono ?_; rintro e wf ⟨⟨af, cf, rfl, hrf⟩, hbf⟩; have RF := Lib.hid hrf; clear hrf)
            | fail)
          have HBF := Lib.hid (ext hb1 hbf)
          clear hb1 hbf
          go_wp2_with (first
            | (go_at_call 21; refine (own_any _ _ _ (dev L n) _ (RF.out.mono (Below.refl _ _) (Nat.le_refl _)) hn4).mono ?_; rintro e w2 ⟨a2, c2, rfl, ho2, hb2⟩; have R2 := Lib.hid (row_of_own ho2); clear ho2)
            | (go_at_call 24; refine (HRM.out _ _ _ R2.out).mono ?_; rintro e w3 ⟨rfl, hb3⟩)
            | fail)
          have HB3 := Lib.hid (ext hb2 hb3)
          clear hb2 hb3
          go_loop [9, 10] (fun s i => ∃ q : Nat, q ≤ R ∧ i = .int .i64 q ∧ s = strV (List.replicate q 120)) (fun _ i => R - (intOf i).toNat)
          case atStart => exact ⟨0, Nat.zero_le _, rfl, rfl⟩
          case round =>
            obtain ⟨q, hq, rfl, rfl⟩ := hrel
            by_cases hqr : q < R
            · go_wp2
              go_round
              case rel => exact ⟨q + 1, by omega, by go_num, by rw [List.replicate_succ']; rfl⟩
              case measure => simp [intOf]; omega
            · obtain rfl : q = R := by omega
              go_upto_region 21 with (first
                | (go_at_call 21; refine (own_any _ _ _ (dev L n) _ (RF.out.mono HB3.out (Nat.le_refl _)) hn4).mono ?_; rintro e w6 ⟨a6, c6, rfl, ho6, hb6⟩; have R6 := Lib.hid (row_of_own ho6); clear ho6)
                | (go_at_call 36; refine (HAP.out _ _ _ R6.out).mono ?_; intro e w7 h7; obtain ⟨a7, c7, rfl, hr7, hb7⟩ := h7.toP; have R7 := Lib.hid hr7; clear h7 hr7)
                | fail)
              have HB7 := Lib.hid (ext HB3.out (ext hb6 hb7))
              clear hb6 hb7
              go_wp2_with (first
                | (go_at_call 41; refine (HAY.out _ _ _ _ _ (RF.out.mono HB7.out (Nat.le_refl _)) R7.out).mono ?_; rintro e w8 ⟨a8, c8, rfl, hr8, hb8⟩; have R8 := Lib.hid hr8; clear hr8)
                | (go_at_call 24; refine (HRL.out _ _ _ R8.out).mono ?_; rintro e w9 ⟨rfl, hb9⟩)
                | (go_at_call 16; refine (known_any _).mono ?_; rintro e wk ⟨rfl, hbk⟩)
                | fail)
              go_ret
              exact ⟨rfl, ext HBF.out (ext HB7.out (ext hb8 (ext hb9 hbk)))⟩
  · simp only [if_neg hfit] at hfl
    have HFL := Lib.hid hfl
    clear hmem hlen hlines hline hfl hN hn hfit
    go_enter Try.func11, Try.ntmps11
    go_wp2_with (first
      | (go_at_call 34; refine (HLN.out _ HB.out).mono ?_; rintro e w1 ⟨a1, c1, rfl, ho1, hb1⟩; have R1 := Lib.hid (row_of_own ho1); clear ho1)
      | (go_at_call 45; refine (HFL.out _ _ _ R1.out).mono ?_; rintro e wf ⟨rfl, hbf⟩)
      | (go_at_call 16; refine (known_any _).mono ?_; rintro e wk ⟨rfl, hbk⟩)
      | fail)
    go_ret
    exact ⟨rfl, ext hb1 (ext hbf hbk)⟩
end Go.Proofs.Ytphalijdanmkeaa
