/- The law of the way back: the walk. -/
import Derived.Test.YtphalijdanmkeaaAR
import Derived.Deep.Cut
import Derived.Deep.CutRange
import Derived.Deep.RegionHeld3
namespace Go.Proofs.Ytphalijdanmkeaa
open Go.RowKit Go.Shelf J

theorem keepS2 {W1 w' : World} {p : Addr} {v : Value} (hc : W1.cell? p = some v) (hlt : p.block < W1.heap.size) (hb : Below W1.heap.size W1 w') : Below W1.heap.size W1 w' ∧ w'.cell? p = some v := ⟨hb, (hb.cell hlt).trans hc⟩

/-- whether bytes begin with no digit -/
def J.cutB : List UInt8 → Bool
  | [] => false
  | c :: _ => decide (c.toNat < 48) || decide (57 < c.toNat)
/-- bytes that begin with no digit -/
def J.noDigit (X : List UInt8) : Prop := ∀ c r, X = c :: r → ¬ (48 ≤ c.toNat ∧ c.toNat ≤ 57)

theorem read_more {L : List (List UInt8)} {X : List UInt8} (h : ∀ s ∈ L, isLine s = true) (hl : L.length ≤ 60) (hX : noDigit X) (h8 : good L + X.length ≤ 8000) : recJ (journal L ++ X) = (L, (good L : Int), 0) := by
  have hr := read_journal h hl (recover_nodigit (f := 60 - L.length) (num := L.length) hX)
  rw [recJ, if_pos (by rw [List.length_append, journal_len]; exact h8), hr]

theorem dev_nil (n : Nat) : dev [] n = nulls n := by simp [dev, journal, journalFrom, good, nulls]

set_option maxRecDepth 100000 in
set_option maxHeartbeats 4000000 in
theorem JBack_any (a : Option Addr) (c : Nat) (l : List (List UInt8)) (at' : Option Addr) (mt ct : Nat) (tl : List UInt8) (w : World) (h : ByS w a c l) (ht : Row 1 w at' mt ct (tl.map byteV)) (hmt : mt ≤ maxLen) :
    Calls Try.prog 10 #[.slice a l.length c, .slice at' mt ct] w (Holds w) := by
  obtain ⟨i9, hi9, hz9, hy9, hx9⟩ := info_parts Try.info9
  have HI := Lib.hid hi9
  have HZ := Lib.hid hz9
  have HY := Lib.hid hy9
  have HX := Lib.hid hx9
  obtain ⟨i5, hi5, hz5, hy5, hx5⟩ := info_parts Try.info5
  have HI5 := Lib.hid hi5
  have HZ5 := Lib.hid hz5
  have HY5 := Lib.hid hy5
  have HX5 := Lib.hid hx5
  have HB := Lib.hid h
  have HT := Lib.hid ht
  have htl : tl.length = mt := by simpa using ht.1
  clear hi9 hz9 hy9 hx9 hi5 hz5 hy5 hx5 h ht
  have hmem := linesS_mem (l := l) (most := 20)
  have hlen := linesS_le l 20
  have hlines := fun W (h : ByS W a c l) => LinesBy_any a c 20 l W (by omega) h
  generalize linesS l 20 = L at hmem hlen hlines
  have hline : ∀ s ∈ L, isLine s = true := fun s hs => (hmem s hs).1
  have hwr := fun a c W h => Write_any a L.length c L W h (by omega) (fun s hs => by have := (hmem s hs).2; omega)
  simp only [writeJ_ok (by omega : L.length ≤ 60) hline] at hwr
  have hgl := jgood_le (l := L) 100 (fun s hs => (hmem s hs).2)
  have hgL : good L ≤ 2180 := by omega
  have hjl := journal_len L
  have hj4 : (journal L).length ≤ 2180 := by omega
  have hgj : ((good L : Int) != ((journal L).length : Int)) = false := by rw [hjl]; simp
  have HLN := Lib.hid hlines
  have HWR := Lib.hid hwr
  have HL := Lib.hid hline
  have HJL := Lib.hid hjl
  clear hmem hlines hwr hgl hjl hline
  go_enter Try.func10, Try.ntmps10
  go_upto_region 5 with (first
    | (go_at_call 34; refine (HLN.out _ HB.out).mono ?_; rintro e w1 ⟨a1, c1, rfl, ho1, hb1⟩; have R1 := Lib.hid (row_of_own ho1); clear ho1)
    | (at_builtin; refine wpList_append_empty rfl (.tmp 20) (.tmp 21) 34 rfl 9 i9 (.string ⟨#[]⟩) 1 16 Try.underlying34 HI.out HZ.out HY.out HX.out _ rfl a1 L.length c1 (L.map strV) rfl (R1.out.mono ((Below.refl _ _).alloc (Nat.le_refl _) _) (Nat.le_refl _)) (by unfold maxLen; omega) (by omega) ?_; intro a2 c2 w2 r2 hb2; have R2 := Lib.hid r2; clear r2)
    | (go_at_call 32; refine (HWR.out _ _ _ R2.out).mono ?_; rintro e w3 ⟨rfl, hb3⟩)
    | fail)
  have HB3 := Lib.hid (ext hb1 (ext (alloc_below hb2) hb3))
  obtain ⟨cap, W4, hcv, hrow, hbel, hsz4, hthere⟩ := bytes_of2 w3 (journal L)
  have R3 := Lib.hid (R1.out.mono (ext (alloc_below hb2) hb3) (Nat.le_refl _))
  have HBEL := Lib.hid hbel
  have ROW := Lib.hid hrow
  have THERE := Lib.hid hthere
  have HB4 := Lib.hid (ext HB3.out hbel)
  have HT4 := Lib.hid (HT.out.mono HB4.out (Nat.le_refl _))
  have HS4 := Lib.hid hsz4
  clear hrow hthere hbel hb1 hb2 hb3 R1 R2 hsz4
  go_upto_region 6 with fail
  obtain ⟨D, hD⟩ : ∃ D : Bool, Hid (D = cutB tl) := ⟨_, Lib.hid rfl⟩
  go_cut [44] from 30 to 44 (fun v wc => v = .bool D ∧ W4 = wc)
  case first =>
    by_cases hm0 : mt = 0
    · subst hm0
      obtain rfl : tl = [] := List.eq_nil_of_length_eq_zero htl
      go_wp2
      go_meet
      exact ⟨by rw [hD.out]; rfl, rfl⟩
    · obtain ⟨bt, ot, rfl, hbt, hct⟩ := HT4.out.some (by omega)
      have y0 := hct 0 (by simp; omega)
      have hm1 : 0 < mt := by omega
      have hm2 : (0 : Int) < (mt : Int) := by omega
      obtain ⟨c0, r0, rfl⟩ : ∃ c0 r0, tl = c0 :: r0 := by
        cases tl with
        | nil => simp at htl; omega
        | cons c0 r0 => exact ⟨c0, r0, rfl⟩
      simp only [List.map_cons, List.getElem_cons_zero, byteV, Nat.add_zero] at y0
      clear hct
      by_cases h1 : c0.toNat < 48
      · go_wp2
        go_meet
        refine ⟨?_, rfl⟩
        rw [hD.out, cutB, decide_eq_true h1]
        rfl
      · go_wp2
        go_meet
        refine ⟨?_, rfl⟩
        rw [hD.out, cutB, show decide ((c0.toNat : Int) < 48) = decide (c0.toNat < 48) from decide_eq_decide.2 (by omega), show decide ((57 : Int) < (c0.toNat : Int)) = decide (57 < c0.toNat) from decide_eq_decide.2 (by omega)]
  case rest =>
  obtain ⟨rfl, rfl⟩ := hcut
  go_upto_if 44 with fail
  go_cut [8] from 45 to 51 (fun v wc => ∃ (a8 : Option Addr) (c8 : Nat) (X : List UInt8), v = .slice a8 (good L + X.length) c8 ∧ Row 1 wc a8 (good L + X.length) c8 ((journal L ++ X).map byteV) ∧ noDigit X ∧ X.length ≤ 200 ∧ Below w3.heap.size W4 wc)
  case first =>
    cases D with
    | false =>
      go_wp2
      go_meet
      refine ⟨some ⟨w3.heap.size, 0, none⟩, cap, [], ?_, ?_, (fun c r h => by cases h), by simp, Below.refl _ _⟩
      · simp only [List.length_nil, Nat.add_zero, HJL.out]
      · simp only [List.length_nil, Nat.add_zero, List.append_nil]
        rw [← HJL.out]
        exact ROW.out
    | true =>
      have hnd : noDigit (tl.take (min mt 200)) := by
        intro c' r' h
        cases tl with
        | nil => simp at h
        | cons c r =>
          cases hm : min mt 200 with
          | zero => rw [hm] at h; cases h
          | succ k =>
            rw [hm, List.take_succ_cons] at h
            cases h
            have := hD.out.symm
            simp only [cutB, Bool.or_eq_true, decide_eq_true_eq] at this
            omega
      obtain ⟨a7, c7, hsl, hr7⟩ := slice_h (P := Try.prog) HT4.out Try.und22 Try.size5 (min (mt : Int) 200) (by omega) (by omega)
      have hmn : (min (mt : Int) 200).toNat = min mt 200 := by omega
      simp only [hmn, Nat.mul_one, ← List.map_take] at hsl hr7
      have R7 := Lib.hid hr7
      have hl7 : (tl.take (min mt 200)).length = min mt 200 := by simp; omega
      clear hr7
      go_wp2_with (at_builtin; refine wpList_append_there rfl (.tmp 45) (.tmp 50) 22 rfl w3.heap.size 5 i5 (.int .u8 0) Try.underlying22 HI5.out HZ5.out HY5.out HX5.out w3.heap.size (journal L).length cap ((journal L).map byteV) rfl ROW.out THERE.out (by rw [HS4.out]; omega) a7 (min mt 200) c7 ((tl.take (min mt 200)).map byteV) rfl R7.out (bytes_one _) (by omega) (Nat.le_refl _) ?_; intro a5 c5 w5 r5 hb5)
      go_meet
      refine ⟨a5, c5, tl.take (min mt 200), ?_, ?_, hnd, by rw [hl7]; omega, hb5⟩
      · rw [hl7, ← HJL.out]
      · rw [hl7, ← HJL.out, List.map_append]
        exact r5
  case rest =>
    obtain ⟨a8, c8, X, rfl, r8, hX, hX2, hb8⟩ := hcut
    have R8 := Lib.hid r8
    have hbw8 := (HB4.out.trans (hb8.mono (by have := HB3.out.size; omega)))
    have HB8 := Lib.hid hbw8
    have R38 := Lib.hid (R3.out.mono (HBEL.out.trans hb8) (Nat.le_refl _))
    have hrd := read_more HL.out (by omega) hX (by omega)
    have h22 : ∀ W, Row 1 W a8 (good L + X.length) c8 ((journal L ++ X).map byteV) → Calls Try.prog 22 #[.slice a8 (good L + X.length) c8] W fun e w' => ∃ a6 c6, e = .returned (.tuple #[.slice a6 L.length c6, .int .i64 (good L : Int), .int .i64 0]) ∧ Row 1 w' a6 L.length c6 (L.map strV) ∧ Below W.heap.size W w' := fun W h => (Recover_any _ _ c8 (journal L ++ X) W (by omega) h).mono fun e w' ⟨a6, c6, he, hr, hb⟩ => by
      rw [hrd] at he hr
      exact ⟨a6, c6, he, hr, hb⟩
    have hpre : L.isPrefixOf L = true := List.isPrefixOf_iff_prefix.2 (List.prefix_refl _)
    have hfst := fun a b c d W h h' => firstOf_any a b c d L L W (by omega) (by omega) h h'
    simp only [hpre] at hfst
    have hfm := fun W => Format_ok 80 W (by omega) (by omega)
    simp only [show 32 * (80 : Int).toNat = 2560 from rfl] at hfm
    have H22 := Lib.hid h22
    have HF := Lib.hid hfst
    have HFM := Lib.hid hfm
    clear r8 hb8 hrd h22 hfst hpre hfm hX hX2 hbw8
    go_wp2_with (first
      | (go_at_call 22; refine (H22.out _ R8.out).mono ?_; rintro e w9 ⟨a9, c9, rfl, hr9, hb9⟩; have R9 := Lib.hid hr9; clear hr9)
      | (go_at_call 35; refine (HF.out _ _ _ _ _ R9.out (R38.out.mono hb9 (Nat.le_refl _))).mono ?_; rintro e w10 ⟨rfl, hb10⟩)
      | (go_at_call 14; refine (HFM.out _).mono ?_; rintro e w11 ⟨a11, c11, rfl, ho11, hb11⟩; have R11 := Lib.hid (row_of_own ho11); clear ho11)
      | fail)
    have HB11 := Lib.hid (ext HB8.out (ext hb9 (ext hb10 hb11)))
    have HL11 := Lib.hid (R38.out.mono (ext hb9 (ext hb10 hb11)) (Nat.le_refl _))
    clear hb9 hb10 hb11 R9
    go_loopw [12, 14, 15, 16] (fun b i _ _ wr => ∃ (k : Nat) (ab : Option Addr) (cb : Nat), k ≤ L.length ∧ i = .int .i64 k ∧ b = .slice ab 2560 cb ∧ Row 1 wr ab 2560 cb ((dev (L.take k) 2560).map byteV) ∧ Below w11.heap.size w11 wr) (fun _ i _ _ _ => L.length - (intOf i).toNat)
    case atStart => exact ⟨0, _, _, Nat.zero_le _, rfl, rfl, by rw [List.take_zero, dev_nil]; exact R11.out, Below.refl _ _⟩
    case round =>
      obtain ⟨k, ab, cb, hk, rfl, rfl, hrow, hbw⟩ := hrel
      have RB := Lib.hid hrow
      have HW := Lib.hid hbw
      clear hrow hbw
      by_cases hlt : k < L.length
      · obtain ⟨b1, o1, rfl, hb1, hc1⟩ := (HL11.out.mono HW.out (Nat.le_refl _)).some (by omega)
        have x1 := strs_at hc1 k hlt
        have X1 := Lib.hid x1
        have hltb : (⟨b1, o1 + k, none⟩ : Addr).block < wr.heap.size := hb1
        have hlk : ∀ s ∈ L.take k, isLine s = true := fun s hs => HL.out s (List.mem_of_mem_take hs)
        have hsl := HL.out _ (List.getElem_mem hlt)
        have hgk := jgood_take_le L k
        have hgk1 := jgood_take_le L (k + 1)
        have hgs := jgood_take hlt
        have hklen : (L.take k).length ≤ 20 := by simp; omega
        have hdl : (dev (L.take k) 2560).length = 2560 := dev_len (by omega)
        have hsn : L.take k ++ [L[k]] = L.take (k + 1) := (List.take_succ_eq_append_getElem hlt).symm
        have hap : ∀ a c W, Row 1 W a 2560 c ((dev (L.take k) 2560).map byteV) → Calls Try.prog 36 #[.slice a 2560 c, strV L[k]] W (RetWrE W (toD (dev (L.take k) 2560) (journal (L.take (k + 1)))) 0) := by
          intro a c W h
          have := Append_any a 2560 c (dev (L.take k) 2560) L[k] W (by omega) (by have := jline_len hsl; omega) h
          rwa [append_dev (N := 80) hlk (by omega) hsl (by omega) rfl (by omega) (by omega), hsn] at this
        have hlD : (toD (dev (L.take k) 2560) (journal (L.take (k + 1)))).length ≤ 140737488355328 := Nat.le_trans (toD_len _ _) (by rw [hdl]; omega)
        have hay : ∀ a a2 c c2 W, Row 1 W a 2560 c ((dev (L.take k) 2560).map byteV) → Writes W a2 c2 (toD (dev (L.take k) 2560) (journal (L.take (k + 1)))) → Calls Try.prog 41 #[.slice a 2560 c, .slice a2 (toD (dev (L.take k) 2560) (journal (L.take (k + 1)))).length c2] W fun e w' => ∃ a' c', e = .returned (.tuple #[.slice a' 2560 c', .int .i64 0]) ∧ Row 1 w' a' 2560 c' ((dev (L.take (k + 1)) 2560).map byteV) ∧ Below W.heap.size W w' := by
          intro a a2 c c2 W h h2
          refine (Apply_any a a2 2560 c c2 (dev (L.take k) 2560) _ W (by omega) hlD h h2).mono ?_
          rintro e w' ⟨a', c', he, ho, hb⟩
          rw [apply_dev (formed_of (N := 80) hdl (by omega) (by omega)) (by rw [hdl]; omega), hdl] at he ho
          have hdk : (dev (L.take (k + 1)) 2560).length = 2560 := dev_len (by omega)
          simp only [hdk] at he ho
          exact ⟨a', c', he, row_of_own ho, hb⟩
        have HAP := Lib.hid hap
        have HAY := Lib.hid hay
        generalize toD (dev (L.take k) 2560) (journal (L.take (k + 1))) = D at HAP HAY hlD
        clear hc1 hap hay hlk hsl hgk hgk1 hgs hklen hdl hsn hlD
        go_upto_region 17 with fail
        go_region_held3 (fun w' => Below wr.heap.size wr w' ∧ w'.cell? ⟨b1, o1 + k, none⟩ = some (strV L[k])) (first
          | (refine keepS2 X1.out hltb ?_; first
            | exact (Below.refl _ _).drew
            | exact Below.trans (And.left (by assumption)) (Below.mono hb5 (Below.size (And.left (by assumption))))
            | exact Below.trans (And.left (by assumption)) (Below.mono hb4 (Below.size (And.left (by assumption))))
            | fail)
          | fail) (first
          | (go_at_call 21; refine (own_any _ _ _ (dev (L.take k) 2560) _ (RB.out.mono (And.left (by assumption)) (Nat.le_refl _)) (by omega)).mono ?_; rintro e w4 ⟨a4, c4, rfl, ho4, hb4⟩; have R4 := Lib.hid (row_of_own ho4); clear ho4)
          | (go_at_call 36; refine (HAP.out _ _ _ R4.out).mono ?_; intro e w5 h5; obtain ⟨a5, c5, rfl, hr5, hb5⟩ := h5.toP; have R5 := Lib.hid hr5; clear h5 hr5)
          | fail)
        have HB5 := Lib.hid (Below.trans ((Below.refl wr.heap.size wr).drew) ((ext hb4 hb5).mono (by exact Nat.le_refl _)))
        go_wp2_with (first
          | (go_at_call 21; refine (own_any _ _ _ (dev (L.take k) 2560) _ (RB.out.mono HB5.out (Nat.le_refl _)) (by omega)).mono ?_; rintro e w6 ⟨a6, c6, rfl, ho6, hb6⟩; have R6 := Lib.hid (row_of_own ho6); clear ho6)
          | (go_at_call 41; refine (HAY.out _ _ _ _ _ R6.out (R5.out.mono hb6 (Nat.le_refl _))).mono ?_; rintro e w7 ⟨a7, c7, rfl, hr7, hb7⟩; have R7 := Lib.hid hr7; clear hr7)
          | fail)
        go_roundw
        case rel => exact ⟨k + 1, a7, c7, by omega, by go_num, rfl, R7.out, ext HW.out (ext HB5.out (ext hb6 hb7))⟩
        case measure => simp [intOf]; omega
      · obtain rfl : k = L.length := by omega
        have hrb := RB.out
        rw [List.take_length] at hrb
        have hdl : (dev L 2560).length = 2560 := dev_len (by omega)
        obtain ⟨a4, c4, hsl, hr4⟩ := slice_h (P := Try.prog) hrb Try.und22 Try.size5 ((journal L).length : Int) (by omega) (by omega)
        simp only [Int.toNat_natCast, Nat.mul_one, ← List.map_take] at hsl hr4
        have htk : (dev L 2560).take (journal L).length = journal L := by rw [dev, List.take_left]
        rw [htk] at hr4
        have hcv4 := run_conv (P := Try.prog) hr4 22 9 5 Try.underlying22 Try.underlying5 Try.underlying9
        have hck := fun a c W h => Check_any a 2560 c (dev L 2560) W (by omega) h
        simp only [checkD_dev (N := 80) HL.out (by omega) (by omega : good L ≤ 2560) rfl (by omega) (by omega)] at hck
        have HCK := Lib.hid hck
        have RB2 := Lib.hid hrb
        clear hrb hr4 htk hck hdl
        go_wp2_with (first
          | (go_at_call 21; refine (own_any _ _ _ (dev L 2560) _ RB2.out (by omega)).mono ?_; rintro e w6 ⟨a6, c6, rfl, ho6, hb6⟩; have R6 := Lib.hid (row_of_own ho6); clear ho6)
          | (go_at_call 23; refine (HCK.out _ _ _ R6.out).mono ?_; rintro e w7 ⟨rfl, hb7⟩)
          | (go_at_call 16; refine (known_any _).mono ?_; rintro e wk ⟨rfl, hbk⟩)
          | fail)
        go_ret
        exact ⟨rfl, ext HB11.out (ext HW.out (ext hb6 (ext hb7 hbk)))⟩
end Go.Proofs.Ytphalijdanmkeaa
