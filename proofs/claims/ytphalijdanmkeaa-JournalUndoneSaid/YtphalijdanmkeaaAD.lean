/- Undo, of the journal and of the reference. -/
import Derived.Test.YtphalijdanmkeaaAC
import Derived.Test.YtphalijdanmkeaaY
namespace Go.Proofs.Ytphalijdanmkeaa
open Go.RowKit Go.Shelf J

/-- what must be written so that the last lines are no longer there, and the error -/
def J.undoJ (b : List UInt8) (many : Int) : List (Int × List UInt8) × Int :=
  if checkD b ≠ 0 then ([], checkD b) else if 0 ≤ many ∧ many ≤ (read b).length then ((toD b (journal ((read b).take ((read b).length - many.toNat)))).reverse, 0) else ([], 3)

theorem retWrE_mk {w w' : World} {bs : List (Int × List UInt8)} {x : Int} {a : Option Addr} {n c : Nat} {xs : List Value} (hn : n = bs.length) (ho : w'.ownsRow w.heap.size 58 2 (.slice a n c) n xs) (hw : WrO w.heap.size w' xs bs) (hb : Below w.heap.size w w') : RetWrE w bs x (.returned (.tuple #[.slice a n c, .int .i64 x])) w' := by
  subst hn
  exact ⟨a, c, xs, rfl, ho, hw, hb⟩

theorem recover_lines : ∀ (f num : Nat) (b : List UInt8), ∀ s ∈ recover f num b, isLine s = true
  | 0, _, _, s, h => by simp [recover] at h
  | f + 1, num, b, s, h => by
    simp only [recover] at h
    cases hf : first b num with
    | none => rw [hf] at h; simp at h
    | some l =>
      rw [hf] at h
      rcases List.mem_cons.1 h with rfl | h
      · exact (first_some hf).2.2.2.2.2.1
      · exact recover_lines f (num + 1) _ s h
theorem isLine_len' {s : List UInt8} (h : isLine s = true) : 1 ≤ s.length ∧ s.length ≤ 120 := by simp only [isLine, Bool.and_eq_true, decide_eq_true_eq] at h; exact h.1
theorem journalFrom_good : ∀ (a : List (List UInt8)) (k : Nat), (journalFrom k a).length = good a
  | [], _ => rfl
  | x :: a, k => by simp only [journalFrom, List.length_append, record_length, journalFrom_good a (k + 1), good]
theorem good_take : ∀ (a : List (List UInt8)) (k : Nat), good (a.take k) ≤ good a
  | [], k => by simp [good]
  | x :: a, 0 => by simp [good]
  | x :: a, k + 1 => by simp only [List.take_succ_cons, good]; have := good_take a k; omega

theorem Reverse_any (B : Nat) (a : Option Addr) (c : Nat) (bs : List (Int × List UInt8)) (xs : List Value) (w : World) (hn : bs.length ≤ 140737488355328) (ho : w.ownsRow B 58 2 (.slice a bs.length c) bs.length xs) (hw : WrO B w xs bs) :
    Calls Try.prog 67 #[.slice a bs.length c] w fun e w' => e = .returned (.tuple #[]) ∧ ∃ xs', w'.ownsRow B 58 2 (.slice a bs.length c) bs.length xs' ∧ WrO B w' xs' bs.reverse ∧ Below B w w' := by
  by_cases h0 : bs.length = 0
  · obtain rfl := List.eq_nil_of_length_eq_zero h0
    have HO := Lib.hid ho
    have HW := Lib.hid hw
    clear ho hw
    go_enter Try.func67, Try.ntmps67
    go_wp2
    go_loop [2, 3] (fun i j => i = .int .i64 0 ∧ j = .int .i64 (-1)) (fun _ _ => 0)
    case atStart => exact ⟨rfl, by rfl⟩
    case round =>
      obtain ⟨rfl, rfl⟩ := hrel
      go_wp2
      go_end0
      exact ⟨rfl, xs, HO.out, HW.out, Below.refl _ _⟩
  · obtain ⟨g, cap, e⟩ : ∃ g cap, (.slice a bs.length c : Value) = .slice (some ⟨g, 0, none⟩) bs.length cap := by
      rcases ho.2 with ⟨_, h⟩ | ⟨g, cap, _, e, _⟩
      · exact absurd h h0
      · exact ⟨g, cap, e⟩
    cases e
    refine (Reverse_some B g c bs xs w hn ho hw.toF).mono ?_
    rintro e w' ⟨rfl, xs', h1, h2, h3⟩
    exact ⟨rfl, xs', h1, h2.toO, h3⟩

set_option maxRecDepth 100000 in
set_option maxHeartbeats 4000000 in
theorem Undo_any (a : Option Addr) (m c : Nat) (b : List UInt8) (many : Int) (w : World) (hm : m ≤ 140737488355328) (hmw : (Lit.int .i64 many).wf = true) (h : Row 1 w a m c (b.map byteV)) :
    Calls Try.prog 37 #[.slice a m c, .int .i64 many] w (RetWrE w (undoJ b many).1 (undoJ b many).2) := by
  have hbl : b.length = m := by simpa using h.1
  have HR := Lib.hid h
  have HBL := Lib.hid hbl
  clear h
  by_cases hc : checkD b = 0
  · have hcl := checkD_len (b := b) (by omega)
    have hlen := read_len b
    have hgd := read_good b
    by_cases hr : 0 ≤ many ∧ many ≤ (read b).length
    · obtain ⟨hr0, hr1⟩ := hr
      obtain ⟨k, rfl⟩ : ∃ k : Nat, many = (k : Int) := ⟨many.toNat, by omega⟩
      have hk : k ≤ (read b).length := by omega
      have hun : undoJ b (k : Int) = ((toD b (journal ((read b).take ((read b).length - k)))).reverse, 0) := by
        rw [undoJ, if_neg (by simp [hc]), if_pos ⟨hr0, hr1⟩, Int.toNat_natCast]
      have hjl : (journal ((read b).take ((read b).length - k))).length ≤ m := by
        rw [journal, journalFrom_good]
        have := good_take (read b) ((read b).length - k)
        omega
      have hd : (decide (0 ≤ (k : Int)) && decide ((k : Int) ≤ ((read b).length : Int))) = true := by simp; omega
      have HUN := Lib.hid hun
      have HC := Lib.hid hc
      have HJL := Lib.hid hjl
      have HD := Lib.hid hd
      have hN32 : m = 32 * (m / 32) := by omega
      have hN250 : m / 32 ≤ 250 := by omega
      have HN32 := Lib.hid hN32
      have htl : (toD b (journal ((read b).take ((read b).length - k)))).length ≤ 140737488355328 := Nat.le_trans (toD_len _ _) (by omega)
      have HTL := Lib.hid htl
      clear hun hc hjl hd hN32 hr0 hr1 htl
      go_enter Try.func37, Try.ntmps37
      go_upto_region 7 with (first
        | (go_at_call 23; refine (Check_any _ _ _ b _ hm HR.out).mono ?_; rintro e w1 ⟨rfl, hb1⟩; rw [HC.out])
        | (go_at_call 54; refine (read_any' _ _ _ b _ hm (HR.out.mono hb1 (Nat.le_refl _))).mono ?_; rintro e w2 ⟨a2, c2, rfl, ho2, hb2⟩)
        | (go_at_call 48; refine (within_any _ _ _ _).mono ?_; rintro e w3 ⟨rfl, rfl⟩; rw [HD.out]))
      obtain ⟨a3, c3, hsl, hR3⟩ := slice_h (P := Try.prog) (row_of_own ho2) Try.und34 Try.size9 (((read b).length : Int) - k) (by omega) (by omega)
      rw [show (((read b).length : Int) - k).toNat = (read b).length - k from by omega] at hR3
      simp only [show (((read b).length : Int) - k).toNat = (read b).length - k from by omega] at hsl
      rw [Nat.mul_one, ← List.map_take] at hR3
      have HR3 := Lib.hid hR3
      have hbw := hb1.trans (hb2.mono hb1.size)
      have HBW := Lib.hid hbw
      clear hR3 ho2 hb1 hb2 hbw
      go_wp2_with (first
        | (go_at_call 66; refine (journal_any _ _ _ _ _ HR3.out (by omega) (fun s hs => (isLine_len' (recover_lines _ _ _ s (List.mem_of_mem_take hs))).2)).mono ?_; rintro e w4 ⟨rfl, hb4⟩)
        | (go_at_call 58; refine (to_any _ _ _ b _ _ (m / 32) hN250 HN32.out HJL.out (HR.out.mono (HBW.out.trans (hb4.mono HBW.out.size)) (Nat.le_refl _))).mono ?_; rintro e w5 ⟨a5, c5, xs5, rfl, ho5, hw5, hb5⟩; have HO5 := Lib.hid ho5; have HW5 := Lib.hid hw5; clear ho5 hw5)
        | (go_at_call 67; refine (Reverse_any _ _ _ _ _ _ HTL.out HO5.out HW5.out).mono ?_; rintro e w6 ⟨rfl, xs6, ho6, hw6, hb6⟩))
      go_ret2
      rw [HUN.out]
      have s4 : w.heap.size ≤ w4.heap.size := Nat.le_trans HBW.out.size hb4.size
      have hb := HBW.out.trans ((hb4.mono HBW.out.size).trans ((hb5.mono s4).trans (hb6.mono s4)))
      have hrl : (toD b (journal ((read b).take ((read b).length - k)))).reverse.length = (toD b (journal ((read b).take ((read b).length - k)))).length := List.length_reverse
      exact retWrE_mk hrl.symm (ownsRow_weaken ho6 s4) (hw6.weaken s4) hb
    · have hun : undoJ b many = ([], 3) := by rw [undoJ, if_neg (by simp [hc]), if_neg hr]
      have hd : (decide (0 ≤ many) && decide (many ≤ ((read b).length : Int))) = false := by
        rw [Bool.eq_false_iff]; simp; omega
      have HUN := Lib.hid hun
      have HC := Lib.hid hc
      have HD := Lib.hid hd
      clear hun hc hd hr
      go_enter Try.func37, Try.ntmps37
      go_wp2_with (first
        | (go_at_call 23; refine (Check_any _ _ _ b _ hm HR.out).mono ?_; rintro e w1 ⟨rfl, hb1⟩; rw [HC.out])
        | (go_at_call 54; refine (read_any' _ _ _ b _ hm (HR.out.mono hb1 (Nat.le_refl _))).mono ?_; rintro e w2 ⟨a2, c2, rfl, ho2, hb2⟩)
        | (go_at_call 48; refine (within_any _ _ _ _).mono ?_; rintro e w3 ⟨rfl, rfl⟩; rw [HD.out]))
      go_ret2
      rw [HUN.out]
      exact RetWrE.none rfl rfl (hb1.trans (hb2.mono hb1.size))
  · have hne : (checkD b != 0) = true := by simpa using hc
    have hap : undoJ b many = ([], checkD b) := by rw [undoJ, if_pos hc]
    have HAP := Lib.hid hap
    clear hap hc
    go_enter Try.func37, Try.ntmps37
    go_wp2_with (go_at_call 23; refine (Check_any _ _ _ b _ hm HR.out).mono ?_; rintro e w1 ⟨rfl, hb1⟩)
    go_ret2
    rw [HAP.out]
    exact RetWrE.none rfl rfl hb1

theorem own_below' {W W' : World} {base : Nat} {e : TypeId} {size : Nat} {v : Value} {n : Nat} {xs : List Value} (h : W.ownsRow base e size v n xs) (hb : Below W.heap.size W W') : W'.ownsRow base e size v n xs := own_below h hb

theorem drop_rev {α : Type} (l : List α) (k : Nat) (h : k < l.length) : (l.drop k).reverse = (l.drop (k + 1)).reverse ++ [l[k]] := by
  rw [List.drop_eq_getElem_cons h, List.reverse_cons]

theorem writeJ_lines {l : List (List UInt8)} (h1 : l.length ≤ 60) (h2 : ∀ s ∈ l, isLine s = true) : writeJ l = (journal l, 0) := by
  rw [writeJ, if_neg (by omega), if_neg]
  intro hx
  obtain ⟨x, hx1, hx2⟩ := List.any_eq_true.1 hx
  rw [h2 x hx1] at hx2
  cases hx2

set_option maxRecDepth 100000 in
set_option maxHeartbeats 4000000 in
theorem RUndo_any (a : Option Addr) (m c : Nat) (b : List UInt8) (many : Int) (w : World) (hm : m ≤ 140737488355328) (hmw : (Lit.int .i64 many).wf = true) (h : Row 1 w a m c (b.map byteV)) :
    Calls Try.prog 39 #[.slice a m c, .int .i64 many] w (RetWrE w (undoJ b many).1 (undoJ b many).2) := by
  obtain ⟨i0, hi, hz0, hz1, hz2⟩ := info_parts Try.info58
  have hbl : b.length = m := by simpa using h.1
  have HR := Lib.hid h
  have HBL := Lib.hid hbl
  clear h
  by_cases hc : checkD b = 0
  · have hcl := checkD_len (b := b) (by omega)
    have hlen := read_len b
    have hgd := read_good b
    have hm8 : m ≤ 8000 := by omega
    by_cases hr0 : many < 0
    · have hun : undoJ b many = ([], 3) := by rw [undoJ, if_neg (by simp [hc]), if_neg (by omega)]
      have HUN := Lib.hid hun
      have HC := Lib.hid hc
      clear hun hc
      go_enter Try.func39, Try.ntmps39
      go_wp2_with (first
        | (go_at_call 30; refine (RCheck_any _ _ _ b _ hm HR.out).mono ?_; rintro e w1 ⟨rfl, hb1⟩; rw [HC.out])
        | (go_at_call 26; refine (RRecover_ok _ _ _ b _ hm8 (HR.out.mono hb1 (Nat.le_refl _))).mono ?_; rintro e w2 ⟨a2, c2, rfl, ho2, hb2⟩))
      go_ret2
      rw [HUN.out]
      exact RetWrE.none rfl rfl (hb1.trans (hb2.mono hb1.size))
    · by_cases hr1 : ((read b).length : Int) < many
      · have hun : undoJ b many = ([], 3) := by rw [undoJ, if_neg (by simp [hc]), if_neg (by omega)]
        have HUN := Lib.hid hun
        have HC := Lib.hid hc
        clear hun hc
        go_enter Try.func39, Try.ntmps39
        go_wp2_with (first
          | (go_at_call 30; refine (RCheck_any _ _ _ b _ hm HR.out).mono ?_; rintro e w1 ⟨rfl, hb1⟩; rw [HC.out])
          | (go_at_call 26; refine (RRecover_ok _ _ _ b _ hm8 (HR.out.mono hb1 (Nat.le_refl _))).mono ?_; rintro e w2 ⟨a2, c2, rfl, ho2, hb2⟩))
        go_ret2
        rw [HUN.out]
        exact RetWrE.none rfl rfl (hb1.trans (hb2.mono hb1.size))
      · obtain ⟨k, rfl⟩ : ∃ k : Nat, many = (k : Int) := ⟨many.toNat, by omega⟩
        have hk : k ≤ (read b).length := by omega
        have hun : undoJ b (k : Int) = ((toD b (journal ((read b).take ((read b).length - k)))).reverse, 0) := by
          rw [undoJ, if_neg (by simp [hc]), if_pos (by omega), Int.toNat_natCast]
        have hjl : (journal ((read b).take ((read b).length - k))).length ≤ m := by
          rw [journal, journalFrom_good]
          have := good_take (read b) ((read b).length - k)
          omega
        have hls : ∀ s ∈ (read b).take ((read b).length - k), isLine s = true := fun s hs => recover_lines _ _ _ s (List.mem_of_mem_take hs)
        have hwj := writeJ_lines (l := (read b).take ((read b).length - k)) (by rw [List.length_take]; omega) hls
        have hls2 : ∀ s ∈ (read b).take ((read b).length - k), s.length ≤ 9223372036854775807 := fun s hs => by have := isLine_len' (hls s hs); omega
        have htl : (toD b (journal ((read b).take ((read b).length - k)))).length ≤ 8000 := Nat.le_trans (toD_len _ _) (by omega)
        have HUN := Lib.hid hun
        have HC := Lib.hid hc
        have HJL := Lib.hid hjl
        have HWJ := Lib.hid hwj
        have HLS := Lib.hid hls2
        have HTL := Lib.hid htl
        have hN32 : m = 32 * (m / 32) := by omega
        have hN250 : m / 32 ≤ 250 := by omega
        have HN32 := Lib.hid hN32
        clear hun hc hjl hN32 hls hwj hls2 htl
        go_enter Try.func39, Try.ntmps39
        go_upto_region 7 with (first
          | (go_at_call 30; refine (RCheck_any _ _ _ b _ hm HR.out).mono ?_; rintro e w1 ⟨rfl, hb1⟩; rw [HC.out])
          | (go_at_call 26; refine (RRecover_ok _ _ _ b _ hm8 (HR.out.mono hb1 (Nat.le_refl _))).mono ?_; rintro e w2 ⟨a2, c2, rfl, ho2, hb2⟩))
        obtain ⟨a3, c3, hsl, hR3⟩ := slice_h (P := Try.prog) (row_of_own ho2) Try.und34 Try.size9 (((read b).length : Int) - k) (by omega) (by omega)
        rw [show (((read b).length : Int) - k).toNat = (read b).length - k from by omega] at hR3
        simp only [show (((read b).length : Int) - k).toNat = (read b).length - k from by omega] at hsl
        rw [Nat.mul_one, ← List.map_take] at hR3
        have HR3 := Lib.hid hR3
        have hbw := hb1.trans (hb2.mono hb1.size)
        have HBW := Lib.hid hbw
        clear hR3 ho2 hb1 hb2 hbw
        go_upto_region 9 with (first
          | (go_at_call 33; refine (RWrite_any _ _ _ _ _ HR3.out (by omega) HLS.out).mono ?_; rw [HWJ.out]; rintro e w4 ⟨rfl, hb4⟩)
          | (go_at_call 60; have hb5' := hb5; refine (Blocks_any _ _ _ _ _ b _ _ (m / 32) hN250 HN32.out (HR.out.mono (HBW.out.trans ((hb4.mono HBW.out.size).trans (hb5.mono (Nat.le_trans HBW.out.size hb4.size)))) (Nat.le_refl _)) HR5.out).mono ?_; rintro e w6 ⟨a6, c6, xs6, rfl, ho6, hw6, hb6⟩)
          | (go_at_call 61; refine (With_any _ _ _ HJL.out hm8).mono ?_; rintro e w5 ⟨a5, c5, rfl, ho5, hb5⟩; have HR5 := Lib.hid (row_of_own ho5); clear ho5))
        have htd : blocks b (pad (journal ((read b).take ((read b).length - k))) m) = toD b (journal ((read b).take ((read b).length - k))) := by rw [toD, HBL.out]
        rw [htd] at ho6 hw6 ⊢
        generalize htw : toD b (journal ((read b).take ((read b).length - k))) = up at *
        have s5 : w.heap.size ≤ w5.heap.size := Nat.le_trans HBW.out.size (Nat.le_trans hb4.size hb5.size)
        have hbx := HBW.out.trans ((hb4.mono HBW.out.size).trans ((hb5.mono (Nat.le_trans HBW.out.size hb4.size)).trans (hb6.mono s5)))
        have HO6 := Lib.hid (row_of_own ho6)
        have hof := ownsRow_weaken ho6 s5
        have HF6 := Lib.hid ((hw6.weaken s5).toF)
        have HBX := Lib.hid hbx
        have hul : up.length ≤ 8000 := HTL.out
        clear ho6 hw6 hb4 hb5 hb6 hbx hof HBW
        go_wp2
        go_loopw [13, 14] (fun t13 t14 wr => ∃ (q : Nat) (a7 : Option Addr) (c7 : Nat) (ys : List Value), q ≤ up.length ∧ t14 = .int .i64 ((q : Int) - 1) ∧ t13 = .slice a7 (up.length - q) c7 ∧ wr.ownsRow w6.heap.size 58 2 (.slice a7 (up.length - q) c7) (up.length - q) ys ∧
          WrO w.heap.size wr ys (up.drop q).reverse ∧ Below w6.heap.size w6 wr) (fun _ i _ => ((intOf i) + 1).toNat)
        case atStart =>
          refine ⟨up.length, some ⟨w6.heap.size, 0, none⟩, 0, [], Nat.le_refl _, by go_num, by rw [Nat.sub_self], ?_, ?_, (Below.refl _ _).alloc (Nat.le_refl _) _⟩
          · rw [Nat.sub_self]; exact World.ownsRow_made w6 #[] 0 (Nat.le_refl _) (by decide) rfl
          · rw [List.drop_length]; exact trivial
        case round =>
          obtain ⟨q, a7, c7, ys, hq, rfl, rfl, hown, hwr, hb6⟩ := hrel
          have HO7 := Lib.hid hown
          have HW7 := Lib.hid hwr
          have HB7 := Lib.hid hb6
          clear hown hwr hb6
          by_cases hq0 : q = 0
          · subst hq0
            go_wp2
            go_ret2
            rw [HUN.out]
            have hr := HW7.out
            rw [List.drop_zero] at hr
            have hs6 := HBX.out.size
            exact retWrE_mk (by simp) (ownsRow_weaken HO7.out hs6) hr (HBX.out.trans (HB7.out.mono hs6))
          · obtain ⟨p, rfl⟩ : ∃ p, q = p + 1 := ⟨q - 1, by omega⟩
            have hp : p < up.length := by omega
            obtain ⟨d1, y, d2, d3⟩ := HF6.out.2 p hp
            obtain ⟨ay, cy, rfl, _⟩ := own_row d3
            obtain ⟨bb, oo, rfl, hbb, hcc⟩ := (HO6.out.mono HB7.out (Nat.le_refl _)).some (by omega)
            obtain ⟨l1, e1⟩ := List.getElem?_eq_some_iff.1 d1
            obtain ⟨l2, e2⟩ := List.getElem?_eq_some_iff.1 d2
            have x1 := hcc _ l1
            have x2 := hcc _ l2
            rw [e1] at x1
            rw [e2, ← Nat.add_assoc] at x2
            have hy7 := own_below' d3 HB7.out
            have HY := Lib.hid hy7
            generalize hnl : up[p].2.length = nl at *
            have hpp : (((p + 1 : Nat) : Int) - 1) = (p : Int) := by omega
            rw [hpp]
            have hsz := HB7.out.size
            clear hcc d2 d3 e1 e2 hy7
            go_wp2_with (at_builtin; refine wpList_append_own _ rfl (.tmp 58) (.tmp 63) 39 rfl w6.heap.size 58 i0 _ 2 32 Try.underlying39 hi hz0 hz1 hz2 rfl (by decide) _ _ ys rfl (HO7.out.alloc _) ⟨wr.heap.size, 0, none⟩ 1 1 [.int .i64 up[p].1, .slice ay nl cy] rfl rfl (two_cells _ _ _ _) (by intro u hu; simp at hu; rcases hu with rfl | rfl <;> rfl) (by unfold maxLen; omega) (by omega) (by simp only [World.size_alloc]; omega) ?_; intro v' w8 hown' hgrow _; obtain ⟨g', cap', rfl⟩ := ownsRow_succ hown')
            go_roundw
            case rel =>
              have hrow := HO7.out.alloc (.cells #[.int .i64 up[p].1, .slice ay nl cy] 58)
              have hkeep : ∀ y k zs, wr.ownsRow w.heap.size 5 1 y k zs → w8.ownsRow w.heap.size 5 1 y k zs := fun y k zs hy => (hy.alloc _).kept hgrow (ownsRow_two (hy.alloc _) hrow (by decide))
              have hlen : up.length - (p + 1) + 1 = up.length - p := by omega
              refine ⟨p, some ⟨g', 0, none⟩, cap', ys ++ [.int .i64 up[p].1, .slice ay nl cy], by omega, rfl, by rw [hlen], by rw [hlen] at hown'; exact hown', ?_, own_grown (HB7.out.alloc (by omega) _) hrow hgrow (by simp only [World.size_alloc]; omega)⟩
              rw [drop_rev up p hp]
              exact (HW7.out.imp hkeep).snoc (by have h1 := hkeep _ _ _ HY.out; have h2 : (up.get ⟨p, hp⟩).2.length = nl := hnl; rw [h2]; exact h1)
            case measure => simp [intOf]
  · have hne : (checkD b != 0) = true := by simpa using hc
    have hap : undoJ b many = ([], checkD b) := by rw [undoJ, if_pos hc]
    have HAP := Lib.hid hap
    clear hap hc
    go_enter Try.func39, Try.ntmps39
    go_wp2_with (go_at_call 30; refine (RCheck_any _ _ _ b _ hm HR.out).mono ?_; rintro e w1 ⟨rfl, hb1⟩)
    go_ret2
    rw [HAP.out]
    exact RetWrE.none rfl rfl hb1
end Go.Proofs.Ytphalijdanmkeaa
