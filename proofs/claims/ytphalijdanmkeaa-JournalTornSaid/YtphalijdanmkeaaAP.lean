/- Lines by bytes, and whether lines are the first ones of others: the walks. -/
import Derived.Test.YtphalijdanmkeaaV
import Derived.Deep.Cut
namespace Go.Proofs.Ytphalijdanmkeaa
open Go.RowKit Go.Shelf J

/-- a slice of slices of bytes, somewhere -/
def ByS (W : World) (a : Option Addr) (c : Nat) (l : List (List UInt8)) : Prop := ∃ ys, Row 1 W a l.length c ys ∧ ∀ i (h : i < l.length), ∃ y, ys[i]? = some y ∧ AtB W y l[i]
theorem ByS.mono {W W' : World} {a : Option Addr} {c : Nat} {l : List (List UInt8)} {B : Nat} (h : ByS W a c l) (hb : Below B W W') (hB : W.heap.size ≤ B) : ByS W' a c l :=
  let ⟨ys, r, k⟩ := h; ⟨ys, r.mono hb hB, fun i hi => let ⟨y, e, h⟩ := k i hi; ⟨y, e, h.mono hb hB⟩⟩
theorem ByS.at {W : World} {a : Option Addr} {c : Nat} {l : List (List UInt8)} (h : ByS W a c l) (hn : 0 < l.length) :
    ∃ b o, a = some ⟨b, o, none⟩ ∧ b < W.heap.size ∧ ∀ i (hi : i < l.length), ∃ a' c', W.cell? ⟨b, o + i, none⟩ = some (.slice a' l[i].length c') ∧ Row 1 W a' l[i].length c' (l[i].map byteV) := by
  obtain ⟨ys, r, k⟩ := h
  obtain ⟨b, o, rfl, hb, hc⟩ := r.some hn
  refine ⟨b, o, rfl, hb, fun i hi => ?_⟩
  obtain ⟨y, k2, a', c', rfl, hr⟩ := k i hi
  obtain ⟨l1, e1⟩ := List.getElem?_eq_some_iff.1 k2
  exact ⟨a', c', by rw [hc _ l1, e1], hr⟩

/-- a line by bytes -/
def J.lineC (c : UInt8) : UInt8 := 32 + c % 95
def J.lineD : List UInt8 := [97, 115, 107, 32, 98, 108, 97, 109, 101, 59]
def J.lineS (s : List UInt8) : List UInt8 := if s = [] then lineD else (s.take 100).map lineC
def J.linesS (l : List (List UInt8)) (most : Nat) : List (List UInt8) := (l.take most).map lineS

theorem lineC_nat (c : UInt8) : 32 + UInt8.ofNat (c.toNat % 95) = lineC c := by
  unfold lineC
  congr 1
  apply UInt8.toNat_inj.1
  show (c.toNat % 95) % 2 ^ 8 = c.toNat % 95
  exact Nat.mod_eq_of_lt (by omega)

theorem one_cell (W : World) (u0 : Value) (e : TypeId) (n : Nat) (hn : n = W.heap.size) (j : Nat) (u : Value) (hj : [u0][j]? = some u) : (W.alloc (.cells #[u0] e)).cell? ((⟨n, 0, none⟩ : Addr).add j) = some u := by
  subst hn
  match j, hj with
  | 0, hj => simp at hj; subst hj; simp [Addr.add]
  | j + 1, hj => simp at hj

theorem linesS_succ {l : List (List UInt8)} {k : Nat} (h : k < l.length) : linesS l (k + 1) = linesS l k ++ [lineS l[k]] := by
  unfold linesS
  rw [List.take_succ_eq_append_getElem h, List.map_append]
  rfl
theorem linesS_length {l : List (List UInt8)} {k : Nat} (h : k ≤ l.length) : (linesS l k).length = k := by simp [linesS]; omega

set_option maxRecDepth 100000 in
set_option maxHeartbeats 4000000 in
theorem LinesBy_any (a : Option Addr) (c most : Nat) (l : List (List UInt8)) (w : World) (hm : most ≤ 100) (h : ByS w a c l) :
    Calls Try.prog 34 #[.slice a l.length c, .int .i64 (most : Int)] w fun e w' => ∃ a' c', e = .returned (.slice a' (linesS l most).length c') ∧ w'.ownsRow w.heap.size 9 1 (.slice a' (linesS l most).length c') (linesS l most).length ((linesS l most).map strV) ∧ Below w.heap.size w w' := by
  obtain ⟨i9, hi9, hz9, hy9, hx9⟩ := info_parts Try.info9
  have HI := Lib.hid hi9
  have HZ := Lib.hid hz9
  have HY := Lib.hid hy9
  have HX := Lib.hid hx9
  have HB := Lib.hid h
  clear h hi9 hz9 hy9 hx9
  go_enter Try.func34, Try.ntmps34
  go_wp2
  go_loopw [5, 6, 7, 8] (fun v i _ _ wr => ∃ (k : Nat) (av : Option Addr) (cv : Nat), k ≤ l.length ∧ k ≤ most ∧ i = .int .i64 k ∧ v = .slice av k cv ∧ wr.ownsRow w.heap.size 9 1 (.slice av k cv) k ((linesS l k).map strV) ∧ Below w.heap.size w wr) (fun _ i _ _ _ => most - (intOf i).toNat)
  case atStart => exact ⟨0, _, _, Nat.zero_le _, Nat.zero_le _, rfl, rfl, World.ownsRow_made w #[] 0 (Nat.le_refl _) (by decide) rfl, (Below.refl _ w).alloc (Nat.le_refl _) _⟩
  case round =>
    obtain ⟨k, av, cv, hk, hkm, rfl, rfl, hown, hbw⟩ := hrel
    have HO := Lib.hid hown
    have HW := Lib.hid hbw
    clear hown hbw
    by_cases hlt : k < l.length
    · by_cases hlm : k < most
      · obtain ⟨bb, oo, rfl, hbb, hcc⟩ := HB.out.at (by omega)
        obtain ⟨a5, c5, x1, r5⟩ := hcc k hlt
        have X1 := Lib.hid x1
        have R5 := Lib.hid r5
        clear hcc x1 r5
        obtain ⟨wo, rfl⟩ : ∃ wo : World, wo = wr := ⟨_, rfl⟩
        go_wp2
        go_loopw [7, 8] (fun s j wr => ∃ q : Nat, q ≤ l[k].length ∧ q ≤ 100 ∧ j = .int .i64 q ∧ s = strV ((l[k].take q).map lineC) ∧ Below wo.heap.size wo wr) (fun _ j _ => 100 - (intOf j).toNat)
        case atStart => exact ⟨0, Nat.zero_le _, Nat.zero_le _, rfl, rfl, Below.refl _ _⟩
        case round =>
          obtain ⟨q, hq, hq100, rfl, rfl, hbw⟩ := hrel
          have HB2 := Lib.hid hbw
          clear hbw
          have hB3 := HW.out.trans (HB2.out.mono HW.out.size)
          have y1 := (hB3.cell (p := ⟨bb, oo + k, none⟩) hbb).trans X1.out
          by_cases hql : q < l[k].length
          · by_cases hqh : q < 100
            · obtain ⟨b5, o5, rfl, hb5, hc5⟩ := R5.out.some (by omega)
              have y2 := (hB3.cell (p := ⟨b5, o5 + q, none⟩) hb5).trans (hc5 q (by simpa using hql))
              simp only [List.getElem_map, byteV] at y2
              clear hc5
              have b0 : (0 : Int) ≤ 32 + (l[k][q].toNat : Int) % 95 := by omega
              have b1 : 32 + (l[k][q].toNat : Int) % 95 < 256 := by omega
              go_wp2
              go_roundw
              case rel =>
                refine ⟨q + 1, by omega, by omega, by go_num, ?_, HB2.out.alloc HB2.out.size _⟩
                show strV (List.take q (List.map lineC l[k]) ++ [32 + UInt8.ofNat (l[k][q].toNat % 95)]) = _
                rw [lineC_nat, List.take_succ_eq_append_getElem hql, List.map_append, List.map_take]
                rfl
              case measure => simp [intOf]; omega
            · have hS0 : (l[k].take q).map lineC ≠ [] := by
                intro h
                have h1 : ((l[k].take q).map lineC).length = q := by simp; omega
                rw [h] at h1
                simp at h1
                omega
              obtain ⟨S, hS⟩ : ∃ S, (l[k].take q).map lineC = S := ⟨_, rfl⟩
              rw [hS] at hS0 ⊢
              have hSe : S.isEmpty = false := by cases S <;> simp_all
              go_wp2_with (at_builtin; refine wpList_append_own _ rfl (.tmp 49) (.tmp 51) 34 rfl w.heap.size 9 i9 _ 1 16 Try.underlying34 HI.out HZ.out HY.out HX.out rfl (by decide) _ _ _ rfl ((own_below HO.out HB2.out).alloc _) ⟨wr.heap.size, 0, none⟩ 1 1 [strV S] rfl rfl (one_cell _ _ _ _ (by simp)) (by intro u hu; simp at hu; subst hu; rfl) (by unfold maxLen; omega) (by omega) (by have := hB3.size; simp only [World.size_alloc]; omega) ?_; intro v' w8 hown' hgrow _; obtain ⟨g', cap', rfl⟩ := ownsRow_succ hown')
              go_roundw
              case rel =>
                refine ⟨k + 1, some ⟨g', 0, none⟩, cap', by omega, by omega, by go_num, rfl, ?_, own_grown (hB3.alloc hB3.size _) ((own_below HO.out HB2.out).alloc _) hgrow (by have := hB3.size; simp only [World.size_alloc]; omega)⟩
                rw [linesS_succ hlt, List.map_append, show lineS l[k] = S from by rw [← hS, lineS, if_neg (by intro h; rw [h] at hql; simp at hql), show q = 100 by omega]]
                exact hown'
              case measure => simp [intOf]; omega
          · obtain rfl : q = l[k].length := by omega
            obtain ⟨S, hS⟩ : ∃ S, (l[k].take l[k].length).map lineC = S := ⟨_, rfl⟩
            rw [hS]
            by_cases hS0 : S = []
            · subst hS0
              go_wp2_with (at_builtin; refine wpList_append_own _ rfl (.tmp 49) (.tmp 51) 34 rfl w.heap.size 9 i9 _ 1 16 Try.underlying34 HI.out HZ.out HY.out HX.out rfl (by decide) _ _ _ rfl ((own_below HO.out HB2.out).alloc _) ⟨wr.heap.size, 0, none⟩ 1 1 [strV lineD] rfl rfl (one_cell _ _ _ _ (by simp)) (by intro u hu; simp at hu; subst hu; rfl) (by unfold maxLen; omega) (by omega) (by have := hB3.size; simp only [World.size_alloc]; omega) ?_; intro v' w8 hown' hgrow _; obtain ⟨g', cap', rfl⟩ := ownsRow_succ hown')
              go_roundw
              case rel =>
                refine ⟨k + 1, some ⟨g', 0, none⟩, cap', by omega, by omega, by go_num, rfl, ?_, own_grown (hB3.alloc hB3.size _) ((own_below HO.out HB2.out).alloc _) hgrow (by have := hB3.size; simp only [World.size_alloc]; omega)⟩
                rw [linesS_succ hlt, List.map_append, show lineS l[k] = lineD from by rw [List.take_length] at hS; rw [lineS, if_pos (by simpa using hS)]]
                exact hown'
              case measure => simp [intOf]; omega
            · have hSe : S.isEmpty = false := by cases S <;> simp_all
              go_wp2_with (at_builtin; refine wpList_append_own _ rfl (.tmp 49) (.tmp 51) 34 rfl w.heap.size 9 i9 _ 1 16 Try.underlying34 HI.out HZ.out HY.out HX.out rfl (by decide) _ _ _ rfl ((own_below HO.out HB2.out).alloc _) ⟨wr.heap.size, 0, none⟩ 1 1 [strV S] rfl rfl (one_cell _ _ _ _ (by simp)) (by intro u hu; simp at hu; subst hu; rfl) (by unfold maxLen; omega) (by omega) (by have := hB3.size; simp only [World.size_alloc]; omega) ?_; intro v' w8 hown' hgrow _; obtain ⟨g', cap', rfl⟩ := ownsRow_succ hown')
              go_roundw
              case rel =>
                refine ⟨k + 1, some ⟨g', 0, none⟩, cap', by omega, by omega, by go_num, rfl, ?_, own_grown (hB3.alloc hB3.size _) ((own_below HO.out HB2.out).alloc _) hgrow (by have := hB3.size; simp only [World.size_alloc]; omega)⟩
                rw [linesS_succ hlt, List.map_append, show lineS l[k] = S from by rw [← hS, List.take_length, lineS, if_neg (by intro h; exact hS0 (by rw [← hS, h]; rfl)), List.take_of_length_le (by omega)]]
                exact hown'
              case measure => simp [intOf]; omega
      · obtain rfl : k = most := by omega
        go_wp2
        go_ret
        have hll := linesS_length (l := l) (k := k) (by omega)
        refine ⟨av, cv, by rw [hll]; rfl, ?_, HW.out⟩
        rw [hll]
        exact HO.out
    · obtain rfl : k = l.length := by omega
      go_wp2
      go_ret
      have hll : linesS l most = linesS l l.length := by simp [linesS, List.take_of_length_le hkm]
      have hl2 := linesS_length (l := l) (k := l.length) (Nat.le_refl _)
      rw [hll]
      refine ⟨av, cv, by rw [hl2]; rfl, ?_, HW.out⟩
      rw [hl2]
      exact HO.out

set_option maxRecDepth 100000 in
set_option maxHeartbeats 4000000 in
/-- whether a list of lines is the beginning of another one -/
theorem firstOf_any (a b : Option Addr) (c d : Nat) (l k : List (List UInt8)) (w : World) (hn : l.length ≤ 140737488355328) (hm : k.length ≤ 140737488355328) (h : Row 1 w a l.length c (l.map strV)) (h' : Row 1 w b k.length d (k.map strV)) :
    Calls Try.prog 35 #[.slice a l.length c, .slice b k.length d] w fun e w' => e = .returned (.bool (l.isPrefixOf k)) ∧ Below w.heap.size w w' := by
  have HR := Lib.hid h
  have HR' := Lib.hid h'
  clear h h'
  go_enter Try.func35, Try.ntmps35
  go_wp2
  go_loopw [5] (fun i wr => ∃ j : Nat, j ≤ l.length ∧ j ≤ k.length ∧ i = .int .i64 j ∧ l.take j = k.take j ∧ Below w.heap.size w wr) (fun i _ => l.length - (intOf i).toNat)
  case atStart => exact ⟨0, Nat.zero_le _, Nat.zero_le _, rfl, rfl, Below.refl _ _⟩
  case round =>
    obtain ⟨j, hj, hjk, rfl, ht, hbw⟩ := hrel
    have HT := Lib.hid ht
    have HB := Lib.hid hbw
    clear ht hbw
    by_cases hlt : j < l.length
    · obtain ⟨b1, o1, rfl, hb1, hc1⟩ := (HR.out.mono HB.out (Nat.le_refl _)).some (by omega)
      have x1 := strs_at hc1 j hlt
      clear hc1
      by_cases hltk : j < k.length
      · obtain ⟨b2, o2, rfl, hb2, hc2⟩ := (HR'.out.mono HB.out (Nat.le_refl _)).some (by omega)
        have x2 := strs_at hc2 j hltk
        have hg1 : ¬ k.length ≤ j := by omega
        clear hc2
        by_cases he : l[j] = k[j]
        · have he' : (l[j] == k[j]) = true := by simpa using he
          have HH := Lib.hid he
          clear he
          go_wp2
          go_quiet (fail)
          go_wp2
          go_roundw
          case rel => exact ⟨j + 1, by omega, by omega, by go_num, take_eq_succ HT.out hlt hltk HH.out, HB.out.trans (below_drewN _ _ _)⟩
          case measure => simp [intOf]; omega
        · have he' : (l[j] == k[j]) = false := by simpa using he
          have HH := Lib.hid he
          clear he
          go_wp2
          go_quiet (fail)
          go_wp2
          go_ret
          refine ⟨ret_bool ?_, HB.out.trans (below_drewN _ _ _)⟩
          refine (Bool.eq_false_iff.2 fun hp => HH.out ?_).symm
          obtain ⟨r, hr⟩ := List.isPrefixOf_iff_prefix.1 hp
          simp only [← hr, List.getElem_append_left hlt]
      · have hg1 : k.length ≤ j := by omega
        go_wp2
        go_quiet (fail)
        go_wp2
        go_ret
        refine ⟨ret_bool ?_, HB.out.trans (below_drewN _ _ _)⟩
        refine (Bool.eq_false_iff.2 fun hp => ?_).symm
        have := (List.isPrefixOf_iff_prefix.1 hp).length_le
        omega
    · obtain rfl : j = l.length := by omega
      go_wp2
      go_ret
      refine ⟨ret_bool ?_, HB.out⟩
      have := HT.out
      rw [List.take_length] at this
      exact (List.isPrefixOf_iff_prefix.2 (this ▸ List.take_prefix _ _)).symm
end Go.Proofs.Ytphalijdanmkeaa
