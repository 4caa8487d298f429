/- Crash: the walk. -/
import Derived.Test.YtphalijdanmkeaaAI
namespace Go.Proofs.Ytphalijdanmkeaa
open Go.RowKit Go.Shelf J

/-- the writes that are kept -/
def J.kept : List (Int × List UInt8) → List Bool → List (Int × List UInt8)
  | w :: l, k :: ks => if k then w :: kept l ks else kept l ks
  | _, _ => []
/-- a device after writes of which the last one is torn -/
def J.tornW (b : List UInt8) (l : List (Int × List UInt8)) (torn : Nat) : List UInt8 := match l.getLast? with
  | none => b
  | some w => putB (applyW b l.dropLast) w.1.toNat w.2 torn
def J.crashJ (b : List UInt8) (l : List (Int × List UInt8)) (keep : List Bool) (torn : Int) : List UInt8 × Int :=
  if checkW b l ≠ 0 then ([], checkW b l) else if keep.length = l.length ∧ 0 ≤ torn ∧ torn ≤ 32 then (tornW b (kept l keep) torn.toNat, 0) else ([], 3)

theorem kept_snoc : ∀ (l : List (Int × List UInt8)) (ks : List Bool) (w : Int × List UInt8) (k : Bool), l.length = ks.length → kept (l ++ [w]) (ks ++ [k]) = kept l ks ++ (if k then [w] else [])
  | [], [], w, k, _ => by cases k <;> rfl
  | x :: l, y :: ks, w, k, h => by
    have ih := kept_snoc l ks w k (by simpa using h)
    simp only [List.cons_append, kept, ih]
    split <;> simp
  | [], _ :: _, _, _, h => by simp at h
  | _ :: _, [], _, _, h => by simp at h
theorem kept_sub : ∀ (l : List (Int × List UInt8)) (ks : List Bool), ∀ w ∈ kept l ks, w ∈ l
  | [], _, w, h => by simp [kept] at h
  | x :: l, [], w, h => by simp [kept] at h
  | x :: l, k :: ks, w, h => by
    simp only [kept] at h
    split at h
    · rcases List.mem_cons.1 h with rfl | h
      · exact List.mem_cons_self ..
      · exact List.mem_cons_of_mem _ (kept_sub l ks w h)
    · exact List.mem_cons_of_mem _ (kept_sub l ks w h)
theorem kept_len : ∀ (l : List (Int × List UInt8)) (ks : List Bool), (kept l ks).length ≤ l.length
  | [], _ => by simp [kept]
  | x :: l, [] => by simp [kept]
  | x :: l, k :: ks => by
    have := kept_len l ks
    simp only [kept]
    split <;> simp <;> omega
theorem tornW_all {b : List UInt8} {l : List (Int × List UInt8)} {k torn : Nat} (h : k + 1 = l.length) : tornW b l torn = putB (applyW b (l.take k)) (l[k]'(by omega)).1.toNat (l[k]'(by omega)).2 torn := by
  have h1 : l.getLast? = some (l[k]'(by omega)) := by rw [List.getLast?_eq_getElem?, show l.length - 1 = k from by omega, List.getElem?_eq_getElem]
  have h2 : l.dropLast = l.take k := by rw [List.dropLast_eq_take, show l.length - 1 = k from by omega]
  simp only [tornW, h1, h2]
theorem tornW_length {b : List UInt8} {l : List (Int × List UInt8)} {torn : Nat} (h : ∀ w ∈ l, fits b.length w = true) (ht : torn ≤ 32) : (tornW b l torn).length = b.length := by
  cases hl : l.length with
  | zero => obtain rfl := List.eq_nil_of_length_eq_zero hl; rfl
  | succ k =>
    rw [tornW_all hl.symm]
    have ha := applyW_length (l.take k) b (fun w hw => h w (List.mem_of_mem_take hw))
    obtain ⟨n, h1, h2, h3⟩ := fits_ok (h _ (List.getElem_mem (show k < l.length by omega)))
    rw [putB_length (by rw [h1, Int.toNat_natCast, ha]; omega) (by omega), ha]

theorem WrR.snoc {W : World} {y : Value} {n : Int} {b : List UInt8} (h2 : AtB W y b) : ∀ {xs : List Value} {bs : List (Int × List UInt8)}, WrR W xs bs → WrR W (xs ++ [.int .i64 n, y]) (bs ++ [(n, b)])
  | [], [], _ => ⟨rfl, h2, trivial⟩
  | _ :: _ :: _, (_, _) :: _, ⟨k1, k2, k3⟩ => ⟨k1, k2, WrR.snoc h2 k3⟩
theorem two_cells' (W : World) (u0 u1 : Value) (e : TypeId) (n : Nat) (hn : n = W.heap.size) (j : Nat) (u : Value) (hj : [u0, u1][j]? = some u) : (W.alloc (.cells #[u0, u1] e)).cell? ((⟨n, 0, none⟩ : Addr).add j) = some u := by
  subst hn
  exact two_cells W u0 u1 e j u hj

abbrev boolV (k : Bool) : Value := .bool k
theorem bool_at {W : World} {b o : Nat} {l : List Bool} (hc : ∀ i (h : i < (l.map boolV).length), W.cell? ⟨b, o + i, none⟩ = some (l.map boolV)[i]) (k : Nat) (h : k < l.length) : W.cell? ⟨b, o + k, none⟩ = some (.bool l[k]) := by
  rw [hc k (by simpa using h)]
  simp

set_option maxRecDepth 100000 in
set_option maxHeartbeats 4000000 in
theorem Crash_any (a a2 a3 : Option Addr) (m c c2 n3 c3 : Nat) (b : List UInt8) (l : List (Int × List UInt8)) (ks : List Bool) (torn : Int) (w : World) (hm : m ≤ 140737488355328) (hl : l.length ≤ 1000000) (hn3 : n3 ≤ 140737488355328) (hb : Row 1 w a m c (b.map byteV)) (h : Writes w a2 c2 l) (h3 : Row 1 w a3 n3 c3 (ks.map boolV)) :
    Calls Try.prog 42 #[.slice a m c, .slice a2 l.length c2, .slice a3 n3 c3, .int .i64 torn] w (RetB w (crashJ b l ks torn).1 (crashJ b l ks torn).2) := by
  obtain ⟨i0, hi, hz0, hz1, hz2⟩ := info_parts Try.info58
  have hbl : b.length = m := by simpa using hb.1
  have hkl : ks.length = n3 := by simpa using h3.1
  have HR := Lib.hid hb
  have HWR := Lib.hid h
  have HK3 := Lib.hid h3
  have hl' : l.length ≤ 140737488355328 := by omega
  clear hb h h3
  by_cases hc : checkW b l = 0
  · obtain ⟨hf, hfit⟩ := checkW_ok hc
    have hle := formed_eq b
    rw [hf] at hle
    have hle2 : b.length ≤ 8000 ∧ 0 < b.length := by simp at hle; omega
    have HC := Lib.hid hc
    have HF := Lib.hid hfit
    by_cases hkn : n3 = l.length
    · have hkb : ((n3 : Int) != (l.length : Int)) = false := by simp [hkn]
      by_cases ht : (decide (0 ≤ torn) && decide (torn ≤ 32)) = true
      · have HT := Lib.hid ht
        have hcr : crashJ b l ks torn = (tornW b (kept l ks) torn.toNat, 0) := by
          rw [crashJ, if_neg (by simp [hc]), if_pos]
          simp at ht
          exact ⟨by omega, by omega, by omega⟩
        have HCR := Lib.hid hcr
        clear hc hf hfit hle ht hcr
        go_enter Try.func42, Try.ntmps42
        go_wp2_with (first
          | (go_at_call 68; refine (Clone_any _ _ _ b _ HR.out hm).mono ?_; rintro e w1 ⟨a1, c1, rfl, ho1, hb1⟩; have HO1 := Lib.hid ho1; clear ho1)
          | (go_at_call 69; refine (checkW_any _ _ _ _ _ b l _ hm hl' hbl (HWR.out.mono hb1 (Nat.le_refl _))).mono ?_; rintro e w2 ⟨rfl, hb2⟩; rw [HC.out])
          | (go_at_call 48; refine (within_any _ _ _ _).mono ?_; rintro e w3 ⟨rfl, rfl⟩; rw [HT.out]))
        obtain ⟨g, rfl⟩ : ∃ g, a1 = some ⟨g, 0, none⟩ := by
          rcases HO1.out.2 with ⟨_, h⟩ | ⟨g, cap, _, e, _⟩
          · omega
          · cases e; exact ⟨g, rfl⟩
        have HO2 := Lib.hid (own_below HO1.out hb2)
        have hb12 := hb1.trans (hb2.mono hb1.size)
        have HB2 := Lib.hid hb12
        clear hb1 hb2 hb12 HO1
        go_loopw [12, 13, 14, 38] (fun t12 _ _ i wr => ∃ (k : Nat) (a7 : Option Addr) (c7 : Nat) (xs : List Value), k ≤ l.length ∧ i = .int .i64 k ∧ t12 = .slice a7 (kept (l.take k) (ks.take k)).length c7 ∧
          wr.ownsRow w2.heap.size 58 2 (.slice a7 (kept (l.take k) (ks.take k)).length c7) (kept (l.take k) (ks.take k)).length xs ∧ WrR w xs (kept (l.take k) (ks.take k)) ∧ Below w2.heap.size w2 wr) (fun _ _ _ i _ => l.length - (intOf i).toNat)
        case atStart => exact ⟨0, none, 0, [], Nat.zero_le _, rfl, rfl, World.ownsRow_nil _ _ _ _, trivial, Below.refl _ _⟩
        case round =>
          obtain ⟨k, a7, c7, xs, hk, rfl, rfl, hown, hwr, hbw⟩ := hrel
          have HO := Lib.hid hown
          have HW := Lib.hid hwr
          have HB := Lib.hid hbw
          clear hown hwr hbw
          have hBw := HB2.out.trans (HB.out.mono HB2.out.size)
          have hsw := HB.out.size
          by_cases hlt : k < l.length
          · obtain ⟨bb, oo, rfl, hbb, hcc⟩ := HWR.out.at (by omega)
            obtain ⟨x1, a5, c5, x2, r2⟩ := hcc k hlt
            have y1 := (hBw.cell (p := ⟨bb, oo + k * 2, none⟩) hbb).trans x1
            have y2 := (hBw.cell (p := ⟨bb, oo + k * 2 + 1, none⟩) hbb).trans x2
            obtain ⟨b3, o3, rfl, hb3, hc3⟩ := (HK3.out.mono hBw (Nat.le_refl _)).some (by omega)
            have z1 := bool_at hc3 k (by omega)
            have hsn := kept_snoc (l.take k) (ks.take k) l[k] (ks[k]'(by omega)) (by simp; omega)
            rw [← List.take_succ_eq_append_getElem hlt, ← List.take_succ_eq_append_getElem (show k < ks.length by omega)] at hsn
            have HSN := Lib.hid hsn
            have R2 := Lib.hid r2
            have hkl2 := kept_len (l.take k) (ks.take k)
            rw [List.length_take] at hkl2
            clear hcc hc3 r2 hsn x1 x2
            generalize hkk : ks[k]'(by omega) = kk at *
            cases kk with
            | true =>
              go_wp2_with (at_builtin; refine wpList_append_own _ rfl (.tmp 47) (.tmp 49) 39 rfl w2.heap.size 58 i0 _ 2 32 Try.underlying39 hi hz0 hz1 hz2 rfl (by decide) _ _ xs rfl ((HO.out.alloc _).alloc _) ⟨wr.heap.size + 1, 0, none⟩ 1 1 [.int .i64 l[k].1, .slice a5 l[k].2.length c5] rfl rfl (two_cells' _ _ _ _ _ (by simp only [World.size_alloc])) (by intro u hu; simp at hu; rcases hu with rfl | rfl <;> rfl) (by unfold maxLen; omega) (by omega) (by simp only [World.size_alloc]; omega) ?_; intro v' w8 hown' hgrow _; obtain ⟨g', cap', rfl⟩ := ownsRow_succ hown')
              go_roundw
              case rel =>
                refine ⟨k + 1, some ⟨g', 0, none⟩, cap', xs ++ [.int .i64 l[k].1, .slice a5 l[k].2.length c5], by omega, by go_num, ?_⟩
                have hs := HSN.out
                simp only [if_true] at hs
                rw [hs, List.length_append, List.length_singleton]
                exact ⟨rfl, hown', HW.out.snoc ⟨a5, c5, rfl, R2.out⟩, own_grown ((HB.out.alloc hsw _).alloc (by simp only [World.size_alloc]; omega) _) ((HO.out.alloc _).alloc _) hgrow (by simp only [World.size_alloc]; omega)⟩
              case measure => simp [intOf]; omega
            | false =>
              go_wp2
              go_roundw
              case rel =>
                refine ⟨k + 1, a7, c7, xs, by omega, by go_num, ?_⟩
                have hs := HSN.out
                simp only [Bool.false_eq_true, if_false, List.append_nil] at hs
                rw [hs]
                exact ⟨rfl, HO.out.alloc _, HW.out, HB.out.alloc hsw _⟩
              case measure => simp [intOf]; omega
          · obtain rfl : k = l.length := by omega
            have ek : kept (l.take l.length) (ks.take l.length) = kept l ks := by rw [List.take_length, List.take_of_length_le (by omega)]
            have ho := HO.out
            have hw' := HW.out
            rw [ek] at ho hw'
            have hkl3 := kept_len l ks
            have hsub := kept_sub l ks
            obtain ⟨tn, rfl⟩ : ∃ tn : Nat, torn = (tn : Int) := ⟨torn.toNat, by have := HT.out; simp at this; omega⟩
            have htn : tn ≤ 32 := by have := HT.out; simp at this; omega
            rw [ek]
            generalize hkk : kept l ks = kl at *
            have HO7 := Lib.hid ho
            have HW7 := Lib.hid hw'
            have HSUB := Lib.hid hsub
            have HD := Lib.hid (own_below HO2.out HB.out)
            have HBW := Lib.hid hBw
            clear ho hw' hsub HO HW HO2
            go_wp2
            go_loopw [15, 16, 17, 54] (fun _ _ _ i wr2 => ∃ k : Nat, k ≤ kl.length ∧ i = .int .i64 k ∧ wr2.ownsRow w.heap.size 5 1 (.slice (some ⟨g, 0, none⟩) m c1) m ((if k = kl.length then tornW b kl tn else applyW b (kl.take k)).map byteV) ∧ wr2.ownsRow w2.heap.size 58 2 (.slice a7 kl.length c7) kl.length xs ∧ Below w.heap.size w wr2) (fun _ _ _ i _ => kl.length - (intOf i).toNat)
            case atStart =>
              refine ⟨0, Nat.zero_le _, rfl, ?_, HO7.out, HBW.out⟩
              split
              · rename_i h0
                rw [List.eq_nil_of_length_eq_zero h0.symm]
                exact HD.out
              · exact HD.out
            case round =>
              obtain ⟨k, hk, rfl, hd, ho, hb⟩ := hrel
              have HDD := Lib.hid hd
              have HOO := Lib.hid ho
              have HBB := Lib.hid hb
              have hsz := hb.size
              clear hd ho hb
              by_cases hlt : k < kl.length
              · obtain ⟨g7, cap7, e7⟩ : ∃ g7 cap7, (.slice a7 kl.length c7 : Value) = .slice (some ⟨g7, 0, none⟩) kl.length cap7 := by
                  rcases HOO.out.2 with ⟨_, h⟩ | ⟨g7, cap7, _, e, _⟩
                  · omega
                  · exact ⟨g7, cap7, e⟩
                cases e7
                obtain ⟨d1, y, d2, a5, c5, rfl, r5⟩ := HW7.out.get k hlt
                have hadd : ∀ j, (⟨g7, 0, none⟩ : Addr).add j = ⟨g7, j, none⟩ := fun j => by unfold Addr.add; split <;> simp_all
                have x1 := HOO.out.cells (g := g7) rfl _ _ d1
                have x2 := HOO.out.cells (g := g7) rfl _ _ d2
                rw [hadd] at x1 x2
                obtain ⟨n, h1, h2, h3⟩ := fits_ok (HF.out _ (HSUB.out _ (List.getElem_mem hlt)))
                rw [h1] at x1
                rw [h3] at x2 r5
                have hdl : (applyW b (kl.take k)).length = m := by rw [applyW_length _ _ (fun x hx => HF.out x (HSUB.out x (List.mem_of_mem_take hx))), hbl]
                have hput := fun W many (hmany : many ≤ 32) (ho : W.ownsRow w.heap.size 5 1 (.slice (some ⟨g, 0, none⟩) m c1) m ((applyW b (kl.take k)).map byteV)) (hr : Row 1 W a5 32 c5 (kl[k].2.map byteV)) (hs : w.heap.size ≤ W.heap.size) =>
                  put_any w.heap.size g c1 n many (applyW b (kl.take k)) kl[k].2 a5 c5 W (by omega) h3 (by omega) hmany hs (by rw [hdl]; exact ho) hr
                simp only [hdl] at hput
                have hsn := applyW_snoc b (kl.take k) kl[k]
                rw [← List.take_succ_eq_append_getElem hlt, h1, Int.toNat_natCast] at hsn
                have hdd := HDD.out
                rw [if_neg (by omega)] at hdd
                have HD3 := Lib.hid hdd
                have HPUT := Lib.hid hput
                have HSN := Lib.hid hsn
                have R5 := Lib.hid r5
                have hne : (5 : TypeId) ≠ 58 := by decide
                clear r5 hput hsn hdd d1 d2
                by_cases hlast : k + 1 = kl.length
                · have ht1 : ((k : Int) == (kl.length : Int) - 1) = true := by simp; omega
                  have htw := tornW_all (b := b) (torn := tn) hlast
                  rw [h1, Int.toNat_natCast] at htw
                  have HTW := Lib.hid htw
                  clear htw
                  go_wp2_with (go_at_call 70; refine (HPUT.out _ tn htn (HD3.out.alloc _) (R5.out.mono (HBB.out.alloc hsz _) (Nat.le_refl _)) (by simp only [World.size_alloc]; omega)).mono ?_; rintro e w9 ⟨rfl, ho9, hb9, hg9⟩; have HO9 := Lib.hid ho9; clear ho9)
                  go_roundw
                  case rel =>
                    refine ⟨k + 1, by omega, by go_num, ?_, (HOO.out.alloc _).kept hg9 ((ownsRow_two HOO.out HD3.out (by decide)).imp id (fun h => h)), (HBB.out.alloc hsz _).trans hb9⟩
                    rw [if_pos hlast, HTW.out]
                    exact HO9.out
                  case measure => simp [intOf]; omega
                · have ht1 : ((k : Int) == (kl.length : Int) - 1) = false := by simp; omega
                  go_wp2_with (go_at_call 70; refine (HPUT.out _ 32 (Nat.le_refl _) (HD3.out.alloc _) (R5.out.mono (HBB.out.alloc hsz _) (Nat.le_refl _)) (by simp only [World.size_alloc]; omega)).mono ?_; rintro e w9 ⟨rfl, ho9, hb9, hg9⟩; have HO9 := Lib.hid ho9; clear ho9)
                  go_roundw
                  case rel =>
                    refine ⟨k + 1, by omega, by go_num, ?_, (HOO.out.alloc _).kept hg9 ((ownsRow_two HOO.out HD3.out (by decide)).imp id (fun h => h)), (HBB.out.alloc hsz _).trans hb9⟩
                    rw [if_neg (by omega), HSN.out]
                    exact HO9.out
                  case measure => simp [intOf]; omega
              · obtain rfl : k = kl.length := by omega
                go_wp2
                go_ret2
                have hd := HDD.out
                simp only [if_true] at hd
                rw [HCR.out]
                simp only [Int.toNat_natCast]
                exact RetB.mk (by rw [tornW_length (fun x hx => HF.out x (HSUB.out x hx)) htn, hbl]) hd HBB.out
      · have ht' := Bool.eq_false_iff.2 ht
        have HT := Lib.hid ht'
        have hcr : crashJ b l ks torn = ([], 3) := by
          rw [crashJ, if_neg (by simp [hc]), if_neg]
          simp at ht
          omega
        have HCR := Lib.hid hcr
        clear hc hf hfit hle ht ht' hcr
        go_enter Try.func42, Try.ntmps42
        go_wp2_with (first
          | (go_at_call 68; refine (Clone_any _ _ _ b _ HR.out hm).mono ?_; rintro e w1 ⟨a1, c1, rfl, ho1, hb1⟩; have HO1 := Lib.hid ho1; clear ho1)
          | (go_at_call 69; refine (checkW_any _ _ _ _ _ b l _ hm hl' hbl (HWR.out.mono hb1 (Nat.le_refl _))).mono ?_; rintro e w2 ⟨rfl, hb2⟩; rw [HC.out])
          | (go_at_call 48; refine (within_any _ _ _ _).mono ?_; rintro e w3 ⟨rfl, rfl⟩; rw [HT.out]))
        go_ret2
        rw [HCR.out]
        exact RetB.none rfl rfl (hb1.trans (hb2.mono hb1.size))
    · have hkb : ((n3 : Int) != (l.length : Int)) = true := by rw [bne_iff_ne]; omega
      have hcr : crashJ b l ks torn = ([], 3) := by
        rw [crashJ, if_neg (by simp [hc]), if_neg]
        omega
      have HCR := Lib.hid hcr
      clear hc hf hfit hle hcr
      go_enter Try.func42, Try.ntmps42
      go_wp2_with (first
        | (go_at_call 68; refine (Clone_any _ _ _ b _ HR.out hm).mono ?_; rintro e w1 ⟨a1, c1, rfl, ho1, hb1⟩; have HO1 := Lib.hid ho1; clear ho1)
        | (go_at_call 69; refine (checkW_any _ _ _ _ _ b l _ hm hl' hbl (HWR.out.mono hb1 (Nat.le_refl _))).mono ?_; rintro e w2 ⟨rfl, hb2⟩; rw [HC.out]))
      go_ret2
      rw [HCR.out]
      exact RetB.none rfl rfl (hb1.trans (hb2.mono hb1.size))
  · have hne : (checkW b l != 0) = true := by simpa using hc
    have hcr : crashJ b l ks torn = ([], checkW b l) := by rw [crashJ, if_pos hc]
    have HCR := Lib.hid hcr
    clear hcr hc
    go_enter Try.func42, Try.ntmps42
    go_wp2_with (first
      | (go_at_call 68; refine (Clone_any _ _ _ b _ HR.out hm).mono ?_; rintro e w1 ⟨a1, c1, rfl, ho1, hb1⟩; have HO1 := Lib.hid ho1; clear ho1)
      | (go_at_call 69; refine (checkW_any _ _ _ _ _ b l _ hm hl' hbl (HWR.out.mono hb1 (Nat.le_refl _))).mono ?_; rintro e w2 ⟨rfl, hb2⟩))
    go_ret2
    rw [HCR.out]
    exact RetB.none rfl rfl (hb1.trans (hb2.mono hb1.size))
end Go.Proofs.Ytphalijdanmkeaa
