/- A device after a storm: the walk. -/
import Derived.Test.YtphalijdanmkeaaAU
namespace Go.Proofs.Ytphalijdanmkeaa
open Go.RowKit Go.Shelf J

/-- which writes a storm keeps -/
def J.keepB (kb : List UInt8) (i : Nat) : Bool := decide (kb.length ≤ i) || decide (0 < (kb.getD i 0).toNat % 3)
def J.keepL (kb : List UInt8) (n : Nat) : List Bool := (List.range n).map (keepB kb)
theorem keepL_succ (kb : List UInt8) (n : Nat) : keepL kb (n + 1) = keepL kb n ++ [keepB kb n] := by simp [keepL, List.range_succ]
theorem keepL_length (kb : List UInt8) (n : Nat) : (keepL kb n).length = n := by simp [keepL]

theorem keepS3 {W1 w' : World} {p : Addr} {v : Value} (hc : W1.cell? p = some v) (hlt : p.block < W1.heap.size) (hb : Below W1.heap.size W1 w') : Below W1.heap.size W1 w' ∧ w'.cell? p = some v := ⟨hb, (hb.cell hlt).trans hc⟩

set_option maxRecDepth 100000 in
set_option maxHeartbeats 4000000 in
theorem after_any (ak a a2 : Option Addr) (nk ck m c c2 : Nat) (kb b : List UInt8) (tn : UInt8) (l : List (Int × List UInt8)) (w : World) (hk : Row 1 w ak nk ck (kb.map byteV)) (hm : m ≤ 140737488355328) (hl : l.length ≤ 1000000) (hs : ∀ x ∈ l, x.2.length ≤ 140737488355328)
    (hb : Row 1 w a m c (b.map byteV)) (h : Writes w a2 c2 l) :
    Calls Try.prog 47 #[.agg #[.slice ak nk ck, .int .u8 (tn.toNat : Int)], .slice a m c, .slice a2 l.length c2] w fun e w' => ∃ a' c', e = .returned (.tuple #[.slice a' (crashJ b l (keepL kb l.length) ((tn.toNat : Int) % 33)).1.length c', .int .i64 (crashJ b l (keepL kb l.length) ((tn.toNat : Int) % 33)).2]) ∧
      Row 1 w' a' (crashJ b l (keepL kb l.length) ((tn.toNat : Int) % 33)).1.length c' ((crashJ b l (keepL kb l.length) ((tn.toNat : Int) % 33)).1.map byteV) ∧ Below w.heap.size w w' := by
  obtain ⟨i4, hi4, hz4, hy4, hx4⟩ := info_parts Try.info4
  have HI := Lib.hid hi4
  have HZ := Lib.hid hz4
  have HY := Lib.hid hy4
  have HX := Lib.hid hx4
  have hkl : kb.length = nk := by simpa using hk.1
  have htn : tn.toNat < 256 := tn.toNat_lt
  have hB0 := (Below.refl _ w).alloc (Nat.le_refl _) (.cells #[.slice ak nk ck, .int .u8 (tn.toNat : Int)] 68)
  have HB0 := Lib.hid hB0
  have HK := Lib.hid (hk.mono hB0 (Nat.le_refl _))
  have HR := Lib.hid (hb.mono hB0 (Nat.le_refl _))
  have HWR := Lib.hid (h.mono hB0 (Nat.le_refl _))
  have HS := Lib.hid hs
  have hc0 : (w.alloc (.cells #[.slice ak nk ck, .int .u8 (tn.toNat : Int)] 68)).cell? ⟨w.heap.size, 0, none⟩ = some (.slice ak nk ck) := by simp
  have hc1 : (w.alloc (.cells #[.slice ak nk ck, .int .u8 (tn.toNat : Int)] 68)).cell? ⟨w.heap.size, 1, none⟩ = some (.int .u8 (tn.toNat : Int)) := by simp
  have hz1 : (w.alloc (.cells #[.slice ak nk ck, .int .u8 (tn.toNat : Int)] 68)).heap.size = w.heap.size + 1 := by simp
  clear hi4 hz4 hy4 hx4 hk hb h hs hB0
  go_enter Try.func47, Try.ntmps47
  go_upto_region 1 with fail
  generalize hW1 : w.alloc (.cells #[.slice ak nk ck, .int .u8 (tn.toNat : Int)] 68) = W1 at *
  have hlt0 : (⟨w.heap.size, 0, none⟩ : Addr).block < W1.heap.size := by rw [hz1]; exact Nat.lt_succ_self _
  have hlt1 : (⟨w.heap.size, 1, none⟩ : Addr).block < W1.heap.size := by rw [hz1]; exact Nat.lt_succ_self _
  have HL0 := Lib.hid hlt0
  have HL1 := Lib.hid hlt1
  have HC0 := Lib.hid hc0
  have HC1 := Lib.hid hc1
  clear hz1 hlt0 hlt1 hc0 hc1
  go_wp2
  go_loopw [8, 9] (fun v i wr => ∃ (k : Nat) (av : Option Addr) (cv : Nat), k ≤ l.length ∧ i = .int .i64 k ∧ v = .slice av k cv ∧ wr.ownsRow W1.heap.size 4 1 (.slice av k cv) k ((keepL kb k).map boolV) ∧ Below W1.heap.size W1 wr) (fun _ i _ => l.length - (intOf i).toNat)
  case atStart => exact ⟨0, _, _, Nat.zero_le _, rfl, rfl, World.ownsRow_made W1 #[] 0 (Nat.le_refl _) (by decide) rfl, (Below.refl _ W1).alloc (Nat.le_refl _) _⟩
  case round =>
    obtain ⟨k, av, cv, hk, rfl, rfl, hown, hbw⟩ := hrel
    have HO := Lib.hid hown
    have HB := Lib.hid hbw
    clear hown hbw
    by_cases hlt : k < l.length
    · have z0 := (HB.out.cell HL0.out).trans HC0.out
      by_cases hge : nk ≤ k
      · have hge' : (nk : Int) ≤ (k : Int) := by omega
        go_wp2_with (at_builtin; refine wpList_append_own _ rfl (.tmp 17) (.tmp 32) 54 rfl W1.heap.size 4 i4 _ 1 1 Try.underlying54 HI.out HZ.out HY.out HX.out rfl (by decide) _ _ _ rfl (HO.out.alloc _) ⟨wr.heap.size, 0, none⟩ 1 1 [.bool true] rfl rfl (one_cell _ _ _ _ (by simp)) (by intro u hu; simp at hu; subst hu; rfl) (by unfold maxLen; omega) (by omega) (by have := HB.out.size; simp only [World.size_alloc]; omega) ?_; intro v' w8 hown' hgrow _; obtain ⟨g', cap', rfl⟩ := ownsRow_succ hown')
        go_roundw
        case rel =>
          refine ⟨k + 1, some ⟨g', 0, none⟩, cap', by omega, by go_num, rfl, ?_, own_grown (HB.out.alloc HB.out.size _) (HO.out.alloc _) hgrow (by have := HB.out.size; simp only [World.size_alloc]; omega)⟩
          rw [keepL_succ, List.map_append, show keepB kb k = true from by rw [keepB, hkl, decide_eq_true hge]; rfl]
          exact hown'
        case measure => simp [intOf]; omega
      · have hkn : k < nk := by omega
        have hge' : ¬ (nk : Int) ≤ (k : Int) := by omega
        obtain ⟨b3, o3, rfl, hb3, hc3⟩ := (HK.out.mono HB.out (Nat.le_refl _)).some (by omega)
        have z1 := hc3 k (by simp; omega)
        obtain ⟨x, hx⟩ : ∃ x, kb[k]'(by omega) = x := ⟨_, rfl⟩
        simp only [List.getElem_map, hx, byteV] at z1
        have hgd : kb.getD k 0 = x := by rw [List.getD_eq_getElem?_getD, List.getElem?_eq_getElem (by omega), Option.getD_some, hx]
        have HGD := Lib.hid hgd
        clear hc3 hgd hx
        by_cases h3 : 0 < x.toNat % 3
        · have h3' : (0 : Int) < (x.toNat : Int) % 3 := by omega
          go_wp2_with (at_builtin; refine wpList_append_own _ rfl (.tmp 17) (.tmp 32) 54 rfl W1.heap.size 4 i4 _ 1 1 Try.underlying54 HI.out HZ.out HY.out HX.out rfl (by decide) _ _ _ rfl (HO.out.alloc _) ⟨wr.heap.size, 0, none⟩ 1 1 [.bool true] rfl rfl (one_cell _ _ _ _ (by simp)) (by intro u hu; simp at hu; subst hu; rfl) (by unfold maxLen; omega) (by omega) (by have := HB.out.size; simp only [World.size_alloc]; omega) ?_; intro v' w8 hown' hgrow _; obtain ⟨g', cap', rfl⟩ := ownsRow_succ hown')
          go_roundw
          case rel =>
            refine ⟨k + 1, some ⟨g', 0, none⟩, cap', by omega, by go_num, rfl, ?_, own_grown (HB.out.alloc HB.out.size _) (HO.out.alloc _) hgrow (by have := HB.out.size; simp only [World.size_alloc]; omega)⟩
            rw [keepL_succ, List.map_append, show keepB kb k = true from by rw [keepB, HGD.out, decide_eq_true h3, Bool.or_true]]
            exact hown'
          case measure => simp [intOf]; omega
        · have h3' : ¬ (0 : Int) < (x.toNat : Int) % 3 := by omega
          go_wp2_with (at_builtin; refine wpList_append_own _ rfl (.tmp 17) (.tmp 32) 54 rfl W1.heap.size 4 i4 _ 1 1 Try.underlying54 HI.out HZ.out HY.out HX.out rfl (by decide) _ _ _ rfl (HO.out.alloc _) ⟨wr.heap.size, 0, none⟩ 1 1 [.bool false] rfl rfl (one_cell _ _ _ _ (by simp)) (by intro u hu; simp at hu; subst hu; rfl) (by unfold maxLen; omega) (by omega) (by have := HB.out.size; simp only [World.size_alloc]; omega) ?_; intro v' w8 hown' hgrow _; obtain ⟨g', cap', rfl⟩ := ownsRow_succ hown')
          go_roundw
          case rel =>
            refine ⟨k + 1, some ⟨g', 0, none⟩, cap', by omega, by go_num, rfl, ?_, own_grown (HB.out.alloc HB.out.size _) (HO.out.alloc _) hgrow (by have := HB.out.size; simp only [World.size_alloc]; omega)⟩
            rw [keepL_succ, List.map_append, show keepB kb k = false from by rw [keepB, HGD.out, hkl, decide_eq_false h3, decide_eq_false hge]; rfl]
            exact hown'
          case measure => simp [intOf]; omega
    · obtain rfl : k = l.length := by omega
      have K1 := Lib.hid (row_of_own HO.out)
      have Z1 := Lib.hid ((HB.out.cell HL1.out).trans HC1.out)
      have hlw : (⟨w.heap.size, 1, none⟩ : Addr).block < wr.heap.size := Nat.lt_of_lt_of_le HL1.out HB.out.size
      have R1 := Lib.hid (HR.out.mono HB.out (Nat.le_refl _))
      have WR1 := Lib.hid (HWR.out.mono HB.out (Nat.le_refl _))
      have hlk := keepL_length kb l.length
      have hw1 : IntKind.i64.wrap (tn.toNat : Int) = (tn.toNat : Int) := by rw [IntKind.wrap_i64]; omega
      have hw2 : Int.tmod (tn.toNat : Int) 33 = (tn.toNat : Int) % 33 := Int.tmod_eq_emod_of_nonneg (by omega)
      go_upto_region 6 with fail
      go_region_held3 (fun w' => Below wr.heap.size wr w' ∧ w'.cell? ⟨w.heap.size, 1, none⟩ = some (.int .u8 (tn.toNat : Int))) (first
        | (refine keepS3 Z1.out hlw ?_; first
          | exact (Below.refl _ _).drew
          | exact Below.trans (And.left (by assumption)) (Below.mono hb6 (Below.size (And.left (by assumption))))
          | exact Below.trans (And.left (by assumption)) (Below.mono hb5 (Below.size (And.left (by assumption))))
          | exact Below.trans (And.left (by assumption)) (Below.mono hb4 (Below.size (And.left (by assumption))))
          | fail)
        | fail) (first
        | (go_at_call 21; refine (own_any _ _ _ b _ (R1.out.mono (And.left (by assumption)) (Nat.le_refl _)) hm).mono ?_; rintro e w4 ⟨a4, c4, rfl, ho4, hb4⟩; have R4 := Lib.hid (row_of_own ho4); clear ho4)
        | (go_at_call 46; refine (copied_any _ _ l _ hl HS.out (WR1.out.mono (And.left (by assumption)) (Nat.le_refl _))).mono ?_; rintro e w5 ⟨a5, c5, rfl, hr5, hb5⟩; have R5 := Lib.hid hr5; clear hr5)
        | (go_at_call 42; refine (Crash_any a4 a5 av m c4 c5 l.length cv b l (keepL kb l.length) ((tn.toNat : Int) % 33) _ hm hl (by omega) (R4.out.mono hb5 (Nat.le_refl _)) R5.out (K1.out.mono (And.left (by assumption)) (Nat.le_refl _))).mono ?_; rintro e w6 ⟨a6, c6, rfl, ho6, hb6⟩; have R6 := Lib.hid (row_of_own ho6); clear ho6)
        | fail)
      go_wp2
      go_ret2
      have hw6 : Below w.heap.size w w6 := HB0.out.trans ((HB.out.trans ((((Below.refl wr.heap.size wr).drew).trans ((ext hb4 (ext hb5 hb6)).mono (Nat.le_refl _))).mono HB.out.size)).mono HB0.out.size)
      exact ⟨a6, c6, rfl, R6.out, hw6⟩
end Go.Proofs.Ytphalijdanmkeaa
