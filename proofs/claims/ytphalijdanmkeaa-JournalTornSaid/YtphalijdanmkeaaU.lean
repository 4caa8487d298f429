/- The reference: a device that begins with a text; the blocks that differ; Clean; and whether two lists of writes are the same. -/
import Derived.Test.YtphalijdanmkeaaT
import Derived.Test.YtphalijdanmkeaaO
import Derived.Deep.Cut
namespace Go.Proofs.Ytphalijdanmkeaa
open Go.RowKit Go.Shelf J

theorem row_of_own {w : World} {B : Nat} {e : TypeId} {k : Nat} {a : Option Addr} {n c n' : Nat} {xs : List Value} (h : w.ownsRow B e k (.slice a n c) n' xs) : Row k w a n c xs := by
  obtain ⟨a2, c2, e, hr⟩ := own_row h
  cases e
  exact hr

theorem set_pad (s : List UInt8) (m k : Nat) (h : k < s.length) (hm : k < m) : ((s.take k ++ List.replicate (m - k) 0).map byteV).set k (byteV s[k]) = (s.take (k + 1) ++ List.replicate (m - (k + 1)) 0).map byteV := by
  rw [← List.map_set]
  congr 1
  rw [show m - k = (m - (k + 1)) + 1 from by omega, List.replicate_succ, List.set_append_right _ _ (by simp; omega), List.length_take, Nat.min_eq_left (Nat.le_of_lt h), Nat.sub_self, List.set_cons_zero, List.take_succ_eq_append_getElem h, List.append_assoc]
  rfl

set_option maxRecDepth 100000 in
set_option maxHeartbeats 2000000 in
theorem With_any (s : List UInt8) (m : Nat) (w : World) (hs : s.length ≤ m) (hm : m ≤ 8000) :
    Calls Try.prog 61 #[strV s, .int .i64 (m : Int)] w (RetOwn w 5 1 m ((pad s m).map byteV)) := by
  have hm' : (m : Int) ≤ 140737488355328 := by omega
  have hmk := fun W => run_mk W (m : Int) (by omega) hm'
  simp only [Int.toNat_natCast] at hmk
  have hsm : (s.length : Int) ≤ 8000 := by omega
  go_enter Try.func61, Try.ntmps61
  go_wp2
  go_loopw [6] (fun t6 wr => ∃ (k : Nat) (C : Array Value), k ≤ s.length ∧ t6 = .int .i64 k ∧ wr = w.alloc (.cells C 5) ∧ C.toList = (s.take k ++ List.replicate (m - k) 0).map byteV) (fun i _ => s.length - (intOf i).toNat)
  case atStart => exact ⟨0, zeros m, Nat.zero_le _, rfl, rfl, by simp [zeros, byteV]⟩
  case round =>
    obtain ⟨k, C, hk, rfl, rfl, hC⟩ := hrel
    have hCs : C.size = m := by rw [← Array.length_toList, hC]; simp; omega
    have HC := Lib.hid hC
    clear hC
    by_cases hlt : k < s.length
    · have hkC : k < C.size := by omega
      have hkm : (k : Int) < (m : Int) := by omega
      have hcell : (w.alloc (.cells C 5)).cell? ⟨w.heap.size, k, none⟩ = some C[k] := by simp [hkC]
      have hfrz : (w.alloc (.cells C 5)).frozen? ⟨w.heap.size, k, none⟩ = false := World.frozen?_alloc_new w C 5 k
      go_wp2
      go_roundw
      case rel =>
        refine ⟨k + 1, C.setIfInBounds k (byteV s[k]), by omega, by go_num, rfl, ?_⟩
        rw [Array.toList_setIfInBounds, HC.out]
        exact set_pad s m k hlt (by omega)
      case measure => simp [intOf]; omega
    · obtain rfl : k = s.length := by omega
      go_wp2
      go_ret
      refine ⟨_, _, rfl, ?_, (Below.refl _ _).alloc (Nat.le_refl _) _⟩
      have hC := HC.out
      rw [List.take_length, ← pad_eq s m hs] at hC
      rw [← hC]
      exact World.ownsRow_lit w C m (Nat.le_refl _) (by unfold maxLen; omega) (by omega)

theorem chunk_conv {w : World} {a : Option Addr} {m c : Nat} {b : List UInt8} (h : Row 1 w a m c (b.map byteV)) (k : Nat) (hk : 32 * k + 32 ≤ m) :
    ∃ a' c', (∀ W : World, (Instr.slice 22 (.slice a m c) (some (.int .i64 (32 * (k : Int)))) (some (.int .i64 (32 * (k : Int) + 32))) none).run Try.prog W = .ok (.slice a' 32 c') W) ∧ Row 1 w a' 32 c' ((chunk k b).map byteV) := by
  obtain ⟨a1, c1, h1, h2⟩ := slice_lh (P := Try.prog) h Try.und22 Try.size5 (32 * (k : Int)) (32 * (k : Int) + 32) (by omega) (by omega) (by omega)
  have e1 : (32 * (k : Int) + 32).toNat - (32 * (k : Int)).toNat = 32 := by omega
  have e2 : (32 * (k : Int)).toNat = 32 * k := by omega
  rw [e1] at h2
  simp only [e1] at h1
  simp only [e2, Nat.mul_one, ← List.map_drop, ← List.map_take] at h2
  exact ⟨a1, c1, h1, h2⟩

set_option maxRecDepth 100000 in
set_option maxHeartbeats 4000000 in
theorem Blocks_any (a a' : Option Addr) (m c c' : Nat) (b t : List UInt8) (w : World) (N : Nat) (hN : N ≤ 250) (hbm : m = 32 * N) (h : Row 1 w a m c (b.map byteV)) (h' : Row 1 w a' m c' (t.map byteV)) :
    Calls Try.prog 60 #[.slice a m c, .slice a' m c'] w (RetWr w (blocks b t)) := by
  have hmo : Try.prog.follows .mixedOrders = true := by kernel_rfl
  obtain ⟨i0, hi, hz0, hz1, hz2⟩ := info_parts Try.info58
  have hbl : b.length = m := by simpa using h.1
  have HR := Lib.hid h
  have HR' := Lib.hid h'
  have HBL := Lib.hid hbl
  have HM := Lib.hid hbm
  clear h h' hbl hbm
  have hm8 : (m : Int) ≤ 8000 := by have := HM.out; omega
  go_enter Try.func60, Try.ntmps60
  go_wp2
  go_loopw [5, 6] (fun t5 t6 wr => ∃ (n : Nat) (a5 : Option Addr) (c5 : Nat) (xs : List Value), n ≤ N ∧ t6 = .int .i64 n ∧ t5 = .slice a5 (blkI b t 0 (List.range n)).length c5 ∧ wr.ownsRow w.heap.size 58 2 (.slice a5 (blkI b t 0 (List.range n)).length c5) (blkI b t 0 (List.range n)).length xs ∧
    WrO w.heap.size wr xs (blkI b t 0 (List.range n)) ∧ Below w.heap.size w wr) (fun _ i _ => N - (intOf i).toNat)
  case atStart => exact ⟨0, _, _, [], Nat.zero_le _, rfl, rfl, World.ownsRow_made w #[] 0 (Nat.le_refl _) (by decide) rfl, trivial, (Below.refl _ _).alloc (Nat.le_refl _) _⟩
  case round =>
    obtain ⟨n, a5, c5, xs, hn, rfl, rfl, hown, hwr, hbw⟩ := hrel
    have HO := Lib.hid hown
    have HW := Lib.hid hwr
    have HB := Lib.hid hbw
    clear hown hwr hbw
    by_cases hlt : n < N
    · have hlt' : 32 * (n : Int) < (m : Int) := by have := HM.out; omega
      obtain ⟨a1, c1, hs1, hr1⟩ := chunk_conv (HR.out.mono HB.out (Nat.le_refl _)) n (by have := HM.out; omega)
      obtain ⟨a2, c2, hs2, hr2⟩ := chunk_conv (HR'.out.mono HB.out (Nat.le_refl _)) n (by have := HM.out; omega)
      have hcv1 := run_conv (P := Try.prog) (w := wr.drew) hr1 22 9 5 Try.underlying22 Try.underlying5 Try.underlying9
      have hcv2 := run_conv (P := Try.prog) (w := wr.drew) hr2 22 9 5 Try.underlying22 Try.underlying5 Try.underlying9
      have HR2 := Lib.hid hr2
      clear hr1 hr2
      have hsn := blkI_snoc b t n (List.range n) 0
      rw [← List.range_succ, List.length_range, Nat.zero_add] at hsn
      have HSN := Lib.hid hsn
      clear hsn
      have hw1 : IntKind.i64.wrap (32 * (n : Int)) = 32 * (n : Int) := by rw [IntKind.wrap_i64]; omega
      have hw2 : IntKind.i64.wrap (32 * (n : Int) + 32) = 32 * (n : Int) + 32 := by rw [IntKind.wrap_i64]; omega
      have hsw := HB.out.size
      by_cases he : (chunk n b == chunk n t) = false
      · have HE := Lib.hid he
        go_wp2
        refine Reg.region_J hmo (by kernel_rfl) (by kernel_rfl) (fun w => w = wr.drew) rfl ?_
        refine Reg.Walk.cons ?vA0 (Reg.StepP.pure rfl ?hA0) ?rA0
        case hA0 => intro w hJ; subst hJ; go_simp; rfl
        simp only [Act.put, List.setIfInBounds_toArray, List.set_cons_zero, List.set_cons_succ]
        refine Reg.Walk.cons ?vA1 (Reg.StepP.pure rfl ?hA1) ?rA1
        case hA1 => intro w hJ; subst hJ; go_simp; rfl
        simp only [Act.put, List.setIfInBounds_toArray, List.set_cons_zero, List.set_cons_succ]
        refine Reg.Walk.cons ?vA2 (Reg.StepP.pure rfl ?hA2) ?rA2
        case hA2 => intro w hJ; subst hJ; go_simp; rfl
        simp only [Act.put, List.setIfInBounds_toArray, List.set_cons_zero, List.set_cons_succ]
        refine Reg.Walk.cons ?vA3 (Reg.StepP.pure rfl ?hA3) ?rA3
        case hA3 => intro w hJ; subst hJ; go_simp; rfl
        simp only [Act.put, List.setIfInBounds_toArray, List.set_cons_zero, List.set_cons_succ]
        refine Reg.Walk.cons ?vA4 (Reg.StepP.pure rfl ?hA4) ?rA4
        case hA4 => intro w hJ; subst hJ; go_simp; rfl
        simp only [Act.put, List.setIfInBounds_toArray, List.set_cons_zero, List.set_cons_succ]
        refine Reg.Walk.cons ?vA5 (Reg.StepP.pure rfl ?hA5) ?rA5
        case hA5 => intro w hJ; subst hJ; go_simp; rfl
        simp only [Act.put, List.setIfInBounds_toArray, List.set_cons_zero, List.set_cons_succ]
        refine Reg.Walk.cons ?vA6 (Reg.StepP.pure rfl ?hA6) ?rA6
        case hA6 => intro w hJ; subst hJ; go_simp; rfl
        simp only [Act.put, List.setIfInBounds_toArray, List.set_cons_zero, List.set_cons_succ]
        refine Reg.Walk.cons ?vA7 (Reg.StepP.pure rfl ?hA7) ?rA7
        case hA7 => intro w hJ; subst hJ; go_simp; rfl
        simp only [Act.put, List.setIfInBounds_toArray, List.set_cons_zero, List.set_cons_succ]
        refine Reg.Walk.cons ?vA8 (Reg.StepP.pure rfl ?hA8) ?rA8
        case hA8 => intro w hJ; subst hJ; go_simp; rfl
        simp only [Act.put, List.setIfInBounds_toArray, List.set_cons_zero, List.set_cons_succ]
        refine Reg.Walk.cons ?vA9 (Reg.StepP.pure rfl ?hA9) ?rA9
        case hA9 => intro w hJ; subst hJ; go_simp; rfl
        simp only [Act.put, List.setIfInBounds_toArray, List.set_cons_zero, List.set_cons_succ]
        refine Reg.Walk.cons ?vA10 (Reg.StepP.pure rfl ?hA10) ?rA10
        case hA10 => intro w hJ; subst hJ; go_simp; rfl
        simp only [Act.put, List.setIfInBounds_toArray, List.set_cons_zero, List.set_cons_succ]
        refine Reg.Walk.cons ?vA11 (Reg.StepP.pure rfl ?hA11) ?rA11
        case hA11 => intro w hJ; subst hJ; go_simp; rfl
        simp only [Act.put, List.setIfInBounds_toArray, List.set_cons_zero, List.set_cons_succ]
        refine Reg.Walk.cons ?vA12 (Reg.StepP.pure rfl ?hA12) ?rA12
        case hA12 => intro w hJ; subst hJ; go_simp; rfl
        simp only [Act.put, List.setIfInBounds_toArray, List.set_cons_zero, List.set_cons_succ]
        refine Reg.Walk.cons ?vA13 (Reg.StepP.pure rfl ?hA13) ?rA13
        case hA13 => intro w hJ; subst hJ; go_simp; rfl
        simp only [Act.put, List.setIfInBounds_toArray, List.set_cons_zero, List.set_cons_succ]
        refine Reg.Walk.cons ?vA14 (Reg.StepP.pure rfl ?hA14) ?rA14
        case hA14 => intro w hJ; subst hJ; go_simp; rfl
        simp only [Act.put, List.setIfInBounds_toArray, List.set_cons_zero, List.set_cons_succ]
        refine Reg.Walk.cons ?vA15 (Reg.StepP.pure rfl ?hA15) ?rA15
        case hA15 => intro w hJ; subst hJ; go_simp; rfl
        simp only [Act.put, List.setIfInBounds_toArray, List.set_cons_zero, List.set_cons_succ]
        refine Reg.Walk.cons ?vA16 (Reg.StepP.pure rfl ?hA16) ?rA16
        case hA16 => intro w hJ; subst hJ; go_simp; rfl
        simp only [Act.put, List.setIfInBounds_toArray, List.set_cons_zero, List.set_cons_succ]
        refine .nil fun w3 hJ => ?_
        subst hJ
        have hW : Below wr.heap.size wr (wr.alloc (.cells #[] 5)).drew := ((Below.refl _ wr).alloc (Nat.le_refl _) _).drew
        have hown0 : (wr.alloc (.cells #[] 5)).drew.ownsRow w.heap.size 5 1 (.slice (some ⟨wr.heap.size, 0, none⟩) 0 0) 0 (([] : List UInt8).map byteV) := World.ownsRow_made wr #[] 0 hsw (by decide) rfl
        have hrow0 : Row 1 (wr.alloc (.cells #[] 5)).drew a2 32 c2 ((chunk n t).map byteV) := HR2.out.mono hW (Nat.le_refl _)
        have hsz0 : w.heap.size ≤ (wr.alloc (.cells #[] 5)).drew.heap.size := Nat.le_trans hsw hW.size
        have hlen := blkI_length b t (List.range n) 0
        rw [List.length_range] at hlen
        have HH := Lib.hid (And.intro hown0 hrow0)
        clear hown0 hrow0
        go_wp2_with (first
          | (at_builtin; have ho1' := hb1; refine wpList_append_own _ rfl (.tmp 32) (.tmp 44) 39 rfl w.heap.size 58 i0 _ 2 32 Try.underlying39 hi hz0 hz1 hz2 rfl (by decide) _ _ xs rfl ((own_below HO.out hb1).alloc _) ⟨w1.heap.size, 0, none⟩ 1 1 [.int .i64 (n : Int), .slice a3 32 c3] rfl rfl (two_cells _ _ _ _) (by intro u hu; simp at hu; rcases hu with rfl | rfl <;> rfl) (by unfold maxLen; omega) (by omega) (by have := hb1.size; simp only [World.size_alloc]; omega) ?_; intro v' w2 hown' hgrow _; obtain ⟨g', cap', rfl⟩ := ownsRow_succ hown')
          | (at_builtin; refine append_bytes rfl (.tmp 34) (.tmp 41) 22 rfl Try.underlying22 w.heap.size _ 0 [] rfl HH.out.1 a2 32 c2 (chunk n t) rfl HH.out.2 (by omega) hsz0 ?_; intro a3 c3 w1 ho1 hg1; have hb1 : Below wr.heap.size wr w1 := hW.grown hg1 hW.size (fun k e => by cases e; exact Nat.le_refl _); have HO1 := Lib.hid ho1; clear ho1 hg1))
        go_roundw
        case rel =>
          have hs := HSN.out
          rw [if_neg (by have := HE.out; simp at this; exact fun e => this e.symm)] at hs
          have hrow := (own_below HO.out hb1).alloc (.cells #[.int .i64 (n : Int), .slice a3 32 c3] 58)
          have hkeep : ∀ y k ys, w1.ownsRow w.heap.size 5 1 y k ys → w2.ownsRow w.heap.size 5 1 y k ys := fun y k ys hy => (hy.alloc _).kept hgrow (ownsRow_two (hy.alloc _) hrow (by decide))
          have hcl : (chunk n t).length = 32 := by have := HR2.out.1; simpa using this
          have hy : w2.ownsRow w.heap.size 5 1 (.slice a3 32 c3) (chunk n t).length ((chunk n t).map byteV) := by rw [hcl]; exact hkeep _ _ _ (by simpa using HO1.out)
          refine ⟨n + 1, some ⟨g', 0, none⟩, cap', xs ++ [.int .i64 (n : Int), .slice a3 32 c3], by omega, by go_num, ?_⟩
          rw [hs, List.length_append, List.length_singleton]
          have hs1 := hb1.size
          exact ⟨rfl, hown', ((HW.out.imp (fun y k ys hy => own_below hy hb1)).imp hkeep).snoc hy, own_grown ((HB.out.trans (hb1.mono hsw)).alloc (Nat.le_trans hsw hs1) _) hrow hgrow (by simp only [World.size_alloc]; omega)⟩
        case measure => simp [intOf]; omega
      · have he' : (chunk n b == chunk n t) = true := by simpa using he
        have HE := Lib.hid he'
        clear he
        go_wp2
        refine Reg.region_J hmo (by kernel_rfl) (by kernel_rfl) (fun w => w = wr.drew) rfl ?_
        refine Reg.Walk.cons ?vB0 (Reg.StepP.pure rfl ?hB0) ?rB0
        case hB0 => intro w hJ; subst hJ; go_simp; rfl
        simp only [Act.put, List.setIfInBounds_toArray, List.set_cons_zero, List.set_cons_succ]
        refine Reg.Walk.cons ?vB1 (Reg.StepP.pure rfl ?hB1) ?rB1
        case hB1 => intro w hJ; subst hJ; go_simp; rfl
        simp only [Act.put, List.setIfInBounds_toArray, List.set_cons_zero, List.set_cons_succ]
        refine Reg.Walk.cons ?vB2 (Reg.StepP.pure rfl ?hB2) ?rB2
        case hB2 => intro w hJ; subst hJ; go_simp; rfl
        simp only [Act.put, List.setIfInBounds_toArray, List.set_cons_zero, List.set_cons_succ]
        refine Reg.Walk.cons ?vB3 (Reg.StepP.pure rfl ?hB3) ?rB3
        case hB3 => intro w hJ; subst hJ; go_simp; rfl
        simp only [Act.put, List.setIfInBounds_toArray, List.set_cons_zero, List.set_cons_succ]
        refine Reg.Walk.cons ?vB4 (Reg.StepP.pure rfl ?hB4) ?rB4
        case hB4 => intro w hJ; subst hJ; go_simp; rfl
        simp only [Act.put, List.setIfInBounds_toArray, List.set_cons_zero, List.set_cons_succ]
        refine Reg.Walk.cons ?vB5 (Reg.StepP.pure rfl ?hB5) ?rB5
        case hB5 => intro w hJ; subst hJ; go_simp; rfl
        simp only [Act.put, List.setIfInBounds_toArray, List.set_cons_zero, List.set_cons_succ]
        refine Reg.Walk.cons ?vB6 (Reg.StepP.pure rfl ?hB6) ?rB6
        case hB6 => intro w hJ; subst hJ; go_simp; rfl
        simp only [Act.put, List.setIfInBounds_toArray, List.set_cons_zero, List.set_cons_succ]
        refine Reg.Walk.cons ?vB7 (Reg.StepP.pure rfl ?hB7) ?rB7
        case hB7 => intro w hJ; subst hJ; go_simp; rfl
        simp only [Act.put, List.setIfInBounds_toArray, List.set_cons_zero, List.set_cons_succ]
        refine Reg.Walk.cons ?vB8 (Reg.StepP.pure rfl ?hB8) ?rB8
        case hB8 => intro w hJ; subst hJ; go_simp; rfl
        simp only [Act.put, List.setIfInBounds_toArray, List.set_cons_zero, List.set_cons_succ]
        refine Reg.Walk.cons ?vB9 (Reg.StepP.pure rfl ?hB9) ?rB9
        case hB9 => intro w hJ; subst hJ; go_simp; rfl
        simp only [Act.put, List.setIfInBounds_toArray, List.set_cons_zero, List.set_cons_succ]
        refine Reg.Walk.cons ?vB10 (Reg.StepP.pure rfl ?hB10) ?rB10
        case hB10 => intro w hJ; subst hJ; go_simp; rfl
        simp only [Act.put, List.setIfInBounds_toArray, List.set_cons_zero, List.set_cons_succ]
        refine Reg.Walk.cons ?vB11 (Reg.StepP.pure rfl ?hB11) ?rB11
        case hB11 => intro w hJ; subst hJ; go_simp; rfl
        simp only [Act.put, List.setIfInBounds_toArray, List.set_cons_zero, List.set_cons_succ]
        refine Reg.Walk.cons ?vB12 (Reg.StepP.pure rfl ?hB12) ?rB12
        case hB12 => intro w hJ; subst hJ; go_simp; rfl
        simp only [Act.put, List.setIfInBounds_toArray, List.set_cons_zero, List.set_cons_succ]
        refine Reg.Walk.cons ?vB13 (Reg.StepP.pure rfl ?hB13) ?rB13
        case hB13 => intro w hJ; subst hJ; go_simp; rfl
        simp only [Act.put, List.setIfInBounds_toArray, List.set_cons_zero, List.set_cons_succ]
        refine Reg.Walk.cons ?vB14 (Reg.StepP.pure rfl ?hB14) ?rB14
        case hB14 => intro w hJ; subst hJ; go_simp; rfl
        simp only [Act.put, List.setIfInBounds_toArray, List.set_cons_zero, List.set_cons_succ]
        refine Reg.Walk.cons ?vB15 (Reg.StepP.pure rfl ?hB15) ?rB15
        case hB15 => intro w hJ; subst hJ; go_simp; rfl
        simp only [Act.put, List.setIfInBounds_toArray, List.set_cons_zero, List.set_cons_succ]
        refine Reg.Walk.cons ?vB16 (Reg.StepP.pure rfl ?hB16) ?rB16
        case hB16 => intro w hJ; subst hJ; go_simp; rfl
        simp only [Act.put, List.setIfInBounds_toArray, List.set_cons_zero, List.set_cons_succ]
        refine .nil fun w3 hJ => ?_
        subst hJ
        go_wp2
        go_roundw
        case rel =>
          have hs := HSN.out
          rw [if_pos (by have := HE.out; simp at this; exact this.symm), List.append_nil] at hs
          refine ⟨n + 1, a5, c5, xs, by omega, by go_num, ?_⟩
          rw [hs]
          exact ⟨rfl, HO.out, WrO.imp (W := wr) (W' := wr.drew) (fun _ _ _ h => h) HW.out, HB.out.drew⟩
        case measure => simp [intOf]; omega
    · obtain rfl : n = N := by omega
      have hlt' : ¬ 32 * (n : Int) < (m : Int) := by have := HM.out; omega
      go_wp2
      go_ret
      have ht : blocks b t = blkI b t 0 (List.range n) := by
        have h1 := HBL.out
        have h2 := HM.out
        rw [blocks, h1, show m / 32 = n from by omega, List.range_eq_range', blkI_blocks]
      rw [ht]
      exact ⟨a5, c5, xs, rfl, HO.out, HW.out, HB.out⟩

/-- what must be written so that a device is clean, and the error -/
def J.cleanJ (b : List UInt8) : List (Int × List UInt8) × Int := if formed b = false then ([], 4) else if clean b = true then ([], 6) else (toD b (b.take (good (read b))), 0)

theorem RetWr.err {w w1 w' : World} {bs : List (Int × List UInt8)} {a : Option Addr} {c : Nat} {xs : List Value} {B : Nat} (ho : w'.ownsRow B 58 2 (.slice a bs.length c) bs.length xs) (hw : WrO B w' xs bs) (hB : w.heap.size ≤ B) (hb : Below w.heap.size w w') (x : Int) :
    RetWrE w bs x (.returned (.tuple #[.slice a bs.length c, .int .i64 x])) w' := ⟨a, c, xs, rfl, ownsRow_weaken ho hB, hw.weaken hB, hb⟩

set_option maxRecDepth 100000 in
set_option maxHeartbeats 2000000 in
theorem Clean_any (a : Option Addr) (m c : Nat) (b : List UInt8) (w : World) (hm : m ≤ 140737488355328) (h : Row 1 w a m c (b.map byteV)) :
    Calls Try.prog 25 #[.slice a m c] w (RetWrE w (cleanJ b).1 (cleanJ b).2) := by
  have hbl : b.length = m := by simpa using h.1
  have HR := Lib.hid h
  have HBL := Lib.hid hbl
  clear h
  by_cases hf : formed b = true
  · have HF := Lib.hid hf
    by_cases hc : clean b = true
    · have hcj : cleanJ b = ([], 6) := by simp [cleanJ, hf, hc]
      have HC := Lib.hid hc
      have HCJ := Lib.hid hcj
      clear hf hc hcj
      go_enter Try.func25, Try.ntmps25
      go_wp2_with (first
        | (go_at_call 55; refine (formed_any _ _ _ b _ HBL.out hm).mono ?_; rintro e w1 ⟨rfl, rfl⟩; rw [HF.out])
        | (go_at_call 56; refine (clean_any _ _ _ b _ hm HR.out).mono ?_; rintro e w2 ⟨rfl, hb2⟩; rw [HC.out]))
      go_ret2
      rw [HCJ.out]
      exact RetWrE.none rfl rfl hb2
    · have hc' := Bool.eq_false_iff.2 hc
      have hcj : cleanJ b = (toD b (b.take (good (read b))), 0) := by simp [cleanJ, hf, hc']
      have hle := formed_eq b
      rw [hf] at hle
      have hle2 : b.length ≤ 8000 ∧ b.length % 32 = 0 := by simp at hle; omega
      have hg := read_good b
      have HC := Lib.hid hc'
      have HCJ := Lib.hid hcj
      have HL := Lib.hid hle2
      clear hf hc hc' hcj hle hle2
      go_enter Try.func25, Try.ntmps25
      have hg' : good (read b) ≤ m := by omega
      have hN32 : m = 32 * (m / 32) := by have := HL.out; omega
      have hN250 : m / 32 ≤ 250 := by have := HL.out; omega
      have hfit : (b.take (good (read b))).length ≤ m := by rw [List.length_take]; omega
      have HFIT := Lib.hid hfit
      have HN32 := Lib.hid hN32
      clear hfit hN32
      go_upto_region 7 with (first
        | (go_at_call 55; refine (formed_any _ _ _ b _ HBL.out hm).mono ?_; rintro e w1 ⟨rfl, rfl⟩; rw [HF.out])
        | (go_at_call 56; refine (clean_any _ _ _ b _ hm HR.out).mono ?_; rintro e w2 ⟨rfl, hb2⟩; rw [HC.out])
        | (go_at_call 54; refine (read_any' _ _ _ b _ hm (HR.out.mono hb2 (Nat.le_refl _))).mono ?_; rintro e w3 ⟨a3, c3, rfl, ho3, hb3⟩))
      have hbw := hb2.trans (hb3.mono hb2.size)
      have hRw := HR.out.mono hbw (Nat.le_refl _)
      obtain ⟨a4, c4, hsl, hR4⟩ := slice_h (P := Try.prog) hRw Try.und79 Try.size5d (good (read b) : Int) (by omega) (by omega)
      simp only [Int.toNat_natCast, Nat.mul_one, ← List.map_take] at hsl hR4
      have hcv := run_conv (P := Try.prog) hR4 79 9 5 Try.underlying79 Try.underlying5 Try.underlying9
      clear hR4
      have HRW := Lib.hid hRw
      clear hRw
      go_wp2_with (go_at_call 58; refine (to_any _ _ _ b _ _ (m / 32) hN250 HN32.out HFIT.out HRW.out).mono ?_; rintro e w5 ⟨a5, c5, xs5, rfl, ho5, hw5, hb5⟩)
      go_ret2
      rw [HCJ.out]
      exact RetWr.err (w1 := w3) ho5 hw5 hbw.size (hbw.trans (hb5.mono hbw.size)) 0
  · have hf' := Bool.eq_false_iff.2 hf
    have hcj : cleanJ b = ([], 4) := by simp [cleanJ, hf']
    have HF := Lib.hid hf'
    have HCJ := Lib.hid hcj
    clear hf hf' hcj
    go_enter Try.func25, Try.ntmps25
    go_wp2_with (go_at_call 55; refine (formed_any _ _ _ b _ HBL.out hm).mono ?_; rintro e w1 ⟨rfl, rfl⟩; rw [HF.out])
    go_ret2
    rw [HCJ.out]
    exact RetWrE.none rfl rfl (Below.refl _ _)

set_option maxRecDepth 100000 in
set_option maxHeartbeats 2000000 in
theorem RClean_any (a : Option Addr) (m c : Nat) (b : List UInt8) (w : World) (hm : m ≤ 140737488355328) (h : Row 1 w a m c (b.map byteV)) :
    Calls Try.prog 28 #[.slice a m c] w (RetWrE w (cleanJ b).1 (cleanJ b).2) := by
  have hbl : b.length = m := by simpa using h.1
  have HR := Lib.hid h
  have HBL := Lib.hid hbl
  clear h
  by_cases hf : formed b = true
  · have HF := Lib.hid hf
    by_cases hc : clean b = true
    · have hcj : cleanJ b = ([], 6) := by simp [cleanJ, hf, hc]
      have hck : checkD b = 0 := by simp [checkD, hf, hc]
      have HC := Lib.hid hck
      have HCJ := Lib.hid hcj
      clear hf hc hcj hck
      go_enter Try.func28, Try.ntmps28
      go_wp2_with (go_at_call 30; refine (RCheck_any _ _ _ b _ hm HR.out).mono ?_; rintro e w2 ⟨rfl, hb2⟩; rw [HC.out])
      go_ret2
      rw [HCJ.out]
      exact RetWrE.none rfl rfl hb2
    · have hc' := Bool.eq_false_iff.2 hc
      have hcj : cleanJ b = (toD b (b.take (good (read b))), 0) := by simp [cleanJ, hf, hc']
      have hck : checkD b = 9 := by simp [checkD, hf, hc']
      have hle := formed_eq b
      rw [hf] at hle
      have hle2 : b.length ≤ 8000 ∧ b.length % 32 = 0 := by simp at hle; omega
      have hg := read_good b
      have HC := Lib.hid hck
      have HCJ := Lib.hid hcj
      have HL := Lib.hid hle2
      clear hf hc hc' hcj hle hle2 hck
      have hm8 : m ≤ 8000 := by have := HL.out; omega
      have hg' : good (read b) ≤ m := by omega
      have hN32 : m = 32 * (m / 32) := by have := HL.out; omega
      have hN250 : m / 32 ≤ 250 := by have := HL.out; omega
      have hfit : (b.take (good (read b))).length ≤ m := by rw [List.length_take]; omega
      have HFIT := Lib.hid hfit
      have HN32 := Lib.hid hN32
      clear hfit hN32
      go_enter Try.func28, Try.ntmps28
      go_upto_region 7 with (first
        | (go_at_call 30; refine (RCheck_any _ _ _ b _ hm HR.out).mono ?_; rintro e w2 ⟨rfl, hb2⟩; rw [HC.out])
        | (go_at_call 26; refine (RRecover_ok _ _ _ b _ hm8 (HR.out.mono hb2 (Nat.le_refl _))).mono ?_; rintro e w3 ⟨a3, c3, rfl, ho3, hb3⟩))
      have hbw := hb2.trans (hb3.mono hb2.size)
      have hRw := HR.out.mono hbw (Nat.le_refl _)
      obtain ⟨a4, c4, hsl, hR4⟩ := slice_h (P := Try.prog) hRw Try.und22 Try.size5 (good (read b) : Int) (by omega) (by omega)
      simp only [Int.toNat_natCast, Nat.mul_one, ← List.map_take] at hsl hR4
      have hcv := run_conv (P := Try.prog) hR4 22 9 5 Try.underlying22 Try.underlying5 Try.underlying9
      clear hR4
      have HRW := Lib.hid hRw
      clear hRw
      go_wp2_with (first
        | (go_at_call 60; refine (Blocks_any _ _ _ _ _ b _ _ (m / 32) hN250 HN32.out (HRW.out.mono hb5 (Nat.le_refl _)) HR5.out).mono ?_; rintro e w6 ⟨a6, c6, xs6, rfl, ho6, hw6, hb6⟩)
        | (go_at_call 61; refine (With_any _ _ _ HFIT.out hm8).mono ?_; rintro e w5 ⟨a5, c5, rfl, ho5, hb5⟩; have HR5 := Lib.hid (row_of_own ho5); clear ho5))
      go_ret2
      rw [HCJ.out, ← HBL.out]
      have hb36 := hb5.trans (hb6.mono hb5.size)
      rw [← HBL.out] at ho6 hw6
      exact RetWr.err (w1 := w3) ho6 hw6 (Nat.le_trans hbw.size hb5.size) (hbw.trans (hb36.mono hbw.size)) 0
  · have hf' := Bool.eq_false_iff.2 hf
    have hcj : cleanJ b = ([], 4) := by simp [cleanJ, hf']
    have hck : checkD b = 4 := by simp [checkD, hf']
    have HC := Lib.hid hck
    have HCJ := Lib.hid hcj
    clear hf hf' hcj hck
    go_enter Try.func28, Try.ntmps28
    go_wp2_with (go_at_call 30; refine (RCheck_any _ _ _ b _ hm HR.out).mono ?_; rintro e w2 ⟨rfl, hb2⟩; rw [HC.out])
    go_ret2
    rw [HCJ.out]
    exact RetWrE.none rfl rfl hb2
end Go.Proofs.Ytphalijdanmkeaa
