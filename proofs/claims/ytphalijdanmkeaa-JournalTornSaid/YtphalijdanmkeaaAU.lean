/- Copies of writes, and a device after a storm: the walks. -/
import Derived.Test.YtphalijdanmkeaaPG
import Derived.Test.YtphalijdanmkeaaAP
import Derived.Deep.RegionHeld3
namespace Go.Proofs.Ytphalijdanmkeaa
open Go.RowKit Go.Shelf J
attribute [local go_sem] Oper.semAt_some

theorem copied_step {w wr w1 : World} {v : Value} {k : Nat} {xs : List Value} {bs : List (Int × List UInt8)} (ho : wr.ownsRow w.heap.size 58 2 v k xs) (hw : WrO w.heap.size wr xs bs) (hb : Below w.heap.size w wr) (a1 : Option Addr) (c1 : Nat) (n : Int) (news : List UInt8)
    (hown1 : w1.ownsRow w.heap.size 5 1 (.slice a1 news.length c1) news.length (news.map byteV)) (hb1 : Below wr.drew.heap.size wr.drew w1) (hk : k ≤ 1000000) :
    ∃ a' c' w4, (Builtin.append_ #[39, 39] 39 #[v, .slice (some ⟨w1.heap.size, 0, none⟩) 1 1]).run Try.prog (w1.alloc (.cells #[.int .i64 n, .slice a1 news.length c1] 58)) = .ok (.slice a' (k + 1) c') w4 ∧
      w4.ownsRow w.heap.size 58 2 (.slice a' (k + 1) c') (k + 1) (xs ++ [.int .i64 n, .slice a1 news.length c1]) ∧ WrO w.heap.size w4 (xs ++ [.int .i64 n, .slice a1 news.length c1]) (bs ++ [(n, news)]) ∧ Below w.heap.size w w4 ∧ Below w.heap.size w w1 := by
  obtain ⟨i0, hi, hz0, hz1, hz2⟩ := info_parts Try.info58
  have hkeep : ∀ {e : TypeId} {sz : Nat} {y : Value} {m : Nat} {ys : List Value}, wr.ownsRow w.heap.size e sz y m ys → w1.ownsRow w.heap.size e sz y m ys := fun h => own_below (own_below h ((Below.refl _ wr).drew)) hb1
  have hbw1 : Below w.heap.size w w1 := hb.drew.trans (hb1.mono hb.size)
  have ho2 := (hkeep ho).alloc (.cells #[.int .i64 n, .slice a1 news.length c1] 58)
  have hw2 : WrO w.heap.size (w1.alloc (.cells #[.int .i64 n, .slice a1 news.length c1] 58)) xs bs := hw.imp fun y n ys h => (hkeep h).alloc _
  have hown2 := hown1.alloc (.cells #[.int .i64 n, .slice a1 news.length c1] 58)
  have hs1 := hbw1.size
  have hb2 := hbw1.alloc hs1 (.cells #[.int .i64 n, .slice a1 news.length c1] 58)
  obtain ⟨v', w4, hrun2, hown4, hg4, _⟩ := run_append_own (P := Try.prog) (w := w1.alloc (.cells #[.int .i64 n, .slice a1 news.length c1] 58)) w.heap.size 39 39 58 i0 _ 2 32 Try.underlying39 hi hz0 hz1 hz2 rfl (by decide) v k xs ho2 ⟨w1.heap.size, 0, none⟩ 1 1 [.int .i64 n, .slice a1 news.length c1] rfl
    (fun j u hj => two_cells _ _ _ _ j u hj) (by intro u hu; simp at hu; rcases hu with rfl | rfl <;> rfl) (by unfold maxLen; omega) (by omega) (by simp only [World.size_alloc]; omega)
  obtain ⟨a', c', rfl, _⟩ := own_row hown4
  refine ⟨a', c', w4, hrun2, hown4, ?_, own_grown hb2 ho2 hg4 (by simp only [World.size_alloc]; omega), hbw1⟩
  have hk4 : ∀ {y : Value} {m : Nat} {ys : List Value}, (w1.alloc (.cells #[.int .i64 n, .slice a1 news.length c1] 58)).ownsRow w.heap.size 5 1 y m ys → w4.ownsRow w.heap.size 5 1 y m ys := by
    intro y m ys h
    exact h.kept hg4 ((ownsRow_two h ho2 (by decide)).imp id (fun h => h))
  exact WrO.snoc (hk4 hown2) (hw2.imp fun y n ys h => hk4 h)

set_option maxRecDepth 100000 in
set_option maxHeartbeats 4000000 in
theorem copied_any (a : Option Addr) (c : Nat) (l : List (Int × List UInt8)) (w : World) (hl : l.length ≤ 1000000) (hs : ∀ x ∈ l, x.2.length ≤ 140737488355328) (h : Writes w a c l) :
    Calls Try.prog 46 #[.slice a l.length c] w fun e w' => ∃ a' c', e = .returned (.slice a' l.length c') ∧ Writes w' a' c' l ∧ Below w.heap.size w w' := by
  have hmo : Try.prog.follows .mixedOrders = true := by kernel_rfl
  have HWR := Lib.hid h
  have HS := Lib.hid hs
  clear h hs
  refine (callsIn_wide (n := 3)).1 ?_
  refine callsIn_of_wp Try.func46 rfl trivial ?_ rfl
  simp only [Try.ntmps46, List.size_toArray, List.length_cons, List.length_nil, Nat.reduceAdd, Nat.reduceSub, Array.replicate_succ, Array.replicate_zero, List.push_toArray, List.append_toArray, List.nil_append, List.cons_append]
  gi_wp2
  gi_loopw [3, 4] (fun v i wr => ∃ (k : Nat) (av : Option Addr) (cv : Nat) (xs : List Value), k ≤ l.length ∧ i = .int .i64 k ∧ v = .slice av k cv ∧ wr.ownsRow w.heap.size 58 2 (.slice av k cv) k xs ∧ WrO w.heap.size wr xs (l.take k) ∧ Below w.heap.size w wr) (fun _ i _ => l.length - (intOf i).toNat)
  case atStart => exact ⟨0, _, _, [], Nat.zero_le _, rfl, rfl, World.ownsRow_made w #[] 0 (Nat.le_refl _) (by decide) rfl, trivial, (Below.refl _ w).alloc (Nat.le_refl _) _⟩
  case round =>
    obtain ⟨k, av, cv, xs, hk, rfl, rfl, hown, hwr, hbw⟩ := hrel
    have HO := Lib.hid hown
    have HW := Lib.hid hwr
    have HB := Lib.hid hbw
    clear hown hwr hbw
    by_cases hlt : k < l.length
    · obtain ⟨bb, oo, rfl, hbb, hcc⟩ := HWR.out.at (by omega)
      obtain ⟨x1, a5, c5, x2, r5⟩ := hcc k hlt
      have X1 := Lib.hid x1
      have X2 := Lib.hid x2
      have R5 := Lib.hid r5
      have HBD := Lib.hid (show Below w.heap.size w wr.drew from HB.out.drew)
      have hlk := HS.out _ (List.getElem_mem hlt)
      clear hcc r5 x1 x2
      gi_wp2
      refine Reg.regionIn_L 11 hmo (by kernel_rfl) (by kernel_rfl) (by kernel_rfl) rfl (by kernel_rfl) (by kernel_rfl) (fun W => Below w.heap.size w W) HBD.out ?_
      simp only [List.take_succ_cons, List.take_zero, List.drop_succ_cons, List.drop_zero]
      refine Reg.WalkL.cons ?vA0 (Reg.Still.pure (by intro c e; cases e) rfl (fun _ => rfl) ?hA0) ?rA0
      case hA0 => intro w' hJ; have j1 := (hJ.cell (p := ⟨bb, oo + k * 2, none⟩) hbb).trans X1.out; have j2 := (hJ.cell (p := ⟨bb, oo + k * 2 + 1, none⟩) hbb).trans X2.out; go_simp; rfl
      simp only [Act.put, List.setIfInBounds_toArray, List.set_cons_zero, List.set_cons_succ]
      refine Reg.WalkL.cons ?vA1 (Reg.Still.pure (by intro c e; cases e) rfl (fun _ => rfl) ?hA1) ?rA1
      case hA1 => intro w' hJ; have j1 := (hJ.cell (p := ⟨bb, oo + k * 2, none⟩) hbb).trans X1.out; have j2 := (hJ.cell (p := ⟨bb, oo + k * 2 + 1, none⟩) hbb).trans X2.out; go_simp; rfl
      simp only [Act.put, List.setIfInBounds_toArray, List.set_cons_zero, List.set_cons_succ]
      refine Reg.WalkL.cons ?vA2 (Reg.Still.pure (by intro c e; cases e) rfl (fun _ => rfl) ?hA2) ?rA2
      case hA2 => intro w' hJ; have j1 := (hJ.cell (p := ⟨bb, oo + k * 2, none⟩) hbb).trans X1.out; have j2 := (hJ.cell (p := ⟨bb, oo + k * 2 + 1, none⟩) hbb).trans X2.out; go_simp; rfl
      simp only [Act.put, List.setIfInBounds_toArray, List.set_cons_zero, List.set_cons_succ]
      refine Reg.WalkL.cons ?vA3 (Reg.Still.pure (by intro c e; cases e) rfl (fun _ => rfl) ?hA3) ?rA3
      case hA3 => intro w' hJ; have j1 := (hJ.cell (p := ⟨bb, oo + k * 2, none⟩) hbb).trans X1.out; have j2 := (hJ.cell (p := ⟨bb, oo + k * 2 + 1, none⟩) hbb).trans X2.out; go_simp; rfl
      simp only [Act.put, List.setIfInBounds_toArray, List.set_cons_zero, List.set_cons_succ]
      refine Reg.WalkL.cons ?vA4 (Reg.Still.pure (by intro c e; cases e) rfl (fun _ => rfl) ?hA4) ?rA4
      case hA4 => intro w' hJ; have j1 := (hJ.cell (p := ⟨bb, oo + k * 2, none⟩) hbb).trans X1.out; have j2 := (hJ.cell (p := ⟨bb, oo + k * 2 + 1, none⟩) hbb).trans X2.out; go_simp; rfl
      simp only [Act.put, List.setIfInBounds_toArray, List.set_cons_zero, List.set_cons_succ]
      refine Reg.WalkL.cons ?vA5 (Reg.Still.pure (by intro c e; cases e) rfl (fun _ => rfl) ?hA5) ?rA5
      case hA5 => intro w' hJ; have j1 := (hJ.cell (p := ⟨bb, oo + k * 2, none⟩) hbb).trans X1.out; have j2 := (hJ.cell (p := ⟨bb, oo + k * 2 + 1, none⟩) hbb).trans X2.out; go_simp; rfl
      simp only [Act.put, List.setIfInBounds_toArray, List.set_cons_zero, List.set_cons_succ]
      refine Reg.WalkL.cons ?vA6 (Reg.Still.pure (by intro c e; cases e) rfl (fun _ => rfl) ?hA6) ?rA6
      case hA6 => intro w' hJ; have j1 := (hJ.cell (p := ⟨bb, oo + k * 2, none⟩) hbb).trans X1.out; have j2 := (hJ.cell (p := ⟨bb, oo + k * 2 + 1, none⟩) hbb).trans X2.out; go_simp; rfl
      simp only [Act.put, List.setIfInBounds_toArray, List.set_cons_zero, List.set_cons_succ]
      refine Reg.WalkL.cons ?vA7 (Reg.Still.pure (by intro c e; cases e) rfl (fun _ => rfl) ?hA7) ?rA7
      case hA7 => intro w' hJ; have j1 := (hJ.cell (p := ⟨bb, oo + k * 2, none⟩) hbb).trans X1.out; have j2 := (hJ.cell (p := ⟨bb, oo + k * 2 + 1, none⟩) hbb).trans X2.out; go_simp; rfl
      simp only [Act.put, List.setIfInBounds_toArray, List.set_cons_zero, List.set_cons_succ]
      refine Reg.WalkL.cons ?vA8 (Reg.Still.pure (by intro c e; cases e) rfl (fun _ => rfl) ?hA8) ?rA8
      case hA8 => intro w' hJ; have j1 := (hJ.cell (p := ⟨bb, oo + k * 2, none⟩) hbb).trans X1.out; have j2 := (hJ.cell (p := ⟨bb, oo + k * 2 + 1, none⟩) hbb).trans X2.out; go_simp; rfl
      simp only [Act.put, List.setIfInBounds_toArray, List.set_cons_zero, List.set_cons_succ]
      refine Reg.WalkL.cons ?vA9 (Reg.Still.pure (by intro c e; cases e) rfl (fun _ => rfl) ?hA9) ?rA9
      case hA9 => intro w' hJ; have j1 := (hJ.cell (p := ⟨bb, oo + k * 2, none⟩) hbb).trans X1.out; have j2 := (hJ.cell (p := ⟨bb, oo + k * 2 + 1, none⟩) hbb).trans X2.out; go_simp; rfl
      simp only [Act.put, List.setIfInBounds_toArray, List.set_cons_zero, List.set_cons_succ]
      refine Reg.WalkL.cons ?vA10 (Reg.Still.pure (by intro c e; cases e) rfl (fun _ => rfl) ?hA10) ?rA10
      case hA10 => intro w' hJ; have j1 := (hJ.cell (p := ⟨bb, oo + k * 2, none⟩) hbb).trans X1.out; have j2 := (hJ.cell (p := ⟨bb, oo + k * 2 + 1, none⟩) hbb).trans X2.out; go_simp; rfl
      simp only [Act.put, List.setIfInBounds_toArray, List.set_cons_zero, List.set_cons_succ]
      refine .nil ?_
      refine Reg.TailW.call (f := 21) (args := #[.slice a5 l[k].2.length c5]) (fun _ => trivial) rfl (by intro c e; cases e) rfl ?hcr ?hcc
      case hcr => go_simp
      case hcc =>
        refine (CallsIn.mono (callsIn_wide.2 (own_any a5 l[k].2.length c5 l[k].2 wr.drew (R5.out.mono HBD.out (Nat.le_refl _)) hlk))) ?_
        rintro e w1 ⟨a1, c1, rfl, ho1, hb1⟩
        obtain ⟨a', c', w4, hrun2, hown4, hwr4, hbw4, hbw1⟩ := copied_step HO.out HW.out HB.out a1 c1 l[k].1 l[k].2 (ownsRow_weaken ho1 HB.out.size) hb1 (by omega)
        have hB2 := hbw1.alloc hbw1.size (.cells #[.int .i64 l[k].1, .slice a1 l[k].2.length c1] 58)
        rw [show ([(l[k].1, l[k].2)] : List (Int × List UInt8)) = [l[k]] from rfl, ← List.take_succ_eq_append_getElem hlt] at hwr4
        have HR2 := Lib.hid hrun2
        have HO4 := Lib.hid hown4
        have HW4 := Lib.hid hwr4
        have HB4 := Lib.hid hbw4
        have HB2 := Lib.hid hB2
        have HBW1 := Lib.hid hbw1
        clear hrun2 hown4 hwr4 hbw4 hB2 hbw1 ho1 hb1
        refine ⟨_, rfl, (fun _ => HBW1.out), ?_⟩
        simp only [Act.put, List.setIfInBounds_toArray, List.set_cons_zero, List.set_cons_succ]
        refine Reg.TailW.run (v := .agg #[.int .i64 l[k].1, .slice a1 l[k].2.length c1]) (by intro c e; cases e) rfl rfl ?hb (fun _ => HBW1.out) ?_
        case hb => go_simp
        simp only [Act.put, List.setIfInBounds_toArray, List.set_cons_zero, List.set_cons_succ]
        refine Reg.TailW.run (v := .slice (some ⟨w1.heap.size, 0, none⟩) 1 1) (w' := w1.alloc (.cells #[.int .i64 l[k].1, .slice a1 l[k].2.length c1] 58)) (by intro c e; cases e) rfl rfl ?hbs (fun _ => HB2.out) ?_
        case hbs => go_simp
        simp only [Act.put, List.setIfInBounds_toArray, List.set_cons_zero, List.set_cons_succ]
        refine Reg.TailW.append rfl (.tmp 12) (.tmp 25) 39 rfl rfl rfl HR2.out (fun _ => HB4.out) ?_
        simp only [Act.put, List.setIfInBounds_toArray, List.set_cons_zero, List.set_cons_succ]
        refine Reg.TailW.run (v := .slice a' (k + 1) c') (w' := w4) (by intro c e; cases e) rfl rfl ?has (fun h => absurd rfl h) ?_
        case has => go_simp
        simp only [Act.put, List.setIfInBounds_toArray, List.set_cons_zero, List.set_cons_succ]
        refine .nil ?_
        gi_wp2
        go_roundw
        case rel => exact ⟨k + 1, a', c', _, by omega, by go_num, rfl, HO4.out, HW4.out, HB4.out⟩
        case measure => simp [intOf]; omega
    · obtain rfl : k = l.length := by omega
      gi_wp2
      refine bodyPost_ret (v := .slice av l.length cv) ?hres rfl ?_
      case hres => simp [results, Try.results46, go_sem]
      have hw := HW.out
      rw [List.take_length] at hw
      exact ⟨av, cv, rfl, Writes.of HO.out hw, HB.out⟩
end Go.Proofs.Ytphalijdanmkeaa
