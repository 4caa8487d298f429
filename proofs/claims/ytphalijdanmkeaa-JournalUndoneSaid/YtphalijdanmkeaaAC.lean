/- To turn a list of writes round, in place: the walk. -/
import Derived.Test.YtphalijdanmkeaaAB
namespace Go.Proofs.Ytphalijdanmkeaa
open Go.RowKit Go.Shelf J
attribute [local go_sem] Oper.semAt_some

theorem own_frozen {W : World} {B g n cap : Nat} {xs : List Value} (h : W.ownsRow B 58 2 (.slice (some ⟨g, 0, none⟩) n cap) n xs) (i : Nat) : W.frozen? ⟨g, i, none⟩ = false := by
  rcases h.2 with ⟨h, _⟩ | ⟨g', cap', cur, e, hb, hg, _⟩
  · cases h
  · cases e
    simp [World.frozen?, hg]

theorem ownsRow_set1 {W : World} {B g n cap : Nat} {xs : List Value} (h : W.ownsRow B 58 2 (.slice (some ⟨g, 0, none⟩) n cap) n xs) (i : Nat) (hi : i < n * 2) (u : Value) :
    (W.setCell ⟨g, i, none⟩ u).ownsRow B 58 2 (.slice (some ⟨g, 0, none⟩) n cap) n (xs.set i u) := by
  obtain ⟨hl, h⟩ := h
  rcases h with ⟨h, _⟩ | ⟨g', cap', cur, e, hb, hg, hnc, hcm, hcs, ht⟩
  · cases h
  · cases e
    refine ⟨by simp [hl], .inr ⟨g, cap, cur.setIfInBounds i u, rfl, hb, ?_, hnc, hcm, by simp [hcs], ?_⟩⟩
    · simp [World.setCell, Array.getElem?_modify, hg]
    · simp only [Array.toList_setIfInBounds]
      rw [List.take_set, ht]

set_option maxRecDepth 100000 in
set_option maxHeartbeats 4000000 in
theorem Reverse_some (B g cap : Nat) (bs : List (Int × List UInt8)) (xs : List Value) (w : World) (hn : bs.length ≤ 140737488355328) (ho : w.ownsRow B 58 2 (.slice (some ⟨g, 0, none⟩) bs.length cap) bs.length xs) (hw : WrF B w xs bs) :
    Calls Try.prog 67 #[.slice (some ⟨g, 0, none⟩) bs.length cap] w fun e w' => e = .returned (.tuple #[]) ∧ ∃ xs', w'.ownsRow B 58 2 (.slice (some ⟨g, 0, none⟩) bs.length cap) bs.length xs' ∧ WrF B w' xs' bs.reverse ∧ Below B w w' := by
  have hmo : Try.prog.follows .mixedOrders = true := by kernel_rfl
  have HO := Lib.hid ho
  have HW := Lib.hid hw
  clear ho hw
  refine (callsIn_wide (n := 3)).1 ?_
  refine callsIn_of_wp Try.func67 rfl trivial ?_ rfl
  simp only [Try.ntmps67, List.size_toArray, List.length_cons, List.length_nil, Nat.reduceAdd, Nat.reduceSub, Array.replicate_succ, Array.replicate_zero, List.push_toArray, List.append_toArray, List.nil_append, List.cons_append]
  gi_wp2
  gi_loopw [2, 3] (fun i j wr => ∃ (k : Nat) (ys : List Value) (cs : List (Int × List UInt8)), k ≤ bs.length ∧ i = .int .i64 (k : Int) ∧ j = .int .i64 ((bs.length : Int) - 1 - k) ∧ turned k bs cs ∧ wr.ownsRow B 58 2 (.slice (some ⟨g, 0, none⟩) bs.length cap) bs.length ys ∧ WrF B wr ys cs ∧ Below B w wr) (fun i _ _ => bs.length - (intOf i).toNat)
  case atStart => exact ⟨0, xs, bs, Nat.zero_le _, rfl, by go_num, turned_start bs, HO.out, HW.out, Below.refl _ _⟩
  case round =>
    obtain ⟨k, ys, cs, hk, rfl, rfl, htu, hown, hwr, hbw⟩ := hrel
    have HT := Lib.hid htu
    have HO1 := Lib.hid hown
    have HW1 := Lib.hid hwr
    have HB := Lib.hid hbw
    have hcl := htu.1
    clear htu hown hwr hbw
    by_cases hlt : k < bs.length - 1 - k
    · have hlt' : (k : Int) < (bs.length : Int) - 1 - k := by omega
      obtain ⟨a1, y, a2, a3⟩ := HW1.out.2 k (by omega)
      obtain ⟨b1, z, b2, b3⟩ := HW1.out.2 (bs.length - 1 - k) (by omega)
      obtain ⟨ay, cy, rfl, _⟩ := own_row a3
      obtain ⟨az, cz, rfl, _⟩ := own_row b3
      generalize hny : cs[k].2.length = ny at a2 a3
      generalize hnz : cs[bs.length - 1 - k].2.length = nz at b2 b3
      have hcells := HO1.out.cells (g := g) rfl
      have hadd : ∀ j, (⟨g, 0, none⟩ : Addr).add j = ⟨g, j, none⟩ := fun j => by unfold Addr.add; split <;> simp_all
      have x1 := hcells _ _ a1
      have x2 := hcells _ _ a2
      have x3 := hcells _ _ b1
      have x4 := hcells _ _ b2
      rw [hadd] at x1 x2 x3 x4
      have hj : ((bs.length : Int) - 1 - k).toNat = bs.length - 1 - k := by omega
      have hix : (k : Int) ≤ (bs.length : Int) - 1 ∧ (bs.length : Int) - 1 - k < (bs.length : Int) := by omega
      have hix2 : (k : Int) < (bs.length : Int) := by omega
      gi_wp2
      refine Reg.regionIn_K 12 [2, 3] hmo (by kernel_rfl) (by kernel_rfl) (by kernel_rfl) rfl (by kernel_rfl) (by kernel_rfl) (by kernel_rfl)
        (fun w' => w'.cell? ⟨g, k * 2, none⟩ = some (.int .i64 cs[k].1) ∧ w'.cell? ⟨g, k * 2 + 1, none⟩ = some (.slice ay ny cy) ∧ w'.cell? ⟨g, (bs.length - 1 - k) * 2, none⟩ = some (.int .i64 cs[bs.length - 1 - k].1) ∧ w'.cell? ⟨g, (bs.length - 1 - k) * 2 + 1, none⟩ = some (.slice az nz cz))
        (fun _ => True) ⟨x1, x2, x3, x4⟩ ?_
      simp only [List.take_succ_cons, List.take_zero, List.drop_succ_cons, List.drop_zero]
      refine Reg.WalkK.cons ?vR0 (Reg.Still.pure (by intro c e; cases e) rfl (fun _ => rfl) ?hR0) ?lR0 ?rR0
      case hR0 => intro w' hJ; obtain ⟨j1, j2, j3, j4⟩ := hJ; go_simp; rfl
      case lR0 => intro h; cases h
      simp only [Act.put, List.setIfInBounds_toArray, List.set_cons_zero, List.set_cons_succ]
      refine Reg.WalkK.cons ?vR1 (Reg.Still.pure (by intro c e; cases e) rfl (fun _ => rfl) ?hR1) ?lR1 ?rR1
      case hR1 => intro w' hJ; obtain ⟨j1, j2, j3, j4⟩ := hJ; go_simp; rfl
      case lR1 => intro h; cases h
      simp only [Act.put, List.setIfInBounds_toArray, List.set_cons_zero, List.set_cons_succ]
      refine Reg.WalkK.cons ?vR2 (Reg.Still.pure (by intro c e; cases e) rfl (fun _ => rfl) ?hR2) ?lR2 ?rR2
      case hR2 => intro w' hJ; obtain ⟨j1, j2, j3, j4⟩ := hJ; go_simp; rfl
      case lR2 => intro _; exact Reg.Still.pure (by intro c e; cases e) rfl (fun _ => rfl) (fun w' hK => by go_simp)
      simp only [Act.put, List.setIfInBounds_toArray, List.set_cons_zero, List.set_cons_succ]
      refine Reg.WalkK.cons ?vR3 (Reg.Still.pure (by intro c e; cases e) rfl (fun _ => rfl) ?hR3) ?lR3 ?rR3
      case hR3 => intro w' hJ; obtain ⟨j1, j2, j3, j4⟩ := hJ; go_simp; rfl
      case lR3 => intro _; exact Reg.Still.pure (by intro c e; cases e) rfl (fun _ => rfl) (fun w' hK => by go_simp)
      simp only [Act.put, List.setIfInBounds_toArray, List.set_cons_zero, List.set_cons_succ]
      refine Reg.WalkK.cons ?vR4 (Reg.Still.pure (by intro c e; cases e) rfl (fun _ => rfl) ?hR4) ?lR4 ?rR4
      case hR4 => intro w' hJ; obtain ⟨j1, j2, j3, j4⟩ := hJ; go_simp; rfl
      case lR4 => intro h; cases h
      simp only [Act.put, List.setIfInBounds_toArray, List.set_cons_zero, List.set_cons_succ]
      refine Reg.WalkK.cons ?vR5 (Reg.Still.pure (by intro c e; cases e) rfl (fun _ => rfl) ?hR5) ?lR5 ?rR5
      case hR5 => intro w' hJ; obtain ⟨j1, j2, j3, j4⟩ := hJ; go_simp; rfl
      case lR5 => intro h; cases h
      simp only [Act.put, List.setIfInBounds_toArray, List.set_cons_zero, List.set_cons_succ]
      refine Reg.WalkK.cons ?vR6 (Reg.Still.pure (by intro c e; cases e) rfl (fun _ => rfl) ?hR6) ?lR6 ?rR6
      case hR6 => intro w' hJ; obtain ⟨j1, j2, j3, j4⟩ := hJ; go_simp; rfl
      case lR6 => intro h; cases h
      simp only [Act.put, List.setIfInBounds_toArray, List.set_cons_zero, List.set_cons_succ]
      refine Reg.WalkK.cons ?vR7 (Reg.Still.pure (by intro c e; cases e) rfl (fun _ => rfl) ?hR7) ?lR7 ?rR7
      case hR7 => intro w' hJ; obtain ⟨j1, j2, j3, j4⟩ := hJ; go_simp; rfl
      case lR7 => intro h; cases h
      simp only [Act.put, List.setIfInBounds_toArray, List.set_cons_zero, List.set_cons_succ]
      refine Reg.WalkK.cons ?vR8 (Reg.Still.pure (by intro c e; cases e) rfl (fun _ => rfl) ?hR8) ?lR8 ?rR8
      case hR8 => intro w' hJ; obtain ⟨j1, j2, j3, j4⟩ := hJ; go_simp; rfl
      case lR8 => intro h; cases h
      simp only [Act.put, List.setIfInBounds_toArray, List.set_cons_zero, List.set_cons_succ]
      refine Reg.WalkK.cons ?vR9 (Reg.Still.pure (by intro c e; cases e) rfl (fun _ => rfl) ?hR9) ?lR9 ?rR9
      case hR9 => intro w' hJ; obtain ⟨j1, j2, j3, j4⟩ := hJ; go_simp; rfl
      case lR9 => intro h; cases h
      simp only [Act.put, List.setIfInBounds_toArray, List.set_cons_zero, List.set_cons_succ]
      refine Reg.WalkK.cons ?vR10 (Reg.Still.pure (by intro c e; cases e) rfl (fun _ => rfl) ?hR10) ?lR10 ?rR10
      case hR10 => intro w' hJ; obtain ⟨j1, j2, j3, j4⟩ := hJ; go_simp; rfl
      case lR10 => intro h; cases h
      simp only [Act.put, List.setIfInBounds_toArray, List.set_cons_zero, List.set_cons_succ]
      refine Reg.WalkK.cons ?vR11 (Reg.Still.pure (by intro c e; cases e) rfl (fun _ => rfl) ?hR11) ?lR11 ?rR11
      case hR11 => intro w' hJ; obtain ⟨j1, j2, j3, j4⟩ := hJ; go_simp; rfl
      case lR11 => intro h; cases h
      simp only [Act.put, List.setIfInBounds_toArray, List.set_cons_zero, List.set_cons_succ]
      refine .nil ?_
      refine Reg.TailW.run (v := .pointer (some ⟨g, k * 2, none⟩)) (w' := wr.drew) (by intro c e; cases e) rfl rfl ?t12 (fun _ => trivial) ?_
      case t12 => go_simp
      simp only [Act.put, List.setIfInBounds_toArray, List.set_cons_zero, List.set_cons_succ]
      have ff := own_frozen HO1.out
      have f1 := ff (k * 2)
      have f2 := ff (k * 2 + 1)
      have f3 := ff ((bs.length - 1 - k) * 2)
      have f4 := ff ((bs.length - 1 - k) * 2 + 1)
      have o1 := ownsRow_set1 HO1.out (k * 2) (by omega) (.int .i64 cs[bs.length - 1 - k].1)
      have c1 := o1.cells (g := g) rfl (k * 2 + 1) _ (by rw [List.getElem?_set_ne (by omega)]; exact a2)
      have g1 := own_frozen o1 (k * 2 + 1)
      rw [hadd] at c1
      refine Reg.TailW.skip (w' := ((wr.setCell ⟨g, k * 2, none⟩ (.int .i64 cs[bs.length - 1 - k].1)).setCell ⟨g, k * 2 + 1, none⟩ (.slice az nz cz)).drew) (by intro c e; cases e) rfl rfl ?t13 (fun _ => trivial) ?_
      case t13 => go_simp
      simp only [Act.put, List.setIfInBounds_toArray, List.set_cons_zero, List.set_cons_succ]
      refine Reg.TailW.run (v := .pointer (some ⟨g, (bs.length - 1 - k) * 2, none⟩)) (w' := ((wr.setCell ⟨g, k * 2, none⟩ (.int .i64 cs[bs.length - 1 - k].1)).setCell ⟨g, k * 2 + 1, none⟩ (.slice az nz cz)).drew) (by intro c e; cases e) rfl rfl ?t14 (fun _ => trivial) ?_
      case t14 => go_simp
      simp only [Act.put, List.setIfInBounds_toArray, List.set_cons_zero, List.set_cons_succ]
      have o2 := ownsRow_set1 o1 (k * 2 + 1) (by omega) (.slice az nz cz)
      generalize hW2 : (wr.setCell ⟨g, k * 2, none⟩ (.int .i64 cs[bs.length - 1 - k].1)).setCell ⟨g, k * 2 + 1, none⟩ (.slice az nz cz) = W2 at o2 ⊢
      have c2 := o2.cells (g := g) rfl ((bs.length - 1 - k) * 2) _ (by rw [List.getElem?_set_ne (by omega), List.getElem?_set_ne (by omega)]; exact b1)
      have g2 := own_frozen o2 ((bs.length - 1 - k) * 2)
      have o3 := ownsRow_set1 o2 ((bs.length - 1 - k) * 2) (by omega) (.int .i64 cs[k].1)
      have c3 := o3.cells (g := g) rfl ((bs.length - 1 - k) * 2 + 1) _ (by rw [List.getElem?_set_ne (by omega), List.getElem?_set_ne (by omega), List.getElem?_set_ne (by omega)]; exact b2)
      have g3 := own_frozen o3 ((bs.length - 1 - k) * 2 + 1)
      have o4 := ownsRow_set1 o3 ((bs.length - 1 - k) * 2 + 1) (by omega) (.slice ay ny cy)
      rw [hadd] at c2 c3
      refine Reg.TailW.skip (w' := ((W2.setCell ⟨g, (bs.length - 1 - k) * 2, none⟩ (.int .i64 cs[k].1)).setCell ⟨g, (bs.length - 1 - k) * 2 + 1, none⟩ (.slice ay ny cy)).drew) (by intro c e; cases e) rfl rfl ?t15 (fun h => absurd rfl h) ?_
      case t15 => go_simp
      simp only [Act.put, List.setIfInBounds_toArray, List.set_cons_zero, List.set_cons_succ]
      refine .nil ?_
      gi_wp2
      go_roundw
      case rel =>
        have hgB : B ≤ g := (HO1.out.lt g rfl).1
        have hkeep : ∀ (W : World) (i : Nat) (u : Value) (q : Nat) (rs : List Value), W.ownsRow B 58 2 (.slice (some ⟨g, 0, none⟩) bs.length cap) bs.length rs → ∀ y n ys, W.ownsRow B 5 1 y n ys → (W.setCell ⟨g, i, none⟩ u).ownsRow B 5 1 y n ys := fun W i u q rs hr y n ys hy =>
          hy.kept (row := some g) ⟨rfl, rfl, rfl, by simp [World.setCell], fun k _ hk => Below.heap_setCell _ _ _ _ (fun e => hk (by simp [e]))⟩ ((ownsRow_two hy hr (by decide)).imp id (fun h => h))
        refine ⟨k + 1, _, swp cs k (bs.length - 1 - k) cs[k] cs[bs.length - 1 - k], by omega, by go_num, by go_num, turned_step HT.out hlt (List.getElem?_eq_getElem _) (List.getElem?_eq_getElem _), o4, ?_, ?_⟩
        · subst hW2
          refine HW1.out.swap (fun y n ys hy => hkeep _ _ _ 0 _ o3 _ _ _ (hkeep _ _ _ 0 _ o2 _ _ _ (hkeep _ _ _ 0 _ o1 _ _ _ (hkeep _ _ _ 0 _ HO1.out _ _ _ hy)))) (by omega) (by omega) (by omega) a2 b2
        · subst hW2
          exact ((((HB.out.setCell (p := ⟨g, k * 2, none⟩) hgB _).setCell (p := ⟨g, k * 2 + 1, none⟩) hgB _).setCell (p := ⟨g, (bs.length - 1 - k) * 2, none⟩) hgB _).setCell (p := ⟨g, (bs.length - 1 - k) * 2 + 1, none⟩) hgB _).drew
      case measure => simp [intOf]; omega
    · have hlt' : ¬ (k : Int) < (bs.length : Int) - 1 - k := by omega
      gi_wp2
      go_end0
      exact ⟨rfl, ys, HO1.out, by rw [← turned_end HT.out (by omega)]; exact HW1.out, HB.out⟩
end Go.Proofs.Ytphalijdanmkeaa
