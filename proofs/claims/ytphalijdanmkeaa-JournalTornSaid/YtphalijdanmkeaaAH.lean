/- The first bytes of a block are written: the walk of put. -/
import Derived.Test.YtphalijdanmkeaaAG
import Derived.Laws.CopyRow
import Derived.Laws.CopyOwn
namespace Go.Proofs.Ytphalijdanmkeaa
open Go.RowKit Go.Shelf J

theorem wpList_copy_run {P : Program} {w w' : World} {ops : Array Oper} {rest : List Oper} {o : Oper} {a : Act} {Q : Exit → Act → World → Prop} (hgd : o.guard = none) (d s : Operand) (dT sT : TypeId)
    (ho : o.op = .call { callee := .builtin .copy, args := #[d, s], argTypes := #[dT, sT] }) {dv sv v : Value} (hd : a.eval d = dv) (hs : a.eval s = sv) (hr : (Builtin.copy_ #[dT, sT] o.type #[dv, sv]).run P w = .ok v w')
    (h : wpList P ops Q rest (a.put o.dst v) w') : wpList P ops Q (o :: rest) a w := by
  refine wpList_plain hgd fun K hK => ?_
  unfold Oper.wp
  simp [execOp, ho, resolve, invoke, builtin, hd, hs, hr, Result.andThen]
  exact hK _ _ h

theorem grown_trans {A B C : World} {row : Option Nat} (h : A.grownBy B row) (k : B.grownBy C row) : A.grownBy C row :=
  ⟨k.os.trans h.os, k.tape.trans h.tape, k.output.trans h.output, Nat.le_trans h.size k.size, fun i hi hne => (k.block i (Nat.lt_of_lt_of_le hi h.size) hne).trans (h.block i hi hne)⟩

theorem take_put {α : Type} (cur cs : List α) (o n : Nat) (hk : o + cs.length ≤ n) (hn : n ≤ cur.length) : (cur.take o ++ cs ++ cur.drop (o + cs.length)).take n = (cur.take n).take o ++ (cs ++ (cur.take n).drop (o + cs.length)) := by
  have h1 : (cur.take o ++ cs).length = o + cs.length := by simp; omega
  rw [List.take_append, h1, List.take_of_length_le (by omega), List.take_take, Nat.min_eq_left (by omega), List.drop_take, List.append_assoc]

theorem copy_put {W : World} {B g cap n many : Nat} {d s : List UInt8} {a : Option Addr} {c : Nat} (ho : W.ownsRow B 5 1 (.slice (some ⟨g, 0, none⟩) d.length cap) d.length (d.map byteV)) (hr : Row 1 W a many c ((s.take many).map byteV)) (hfit : 32 * n + many ≤ d.length) (hm : many ≤ s.length) :
    ∃ v w', (Builtin.copy_ #[79, 22] 3 #[.slice (some ⟨g, 32 * n, none⟩) (d.length - 32 * n) (cap - 32 * n), .slice a many c]).run Try.prog W = .ok v w' ∧ w'.ownsRow B 5 1 (.slice (some ⟨g, 0, none⟩) d.length cap) d.length ((putB d n s many).map byteV) ∧ Below B W w' ∧ W.grownBy w' (some g) := by
  have hu : Try.prog.underlying 79 = some (.slice 5) := Try.underlying79
  obtain ⟨hl, ho⟩ := ho
  rcases ho with ⟨h, _⟩ | ⟨g', cap', cur, e, hb, hg, hnc, hcm, hcs, ht⟩
  · cases h
  · cases e
    by_cases h0 : many = 0
    · subst h0
      refine ⟨_, W, run_copy_none (P := Try.prog) W 79 22 3 5 _ a _ _ 0 c hu Try.size1of5 (by simp), ⟨by simp [putB], .inr ⟨g, cap, cur, rfl, hb, hg, hnc, hcm, hcs, ?_⟩⟩, Below.refl _ _, ⟨rfl, rfl, rfl, Nat.le_refl _, fun _ _ _ => rfl⟩⟩
      rw [ht]
      simp [putB]
    · obtain ⟨b, o, rfl, hbl, hc⟩ := hr.some (by omega)
      have hlen : ((s.take many).map byteV).length = many := by simp; omega
      have hrun := run_copy_row (P := Try.prog) W 79 22 3 5 g (32 * n) (d.length - 32 * n) (cap - 32 * n) ⟨b, o, none⟩ many c cur 5 ((s.take many).map byteV) hu Try.size1of5 hg (by rw [hlen]; exact (Nat.min_eq_left (by omega)).symm)
        (fun j v hj => by
          obtain ⟨hj1, hj2⟩ := List.getElem?_eq_some_iff.1 hj
          have hp : (⟨b, o, none⟩ : Addr).add j = ⟨b, o + j, none⟩ := by unfold Addr.add; split <;> simp_all
          rw [hp, hc j hj1, hj2])
        (by rw [hlen]; omega) (bytes_one _)
      refine ⟨_, _, hrun, ?_, below_setRow (Below.refl _ _) hb _, ⟨rfl, rfl, rfl, by simp [World.setRow], fun k _ hk => setRow_other W g k _ (fun e => hk (by rw [e]))⟩⟩
      have hpl := putB_length (d := d) (s := s) (n := n) (many := many) hfit hm
      refine ⟨by simp [hpl], .inr ⟨g, cap, _, rfl, hb, setRow_heap W g cur _ 5 (0, 0) hg, hnc, hcm, ?_, ?_⟩⟩
      · have : cur.toList.length = cap := by rw [Array.length_toList, hcs, Nat.mul_one]
        simp only [List.size_toArray, List.length_append, List.length_take, List.length_drop, hlen, this]
        omega
      · have hcl : cur.toList.length = cap := by rw [Array.length_toList, hcs, Nat.mul_one]
        have hcd : cur.toList.take d.length = d.map byteV := by rw [Nat.mul_one] at ht; exact ht
        have := take_put cur.toList ((s.take many).map byteV) (32 * n) d.length (by rw [hlen]; omega) (by omega)
        rw [Nat.mul_one]
        show List.take d.length (cur.toList.take (32 * n) ++ (s.take many).map byteV ++ cur.toList.drop (32 * n + ((s.take many).map byteV).length)) = _
        rw [this, hcd, hlen]
        simp [putB]

set_option maxRecDepth 100000 in
set_option maxHeartbeats 4000000 in
theorem put_any (B g cap n many : Nat) (d s : List UInt8) (a3 : Option Addr) (c3 : Nat) (w : World) (hd : d.length ≤ 8000) (hs : s.length = 32) (hn : 32 * n + 32 ≤ d.length) (hm : many ≤ 32) (hBw : B ≤ w.heap.size)
    (ho : w.ownsRow B 5 1 (.slice (some ⟨g, 0, none⟩) d.length cap) d.length (d.map byteV)) (h : Row 1 w a3 32 c3 (s.map byteV)) :
    Calls Try.prog 70 #[.slice (some ⟨g, 0, none⟩) d.length cap, .agg #[.int .i64 (n : Int), .slice a3 32 c3], .int .i64 (many : Int)] w fun e w' => e = .returned (.tuple #[]) ∧ w'.ownsRow B 5 1 (.slice (some ⟨g, 0, none⟩) d.length cap) d.length ((putB d n s many).map byteV) ∧ Below B w w' ∧ w.grownBy w' (some g) := by
  have hmo : Try.prog.follows .mixedOrders = true := by kernel_rfl
  obtain ⟨W, hW⟩ : ∃ W, W = (w.alloc (.cells #[.int .i64 (n : Int), .slice a3 32 c3] 58)).drew := ⟨_, rfl⟩
  have hb1 : Below w.heap.size w W := by rw [hW]; exact ((Below.refl _ w).alloc (Nat.le_refl _) _).drew
  have hc : d.length ≤ cap := (row_of_own ho).2.1
  have hdc : (d.length : Int) ≤ 8000 := by omega
  have hsl1 : ∀ W, (Instr.slice 79 (.slice (some ⟨g, 0, none⟩) d.length cap) (some (.int .i64 ((n : Int) * 32))) none none).run Try.prog W = .ok (.slice (some ⟨g, 32 * n, none⟩) (d.length - 32 * n) (cap - 32 * n)) W := by
    intro W
    rw [run_slice_l (P := Try.prog) W 79 (some ⟨g, 0, none⟩) d.length cap Try.und79 .i64 ((n : Int) * 32) (by omega) (by omega), Try.size5d]
    simp only [Result.andThen, sliced, show ((n : Int) * 32).toNat = 32 * n from by omega]
    rw [if_neg (by omega), Nat.mul_one]
    simp only [Option.map_some, Addr.add]
    split
    · rename_i h; rw [h]
    · simp
  have hw1 : IntKind.i64.wrap ((n : Int) * 32) = (n : Int) * 32 := by rw [IntKind.wrap_i64]; omega
  obtain ⟨a4, c4, hsl2, hr4⟩ := slice_h (P := Try.prog) (h.mono hb1 (Nat.le_refl _)) Try.und22 Try.size5 (many : Int) (by omega) (by omega)
  simp only [Int.toNat_natCast, Nat.mul_one, ← List.map_take] at hsl2 hr4
  obtain ⟨v, w3, hrun, ho3, hb3, hgr3⟩ := copy_put (n := n) (own_below ho hb1) hr4 (by omega) (by omega)
  have HO3 := Lib.hid ho3
  have HB := Lib.hid ((hb1.mono hBw).trans hb3)
  have HGR := Lib.hid (grown_trans (show w.grownBy W (some g) from ⟨hb1.os, hb1.tape, hb1.output, hb1.size, fun k hk _ => hb1.block k hk⟩) hgr3)
  clear ho3 hb3 ho h hr4 hb1 hgr3
  go_enter Try.func70, Try.ntmps70
  go_wp2
  rw [hW] at hrun
  refine Reg.region_JTm 9 hmo (by kernel_rfl) (by kernel_rfl) rfl (by kernel_rfl) (by kernel_rfl) (fun W' => W' = (w.alloc (.cells #[.int .i64 (n : Int), .slice a3 32 c3] 58)).drew) rfl ?_
  simp only [List.take_succ_cons, List.take_zero, List.drop_succ_cons, List.drop_zero]
  refine Reg.WalkT.cons ?vA0 (Reg.StepP.pure rfl ?hA0) ?rA0
  case hA0 => intro w' hJ; subst hJ; go_simp; rfl
  simp only [Act.put, List.setIfInBounds_toArray, List.set_cons_zero, List.set_cons_succ]
  refine Reg.WalkT.cons ?vA1 (Reg.StepP.pure rfl ?hA1) ?rA1
  case hA1 => intro w' hJ; subst hJ; go_simp; rfl
  simp only [Act.put, List.setIfInBounds_toArray, List.set_cons_zero, List.set_cons_succ]
  refine Reg.WalkT.cons ?vA2 (Reg.StepP.pure rfl ?hA2) ?rA2
  case hA2 => intro w' hJ; subst hJ; go_simp; rfl
  simp only [Act.put, List.setIfInBounds_toArray, List.set_cons_zero, List.set_cons_succ]
  refine Reg.WalkT.cons ?vA3 (Reg.StepP.pure rfl ?hA3) ?rA3
  case hA3 => intro w' hJ; subst hJ; go_simp; rfl
  simp only [Act.put, List.setIfInBounds_toArray, List.set_cons_zero, List.set_cons_succ]
  refine Reg.WalkT.cons ?vA4 (Reg.StepP.pure rfl ?hA4) ?rA4
  case hA4 => intro w' hJ; subst hJ; go_simp; rfl
  simp only [Act.put, List.setIfInBounds_toArray, List.set_cons_zero, List.set_cons_succ]
  refine Reg.WalkT.cons ?vA5 (Reg.StepP.pure rfl ?hA5) ?rA5
  case hA5 => intro w' hJ; subst hJ; go_simp; rfl
  simp only [Act.put, List.setIfInBounds_toArray, List.set_cons_zero, List.set_cons_succ]
  refine Reg.WalkT.cons ?vA6 (Reg.StepP.pure rfl ?hA6) ?rA6
  case hA6 => intro w' hJ; subst hJ; go_simp; rfl
  simp only [Act.put, List.setIfInBounds_toArray, List.set_cons_zero, List.set_cons_succ]
  refine Reg.WalkT.cons ?vA7 (Reg.StepP.pure rfl ?hA7) ?rA7
  case hA7 => intro w' hJ; subst hJ; go_simp; rfl
  simp only [Act.put, List.setIfInBounds_toArray, List.set_cons_zero, List.set_cons_succ]
  refine Reg.WalkT.cons ?vA8 (Reg.StepP.pure rfl ?hA8) ?rA8
  case hA8 => intro w' hJ; subst hJ; go_simp; rfl
  simp only [Act.put, List.setIfInBounds_toArray, List.set_cons_zero, List.set_cons_succ]
  refine .nil fun W' hJ => ?_
  subst hJ
  refine wpList_copy_run rfl (.tmp 10) (.tmp 14) 79 22 rfl rfl rfl hrun ?_
  go_wp2
  go_end0
  exact ⟨rfl, HO3.out, HB.out, HGR.out⟩
end Go.Proofs.Ytphalijdanmkeaa
