/- What can be read of some bytes. -/
import Derived.Test.YtphalijdanmkeaaF
import Derived.RegionIn
import Derived.BigRegionIn
namespace Go.Proofs.Ytphalijdanmkeaa
open Go.RowKit Go.Shelf J
attribute [local go_sem] Oper.semAt_some

theorem records_any (a : Option Addr) (m c : Nat) (w : World) :
    Calls Try.prog 73 #[.slice a m c] w fun e w' => e = .returned (.func (.func 83) #[] #[.pointer (some ⟨w.heap.size, 0, none⟩)]) ∧ w.alloc (.cells #[.slice a m c] 22) = w' := by
  have hmf : ∀ (fn : Fn) (first cap : Array Value) (w : World), (Instr.makeFunc fn first cap).run Try.prog w = .ok (.func fn first cap) w := fun _ _ _ _ => rfl
  go_enter Try.func73, Try.ntmps73
  go_wp2
  go_ret
  exact ⟨rfl, rfl⟩

/-- the end of the last record -/
def endOf (ps : List (List UInt8 × Nat)) : Nat := ps.foldl (fun _ x => x.2) 0
theorem endOf_snoc (ps : List (List UInt8 × Nat)) (x : List UInt8 × Nat) : endOf (ps ++ [x]) = x.2 := by simp [endOf]

theorem records_stops (n : Nat) (hn : 1 ≤ n) (Bn n₀ : Nat) (a : Option Addr) (m c : Nat) (b : List UInt8) (hm : m ≤ 140737488355328) (w : World) (hn₀ : n₀ ≤ w.heap.size) (hBn : Bn < w.heap.size)
    (hcell : w.cell? ⟨Bn, 0, none⟩ = some (.slice a m c)) (hR : ∀ W', Below n₀ w W' → Row 1 W' a m c (b.map byteV)) :
    SeqStopsK Fence.wide n Try.prog 83 #[.pointer (some ⟨Bn, 0, none⟩)] encP (Keep n₀ Bn) (fun ys => ys = pairs 60 0 0 b) (fun pre => pre <+: pairs 60 0 0 b) 60 w := fun l J Jx W hW hJ _ hY h0 =>
  records1_in n hn l Bn n₀ a m c b hm J Jx W (Nat.le_trans hn₀ hW.size) hJ ((hW.cell (p := ⟨Bn, 0, none⟩) hBn).trans hcell) (hR W (hW.mono hn₀)) (fun W' h => hR W' ((hW.mono hn₀).trans h.1)) hY h0

def ReadPost (w : World) (b : List UInt8) (e : Ending) (w' : World) : Prop :=
  ∃ a c, e = .returned (.tuple #[.slice a (pairs 60 0 0 b).length c, .int .i64 (endOf (pairs 60 0 0 b) : Int)]) ∧ w'.ownsRow w.heap.size 9 1 (.slice a (pairs 60 0 0 b).length c) (pairs 60 0 0 b).length ((pairs 60 0 0 b).map fun x => strV x.1) ∧ Below w.heap.size w w'

set_option maxRecDepth 100000 in
set_option maxHeartbeats 2000000 in
theorem read_any (a : Option Addr) (m c : Nat) (b : List UInt8) (w : World) (hm : m ≤ 140737488355328) (h : Row 1 w a m c (b.map byteV)) :
    Calls Try.prog 54 #[.slice a m c] w (ReadPost w b) := by
  have hmo : Try.prog.follows .mixedOrders = true := by kernel_rfl
  obtain ⟨i0, hi, hz0, hz1, hz2⟩ := info_parts Try.info9
  refine (callsIn_wide (n := 3)).1 ?_
  refine callsIn_of_wp_marks Try.func54 rfl trivial ?_ rfl
  simp only [Try.ntmps54, List.size_toArray, List.length_cons, List.length_nil, Nat.reduceAdd, Nat.reduceSub, Array.replicate_succ, Array.replicate_zero, List.push_toArray, List.append_toArray, List.nil_append, List.cons_append]
  gi_wp2_with (refine ⟨trivial, ?_⟩; gi_at_call 73; refine (callsIn_wide.2 (records_any _ _ _ _)).mono ?_; rintro e w' ⟨rfl, rfl⟩)
  have bO := Boxed.new w 34 (.slice none 0 0)
  have bG := Boxed.new (w.alloc (.cells #[.slice none 0 0] 34)) 3 (.int .i64 0)
  have bB := Boxed.new ((w.alloc (.cells #[.slice none 0 0] 34)).alloc (.cells #[.int .i64 0] 3)) 22 (.slice a m c)
  simp only [World.size_alloc] at bG bB
  have hB0 : Below w.heap.size w (((w.alloc (.cells #[.slice none 0 0] 34)).alloc (.cells #[.int .i64 0] 3)).alloc (.cells #[.slice a m c] 22)) := (((Below.refl _ w).alloc (Nat.le_refl _) _).alloc (by simp) _).alloc (by simp; omega) _
  refine wpIn_rangeFunc_ownG rfl (by omega) (gf := 83) (lb := #[.pointer (some ⟨w.heap.size + 1 + 1, 0, none⟩)]) rfl trivial (enters_of Try.func83 (by kernel_rfl) rfl)
    (records_stops _ (by omega) (w.heap.size + 1 + 1) w.heap.size a m c b hm _ (by simp; omega) (by simp) bB.cell (fun W' hW' => h.mono (hB0.trans hW') (Nat.le_refl _)))
    (fun h k => h.trans k) ?hKb (Below.refl _ _) (fun _ => rfl)
    (fun pre W => (∃ v, Boxed W w.heap.size 34 v ∧ W.ownsRow w.heap.size 9 1 v pre.length (pre.map fun x => strV x.1) ∧ True) ∧ Boxed W (w.heap.size + 1) 3 (.int .i64 (endOf pre : Int)) ∧ Boxed W (w.heap.size + 1 + 1) 22 (.slice a m c) ∧ Below w.heap.size w W)
    (fun _ _ _ => False)
    ?hI
    (fun _ _ _ _ _ hs _ _ => hs)
    ⟨⟨_, (bO.alloc _).alloc _, World.ownsRow_nil _ _ _ _, trivial⟩, bG.alloc _, bB, hB0⟩
    (fun x => { tmps := #[.slice a m c, undef, .pointer (some ⟨w.heap.size, 0, none⟩), .pointer (some ⟨w.heap.size + 1, 0, none⟩), strV x.1, .int .i64 (x.2 : Int), .slice a m c, .func (.func 83) #[] #[.pointer (some ⟨w.heap.size + 1 + 1, 0, none⟩)], strV x.1, .int .i64 (x.2 : Int), undef, undef, undef, undef, undef, undef, undef], defers := [] }) ?assign ?body ?done ?stop
  case hKb =>
    intro W l o o' hl ho hoc hw
    refine ⟨belowK_b (w := w) (Nat.le_refl _) W l o o' (by simp at hl; omega) ho hoc hw, fun v hv => ?_⟩
    exact cell_kept hv (grownBy_putObj' W l o') (fun r e => by cases e; exact ⟨o, ho, hoc⟩)
  case hI =>
    refine OwnFrom.and (Own.from (holdsRow_own w.heap.size w.heap.size 34 9 1 (fun pre : List (List UInt8 × Nat) => pre.length) (fun pre => pre.map fun x => strV x.1) (fun _ _ => True)) _) ?_
    refine OwnFrom.and (Own.from (boxed_own (w.heap.size + 1) 3 (fun pre : List (List UInt8 × Nat) => .int .i64 (endOf pre : Int))) _) ?_
    exact OwnFrom.and (Own.from (boxed_own (w.heap.size + 1 + 1) 22 (fun _ => .slice a m c)) _) (ownFrom_below (Nat.le_refl _) (by simp; omega))
  case assign =>
    intro l x W K hK
    gi_wp2
    exact hK
  case body =>
    rintro l pre x W ⟨⟨v, hv, hrow, _⟩, hg, hbx, hB⟩ hlt
    have hc := hv.cell
    have hgc := hg.cell
    have hgf := hg.frozen
    gi_wp2_with (gi_at_builtin; refine wpListIn_append_own _ rfl _ _ 34 rfl w.heap.size 9 i0 (.string ⟨#[]⟩) 1 16 Try.underlying34 hi hz0 hz1 hz2 rfl (by decide) _ _ _ rfl (hrow.alloc _) ⟨W.heap.size, 0, none⟩ 1 1 [strV x.1] rfl rfl (cell_one_new _ _ _) (by simp [Value.oneCell']) (by unfold maxLen; omega) (by omega) (by have := hB.size; simp; omega) ?_; intro v' w1 hown' hgrow _; obtain ⟨g', cap', rfl⟩ := ownsRow_succ hown'; obtain ⟨hv1, hv2, hr2, hk2, hb2⟩ := hv.appended (by decide) hrow hB.size (Nat.le_refl _) hown' hgrow; have hg1 := (hg.alloc (.cells #[strV x.1] 9)).kept hgrow (hg.not_row (by decide) hrow); have hc1 := hv1.cell; have hf1 := hv1.frozen; have hgc1 := hg1.cell; have hgf1 := hg1.frozen)
    have hbx1 := (hbx.alloc (.cells #[strV x.1] 9)).kept hgrow (hbx.not_row (by decide) hrow)
    have hbx2 := (hbx1.other (show w.heap.size + 1 + 1 ≠ w.heap.size by omega) (.slice (some ⟨g', 0, none⟩) (pre.length + 1) cap')).other (show w.heap.size + 1 + 1 ≠ w.heap.size + 1 by omega) (.int .i64 (x.2 : Int))
    have hg2 := (hg1.other (show w.heap.size + 1 ≠ w.heap.size by omega) (.slice (some ⟨g', 0, none⟩) (pre.length + 1) cap')).set (.int .i64 (x.2 : Int))
    have hv3 := hv2.other (show w.heap.size ≠ w.heap.size + 1 by omega) (.int .i64 (x.2 : Int))
    have hr3 := hr2.kept (grownBy_setCell' _ (w.heap.size + 1) (.int .i64 (x.2 : Int))) (.inr ((hg1.other (show w.heap.size + 1 ≠ w.heap.size by omega) (.slice (some ⟨g', 0, none⟩) (pre.length + 1) cap')).not_row (by decide) hr2).symm)
    have hb3 : Below w.heap.size W _ := hb2.setCell (p := ⟨w.heap.size + 1, 0, none⟩) (by simp) (.int .i64 (x.2 : Int))
    refine ⟨(hk2.trans (KeepsOthers.setCell _ _ _)).from _, ⟨hb3, fun u hu => ?_⟩, ⟨_, hv3, by simpa using hr3, trivial⟩, by rw [endOf_snoc]; exact hg2, hbx2, hB.trans hb3⟩
    rw [hbx.cell] at hu
    rw [hbx2.cell, hu]
  case done =>
    rintro D ys W hD rfl ⟨⟨v, hv, hrow, _⟩, hg, hbx, hB⟩ hK
    obtain ⟨av, cv, rfl, hrowv⟩ := own_row hrow
    have hc := hv.cell
    have hf := hv.frozen
    have hgc := hg.cell
    have hgf := hg.frozen
    gi_wp2
    gi_region_o
    gi_wp2
    have hv' := (hv.set (.slice av (pairs 60 0 0 b).length cv)).other (show w.heap.size ≠ w.heap.size + 1 by omega) (.int .i64 (endOf (pairs 60 0 0 b) : Int))
    have hg' := (hg.other (show w.heap.size + 1 ≠ w.heap.size by omega) (.slice av (pairs 60 0 0 b).length cv)).set (.int .i64 (endOf (pairs 60 0 0 b) : Int))
    have hr1 := hrow.kept (grownBy_setCell' W w.heap.size (.slice av (pairs 60 0 0 b).length cv)) (.inr (hv.not_row (by decide) hrow).symm)
    have hr2 := hr1.kept (grownBy_setCell' _ (w.heap.size + 1) (.int .i64 (endOf (pairs 60 0 0 b) : Int))) (.inr ((hg.other (show w.heap.size + 1 ≠ w.heap.size by omega) (.slice av (pairs 60 0 0 b).length cv)).not_row (by decide) hr1).symm)
    have hK' := (KeepsOthers.setCell (W.setCell ⟨w.heap.size, 0, none⟩ (.slice av (pairs 60 0 0 b).length cv)) ⟨w.heap.size + 1, 0, none⟩ (.int .i64 (endOf (pairs 60 0 0 b) : Int))).same D _ ((KeepsOthers.setCell W ⟨w.heap.size, 0, none⟩ (.slice av (pairs 60 0 0 b).length cv)).same D _ hK rfl) rfl
    have hB' := (hB.setCell (p := ⟨w.heap.size, 0, none⟩) (Nat.le_refl _) (.slice av (pairs 60 0 0 b).length cv)).setCell (p := ⟨w.heap.size + 1, 0, none⟩) (by simp) (.int .i64 (endOf (pairs 60 0 0 b) : Int))
    generalize hW2 : (W.setCell ⟨w.heap.size, 0, none⟩ (.slice av (pairs 60 0 0 b).length cv)).setCell ⟨w.heap.size + 1, 0, none⟩ (.int .i64 (endOf (pairs 60 0 0 b) : Int)) = W2 at *
    have hK2 : W2.drew.heap[D]? = some (.deferred (some [])) := hK'
    have hr3 : W2.drew.ownsRow w.heap.size 9 1 (.slice av (pairs 60 0 0 b).length cv) (pairs 60 0 0 b).length ((pairs 60 0 0 b).map fun x => strV x.1) := hr2
    refine ⟨by simp, .inl ⟨_, _, rfl, run_takeDeferred hK2, ?_⟩⟩
    have hc3 : (W2.drew.putObj D (.deferred none)).cell? ⟨w.heap.size, 0, none⟩ = some (.slice av (pairs 60 0 0 b).length cv) := cell_kept (W := W2.drew) hv'.cell (grownBy_putObj' _ _ _) (fun r e => by cases e; exact ⟨_, hK2, rfl⟩)
    have hg3 : (W2.drew.putObj D (.deferred none)).cell? ⟨w.heap.size + 1, 0, none⟩ = some (.int .i64 (endOf (pairs 60 0 0 b) : Int)) := cell_kept (W := W2.drew) hg'.cell (grownBy_putObj' _ _ _) (fun r e => by cases e; exact ⟨_, hK2, rfl⟩)
    refine ⟨.tuple #[.slice av (pairs 60 0 0 b).length cv, .int .i64 (endOf (pairs 60 0 0 b) : Int)], ?_, av, cv, rfl, ownsRow_putObj hr3 _ hK2 rfl, ?_⟩
    · simp [results, Try.results54, go_sem, hc3, hg3]
    · exact (hB'.drew).trans (belowK_b (w := w) (Nat.le_refl _) W2.drew D _ _ (by simp at hD; omega) hK2 rfl rfl)
  case stop =>
    rintro D c pre W _ _ h _
    exact h.elim
end Go.Proofs.Ytphalijdanmkeaa
