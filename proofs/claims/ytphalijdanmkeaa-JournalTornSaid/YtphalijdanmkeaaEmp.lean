/- To append to an empty slice that lies somewhere: nothing that was there is turned, whoever owns it. -/
import Derived.Test.YtphalijdanmkeaaBase
namespace Go.Proofs.Ytphalijdanmkeaa
open Go.RowKit

theorem run_append_empty {P : Program} (w : World) (t ty e : TypeId) (i : TypeInfo) (z : Value) (k bytes : Nat) (ht : P.underlying t = some (.slice e)) (hi : P.info? e = some i) (hz : i.zero = some z)
    (hsize : i.size = k) (hby : i.bytes = bytes) (b : Addr) (ax : Option Addr) (m c : Nat) (news : List Value) (hr : Row k w ax m c news) (h63 : m ≤ maxLen) (hbytes : m * bytes ≤ 140737488355328) :
    ∃ a' c' w', (Builtin.append_ #[t, t] ty #[.slice (some b) 0 0, .slice ax m c]).run P w = .ok (.slice a' m c') w' ∧ Row k w' a' m c' news ∧ Below w.heap.size w w' := by
  obtain ⟨hl, hmc, hnil, hcell⟩ := hr
  by_cases h0 : m = 0
  · subst h0
    obtain rfl : news = [] := List.eq_nil_of_length_eq_zero (by omega)
    refine ⟨some b, 0, w, ?_, ⟨by simp, Nat.le_refl _, (fun h => by cases h), .inl rfl⟩, Below.refl _ _⟩
    cases ax with
    | none => simp [Builtin.append_, run_underlying ht, sizeOf, typeInfo, hi, Builtin.lenOf, Builtin.firstCells, storeCells]
    | some a => simp [Builtin.append_, run_underlying ht, sizeOf, typeInfo, hi, Builtin.lenOf, Builtin.firstCells, loadCells, loadCellsFrom, storeCells, Result.andThen]
  · have hm : 0 < m := by omega
    rcases hcell with h | ⟨g, o, rfl, hg, hc⟩
    · exact absurd h h0
    have hrun := run_append_grow (P := P) (w := w) t ty e i z ht hi hz b 0 0 [] (by simp) (by intro j v h; simp at h) ⟨g, o, none⟩ m c news (by rw [hl, hsize])
      (fun j u hj => by
        have hp : (⟨g, o, none⟩ : Addr).add j = ⟨g, o + j, none⟩ := by unfold Addr.add; split <;> simp_all
        have hj' : j < news.length := (List.getElem?_eq_some_iff.1 hj).1
        rw [hp, hc j hj', ← hj, List.getElem?_eq_getElem hj']) (by omega) (by unfold maxLen at h63; omega) (by rw [Nat.zero_add, nextslicecap_zero hm, hby]; omega)
    simp only [Nat.zero_add] at hrun
    refine ⟨_, _, _, hrun, ?_, ((Below.refl _ w).drew).alloc (Nat.le_refl _) _⟩
    refine ⟨hl, grownCap_ge _ _ _ _, (fun h => by cases h), .inr ⟨w.heap.size, 0, rfl, by simp, fun j hj => ?_⟩⟩
    have hnew := heap_alloc_new w.drew (.cells ([].toArray ++ news.toArray ++ Builtin.zeroCells z.cells (grownCap w m 0 e - m)) e)
    rw [Nat.zero_add, cell_of_row _ w.heap.size j _ e (0, 0) hnew]
    simp [Array.getElem?_append, hj]

/-- at a step of a region that draws -/
theorem step_append_empty {P : Program} {w : World} {ops : Array Oper} {o : Oper} {a : Act} {K : Act → World → Prop} {Q : Exit → Act → World → Prop} {E : Prop} (hgd : o.guard = none) (s x : Operand) (t : TypeId)
    (ho : o.op = .call { callee := .builtin .append, args := #[s, x], argTypes := #[t, t] })
    (e : TypeId) (i : TypeInfo) (z : Value) (k bytes : Nat) (ht : P.underlying t = some (.slice e)) (hi : P.info? e = some i) (hz : i.zero = some z) (hsize : i.size = k) (hby : i.bytes = bytes)
    (b : Addr) (hs : a.eval s = .slice (some b) 0 0) (ax : Option Addr) (m c : Nat) (news : List Value) (hx : a.eval x = .slice ax m c) (hr : Row k w ax m c news) (h63 : m ≤ maxLen) (hbytes : m * bytes ≤ 140737488355328)
    (h : ∀ a' c' w', Row k w' a' m c' news → Below w.heap.size w w' → K (a.put o.dst (.slice a' m c')) w') :
    if Region.wanted o (yielded ops a.tmps) = true then Oper.wp P o a w K Q else E := by
  have hw : Region.wanted o (yielded ops a.tmps) = true := by simp [Region.wanted, hgd]
  rw [if_pos hw]
  obtain ⟨a', c', w', hrun, h2, h3⟩ := run_append_empty (P := P) w t o.type e i z k bytes ht hi hz hsize hby b ax m c news hr h63 hbytes
  unfold Oper.wp execOp
  simp only [ho, resolve, invoke, builtin, Sem.run_bind, Sem.run_pure, Result.andThen_ok, List.map_toArray, List.map_cons, List.map_nil, hs, hx, hrun]
  exact h a' c' w' h2 h3
end Go.Proofs.Ytphalijdanmkeaa
