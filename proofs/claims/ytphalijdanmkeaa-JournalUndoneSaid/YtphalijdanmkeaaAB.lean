/- To turn a list of writes round, in place. -/
import Derived.Test.YtphalijdanmkeaaAA
import Derived.Test.YtphalijdanmkeaaLater
namespace Go.Proofs.Ytphalijdanmkeaa
open Go.RowKit Go.Shelf J
attribute [local go_sem] Oper.semAt_some

/-- the cells of writes, by places -/
def WrF (B : Nat) (W : World) (xs : List Value) (bs : List (Int × List UInt8)) : Prop :=
  xs.length = bs.length * 2 ∧ ∀ i (h : i < bs.length), xs[i * 2]? = some (.int .i64 bs[i].1) ∧ ∃ y, xs[i * 2 + 1]? = some y ∧ W.ownsRow B 5 1 y bs[i].2.length (bs[i].2.map byteV)
theorem WrO.toF {B : Nat} {W : World} : ∀ {xs : List Value} {bs : List (Int × List UInt8)}, WrO B W xs bs → WrF B W xs bs
  | [], [], _ => ⟨rfl, fun i h => by simp at h⟩
  | x :: y :: xs, (n, b) :: bs, ⟨h1, h2, h3⟩ => by
    have ih := h3.toF
    refine ⟨by simp [ih.1]; omega, fun i hi => ?_⟩
    cases i with
    | zero => exact ⟨by simp [h1], y, by simp, h2⟩
    | succ i =>
      obtain ⟨k1, z, k2, k3⟩ := ih.2 i (by simpa using hi)
      exact ⟨by simpa [Nat.succ_mul] using k1, z, by simpa [Nat.succ_mul] using k2, k3⟩
theorem WrF.toO {B : Nat} {W : World} : ∀ {bs : List (Int × List UInt8)} {xs : List Value}, WrF B W xs bs → WrO B W xs bs
  | [], [], _ => trivial
  | [], _ :: _, h => by have := h.1; simp at this
  | (n, b) :: bs, [], h => by have := h.1; simp at this
  | (n, b) :: bs, [_], h => by have := h.1; simp at this; omega
  | (n, b) :: bs, x :: y :: xs, h => by
    obtain ⟨k1, z, k2, k3⟩ := h.2 0 (by simp)
    simp at k1 k2
    subst k1 k2
    refine ⟨rfl, k3, WrF.toO ⟨by have := h.1; simp at this; omega, fun i hi => ?_⟩⟩
    obtain ⟨l1, u, l2, l3⟩ := h.2 (i + 1) (by simpa using hi)
    exact ⟨by simpa [Nat.succ_mul] using l1, u, by simpa [Nat.succ_mul] using l2, by simpa using l3⟩

/-- writing one element of an owned row of writes -/
theorem ownsRow_set2 {W : World} {B g n cap : Nat} {xs : List Value} (h : W.ownsRow B 58 2 (.slice (some ⟨g, 0, none⟩) n cap) n xs) (i : Nat) (hi : i < n) (u v : Value) :
    ((W.setCell ⟨g, i * 2, none⟩ u).setCell ⟨g, i * 2 + 1, none⟩ v).ownsRow B 58 2 (.slice (some ⟨g, 0, none⟩) n cap) n ((xs.set (i * 2) u).set (i * 2 + 1) v) := by
  obtain ⟨hl, h⟩ := h
  rcases h with ⟨h, _⟩ | ⟨g', cap', cur, e, hb, hg, hnc, hcm, hcs, ht⟩
  · cases h
  · cases e
    refine ⟨by simp [hl], .inr ⟨g, cap, (cur.setIfInBounds (i * 2) u).setIfInBounds (i * 2 + 1) v, rfl, hb, ?_, hnc, hcm, by simp [hcs], ?_⟩⟩
    · simp [World.setCell, Array.getElem?_modify, hg]
    · simp only [Array.toList_setIfInBounds]
      rw [List.take_set, List.take_set, ht]

/-- two elements of a list change places -/
def swp {α : Type} (l : List α) (i j : Nat) (x y : α) : List α := (l.set i y).set j x

theorem WrF.swap {B : Nat} {W W' : World} {xs : List Value} {bs : List (Int × List UInt8)} (h : WrF B W xs bs) (hk : ∀ y n ys, W.ownsRow B 5 1 y n ys → W'.ownsRow B 5 1 y n ys) {i j : Nat} (hi : i < bs.length) (hj : j < bs.length) {y z : Value} (hij : i ≠ j)
    (hy : xs[i * 2 + 1]? = some y) (hz : xs[j * 2 + 1]? = some z) :
    WrF B W' ((((xs.set (i * 2) (.int .i64 bs[j].1)).set (i * 2 + 1) z).set (j * 2) (.int .i64 bs[i].1)).set (j * 2 + 1) y) (swp bs i j bs[i] bs[j]) := by
  refine ⟨by simp [swp, h.1], fun k hk' => ?_⟩
  have hkb : k < bs.length := by simpa [swp] using hk'
  obtain ⟨a1, a2, a3, a4⟩ := h.2 i hi
  obtain ⟨b1, b2, b3, b4⟩ := h.2 j hj
  obtain ⟨c1, c2, c3, c4⟩ := h.2 k hkb
  rw [hy] at a3; cases a3
  rw [hz] at b3; cases b3
  have hxl := h.1
  by_cases hkj : k = j
  · subst hkj
    refine ⟨?_, y, ?_, ?_⟩
    · rw [List.getElem?_set_ne (by omega), List.getElem?_set_self (by simp; omega)]
      simp [swp]
    · rw [List.getElem?_set_self (by simp; omega)]
    · simp only [swp, List.getElem_set_self]
      exact hk _ _ _ a4
  · by_cases hki : k = i
    · subst hki
      refine ⟨?_, z, ?_, ?_⟩
      · rw [List.getElem?_set_ne (by omega), List.getElem?_set_ne (by omega), List.getElem?_set_ne (by omega), List.getElem?_set_self (by omega)]
        simp [swp, Ne.symm hij]
      · rw [List.getElem?_set_ne (by omega), List.getElem?_set_ne (by omega), List.getElem?_set_self (by simp; omega)]
      · simp only [swp, List.getElem_set_ne (Ne.symm hij), List.getElem_set_self]
        exact hk _ _ _ b4
    · refine ⟨?_, c2, ?_, ?_⟩
      · rw [List.getElem?_set_ne (by omega), List.getElem?_set_ne (by omega), List.getElem?_set_ne (by omega), List.getElem?_set_ne (by omega), c1]
        simp [swp, Ne.symm hki, Ne.symm hkj]
      · rw [List.getElem?_set_ne (by omega), List.getElem?_set_ne (by omega), List.getElem?_set_ne (by omega), List.getElem?_set_ne (by omega), c3]
      · simp only [swp, List.getElem_set_ne (Ne.symm hkj), List.getElem_set_ne (Ne.symm hki)]
        exact hk _ _ _ c4

/-- k elements at either end have changed places -/
def turned {α : Type} (k : Nat) (bs cs : List α) : Prop := cs.length = bs.length ∧ ∀ i, i < bs.length → cs[i]? = if i < k ∨ bs.length - 1 - k < i then bs[bs.length - 1 - i]? else bs[i]?
theorem turned_start {α : Type} (bs : List α) : turned 0 bs bs := ⟨rfl, fun i hi => by rw [if_neg (by omega)]⟩
theorem turned_step {α : Type} {k : Nat} {bs cs : List α} (h : turned k bs cs) (hk : k < bs.length - 1 - k) {x y : α} (hx : cs[k]? = some x) (hy : cs[bs.length - 1 - k]? = some y) : turned (k + 1) bs (swp cs k (bs.length - 1 - k) x y) := by
  have hl := h.1
  refine ⟨by simp [swp, hl], fun i hi => ?_⟩
  have h1 := h.2 k (by omega)
  have h2 := h.2 (bs.length - 1 - k) (by omega)
  rw [if_neg (by omega)] at h1 h2
  simp only [swp]
  by_cases e2 : i = bs.length - 1 - k
  · subst e2
    rw [List.getElem?_set_self (by simp; omega), if_pos (by omega), show bs.length - 1 - (bs.length - 1 - k) = k from by omega, ← h1, hx]
  · rw [List.getElem?_set_ne (by omega)]
    by_cases e1 : i = k
    · subst e1
      rw [List.getElem?_set_self (by omega), if_pos (by omega), ← h2, hy]
    · rw [List.getElem?_set_ne (by omega), h.2 i hi]
      by_cases c : i < k ∨ bs.length - 1 - k < i
      · rw [if_pos c, if_pos (by omega)]
      · rw [if_neg c, if_neg (by omega)]
theorem turned_end {α : Type} {k : Nat} {bs cs : List α} (h : turned k bs cs) (hk : bs.length - 1 - k ≤ k) : cs = bs.reverse := by
  apply List.ext_getElem?
  intro i
  by_cases hi : i < bs.length
  · rw [h.2 i hi, List.getElem?_reverse hi]
    split
    · rfl
    · congr 1; omega
  · rw [List.getElem?_eq_none (by rw [h.1]; omega), List.getElem?_eq_none (by simp; omega)]
end Go.Proofs.Ytphalijdanmkeaa
