/- Plain: a journal of which one byte is another one; lines by bytes. -/
import Derived.Test.YtphalijdanmkeaaPC
namespace Go.Proofs.Ytphalijdanmkeaa
open J

theorem jfrom_app : ∀ (a : List (List UInt8)) (k : Nat) (b : List (List UInt8)), journalFrom k (a ++ b) = journalFrom k a ++ journalFrom (k + a.length) b
  | [], k, b => by simp [journalFrom]
  | x :: a, k, b => by simp only [List.cons_append, journalFrom, jfrom_app a (k + 1) b, List.append_assoc, List.length_cons, show k + 1 + a.length = k + (a.length + 1) from by omega]
theorem jfrom_len : ∀ (a : List (List UInt8)) (k : Nat), (journalFrom k a).length = good a
  | [], _ => rfl
  | x :: a, k => by simp only [journalFrom, List.length_append, rec_len, jfrom_len a (k + 1), good]
theorem jgood_snoc : ∀ (a : List (List UInt8)) (x : List UInt8), good (a ++ [x]) = good a + (x.length + 9)
  | [], x => by simp [good]
  | y :: a, x => by simp only [List.cons_append, good, jgood_snoc a x]; omega
theorem jgood_take {l : List (List UInt8)} {p : Nat} (hp : p < l.length) : good (l.take (p + 1)) = good (l.take p) + (l[p].length + 9) := by
  rw [List.take_succ_eq_append_getElem hp, jgood_snoc]
theorem jgood_take_le : ∀ (l : List (List UInt8)) (p : Nat), good (l.take p) ≤ good l
  | [], p => by simp [good]
  | x :: l, 0 => by simp [good]
  | x :: l, p + 1 => by
    have := jgood_take_le l p
    simp only [List.take_succ_cons, good]
    omega
theorem jgood_le {l : List (List UInt8)} (m : Nat) (h : ∀ s ∈ l, s.length ≤ m) : good l ≤ (m + 9) * l.length := by
  induction l with
  | nil => simp [good]
  | cons x l ih =>
    have h1 := h x (List.mem_cons_self ..)
    have h2 := ih (fun s hs => h s (List.mem_cons_of_mem _ hs))
    simp only [good, List.length_cons, Nat.mul_succ]
    omega

theorem jline_len {s : List UInt8} (h : isLine s = true) : 1 ≤ s.length ∧ s.length ≤ 120 := by
  simp only [isLine, Bool.and_eq_true, decide_eq_true_eq] at h
  exact ⟨h.1.1, h.1.2⟩

theorem read_spoilt {l : List (List UInt8)} (h : ∀ s ∈ l, isLine s = true) (hl : l.length ≤ 60) {p k : Nat} (hp : p < l.length) (h1 : good (l.take p) ≤ k) (h2 : k < good (l.take p) + 9 + l[p].length) {c : UInt8} (hk : k < (journal l).length) (hne : (journal l)[k] ≠ c) :
    read ((journal l).set k c) = l.take p := by
  have hsp : l = l.take p ++ l[p] :: l.drop (p + 1) := by rw [← List.drop_eq_getElem_cons hp, List.take_append_drop]
  have hj : journal l = journalFrom 0 (l.take p) ++ (record l[p] p ++ journalFrom (p + 1) (l.drop (p + 1))) := by
    show journalFrom 0 l = _
    conv => lhs; rw [hsp]
    rw [jfrom_app, Nat.zero_add, show (l.take p).length = p by simp; omega]
    rfl
  have hA := jfrom_len (l.take p) 0
  have hr := rec_len l[p] p
  have hrl : k - good (l.take p) < (record l[p] p).length := by omega
  have hset : (journal l).set k c = journalFrom 0 (l.take p) ++ ((record l[p] p).set (k - good (l.take p)) c ++ journalFrom (p + 1) (l.drop (p + 1))) := by
    rw [hj, List.set_append_right _ _ (by omega), hA, List.set_append_left _ _ hrl]
  have hne' : (record l[p] p)[k - good (l.take p)] ≠ c := by
    intro e
    apply hne
    rw [← e]
    have : (journal l)[k]? = (record l[p] p)[k - good (l.take p)]? := by rw [hj, List.getElem?_append_right (by omega), hA, List.getElem?_append_left hrl]
    rw [List.getElem?_eq_getElem hk, List.getElem?_eq_getElem hrl] at this
    exact Option.some.inj this
  have hmem : l[p] ∈ l := List.getElem_mem hp
  have hstop := first_spoilt (rest := journalFrom (p + 1) (l.drop (p + 1))) (num := p) (h _ hmem) hrl hne'
  show recover 60 0 _ = _
  rw [hset, recover_journal _ _ _ _ (fun s hs => h s (List.mem_of_mem_take hs)) (by simp; omega), Nat.zero_add, show (l.take p).length = p by simp; omega, recover_stop hstop, List.append_nil]
end Go.Proofs.Ytphalijdanmkeaa
