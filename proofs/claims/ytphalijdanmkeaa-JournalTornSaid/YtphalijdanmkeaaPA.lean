/- Plain facts: reading a journal back; what comes behind it; one byte of it changed. -/
import Derived.Test.YtphalijdanmkeaaR
namespace Go.Proofs.Ytphalijdanmkeaa
open J

theorem rec_len (l : List UInt8) (n : Nat) : (record l n).length = l.length + 9 := by
  simp [record, digits]

/-- the first byte of a record is a digit -/
theorem rec_head (l : List UInt8) (n : Nat) : ∃ r, record l n = UInt8.ofNat (48 + n / 10 % 10) :: r := ⟨_, rfl⟩

theorem first_digit {b : List UInt8} {num : Nat} {l : List UInt8} (h : first b num = some l) : ∃ r, b = UInt8.ofNat (48 + num / 10 % 10) :: r := by
  simp only [first] at h
  split at h
  · rename_i hn
    split at h
    · rename_i hc
      simp only [Bool.and_eq_true, beq_iff_eq] at hc
      obtain ⟨r, hr⟩ := rec_head ((b.drop 8).take (lengthL b)) num
      rw [hr] at hc
      cases b with
      | nil => simp at hc
      | cons x b =>
        rw [List.take_succ_cons] at hc
        have := (List.cons.inj hc.2).1
        exact ⟨b, by rw [this]⟩
    · cases h
  · cases h

theorem rec_drop8 (x rest : List UInt8) (num : Nat) : ((record x num ++ rest).drop 8).take x.length = x := by
  simp [record, digits]

/-- a record that stands there is read -/
theorem first_record {x rest : List UInt8} {num : Nat} (hx : isLine x = true) : first (record x num ++ rest) num = some x := by
  have hl : 1 ≤ x.length ∧ x.length ≤ 120 := by simp only [isLine, Bool.and_eq_true, decide_eq_true_eq] at hx; exact hx.1
  have hr := rec_len x num
  have h8 := rec_drop8 x rest num
  have := first_hit (b := record x num ++ rest) (num := num) (n := x.length) hl.1 hl.2 (by simp [hr]) (by
    simp only [hits, h8, hx, Bool.true_and, beq_iff_eq]
    rw [← hr, List.take_left])
  rw [this, h8]

theorem recover_journal : ∀ (l : List (List UInt8)) (k f : Nat) (tail : List UInt8), (∀ s ∈ l, isLine s = true) → l.length ≤ f → recover f k (journalFrom k l ++ tail) = l ++ recover (f - l.length) (k + l.length) tail
  | [], k, f, tail, _, _ => by simp [journalFrom]
  | x :: l, k, 0, tail, _, h => by simp at h
  | x :: l, k, f + 1, tail, h, hf => by
    have hx := h x (List.mem_cons_self ..)
    simp only [journalFrom, List.append_assoc, recover, first_record hx]
    rw [← rec_len x k, List.drop_left, recover_journal l (k + 1) f tail (fun s hs => h s (List.mem_cons_of_mem _ hs)) (by simpa using hf)]
    simp only [List.cons_append, List.length_cons]
    congr 3 <;> omega

theorem read_journal {l : List (List UInt8)} {tail : List UInt8} (h : ∀ s ∈ l, isLine s = true) (hl : l.length ≤ 60) (ht : recover (60 - l.length) l.length tail = []) : read (journal l ++ tail) = l := by
  show recover 60 0 (journalFrom 0 l ++ tail) = l
  rw [recover_journal l 0 60 tail h hl, Nat.zero_add, ht, List.append_nil]

theorem recover_stop {f num : Nat} {b : List UInt8} (h : first b num = none) : recover f num b = [] := by
  cases f with
  | zero => rfl
  | succ f => simp [recover, h]

theorem recover_nodigit {f num : Nat} {b : List UInt8} (h : ∀ c r, b = c :: r → ¬ (48 ≤ c.toNat ∧ c.toNat ≤ 57)) : recover f num b = [] := by
  apply recover_stop
  cases hf : first b num with
  | none => rfl
  | some l =>
    obtain ⟨r, hr⟩ := first_digit hf
    exact absurd (by rw [digit_toNat]; omega) (h _ r hr)
theorem recover_nil (f num : Nat) : recover f num [] = [] := recover_nodigit fun c r h => by cases h
theorem recover_zeros (f num n : Nat) : recover f num (List.replicate n 0) = [] := recover_nodigit fun c r h => by
  cases n with
  | zero => cases h
  | succ n =>
    rw [List.replicate_succ] at h
    have := (List.cons.inj h).1
    subst this
    simp

/-! ### one byte changed -/
theorem set_app_left {α : Type} (a b : List α) (k : Nat) (v : α) (h : k < a.length) : (a ++ b).set k v = a.set k v ++ b := List.set_append_left k v h

theorem prod_mod : ∀ p : Fin 121, ∀ d : Fin 95, p.val ≠ 0 → d.val ≠ 0 → p.val * d.val % 127 ≠ 0 := by decide +kernel

theorem mod_differs {X p a b : Nat} (hp : 1 ≤ p) (hp2 : p ≤ 120) (hab : a < b) (hb : b - a ≤ 94) : (X + p * a) % 127 ≠ (X + p * b) % 127 := by
  intro h
  have h1 := prod_mod ⟨p, by omega⟩ ⟨b - a, by omega⟩ (by simp; omega) (by simp; omega)
  apply h1
  simp only
  have e : p * b = p * a + p * (b - a) := by rw [← Nat.mul_add]; congr 1; omega
  rw [e] at h
  generalize p * a = u at *
  generalize p * (b - a) = v at *
  omega

theorem wsum_set : ∀ (s : List UInt8) (k i : Nat) (c : UInt8) (h : i < s.length), wsum k (s.set i c) + (k + i + 1) * s[i].toNat = wsum k s + (k + i + 1) * c.toNat
  | [], k, i, c, h => by simp at h
  | x :: s, k, 0, c, _ => by simp [wsum]; omega
  | x :: s, k, i + 1, c, h => by
    have := wsum_set s (k + 1) i c (by simpa using h)
    simp only [List.set_cons_succ, wsum, List.getElem_cons_succ]
    rw [show k + (i + 1) + 1 = k + 1 + i + 1 from by omega]
    omega

theorem sum_differs {s : List UInt8} {n i : Nat} {c : UInt8} (hs : s.length ≤ 120) (hi : i < s.length) (h1 : 32 ≤ s[i].toNat ∧ s[i].toNat ≤ 126) (h2 : 32 ≤ c.toNat ∧ c.toNat ≤ 126) (hne : s[i] ≠ c) : J.sum (s.set i c) n ≠ J.sum s n := by
  have hw := wsum_set s 0 i c hi
  have hne' : s[i].toNat ≠ c.toNat := fun h => hne (UInt8.toNat_inj.1 h)
  simp only [J.sum, Nat.zero_add] at *
  intro h
  have key : (7 * n + wsum 0 s + (i + 1) * s[i].toNat) % 127 = (7 * n + wsum 0 s + (i + 1) * c.toNat) % 127 := by
    generalize (i + 1) * s[i].toNat = u at *
    generalize (i + 1) * c.toNat = v at *
    omega
  rcases Nat.lt_or_ge s[i].toNat c.toNat with hlt | hge
  · exact mod_differs (by omega) (by omega) hlt (by omega) key
  · exact mod_differs (by omega) (by omega) (show c.toNat < s[i].toNat by omega) (by omega) key.symm
end Go.Proofs.Ytphalijdanmkeaa
