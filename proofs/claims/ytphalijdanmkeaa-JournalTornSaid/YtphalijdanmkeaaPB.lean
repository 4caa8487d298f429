/- Plain facts: a record of which one byte is another one is read no more. -/
import Derived.Test.YtphalijdanmkeaaPA
namespace Go.Proofs.Ytphalijdanmkeaa
open J

/-- the head of a record -/
def hd (x : List UInt8) (n : Nat) : List UInt8 := digits 2 n ++ digits 3 x.length ++ digits 3 (J.sum x n)
theorem hd_len (x : List UInt8) (n : Nat) : (hd x n).length = 8 := by simp [hd, digits]
theorem record_hd (x : List UInt8) (n : Nat) : record x n = hd x n ++ (x ++ [10]) := by simp [record, hd]

theorem first_some' {b : List UInt8} {num : Nat} {l : List UInt8} (h : first b num = some l) : 1 ≤ l.length ∧ l.length ≤ 120 ∧ l.length + 9 ≤ b.length ∧ l = (b.drop 8).take l.length ∧ isLine l = true ∧ record l num = b.take (l.length + 9) ∧ lengthL b = l.length := by
  simp only [first] at h
  split at h
  · rename_i hn
    split at h
    · rename_i hc
      obtain rfl := Option.some.inj h
      simp only [Bool.and_eq_true, beq_iff_eq] at hc
      have hl : ((b.drop 8).take (lengthL b)).length = lengthL b := by simp; omega
      rw [hl]
      exact ⟨hn.1, hn.2.1, hn.2.2, rfl, hc.1, hc.2, rfl⟩
    · cases h
  · cases h

theorem isLine_at {s : List UInt8} (h : isLine s = true) (i : Nat) (hi : i < s.length) : 32 ≤ s[i].toNat ∧ s[i].toNat ≤ 126 := by
  simp only [isLine, Bool.and_eq_true, List.all_eq_true, decide_eq_true_eq] at h
  exact h.2 _ (List.getElem_mem hi)

theorem split8 {a b c d : List UInt8} (ha : a.length = 8) (hc : c.length = 8) (h : a ++ b = c ++ d) : a = c ∧ b = d := List.append_inj h (by omega)

/-- what stands behind the head decides where the record ends -/
theorem tail_length {x y rest : List UInt8} (hx : isLine x = true) (hy : isLine y = true) (h : y ++ [10] = (x ++ 10 :: rest).take (y.length + 1)) : y = x := by
  have hlen : y.length = x.length := by
    rcases Nat.lt_trichotomy y.length x.length with hlt | he | hgt
    · have h1 := congrArg (fun l => l[y.length]?) h
      simp only [List.getElem?_append_right (Nat.le_refl _), Nat.sub_self, List.getElem?_cons_zero] at h1
      rw [List.getElem?_take, if_pos (by omega), List.getElem?_append_left hlt, List.getElem?_eq_getElem hlt] at h1
      have := isLine_at hx _ hlt
      rw [← Option.some.inj h1] at this
      simp at this
    · exact he
    · have h1 := congrArg (fun l => l[x.length]?) h
      simp only [List.getElem?_append_left hgt, List.getElem?_eq_getElem hgt] at h1
      rw [List.getElem?_take, if_pos (by omega), List.getElem?_append_right (Nat.le_refl _), Nat.sub_self, List.getElem?_cons_zero] at h1
      have := isLine_at hy _ hgt
      rw [Option.some.inj h1] at this
      simp at this
  rw [hlen] at h
  have h2 := congrArg (List.take y.length) h
  rw [List.take_left, List.take_take, Nat.min_eq_left (by omega), hlen, List.take_left] at h2
  exact h2

theorem digits3_inj {a b : Nat} (ha : a < 1000) (hb : b < 1000) (h : digits 3 a = digits 3 b) : a = b := by
  simp only [digits, List.nil_append, List.cons_append, List.cons.injEq, and_true] at h
  have e1 := congrArg UInt8.toNat h.1
  have e2 := congrArg UInt8.toNat h.2.1
  have e3 := congrArg UInt8.toNat h.2.2
  simp only [digit_toNat] at e1 e2 e3
  omega

theorem first_spoilt {x rest : List UInt8} {num i : Nat} {c : UInt8} (hx : isLine x = true) (hi : i < (record x num).length) (hne : (record x num)[i] ≠ c) : first ((record x num).set i c ++ rest) num = none := by
  have hxl : 1 ≤ x.length ∧ x.length ≤ 120 := by simp only [isLine, Bool.and_eq_true, decide_eq_true_eq] at hx; exact hx.1
  have hne' : (record x num).set i c ≠ record x num := by
    intro h
    apply hne
    have := congrArg (fun l => l[i]?) h
    simp only [List.getElem?_set_self hi, List.getElem?_eq_getElem hi] at this
    exact (Option.some.inj this).symm
  cases hf : first ((record x num).set i c ++ rest) num with
  | none => rfl
  | some y =>
    exfalso
    obtain ⟨y1, y2, y3, y4, y5, y6, y7⟩ := first_some' hf
    have hr := rec_len x num
    by_cases h8 : i < 8
    · have e : (record x num).set i c ++ rest = (hd x num).set i c ++ (x ++ 10 :: rest) := by
        rw [record_hd, List.set_append_left _ _ (by rw [hd_len]; exact h8), List.append_assoc, List.append_assoc]
        rfl
      rw [e, record_hd, show y.length + 9 = ((hd x num).set i c).length + (y.length + 1) from by rw [List.length_set, hd_len]; omega, List.take_length_add_append] at y6
      obtain ⟨e1, e2⟩ := split8 (hd_len _ _) (by rw [List.length_set, hd_len]) y6
      have hyx := tail_length hx y5 e2
      subst hyx
      apply hne'
      rw [record_hd, List.set_append_left _ _ (by rw [hd_len]; exact h8), ← e1]
    · have e : (record x num).set i c = hd x num ++ (x ++ [10]).set (i - 8) c := by
        rw [record_hd, List.set_append_right _ _ (by rw [hd_len]; omega), hd_len]
      have hL : lengthL ((record x num).set i c ++ rest) = x.length := by
        rw [e]
        simp only [hd, digits, List.nil_append, List.cons_append]
        rw [lengthL_eq]
        simp only [digit_toNat]
        rw [if_pos (by omega)]
        omega
      have hyl : y.length = x.length := by rw [← y7, hL]
      rw [show y.length + 9 = ((record x num).set i c).length from by rw [List.length_set, hr, hyl], List.take_left, e, record_hd] at y6
      obtain ⟨e1, e2⟩ := split8 (hd_len _ _) (hd_len _ _) y6
      by_cases hix : i - 8 < x.length
      · rw [List.set_append_left _ _ hix] at e2
        have hyx : y = x.set (i - 8) c := (List.append_inj e2 (by rw [List.length_set, hyl])).1
        have hc : y[i - 8]'(by omega) = c := by simp [hyx]
        have hcl := isLine_at y5 (i - 8) (by omega)
        rw [hc] at hcl
        have hxi : x[i - 8] ≠ c := by
          intro h
          apply hne
          simp only [record_hd]
          rw [List.getElem_append_right (by rw [hd_len]; omega)]
          simp only [hd_len]
          rw [List.getElem_append_left hix, h]
        have hs := sum_differs (n := num) hxl.2 hix (isLine_at hx _ hix) hcl hxi
        rw [← hyx] at hs
        apply hs
        have e3 := (List.append_inj e1 (by simp [digits])).2
        exact digits3_inj (by simp only [J.sum]; omega) (by simp only [J.sum]; omega) e3
      · have hix' : i - 8 = x.length := by rw [hr] at hi; omega
        rw [hix', List.set_append_right _ _ (Nat.le_refl _), Nat.sub_self] at e2
        have := (List.append_inj e2 hyl).2
        simp at this
        apply hne
        simp only [record_hd]
        rw [List.getElem_append_right (by rw [hd_len]; omega)]
        simp only [hd_len, hix']
        rw [List.getElem_append_right (Nat.le_refl _)]
        simp [this]
end Go.Proofs.Ytphalijdanmkeaa
