/- Plain facts: to try each length finds what the length's digits tell. -/
import Derived.Test.YtphalijdanmkeaaSpec
namespace Go.Proofs.Ytphalijdanmkeaa
open J

theorem digit_toNat (n : Nat) : (UInt8.ofNat (48 + n % 10)).toNat = 48 + n % 10 := by
  rw [UInt8.toNat_ofNat']
  omega

theorem lengthL_eq (x y a b c d e f : UInt8) (r : List UInt8) : lengthL (x :: y :: a :: b :: c :: d :: e :: f :: r) =
    if 48 ≤ a.toNat ∧ a.toNat ≤ 57 ∧ 48 ≤ b.toNat ∧ b.toNat ≤ 57 ∧ 48 ≤ c.toNat ∧ c.toNat ≤ 57 then (a.toNat - 48) * 100 + (b.toNat - 48) * 10 + (c.toNat - 48) else 0 := rfl

theorem lengthL_record (line rest : List UInt8) (num : Nat) (hl : line.length ≤ 999) : lengthL (record line num ++ rest) = line.length := by
  simp only [record, digits, List.nil_append, List.cons_append, List.append_assoc]
  rw [lengthL_eq]
  simp only [digit_toNat]
  rw [if_pos (by omega)]
  omega

theorem lengthL_of {b line : List UInt8} {num : Nat} (hl : line.length ≤ 999) (h : record line num = b.take (line.length + 9)) : lengthL b = line.length := by
  have := lengthL_record line (b.drop (line.length + 9)) num hl
  rwa [h, List.take_append_drop] at this

/-- a length that fits -/
def hits (b : List UInt8) (num n : Nat) : Bool := isLine ((b.drop 8).take n) && (record ((b.drop 8).take n) num == b.take (n + 9))

theorem hits_len {b : List UInt8} {num n : Nat} (hn : n ≤ 120) (hb : n + 9 ≤ b.length) (h : hits b num n = true) : lengthL b = n := by
  simp only [hits, Bool.and_eq_true, beq_iff_eq] at h
  have hl : ((b.drop 8).take n).length = n := by simp; omega
  have := lengthL_of (b := b) (line := (b.drop 8).take n) (num := num) (by omega) (by rw [hl]; exact h.2)
  rw [this, hl]

theorem first_hit {b : List UInt8} {num n : Nat} (h1 : 1 ≤ n) (hn : n ≤ 120) (hb : n + 9 ≤ b.length) (h : hits b num n = true) : first b num = some ((b.drop 8).take n) := by
  have hL := hits_len hn hb h
  simp only [first, hL]
  rw [if_pos ⟨h1, hn, hb⟩]
  simp only [hits] at h
  rw [if_pos h]

theorem first_miss {b : List UInt8} {num : Nat} (h : ∀ n, 1 ≤ n → n ≤ 120 → n + 9 ≤ b.length → hits b num n = false) : first b num = none := by
  simp only [first]
  split
  · rename_i hn
    have := h _ hn.1 hn.2.1 hn.2.2
    simp only [hits] at this
    rw [this]
    simp
  · rfl
end Go.Proofs.Ytphalijdanmkeaa
