/- Plain facts: what becomes of a device when it is written what must be written. -/
import Derived.Test.YtphalijdanmkeaaPB
namespace Go.Proofs.Ytphalijdanmkeaa
open J

/-- the first bytes of a block are written -/
def J.putB (d : List UInt8) (n : Nat) (s : List UInt8) (many : Nat) : List UInt8 := d.take (32 * n) ++ (s.take many ++ d.drop (32 * n + many))
theorem putB_length {d s : List UInt8} {n many : Nat} (h : 32 * n + many ≤ d.length) (hs : many ≤ s.length) : (putB d n s many).length = d.length := by simp [putB]; omega

def J.applyW (d : List UInt8) (l : List (Int × List UInt8)) : List UInt8 := l.foldl (fun d w => putB d w.1.toNat w.2 32) d

theorem chunk_length {k : Nat} {b : List UInt8} (h : 32 * k + 32 ≤ b.length) : (chunk k b).length = 32 := by simp [chunk]; omega

theorem take_chunk {k : Nat} {b : List UInt8} : b.take (32 * (k + 1)) = b.take (32 * k) ++ chunk k b := by
  rw [show 32 * (k + 1) = 32 * k + 32 from by omega, List.take_add]
  rfl
theorem drop_chunk {k : Nat} {b : List UInt8} : b.drop (32 * k) = chunk k b ++ b.drop (32 * (k + 1)) := by
  rw [chunk, show 32 * (k + 1) = 32 * k + 32 from by omega, ← List.drop_drop, List.take_append_drop]

theorem apply_from (b t : List UInt8) (N : Nat) (hb : b.length = 32 * N) (ht : t.length = 32 * N) : ∀ (m k : Nat), k + m = N → applyW (t.take (32 * k) ++ b.drop (32 * k)) (blocksFrom k m b t) = t
  | 0, k, h => by
    have : k = N := by omega
    subst this
    simp [applyW, blocksFrom, List.take_of_length_le (Nat.le_of_eq ht), List.drop_eq_nil_of_le (Nat.le_of_eq hb)]
  | m + 1, k, h => by
    have ih := apply_from b t N hb ht m (k + 1) (by omega)
    simp only [blocksFrom]
    by_cases hc : chunk k b = chunk k t
    · rw [if_pos hc]
      have e : t.take (32 * k) ++ b.drop (32 * k) = t.take (32 * (k + 1)) ++ b.drop (32 * (k + 1)) := by
        rw [take_chunk (b := t), drop_chunk (k := k) (b := b), hc, List.append_assoc]
      rw [e]
      exact ih
    · rw [if_neg hc]
      show applyW (putB (t.take (32 * k) ++ b.drop (32 * k)) ((k : Int).toNat) (chunk k t) 32) (blocksFrom (k + 1) m b t) = t
      have hl : (t.take (32 * k)).length = 32 * k := by simp; omega
      have hcl := chunk_length (k := k) (b := t) (by omega)
      have hcb := chunk_length (k := k) (b := b) (by omega)
      have e : putB (t.take (32 * k) ++ b.drop (32 * k)) ((k : Int).toNat) (chunk k t) 32 = t.take (32 * (k + 1)) ++ b.drop (32 * (k + 1)) := by
        rw [putB, Int.toNat_natCast, take_chunk (b := t), drop_chunk (k := k) (b := b), List.take_left' hl, show (chunk k t).take 32 = chunk k t from List.take_of_length_le (by omega), ← List.append_assoc (t.take (32 * k)) (chunk k b),
          List.drop_left' (show (t.take (32 * k) ++ chunk k b).length = 32 * k + 32 by rw [List.length_append, hl, hcb]), List.append_assoc]
      rw [e]
      exact ih

/-- written what must be written, a device is what it shall be -/
theorem apply_toD {b s : List UInt8} (hf : formed b = true) (hs : s.length ≤ b.length) : applyW b (toD b s) = s ++ List.replicate (b.length - s.length) 0 := by
  have h32 : b.length = 32 * (b.length / 32) := by
    simp only [formed, Bool.and_eq_true, decide_eq_true_eq] at hf
    omega
  have hp : pad s b.length = s ++ List.replicate (b.length - s.length) 0 := by simp [pad, List.take_of_length_le hs]
  have hpl : (pad s b.length).length = b.length := by rw [hp]; simp; omega
  have := apply_from b (pad s b.length) (b.length / 32) h32 (by rw [hpl]; exact h32) (b.length / 32) 0 (by omega)
  simp only [Nat.mul_zero, List.take_zero, List.drop_zero, List.nil_append] at this
  rw [toD, blocks, this, hp]
end Go.Proofs.Ytphalijdanmkeaa
