/- Plain facts: a device of which some bytes are 0 for what stood there: what can be read of it could be read before. -/
import Derived.Test.YtphalijdanmkeaaPC
namespace Go.Proofs.Ytphalijdanmkeaa
open J

/-- each byte is that of another device, or 0 -/
def mask (d B : List UInt8) : Prop := d.length = B.length ∧ ∀ i (_ : i < d.length), d[i] = 0 ∨ some d[i] = B[i]?
theorem mask.refl (d : List UInt8) : mask d d := ⟨rfl, fun i h => .inr (List.getElem?_eq_getElem h).symm⟩
theorem mask.drop {d B : List UInt8} (h : mask d B) (n : Nat) : mask (d.drop n) (B.drop n) := by
  refine ⟨by simp [h.1], fun i hi => ?_⟩
  simp at hi
  rcases h.2 (n + i) (by omega) with h1 | h1
  · left; simpa using h1
  · right; simpa [List.getElem?_drop] using h1
theorem mask.trans {d e B : List UInt8} (h : mask d e) (k : mask e B) : mask d B := by
  refine ⟨h.1.trans k.1, fun i hi => ?_⟩
  rcases h.2 i hi with h1 | h1
  · exact .inl h1
  · have hie : i < e.length := by rw [← h.1]; exact hi
    rw [List.getElem?_eq_getElem hie] at h1
    have h1 := Option.some.inj h1
    rcases k.2 i hie with h2 | h2
    · exact .inl (h1.trans h2)
    · exact .inr (by rw [h1]; exact h2)

/-- no byte of a record is 0 -/
theorem record_nz {y : List UInt8} {num : Nat} (hy : isLine y = true) : ∀ c ∈ record y num, c ≠ 0 := by
  intro c hc
  simp only [record, digits, List.nil_append, List.cons_append, List.mem_cons, List.mem_append, List.not_mem_nil, or_false] at hc
  have hd : ∀ n : Nat, UInt8.ofNat (48 + n % 10) ≠ 0 := fun n h => by
    have := congrArg UInt8.toNat h
    rw [digit_toNat] at this
    simp at this
  rcases hc with rfl | rfl | rfl | rfl | rfl | rfl | rfl | rfl | h | rfl
  all_goals first | exact hd _ | skip
  · obtain ⟨i, hi, rfl⟩ := List.mem_iff_getElem.1 h
    have := isLine_at hy i hi
    intro h0
    rw [h0] at this
    simp at this
  · decide

/-- where no byte of a stretch is 0 both have it -/
theorem mask_take {d B : List UInt8} (h : mask d B) {n : Nat} (hn : n ≤ d.length) (hz : ∀ c ∈ d.take n, c ≠ 0) : d.take n = B.take n := by
  apply List.ext_getElem?
  intro i
  by_cases hi : i < n
  · rw [List.getElem?_take, List.getElem?_take, if_pos hi, if_pos hi, List.getElem?_eq_getElem (by omega)]
    rcases h.2 i (by omega) with h1 | h1
    · exact absurd h1 (hz _ (by rw [List.mem_iff_getElem]; exact ⟨i, by simp; omega, by simp⟩))
    · exact h1
  · rw [List.getElem?_take, List.getElem?_take, if_neg hi, if_neg hi]

theorem first_mask {d B : List UInt8} {num : Nat} {y : List UInt8} (h : mask d B) (hf : first d num = some y) : first B num = some y ∧ d.take (y.length + 9) = B.take (y.length + 9) := by
  obtain ⟨h1, h2, h3, h4, h5, h6, _⟩ := first_some' hf
  have hz : ∀ c ∈ d.take (y.length + 9), c ≠ 0 := by rw [← h6]; exact record_nz h5
  have ht := mask_take h h3 hz
  refine ⟨?_, ht⟩
  have e : B = record y num ++ B.drop (y.length + 9) := by rw [h6, ht, List.take_append_drop]
  rw [e]
  exact first_record h5

theorem recover_mask : ∀ (f num : Nat) (d B : List UInt8), mask d B → recover f num d <+: recover f num B
  | 0, _, _, _, _ => List.prefix_refl _
  | f + 1, num, d, B, h => by
    simp only [recover]
    cases hf : first d num with
    | none => simp
    | some y =>
      rw [(first_mask h hf).1]
      exact List.cons_prefix_cons.2 ⟨rfl, recover_mask f (num + 1) _ _ (h.drop _)⟩

theorem first_same {d B : List UInt8} {num : Nat} {y : List UInt8} (h : first B num = some y) (hd : d.take (y.length + 9) = B.take (y.length + 9)) : first d num = some y := by
  obtain ⟨h1, h2, h3, h4, h5, h6, _⟩ := first_some' h
  have e : d = record y num ++ d.drop (y.length + 9) := by rw [h6, ← hd, List.take_append_drop]
  rw [e]
  exact first_record h5

theorem good_cons (x : List UInt8) (l : List (List UInt8)) : J.good (x :: l) = x.length + 9 + J.good l := rfl

theorem recover_good : ∀ (f num : Nat) (b : List UInt8), J.good (recover f num b) ≤ b.length
  | 0, _, _ => by simp [recover, J.good]
  | f + 1, num, b => by
    simp only [recover]
    cases hf : first b num with
    | none => simp [J.good]
    | some y =>
      have := recover_good f (num + 1) (b.drop (y.length + 9))
      have h3 := (first_some' hf).2.2.1
      simp only [good_cons, List.length_drop] at *
      omega

/-- the first lines stay where their records' bytes stay -/
theorem recover_keeps : ∀ (k f num : Nat) (d B : List UInt8), d.length = B.length → k ≤ (recover f num B).length → d.take (J.good ((recover f num B).take k)) = B.take (J.good ((recover f num B).take k)) → (recover f num B).take k <+: recover f num d
  | 0, _, _, _, _, _, _, _ => by simp
  | k + 1, 0, _, _, _, _, h, _ => by simp [recover] at h
  | k + 1, f + 1, num, d, B, hl, hk, ht => by
    simp only [recover] at *
    cases hf : first B num with
    | none => rw [hf] at hk; simp at hk
    | some y =>
      rw [hf] at hk ht
      simp only [List.take_succ_cons, good_cons, List.length_cons] at *
      have hy : d.take (y.length + 9) = B.take (y.length + 9) := by
        have := congrArg (List.take (y.length + 9)) ht
        rwa [List.take_take, List.take_take, Nat.min_eq_left (by omega)] at this
      rw [first_same hf hy]
      refine List.cons_prefix_cons.2 ⟨rfl, recover_keeps k f (num + 1) _ _ (by simp [hl]) (by omega) ?_⟩
      have := congrArg (List.drop (y.length + 9)) ht
      rwa [List.drop_take, List.drop_take, Nat.add_sub_cancel_left] at this
end Go.Proofs.Ytphalijdanmkeaa
