/- Walks over what can be read. -/
import Derived.Test.YtphalijdanmkeaaG
namespace Go.Proofs.Ytphalijdanmkeaa
open Go.RowKit J

theorem pairs_read (b : List UInt8) : ∀ (f num at_ : Nat), (pairs f num at_ b).map (·.1) = recover f num (b.drop at_)
  | 0, _, _ => rfl
  | f + 1, num, at_ => by
    simp only [pairs, recover]
    cases h : first (b.drop at_) num with
    | none => rfl
    | some l => simp only [List.map_cons, pairs_read b f, List.drop_drop]
theorem pairs_end (b : List UInt8) : ∀ (f num at_ : Nat), (pairs f num at_ b).foldl (fun _ x => x.2) at_ = at_ + good (recover f num (b.drop at_))
  | 0, _, _ => by simp [pairs, recover, good]
  | f + 1, num, at_ => by
    simp only [pairs, recover]
    cases h : first (b.drop at_) num with
    | none => simp [good]
    | some l =>
      simp only [List.foldl_cons, pairs_end b f, List.drop_drop, good]
      omega
theorem first_len {b : List UInt8} {num : Nat} {l : List UInt8} (h : first b num = some l) : l.length + 9 ≤ b.length ∧ l.length ≤ 120 := by
  obtain ⟨_, h2, h3, _, h5, _⟩ := first_some h
  omega
theorem good_le : ∀ (f num : Nat) (b : List UInt8), good (recover f num b) ≤ b.length
  | 0, _, _ => by simp [recover, good]
  | f + 1, num, b => by
    simp only [recover]
    cases h : first b num with
    | none => simp [good]
    | some l =>
      have := (first_len h).1
      have ih := good_le f (num + 1) (b.drop (l.length + 9))
      rw [List.length_drop] at ih
      simp only [good]
      omega
theorem recover_len : ∀ (f num : Nat) (b : List UInt8), (recover f num b).length ≤ f
  | 0, _, _ => by simp [recover]
  | f + 1, num, b => by
    simp only [recover]
    cases h : first b num with
    | none => simp
    | some l => have := recover_len f (num + 1) (b.drop (l.length + 9)); simp; omega
theorem read_len (b : List UInt8) : (read b).length ≤ 60 := recover_len 60 0 b
theorem read_good (b : List UInt8) : good (read b) ≤ b.length := good_le 60 0 b

/-- the lines in new memory, and how many bytes are good -/
def ReadP (w : World) (b : List UInt8) (e : Ending) (w' : World) : Prop :=
  ∃ a c, e = .returned (.tuple #[.slice a (read b).length c, .int .i64 (good (read b) : Int)]) ∧ w'.ownsRow w.heap.size 9 1 (.slice a (read b).length c) (read b).length ((read b).map strV) ∧ Below w.heap.size w w'

theorem read_any' (a : Option Addr) (m c : Nat) (b : List UInt8) (w : World) (hm : m ≤ 140737488355328) (h : Row 1 w a m c (b.map byteV)) :
    Calls Try.prog 54 #[.slice a m c] w (ReadP w b) := by
  refine (read_any a m c b w hm h).mono ?_
  rintro e w' ⟨a1, c1, rfl, ho, hb⟩
  have h1 := pairs_read b 60 0 0
  have h2 := pairs_end b 60 0 0
  have h3 : (pairs 60 0 0 b).length = (read b).length := by
    have := congrArg List.length h1
    rw [List.length_map] at this
    exact this
  have h4 : endOf (pairs 60 0 0 b) = good (read b) := by
    simp only [List.drop_zero, Nat.zero_add] at h2
    exact h2
  have h5 : (pairs 60 0 0 b).map (fun x => strV x.1) = (read b).map strV := by
    have : (pairs 60 0 0 b).map (fun x => strV x.1) = ((pairs 60 0 0 b).map (·.1)).map strV := by rw [List.map_map]; rfl
    rw [this, h1]
    rfl
  rw [h5, h3] at ho
  rw [h3, h4]
  exact ⟨a1, c1, rfl, ho, hb⟩

theorem all_any (l : List UInt8) : l.all (fun c => c == 0) = !l.any (fun c => c != 0) := by
  induction l with
  | nil => rfl
  | cons x l ih => simp [ih, bne]

theorem clean_any (a : Option Addr) (m c : Nat) (b : List UInt8) (w : World) (hm : m ≤ 140737488355328) (h : Row 1 w a m c (b.map byteV)) :
    Calls Try.prog 56 #[.slice a m c] w fun e w' => e = .returned (.bool (clean b)) ∧ Below w.heap.size w w' := by
  have hlm : b.length = m := by have := h.1; simpa using this
  have hgl := read_good b
  obtain ⟨a1, c1, hs1, hr1⟩ := slice_l (P := Try.prog) h Try.und79 Try.size5d (good (read b) : Int) (by omega) (by omega)
  simp only [Int.toNat_natCast, Nat.mul_one, ← List.map_drop] at hs1 hr1
  have HR := Lib.hid h
  have HR1 := Lib.hid hr1
  have HLM := Lib.hid hlm
  clear h hr1 hlm
  go_enter Try.func56, Try.ntmps56
  go_wp2_with fail
  refine (read_any' _ _ _ _ _ hm HR.out).mono ?_; rintro e w1 ⟨a2, c2, rfl, ho, hb⟩
  go_wp2_with fail
  refine (containsFunc_any _ _ _ (b.drop (good (read b))) _ (HR1.out.mono hb (Nat.le_refl _)) (by omega)).mono ?_; rintro e w' ⟨rfl, rfl⟩
  go_wp2_with fail
  go_ret
  refine ⟨ret_bool ?_, hb⟩
  rw [clean, all_any]
end Go.Proofs.Ytphalijdanmkeaa
