/- Walks: Recover, Check, Room, Format, Lines. -/
import Derived.Test.YtphalijdanmkeaaH
namespace Go.Proofs.Ytphalijdanmkeaa
open Go.RowKit J

def zeros (n : Nat) : Array Value := (List.replicate n (Value.int .u8 0)).toArray
def nulls (n : Nat) : List UInt8 := List.replicate n 0
theorem zeros_list (n : Nat) : (zeros n).toList = (nulls n).map byteV := by simp [zeros, nulls, byteV]
theorem zeros_size (n : Nat) : (zeros n).size = n := by simp [zeros]

theorem run_mk (W : World) (k : Int) (h0 : 0 ≤ k) (h1 : k ≤ 140737488355328) :
    (Instr.makeSlice 22 (.int .i64 k) (.int .i64 k)).run Try.prog W = .ok (.slice (some ⟨W.heap.size, 0, none⟩) k.toNat k.toNat) (W.alloc (.cells (zeros k.toNat) 5)) := by
  obtain ⟨i0, hi, hz0, hz1, hz2⟩ := info_parts Try.info5
  rw [run_make (P := Try.prog) W 22 5 i0 (.int .u8 0) Try.underlying22 hi hz0 .i64 .i64 k k h0 (Int.le_refl _) (by rw [hz2]; omega) (by omega), hz1, Nat.mul_one]
  have : madeCells (Value.int .u8 0).cells k.toNat = zeros k.toNat := by
    apply Array.ext'
    rw [show (Value.int IntKind.u8 0).cells = #[Value.int .u8 0] from rfl, toList_madeCells_one, zeros]
  rw [this]
theorem own_mk (w W : World) (B : Nat) (k : Nat) (hB : B ≤ W.heap.size) (hk : k ≤ 140737488355328) : (W.alloc (.cells (zeros k) 5)).ownsRow B 5 1 (.slice (some ⟨W.heap.size, 0, none⟩) k k) k ((nulls k).map byteV) := by
  rw [← zeros_list]
  exact World.ownsRow_lit W (zeros k) k hB (by unfold maxLen; omega) (by rw [zeros_size, Nat.mul_one])

theorem Recover_ok (a : Option Addr) (m c : Nat) (b : List UInt8) (w : World) (hm : m ≤ 8000) (h : Row 1 w a m c (b.map byteV)) :
    Calls Try.prog 22 #[.slice a m c] w fun e w' => ∃ a' c', e = .returned (.tuple #[.slice a' (read b).length c', .int .i64 (good (read b) : Int), .int .i64 0]) ∧
      w'.ownsRow w.heap.size 9 1 (.slice a' (read b).length c') (read b).length ((read b).map strV) ∧ Below w.heap.size w w' := by
  have HR := Lib.hid h
  clear h
  go_enter Try.func22, Try.ntmps22
  go_wp2_with fail
  refine (read_any' _ _ _ _ _ (by omega) HR.out).mono ?_; rintro e w1 ⟨a2, c2, rfl, ho, hb⟩
  go_wp2_with fail
  go_ret3
  exact ⟨a2, c2, rfl, ho, hb⟩

theorem Recover_lim (a : Option Addr) (m c : Nat) (w : World) (hm : 8000 < m) :
    Calls Try.prog 22 #[.slice a m c] w fun e w' => e = .returned (.tuple #[.slice none 0 0, .int .i64 0, .int .i64 5]) ∧ w = w' := by
  go_enter Try.func22, Try.ntmps22
  go_wp2
  go_ret3
  exact ⟨rfl, rfl⟩

theorem Check_any (a : Option Addr) (m c : Nat) (b : List UInt8) (w : World) (hm : m ≤ 140737488355328) (h : Row 1 w a m c (b.map byteV)) :
    Calls Try.prog 23 #[.slice a m c] w fun e w' => e = .returned (.int .i64 (checkD b)) ∧ Below w.heap.size w w' := by
  have hlm : b.length = m := by have := h.1; simpa using this
  have HR := Lib.hid h
  have HLM := Lib.hid hlm
  clear h hlm
  by_cases hf : formed b = true
  · have HF := Lib.hid hf
    clear hf
    by_cases hc : clean b = true
    · have HC := Lib.hid hc
      clear hc
      go_enter Try.func23, Try.ntmps23
      go_wp2_with fail
      refine (formed_any _ _ _ b _ HLM.out hm).mono ?_; rintro e w1 ⟨rfl, rfl⟩
      rw [HF.out]
      go_wp2_with fail
      refine (clean_any _ _ _ b _ hm HR.out).mono ?_; rintro e w1 ⟨rfl, hb⟩
      rw [HC.out]
      go_wp2_with fail
      go_ret
      exact ⟨ret_int (by simp [checkD, HF.out, HC.out]), hb⟩
    · have HC := Lib.hid (Bool.eq_false_iff.2 hc)
      clear hc
      go_enter Try.func23, Try.ntmps23
      go_wp2_with fail
      refine (formed_any _ _ _ b _ HLM.out hm).mono ?_; rintro e w1 ⟨rfl, rfl⟩
      rw [HF.out]
      go_wp2_with fail
      refine (clean_any _ _ _ b _ hm HR.out).mono ?_; rintro e w1 ⟨rfl, hb⟩
      rw [HC.out]
      go_wp2_with fail
      go_ret
      exact ⟨ret_int (by simp [checkD, HF.out, HC.out]), hb⟩
  · have HF := Lib.hid (Bool.eq_false_iff.2 hf)
    clear hf
    go_enter Try.func23, Try.ntmps23
    go_wp2_with fail
    refine (formed_any _ _ _ b _ HLM.out hm).mono ?_; rintro e w1 ⟨rfl, rfl⟩
    rw [HF.out]
    go_wp2_with fail
    go_ret
    exact ⟨ret_int (by simp [checkD, HF.out]), Below.refl _ _⟩

theorem checkD_len {b : List UInt8} (h : checkD b ≠ 4) : b.length ≤ 8000 ∧ b.length % 32 = 0 ∧ 0 < b.length := by
  simp only [checkD] at h
  by_cases hf : formed b = true
  · rw [formed_eq] at hf
    simp only [Bool.and_eq_true, decide_eq_true_eq] at hf
    omega
  · simp [hf] at h

theorem Room_ok (a : Option Addr) (m c : Nat) (b : List UInt8) (w : World) (h : Row 1 w a m c (b.map byteV)) (hc : checkD b = 0) :
    Calls Try.prog 24 #[.slice a m c] w fun e w' => e = .returned (.tuple #[.int .i64 (room b.length (read b).length (good (read b)) : Int), .int .i64 0]) ∧ Below w.heap.size w w' := by
  have hlm : b.length = m := by have := h.1; simpa using this
  have hl := checkD_len (b := b) (by omega)
  have hr := read_len b
  have hg := read_good b
  subst hlm
  have HR := Lib.hid h
  have HC := Lib.hid hc
  clear h hc
  go_enter Try.func24, Try.ntmps24
  go_wp2_with fail
  refine (Check_any _ _ _ b _ (by omega) HR.out).mono ?_; rintro e w1 ⟨rfl, hb1⟩
  rw [HC.out]
  go_wp2_with fail
  refine (read_any' _ _ _ _ _ (by omega) (HR.out.mono hb1 (Nat.le_refl _))).mono ?_; rintro e w2 ⟨a2, c2, rfl, ho, hb2⟩
  go_wp2_with fail
  refine (room_any _ _ _ _ _ _ (by omega) (by omega) (by omega) (by omega) (by omega)).mono ?_; rintro e w3 ⟨rfl, rfl⟩
  go_wp2_with fail
  go_ret2
  exact ⟨by simp only [Int.toNat_natCast]; rfl, hb1.trans (hb2.mono hb1.size)⟩

theorem Room_err (a : Option Addr) (m c : Nat) (b : List UInt8) (w : World) (hm : m ≤ 140737488355328) (h : Row 1 w a m c (b.map byteV)) (x : Int) (hx : checkD b = x) (hne : (x != 0) = true) :
    Calls Try.prog 24 #[.slice a m c] w fun e w' => e = .returned (.tuple #[.int .i64 0, .int .i64 x]) ∧ Below w.heap.size w w' := by
  have HR := Lib.hid h
  have HC := Lib.hid hx
  clear h hx
  go_enter Try.func24, Try.ntmps24
  go_wp2_with fail
  refine (Check_any _ _ _ b _ hm HR.out).mono ?_; rintro e w1 ⟨rfl, hb1⟩
  rw [HC.out]
  go_wp2_with fail
  go_ret2
  exact ⟨rfl, hb1⟩

theorem Format_ok (n : Int) (w : World) (h1 : 1 ≤ n) (h2 : n ≤ 250) :
    Calls Try.prog 14 #[.int .i64 n] w fun e w' => ∃ a c, e = .returned (.tuple #[.slice a (32 * n.toNat) c, .int .i64 0]) ∧ w'.ownsRow w.heap.size 5 1 (.slice a (32 * n.toNat) c) (32 * n.toNat) ((nulls (32 * n.toNat)).map byteV) ∧ Below w.heap.size w w' := by
  have hm := fun W => run_mk W (n * 32) (by omega) (by omega)
  have e : (n * 32).toNat = 32 * n.toNat := by omega
  simp only [e] at hm
  have HE := Lib.hid e
  clear e
  go_enter Try.func14, Try.ntmps14
  go_wp2_with (go_at_call 48; refine (within_any _ _ _ _).mono ?_; rintro e w' ⟨rfl, rfl⟩)
  go_ret2
  exact ⟨_, _, rfl, own_mk w w w.heap.size (32 * n.toNat) (Nat.le_refl _) (by omega), (Below.refl _ _).alloc (Nat.le_refl _) _⟩

theorem Format_err (n : Int) (w : World) (h : (decide (1 ≤ n) && decide (n ≤ 250)) = false) :
    Calls Try.prog 14 #[.int .i64 n] w fun e w' => e = .returned (.tuple #[.slice none 0 0, .int .i64 3]) ∧ w = w' := by
  have H := Lib.hid h
  clear h
  go_enter Try.func14, Try.ntmps14
  go_wp2_with (go_at_call 48; refine (within_any _ _ _ _).mono ?_; rintro e w' ⟨rfl, rfl⟩; rw [H.out])
  go_ret2
  exact ⟨rfl, rfl⟩

theorem RFormat_ok (n : Int) (w : World) (h1 : 1 ≤ n) (h2 : n ≤ 250) :
    Calls Try.prog 15 #[.int .i64 n] w fun e w' => ∃ a c, e = .returned (.tuple #[.slice a (32 * n.toNat) c, .int .i64 0]) ∧ w'.ownsRow w.heap.size 5 1 (.slice a (32 * n.toNat) c) (32 * n.toNat) ((nulls (32 * n.toNat)).map byteV) ∧ Below w.heap.size w w' := by
  have hm := fun W => run_mk W (32 * n) (by omega) (by omega)
  have e : (32 * n).toNat = 32 * n.toNat := by omega
  simp only [e] at hm
  have hd : decide (n < 1) = false := decide_eq_false (by omega)
  clear e
  go_enter Try.func15, Try.ntmps15
  go_wp2
  go_ret2
  exact ⟨_, _, rfl, own_mk w w w.heap.size (32 * n.toNat) (Nat.le_refl _) (by omega), (Below.refl _ _).alloc (Nat.le_refl _) _⟩

theorem RFormat_err (n : Int) (w : World) (h : (decide (1 ≤ n) && decide (n ≤ 250)) = false) :
    Calls Try.prog 15 #[.int .i64 n] w fun e w' => e = .returned (.tuple #[.slice none 0 0, .int .i64 3]) ∧ w = w' := by
  by_cases h1 : n < 1
  · clear h
    go_enter Try.func15, Try.ntmps15
    go_wp2
    go_ret2
    exact ⟨rfl, rfl⟩
  · have h2 : 250 < n := by simp at h; omega
    have hd : decide (n < 1) = false := decide_eq_false h1
    clear h h1
    go_enter Try.func15, Try.ntmps15
    go_wp2
    go_ret2
    exact ⟨rfl, rfl⟩
end Go.Proofs.Ytphalijdanmkeaa
