/- Writes on a device: which fit, and the walks that look at them. -/
import Derived.Test.YtphalijdanmkeaaV
import Derived.Test.YtphalijdanmkeaaQ
import Derived.Test.YtphalijdanmkeaaPD
namespace Go.Proofs.Ytphalijdanmkeaa
open Go.RowKit Go.Shelf J

/-- a write is one of a device of so many bytes -/
def J.fits (len : Nat) (w : Int × List UInt8) : Bool := (decide (0 ≤ w.1) && decide (w.1 < ((len / 32 : Nat) : Int))) && decide (w.2.length = 32)
def J.checkW (b : List UInt8) (l : List (Int × List UInt8)) : Int := if formed b = false then 4 else if l.all (fits b.length) = true then 0 else 2
set_option maxRecDepth 100000 in
theorem fits_any (a a2 : Option Addr) (m c k c2 : Nat) (n : Int) (w : World) (hm : m ≤ 140737488355328) :
    Calls Try.prog 82 #[.slice a m c, .agg #[.int .i64 n, .slice a2 k c2]] w fun e w' => e = .returned (.bool ((decide (0 ≤ n) && decide (n ≤ (m : Int) / 32 - 1)) && decide ((k : Int) = 32))) ∧ Below w.heap.size w w' := by
  by_cases h : (decide (0 ≤ n) && decide (n ≤ (m : Int) / 32 - 1)) = true
  · have H := Lib.hid h
    clear h
    go_enter Try.func82, Try.ntmps82
    go_wp2_with (go_at_call 48; refine (within_any _ _ _ _).mono ?_; rintro e w' ⟨rfl, rfl⟩; rw [H.out])
    go_ret
    refine ⟨ret_bool ?_, (Below.refl _ w).alloc (Nat.le_refl _) _⟩
    rw [H.out, Bool.true_and]
    rfl
  · have h' := Bool.eq_false_iff.2 h
    have H := Lib.hid h'
    clear h h'
    go_enter Try.func82, Try.ntmps82
    go_wp2_with (go_at_call 48; refine (within_any _ _ _ _).mono ?_; rintro e w' ⟨rfl, rfl⟩; rw [H.out])
    go_ret
    refine ⟨ret_bool ?_, (Below.refl _ w).alloc (Nat.le_refl _) _⟩
    rw [H.out, Bool.false_and]

theorem fits_eq (m : Nat) (n : Int) (s : List UInt8) : ((decide (0 ≤ n) && decide (n ≤ (m : Int) / 32 - 1)) && decide ((s.length : Int) = 32)) = fits m (n, s) := by
  simp only [fits]
  congr 1
  · congr 1
    exact decide_eq_decide.2 (by omega)
  · exact decide_eq_decide.2 (by omega)
end Go.Proofs.Ytphalijdanmkeaa
