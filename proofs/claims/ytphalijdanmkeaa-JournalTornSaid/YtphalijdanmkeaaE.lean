/- Walks: a device's closures. -/
import Derived.Test.YtphalijdanmkeaaD
namespace Go.Proofs.Ytphalijdanmkeaa
open Go.RowKit J

theorem nz_any (x : Int) (w : World) : Calls Try.prog 75 #[.int .u8 x] w fun e w' => e = .returned (.bool (x != 0)) ∧ w = w' := by
  go_enter Try.func75, Try.ntmps75
  go_wp2
  go_ret
  exact ⟨rfl, rfl⟩

def SomeIdx (l : List UInt8) (w : World) (e : Ending) (w' : World) : Prop := ∃ i : Int, e = .returned (.int .i64 i) ∧ w = w' ∧ decide (0 ≤ i) = l.any (fun c => c != 0)

theorem byte_ne (c : UInt8) : ((c.toNat : Int) != 0) = (c != 0) := by
  rw [Bool.eq_iff_iff]
  simp only [bne_iff_ne, ne_eq]
  rw [not_congr]
  constructor
  · intro h
    have : c.toNat = 0 := by omega
    exact UInt8.toNat_inj.1 (by simpa using this)
  · intro h; subst h; rfl

theorem indexFunc_any (a : Option Addr) (n c : Nat) (l : List UInt8) (w : World) (h : Row 1 w a n c (l.map byteV)) (hn : n ≤ 140737488355328) :
    Calls Try.prog 85 #[.slice a n c, .func (.func 75) #[] #[]] w (SomeIdx l w) := by
  have hln : l.length = n := by have := h.1; simpa using this
  subst hln
  go_enter Try.func85, Try.ntmps85
  go_wp2
  go_loop [5, 8] (fun _ i => ∃ k : Nat, k ≤ l.length ∧ i = .int .i64 k ∧ (l.take k).any (fun c => c != 0) = false) (fun _ i => l.length - (intOf i).toNat)
  case atStart => exact ⟨0, Nat.zero_le _, rfl, by simp⟩
  case round =>
    obtain ⟨k, hk, rfl, hall⟩ := hrel
    have HA := Lib.hid hall
    clear hall
    by_cases hlt : k < l.length
    · obtain ⟨b, o, rfl, hb, hc⟩ := h.some (by omega)
      have c0 := hc k (by simpa using hlt)
      simp only [List.getElem_map, byteV] at c0
      have HR := Lib.hid h
      clear hc h
      by_cases hz : ((l[k].toNat : Int) != 0) = true
      · go_wp2_with (go_at_call 75; refine (nz_any _ _).mono ?_; rintro e w' ⟨rfl, rfl⟩)
        go_ret
        refine ⟨k, rfl, rfl, ?_⟩
        have : l.any (fun c => c != 0) = true := List.any_eq_true.2 ⟨l[k], List.getElem_mem hlt, by rw [← byte_ne]; exact hz⟩
        rw [this]
        simp
      · have hz' := Bool.eq_false_iff.2 hz
        have HZ := Lib.hid hz'
        clear hz
        go_wp2_with (go_at_call 75; refine (nz_any _ _).mono ?_; rintro e w' ⟨rfl, rfl⟩)
        go_round
        case rel => exact ⟨k + 1, by omega, by go_num, by rw [List.take_succ_eq_append_getElem hlt, List.any_append, HA.out]; simp only [List.any_cons, List.any_nil, Bool.or_false, Bool.false_or]; rw [← byte_ne]; exact HZ.out⟩
        case measure => simp [intOf]; omega
    · obtain rfl : k = l.length := by omega
      have HR := Lib.hid h
      clear h
      go_wp2
      go_ret
      refine ⟨-1, rfl, rfl, ?_⟩
      have := HA.out
      rw [List.take_length] at this
      rw [this]
      rfl

theorem containsFunc_any (a : Option Addr) (n c : Nat) (l : List UInt8) (w : World) (h : Row 1 w a n c (l.map byteV)) (hn : n ≤ 140737488355328) :
    Calls Try.prog 74 #[.slice a n c, .func (.func 75) #[] #[]] w fun e w' => e = .returned (.bool (l.any (fun c => c != 0))) ∧ w = w' := by
  have HR := Lib.hid h
  clear h
  go_enter Try.func74, Try.ntmps74
  go_wp2_with (go_at_call 85; refine (indexFunc_any _ _ _ _ _ HR.out hn).mono ?_; rintro e w' ⟨i, rfl, rfl, hi⟩; have HI := Lib.hid hi; clear hi)
  go_ret
  exact ⟨ret_bool HI.out, rfl⟩
end Go.Proofs.Ytphalijdanmkeaa
