/- Walks of the journal's leaf functions. -/
import Derived.Test.YtphalijdanmkeaaBase
import Derived.Test.YtphalijdanmkeaaSpec
namespace Go.Proofs.Ytphalijdanmkeaa
open Go.RowKit J

theorem within_any (n lo hi : Int) (w : World) :
    Calls Try.prog 48 #[.int .i64 n, .int .i64 lo, .int .i64 hi] w fun e w' => e = .returned (.bool (decide (lo ≤ n) && decide (n ≤ hi))) ∧ w = w' := by
  by_cases h : lo ≤ n
  · go_enter Try.func48, Try.ntmps48
    go_wp2
    go_ret
    exact ⟨by simp [h], rfl⟩
  · have h' : decide (lo ≤ n) = false := by simpa using h
    go_enter Try.func48, Try.ntmps48
    go_wp2
    go_ret
    exact ⟨by simp, rfl⟩

theorem shown_any (n : Int) (w : World) (h0 : 0 ≤ n) (h1 : n < 256) :
    Calls Try.prog 79 #[.int .u8 n] w fun e w' => e = .returned (.bool (decide (32 ≤ n) && decide (n ≤ 126))) ∧ w = w' := by
  go_enter Try.func79, Try.ntmps79
  go_wp2_with (go_at_call 48; refine (within_any _ _ _ _).mono ?_; rintro e w' ⟨rfl, rfl⟩)
  go_ret
  exact ⟨by simp, rfl⟩

/-- a byte of a text, as the walk spells it -/
theorem shownB (c : UInt8) : (decide ((32 : Int) ≤ (c.toNat : Int)) && decide ((c.toNat : Int) ≤ 126)) = (decide (32 ≤ c.toNat) && decide (c.toNat ≤ 126)) := by
  congr 1 <;> (apply decide_eq_decide.2; omega)

theorem valid_any (l : List UInt8) (w : World) (hl : l.length ≤ 9223372036854775807) :
    Calls Try.prog 65 #[strV l] w fun e w' => e = .returned (.bool (isLine l)) ∧ w = w' := by
  by_cases hw : 1 ≤ l.length ∧ l.length ≤ 120
  · obtain ⟨w1, w2⟩ := hw
    have i1 : (1 : Int) ≤ (l.length : Int) := by omega
    have i2 : (l.length : Int) ≤ 120 := by omega
    go_enter Try.func65, Try.ntmps65
    go_wp2_with (go_at_call 48; refine (within_any _ _ _ _).mono ?_; rintro e w' ⟨rfl, rfl⟩)
    clear i1 i2
    go_loop [3, 10] (fun _ i => ∃ k : Nat, k ≤ l.length ∧ i = .int .i64 k ∧ (l.take k).all (fun c => decide (32 ≤ c.toNat) && decide (c.toNat ≤ 126)) = true) (fun _ i => l.length - (intOf i).toNat)
    case atStart => exact ⟨0, Nat.zero_le _, rfl, by simp⟩
    case round =>
      obtain ⟨k, hk, rfl, hall⟩ := hrel
      have HA := Lib.hid hall
      clear hall
      by_cases hlt : k < l.length
      · have hb := l[k].toNat_lt
        by_cases hs : (decide (32 ≤ l[k].toNat) && decide (l[k].toNat ≤ 126)) = true
        · have hs' : (decide ((32 : Int) ≤ (l[k].toNat : Int)) && decide ((l[k].toNat : Int) ≤ 126)) = true := by rw [shownB]; exact hs
          have HS := Lib.hid hs
          clear hs
          go_wp2_with (go_at_call 79; refine (shown_any _ _ (by omega) (by omega)).mono ?_; rintro e w' ⟨rfl, rfl⟩; rw [hs'])
          go_round
          case rel => exact ⟨k + 1, by omega, by go_num, by rw [List.take_succ_eq_append_getElem hlt, List.all_append, HA.out]; simpa using HS.out⟩
          case measure => simp [intOf]; omega
        · have hs' : (decide ((32 : Int) ≤ (l[k].toNat : Int)) && decide ((l[k].toNat : Int) ≤ 126)) = false := by rw [shownB]; simpa using hs
          have HS := Lib.hid hs
          clear hs
          go_wp2_with (go_at_call 79; refine (shown_any _ _ (by omega) (by omega)).mono ?_; rintro e w' ⟨rfl, rfl⟩; rw [hs'])
          go_ret
          refine ⟨ret_bool ?_, rfl⟩
          have : l.all (fun c => decide (32 ≤ c.toNat) && decide (c.toNat ≤ 126)) = false := by
            rw [List.all_eq_false]
            exact ⟨l[k], List.getElem_mem hlt, HS.out⟩
          simp only [isLine, this, Bool.and_false]
      · obtain rfl : k = l.length := by omega
        go_wp2
        go_ret
        have := HA.out
        rw [List.take_length] at this
        exact ⟨ret_bool (by simp only [isLine, this, w1, w2]; rfl), rfl⟩
  · have hf : (decide ((1 : Int) ≤ (l.length : Int)) && decide ((l.length : Int) ≤ 120)) = false := by
      rw [Bool.and_eq_false_iff]
      simp only [decide_eq_false_iff_not]
      omega
    have HF := Lib.hid hf
    clear hf
    go_enter Try.func65, Try.ntmps65
    go_wp2_with (go_at_call 48; refine (within_any _ _ _ _).mono ?_; rintro e w' ⟨rfl, rfl⟩; rw [HF.out])
    go_ret
    refine ⟨ret_bool ?_, rfl⟩
    have h2 : (decide (1 ≤ l.length) && decide (l.length ≤ 120)) = false := by
      rw [Bool.and_eq_false_iff]
      simp only [decide_eq_false_iff_not]
      omega
    simp only [isLine, h2, Bool.false_and]

theorem check_any (l : List UInt8) (n : Int) (w : World) (hl : l.length ≤ 9223372036854775807) :
    Calls Try.prog 49 #[strV l, .int .i64 n] w fun e w' => e = .returned (.int .i64 (J.check l n)) ∧ w = w' := by
  by_cases hv : isLine l = true
  · by_cases hn : (decide (0 ≤ n) && decide (n ≤ 59)) = true
    all_goals
      have HV := Lib.hid hv
      have HN := Lib.hid hn
      clear hv hn
      go_enter Try.func49, Try.ntmps49
      go_wp2_with (first | (go_at_call 65; refine (valid_any _ _ hl).mono ?_; rintro e w' ⟨rfl, rfl⟩; rw [HV.out]) | (go_at_call 48; refine (within_any _ _ _ _).mono ?_; rintro e w' ⟨rfl, rfl⟩; first | rw [HN.out] | rw [Bool.eq_false_iff.2 HN.out]))
      go_ret
      refine ⟨ret_int ?_, rfl⟩
      have h1 := HV.out
      have h2 := HN.out
      simp only [J.check, h1]
      simp [h2]
  · have hv' := Bool.eq_false_iff.2 hv
    have HV := Lib.hid hv'
    clear hv hv'
    go_enter Try.func49, Try.ntmps49
    go_wp2_with (go_at_call 65; refine (valid_any _ _ hl).mono ?_; rintro e w' ⟨rfl, rfl⟩; rw [HV.out])
    go_ret
    refine ⟨ret_int ?_, rfl⟩
    simp [J.check, HV.out]
end Go.Proofs.Ytphalijdanmkeaa
