/- Walks of the reference's leaf functions. -/
import Derived.Test.YtphalijdanmkeaaB
namespace Go.Proofs.Ytphalijdanmkeaa
open Go.RowKit J

theorem IsLine_any (l : List UInt8) (w : World) (hl : l.length ≤ 9223372036854775807) :
    Calls Try.prog 52 #[strV l] w fun e w' => e = .returned (.bool (isLine l)) ∧ w = w' := by
  go_enter Try.func52, Try.ntmps52
  go_wp2
  go_loop [3] (fun i => ∃ k : Nat, k ≤ l.length ∧ i = .int .i64 k ∧ (l.take k).all (fun c => decide (32 ≤ c.toNat) && decide (c.toNat ≤ 126)) = true) (fun i => l.length - (intOf i).toNat)
  case atStart => exact ⟨0, Nat.zero_le _, rfl, by simp⟩
  case round =>
    obtain ⟨k, hk, rfl, hall⟩ := hrel
    have HA := Lib.hid hall
    clear hall
    by_cases hlt : k < l.length
    · have hb := l[k].toNat_lt
      by_cases h1 : (l[k].toNat : Int) < 32
      · go_wp2
        go_ret
        refine ⟨ret_bool ?_, rfl⟩
        have : l.all (fun c => decide (32 ≤ c.toNat) && decide (c.toNat ≤ 126)) = false := by
          rw [List.all_eq_false]
          exact ⟨l[k], List.getElem_mem hlt, by simp; omega⟩
        simp only [isLine, this, Bool.and_false]
      · have h1' : decide ((l[k].toNat : Int) < 32) = false := by simpa using h1
        by_cases h2 : (126 : Int) < (l[k].toNat : Int)
        · go_wp2
          go_ret
          refine ⟨ret_bool ?_, rfl⟩
          have : l.all (fun c => decide (32 ≤ c.toNat) && decide (c.toNat ≤ 126)) = false := by
            rw [List.all_eq_false]
            exact ⟨l[k], List.getElem_mem hlt, by simp; omega⟩
          simp only [isLine, this, Bool.and_false]
        · have h2' : decide ((126 : Int) < (l[k].toNat : Int)) = false := by simpa using h2
          go_wp2
          go_round
          case rel => exact ⟨k + 1, by omega, by go_num, by rw [List.take_succ_eq_append_getElem hlt, List.all_append, HA.out]; simp; omega⟩
          case measure => simp [intOf]; omega
    · obtain rfl : k = l.length := by omega
      have := HA.out
      rw [List.take_length] at this
      have HB := Lib.hid this
      clear this
      by_cases w1 : (1 : Int) ≤ (l.length : Int)
      · go_wp2
        go_ret
        refine ⟨ret_bool ?_, rfl⟩
        simp only [isLine, HB.out, Bool.and_true]
        rw [show decide (1 ≤ l.length) = true from decide_eq_true (by omega), Bool.true_and]
        exact decide_eq_decide.2 (by omega)
      · have w1' : decide ((1 : Int) ≤ (l.length : Int)) = false := by simpa using w1
        go_wp2
        go_ret
        refine ⟨ret_bool ?_, rfl⟩
        simp only [isLine]
        rw [show decide (1 ≤ l.length) = false from decide_eq_false (by omega)]
        simp

@[go_sem] theorem run_conv_one {W : World} {m : Nat} {x : Int} (hm : m = W.heap.size) (h0 : 0 ≤ x) (h1 : x < 256) :
    (convert 22 9 (.slice (some ⟨m, 0, none⟩) 1 1)).run Try.prog (W.alloc (.cells #[.int .u8 x] 5)) = .ok (strV [UInt8.ofNat x.toNat]) (W.alloc (.cells #[.int .u8 x] 5)) := by
  subst hm
  have h := Row.made (k := 1) W ([UInt8.ofNat x.toNat].map byteV) 5 (n := 1) (c := 1) (by simp) (by omega)
  have hr := run_conv (P := Try.prog) h 22 9 5 Try.underlying22 Try.underlying5 Try.underlying9
  simp only [List.map_cons, List.map_nil, byte_of_int h0 h1] at hr
  exact hr

theorem digits2_eq (n : Int) (h0 : 0 ≤ n) : digits 2 n.toNat = [UInt8.ofNat (48 + n / 10 % 10).toNat, UInt8.ofNat (48 + n % 10).toNat] := by
  simp only [digits, List.nil_append, List.cons_append, List.cons.injEq, and_true]
  exact ⟨by congr 1; omega, by congr 1; omega⟩
theorem digits3_eq (n : Int) (h0 : 0 ≤ n) : digits 3 n.toNat = [UInt8.ofNat (48 + n / 10 / 10 % 10).toNat, UInt8.ofNat (48 + n / 10 % 10).toNat, UInt8.ofNat (48 + n % 10).toNat] := by
  simp only [digits, List.nil_append, List.cons_append, List.cons.injEq, and_true]
  exact ⟨by congr 1; omega, by congr 1; omega, by congr 1; omega⟩

set_option maxRecDepth 100000 in
theorem Digits2_any (n : Int) (w : World) (h0 : 0 ≤ n) (h1 : n ≤ 100000) :
    Calls Try.prog 53 #[.int .i64 n, .int .i64 2] w fun e w' => e = .returned (strV (digits 2 n.toNat)) ∧ Below w.heap.size w w' := by
  have a0 : 0 ≤ 48 + n % 10 := by omega
  have a1 : 48 + n % 10 < 256 := by omega
  have a2 : 0 ≤ 48 + n / 10 % 10 := by omega
  have a3 : 48 + n / 10 % 10 < 256 := by omega
  go_enter Try.func53, Try.ntmps53
  go_wp2
  refine wp_loop_rounds 4 ?_
  repeat any_goals (rw [rounds_succ]; go_wp2)
  go_ret
  exact ⟨ret_str (by rw [digits2_eq n h0]), by go_grown⟩

set_option maxRecDepth 100000 in
theorem Digits3_any (n : Int) (w : World) (h0 : 0 ≤ n) (h1 : n ≤ 100000) :
    Calls Try.prog 53 #[.int .i64 n, .int .i64 3] w fun e w' => e = .returned (strV (digits 3 n.toNat)) ∧ Below w.heap.size w w' := by
  have a0 : 0 ≤ 48 + n % 10 := by omega
  have a1 : 48 + n % 10 < 256 := by omega
  have a2 : 0 ≤ 48 + n / 10 % 10 := by omega
  have a3 : 48 + n / 10 % 10 < 256 := by omega
  have a4 : 0 ≤ 48 + n / 10 / 10 % 10 := by omega
  have a5 : 48 + n / 10 / 10 % 10 < 256 := by omega
  go_enter Try.func53, Try.ntmps53
  go_wp2
  refine wp_loop_rounds 5 ?_
  repeat any_goals (rw [rounds_succ]; go_wp2)
  go_ret
  exact ⟨ret_str (by rw [digits3_eq n h0]), by go_grown⟩

set_option maxRecDepth 100000 in
theorem RSum_ok (l : List UInt8) (n : Int) (w : World) (hl : l.length ≤ 9223372036854775807) (h : J.check l n = 0) :
    Calls Try.prog 19 #[strV l, .int .i64 n] w fun e w' => e = .returned (.tuple #[.int .i64 (J.sum l n.toNat : Int), .int .i64 0]) ∧ w = w' := by
  have ⟨hv, _, hl', h0, h1⟩ := check_ok h
  have HC := Lib.hid h
  have HV := Lib.hid hv
  clear h hv
  have n0 : decide (n < 0) = false := by simpa using h0
  go_enter Try.func19, Try.ntmps19
  go_wp2_with (go_at_call 52; refine (IsLine_any _ _ hl).mono ?_; rintro e w' ⟨rfl, rfl⟩; rw [HV.out])
  go_loop [6, 7] (fun s i => ∃ k : Nat, k ≤ l.length ∧ i = .int .i64 k ∧ s = .int .i64 (7 * n + (sumTo l k : Int))) (fun _ i => l.length - (intOf i).toNat)
  case atStart => exact ⟨0, Nat.zero_le _, rfl, by simp [sumTo, wsum]⟩
  case round =>
    obtain ⟨k, hk, rfl, rfl⟩ := hrel
    have hle : sumTo l k ≤ 4326400 := by have := sumTo_le l k (by omega); omega
    by_cases hlt : k < l.length
    · have hb := l[k].toNat_lt
      have hp : (k + 1) * l[k].toNat ≤ 121 * 256 := Nat.mul_le_mul (by omega) (by omega)
      have hp' : ((k : Int) + 1) * (l[k].toNat : Int) ≤ 30976 := by exact_mod_cast hp
      have hp0 : 0 ≤ ((k : Int) + 1) * (l[k].toNat : Int) := Int.mul_nonneg (by omega) (by omega)
      go_wp2
      go_round
      case rel => exact ⟨k + 1, by omega, by go_num, by rw [← sumTo_step l k hlt n, Int.mul_comm (l[k].toNat : Int)]⟩
      case measure => simp [intOf]; omega
    · obtain rfl : k = l.length := by omega
      go_wp2
      go_ret2
      refine ⟨?_, rfl⟩
      have e : (7 * n + (sumTo l l.length : Int)) % 127 = (J.sum l n.toNat : Int) := by
        simp only [J.sum, sumTo, List.take_length]
        omega
      rw [← e]
      rfl

theorem RSum_err (l : List UInt8) (n c : Int) (w : World) (hl : l.length ≤ 9223372036854775807) (h : J.check l n = c) (hc : (c != 0) = true) :
    Calls Try.prog 19 #[strV l, .int .i64 n] w fun e w' => e = .returned (.tuple #[.int .i64 0, .int .i64 c]) ∧ w = w' := by
  by_cases hv : isLine l = true
  · have h' := h
    simp only [J.check, hv, Bool.not_true, Bool.false_eq_true, if_false] at h'
    have hn : ¬ (0 ≤ n ∧ n ≤ 59) := by
      intro hn
      simp [hn] at h'
      simp [← h'] at hc
    obtain rfl : c = 3 := by
      rw [← h']
      simp [hn]
    clear h h'
    have HV := Lib.hid hv
    clear hv
    by_cases h0 : n < 0
    · go_enter Try.func19, Try.ntmps19
      go_wp2_with (go_at_call 52; refine (IsLine_any _ _ hl).mono ?_; rintro e w' ⟨rfl, rfl⟩; rw [HV.out])
      go_ret2
      exact ⟨rfl, rfl⟩
    · have n0 : decide (n < 0) = false := by simpa using h0
      have n1 : 59 < n := by omega
      go_enter Try.func19, Try.ntmps19
      go_wp2_with (go_at_call 52; refine (IsLine_any _ _ hl).mono ?_; rintro e w' ⟨rfl, rfl⟩; rw [HV.out])
      go_ret2
      exact ⟨rfl, rfl⟩
  · have hv' := Bool.eq_false_iff.2 hv
    obtain rfl : c = 2 := by rw [← h]; simp [J.check, hv']
    have HV := Lib.hid hv'
    clear hv hv' h
    go_enter Try.func19, Try.ntmps19
    go_wp2_with (go_at_call 52; refine (IsLine_any _ _ hl).mono ?_; rintro e w' ⟨rfl, rfl⟩; rw [HV.out])
    go_ret2
    exact ⟨rfl, rfl⟩

set_option maxRecDepth 100000 in
theorem RRecord_ok (l : List UInt8) (n : Int) (w : World) (hl : l.length ≤ 9223372036854775807) (h : J.check l n = 0) :
    Calls Try.prog 20 #[strV l, .int .i64 n] w fun e w' => e = .returned (.tuple #[strV (record l n.toNat), .int .i64 0]) ∧ Below w.heap.size w w' := by
  have ⟨hv, _, hl', h0, h1⟩ := check_ok h
  have hs := sum_lt l n.toNat
  have d1 := Nat.le_of_eq (digits_length 2 n.toNat)
  have d2 := Nat.le_of_eq (digits_length 3 l.length)
  have d3 := Nat.le_of_eq (digits_length 3 (J.sum l n.toNat))
  have HC := Lib.hid h
  clear h hv
  go_enter Try.func20, Try.ntmps20
  go_wp2_with fail
  refine (RSum_ok _ _ _ hl HC.out).mono ?_; rintro e w' ⟨rfl, rfl⟩
  go_wp2_with fail
  refine (Digits2_any _ _ h0 (by omega)).mono ?_; rintro e w1 ⟨rfl, b1⟩
  go_wp2_with fail
  refine (Digits3_any _ _ (by omega) (by omega)).mono ?_; rintro e w2 ⟨rfl, b2⟩
  go_wp2_with fail
  refine (Digits3_any _ _ (by omega) (by omega)).mono ?_; rintro e w3 ⟨rfl, b3⟩
  go_wp2_with fail
  go_ret2
  refine ⟨?_, (b1.trans (b2.mono b1.size)).trans (b3.mono (Nat.le_trans b1.size b2.size))⟩
  simp only [record, List.append_assoc]
  rfl

theorem RRecord_err (l : List UInt8) (n c : Int) (w : World) (hl : l.length ≤ 9223372036854775807) (h : J.check l n = c) (hc : (c != 0) = true) :
    Calls Try.prog 20 #[strV l, .int .i64 n] w fun e w' => e = .returned (.tuple #[strV [], .int .i64 c]) ∧ w = w' := by
  have HC := Lib.hid h
  clear h
  go_enter Try.func20, Try.ntmps20
  go_wp2_with (go_at_call 19; refine (RSum_err _ _ _ _ hl HC.out hc).mono ?_; rintro e w' ⟨rfl, rfl⟩)
  go_ret2
  exact ⟨rfl, rfl⟩
end Go.Proofs.Ytphalijdanmkeaa
