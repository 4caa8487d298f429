/- Walks: digits, sum, record. -/
import Derived.Test.YtphalijdanmkeaaA
namespace Go.Proofs.Ytphalijdanmkeaa
open Go.RowKit J


theorem byte_of_int {x : Int} (h0 : 0 ≤ x) (h1 : x < 256) : byteV (UInt8.ofNat x.toNat) = .int .u8 x := by
  have h : (UInt8.ofNat x.toNat).toNat = x.toNat := by rw [UInt8.toNat_ofNat']; omega
  simp only [byteV, h]
  congr 1
  omega

set_option maxRecDepth 100000 in
theorem digits2_any (n : Int) (w : World) (h0 : 0 ≤ n) (h1 : n ≤ 100000) :
    Calls Try.prog 72 #[.int .i64 n, .int .i64 2] w fun e w' => e = .returned (strV (digits 2 n.toNat)) ∧ Below w.heap.size w w' := by
  have hmk : ∀ w : World, (Instr.makeSlice 22 (.int .i64 2) (.int .i64 2)).run Try.prog w = .ok (.slice (some ⟨w.heap.size, 0, none⟩) 2 2) (w.alloc (.cells #[.int .u8 0, .int .u8 0] 5)) := fun _ => by kernel_rfl
  have hcv : (convert 22 9 (.slice (some ⟨w.heap.size, 0, none⟩) 2 2)).run Try.prog (w.alloc (.cells #[.int .u8 (48 + n / 10 % 10), .int .u8 (48 + n % 10)] 5)) = .ok (strV (digits 2 n.toNat)) (w.alloc (.cells #[.int .u8 (48 + n / 10 % 10), .int .u8 (48 + n % 10)] 5)) := by
    have e : (digits 2 n.toNat).map byteV = [.int .u8 (48 + n / 10 % 10), .int .u8 (48 + n % 10)] := by
      simp only [digits, List.nil_append, List.map_append, List.map_cons, List.map_nil, List.cons_append]
      rw [← byte_of_int (x := 48 + n / 10 % 10) (by omega) (by omega), ← byte_of_int (x := 48 + n % 10) (by omega) (by omega)]
      congr 5 <;> omega
    have h := Row.made (k := 1) w ((digits 2 n.toNat).map byteV) 5 (n := 2) (c := 2) (by simp [digits]) (by omega)
    have hr := run_conv (P := Try.prog) h 22 9 5 Try.underlying22 Try.underlying5 Try.underlying9
    rw [e] at hr
    exact hr
  go_enter Try.func72, Try.ntmps72
  go_wp2
  refine wp_loop_rounds 4 ?_
  repeat any_goals (rw [rounds_succ]; go_wp2)
  go_ret
  exact ⟨rfl, by go_grown⟩

set_option maxRecDepth 100000 in
theorem digits3_any (n : Int) (w : World) (h0 : 0 ≤ n) (h1 : n ≤ 100000) :
    Calls Try.prog 72 #[.int .i64 n, .int .i64 3] w fun e w' => e = .returned (strV (digits 3 n.toNat)) ∧ Below w.heap.size w w' := by
  have hmk : ∀ w : World, (Instr.makeSlice 22 (.int .i64 3) (.int .i64 3)).run Try.prog w = .ok (.slice (some ⟨w.heap.size, 0, none⟩) 3 3) (w.alloc (.cells #[.int .u8 0, .int .u8 0, .int .u8 0] 5)) := fun _ => by kernel_rfl
  have hcv : (convert 22 9 (.slice (some ⟨w.heap.size, 0, none⟩) 3 3)).run Try.prog (w.alloc (.cells #[.int .u8 (48 + n / 10 / 10 % 10), .int .u8 (48 + n / 10 % 10), .int .u8 (48 + n % 10)] 5)) = .ok (strV (digits 3 n.toNat)) (w.alloc (.cells #[.int .u8 (48 + n / 10 / 10 % 10), .int .u8 (48 + n / 10 % 10), .int .u8 (48 + n % 10)] 5)) := by
    have e : (digits 3 n.toNat).map byteV = [.int .u8 (48 + n / 10 / 10 % 10), .int .u8 (48 + n / 10 % 10), .int .u8 (48 + n % 10)] := by
      simp only [digits, List.nil_append, List.map_append, List.map_cons, List.map_nil, List.cons_append]
      rw [← byte_of_int (x := 48 + n / 10 / 10 % 10) (by omega) (by omega), ← byte_of_int (x := 48 + n / 10 % 10) (by omega) (by omega), ← byte_of_int (x := 48 + n % 10) (by omega) (by omega)]
      congr 5 <;> first | omega | (congr 4; omega)
    have h := Row.made (k := 1) w ((digits 3 n.toNat).map byteV) 5 (n := 3) (c := 3) (by simp [digits]) (by omega)
    have hr := run_conv (P := Try.prog) h 22 9 5 Try.underlying22 Try.underlying5 Try.underlying9
    rw [e] at hr
    exact hr
  go_enter Try.func72, Try.ntmps72
  go_wp2
  refine wp_loop_rounds 5 ?_
  repeat any_goals (rw [rounds_succ]; go_wp2)
  go_ret
  exact ⟨rfl, by go_grown⟩

def sumTo (l : List UInt8) (k : Nat) : Nat := wsum 0 (l.take k)

theorem wsum_append : ∀ (a b : List UInt8) (k : Nat), wsum k (a ++ b) = wsum k a + wsum (k + a.length) b
  | [], b, k => by simp [wsum]
  | c :: a, b, k => by
    simp only [List.cons_append, wsum, wsum_append a b (k + 1), List.length_cons]
    rw [show k + 1 + a.length = k + (a.length + 1) from by omega]
    omega
theorem sumTo_succ (l : List UInt8) (k : Nat) (h : k < l.length) : sumTo l (k + 1) = sumTo l k + (k + 1) * l[k].toNat := by
  unfold sumTo
  rw [List.take_succ_eq_append_getElem h, wsum_append]
  simp [wsum, Nat.min_eq_left (Nat.le_of_lt h)]
theorem sumTo_le (l : List UInt8) (k : Nat) : k ≤ 130 → sumTo l k ≤ k * 33280 := by
  induction k with
  | zero => intro _; simp [sumTo, wsum]
  | succ k ih =>
    intro h
    have ih := ih (by omega)
    by_cases hk : k < l.length
    · rw [sumTo_succ l k hk]
      have hb := l[k].toNat_lt
      have : (k + 1) * l[k].toNat ≤ 130 * 256 := Nat.mul_le_mul (by omega) (by omega)
      omega
    · have e : sumTo l (k + 1) = sumTo l k := by
        show wsum 0 (l.take (k + 1)) = wsum 0 (l.take k)
        rw [List.take_of_length_le (by omega), List.take_of_length_le (by omega)]
      omega
theorem sumTo_step (l : List UInt8) (k : Nat) (h : k < l.length) (n : Int) : (7 * n + (sumTo l k : Int)) + (l[k].toNat : Int) * ((k : Int) + 1) = 7 * n + (sumTo l (k + 1) : Int) := by
  rw [sumTo_succ l k h]
  have e : (((k + 1) * l[k].toNat : Nat) : Int) = (l[k].toNat : Int) * ((k : Int) + 1) := by rw [Int.natCast_mul, Int.mul_comm]; rfl
  omega

set_option maxRecDepth 100000 in
theorem sum_any (l : List UInt8) (n : Int) (w : World) (hl : l.length ≤ 120) (h0 : 0 ≤ n) (h1 : n ≤ 100000) :
    Calls Try.prog 50 #[strV l, .int .i64 n] w fun e w' => e = .returned (.int .i64 (J.sum l n.toNat)) ∧ w = w' := by
  go_enter Try.func50, Try.ntmps50
  go_wp2
  go_loop [5, 6, 11] (fun s _ i => ∃ k : Nat, k ≤ l.length ∧ i = .int .i64 k ∧ s = .int .i64 (7 * n + (sumTo l k : Int))) (fun _ _ i => l.length - (intOf i).toNat)
  case atStart => exact ⟨0, Nat.zero_le _, rfl, by simp [sumTo, wsum]⟩
  case round =>
    obtain ⟨k, hk, rfl, rfl⟩ := hrel
    have hle : sumTo l k ≤ 4326400 := by have := sumTo_le l k (by omega); omega
    by_cases hlt : k < l.length
    · have hb := l[k].toNat_lt
      have hp : (k + 1) * l[k].toNat ≤ 121 * 256 := Nat.mul_le_mul (by omega) (by omega)
      have hp' : (l[k].toNat : Int) * ((k : Int) + 1) ≤ 30976 := by rw [Int.mul_comm]; exact_mod_cast hp
      have hp0 : 0 ≤ (l[k].toNat : Int) * ((k : Int) + 1) := Int.mul_nonneg (by omega) (by omega)
      go_wp2
      go_round
      case rel => exact ⟨k + 1, by omega, by go_num, by rw [← sumTo_step l k hlt n]⟩
      case measure => simp [intOf]; omega
    · obtain rfl : k = l.length := by omega
      go_wp2
      go_ret
      refine ⟨ret_int ?_, rfl⟩
      simp only [J.sum, sumTo, List.take_length]
      omega

theorem isLine_len {l : List UInt8} (h : isLine l = true) : 1 ≤ l.length ∧ l.length ≤ 120 := by
  simp only [isLine, Bool.and_eq_true, decide_eq_true_eq] at h
  exact ⟨h.1.1, h.1.2⟩

theorem sum_lt (l : List UInt8) (n : Nat) : J.sum l n < 127 := Nat.mod_lt _ (by omega)

theorem digits_length (m n : Nat) : (digits m n).length = m := by
  induction m generalizing n with
  | zero => rfl
  | succ m ih => simp [digits, ih]

set_option maxRecDepth 100000 in
theorem record_any (l : List UInt8) (n : Int) (w : World) (hl : l.length ≤ 120) (h0 : 0 ≤ n) (h1 : n ≤ 100000) :
    Calls Try.prog 51 #[strV l, .int .i64 n] w fun e w' => e = .returned (strV (record l n.toNat)) ∧ Below w.heap.size w w' := by
  have hs := sum_lt l n.toNat
  have d1 := Nat.le_of_eq (digits_length 2 n.toNat)
  have d2 := Nat.le_of_eq (digits_length 3 l.length)
  have d3 := Nat.le_of_eq (digits_length 3 (J.sum l n.toNat))
  go_enter Try.func51, Try.ntmps51
  go_wp2_with fail
  refine (digits2_any _ _ h0 h1).mono ?_; rintro e w1 ⟨rfl, b1⟩
  go_wp2_with fail
  refine (digits3_any _ _ (by omega) (by omega)).mono ?_; rintro e w2 ⟨rfl, b2⟩
  go_wp2_with fail
  refine (sum_any _ _ _ hl h0 h1).mono ?_; rintro e w3 ⟨rfl, rfl⟩
  go_wp2_with fail
  refine (digits3_any _ _ (by omega) (by omega)).mono ?_; rintro e w3 ⟨rfl, b3⟩
  go_wp2_with fail
  go_ret
  refine ⟨?_, (b1.trans (b2.mono b1.size)).trans (b3.mono (Nat.le_trans b1.size b2.size))⟩
  simp only [record, List.append_assoc]
  rfl

theorem check_ok {l : List UInt8} {n : Int} (h : J.check l n = 0) : isLine l = true ∧ 1 ≤ l.length ∧ l.length ≤ 120 ∧ 0 ≤ n ∧ n ≤ 59 := by
  simp only [J.check] at h
  by_cases hv : isLine l = true
  · have := isLine_len hv
    simp only [hv, Bool.not_true, Bool.false_eq_true, if_false] at h
    by_cases hn : (decide (0 ≤ n) && decide (n ≤ 59)) = true
    · simp only [Bool.and_eq_true, decide_eq_true_eq] at hn
      exact ⟨hv, this.1, this.2, hn⟩
    · simp [hn] at h
  · simp [hv] at h

theorem Sum_ok (l : List UInt8) (n : Int) (w : World) (hl : l.length ≤ 9223372036854775807) (h : J.check l n = 0) :
    Calls Try.prog 17 #[strV l, .int .i64 n] w fun e w' => e = .returned (.tuple #[.int .i64 (J.sum l n.toNat : Int), .int .i64 0]) ∧ w = w' := by
  have ⟨_, _, hl', h0, h1⟩ := check_ok h
  have HC := Lib.hid h
  clear h
  go_enter Try.func17, Try.ntmps17
  go_wp2_with (first | (go_at_call 49; refine (check_any _ _ _ hl).mono ?_; rintro e w' ⟨rfl, rfl⟩; rw [HC.out]) | (go_at_call 50; refine (sum_any _ _ _ hl' h0 (by omega)).mono ?_; rintro e w' ⟨rfl, rfl⟩))
  go_ret2
  exact ⟨rfl, rfl⟩

theorem Sum_err (l : List UInt8) (n c : Int) (w : World) (hl : l.length ≤ 9223372036854775807) (h : J.check l n = c) (hc : (c != 0) = true) :
    Calls Try.prog 17 #[strV l, .int .i64 n] w fun e w' => e = .returned (.tuple #[.int .i64 0, .int .i64 c]) ∧ w = w' := by
  have HC := Lib.hid h
  clear h
  go_enter Try.func17, Try.ntmps17
  go_wp2_with (go_at_call 49; refine (check_any _ _ _ hl).mono ?_; rintro e w' ⟨rfl, rfl⟩; rw [HC.out])
  go_ret2
  exact ⟨rfl, rfl⟩

theorem Record_ok (l : List UInt8) (n : Int) (w : World) (hl : l.length ≤ 9223372036854775807) (h : J.check l n = 0) :
    Calls Try.prog 18 #[strV l, .int .i64 n] w fun e w' => e = .returned (.tuple #[strV (record l n.toNat), .int .i64 0]) ∧ Below w.heap.size w w' := by
  have ⟨_, _, hl', h0, h1⟩ := check_ok h
  have HC := Lib.hid h
  clear h
  go_enter Try.func18, Try.ntmps18
  go_wp2_with (first | (go_at_call 49; refine (check_any _ _ _ hl).mono ?_; rintro e w' ⟨rfl, rfl⟩; rw [HC.out]) | (go_at_call 51; refine (record_any _ _ _ hl' h0 (by omega)).mono ?_; rintro e w' ⟨rfl, hb⟩))
  go_ret2
  exact ⟨rfl, hb⟩

theorem Record_err (l : List UInt8) (n c : Int) (w : World) (hl : l.length ≤ 9223372036854775807) (h : J.check l n = c) (hc : (c != 0) = true) :
    Calls Try.prog 18 #[strV l, .int .i64 n] w fun e w' => e = .returned (.tuple #[strV [], .int .i64 c]) ∧ w = w' := by
  have HC := Lib.hid h
  clear h
  go_enter Try.func18, Try.ntmps18
  go_wp2_with (go_at_call 49; refine (check_any _ _ _ hl).mono ?_; rintro e w' ⟨rfl, rfl⟩; rw [HC.out])
  go_ret2
  exact ⟨rfl, rfl⟩
end Go.Proofs.Ytphalijdanmkeaa
