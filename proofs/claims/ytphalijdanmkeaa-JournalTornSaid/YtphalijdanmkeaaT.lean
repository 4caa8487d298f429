/- The reference: what can be read of some bytes. -/
import Derived.Test.YtphalijdanmkeaaS
import Derived.Maps.AppendAt
namespace Go.Proofs.Ytphalijdanmkeaa
open Go.RowKit Go.Shelf J

theorem own_below {W W' : World} {base : Nat} {e : TypeId} {size : Nat} {v : Value} {n : Nat} {xs : List Value} (h : W.ownsRow base e size v n xs) (hb : Below W.heap.size W W') : W'.ownsRow base e size v n xs :=
  h.kept (row := none) ⟨hb.os, hb.tape, hb.output, hb.size, fun k hk _ => hb.block k hk⟩ (by cases hv : v.ownBlock with | none => exact .inl rfl | some k => exact .inr (by simp))

theorem own_grown {w W W' : World} {B : Nat} {e : TypeId} {size : Nat} {v : Value} {n : Nat} {xs : List Value} (hb : Below B w W) (h : W.ownsRow B e size v n xs) (hg : W.grownBy W' v.ownBlock) (hB : B ≤ W.heap.size) : Below B w W' :=
  hb.grown hg hB (fun k e => (h.lt k e).1)

theorem good_append : ∀ (a b : List (List UInt8)), good (a ++ b) = good a + good b
  | [], b => by simp [good]
  | x :: a, b => by simp only [List.cons_append, good, good_append a b]; omega

theorem first_fits {b : List UInt8} {num : Nat} {l : List UInt8} (h : first b num = some l) : l.length + 9 ≤ b.length ∧ 1 ≤ l.length ∧ l.length ≤ 120 := by
  have hh := h
  simp only [first] at h
  split at h
  · rename_i hn
    split at h
    · obtain rfl := Option.some.inj h
      simp
      omega
    · cases h
  · cases h

theorem RFirst_none (a : Option Addr) (m c : Nat) (b : List UInt8) (at_ num : Nat) (w : World) (hm : m ≤ 140737488355328) (hat : at_ ≤ m) (hnum : num ≤ 59) (h : Row 1 w a m c (b.map byteV)) (hf : first (b.drop at_) num = none) :
    Calls Try.prog 59 #[.slice a m c, .int .i64 (at_ : Int), .int .i64 (num : Int)] w fun e w' => e = .returned (.tuple #[strV [], .bool false]) ∧ Below w.heap.size w w' := by
  have := RFirst_any a m c b at_ num w hm hat hnum h
  rw [hf] at this
  exact this
theorem RFirst_some (a : Option Addr) (m c : Nat) (b l : List UInt8) (at_ num : Nat) (w : World) (hm : m ≤ 140737488355328) (hat : at_ ≤ m) (hnum : num ≤ 59) (h : Row 1 w a m c (b.map byteV)) (hf : first (b.drop at_) num = some l) :
    Calls Try.prog 59 #[.slice a m c, .int .i64 (at_ : Int), .int .i64 (num : Int)] w fun e w' => e = .returned (.tuple #[strV l, .bool true]) ∧ Below w.heap.size w w' := by
  have := RFirst_any a m c b at_ num w hm hat hnum h
  rw [hf] at this
  exact this

set_option maxRecDepth 100000 in
set_option maxHeartbeats 2000000 in
theorem RRecover_ok (a : Option Addr) (m c : Nat) (b : List UInt8) (w : World) (hm : m ≤ 8000) (h : Row 1 w a m c (b.map byteV)) :
    Calls Try.prog 26 #[.slice a m c] w fun e w' => ∃ a' c', e = .returned (.tuple #[.slice a' (read b).length c', .int .i64 (good (read b) : Int), .int .i64 0]) ∧
      w'.ownsRow w.heap.size 9 1 (.slice a' (read b).length c') (read b).length ((read b).map strV) ∧ Below w.heap.size w w' := by
  obtain ⟨i0, hi, hz0, hz1, hz2⟩ := info_parts Try.info9
  have hbl : b.length = m := by simpa using h.1
  have HR := Lib.hid h
  have HBL := Lib.hid hbl
  clear h hbl
  go_enter Try.func26, Try.ntmps26
  go_wp2
  go_loopw [5, 6, 7, 8] (fun t5 t6 _ _ wr => ∃ (pre : List (List UInt8)) (a5 : Option Addr) (c5 : Nat), t5 = .slice a5 pre.length c5 ∧ wr.ownsRow w.heap.size 9 1 (.slice a5 pre.length c5) pre.length (pre.map strV) ∧ t6 = .int .i64 (good pre : Int) ∧ pre.length ≤ 60 ∧
    good pre ≤ b.length ∧ read b = pre ++ recover (60 - pre.length) pre.length (b.drop (good pre)) ∧ Below w.heap.size w wr) (fun i j _ _ _ => 9000 - (intOf j).toNat)
  case atStart => exact ⟨[], _, _, rfl, World.ownsRow_made w #[] 0 (Nat.le_refl _) (by decide) rfl, rfl, by simp, by simp [good], rfl, (Below.refl _ _).alloc (Nat.le_refl _) _⟩
  case round =>
    obtain ⟨pre, a5, c5, rfl, hown, rfl, hk, hgd, hrd, hbw⟩ := hrel
    have HOWN := Lib.hid hown
    have HRD := Lib.hid hrd
    have HB := Lib.hid hbw
    clear hown hrd hbw
    have hgm : (good pre : Int) ≤ 8000 := by have := HBL.out; omega
    by_cases hlt : pre.length < 60
    · have hrec : recover (60 - pre.length) pre.length (b.drop (good pre)) = match first (b.drop (good pre)) pre.length with | none => [] | some l => l :: recover (60 - (pre.length + 1)) (pre.length + 1) ((b.drop (good pre)).drop (l.length + 9)) := by
        rw [show 60 - pre.length = (60 - (pre.length + 1)) + 1 from by omega]
        rfl
      have HREC := Lib.hid hrec
      clear hrec
      cases hf : first (b.drop (good pre)) pre.length with
      | none =>
        have HF := Lib.hid hf
        clear hf
        go_wp2_with (go_at_call 59; refine (RFirst_none _ _ _ b (good pre) pre.length _ (by omega) (by have := HBL.out; omega) (by omega) (HR.out.mono HB.out (Nat.le_refl _)) HF.out).mono ?_; rintro e w1 ⟨rfl, hb1⟩)
        go_ret3
        have hr := HRD.out
        rw [HREC.out, HF.out, List.append_nil] at hr
        rw [hr]
        exact ⟨_, _, rfl, own_below HOWN.out hb1, HB.out.trans (hb1.mono HB.out.size)⟩
      | some l =>
        have HF := Lib.hid hf
        have hff := first_fits hf
        clear hf
        have hl120 : (l.length : Int) ≤ 120 := by omega
        go_wp2_with (first
          | (go_at_call 59; refine (RFirst_some _ _ _ b l (good pre) pre.length _ (by omega) (by have := HBL.out; omega) (by omega) (HR.out.mono HB.out (Nat.le_refl _)) HF.out).mono ?_; rintro e w1 ⟨rfl, hb1⟩; have ho1 := own_below HOWN.out hb1; have HO1 := Lib.hid ho1; clear ho1)
          | (at_builtin; refine wpList_append_own _ rfl (.tmp 26) (.tmp 28) 34 rfl w.heap.size 9 i0 (.string ⟨#[]⟩) 1 16 Try.underlying34 hi hz0 hz1 hz2 rfl (by decide) _ _ _ rfl (HO1.out.alloc _) ⟨w1.heap.size, 0, none⟩ 1 1 [strV l] rfl rfl (cell_one_new _ _ _) (by simp [Value.oneCell']) (by unfold maxLen; omega) (by omega) (by have := HB.out.size; have := hb1.size; simp only [World.size_alloc]; omega) ?_; intro v' w2 hown' hgrow _; obtain ⟨g', cap', rfl⟩ := ownsRow_succ hown'))
        go_roundw
        case rel =>
          have hsz := hb1.size
          have hsw := HB.out.size
          refine ⟨pre ++ [l], some ⟨g', 0, none⟩, cap', by simp, by simpa using hown', by rw [good_append]; simp only [good]; exact congrArg _ (by omega), by simp; omega, ?_, ?_, own_grown ((HB.out.trans (hb1.mono hsw)).alloc (by omega) _) (HO1.out.alloc _) hgrow (by simp only [World.size_alloc]; omega)⟩
          · rw [good_append]; simp only [good]
            have := hff.1
            simp only [List.length_drop] at this
            omega
          · rw [HRD.out, HREC.out, HF.out, good_append]
            simp only [good, List.length_append, List.length_cons, List.length_nil, List.append_assoc, List.cons_append, List.nil_append, List.drop_drop, Nat.add_zero]
        case measure => simp [intOf]; omega
    · obtain hk60 : pre.length = 60 := by omega
      go_wp2
      go_ret3
      have hr := HRD.out
      rw [hk60, show recover (60 - 60) 60 (b.drop (good pre)) = [] from rfl, List.append_nil] at hr
      rw [hr]
      exact ⟨_, _, rfl, HOWN.out, HB.out⟩

theorem RRecover_lim (a : Option Addr) (m c : Nat) (w : World) (hm : 8000 < m) (hm2 : m ≤ 140737488355328) :
    Calls Try.prog 26 #[.slice a m c] w fun e w' => e = .returned (.tuple #[.slice none 0 0, .int .i64 0, .int .i64 5]) ∧ w = w' := by
  have hm' : (8000 : Int) < m := by omega
  go_enter Try.func26, Try.ntmps26
  go_wp2
  go_ret3
  exact ⟨rfl, rfl⟩

theorem byte_at {W : World} {b o : Nat} {l : List UInt8} (hc : ∀ i (h : i < (l.map byteV).length), W.cell? ⟨b, o + i, none⟩ = some (l.map byteV)[i]) (k : Nat) (h : k < l.length) : W.cell? ⟨b, o + k, none⟩ = some (.int .u8 (l[k].toNat : Int)) := by
  rw [hc k (by simpa using h)]
  simp [byteV]

theorem clean_step {b : List UInt8} {g k : Nat} (hk : g ≤ k) (hlt : k < b.length) (h : ∀ i, g ≤ i → i < k → ∀ hi : i < b.length, b[i].toNat = 0) (hz : b[k].toNat = 0) : ∀ i, g ≤ i → i < k + 1 → ∀ hi : i < b.length, b[i].toNat = 0 := by
  intro i h1 h2 hi
  by_cases he : i = k
  · subst he; exact hz
  · exact h i h1 (by omega) hi

theorem clean_yes {b : List UInt8} (h : ∀ i, good (read b) ≤ i → ∀ hi : i < b.length, b[i].toNat = 0) : clean b = true := by
  simp only [clean, List.all_eq_true]
  intro x hx
  obtain ⟨i, hi, rfl⟩ := List.mem_iff_getElem.1 hx
  rw [List.getElem_drop]
  have := h (good (read b) + i) (by omega) (by simp at hi; omega)
  exact beq_iff_eq.2 (UInt8.toNat_inj.1 this)
theorem clean_no {b : List UInt8} {k : Nat} (hk : good (read b) ≤ k) (hlt : k < b.length) (hz : b[k].toNat ≠ 0) : clean b = false := by
  rw [Bool.eq_false_iff]
  intro h
  simp only [clean, List.all_eq_true] at h
  have hm : b[k] ∈ b.drop (good (read b)) := by
    rw [List.mem_iff_getElem]
    exact ⟨k - good (read b), by simp; omega, by rw [List.getElem_drop]; congr 1; omega⟩
  have := beq_iff_eq.1 (h _ hm)
  rw [this] at hz
  exact hz rfl

set_option maxRecDepth 100000 in
set_option maxHeartbeats 2000000 in
theorem RCheck_any (a : Option Addr) (m c : Nat) (b : List UInt8) (w : World) (hm : m ≤ 140737488355328) (h : Row 1 w a m c (b.map byteV)) :
    Calls Try.prog 30 #[.slice a m c] w fun e w' => e = .returned (.int .i64 (checkD b)) ∧ Below w.heap.size w w' := by
  have hbl : b.length = m := by simpa using h.1
  have HR := Lib.hid h
  have HBL := Lib.hid hbl
  clear h
  by_cases hf : formed b = true
  · have hcd : ∀ x, clean b = x → checkD b = if x then 0 else 9 := by
      intro x hx
      simp only [checkD, hf, hx]
      cases x <;> rfl
    have HCD := Lib.hid hcd
    have hle := formed_eq b
    rw [hf] at hle
    have hle2 : b.length ≤ 8000 := by simp at hle; omega
    have hg := read_good b
    have HF := Lib.hid hf
    have hm8 : m ≤ 8000 := by omega
    clear hf hle hcd
    subst hbl
    go_enter Try.func30, Try.ntmps30
    go_wp2_with (first
      | (go_at_call 62; refine (IsDevice_any _ _ _ b _ rfl (by omega)).mono ?_; rintro e w' ⟨rfl, rfl⟩; rw [HF.out])
      | (go_at_call 26; refine (RRecover_ok _ _ _ b _ hm8 HR.out).mono ?_; rintro e w1 ⟨a1, c1, rfl, ho1, hb1⟩))
    have hR1 := HR.out.mono hb1 (Nat.le_refl _)
    clear ho1
    have HR1 := Lib.hid hR1
    have HB := Lib.hid hb1
    clear hb1 hR1
    go_loop [6] (fun t6 => ∃ k : Nat, good (read b) ≤ k ∧ k ≤ b.length ∧ t6 = .int .i64 k ∧ ∀ i, good (read b) ≤ i → i < k → ∀ hi : i < b.length, b[i].toNat = 0) (fun i => b.length - (intOf i).toNat)
    case atStart => exact ⟨good (read b), Nat.le_refl _, hg, rfl, fun i h1 h2 => by omega⟩
    case round =>
      obtain ⟨k, hk1, hk2, rfl, hz⟩ := hrel
      have HZ := Lib.hid hz
      clear hz
      by_cases hlt : k < b.length
      · obtain ⟨bb, o, rfl, hbb, hc⟩ := HR1.out.some (by omega)
        have hx := byte_at hc k hlt
        clear hc
        by_cases hv : ((b[k].toNat : Int) != 0) = true
        · have HV := Lib.hid hv
          go_wp2
          go_ret
          refine ⟨ret_int ?_, HB.out⟩
          rw [HCD.out false (clean_no hk1 hlt (by have := HV.out; simp at this; omega))]
          rfl
        · have hv' := Bool.eq_false_iff.2 hv
          have HV := Lib.hid hv'
          clear hv
          go_wp2
          go_round
          case rel => exact ⟨k + 1, by omega, by omega, by go_num, clean_step hk1 hlt HZ.out (by have := HV.out; simp at this; omega)⟩
          case measure => simp [intOf]; omega
      · obtain rfl : k = b.length := by omega
        go_wp2
        go_ret
        refine ⟨ret_int ?_, HB.out⟩
        rw [HCD.out true (clean_yes fun i h1 hi => HZ.out i h1 hi hi)]
        rfl
  · have hf' := Bool.eq_false_iff.2 hf
    have hcd : checkD b = 4 := by simp [checkD, hf']
    have HF := Lib.hid hf'
    have HCD := Lib.hid hcd
    clear hf hf' hcd
    subst hbl
    go_enter Try.func30, Try.ntmps30
    go_wp2_with (go_at_call 62; refine (IsDevice_any _ _ _ b _ rfl hm).mono ?_; rintro e w' ⟨rfl, rfl⟩; rw [HF.out])
    go_ret
    exact ⟨ret_int HCD.out.symm, Below.refl _ _⟩

set_option maxRecDepth 100000 in
set_option maxHeartbeats 2000000 in
theorem RRoom_ok (a : Option Addr) (m c : Nat) (b : List UInt8) (w : World) (h : Row 1 w a m c (b.map byteV)) (hc : checkD b = 0) :
    Calls Try.prog 27 #[.slice a m c] w fun e w' => e = .returned (.tuple #[.int .i64 (room b.length (read b).length (good (read b)) : Int), .int .i64 0]) ∧ Below w.heap.size w w' := by
  have hbl : b.length = m := by simpa using h.1
  have hle := checkD_len (b := b) (by omega)
  have hg := read_good b
  have hrl := read_len b
  have HR := Lib.hid h
  have HC := Lib.hid hc
  have HBL := Lib.hid hbl
  clear h hc
  have hm8 : m ≤ 8000 := by omega
  subst hbl
  go_enter Try.func27, Try.ntmps27
  go_wp2_with (first
    | (go_at_call 30; refine (RCheck_any _ _ _ b _ (by omega) HR.out).mono ?_; rintro e w1 ⟨rfl, hb1⟩; rw [HC.out])
    | (go_at_call 26; refine (RRecover_ok _ _ _ b _ hm8 (HR.out.mono hb1 (Nat.le_refl _))).mono ?_; rintro e w2 ⟨a1, c1, rfl, ho1, hb2⟩))
  have HB := Lib.hid (hb1.trans (hb2.mono hb1.size))
  clear hb1 hb2 ho1
  go_loop [8, 9] (fun t8 t9 => ∃ n : Nat, 1 ≤ n ∧ n ≤ 121 ∧ t9 = .int .i64 n ∧ t8 = .int .i64 (min (n - 1) (b.length - good (read b) - 9) : Nat) ∧ ((read b).length = 60 → n = 1)) (fun _ i => 200 - (intOf i).toNat)
  case atStart => exact ⟨1, by omega, by omega, rfl, by simp, fun _ => rfl⟩
  case round =>
    obtain ⟨n, hn1, hn2, rfl, rfl, h60⟩ := hrel
    by_cases hl : (read b).length < 60
    · by_cases hn : n ≤ 120
      · by_cases hfit : (good (read b) : Int) + 9 + n ≤ b.length
        · go_wp2
          go_round
          case rel => exact ⟨n + 1, by omega, by omega, by go_num, congrArg _ (by omega), fun h => by omega⟩
          case measure => simp [intOf]; omega
        · go_wp2
          go_round
          case rel => exact ⟨n + 1, by omega, by omega, by go_num, congrArg _ (by omega), fun h => by omega⟩
          case measure => simp [intOf]; omega
      · obtain rfl : n = 121 := by omega
        go_wp2
        go_ret2
        refine ⟨?_, HB.out⟩
        rw [room, if_neg (by omega)]
        simp
        omega
    · have h1 : n = 1 := h60 (by omega)
      subst h1
      go_wp2
      go_ret2
      refine ⟨?_, HB.out⟩
      rw [room, if_pos (by omega)]
      simp

theorem RRoom_err (a : Option Addr) (m c : Nat) (b : List UInt8) (w : World) (hm : m ≤ 140737488355328) (h : Row 1 w a m c (b.map byteV)) (x : Int) (hx : checkD b = x) (hne : (x != 0) = true) :
    Calls Try.prog 27 #[.slice a m c] w fun e w' => e = .returned (.tuple #[.int .i64 0, .int .i64 x]) ∧ Below w.heap.size w w' := by
  have HR := Lib.hid h
  have HC := Lib.hid hx
  clear h hx
  go_enter Try.func27, Try.ntmps27
  go_wp2_with (go_at_call 30; refine (RCheck_any _ _ _ b _ hm HR.out).mono ?_; rintro e w1 ⟨rfl, hb1⟩; rw [HC.out])
  go_ret2
  exact ⟨rfl, hb1⟩
end Go.Proofs.Ytphalijdanmkeaa
