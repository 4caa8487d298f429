/- The journal of lines: the walks of both Writes. -/
import Derived.Test.YtphalijdanmkeaaX
namespace Go.Proofs.Ytphalijdanmkeaa
open Go.RowKit Go.Shelf J

/-- the journal of lines, and the error -/
def J.writeJ (l : List (List UInt8)) : List UInt8 × Int := if 60 < l.length then ([], 5) else if l.any (fun s => !isLine s) then ([], 2) else (journal l, 0)

theorem journalFrom_snoc (x : List UInt8) : ∀ (a : List (List UInt8)) (k : Nat), journalFrom k (a ++ [x]) = journalFrom k a ++ record x (k + a.length)
  | [], k => by simp [journalFrom]
  | y :: a, k => by simp only [List.cons_append, journalFrom, journalFrom_snoc x a (k + 1), List.append_assoc, List.length_cons, show k + 1 + a.length = k + (a.length + 1) from by omega]
theorem journalFrom_len : ∀ (a : List (List UInt8)) (k : Nat), (∀ s ∈ a, s.length ≤ 120) → (journalFrom k a).length ≤ 129 * a.length
  | [], k, _ => by simp [journalFrom]
  | y :: a, k, h => by
    have h1 := journalFrom_len a (k + 1) (fun s hs => h s (List.mem_cons_of_mem _ hs))
    have h2 := h y (List.mem_cons_self ..)
    simp only [journalFrom, List.length_append, record_length, List.length_cons]
    omega
theorem journalFrom_ne {a : List (List UInt8)} (k : Nat) (h : a ≠ []) : journalFrom k a ≠ [] := by
  cases a with
  | nil => exact absurd rfl h
  | cons x a =>
    intro e
    have := congrArg List.length e
    simp [journalFrom, record_length] at this

theorem bad_any (s : List UInt8) (w : World) (hs : s.length ≤ 9223372036854775807) : Calls Try.prog 64 #[strV s] w fun e w' => e = .returned (.bool (!isLine s)) ∧ w = w' := by
  go_enter Try.func64, Try.ntmps64
  go_wp2_with (go_at_call 65; refine (valid_any _ _ hs).mono ?_; rintro e w' ⟨rfl, rfl⟩)
  go_ret
  exact ⟨rfl, rfl⟩

def SomeBad (l : List (List UInt8)) (w : World) (e : Ending) (w' : World) : Prop := ∃ i : Int, e = .returned (.int .i64 i) ∧ w = w' ∧ decide (0 ≤ i) = l.any (fun s => !isLine s)

theorem str_at {W : World} {b o : Nat} {l : List (List UInt8)} (hc : ∀ i (h : i < (l.map strV).length), W.cell? ⟨b, o + i, none⟩ = some (l.map strV)[i]) (k : Nat) (h : k < l.length) : W.cell? ⟨b, o + k, none⟩ = some (strV l[k]) := by
  rw [hc k (by simpa using h)]
  simp

theorem SIndex_any (a : Option Addr) (n c : Nat) (l : List (List UInt8)) (w : World) (h : Row 1 w a n c (l.map strV)) (hn : n ≤ 140737488355328) (hs : ∀ s ∈ l, s.length ≤ 9223372036854775807) :
    Calls Try.prog 78 #[.slice a n c, .func (.func 64) #[] #[]] w (SomeBad l w) := by
  have hln : l.length = n := by have := h.1; simpa using this
  subst hln
  have HS := Lib.hid hs
  clear hs
  go_enter Try.func78, Try.ntmps78
  go_wp2
  go_loop [5, 8] (fun _ i => ∃ k : Nat, k ≤ l.length ∧ i = .int .i64 k ∧ (l.take k).any (fun s => !isLine s) = false) (fun _ i => l.length - (intOf i).toNat)
  case atStart => exact ⟨0, Nat.zero_le _, rfl, by simp⟩
  case round =>
    obtain ⟨k, hk, rfl, hall⟩ := hrel
    have HA := Lib.hid hall
    clear hall
    by_cases hlt : k < l.length
    · obtain ⟨b, o, rfl, hb, hc⟩ := h.some (by omega)
      have c0 := str_at hc k hlt
      have HR := Lib.hid h
      clear hc h
      by_cases hz : isLine l[k] = false
      · have HZ := Lib.hid hz
        have hz2 : (!isLine l[k]) = true := by rw [hz]; rfl
        go_wp2_with (go_at_call 64; refine (bad_any _ _ (HS.out _ (List.getElem_mem hlt))).mono ?_; rintro e w' ⟨rfl, rfl⟩; rw [HZ.out])
        go_ret
        refine ⟨k, rfl, rfl, ?_⟩
        have : l.any (fun s => !isLine s) = true := List.any_eq_true.2 ⟨l[k], List.getElem_mem hlt, hz2⟩
        rw [this]
        simp
      · have hz' : isLine l[k] = true := by simpa using hz
        have HZ := Lib.hid hz'
        clear hz
        go_wp2_with (go_at_call 64; refine (bad_any _ _ (HS.out _ (List.getElem_mem hlt))).mono ?_; rintro e w' ⟨rfl, rfl⟩; rw [HZ.out])
        go_round
        case rel => exact ⟨k + 1, by omega, by go_num, by rw [List.take_succ_eq_append_getElem hlt, List.any_append, HA.out]; simp only [List.any_cons, List.any_nil, Bool.or_false, Bool.false_or, HZ.out, Bool.not_true]⟩
        case measure => simp [intOf]; omega
    · obtain rfl : k = l.length := by omega
      have HR := Lib.hid h
      clear h
      go_wp2
      go_ret
      refine ⟨-1, rfl, rfl, ?_⟩
      have := HA.out
      rw [List.take_length] at this
      rw [this]
      rfl

theorem SContains_any (a : Option Addr) (n c : Nat) (l : List (List UInt8)) (w : World) (h : Row 1 w a n c (l.map strV)) (hn : n ≤ 140737488355328) (hs : ∀ s ∈ l, s.length ≤ 9223372036854775807) :
    Calls Try.prog 63 #[.slice a n c, .func (.func 64) #[] #[]] w fun e w' => e = .returned (.bool (l.any (fun s => !isLine s))) ∧ w = w' := by
  have HR := Lib.hid h
  have HS := Lib.hid hs
  clear h hs
  go_enter Try.func63, Try.ntmps63
  go_wp2_with (go_at_call 78; refine (SIndex_any _ _ _ _ _ HR.out hn HS.out).mono ?_; rintro e w' ⟨i, rfl, rfl, hi⟩; have HI := Lib.hid hi; clear hi)
  go_ret
  exact ⟨ret_bool HI.out, rfl⟩

theorem builder_kept {T e : TypeId} {B b : Nat} {bs : List Value} {w w' : World} (h : Lib.IsBuilder T e B b bs w) (hb : Below w.heap.size w w') : Lib.IsBuilder T e B b bs w' := by
  have key : ∀ p, Lib.BuilderAt T e B b p bs w → Lib.BuilderAt T e B b p bs w' := fun p ⟨h1, v, h2, h3, h4⟩ => ⟨h1, v, (hb.block b (Array.getElem?_eq_some_iff.1 h2).1).trans h2, own_below h3 hb, h4⟩
  exact h.imp (key _) (key _)

theorem strCells_line (l : List UInt8) : Lib.strCells ⟨l.toArray⟩ = l.map byteV := rfl

set_option maxRecDepth 100000 in
set_option maxHeartbeats 4000000 in
theorem journal_any (a : Option Addr) (n c : Nat) (l : List (List UInt8)) (w : World) (h : Row 1 w a n c (l.map strV)) (hn : n ≤ 60) (hs : ∀ s ∈ l, s.length ≤ 120) :
    Calls Try.prog 66 #[.slice a n c] w fun e w' => e = .returned (strV (journal l)) ∧ Below w.heap.size w w' := by
  have hln : l.length = n := by have := h.1; simpa using this
  subst hln
  have HS := Lib.hid hs
  have HR := Lib.hid h
  clear hs h
  go_enter Try.func66, Try.ntmps66
  go_wp2
  go_loopw [4, 5, 8] (fun _ _ i wr => ∃ k : Nat, k ≤ l.length ∧ i = .int .i64 k ∧ Lib.IsBuilder 104 5 w.heap.size w.heap.size ((journalFrom 0 (l.take k)).map byteV) wr ∧ Below w.heap.size w wr ∧ (k = 0 → wr.heap[w.heap.size]? = some (.cells #[.pointer none, .slice none 0 0] 104 (0, 0)))) (fun _ _ i _ => l.length - (intOf i).toNat)
  case atStart => exact ⟨0, Nat.zero_le _, rfl, Lib.fresh_isBuilder 104 5 w, (Below.refl _ w).alloc (Nat.le_refl _) _, fun _ => World.alloc_heap_new w _⟩
  case round =>
    obtain ⟨k, hk, rfl, hbd, hbw, hk0⟩ := hrel
    have HD := Lib.hid hbd
    have HB := Lib.hid hbw
    have HK := Lib.hid hk0
    clear hbd hbw hk0
    by_cases hlt : k < l.length
    · obtain ⟨b, o, rfl, hb, hc⟩ := (HR.out.mono HB.out (Nat.le_refl _)).some (by omega)
      have c0 := str_at hc k hlt
      clear hc
      have h120 := HS.out _ (List.getElem_mem hlt)
      have hjl := journalFrom_len (l.take k) 0 (fun s hs => HS.out s (List.mem_of_mem_take hs))
      rw [List.length_take] at hjl
      have hrl := record_length l[k] k
      have hjs := journalFrom_snoc l[k] (l.take k) 0
      rw [← List.take_succ_eq_append_getElem hlt, List.length_take, Nat.min_eq_left hk, Nat.zero_add] at hjs
      have HJS := Lib.hid hjs
      clear hjs
      go_wp2_with (first
        | (go_at_call 51; refine (record_any _ _ _ h120 (by omega) (by omega)).mono ?_; rintro e w1 ⟨rfl, hb1⟩)
        | (go_at_call 80; refine (WriteString_any _ _ _ _ _ (builder_kept HD.out hb1) (by simp only [List.length_map, ByteArray.size, Int.toNat_natCast, List.size_toArray]; omega) (Nat.le_trans HB.out.size hb1.size)).mono ?_; rintro e w2 ⟨rfl, hbd2, hb2⟩))
      go_roundw
      case rel =>
        refine ⟨k + 1, by omega, by go_num, ?_, (HB.out.trans (hb1.mono HB.out.size)).trans hb2, fun h => by omega⟩
        rw [strCells_line, ← List.map_append, ← HJS.out] at hbd2
        exact .inr hbd2
      case measure => simp [intOf]; omega
    · obtain rfl : k = l.length := by omega
      have hd := HD.out
      rw [List.take_length] at hd
      by_cases hl0 : l.length = 0
      · have HN := Lib.hid (HK.out hl0)
        have hj : journal l = [] := by rw [List.eq_nil_of_length_eq_zero hl0]; rfl
        clear hd
        go_wp2_with (go_at_call 81; refine (String_nil w.heap.size w.heap.size _ _ HN.out).mono ?_; rintro e w1 ⟨rfl, hb1⟩)
        go_ret
        exact ⟨ret_str (by rw [hj]), HB.out.trans hb1⟩
      · have hj : journal l ≠ [] := journalFrom_ne 0 (fun e => hl0 (by rw [e]; rfl))
        have HD2 := Lib.hid hd
        clear hd
        go_wp2_with (go_at_call 81; refine (String_any w.heap.size w.heap.size (journal l) _ HD2.out hj).mono ?_; rintro e w1 ⟨rfl, hb1⟩)
        go_ret
        exact ⟨rfl, HB.out.trans hb1⟩

set_option maxRecDepth 100000 in
set_option maxHeartbeats 4000000 in
theorem Write_any (a : Option Addr) (n c : Nat) (l : List (List UInt8)) (w : World) (h : Row 1 w a n c (l.map strV)) (hn : n ≤ 140737488355328) (hs : ∀ s ∈ l, s.length ≤ 9223372036854775807) :
    Calls Try.prog 32 #[.slice a n c] w fun e w' => e = .returned (.tuple #[strV (writeJ l).1, .int .i64 (writeJ l).2]) ∧ Below w.heap.size w w' := by
  have hln : l.length = n := by have := h.1; simpa using this
  have HS := Lib.hid hs
  have HR := Lib.hid h
  clear hs h
  by_cases h60 : (60 : Int) < (n : Int)
  · have hw : writeJ l = ([], 5) := by rw [writeJ, if_pos (by omega)]
    have HW := Lib.hid hw
    clear hw
    go_enter Try.func32, Try.ntmps32
    go_wp2
    go_ret2
    rw [HW.out]
    exact ⟨rfl, Below.refl _ _⟩
  · by_cases hb : l.any (fun s => !isLine s) = true
    · have hw : writeJ l = ([], 2) := by rw [writeJ, if_neg (by omega), if_pos hb]
      have HW := Lib.hid hw
      have HBB := Lib.hid hb
      clear hw hb
      go_enter Try.func32, Try.ntmps32
      go_wp2_with (go_at_call 63; refine (SContains_any _ _ _ _ _ HR.out hn HS.out).mono ?_; rintro e w' ⟨rfl, rfl⟩; rw [HBB.out])
      go_ret2
      rw [HW.out]
      exact ⟨rfl, Below.refl _ _⟩
    · have hb' := Bool.eq_false_iff.2 hb
      have hw : writeJ l = (journal l, 0) := by rw [writeJ, if_neg (by omega), if_neg hb]
      have hall : ∀ s ∈ l, s.length ≤ 120 := by
        intro s hs
        have := List.any_eq_false.1 hb' s hs
        simp only [isLine, Bool.not_eq_true', Bool.not_eq_false] at this
        simp only [Bool.and_eq_true, decide_eq_true_eq] at this
        exact this.1.2
      have HW := Lib.hid hw
      have HBB := Lib.hid hb'
      have HALL := Lib.hid hall
      clear hw hb hb' hall
      go_enter Try.func32, Try.ntmps32
      go_wp2_with (first
        | (go_at_call 63; refine (SContains_any _ _ _ _ _ HR.out hn HS.out).mono ?_; rintro e w' ⟨rfl, rfl⟩; rw [HBB.out])
        | (go_at_call 66; refine (journal_any _ _ _ _ _ HR.out (by omega) HALL.out).mono ?_; rintro e w1 ⟨rfl, hb1⟩))
      go_ret2
      rw [HW.out]
      exact ⟨rfl, hb1⟩

set_option maxRecDepth 100000 in
set_option maxHeartbeats 4000000 in
theorem RWrite_any (a : Option Addr) (n c : Nat) (l : List (List UInt8)) (w : World) (h : Row 1 w a n c (l.map strV)) (hn : n ≤ 140737488355328) (hs : ∀ s ∈ l, s.length ≤ 9223372036854775807) :
    Calls Try.prog 33 #[.slice a n c] w fun e w' => e = .returned (.tuple #[strV (writeJ l).1, .int .i64 (writeJ l).2]) ∧ Below w.heap.size w w' := by
  have hln : l.length = n := by have := h.1; simpa using this
  have HS := Lib.hid hs
  have HR := Lib.hid h
  clear hs h
  by_cases h60 : (60 : Int) < (n : Int)
  · have hw : writeJ l = ([], 5) := by rw [writeJ, if_pos (by omega)]
    have HW := Lib.hid hw
    clear hw
    go_enter Try.func33, Try.ntmps33
    go_wp2
    go_ret2
    rw [HW.out]
    exact ⟨rfl, Below.refl _ _⟩
  · subst hln
    go_enter Try.func33, Try.ntmps33
    go_wp2
    go_loopw [4, 5, 6, 7] (fun s i _ _ wr => ∃ k : Nat, k ≤ l.length ∧ i = .int .i64 k ∧ s = strV (journalFrom 0 (l.take k)) ∧ (∀ x ∈ l.take k, isLine x = true) ∧ Below w.heap.size w wr) (fun _ i _ _ _ => l.length - (intOf i).toNat)
    case atStart => exact ⟨0, Nat.zero_le _, rfl, rfl, (fun x hx => by simp at hx), Below.refl _ _⟩
    case round =>
      obtain ⟨k, hk, rfl, rfl, hall, hbw⟩ := hrel
      have HB := Lib.hid hbw
      have HA := Lib.hid hall
      clear hbw hall
      by_cases hlt : k < l.length
      · obtain ⟨b, o, rfl, hb, hc⟩ := (HR.out.mono HB.out (Nat.le_refl _)).some (by omega)
        have c0 := str_at hc k hlt
        clear hc
        have hsl := HS.out _ (List.getElem_mem hlt)
        have hck := check_num (l := l[k]) (num := k) (by omega)
        by_cases hv : isLine l[k] = true
        · rw [if_pos hv] at hck
          have HC := Lib.hid hck
          have HV := Lib.hid hv
          have h120 : l[k].length ≤ 120 := by simp only [isLine, Bool.and_eq_true, decide_eq_true_eq] at hv; exact hv.1.2
          clear hck hv
          have hjl := journalFrom_len (l.take k) 0 (fun s hs => by have := HA.out s hs; simp only [isLine, Bool.and_eq_true, decide_eq_true_eq] at this; exact this.1.2)
          rw [List.length_take] at hjl
          have hrl := record_length l[k] k
          have hjs := journalFrom_snoc l[k] (l.take k) 0
          rw [← List.take_succ_eq_append_getElem hlt, List.length_take, Nat.min_eq_left hk, Nat.zero_add] at hjs
          have HJS := Lib.hid hjs
          clear hjs
          have hres : ¬ 9223372036854775807 < (journalFrom 0 (l.take k)).length + (l[k].length + 9) := by omega
          go_wp2_with (go_at_call 20; refine (RRecord_ok _ _ _ hsl HC.out).mono ?_; rintro e w1 ⟨rfl, hb1⟩; simp only [Int.toNat_natCast])
          go_roundw
          case rel =>
            refine ⟨k + 1, by omega, by go_num, by rw [HJS.out], fun x hx => ?_, HB.out.trans (hb1.mono HB.out.size)⟩
            rw [List.take_succ_eq_append_getElem hlt] at hx
            rcases List.mem_append.1 hx with h | h
            · exact HA.out x h
            · rw [List.mem_singleton.1 h]; exact HV.out
          case measure => simp [intOf]; omega
        · rw [if_neg hv] at hck
          have HC := Lib.hid hck
          have hw : writeJ l = ([], 2) := by
            rw [writeJ, if_neg (by omega), if_pos]
            exact List.any_eq_true.2 ⟨l[k], List.getElem_mem hlt, by simpa using hv⟩
          have HW := Lib.hid hw
          clear hck hv hw
          go_wp2_with (go_at_call 20; refine (RRecord_err _ _ _ _ hsl HC.out rfl).mono ?_; rintro e w1 ⟨rfl, rfl⟩)
          go_ret2
          rw [HW.out]
          exact ⟨rfl, HB.out⟩
      · obtain rfl : k = l.length := by omega
        have hw : writeJ l = (journal l, 0) := by
          rw [writeJ, if_neg (by omega), if_neg]
          · intro hx
            obtain ⟨x, hx1, hx2⟩ := List.any_eq_true.1 hx
            have := HA.out x (by rw [List.take_length]; exact hx1)
            rw [this] at hx2
            cases hx2
        have HW := Lib.hid hw
        clear hw
        go_wp2
        go_ret2
        rw [HW.out, List.take_length]
        exact ⟨rfl, HB.out⟩
end Go.Proofs.Ytphalijdanmkeaa
