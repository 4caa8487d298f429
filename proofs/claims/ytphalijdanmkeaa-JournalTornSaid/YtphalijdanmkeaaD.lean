/- Walks of small functions on slices. -/
import Derived.Test.YtphalijdanmkeaaC
namespace Go.Proofs.Ytphalijdanmkeaa
open Go.RowKit J

/-- a slice in new memory that holds these cells is handed back; nothing that was there has turned -/
def RetOwn (w : World) (t : TypeId) (k n : Nat) (xs : List Value) (e : Ending) (w' : World) : Prop :=
  ∃ a c, e = .returned (.slice a n c) ∧ w'.ownsRow w.heap.size t k (.slice a n c) n xs ∧ Below w.heap.size w w'

theorem own_any (a : Option Addr) (n c : Nat) (l : List UInt8) (w : World) (h : Row 1 w a n c (l.map byteV)) (hn : n ≤ 140737488355328) :
    Calls Try.prog 21 #[.slice a n c] w (RetOwn w 5 1 n (l.map byteV)) := by
  go_enter Try.func21, Try.ntmps21
  go_wp2_with (at_builtin; refine append_bytes rfl (.tmp 3) (.tmp 4) 22 rfl Try.underlying22 w.heap.size (.slice (some ⟨w.heap.size, 0, none⟩) 0 0) 0 [] rfl (World.ownsRow_made w #[] 0 (Nat.le_refl _) (by decide) rfl) a n c l rfl (h.mono ((Below.refl _ w).alloc (Nat.le_refl _) _) (Nat.le_refl _)) (by omega) (by simp) ?_; intro a1 c1 w1 ho1 hg1)
  go_ret
  exact ⟨a1, c1, rfl, by simpa using ho1, ((Below.refl _ w).alloc (Nat.le_refl _) _).grown hg1 (by simp) (fun k e => by cases e; exact Nat.le_refl _)⟩

theorem Clone_any (a : Option Addr) (n c : Nat) (l : List UInt8) (w : World) (h : Row 1 w a n c (l.map byteV)) (hn : n ≤ 140737488355328) :
    Calls Try.prog 68 #[.slice a n c] w (RetOwn w 5 1 n (l.map byteV)) := by
  have q : ∀ (w : World) (a : Option Addr) (n c n' c' : Nat), (binOp .eql 22 (.slice a n c) (.slice none n' c')).run Try.prog w = .ok (.bool a.isNone) w := fun w a n c n' c' => Lib.run_eql_slice_nil w _ _ a n c n' c' Try.underlying22
  cases a with
  | none =>
    obtain rfl := h.2.2.1 rfl
    have hh := h.2.1
    obtain rfl : n = 0 := by omega
    have hl := Lib.hid h.1
    go_enter Try.func68, Try.ntmps68
    go_wp2
    go_ret
    have hl' : l.map byteV = [] := List.eq_nil_of_length_eq_zero (by simpa using hl.out)
    exact ⟨none, 0, rfl, by rw [hl']; exact World.ownsRow_nil _ _ _ _, Below.refl _ _⟩
  | some ad =>
    go_enter Try.func68, Try.ntmps68
    go_wp2_with (at_builtin; refine append_bytes rfl (.tmp 5) (.tmp 6) 22 rfl Try.underlying22 w.heap.size (.slice (some ⟨w.heap.size, 0, none⟩) 0 0) 0 [] rfl (World.ownsRow_made w #[] 0 (Nat.le_refl _) (by decide) rfl) (some ad) n c l rfl (h.mono ((Below.refl _ w).alloc (Nat.le_refl _) _) (Nat.le_refl _)) (by omega) (by simp) ?_; intro a1 c1 w1 ho1 hg1)
    go_ret
    exact ⟨a1, c1, rfl, by simpa using ho1, ((Below.refl _ w).alloc (Nat.le_refl _) _).grown hg1 (by simp) (fun k e => by cases e; exact Nat.le_refl _)⟩

theorem Equal_any (a b : Option Addr) (n c m d : Nat) (l k : List UInt8) (w : World) (h : Row 1 w a n c (l.map byteV)) (h' : Row 1 w b m d (k.map byteV)) :
    Calls Try.prog 77 #[.slice a n c, .slice b m d] w fun e w' => e = .returned (.bool (l == k)) ∧ w = w' := by
  have c1 := run_conv (P := Try.prog) h 22 9 5 Try.underlying22 Try.underlying5 Try.underlying9
  have c2 := run_conv (P := Try.prog) h' 22 9 5 Try.underlying22 Try.underlying5 Try.underlying9
  go_enter Try.func77, Try.ntmps77
  go_wp2
  go_ret
  exact ⟨ret_bool (by simp), rfl⟩

theorem formed_any (a : Option Addr) (n c : Nat) (l : List UInt8) (w : World) (hl : l.length = n) (hn : n ≤ 140737488355328) :
    Calls Try.prog 55 #[.slice a n c] w fun e w' => e = .returned (.bool (formed l)) ∧ w = w' := by
  subst hl
  by_cases h : (l.length : Int) % 32 = 0
  · have hb : ((l.length : Int) % 32 == 0) = true := by simpa using h
    clear h
    go_enter Try.func55, Try.ntmps55
    go_wp2_with (go_at_call 48; refine (within_any _ _ _ _).mono ?_; rintro e w' ⟨rfl, rfl⟩)
    go_ret
    refine ⟨ret_bool ?_, rfl⟩
    simp only [formed]
    rw [show decide (l.length % 32 = 0) = true from decide_eq_true (by have := of_decide_eq_true hb; omega), Bool.true_and]
    congr 1 <;> exact decide_eq_decide.2 (by omega)
  · have hb : ((l.length : Int) % 32 == 0) = false := by simpa using h
    go_enter Try.func55, Try.ntmps55
    go_wp2
    go_ret
    refine ⟨ret_bool ?_, rfl⟩
    simp only [formed]
    rw [show decide (l.length % 32 = 0) = false from decide_eq_false (by omega), Bool.false_and]

theorem formed_eq (l : List UInt8) : formed l = (decide (0 < l.length) && decide (l.length ≤ 8000) && decide (l.length % 32 = 0)) := by
  simp only [formed, ← Bool.decide_and]
  exact decide_eq_decide.2 (by omega)

theorem IsDevice_any (a : Option Addr) (n c : Nat) (l : List UInt8) (w : World) (hl : l.length = n) (hn : n ≤ 140737488355328) :
    Calls Try.prog 62 #[.slice a n c] w fun e w' => e = .returned (.bool (formed l)) ∧ w = w' := by
  subst hl
  by_cases h0 : (0 : Int) < (l.length : Int)
  · by_cases h1 : (l.length : Int) ≤ 8000
    · go_enter Try.func62, Try.ntmps62
      go_wp2
      go_ret
      refine ⟨ret_bool ?_, rfl⟩
      rw [formed_eq, decide_eq_true (show 0 < l.length by omega), decide_eq_true (show l.length ≤ 8000 by omega), Bool.true_and, Bool.true_and]
      show ((l.length : Int) % 32 == 0) = _
      rw [Bool.eq_iff_iff]
      simp
      omega
    · have h1' : decide ((l.length : Int) ≤ 8000) = false := by simpa using h1
      go_enter Try.func62, Try.ntmps62
      go_wp2
      go_ret
      refine ⟨ret_bool ?_, rfl⟩
      rw [formed_eq, decide_eq_false (show ¬ l.length ≤ 8000 by omega)]
      simp
  · have h0' : decide ((0 : Int) < (l.length : Int)) = false := by simpa using h0
    go_enter Try.func62, Try.ntmps62
    go_wp2
    go_ret
    refine ⟨ret_bool ?_, rfl⟩
    rw [formed_eq, decide_eq_false (show ¬ 0 < l.length by omega)]
    simp

theorem room_any (a : Option Addr) (n c : Nat) (lines gd : Int) (w : World) (hn : n ≤ 140737488355328) (h0 : 0 ≤ lines) (h1 : lines ≤ 60) (g0 : 0 ≤ gd) (g1 : gd ≤ 140737488355328) :
    Calls Try.prog 57 #[.slice a n c, .int .i64 lines, .int .i64 gd] w fun e w' => e = .returned (.int .i64 (room n lines.toNat gd.toNat : Int)) ∧ w = w' := by
  by_cases h : lines = 60
  · subst h
    go_enter Try.func57, Try.ntmps57
    go_wp2
    go_ret
    exact ⟨ret_int (by simp [room]), rfl⟩
  · have hb : (lines == 60) = false := by simpa using h
    have key : ∀ r : Int, ((120 < (n : Int) - gd - 9 ∧ r = 120) ∨ ((n : Int) - gd - 9 ≤ 120 ∧ 0 < (n : Int) - gd - 9 ∧ r = (n : Int) - gd - 9) ∨ ((n : Int) - gd - 9 ≤ 0 ∧ r = 0)) → r = (room n lines.toNat gd.toNat : Int) := by
      intro r hr
      simp only [room]
      rw [if_neg (by omega)]
      omega
    have KEY := Lib.hid key
    clear key h
    by_cases x1 : 120 < (n : Int) - gd - 9
    · go_enter Try.func57, Try.ntmps57
      go_wp2
      go_ret
      exact ⟨ret_int (KEY.out _ (.inl ⟨x1, rfl⟩)), rfl⟩
    · have x1' : (n : Int) - gd - 9 ≤ 120 := by omega
      clear x1
      by_cases x2 : 0 < (n : Int) - gd - 9
      · go_enter Try.func57, Try.ntmps57
        go_wp2
        go_ret
        exact ⟨ret_int (KEY.out _ (.inr (.inl ⟨x1', x2, rfl⟩))), rfl⟩
      · have x2' : (n : Int) - gd - 9 ≤ 0 := by omega
        clear x2
        go_enter Try.func57, Try.ntmps57
        go_wp2
        go_ret
        exact ⟨ret_int (KEY.out _ (.inr (.inr ⟨x2', rfl⟩))), rfl⟩

theorem length_any (a : Option Addr) (n c : Nat) (l : List UInt8) (w : World) (h : Row 1 w a n c (l.map byteV)) :
    Calls Try.prog 84 #[.slice a n c] w fun e w' => e = .returned (.int .i64 (lengthL l : Int)) ∧ w = w' := by
  have hR := h
  obtain ⟨h1, h2, h3, h4⟩ := h
  simp at h1
  subst h1
  by_cases h8 : l.length < 8
  · go_enter Try.func84, Try.ntmps84
    go_wp2
    go_ret
    refine ⟨?_, rfl⟩
    rcases l with _ | ⟨_, _ | ⟨_, _ | ⟨_, _ | ⟨_, _ | ⟨_, _ | ⟨_, _ | ⟨_, _ | ⟨_, _⟩⟩⟩⟩⟩⟩⟩⟩ <;> first | rfl | (simp at h8; omega)
  · obtain ⟨b, o, rfl, hb, hc⟩ := hR.some (by omega)
    obtain ⟨x, y, p, q, r, u, v, z, m, rfl⟩ : ∃ x y p q r u v z m, l = x :: y :: p :: q :: r :: u :: v :: z :: m := by
      rcases l with _ | ⟨_, _ | ⟨_, _ | ⟨_, _ | ⟨_, _ | ⟨_, _ | ⟨_, _ | ⟨_, _ | ⟨_, _⟩⟩⟩⟩⟩⟩⟩⟩
      iterate 8 simp at h8
      exact ⟨_, _, _, _, _, _, _, _, _, rfl⟩
    have c0 := hc 2 (by simp)
    have c1 := hc 3 (by simp)
    have c2 := hc 4 (by simp)
    simp [byteV] at c0 c1 c2
    have bp := p.toNat_lt
    have bq := q.toNat_lt
    have br := r.toNat_lt
    have hlen : ((x :: y :: p :: q :: r :: u :: v :: z :: m).length : Int) < 9223372036854775807 → True := fun _ => trivial
    obtain ⟨L, hL⟩ : ∃ L, L = lengthL (x :: y :: p :: q :: r :: u :: v :: z :: m) := ⟨_, rfl⟩
    rw [← hL]
    simp only [lengthL] at hL
    have HL := Lib.hid hL
    clear hc hb h4 hR h3 hL hlen
    generalize hP : (p.toNat : Int) = P at *
    generalize hQ : (q.toNat : Int) = Q at *
    generalize hR : (r.toNat : Int) = R at *
    have hP0 : 0 ≤ P ∧ P < 256 := by omega
    have hQ0 : 0 ≤ Q ∧ Q < 256 := by omega
    have hR0 : 0 ≤ R ∧ R < 256 := by omega
    have HP := Lib.hid hP
    have HQ := Lib.hid hQ
    have HR := Lib.hid hR
    clear hP hQ hR
    go_enter Try.func84, Try.ntmps84
    go_wp2
    refine wp_loop_rounds 4 ?_
    repeat any_goals (rw [rounds_succ]; go_wp2_with (go_at_call 48; refine (within_any _ _ _ _).mono ?_; rintro e w' ⟨rfl, rfl⟩))
    all_goals go_ret
    all_goals
      refine ⟨ret_int ?_, rfl⟩
      have e1 := HP.out
      have e2 := HQ.out
      have e3 := HR.out
      have e4 := HL.out
      clear HP HQ HR HL c0 c1 c2
      simp only [Bool.not_eq_true', Bool.not_eq_false', decide_eq_true_eq, decide_eq_false_iff_not] at *
      rw [e4]
      split <;> omega
end Go.Proofs.Ytphalijdanmkeaa
