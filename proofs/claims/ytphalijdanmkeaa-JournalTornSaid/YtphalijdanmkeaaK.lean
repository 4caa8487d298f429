/- Walks: lists of lines compared. -/
import Derived.Test.YtphalijdanmkeaaI
import Derived.Deep.QuietTactic
import Derived.BigQuiet
namespace Go.Proofs.Ytphalijdanmkeaa
open Go.RowKit J

theorem strs_at {w : World} {b o : Nat} {l : List (List UInt8)} (h : ∀ i (h : i < (l.map strV).length), w.cell? ⟨b, o + i, none⟩ = some (l.map strV)[i]) (k : Nat) (hk : k < l.length) : w.cell? ⟨b, o + k, none⟩ = some (strV l[k]) := by
  have := h k (by simpa using hk)
  simpa using this

theorem below_drewN (B : Nat) (w : World) (n : Nat) : Below B w (w.drewN n) := ⟨rfl, rfl, rfl, Nat.le_refl _, fun _ _ => rfl⟩

theorem take_eq_succ {α : Type} {l k : List α} {i : Nat} (h : l.take i = k.take i) (hl : i < l.length) (hk : i < k.length) (e : l[i] = k[i]) : l.take (i + 1) = k.take (i + 1) := by
  rw [List.take_succ_eq_append_getElem hl, List.take_succ_eq_append_getElem hk, h, e]

theorem Lines_any (a b : Option Addr) (n c m d : Nat) (l k : List (List UInt8)) (w : World) (hn : n ≤ 140737488355328) (hm : m ≤ 140737488355328) (h : Row 1 w a n c (l.map strV)) (h' : Row 1 w b m d (k.map strV)) :
    Calls Try.prog 29 #[.slice a n c, .slice b m d] w fun e w' => e = .returned (.bool (l == k)) ∧ Below w.heap.size w w' := by
  have e1 : l.length = n := by have := h.1; simpa using this
  have e2 : k.length = m := by have := h'.1; simpa using this
  subst e1 e2
  have HR := Lib.hid h
  have HR' := Lib.hid h'
  clear h h'
  by_cases hne : l.length = k.length
  · have hb : ((l.length : Int) != (k.length : Int)) = false := by simp [hne]
    have HE := Lib.hid hne
    have HE1 : l.length ≤ k.length := by omega
    have HE2 : k.length ≤ l.length := by omega
    clear hne
    go_enter Try.func29, Try.ntmps29
    go_wp2
    go_loopw [5] (fun i wr => ∃ j : Nat, j ≤ l.length ∧ i = .int .i64 j ∧ l.take j = k.take j ∧ Below w.heap.size w wr) (fun i _ => l.length - (intOf i).toNat)
    case atStart => exact ⟨0, Nat.zero_le _, rfl, rfl, Below.refl _ _⟩
    case round =>
      obtain ⟨j, hj, rfl, ht, hbw⟩ := hrel
      have HT := Lib.hid ht
      have HB := Lib.hid hbw
      clear ht hbw
      by_cases hlt : j < l.length
      · obtain ⟨b1, o1, rfl, hb1, hc1⟩ := (HR.out.mono HB.out (Nat.le_refl _)).some (by omega)
        obtain ⟨b2, o2, rfl, hb2, hc2⟩ := (HR'.out.mono HB.out (Nat.le_refl _)).some (by omega)
        have x1 := strs_at hc1 j hlt
        have x2 := strs_at hc2 j (by omega)
        have hltk : j < k.length := by omega
        clear hc1 hc2
        by_cases he : l[j] = k[j]
        · have he' : (l[j] == k[j]) = true := by simpa using he
          have HH := Lib.hid he
          clear he
          go_wp2
          go_quiet (fail)
          go_wp2
          go_roundw
          case rel => exact ⟨j + 1, by omega, by go_num, take_eq_succ HT.out hlt hltk HH.out, HB.out.trans (below_drewN _ _ _)⟩
          case measure => simp [intOf]; omega
        · have he' : (l[j] == k[j]) = false := by simpa using he
          have HH := Lib.hid he
          clear he
          go_wp2
          go_quiet (fail)
          go_wp2
          go_ret
          refine ⟨ret_bool ?_, HB.out.trans (below_drewN _ _ _)⟩
          have : ¬ l = k := fun h => HH.out (by simp only [h])
          simp [this]
      · obtain rfl : j = l.length := by omega
        go_wp2
        go_ret
        refine ⟨ret_bool ?_, HB.out⟩
        have := HT.out
        rw [List.take_length, HE.out, List.take_length] at this
        simp [this]
  · have hb : ((l.length : Int) != (k.length : Int)) = true := by rw [bne_iff_ne]; omega
    have HE := Lib.hid hne
    clear hne
    go_enter Try.func29, Try.ntmps29
    go_wp2
    go_ret
    refine ⟨ret_bool ?_, Below.refl _ _⟩
    have : ¬ l = k := fun h => HE.out (by rw [h])
    simp [this]
end Go.Proofs.Ytphalijdanmkeaa
