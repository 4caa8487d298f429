/- Whether writes fit a device: the walk of check. -/
import Derived.Test.YtphalijdanmkeaaAF
namespace Go.Proofs.Ytphalijdanmkeaa
open Go.RowKit Go.Shelf J

set_option maxRecDepth 100000 in
set_option maxHeartbeats 4000000 in
theorem checkW_any (a a2 : Option Addr) (m c c2 : Nat) (b : List UInt8) (l : List (Int × List UInt8)) (w : World) (hm : m ≤ 140737488355328) (hl : l.length ≤ 140737488355328) (hbl : b.length = m) (h : Writes w a2 c2 l) :
    Calls Try.prog 69 #[.slice a m c, .slice a2 l.length c2] w fun e w' => e = .returned (.int .i64 (checkW b l)) ∧ Below w.heap.size w w' := by
  have HR := Lib.hid h
  have HBL := Lib.hid hbl
  clear h
  by_cases hf : formed b = true
  · have HF := Lib.hid hf
    have hck : ∀ x, l.all (fits m) = x → checkW b l = if x then 0 else 2 := by
      intro x hx
      rw [checkW, if_neg (by simp [hf]), hbl, hx]
    have HCK := Lib.hid hck
    clear hf hck
    go_enter Try.func69, Try.ntmps69
    go_wp2_with (go_at_call 55; refine (formed_any _ _ _ b _ HBL.out hm).mono ?_; rintro e w1 ⟨rfl, rfl⟩; rw [HF.out])
    go_loopw [6, 12] (fun _ i wr => ∃ k : Nat, k ≤ l.length ∧ i = .int .i64 k ∧ (l.take k).all (fits m) = true ∧ Below w.heap.size w wr) (fun _ i _ => l.length - (intOf i).toNat)
    case atStart => exact ⟨0, Nat.zero_le _, rfl, by simp, Below.refl _ _⟩
    case round =>
      obtain ⟨k, hk, rfl, hall, hbw⟩ := hrel
      have HA := Lib.hid hall
      have HB := Lib.hid hbw
      clear hall hbw
      by_cases hlt : k < l.length
      · obtain ⟨bb, oo, rfl, hbb, hcc⟩ := (HR.out.mono HB.out (Nat.le_refl _)).at (by omega)
        obtain ⟨x1, a3, c3, x2, r2⟩ := hcc k hlt
        have hfe := fits_eq m l[k].1 l[k].2
        have hsn : (l.take (k + 1)).all (fits m) = fits m l[k] := by
          rw [List.take_succ_eq_append_getElem hlt, List.all_append, HA.out]
          simp
        have HFE := Lib.hid hfe
        have HSN := Lib.hid hsn
        clear hcc r2 hfe hsn
        by_cases hfit : fits m l[k] = true
        · have HFT := Lib.hid hfit
          clear hfit
          go_wp2_with (go_at_call 82; refine (fits_any _ _ _ _ _ _ _ _ hm).mono ?_; rintro e w2 ⟨rfl, hb2⟩; rw [HFE.out]; rw [HFT.out])
          go_roundw
          case rel => exact ⟨k + 1, by omega, by go_num, by rw [HSN.out, HFT.out], (HB.out.alloc HB.out.size _).trans (hb2.mono (by simp only [World.size_alloc]; have := HB.out.size; omega))⟩
          case measure => simp [intOf]; omega
        · have hfit' := Bool.eq_false_iff.2 hfit
          have HFT := Lib.hid hfit'
          clear hfit hfit'
          go_wp2_with (go_at_call 82; refine (fits_any _ _ _ _ _ _ _ _ hm).mono ?_; rintro e w2 ⟨rfl, hb2⟩; rw [HFE.out]; rw [HFT.out])
          go_ret
          refine ⟨ret_int ?_, (HB.out.alloc HB.out.size _).trans (hb2.mono (by simp only [World.size_alloc]; have := HB.out.size; omega))⟩
          rw [HCK.out false (List.all_eq_false.2 ⟨l[k], List.getElem_mem hlt, by rw [HFT.out]; simp⟩)]
          rfl
      · obtain rfl : k = l.length := by omega
        go_wp2
        go_ret
        refine ⟨ret_int ?_, HB.out⟩
        have := HA.out
        rw [List.take_length] at this
        rw [HCK.out true this]
        rfl
  · have hf' := Bool.eq_false_iff.2 hf
    have hck : checkW b l = 4 := by rw [checkW, if_pos hf']
    have HF := Lib.hid hf'
    have HCK := Lib.hid hck
    clear hf hf' hck
    go_enter Try.func69, Try.ntmps69
    go_wp2_with (go_at_call 55; refine (formed_any _ _ _ b _ HBL.out hm).mono ?_; rintro e w1 ⟨rfl, rfl⟩; rw [HF.out])
    go_ret
    exact ⟨ret_int HCK.out.symm, Below.refl _ _⟩
end Go.Proofs.Ytphalijdanmkeaa
