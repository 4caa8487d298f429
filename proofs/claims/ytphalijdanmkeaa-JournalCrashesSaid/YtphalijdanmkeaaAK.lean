/- The reference: whether writes fit a device. -/
import Derived.Test.YtphalijdanmkeaaAJ
namespace Go.Proofs.Ytphalijdanmkeaa
open Go.RowKit Go.Shelf J

set_option maxRecDepth 100000 in
set_option maxHeartbeats 4000000 in
theorem RWrites_any (a a2 : Option Addr) (m c c2 : Nat) (b : List UInt8) (l : List (Int × List UInt8)) (w : World) (hm : m ≤ 140737488355328) (hl : l.length ≤ 140737488355328) (hbl : b.length = m) (h : Writes w a2 c2 l) :
    Calls Try.prog 71 #[.slice a m c, .slice a2 l.length c2] w fun e w' => e = .returned (.int .i64 (checkW b l)) ∧ w = w' := by
  have HR := Lib.hid h
  have HBL := Lib.hid hbl
  clear h
  by_cases hf : formed b = true
  · have HF := Lib.hid hf
    have hck : ∀ x, l.all (fits m) = x → checkW b l = if x then 0 else 2 := by
      intro x hx
      rw [checkW, if_neg (by simp [hf]), hbl, hx]
    have HCK := Lib.hid hck
    clear hf hck
    go_enter Try.func71, Try.ntmps71
    go_wp2_with (go_at_call 62; refine (IsDevice_any _ _ _ b _ HBL.out hm).mono ?_; rintro e w1 ⟨rfl, rfl⟩; rw [HF.out])
    go_loop [5] (fun i => ∃ k : Nat, k ≤ l.length ∧ i = .int .i64 k ∧ (l.take k).all (fits m) = true) (fun i => l.length - (intOf i).toNat)
    case atStart => exact ⟨0, Nat.zero_le _, rfl, by simp⟩
    case round =>
      obtain ⟨k, hk, rfl, hall⟩ := hrel
      have HA := Lib.hid hall
      clear hall
      by_cases hlt : k < l.length
      · obtain ⟨bb, oo, rfl, hbb, hcc⟩ := HR.out.at (by omega)
        obtain ⟨x1, a3, c3, x2, r2⟩ := hcc k hlt
        have hfe := fits_eq m l[k].1 l[k].2
        have hsn : (l.take (k + 1)).all (fits m) = fits m l[k] := by
          rw [List.take_succ_eq_append_getElem hlt, List.all_append, HA.out]
          simp
        have HFE := Lib.hid hfe
        have HSN := Lib.hid hsn
        have hbad : fits m l[k] = false → checkW b l = 2 := fun hx => by
          rw [HCK.out false (List.all_eq_false.2 ⟨l[k], List.getElem_mem hlt, by rw [hx]; simp⟩)]
          rfl
        have HBAD := Lib.hid hbad
        clear hcc r2 hfe hsn hbad
        by_cases t1 : l[k].1 < 0
        · go_wp2
          go_ret
          exact ⟨ret_int (HBAD.out (by simp only [fits]; rw [decide_eq_false (by omega)]; rfl)).symm, rfl⟩
        · by_cases t2 : (m : Int) / 32 ≤ l[k].1
          · go_wp2
            go_ret
            exact ⟨ret_int (HBAD.out (by simp only [fits]; rw [decide_eq_false (show ¬ l[k].1 < ((m / 32 : Nat) : Int) by omega)]; simp)).symm, rfl⟩
          · by_cases t3 : l[k].2.length = 32
            · have t3' : ((l[k].2.length : Int) != 32) = false := by simp [t3]
              have hft : fits m l[k] = true := by simp only [fits]; rw [decide_eq_true (show 0 ≤ l[k].1 by omega), decide_eq_true (show l[k].1 < ((m / 32 : Nat) : Int) by omega), decide_eq_true t3]; rfl
              have HFT := Lib.hid hft
              clear hft
              go_wp2
              go_round
              case rel => exact ⟨k + 1, by omega, by go_num, by rw [HSN.out, HFT.out]⟩
              case measure => simp [intOf]; omega
            · have t3' : ((l[k].2.length : Int) != 32) = true := by rw [bne_iff_ne]; omega
              go_wp2
              go_ret
              exact ⟨ret_int (HBAD.out (by simp only [fits]; rw [decide_eq_false t3]; simp)).symm, rfl⟩
      · obtain rfl : k = l.length := by omega
        go_wp2
        go_ret
        refine ⟨ret_int ?_, rfl⟩
        have := HA.out
        rw [List.take_length] at this
        rw [HCK.out true this]
        rfl
  · have hf' := Bool.eq_false_iff.2 hf
    have hck : checkW b l = 4 := by rw [checkW, if_pos hf']
    have HF := Lib.hid hf'
    have HCK := Lib.hid hck
    clear hf hf' hck
    go_enter Try.func71, Try.ntmps71
    go_wp2_with (go_at_call 62; refine (IsDevice_any _ _ _ b _ HBL.out hm).mono ?_; rintro e w1 ⟨rfl, rfl⟩; rw [HF.out])
    go_ret
    exact ⟨ret_int HCK.out.symm, rfl⟩
end Go.Proofs.Ytphalijdanmkeaa
