/- Append. -/
import Derived.Test.YtphalijdanmkeaaN
import Derived.Deep.QuietTactic
import Derived.BigQuiet
namespace Go.Proofs.Ytphalijdanmkeaa
open Go.RowKit Go.Shelf J

/-- what must be written so that a line is the next one, and the error -/
def J.appendJ (b line : List UInt8) : List (Int × List UInt8) × Int :=
  if checkD b ≠ 0 then ([], checkD b) else if isLine line = false then ([], 2) else if room b.length (read b).length (good (read b)) < line.length then ([], 8)
  else (toD b (b.take (good (read b)) ++ record line (read b).length), 0)

/-- writes and an error, in new memory -/
def RetWrE (w : World) (bs : List (Int × List UInt8)) (x : Int) (e : Ending) (w' : World) : Prop :=
  ∃ a c xs, e = .returned (.tuple #[.slice a bs.length c, .int .i64 x]) ∧ w'.ownsRow w.heap.size 58 2 (.slice a bs.length c) bs.length xs ∧ WrO w.heap.size w' xs bs ∧ Below w.heap.size w w'
theorem RetWrE.none {w w' : World} {bs : List (Int × List UInt8)} {x y : Int} (hbs : bs = []) (hx : y = x) (hb : Below w.heap.size w w') : RetWrE w bs x (.returned (.tuple #[.slice none 0 0, .int .i64 y])) w' := by
  subst hbs hx
  exact ⟨_, _, [], rfl, World.ownsRow_nil _ _ _ _, trivial, hb⟩

theorem WrO.weaken {B B' : Nat} {W : World} (hB : B ≤ B') : ∀ {xs : List Value} {bs : List (Int × List UInt8)}, WrO B' W xs bs → WrO B W xs bs
  | [], [], _ => trivial
  | _ :: _ :: _, (_, _) :: _, ⟨h1, h2, h3⟩ => ⟨h1, ownsRow_weaken h2 hB, WrO.weaken hB h3⟩
theorem record_length (l : List UInt8) (n : Nat) : (record l n).length = l.length + 9 := by
  simp [record, digits_length]
  omega

set_option maxRecDepth 100000 in
set_option maxHeartbeats 2000000 in
theorem Append_any (a : Option Addr) (m c : Nat) (b line : List UInt8) (w : World) (hm : m ≤ 140737488355328) (hl : line.length ≤ 9223372036854775807) (h : Row 1 w a m c (b.map byteV)) :
    Calls Try.prog 36 #[.slice a m c, strV line] w (RetWrE w (appendJ b line).1 (appendJ b line).2) := by
  have hmo : Try.prog.follows .mixedOrders = true := by kernel_rfl
  have hbl : b.length = m := by simpa using h.1
  have HR := Lib.hid h
  have HBL := Lib.hid hbl
  clear h hbl
  by_cases hc : checkD b = 0
  · have hcl := checkD_len (b := b) (by omega)
    have hlen := read_len b
    have hgd := read_good b
    by_cases hv : isLine line = true
    · have hli : line.length ≤ 120 := by simp only [isLine, Bool.and_eq_true, decide_eq_true_eq] at hv; exact hv.1.2
      by_cases hr : room b.length (read b).length (good (read b)) < line.length
      · have hap : appendJ b line = ([], 8) := by simp [appendJ, hc, hv, hr]
        have hrb : room m (read b).length (good (read b)) < line.length := by rw [HBL.out] at hr; exact hr
        have hgm : good (read b) ≤ 140737488355328 := by have := HBL.out; omega
        have HAP := Lib.hid hap
        have HC := Lib.hid hc
        have HV := Lib.hid hv
        have HL := Lib.hid hcl
        clear hap hc hv hr hcl
        go_enter Try.func36, Try.ntmps36
        go_wp2_with (first | (go_at_call 23; refine (Check_any _ _ _ _ _ hm HR.out).mono ?_; rintro e w1 ⟨rfl, hb1⟩; rw [HC.out]) | (go_at_call 54; refine (read_any' _ _ _ _ _ hm (HR.out.mono hb1 (Nat.le_refl _))).mono ?_; rintro e w2 ⟨a2, c2, rfl, ho2, hb2⟩) | (go_at_call 65; refine (valid_any _ _ hl).mono ?_; rintro e w3 ⟨rfl, rfl⟩; rw [HV.out]) | (go_at_call 57; refine (room_any _ _ _ _ _ _ hm (by omega) (by omega) (by omega) (by omega)).mono ?_; rintro e w3 ⟨rfl, rfl⟩; simp only [Int.toNat_natCast]))
        go_ret2
        rw [HAP.out]
        exact RetWrE.none rfl rfl (hb1.trans (hb2.mono hb1.size))
      · have hap : appendJ b line = (toD b (b.take (good (read b)) ++ record line (read b).length), 0) := by simp [appendJ, hc, hv, hr]
        have hrb : ¬ room m (read b).length (good (read b)) < line.length := by rw [HBL.out] at hr; exact hr
        have hgm : good (read b) ≤ 140737488355328 := by have := HBL.out; omega
        have hgd' : good (read b) ≤ m := by have := HBL.out; omega
        have HAP := Lib.hid hap
        have HC := Lib.hid hc
        have HV := Lib.hid hv
        have HL := Lib.hid hcl
        clear hap hc hv hr hcl
        go_enter Try.func36, Try.ntmps36
        go_wp2_with (first | (go_at_call 23; refine (Check_any _ _ _ _ _ hm HR.out).mono ?_; rintro e w1 ⟨rfl, hb1⟩; rw [HC.out]) | (go_at_call 54; refine (read_any' _ _ _ _ _ hm (HR.out.mono hb1 (Nat.le_refl _))).mono ?_; rintro e w2 ⟨a2, c2, rfl, ho2, hb2⟩) | (go_at_call 65; refine (valid_any _ _ hl).mono ?_; rintro e w3 ⟨rfl, rfl⟩; rw [HV.out]) | (go_at_call 57; refine (room_any _ _ _ _ _ _ hm (by omega) (by omega) (by omega) (by omega)).mono ?_; rintro e w3 ⟨rfl, rfl⟩; simp only [Int.toNat_natCast]))
        have hrl := record_length line (read b).length
        have hrs : ¬ 9223372036854775807 < good (read b) + (line.length + 9) := by omega
        have hRw := HR.out.mono (hb1.trans (hb2.mono hb1.size)) (Nat.le_refl _)
        obtain ⟨a3, c3, hsl, hR3⟩ := slice_h (P := Try.prog) hRw Try.und79 Try.size5d (good (read b) : Int) (by omega) (by omega)
        simp only [Int.toNat_natCast, Nat.mul_one, ← List.map_take] at hsl hR3
        have hcv := fun W (hb : Below w2.heap.size w2 W) => run_conv (P := Try.prog) (hR3.mono hb (Nat.le_refl _)) 79 9 5 Try.underlying79 Try.underlying5 Try.underlying9
        refine Reg.region_JTm 10 hmo (by kernel_rfl) (by kernel_rfl) rfl (by kernel_rfl) (by kernel_rfl) (fun W => Below w2.heap.size w2 W) ((Below.refl _ w2).drew) ?_
        simp only [List.take_succ_cons, List.take_zero, List.drop_succ_cons, List.drop_zero]
        refine Reg.WalkT.cons ?vA0 (Reg.StepP.pure rfl ?hA0) ?rA0
        case hA0 => intro w hJ; go_simp; rfl
        simp only [Act.put, List.setIfInBounds_toArray, List.set_cons_zero, List.set_cons_succ]
        refine Reg.WalkT.cons ?vA1 (Reg.StepP.pure rfl ?hA1) ?rA1
        case hA1 => intro w hJ; go_simp; rfl
        simp only [Act.put, List.setIfInBounds_toArray, List.set_cons_zero, List.set_cons_succ]
        refine Reg.WalkT.cons ?vA2 (Reg.StepP.pure rfl ?hA2) ?rA2
        case hA2 => intro w hJ; go_simp; rfl
        simp only [Act.put, List.setIfInBounds_toArray, List.set_cons_zero, List.set_cons_succ]
        refine Reg.WalkT.cons ?vA3 (Reg.StepP.pure rfl ?hA3) ?rA3
        case hA3 => intro w hJ; go_simp; rfl
        simp only [Act.put, List.setIfInBounds_toArray, List.set_cons_zero, List.set_cons_succ]
        refine Reg.WalkT.cons ?vA4 (Reg.StepP.pure rfl ?hA4) ?rA4
        case hA4 => intro w hJ; have hcv' := hcv w hJ; go_simp; rfl
        simp only [Act.put, List.setIfInBounds_toArray, List.set_cons_zero, List.set_cons_succ]
        refine Reg.WalkT.cons ?vA5 (Reg.StepP.pure rfl ?hA5) ?rA5
        case hA5 => intro w hJ; go_simp; rfl
        simp only [Act.put, List.setIfInBounds_toArray, List.set_cons_zero, List.set_cons_succ]
        refine Reg.WalkT.cons ?vA6 (Reg.StepP.pure rfl ?hA6) ?rA6
        case hA6 => intro w hJ; go_simp; rfl
        simp only [Act.put, List.setIfInBounds_toArray, List.set_cons_zero, List.set_cons_succ]
        refine Reg.WalkT.cons ?vA7 (Reg.StepP.pure rfl ?hA7) ?rA7
        case hA7 => intro w hJ; go_simp; rfl
        simp only [Act.put, List.setIfInBounds_toArray, List.set_cons_zero, List.set_cons_succ]
        refine Reg.WalkT.cons (strV (record line (read b).length)) (Reg.StepP.call (f := 51) (args := #[strV line, .int .i64 ((read b).length : Int)]) rfl ?hA8 ?cA8) ?rA8
        case hA8 => intro w hJ; go_simp
        case cA8 => intro w hJ; refine (record_any line ((read b).length : Int) _ hli (by omega) (by omega)).mono ?_; rintro e w' ⟨rfl, hb⟩; exact ⟨by simp only [Int.toNat_natCast], hJ.trans (hb.mono hJ.size)⟩
        simp only [Act.put, List.setIfInBounds_toArray, List.set_cons_zero, List.set_cons_succ]
        refine Reg.WalkT.cons ?vA9 (Reg.StepP.pure rfl ?hA9) ?rA9
        case hA9 => intro w hJ; go_simp; rfl
        simp only [Act.put, List.setIfInBounds_toArray, List.set_cons_zero, List.set_cons_succ]
        refine .nil fun W hJ => ?_
        have hbW := hb1.trans ((hb2.mono hb1.size).trans (hJ.mono (Nat.le_trans hb1.size hb2.size)))
        have hRW := HR.out.mono hbW (Nat.le_refl _)
        have hN32 : m = 32 * (m / 32) := by have := HL.out; have := HBL.out; omega
        have hN250 : m / 32 ≤ 250 := by have := HL.out; have := HBL.out; omega
        have hfit : (b.take (good (read b)) ++ record line (read b).length).length ≤ m := by
          rw [List.length_append, record_length, List.length_take]
          have h1 := hrb
          simp only [room] at h1
          have h2 : 1 ≤ line.length := by have := HV.out; simp only [isLine, Bool.and_eq_true, decide_eq_true_eq] at this; exact this.1.1
          split at h1 <;> omega
        have HFIT := Lib.hid hfit
        have HN32 := Lib.hid hN32
        clear hfit hN32
        go_wp2_with (go_at_call 58; refine (to_any _ _ _ b _ _ (m / 32) hN250 HN32.out HFIT.out hRW).mono ?_; rintro e w4 ⟨a4, c4, xs4, rfl, ho4, hw4, hb4⟩)
        go_ret2
        have hsW : w.heap.size ≤ W.heap.size := hbW.size
        rw [HAP.out]
        exact ⟨a4, c4, xs4, rfl, ownsRow_weaken ho4 hsW, hw4.weaken hsW, hbW.trans (hb4.mono hsW)⟩
    · have hv' := Bool.eq_false_iff.2 hv
      have hap : appendJ b line = ([], 2) := by simp [appendJ, hc, hv']
      have HAP := Lib.hid hap
      have HC := Lib.hid hc
      have HV := Lib.hid hv'
      clear hap hc hv hv' hcl
      go_enter Try.func36, Try.ntmps36
      go_wp2_with (first | (go_at_call 23; refine (Check_any _ _ _ _ _ hm HR.out).mono ?_; rintro e w1 ⟨rfl, hb1⟩; rw [HC.out]) | (go_at_call 54; refine (read_any' _ _ _ _ _ hm (HR.out.mono hb1 (Nat.le_refl _))).mono ?_; rintro e w2 ⟨a2, c2, rfl, ho2, hb2⟩) | (go_at_call 65; refine (valid_any _ _ hl).mono ?_; rintro e w3 ⟨rfl, rfl⟩; rw [HV.out]))
      go_ret2
      rw [HAP.out]
      exact RetWrE.none rfl rfl (hb1.trans (hb2.mono hb1.size))
  · have hne : (checkD b != 0) = true := by simpa using hc
    have hap : appendJ b line = ([], checkD b) := by simp [appendJ, hc]
    have HAP := Lib.hid hap
    clear hap hc
    go_enter Try.func36, Try.ntmps36
    go_wp2_with (first | (go_at_call 23; refine (Check_any _ _ _ _ _ hm HR.out).mono ?_; rintro e w1 ⟨rfl, hb1⟩))
    go_ret2
    rw [HAP.out]
    exact RetWrE.none rfl rfl hb1
end Go.Proofs.Ytphalijdanmkeaa
