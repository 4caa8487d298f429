/- What is known of the journal: a few answers written out. -/
import Derived.Test.YtphalijdanmkeaaO
import Derived.Deep.Cut
import Derived.Lib.SlBytesConst
import Derived.Lib.SmallJoins
namespace Go.Proofs.Ytphalijdanmkeaa
open Go.RowKit Go.Shelf J

theorem known1 : record [97] (0 : Int).toNat = [48, 48, 48, 48, 49, 48, 57, 55, 97, 10] := by decide +kernel
theorem known2 : record [97, 98] (3 : Int).toNat = [48, 51, 48, 48, 50, 48, 54, 48, 97, 98, 10] := by decide +kernel
def block1 : List UInt8 := [48, 48, 48, 48, 49, 48, 57, 55, 97, 10] ++ List.replicate 22 0
theorem known3 : appendJ (nulls (32 * (1 : Int).toNat)) [97] = ([(0, block1)], 0) := by decide +kernel
theorem known4 : checkD block1 = 0 ∧ room block1.length (read block1).length (good (read block1)) = 13 := by decide +kernel
def two1 : List UInt8 := [48, 48, 48, 48, 49, 48, 57, 55, 97, 10, 48, 49, 48, 48, 49, 48, 57, 56, 97, 10]
theorem known5 : read two1 = [[97]] ∧ good (read two1) = 10 := by decide +kernel
theorem known6 : J.check [97] 0 = 0 ∧ J.check [97, 98] 3 = 0 := by decide +kernel

theorem WrO.one {B : Nat} {W : World} {xs : List Value} {n : Int} {b : List UInt8} (h : WrO B W xs [(n, b)]) : ∃ y, xs = [.int .i64 n, y] ∧ W.ownsRow B 5 1 y b.length (b.map byteV) := by
  match xs, h with
  | [x, y], ⟨h1, h2, _⟩ => exact ⟨y, by rw [h1], h2⟩
  | _ :: _ :: _ :: _ :: _, ⟨_, _, h3⟩ => exact h3.elim

theorem row_marked {w : World} {C : Array Value} {e : TypeId} {fr : Nat × Nat} (l : List UInt8) {n : Nat} (hC : C.toList = l.map byteV) (hn : l.length = n) : Row 1 (w.alloc (.cells C e fr)) (some ⟨w.heap.size, 0, none⟩) n n (l.map byteV) := by
  subst hn
  refine ⟨by simp, Nat.le_refl _, (fun h => by cases h), .inr ⟨w.heap.size, 0, rfl, by simp, fun i hi => ?_⟩⟩
  rw [Nat.zero_add, World.cell?_alloc_mark w C e fr i]
  rw [← Array.getElem?_toList, hC, List.getElem?_eq_getElem hi]

theorem kn1 (w : World) : Calls Try.prog 18 #[.string ⟨#[97]⟩, .int .i64 0] w fun e w' => e = .returned (.tuple #[.string ⟨#[48, 48, 48, 48, 49, 48, 57, 55, 97, 10]⟩, .int .i64 0]) ∧ Below w.heap.size w w' := by
  have h := Record_ok [97] 0 w (by decide) known6.1
  rw [known1] at h
  exact h
theorem kn2 (w : World) : Calls Try.prog 18 #[.string ⟨#[97, 98]⟩, .int .i64 3] w fun e w' => e = .returned (.tuple #[.string ⟨#[48, 51, 48, 48, 50, 48, 54, 48, 97, 98, 10]⟩, .int .i64 0]) ∧ Below w.heap.size w w' := by
  have h := Record_ok [97, 98] 3 w (by decide) known6.2
  rw [known2] at h
  exact h
theorem kn3 (w : World) : Calls Try.prog 14 #[.int .i64 1] w fun e w' => ∃ a c, e = .returned (.tuple #[.slice a 32 c, .int .i64 0]) ∧ Row 1 w' a 32 c ((nulls 32).map byteV) ∧ Below w.heap.size w w' := by
  refine (Format_ok 1 w (by decide) (by decide)).mono ?_
  rintro e w' ⟨a, c, rfl, ho, hb⟩
  obtain ⟨a2, c2, e, hr⟩ := own_row ho
  cases e
  exact ⟨a, c, rfl, hr, hb⟩
theorem kn4 (a : Option Addr) (n c : Nat) (l : List UInt8) (w : World) (h : Row 1 w a n c (l.map byteV)) (hn : n ≤ 140737488355328) :
    Calls Try.prog 21 #[.slice a n c] w fun e w' => ∃ a c, e = .returned (.slice a n c) ∧ Row 1 w' a n c (l.map byteV) ∧ Below w.heap.size w w' := by
  refine (own_any a n c l w h hn).mono ?_
  rintro e w' ⟨a, c, rfl, ho, hb⟩
  obtain ⟨a2, c2, e, hr⟩ := own_row ho
  cases e
  exact ⟨a, c, rfl, hr, hb⟩
theorem kn5 (a : Option Addr) (c : Nat) (w : World) (h : Row 1 w a 32 c ((nulls 32).map byteV)) :
    Calls Try.prog 36 #[.slice a 32 c, .string ⟨#[97]⟩] w fun e w' => ∃ g cap a6 c6, e = .returned (.tuple #[.slice (some ⟨g, 0, none⟩) 1 cap, .int .i64 0]) ∧ w'.cell? ⟨g, 0, none⟩ = some (.int .i64 0) ∧ w'.cell? ⟨g, 1, none⟩ = some (.slice a6 32 c6) ∧ Row 1 w' a6 32 c6 (block1.map byteV) ∧ Below w.heap.size w w' := by
  have h := Append_any a 32 c (nulls 32) [97] w (by decide) (by decide) h
  rw [show appendJ (nulls 32) [97] = ([(0, block1)], 0) from known3] at h
  refine h.mono ?_
  rintro e w5 ⟨a5, c5, xs5, rfl, ho5, hw5, hb5⟩
  obtain ⟨y5, rfl, hy5⟩ := hw5.one
  obtain ⟨a6, c6, rfl, hr6⟩ := own_row hy5
  obtain ⟨g5, cap5, e5⟩ := ownsRow_succ ho5
  cases e5
  have h0 := ho5.cells (g := g5) rfl 0 _ rfl
  have h1 := ho5.cells (g := g5) rfl 1 _ rfl
  exact ⟨g5, c5, a6, c6, rfl, h0, h1, hr6, hb5⟩
theorem kn6 (a : Option Addr) (c : Nat) (w : World) (h : Row 1 w a 32 c (block1.map byteV)) :
    Calls Try.prog 24 #[.slice a 32 c] w fun e w' => e = .returned (.tuple #[.int .i64 13, .int .i64 0]) ∧ Below w.heap.size w w' := by
  have h := Room_ok a 32 c block1 w h known4.1
  rw [known4.2] at h
  exact h
theorem kn7 (a : Option Addr) (c : Nat) (w : World) (h : Row 1 w a 20 c (two1.map byteV)) :
    Calls Try.prog 22 #[.slice a 20 c] w fun e w' => ∃ a' c', e = .returned (.tuple #[.slice a' 1 c', .int .i64 10, .int .i64 0]) ∧ Row 1 w' a' 1 c' ([[97]].map strV) ∧ Below w.heap.size w w' := by
  have h := Recover_ok a 20 c two1 w (by decide) h
  rw [known5.1] at h
  refine h.mono ?_
  rintro e w' ⟨a, c, rfl, ho, hb⟩
  obtain ⟨a2, c2, e, hr⟩ := own_row ho
  cases e
  exact ⟨a, c, rfl, hr, hb⟩

set_option maxRecDepth 100000 in
set_option maxHeartbeats 300000 in
theorem known_any (w : World) : Calls Try.prog 16 #[] w fun e w' => e = .returned (.bool true) ∧ Below w.heap.size w w' := by
  have kc := fun (w : World) (C : Array Value) (n c : Nat) => Lib.run_convert_bytes_const (P := Try.prog) w 22 5 C n c Try.underlying22 Try.underlying5
  go_enter Try.func16, Try.ntmps16
  go_upto_region 5 with (first
    | (go_at_call 18; have hb1' := hb1; refine (kn2 _).mono ?_; rintro e w2 ⟨rfl, hb2⟩)
    | (go_at_call 18; refine (kn1 _).mono ?_; rintro e w1 ⟨rfl, hb1⟩)
    | (go_at_call 14; refine (kn3 _).mono ?_; rintro e w3 ⟨a3, c3, rfl, hr3, hb3⟩; have HR3 := Lib.hid hr3; clear hr3)
    | (go_at_call 21; refine (kn4 _ _ _ _ _ HR3.out (by decide)).mono ?_; rintro e w4 ⟨a4, c4, rfl, hr4, hb4⟩; have HR4 := Lib.hid hr4; clear hr4)
    | (go_at_call 36; refine (kn5 _ _ _ HR4.out).mono ?_; rintro e w5 ⟨g5, cap5, a6, c6, rfl, hx5, hy5, hr5, hb5⟩; have HR5 := Lib.hid hr5; clear hr5))
  go_upto_region 9 with (first
    | (go_at_call 22; refine (kn7 _ _ _ (row_marked two1 rfl rfl)).mono ?_; rintro e w8 ⟨a8, c8, rfl, hr8, hb8⟩; have HR8 := Lib.hid hr8; clear hr8)
    | (go_at_call 24; have hb6' := hb6; refine (kn6 _ _ _ HR6.out).mono ?_; rintro e w7 ⟨rfl, hb7⟩)
    | (go_at_call 21; refine (kn4 _ _ _ _ _ HR5.out (by decide)).mono ?_; rintro e w6 ⟨a7, c7, rfl, hr6, hb6⟩; have HR6 := Lib.hid hr6; clear hr6))
  have hb78 := ((Below.refl w7.heap.size w7).alloc (Nat.le_refl _) _).trans (hb8.mono (by simp only [World.size_alloc]; omega))
  have hb58 : Below w5.heap.size w5 w8 := hb6.trans ((hb7.mono hb6.size).trans (hb78.mono (Nat.le_trans hb6.size hb7.size)))
  have hy8 := (hb58.cell (World.block_lt_of_cell? w5 _ hy5)).trans hy5
  have hr58 := HR5.out.mono hb58 (Nat.le_refl _)
  obtain ⟨a9, c9, hsl, hR9⟩ := slice_h (P := Try.prog) hr58 Try.und22 Try.size5 10 (by omega) (by omega)
  rw [show ((block1.map byteV).take ((10 : Int).toNat * 1)) = [48, 48, 48, 48, 49, 48, 57, 55, 97, 10].map byteV from rfl] at hR9
  simp only [show (10 : Int).toNat = 10 from rfl] at hsl hR9
  have hcv := run_conv (P := Try.prog) hR9 22 9 5 Try.underlying22 Try.underlying5 Try.underlying9
  have HB := Lib.hid (hb1.trans ((hb2.mono hb1.size).trans ((hb3.mono (Nat.le_trans hb1.size hb2.size)).trans ((hb4.mono (Nat.le_trans hb1.size (Nat.le_trans hb2.size hb3.size))).trans ((hb5.mono (Nat.le_trans hb1.size (Nat.le_trans hb2.size (Nat.le_trans hb3.size hb4.size)))).trans (hb58.mono (Nat.le_trans hb1.size (Nat.le_trans hb2.size (Nat.le_trans hb3.size (Nat.le_trans hb4.size hb5.size))))))))))
  clear hb1 hb2 hb3 hb4 hb5 hb6 hb7 hb8 hb78 hb58 hr58 hR9 hx5 hy5
  go_wp2_with (go_at_call 29; refine (Lines_any _ _ _ _ _ _ [[97]] [[97]] _ (by decide) (by decide) (HR8.out.mono ((Below.refl _ _).alloc (Nat.le_refl _) _) (Nat.le_refl _)) (Row.made w8 ([[97]].map strV) 9 rfl (Nat.le_refl _))).mono ?_; rintro e w9 ⟨rfl, hb9⟩)
  go_ret
  have hs8 := HB.out.size
  exact ⟨rfl, HB.out.trans (((Below.refl w.heap.size w8).alloc hs8 _).trans (hb9.mono (by simp only [World.size_alloc]; omega)))⟩
end Go.Proofs.Ytphalijdanmkeaa
