/- The law of reading: the walk. -/
import Derived.Test.YtphalijdanmkeaaV
import Derived.Test.YtphalijdanmkeaaQ
namespace Go.Proofs.Ytphalijdanmkeaa
open Go.RowKit Go.Shelf J

theorem ext {A B C : World} (h : Below A.heap.size A B) (k : Below B.heap.size B C) : Below A.heap.size A C := h.trans (k.mono h.size)

/-- what can be read, how many bytes are good, the error -/
def J.recJ (b : List UInt8) : List (List UInt8) × Int × Int := if b.length ≤ 8000 then (read b, (good (read b) : Int), 0) else ([], 0, 5)
def J.roomJ (b : List UInt8) : Int × Int := if checkD b = 0 then ((room b.length (read b).length (good (read b)) : Int), 0) else (0, checkD b)

theorem recJ_len (b : List UInt8) : (recJ b).1.length ≤ 60 := by
  simp only [recJ]
  split
  · exact read_len b
  · simp
theorem toD_len (b s : List UInt8) : (toD b s).length ≤ b.length := by
  simp only [toD, blocks, ← blkI_blocks]
  exact Nat.le_trans (blkI_length _ _ _ _) (by simp; omega)
theorem cleanJ_len (b : List UInt8) : (cleanJ b).1.length ≤ b.length := by
  simp only [cleanJ]
  split
  · simp
  · split
    · simp
    · exact toD_len _ _

def RecP (w : World) (b : List UInt8) (e : Ending) (w' : World) : Prop := ∃ a c, e = .returned (.tuple #[.slice a (recJ b).1.length c, .int .i64 (recJ b).2.1, .int .i64 (recJ b).2.2]) ∧ Row 1 w' a (recJ b).1.length c ((recJ b).1.map strV) ∧ Below w.heap.size w w'

theorem row_none (w : World) (k : Nat) : Row k w none 0 0 [] := ⟨by simp, Nat.le_refl _, (fun _ => rfl), .inl rfl⟩

theorem recP_lim (w : World) (b : List UInt8) (h : ¬ b.length ≤ 8000) : RecP w b (.returned (.tuple #[.slice none 0 0, .int .i64 0, .int .i64 5])) w := by
  simp only [RecP, recJ, if_neg h]
  exact ⟨none, 0, rfl, row_none _ _, Below.refl _ _⟩

theorem Recover_any (a : Option Addr) (m c : Nat) (b : List UInt8) (w : World) (hm : m ≤ 140737488355328) (h : Row 1 w a m c (b.map byteV)) : Calls Try.prog 22 #[.slice a m c] w (RecP w b) := by
  have hbl : b.length = m := by simpa using h.1
  by_cases h8 : b.length ≤ 8000
  · refine (Recover_ok a m c b w (by omega) h).mono ?_
    rintro e w' ⟨a', c', rfl, ho, hb⟩
    simp only [RecP, recJ, if_pos h8]
    exact ⟨a', c', rfl, row_of_own ho, hb⟩
  · refine (Recover_lim a m c w (by omega)).mono ?_
    rintro e w' ⟨rfl, rfl⟩
    exact recP_lim _ b h8
theorem RRecover_any (a : Option Addr) (m c : Nat) (b : List UInt8) (w : World) (hm : m ≤ 140737488355328) (h : Row 1 w a m c (b.map byteV)) : Calls Try.prog 26 #[.slice a m c] w (RecP w b) := by
  have hbl : b.length = m := by simpa using h.1
  by_cases h8 : b.length ≤ 8000
  · refine (RRecover_ok a m c b w (by omega) h).mono ?_
    rintro e w' ⟨a', c', rfl, ho, hb⟩
    simp only [RecP, recJ, if_pos h8]
    exact ⟨a', c', rfl, row_of_own ho, hb⟩
  · refine (RRecover_lim a m c w (by omega) (by omega)).mono ?_
    rintro e w' ⟨rfl, rfl⟩
    exact recP_lim _ b h8

theorem Room_any (a : Option Addr) (m c : Nat) (b : List UInt8) (w : World) (hm : m ≤ 140737488355328) (h : Row 1 w a m c (b.map byteV)) :
    Calls Try.prog 24 #[.slice a m c] w fun e w' => e = .returned (.tuple #[.int .i64 (roomJ b).1, .int .i64 (roomJ b).2]) ∧ Below w.heap.size w w' := by
  by_cases hc : checkD b = 0
  · have := Room_ok a m c b w h hc
    simpa only [roomJ, if_pos hc] using this
  · have := Room_err a m c b w hm h _ rfl (by simpa using hc)
    simpa only [roomJ, if_neg hc] using this
theorem RRoom_any (a : Option Addr) (m c : Nat) (b : List UInt8) (w : World) (hm : m ≤ 140737488355328) (h : Row 1 w a m c (b.map byteV)) :
    Calls Try.prog 27 #[.slice a m c] w fun e w' => e = .returned (.tuple #[.int .i64 (roomJ b).1, .int .i64 (roomJ b).2]) ∧ Below w.heap.size w w' := by
  by_cases hc : checkD b = 0
  · have := RRoom_ok a m c b w h hc
    simpa only [roomJ, if_pos hc] using this
  · have := RRoom_err a m c b w hm h _ rfl (by simpa using hc)
    simpa only [roomJ, if_neg hc] using this

/-- writes and an error, somewhere -/
def WrP (w : World) (bs : List (Int × List UInt8)) (x : Int) (e : Ending) (w' : World) : Prop := ∃ a c, e = .returned (.tuple #[.slice a bs.length c, .int .i64 x]) ∧ Writes w' a c bs ∧ Below w.heap.size w w'
theorem RetWrE.toP {w w' : World} {bs : List (Int × List UInt8)} {x : Int} {e : Ending} (h : RetWrE w bs x e w') : WrP w bs x e w' := by
  obtain ⟨a, c, xs, rfl, ho, hw, hb⟩ := h
  exact ⟨a, c, rfl, Writes.of ho hw, hb⟩

set_option maxRecDepth 100000 in
set_option maxHeartbeats 4000000 in
theorem JReads_any (a : Option Addr) (m c : Nat) (b : List UInt8) (w : World) (h : Row 1 w a m c (b.map byteV)) (hm0 : m ≤ maxLen) : Calls Try.prog 5 #[.slice a m c] w (Holds w) := by
  have HR := Lib.hid h
  have hbl : b.length = m := by simpa using h.1
  clear h
  by_cases h9 : (9000 : Int) < (m : Int)
  · go_enter Try.func5, Try.ntmps5
    go_wp2_with (go_at_call 16; refine (known_any _).mono ?_; rintro e w5 ⟨rfl, hb5⟩)
    go_ret
    exact ⟨rfl, hb5⟩
  · have hm : m ≤ 140737488355328 := by omega
    have hl1 := recJ_len b
    have hl2 := cleanJ_len b
    have hL1 : (recJ b).1.length ≤ 140737488355328 := by omega
    have hL2 : (cleanJ b).1.length ≤ 140737488355328 := by omega
    clear hl1 hl2
    go_enter Try.func5, Try.ntmps5
    go_upto_region 11 with (first
      | (go_at_call 21; refine (own_any _ _ _ b _ HR.out hm).mono ?_; rintro e w1 ⟨a1, c1, rfl, ho1, hb1⟩; have R1 := Lib.hid (row_of_own ho1); clear ho1)
      | (go_at_call 22; refine (Recover_any _ _ _ b _ hm R1.out).mono ?_; rintro e w2 ⟨a2, c2, rfl, hr2, hb2⟩; have R2 := Lib.hid hr2; clear hr2)
      | (go_at_call 23; refine (Check_any _ _ _ b _ hm (R1.out.mono hb2 (Nat.le_refl _))).mono ?_; rintro e w3 ⟨rfl, hb3⟩)
      | (go_at_call 24; refine (Room_any _ _ _ b _ hm (R1.out.mono (ext hb2 hb3) (Nat.le_refl _))).mono ?_; rintro e w4 ⟨rfl, hb4⟩)
      | (go_at_call 25; refine (Clean_any _ _ _ b _ hm (R1.out.mono (ext hb2 (ext hb3 hb4)) (Nat.le_refl _))).mono ?_; intro e w5 h5; obtain ⟨a5, c5, rfl, hr5, hb5⟩ := h5.toP; have R5 := Lib.hid hr5; clear h5 hr5)
      | (go_at_call 26; refine (RRecover_any _ _ _ b _ hm (HR.out.mono (ext hb1 (ext hb2 (ext hb3 (ext hb4 hb5)))) (Nat.le_refl _))).mono ?_; rintro e w6 ⟨a6, c6, rfl, hr6, hb6⟩; have R6 := Lib.hid hr6; clear hr6)
      | (go_at_call 27; refine (RRoom_any _ _ _ b _ hm (HR.out.mono (ext hb1 (ext hb2 (ext hb3 (ext hb4 (ext hb5 hb6))))) (Nat.le_refl _))).mono ?_; rintro e w7 ⟨rfl, hb7⟩)
      | (go_at_call 28; refine (RClean_any _ _ _ b _ hm (HR.out.mono (ext hb1 (ext hb2 (ext hb3 (ext hb4 (ext hb5 (ext hb6 hb7)))))) (Nat.le_refl _))).mono ?_; intro e w8 h8; obtain ⟨a8, c8, rfl, hr8, hb8⟩ := h8.toP; have R8 := Lib.hid hr8; clear h8 hr8))
    have e28 := ext hb3 (ext hb4 (ext hb5 (ext hb6 (ext hb7 hb8))))
    have e68 := ext hb7 hb8
    have e58 := ext hb6 e68
    have e18 := ext hb2 e28
    have e08 := ext hb1 e18
    have hcv1 := run_conv (P := Try.prog) (R1.out.mono e18 (Nat.le_refl _)) 22 9 5 Try.underlying22 Try.underlying5 Try.underlying9
    have hcv2 := run_conv (P := Try.prog) (HR.out.mono e08 (Nat.le_refl _)) 22 9 5 Try.underlying22 Try.underlying5 Try.underlying9
    have E := Lib.hid (And.intro e28 (And.intro e68 (And.intro e58 e08)))
    clear hb1 hb2 hb3 hb4 hb5 hb6 hb7 hb8 e28 e68 e58 e18 e08
    go_wp2_with (first
      | (go_at_call 29; refine (Lines_any _ _ _ _ _ _ _ _ _ hL1 hL1 (R2.out.mono E.out.1 (Nat.le_refl _)) (R6.out.mono E.out.2.1 (Nat.le_refl _))).mono ?_; rintro e w9 ⟨rfl, hb9⟩; rw [beq_self_eq_true])
      | (go_at_call 30; refine (RCheck_any _ _ _ b _ hm (HR.out.mono (ext E.out.2.2.2 hb9) (Nat.le_refl _))).mono ?_; rintro e w10 ⟨rfl, hb10⟩)
      | (go_at_call 31; refine (Same_any _ _ _ _ _ _ _ hL2 hL2 (R5.out.mono (ext E.out.2.2.1 (ext hb9 hb10)) (Nat.le_refl _)) (R8.out.mono (ext hb9 hb10) (Nat.le_refl _))).mono ?_; rintro e w11 ⟨rfl, hb11⟩; rw [beq_self_eq_true])
      | (go_at_call 16; refine (known_any _).mono ?_; rintro e w12 ⟨rfl, hb12⟩))
    go_ret
    exact ⟨rfl, ext E.out.2.2.2 (ext hb9 (ext hb10 (ext hb11 hb12)))⟩
end Go.Proofs.Ytphalijdanmkeaa
