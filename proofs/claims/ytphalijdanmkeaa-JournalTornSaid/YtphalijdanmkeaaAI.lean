/- Apply: the walk. -/
import Derived.Test.YtphalijdanmkeaaAH
namespace Go.Proofs.Ytphalijdanmkeaa
open Go.RowKit Go.Shelf J

/-- a device after writes, and the error -/
def J.applyJ (b : List UInt8) (l : List (Int × List UInt8)) : List UInt8 × Int := if checkW b l ≠ 0 then ([], checkW b l) else (applyW b l, 0)

/-- bytes and an error, the bytes in new memory -/
def RetB (w : World) (bs : List UInt8) (x : Int) (e : Ending) (w' : World) : Prop := ∃ a c, e = .returned (.tuple #[.slice a bs.length c, .int .i64 x]) ∧ w'.ownsRow w.heap.size 5 1 (.slice a bs.length c) bs.length (bs.map byteV) ∧ Below w.heap.size w w'
theorem RetB.none {w w' : World} {bs : List UInt8} {x y : Int} (hbs : bs = []) (hx : y = x) (hb : Below w.heap.size w w') : RetB w bs x (.returned (.tuple #[.slice none 0 0, .int .i64 y])) w' := by
  subst hbs hx
  exact ⟨_, _, rfl, World.ownsRow_nil _ _ _ _, hb⟩
theorem RetB.mk {w w' : World} {bs : List UInt8} {x : Int} {a : Option Addr} {n c : Nat} (hn : n = bs.length) (ho : w'.ownsRow w.heap.size 5 1 (.slice a n c) n (bs.map byteV)) (hb : Below w.heap.size w w') : RetB w bs x (.returned (.tuple #[.slice a n c, .int .i64 x])) w' := by
  subst hn
  exact ⟨a, c, rfl, ho, hb⟩

theorem checkW_ok {b : List UInt8} {l : List (Int × List UInt8)} (h : checkW b l = 0) : formed b = true ∧ ∀ w ∈ l, fits b.length w = true := by
  simp only [checkW] at h
  split at h
  · cases h
  · rename_i hf
    split at h
    · rename_i ha
      exact ⟨by simpa using hf, fun w hw => List.all_eq_true.1 ha w hw⟩
    · cases h
theorem fits_ok {m : Nat} {w : Int × List UInt8} (h : fits m w = true) : ∃ n : Nat, w.1 = (n : Int) ∧ 32 * n + 32 ≤ m ∧ w.2.length = 32 := by
  simp only [fits, Bool.and_eq_true, decide_eq_true_eq] at h
  exact ⟨w.1.toNat, by omega, by omega, h.2⟩
theorem applyW_snoc (b : List UInt8) (l : List (Int × List UInt8)) (w : Int × List UInt8) : applyW b (l ++ [w]) = putB (applyW b l) w.1.toNat w.2 32 := by simp [applyW]
theorem applyW_length : ∀ (l : List (Int × List UInt8)) (d : List UInt8), (∀ w ∈ l, fits d.length w = true) → (applyW d l).length = d.length
  | [], _, _ => rfl
  | w :: l, d, h => by
    obtain ⟨n, h1, h2, h3⟩ := fits_ok (h w (List.mem_cons_self ..))
    have hp : (putB d w.1.toNat w.2 32).length = d.length := putB_length (by rw [h1, Int.toNat_natCast]; omega) (by omega)
    show (applyW (putB d w.1.toNat w.2 32) l).length = d.length
    rw [applyW_length l _ (by rw [hp]; exact fun x hx => h x (List.mem_cons_of_mem _ hx)), hp]

set_option maxRecDepth 100000 in
set_option maxHeartbeats 4000000 in
theorem Apply_any (a a2 : Option Addr) (m c c2 : Nat) (b : List UInt8) (l : List (Int × List UInt8)) (w : World) (hm : m ≤ 140737488355328) (hl : l.length ≤ 140737488355328) (hb : Row 1 w a m c (b.map byteV)) (h : Writes w a2 c2 l) :
    Calls Try.prog 41 #[.slice a m c, .slice a2 l.length c2] w (RetB w (applyJ b l).1 (applyJ b l).2) := by
  have hbl : b.length = m := by simpa using hb.1
  have HR := Lib.hid hb
  have HWR := Lib.hid h
  clear hb h
  by_cases hc : checkW b l = 0
  · obtain ⟨hf, hfit⟩ := checkW_ok hc
    have hle := formed_eq b
    rw [hf] at hle
    have hle2 : b.length ≤ 8000 ∧ 0 < b.length := by simp at hle; omega
    have hap : applyJ b l = (applyW b l, 0) := by rw [applyJ, if_neg (by simp [hc])]
    have HAP := Lib.hid hap
    have HC := Lib.hid hc
    have HF := Lib.hid hfit
    clear hap hc hf hfit hle
    go_enter Try.func41, Try.ntmps41
    go_wp2_with (first
      | (go_at_call 68; refine (Clone_any _ _ _ b _ HR.out hm).mono ?_; rintro e w1 ⟨a1, c1, rfl, ho1, hb1⟩; have HO1 := Lib.hid ho1; clear ho1)
      | (go_at_call 69; refine (checkW_any _ _ _ _ _ b l _ hm hl hbl (HWR.out.mono hb1 (Nat.le_refl _))).mono ?_; rintro e w2 ⟨rfl, hb2⟩; rw [HC.out]))
    obtain ⟨g, rfl⟩ : ∃ g, a1 = some ⟨g, 0, none⟩ := by
      rcases HO1.out.2 with ⟨_, h⟩ | ⟨g, cap, _, e, _⟩
      · omega
      · cases e; exact ⟨g, rfl⟩
    have HO2 := Lib.hid (own_below HO1.out hb2)
    have hb12 := hb1.trans (hb2.mono hb1.size)
    have HB2 := Lib.hid hb12
    clear hb1 hb2 hb12 HO1
    go_loopw [9, 20] (fun _ i wr => ∃ k : Nat, k ≤ l.length ∧ i = .int .i64 k ∧ wr.ownsRow w.heap.size 5 1 (.slice (some ⟨g, 0, none⟩) m c1) m ((applyW b (l.take k)).map byteV) ∧ Below w.heap.size w wr) (fun _ i _ => l.length - (intOf i).toNat)
    case atStart => exact ⟨0, Nat.zero_le _, rfl, HO2.out, HB2.out⟩
    case round =>
      obtain ⟨k, hk, rfl, hown, hbw⟩ := hrel
      have HO := Lib.hid hown
      have HB := Lib.hid hbw
      clear hown hbw
      by_cases hlt : k < l.length
      · obtain ⟨bb, oo, rfl, hbb, hcc⟩ := (HWR.out.mono HB.out (Nat.le_refl _)).at (by omega)
        obtain ⟨x1, a3, c3, x2, r2⟩ := hcc k hlt
        obtain ⟨n, h1, h2, h3⟩ := fits_ok (HF.out _ (List.getElem_mem hlt))
        rw [h1] at x1
        rw [h3] at x2 r2
        have hdl : (applyW b (l.take k)).length = m := by rw [applyW_length _ _ (fun x hx => HF.out x (List.mem_of_mem_take hx)), hbl]
        have hput := fun W (ho : W.ownsRow w.heap.size 5 1 (.slice (some ⟨g, 0, none⟩) m c1) m ((applyW b (l.take k)).map byteV)) (hr : Row 1 W a3 32 c3 (l[k].2.map byteV)) (hs : w.heap.size ≤ W.heap.size) =>
          put_any w.heap.size g c1 n 32 (applyW b (l.take k)) l[k].2 a3 c3 W (by omega) h3 (by omega) (Nat.le_refl _) hs (by rw [hdl]; exact ho) hr
        simp only [hdl] at hput
        have hsn := applyW_snoc b (l.take k) l[k]
        rw [← List.take_succ_eq_append_getElem hlt, h1, Int.toNat_natCast] at hsn
        have HPUT := Lib.hid hput
        have HSN := Lib.hid hsn
        have R2 := Lib.hid r2
        have hsz := HB.out.size
        clear hcc r2 hput hsn
        go_wp2_with (go_at_call 70; refine (HPUT.out _ (HO.out.alloc _) (R2.out.mono ((Below.refl _ wr).alloc (Nat.le_refl _) _) (Nat.le_refl _)) (by simp only [World.size_alloc]; omega)).mono ?_; rintro e w3 ⟨rfl, ho3, hb3, _⟩; have HO3 := Lib.hid ho3; clear ho3)
        go_roundw
        case rel => exact ⟨k + 1, by omega, by go_num, by rw [HSN.out]; exact HO3.out, (HB.out.alloc hsz _).trans hb3⟩
        case measure => simp [intOf]; omega
      · obtain rfl : k = l.length := by omega
        go_wp2
        go_ret2
        rw [HAP.out]
        have ho := HO.out
        rw [List.take_length] at ho
        exact RetB.mk (by rw [applyW_length _ _ HF.out, hbl]) ho HB.out
  · have hne : (checkW b l != 0) = true := by simpa using hc
    have hap : applyJ b l = ([], checkW b l) := by rw [applyJ, if_pos hc]
    have HAP := Lib.hid hap
    clear hap hc
    go_enter Try.func41, Try.ntmps41
    go_wp2_with (first
      | (go_at_call 68; refine (Clone_any _ _ _ b _ HR.out hm).mono ?_; rintro e w1 ⟨a1, c1, rfl, ho1, hb1⟩; have HO1 := Lib.hid ho1; clear ho1)
      | (go_at_call 69; refine (checkW_any _ _ _ _ _ b l _ hm hl hbl (HWR.out.mono hb1 (Nat.le_refl _))).mono ?_; rintro e w2 ⟨rfl, hb2⟩))
    go_ret2
    rw [HAP.out]
    exact RetB.none rfl rfl (hb1.trans (hb2.mono hb1.size))
end Go.Proofs.Ytphalijdanmkeaa
