/- The reference's Crash: the walk. -/
import Derived.Test.YtphalijdanmkeaaAL
namespace Go.Proofs.Ytphalijdanmkeaa
open Go.RowKit Go.Shelf J

/-- the last of the first k that is kept, or -1 -/
def J.lastN (ks : List Bool) : Nat → Int
  | 0 => -1
  | k + 1 => if ks.getD k false then (k : Int) else lastN ks k
/-- the device after k writes -/
def J.devN (b : List UInt8) (l : List (Int × List UInt8)) (ks : List Bool) (torn : Nat) : Nat → List UInt8
  | k => if lastN ks l.length < k then tornW b (kept (l.take k) (ks.take k)) torn else applyW b (kept (l.take k) (ks.take k))

theorem lastN_lt (ks : List Bool) : ∀ n, lastN ks n < n
  | 0 => by simp [lastN]
  | n + 1 => by
    have := lastN_lt ks n
    simp only [lastN]
    split <;> omega
theorem lastN_ge (ks : List Bool) : ∀ n, -1 ≤ lastN ks n
  | 0 => by simp [lastN]
  | n + 1 => by
    have := lastN_ge ks n
    simp only [lastN]
    split <;> omega
theorem lastN_of (ks : List Bool) (k : Nat) (h : ks.getD k false = true) : ∀ n, k < n → (k : Int) ≤ lastN ks n
  | 0, hk => absurd hk (Nat.not_lt_zero _)
  | n + 1, hk => by
    simp only [lastN]
    by_cases e : k = n
    · subst e; rw [if_pos h]; omega
    · have := lastN_of ks k h n (by omega)
      split <;> omega
theorem lastN_is (ks : List Bool) (k : Nat) : ∀ n, lastN ks n = (k : Int) → ks.getD k false = true
  | 0, h => by simp only [lastN] at h; omega
  | n + 1, h => by
    simp only [lastN] at h
    split at h
    · obtain rfl : n = k := by omega
      assumption
    · exact lastN_is ks k n h

theorem tornW_snoc (b : List UInt8) (l : List (Int × List UInt8)) (x : Int × List UInt8) (torn : Nat) : tornW b (l ++ [x]) torn = putB (applyW b l) x.1.toNat x.2 torn := by
  simp [tornW]
theorem devN_zero (b : List UInt8) (l : List (Int × List UInt8)) (ks : List Bool) (torn : Nat) : devN b l ks torn 0 = b := by
  simp only [devN, List.take_zero, kept]
  split <;> rfl
theorem devN_all (b : List UInt8) (l : List (Int × List UInt8)) (ks : List Bool) (torn : Nat) (h : ks.length = l.length) : devN b l ks torn l.length = tornW b (kept l ks) torn := by
  simp only [devN]
  rw [if_pos (lastN_lt ks _), List.take_length, List.take_of_length_le (by omega)]
/-- how many bytes of write k go in -/
def J.manyN (ks : List Bool) (n torn k : Nat) : Nat := if ks.getD k false then (if (k : Int) = lastN ks n then torn else 32) else 0
theorem devN_succ {b : List UInt8} {l : List (Int × List UInt8)} {ks : List Bool} {torn k : Nat} (h : ks.length = l.length) (hk : k < l.length) :
    devN b l ks torn (k + 1) = putB (devN b l ks torn k) l[k].1.toNat l[k].2 (manyN ks l.length torn k) := by
  have hsn := kept_snoc (l.take k) (ks.take k) l[k] (ks[k]'(by omega)) (by simp; omega)
  rw [← List.take_succ_eq_append_getElem hk, ← List.take_succ_eq_append_getElem (show k < ks.length by omega)] at hsn
  have hgd : ks.getD k false = ks[k]'(by omega) := by simp [List.getD, show k < ks.length by omega]
  simp only [devN, manyN, hsn, hgd]
  cases hkk : ks[k]'(by omega) with
  | true =>
    have h1 := lastN_of ks k (by rw [hgd, hkk]) l.length hk
    simp only [if_true]
    by_cases e : (k : Int) = lastN ks l.length
    · rw [if_pos e, if_pos (by omega), if_neg (by omega), tornW_snoc]
    · rw [if_neg e, if_neg (by omega), if_neg (by omega), applyW_snoc]
  | false =>
    have h1 : lastN ks l.length ≠ (k : Int) := fun e => by
      have := lastN_is ks k _ e
      rw [hgd, hkk] at this
      cases this
    simp only [Bool.false_eq_true, if_false, List.append_nil]
    by_cases e : lastN ks l.length < (k : Int)
    · rw [if_pos e, if_pos (by omega)]; simp [putB]
    · rw [if_neg e, if_neg (by omega)]; simp [putB]
theorem devN_length {b : List UInt8} {l : List (Int × List UInt8)} {ks : List Bool} {torn : Nat} (h : ∀ w ∈ l, fits b.length w = true) (ht : torn ≤ 32) (k : Nat) : (devN b l ks torn k).length = b.length := by
  have hs : ∀ x ∈ kept (l.take k) (ks.take k), fits b.length x = true := fun x hx => h x (List.mem_of_mem_take (kept_sub _ _ x hx))
  simp only [devN]
  split
  · exact tornW_length hs ht
  · exact applyW_length _ _ hs

set_option maxRecDepth 100000 in
set_option maxHeartbeats 4000000 in
theorem RCrash_any (a a2 a3 : Option Addr) (m c c2 n3 c3 : Nat) (b : List UInt8) (l : List (Int × List UInt8)) (ks : List Bool) (torn : Int) (w : World) (hm : m ≤ 140737488355328) (hl : l.length ≤ 1000000) (hn3 : n3 ≤ 140737488355328) (hb : Row 1 w a m c (b.map byteV)) (h : Writes w a2 c2 l) (h3 : Row 1 w a3 n3 c3 (ks.map boolV)) :
    Calls Try.prog 44 #[.slice a m c, .slice a2 l.length c2, .slice a3 n3 c3, .int .i64 torn] w (RetB w (crashJ b l ks torn).1 (crashJ b l ks torn).2) := by
  have hmo : Try.prog.follows .mixedOrders = true := by kernel_rfl
  have hbl : b.length = m := by simpa using hb.1
  have hkl : ks.length = n3 := by simpa using h3.1
  have HR := Lib.hid hb
  have HWR := Lib.hid h
  have HK3 := Lib.hid h3
  clear hb h h3
  by_cases hc : checkW b l = 0
  · obtain ⟨hf, hfit⟩ := checkW_ok hc
    have hle := formed_eq b
    rw [hf] at hle
    have hle2 : b.length ≤ 8000 ∧ 0 < b.length := by simp at hle; omega
    have HC := Lib.hid hc
    have HF := Lib.hid hfit
    by_cases hkn : n3 = l.length
    · have hkb : ((n3 : Int) != (l.length : Int)) = false := by simp [hkn]
      by_cases ht : 0 ≤ torn ∧ torn ≤ 32
      · obtain ⟨tn, rfl⟩ : ∃ tn : Nat, torn = (tn : Int) := ⟨torn.toNat, by omega⟩
        have htn : tn ≤ 32 := by omega
        have hcr : crashJ b l ks tn = (devN b l ks tn l.length, 0) := by
          rw [crashJ, if_neg (by simp [hc]), if_pos ⟨by omega, by omega, by omega⟩, devN_all _ _ _ _ (by omega), Int.toNat_natCast]
        have HCR := Lib.hid hcr
        have ht1 : ¬ ((tn : Int) < 0) := by omega
        have ht2 : ¬ ((tn : Int) > 32) := by omega
        clear hc hf hfit hle ht hcr
        go_enter Try.func44, Try.ntmps44
        go_wp2_with (go_at_call 71; refine (RWrites_any _ _ _ _ _ b l _ hm (by omega) hbl HWR.out).mono ?_; rintro e w1 ⟨rfl, rfl⟩; rw [HC.out])
        go_loop [11, 12] (fun la i => ∃ k : Nat, k ≤ l.length ∧ i = .int .i64 k ∧ la = .int .i64 (lastN ks k)) (fun _ i => l.length - (intOf i).toNat)
        case atStart => exact ⟨0, Nat.zero_le _, rfl, rfl⟩
        case round =>
          obtain ⟨k, hk, rfl, rfl⟩ := hrel
          by_cases hlt : k < l.length
          · obtain ⟨b3, o3, rfl, hb3, hc3⟩ := HK3.out.some (by omega)
            have z1 := bool_at hc3 k (by omega)
            have hgd : ks.getD k false = ks[k]'(by omega) := by simp [List.getD, show k < ks.length by omega]
            have hls : lastN ks (k + 1) = if ks[k]'(by omega) then (k : Int) else lastN ks k := by rw [← hgd, lastN]
            have HLS := Lib.hid hls
            clear hc3 hls hgd
            generalize hkk : ks[k]'(by omega) = kk at *
            cases kk with
            | true =>
              go_wp2
              go_round
              case rel => exact ⟨k + 1, by omega, by go_num, by rw [HLS.out]; rfl⟩
              case measure => simp [intOf]; omega
            | false =>
              go_wp2
              go_round
              case rel => exact ⟨k + 1, by omega, by go_num, by rw [HLS.out]; rfl⟩
              case measure => simp [intOf]; omega
          · obtain rfl : k = l.length := by omega
            obtain ⟨la, hla⟩ : ∃ la, lastN ks l.length = la := ⟨_, rfl⟩
            have HLA := Lib.hid hla
            rw [hla]
            clear hla
            go_wp2_with (at_builtin; refine append_bytes rfl (.tmp 46) (.tmp 47) 22 rfl Try.underlying22 w.heap.size (.slice (some ⟨w.heap.size, 0, none⟩) 0 0) 0 [] rfl (World.ownsRow_made w #[] 0 (Nat.le_refl _) (by decide) rfl) a m c b rfl (HR.out.mono ((Below.refl _ w).alloc (Nat.le_refl _) _) (Nat.le_refl _)) (by omega) (by simp) ?_; intro a1 c1 w1 ho1 hg1; have HO1 := Lib.hid ho1; have HG1 := Lib.hid hg1; clear ho1 hg1)
            obtain ⟨g, rfl⟩ : ∃ g, a1 = some ⟨g, 0, none⟩ := by
              rcases HO1.out.2 with ⟨_, h⟩ | ⟨g, cap, _, e, _⟩
              · simp at h; omega
              · cases e; exact ⟨g, rfl⟩
            have HB1 := Lib.hid (((Below.refl _ w).alloc (Nat.le_refl _) _).grown HG1.out (by simp) (fun k e => by cases e; exact Nat.le_refl _))
            have ho1 := HO1.out
            simp only [List.nil_append, List.length_map, hbl, Nat.zero_add] at ho1
            have HO2 := Lib.hid ho1
            clear ho1 HO1
            go_loopw [14, 15] (fun i _ wr => ∃ k : Nat, k ≤ l.length ∧ i = .int .i64 k ∧ wr.ownsRow w.heap.size 5 1 (.slice (some ⟨g, 0, none⟩) m c1) m ((devN b l ks tn k).map byteV) ∧ Below w.heap.size w wr) (fun i _ _ => l.length - (intOf i).toNat)
            case atStart => exact ⟨0, Nat.zero_le _, rfl, by rw [devN_zero]; exact HO2.out, HB1.out⟩
            case round =>
              obtain ⟨k, hk, rfl, hown, hbw⟩ := hrel
              have HO := Lib.hid hown
              have HB := Lib.hid hbw
              clear hown hbw
              by_cases hlt : k < l.length
              · obtain ⟨bb, oo, rfl, hbb, hcc⟩ := HWR.out.at (by omega)
                obtain ⟨x1, a5, c5, x2, r2⟩ := hcc k hlt
                obtain ⟨n, h1, h2, h3⟩ := fits_ok (HF.out _ (List.getElem_mem hlt))
                rw [h1] at x1
                rw [h3] at x2 r2
                obtain ⟨b5, o5, rfl, hb5, hc5⟩ := r2.some (by omega)
                obtain ⟨b3, o3, rfl, hb3, hc3⟩ := HK3.out.some (by omega)
                have z0 := bool_at hc3 k (by omega)
                have hdl : (devN b l ks tn k).length = m := by rw [devN_length HF.out htn, hbl]
                have hsn := devN_succ (b := b) (torn := tn) (show ks.length = l.length by omega) hlt
                rw [h1, Int.toNat_natCast] at hsn
                have hgd : ks.getD k false = ks[k]'(by omega) := by simp [List.getD, show k < ks.length by omega]
                obtain ⟨many, hmany⟩ : ∃ many, manyN ks l.length tn k = many := ⟨_, rfl⟩
                have hmn : many = if ks[k]'(by omega) then (if (k : Int) = la then tn else 32) else 0 := by rw [← hmany, manyN, hgd, HLA.out]
                have hmn32 : many ≤ 32 := by rw [hmn]; split <;> (try split) <;> omega
                rw [hmany] at hsn
                obtain ⟨D, hD⟩ : ∃ D, devN b l ks tn k = D := ⟨_, rfl⟩
                have ho := HO.out
                rw [hD] at hsn hdl ho
                have HO3 := Lib.hid ho
                have HSN := Lib.hid hsn
                have HCC := Lib.hid hc5
                have X1 := Lib.hid x1
                have X2 := Lib.hid x2
                have Z0 := Lib.hid z0
                have HDL := Lib.hid hdl
                have HMN := Lib.hid hmn
                generalize hkk : ks[k]'(by omega) = kk at *
                clear hcc r2 hsn x1 x2 hc5 hdl h1 hc3 z0 hmn hgd hmany hD ho HO
                obtain ⟨wo, rfl⟩ : ∃ wo : World, wo = wr := ⟨_, rfl⟩
                go_wp2
                go_loopw [15] (fun j wr2 => ∃ q : Nat, q ≤ 32 ∧ j = .int .i64 q ∧ wr2.ownsRow w.heap.size 5 1 (.slice (some ⟨g, 0, none⟩) m c1) m ((putB D n l[k].2 (min q many)).map byteV) ∧ Below w.heap.size w wr2) (fun j _ => 32 - (intOf j).toNat)
                case atStart => exact ⟨0, Nat.zero_le _, rfl, by rw [Nat.zero_min, putB_none]; exact HO3.out, HB.out⟩
                case round =>
                  obtain ⟨q, hq, rfl, hown, hbw⟩ := hrel
                  have HO := Lib.hid hown
                  have HB := Lib.hid hbw
                  have z1 := (HB.out.cell (p := ⟨b3, o3 + k, none⟩) hb3).trans Z0.out
                  clear hown hbw
                  by_cases hqt : q < 32
                  · cases kk with
                    | true =>
                      by_cases hla : (k : Int) = la
                      · have hlb : ((k : Int) != la) = false := by simp [hla]
                        have hmn := HMN.out
                        rw [if_pos rfl, if_pos hla] at hmn
                        clear hla
                        by_cases hqn : q < tn
                        · have hqn' : (q : Int) < (tn : Int) := by omega
                          have hbd : Below w.heap.size w wr.drew := HB.out.drew
                          have y1 := (hbd.cell (p := ⟨bb, oo + k * 2, none⟩) hbb).trans X1.out
                          have y2 := (hbd.cell (p := ⟨bb, oo + k * 2 + 1, none⟩) hbb).trans X2.out
                          have y3 := (hbd.cell (p := ⟨b5, o5 + q, none⟩) hb5).trans (HCC.out q (by simp; omega))
                          have hps := putB_succ (d := D) (s := l[k].2) (n := n) (j := q) (by rw [HDL.out]; omega) (by omega)
                          have HPS := Lib.hid hps
                          have hm1 : IntKind.i64.wrap (32 * (n : Int)) = 32 * (n : Int) := by rw [IntKind.wrap_i64]; omega
                          have hm2 : IntKind.i64.wrap (32 * (n : Int) + (q : Int)) = 32 * (n : Int) + (q : Int) := by rw [IntKind.wrap_i64]; omega
                          have hm3 : (32 * (n : Int) + (q : Int)).toNat = 32 * n + q := by omega
                          have hq1 : 0 ≤ 32 * (n : Int) + (q : Int) := by omega
                          have hq2 : 32 * (n : Int) + (q : Int) < (m : Int) := by omega
                          have hod := own_below HO.out ((Below.refl _ wr).drew)
                          rw [show min q many = q by omega] at hod
                          have hff := own_frozen5 hod (32 * n + q)
                          have hcell : wr.drew.cell? ⟨g, 32 * n + q, none⟩ = some (byteV ((putB D n l[k].2 q)[32 * n + q]'(by rw [putB_length (by rw [HDL.out]; omega) (by omega), HDL.out]; omega))) := by
                            have hx := hod.cells (g := g) rfl (32 * n + q) (byteV ((putB D n l[k].2 q)[32 * n + q]'(by rw [putB_length (by rw [HDL.out]; omega) (by omega), HDL.out]; omega))) (by rw [List.getElem?_map, List.getElem?_eq_getElem (by rw [putB_length (by rw [HDL.out]; omega) (by omega), HDL.out]; omega)]; rfl)
                            have hadd : (⟨g, 0, none⟩ : Addr).add (32 * n + q) = ⟨g, 32 * n + q, none⟩ := by unfold Addr.add; split <;> simp_all
                            rwa [hadd] at hx
                          have HOD := Lib.hid hod
                          have HB9 := Lib.hid (HB.out.drew.setCell (p := ⟨g, 32 * n + q, none⟩) (own_ge HO.out) (byteV l[k].2[q]))
                          clear hps hbd hod
                          simp only [List.getElem_map] at y3
                          go_upto_region 20 with fail
                          refine Reg.region_JTm 18 hmo (by kernel_rfl) (by kernel_rfl) rfl (by kernel_rfl) (by kernel_rfl) (fun W' => W' = wr.drew) rfl ?_
                          simp only [List.take_succ_cons, List.take_zero, List.drop_succ_cons, List.drop_zero]
                          refine Reg.WalkT.cons ?vA0 (Reg.StepP.pure rfl ?hA0) ?rA0
                          case hA0 => intro w' hJ; subst hJ; go_simp; rfl
                          simp only [Act.put, List.setIfInBounds_toArray, List.set_cons_zero, List.set_cons_succ]
                          refine Reg.WalkT.cons ?vA1 (Reg.StepP.pure rfl ?hA1) ?rA1
                          case hA1 => intro w' hJ; subst hJ; go_simp; rfl
                          simp only [Act.put, List.setIfInBounds_toArray, List.set_cons_zero, List.set_cons_succ]
                          refine Reg.WalkT.cons ?vA2 (Reg.StepP.pure rfl ?hA2) ?rA2
                          case hA2 => intro w' hJ; subst hJ; go_simp; rfl
                          simp only [Act.put, List.setIfInBounds_toArray, List.set_cons_zero, List.set_cons_succ]
                          refine Reg.WalkT.cons ?vA3 (Reg.StepP.pure rfl ?hA3) ?rA3
                          case hA3 => intro w' hJ; subst hJ; go_simp; rfl
                          simp only [Act.put, List.setIfInBounds_toArray, List.set_cons_zero, List.set_cons_succ]
                          refine Reg.WalkT.cons ?vA4 (Reg.StepP.pure rfl ?hA4) ?rA4
                          case hA4 => intro w' hJ; subst hJ; go_simp; rfl
                          simp only [Act.put, List.setIfInBounds_toArray, List.set_cons_zero, List.set_cons_succ]
                          refine Reg.WalkT.cons ?vA5 (Reg.StepP.pure rfl ?hA5) ?rA5
                          case hA5 => intro w' hJ; subst hJ; go_simp; rfl
                          simp only [Act.put, List.setIfInBounds_toArray, List.set_cons_zero, List.set_cons_succ]
                          refine Reg.WalkT.cons ?vA6 (Reg.StepP.pure rfl ?hA6) ?rA6
                          case hA6 => intro w' hJ; subst hJ; go_simp; rfl
                          simp only [Act.put, List.setIfInBounds_toArray, List.set_cons_zero, List.set_cons_succ]
                          refine Reg.WalkT.cons ?vA7 (Reg.StepP.pure rfl ?hA7) ?rA7
                          case hA7 => intro w' hJ; subst hJ; go_simp; rfl
                          simp only [Act.put, List.setIfInBounds_toArray, List.set_cons_zero, List.set_cons_succ]
                          refine Reg.WalkT.cons ?vA8 (Reg.StepP.pure rfl ?hA8) ?rA8
                          case hA8 => intro w' hJ; subst hJ; go_simp; rfl
                          simp only [Act.put, List.setIfInBounds_toArray, List.set_cons_zero, List.set_cons_succ]
                          refine Reg.WalkT.cons ?vA9 (Reg.StepP.pure rfl ?hA9) ?rA9
                          case hA9 => intro w' hJ; subst hJ; go_simp; rfl
                          simp only [Act.put, List.setIfInBounds_toArray, List.set_cons_zero, List.set_cons_succ]
                          refine Reg.WalkT.cons ?vA10 (Reg.StepP.pure rfl ?hA10) ?rA10
                          case hA10 => intro w' hJ; subst hJ; go_simp; rfl
                          simp only [Act.put, List.setIfInBounds_toArray, List.set_cons_zero, List.set_cons_succ]
                          refine Reg.WalkT.cons ?vA11 (Reg.StepP.pure rfl ?hA11) ?rA11
                          case hA11 => intro w' hJ; subst hJ; go_simp; rfl
                          simp only [Act.put, List.setIfInBounds_toArray, List.set_cons_zero, List.set_cons_succ]
                          refine Reg.WalkT.cons ?vA12 (Reg.StepP.pure rfl ?hA12) ?rA12
                          case hA12 => intro w' hJ; subst hJ; go_simp; rfl
                          simp only [Act.put, List.setIfInBounds_toArray, List.set_cons_zero, List.set_cons_succ]
                          refine Reg.WalkT.cons ?vA13 (Reg.StepP.pure rfl ?hA13) ?rA13
                          case hA13 => intro w' hJ; subst hJ; go_simp; rfl
                          simp only [Act.put, List.setIfInBounds_toArray, List.set_cons_zero, List.set_cons_succ]
                          refine Reg.WalkT.cons ?vA14 (Reg.StepP.pure rfl ?hA14) ?rA14
                          case hA14 => intro w' hJ; subst hJ; go_simp; rfl
                          simp only [Act.put, List.setIfInBounds_toArray, List.set_cons_zero, List.set_cons_succ]
                          refine Reg.WalkT.cons ?vA15 (Reg.StepP.pure rfl ?hA15) ?rA15
                          case hA15 => intro w' hJ; subst hJ; go_simp; rfl
                          simp only [Act.put, List.setIfInBounds_toArray, List.set_cons_zero, List.set_cons_succ]
                          refine Reg.WalkT.cons ?vA16 (Reg.StepP.pure rfl ?hA16) ?rA16
                          case hA16 => intro w' hJ; subst hJ; go_simp; rfl
                          simp only [Act.put, List.setIfInBounds_toArray, List.set_cons_zero, List.set_cons_succ]
                          refine Reg.WalkT.cons ?vA17 (Reg.StepP.pure rfl ?hA17) ?rA17
                          case hA17 => intro w' hJ; subst hJ; go_simp; rfl
                          simp only [Act.put, List.setIfInBounds_toArray, List.set_cons_zero, List.set_cons_succ]
                          refine .nil fun W' hJ => ?_
                          subst hJ
                          refine wpList_store_one1 rfl 5 (.tmp 90) (.tmp 89) rfl g (32 * n + q) (byteV l[k].2[q]) _ rfl rfl rfl Try.one5 hcell hff ?_
                          go_wp2
                          go_roundw
                          case rel => exact ⟨q + 1, by omega, by go_num, by rw [show min (q + 1) many = q + 1 by omega, HPS.out, List.map_set]; exact ownsRow_set5 HOD.out _ (by omega) _, HB9.out⟩
                          case measure => simp [intOf]; omega
                        · have hqn' : ¬ ((q : Int) < (tn : Int)) := by omega
                          go_wp2
                          go_roundw
                          case rel => exact ⟨q + 1, by omega, by go_num, by rw [show min (q + 1) many = min q many by omega]; exact HO.out, HB.out⟩
                          case measure => simp [intOf]; omega
                      · have hlb : ((k : Int) != la) = true := by simp [hla]
                        have hmn := HMN.out
                        rw [if_pos rfl, if_neg hla] at hmn
                        clear hla
                        have hbd : Below w.heap.size w wr.drew := HB.out.drew
                        have y1 := (hbd.cell (p := ⟨bb, oo + k * 2, none⟩) hbb).trans X1.out
                        have y2 := (hbd.cell (p := ⟨bb, oo + k * 2 + 1, none⟩) hbb).trans X2.out
                        have y3 := (hbd.cell (p := ⟨b5, o5 + q, none⟩) hb5).trans (HCC.out q (by simp; omega))
                        have hps := putB_succ (d := D) (s := l[k].2) (n := n) (j := q) (by rw [HDL.out]; omega) (by omega)
                        have HPS := Lib.hid hps
                        have hm1 : IntKind.i64.wrap (32 * (n : Int)) = 32 * (n : Int) := by rw [IntKind.wrap_i64]; omega
                        have hm2 : IntKind.i64.wrap (32 * (n : Int) + (q : Int)) = 32 * (n : Int) + (q : Int) := by rw [IntKind.wrap_i64]; omega
                        have hm3 : (32 * (n : Int) + (q : Int)).toNat = 32 * n + q := by omega
                        have hq1 : 0 ≤ 32 * (n : Int) + (q : Int) := by omega
                        have hq2 : 32 * (n : Int) + (q : Int) < (m : Int) := by omega
                        have hod := own_below HO.out ((Below.refl _ wr).drew)
                        rw [show min q many = q by omega] at hod
                        have hff := own_frozen5 hod (32 * n + q)
                        have hcell : wr.drew.cell? ⟨g, 32 * n + q, none⟩ = some (byteV ((putB D n l[k].2 q)[32 * n + q]'(by rw [putB_length (by rw [HDL.out]; omega) (by omega), HDL.out]; omega))) := by
                          have hx := hod.cells (g := g) rfl (32 * n + q) (byteV ((putB D n l[k].2 q)[32 * n + q]'(by rw [putB_length (by rw [HDL.out]; omega) (by omega), HDL.out]; omega))) (by rw [List.getElem?_map, List.getElem?_eq_getElem (by rw [putB_length (by rw [HDL.out]; omega) (by omega), HDL.out]; omega)]; rfl)
                          have hadd : (⟨g, 0, none⟩ : Addr).add (32 * n + q) = ⟨g, 32 * n + q, none⟩ := by unfold Addr.add; split <;> simp_all
                          rwa [hadd] at hx
                        have HOD := Lib.hid hod
                        have HB9 := Lib.hid (HB.out.drew.setCell (p := ⟨g, 32 * n + q, none⟩) (own_ge HO.out) (byteV l[k].2[q]))
                        clear hps hbd hod
                        simp only [List.getElem_map] at y3
                        go_upto_region 20 with fail
                        refine Reg.region_JTm 18 hmo (by kernel_rfl) (by kernel_rfl) rfl (by kernel_rfl) (by kernel_rfl) (fun W' => W' = wr.drew) rfl ?_
                        simp only [List.take_succ_cons, List.take_zero, List.drop_succ_cons, List.drop_zero]
                        refine Reg.WalkT.cons ?vB0 (Reg.StepP.pure rfl ?hB0) ?rB0
                        case hB0 => intro w' hJ; subst hJ; go_simp; rfl
                        simp only [Act.put, List.setIfInBounds_toArray, List.set_cons_zero, List.set_cons_succ]
                        refine Reg.WalkT.cons ?vB1 (Reg.StepP.pure rfl ?hB1) ?rB1
                        case hB1 => intro w' hJ; subst hJ; go_simp; rfl
                        simp only [Act.put, List.setIfInBounds_toArray, List.set_cons_zero, List.set_cons_succ]
                        refine Reg.WalkT.cons ?vB2 (Reg.StepP.pure rfl ?hB2) ?rB2
                        case hB2 => intro w' hJ; subst hJ; go_simp; rfl
                        simp only [Act.put, List.setIfInBounds_toArray, List.set_cons_zero, List.set_cons_succ]
                        refine Reg.WalkT.cons ?vB3 (Reg.StepP.pure rfl ?hB3) ?rB3
                        case hB3 => intro w' hJ; subst hJ; go_simp; rfl
                        simp only [Act.put, List.setIfInBounds_toArray, List.set_cons_zero, List.set_cons_succ]
                        refine Reg.WalkT.cons ?vB4 (Reg.StepP.pure rfl ?hB4) ?rB4
                        case hB4 => intro w' hJ; subst hJ; go_simp; rfl
                        simp only [Act.put, List.setIfInBounds_toArray, List.set_cons_zero, List.set_cons_succ]
                        refine Reg.WalkT.cons ?vB5 (Reg.StepP.pure rfl ?hB5) ?rB5
                        case hB5 => intro w' hJ; subst hJ; go_simp; rfl
                        simp only [Act.put, List.setIfInBounds_toArray, List.set_cons_zero, List.set_cons_succ]
                        refine Reg.WalkT.cons ?vB6 (Reg.StepP.pure rfl ?hB6) ?rB6
                        case hB6 => intro w' hJ; subst hJ; go_simp; rfl
                        simp only [Act.put, List.setIfInBounds_toArray, List.set_cons_zero, List.set_cons_succ]
                        refine Reg.WalkT.cons ?vB7 (Reg.StepP.pure rfl ?hB7) ?rB7
                        case hB7 => intro w' hJ; subst hJ; go_simp; rfl
                        simp only [Act.put, List.setIfInBounds_toArray, List.set_cons_zero, List.set_cons_succ]
                        refine Reg.WalkT.cons ?vB8 (Reg.StepP.pure rfl ?hB8) ?rB8
                        case hB8 => intro w' hJ; subst hJ; go_simp; rfl
                        simp only [Act.put, List.setIfInBounds_toArray, List.set_cons_zero, List.set_cons_succ]
                        refine Reg.WalkT.cons ?vB9 (Reg.StepP.pure rfl ?hB9) ?rB9
                        case hB9 => intro w' hJ; subst hJ; go_simp; rfl
                        simp only [Act.put, List.setIfInBounds_toArray, List.set_cons_zero, List.set_cons_succ]
                        refine Reg.WalkT.cons ?vB10 (Reg.StepP.pure rfl ?hB10) ?rB10
                        case hB10 => intro w' hJ; subst hJ; go_simp; rfl
                        simp only [Act.put, List.setIfInBounds_toArray, List.set_cons_zero, List.set_cons_succ]
                        refine Reg.WalkT.cons ?vB11 (Reg.StepP.pure rfl ?hB11) ?rB11
                        case hB11 => intro w' hJ; subst hJ; go_simp; rfl
                        simp only [Act.put, List.setIfInBounds_toArray, List.set_cons_zero, List.set_cons_succ]
                        refine Reg.WalkT.cons ?vB12 (Reg.StepP.pure rfl ?hB12) ?rB12
                        case hB12 => intro w' hJ; subst hJ; go_simp; rfl
                        simp only [Act.put, List.setIfInBounds_toArray, List.set_cons_zero, List.set_cons_succ]
                        refine Reg.WalkT.cons ?vB13 (Reg.StepP.pure rfl ?hB13) ?rB13
                        case hB13 => intro w' hJ; subst hJ; go_simp; rfl
                        simp only [Act.put, List.setIfInBounds_toArray, List.set_cons_zero, List.set_cons_succ]
                        refine Reg.WalkT.cons ?vB14 (Reg.StepP.pure rfl ?hB14) ?rB14
                        case hB14 => intro w' hJ; subst hJ; go_simp; rfl
                        simp only [Act.put, List.setIfInBounds_toArray, List.set_cons_zero, List.set_cons_succ]
                        refine Reg.WalkT.cons ?vB15 (Reg.StepP.pure rfl ?hB15) ?rB15
                        case hB15 => intro w' hJ; subst hJ; go_simp; rfl
                        simp only [Act.put, List.setIfInBounds_toArray, List.set_cons_zero, List.set_cons_succ]
                        refine Reg.WalkT.cons ?vB16 (Reg.StepP.pure rfl ?hB16) ?rB16
                        case hB16 => intro w' hJ; subst hJ; go_simp; rfl
                        simp only [Act.put, List.setIfInBounds_toArray, List.set_cons_zero, List.set_cons_succ]
                        refine Reg.WalkT.cons ?vB17 (Reg.StepP.pure rfl ?hB17) ?rB17
                        case hB17 => intro w' hJ; subst hJ; go_simp; rfl
                        simp only [Act.put, List.setIfInBounds_toArray, List.set_cons_zero, List.set_cons_succ]
                        refine .nil fun W' hJ => ?_
                        subst hJ
                        refine wpList_store_one1 rfl 5 (.tmp 90) (.tmp 89) rfl g (32 * n + q) (byteV l[k].2[q]) _ rfl rfl rfl Try.one5 hcell hff ?_
                        go_wp2
                        go_roundw
                        case rel => exact ⟨q + 1, by omega, by go_num, by rw [show min (q + 1) many = q + 1 by omega, HPS.out, List.map_set]; exact ownsRow_set5 HOD.out _ (by omega) _, HB9.out⟩
                        case measure => simp [intOf]; omega
                    | false =>
                      have hmn := HMN.out
                      simp only [Bool.false_eq_true, if_false] at hmn
                      go_wp2
                      go_roundw
                      case rel => exact ⟨q + 1, by omega, by go_num, by rw [show min (q + 1) many = min q many by omega]; exact HO.out, HB.out⟩
                      case measure => simp [intOf]; omega
                  · obtain rfl : q = 32 := by omega
                    go_wp2
                    go_roundw
                    case rel => exact ⟨k + 1, by omega, by go_num, by rw [HSN.out]; have ho := HO.out; rwa [show min 32 many = many by omega] at ho, HB.out⟩
                    case measure => simp [intOf]; omega
              · obtain rfl : k = l.length := by omega
                go_wp2
                go_ret2
                rw [HCR.out]
                exact RetB.mk (by rw [devN_length HF.out htn, hbl]) HO.out HB.out
      · have hcr : crashJ b l ks torn = ([], 3) := by
          rw [crashJ, if_neg (by simp [hc]), if_neg (by omega)]
        have HCR := Lib.hid hcr
        clear hc hf hfit hle hcr
        by_cases ht1 : torn < 0
        · go_enter Try.func44, Try.ntmps44
          go_wp2_with (go_at_call 71; refine (RWrites_any _ _ _ _ _ b l _ hm (by omega) hbl HWR.out).mono ?_; rintro e w1 ⟨rfl, rfl⟩; rw [HC.out])
          go_ret2
          rw [HCR.out]
          exact RetB.none rfl rfl (Below.refl _ _)
        · have ht2 : torn > 32 := by omega
          go_enter Try.func44, Try.ntmps44
          go_wp2_with (go_at_call 71; refine (RWrites_any _ _ _ _ _ b l _ hm (by omega) hbl HWR.out).mono ?_; rintro e w1 ⟨rfl, rfl⟩; rw [HC.out])
          go_ret2
          rw [HCR.out]
          exact RetB.none rfl rfl (Below.refl _ _)
    · have hkb : ((n3 : Int) != (l.length : Int)) = true := by rw [bne_iff_ne]; omega
      have hcr : crashJ b l ks torn = ([], 3) := by
        rw [crashJ, if_neg (by simp [hc]), if_neg (by omega)]
      have HCR := Lib.hid hcr
      clear hc hf hfit hle hcr
      go_enter Try.func44, Try.ntmps44
      go_wp2_with (go_at_call 71; refine (RWrites_any _ _ _ _ _ b l _ hm (by omega) hbl HWR.out).mono ?_; rintro e w1 ⟨rfl, rfl⟩; rw [HC.out])
      go_ret2
      rw [HCR.out]
      exact RetB.none rfl rfl (Below.refl _ _)
  · have hne : (checkW b l != 0) = true := by simpa using hc
    have hcr : crashJ b l ks torn = ([], checkW b l) := by rw [crashJ, if_pos hc]
    have HCR := Lib.hid hcr
    clear hcr hc
    go_enter Try.func44, Try.ntmps44
    go_wp2_with (go_at_call 71; refine (RWrites_any _ _ _ _ _ b l _ hm (by omega) hbl HWR.out).mono ?_; rintro e w1 ⟨rfl, rfl⟩)
    go_ret2
    rw [HCR.out]
    exact RetB.none rfl rfl (Below.refl _ _)
end Go.Proofs.Ytphalijdanmkeaa
