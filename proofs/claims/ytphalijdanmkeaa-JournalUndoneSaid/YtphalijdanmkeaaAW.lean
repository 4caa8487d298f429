/- The law of undone lines: the walk. -/
import Derived.Test.YtphalijdanmkeaaAV
import Derived.Test.YtphalijdanmkeaaAR
import Derived.Test.YtphalijdanmkeaaAD
import Derived.Deep.Cut
namespace Go.Proofs.Ytphalijdanmkeaa
open Go.RowKit Go.Shelf J

theorem Try.und34' : Try.prog.underlying 34 = some (.slice (Try.prog.elem 34)) := by kernel_rfl
theorem Try.size34' (W : World) : (sizeOf (Try.prog.elem 34)).run Try.prog W = .ok 1 W := by kernel_rfl

theorem filled79 (a : Option Addr) (c : Nat) (L : List (List UInt8)) (w : World) (hL : ∀ s ∈ L, isLine s = true) (hlen : L.length ≤ 60) (hg : good L ≤ 2560) (h : Row 1 w a L.length c (L.map strV)) :
    Calls Try.prog 45 #[.slice a L.length c, .int .u8 79] w fun e w' => ∃ a' c', e = .returned (.tuple #[.slice a' 2560 c', .bool true]) ∧ Row 1 w' a' 2560 c' ((dev L 2560).map byteV) ∧ Below w.heap.size w w' := by
  have := filled_any a c L 79 w hL hlen h
  simp only [show 32 * (1 + (79 : UInt8).toNat % 80) = 2560 from rfl, if_pos hg] at this
  exact this.mono fun e w' ⟨⟨a', c', e1, r⟩, hb⟩ => ⟨a', c', e1, r, hb⟩

/-- a device after writes of which some are kept -/
theorem crash_btw {b : List UInt8} {K : List (List UInt8)} (hf : formed b = true) (hK : good K ≤ b.length) {l : List (Int × List UInt8)} (hl : ∀ w ∈ l, w ∈ toD b (journal K)) {keep : List Bool} (hk : keep.length = l.length) {torn : Int} (h0 : 0 ≤ torn) (h1 : torn ≤ 32) :
    ∃ T, crashJ b l keep torn = (T, 0) ∧ T.length = b.length ∧ btw b (dev K b.length) T := by
  have hjl : (journal K).length ≤ b.length := by rw [journal_len]; exact hK
  have hfit : ∀ w ∈ l, fits b.length w = true := fun w hw => toD_fits hf hjl w (hl w hw)
  have hc : checkW b l = 0 := by rw [checkW, if_neg (by simp [hf]), if_pos (List.all_eq_true.2 hfit)]
  have hb := btw_torn (B := b) (C := dev K b.length) (dev_len hK) (l := kept l keep) (writesOf_sub (toD_writes hf hK) fun w hw => hl w (kept_sub l keep w hw)) (many := torn.toNat) (by omega)
  exact ⟨_, by rw [crashJ, if_neg (by simp [hc]), if_pos ⟨hk, h0, h1⟩], hb.1, hb⟩

theorem applyJ_any {b : List UInt8} {K : List (List UInt8)} (hf : formed b = true) (hK : good K ≤ b.length) {l : List (Int × List UInt8)} (hl : ∀ w, w ∈ l ↔ w ∈ toD b (journal K)) : applyJ b l = (dev K b.length, 0) := by
  have hjl : (journal K).length ≤ b.length := by rw [journal_len]; exact hK
  have hfit : ∀ w ∈ l, fits b.length w = true := fun w hw => toD_fits hf hjl w ((hl w).1 hw)
  have hc : checkW b l = 0 := by rw [checkW, if_neg (by simp [hf]), if_pos (List.all_eq_true.2 hfit)]
  rw [applyJ, if_neg (by simp [hc]), apply_any hf hK hl]

theorem toD_bytes {b : List UInt8} {K : List (List UInt8)} (hf : formed b = true) (hK : good K ≤ b.length) : ∀ w ∈ toD b (journal K), w.2.length ≤ 140737488355328 := by
  intro w hw
  obtain ⟨n, _, _, h3⟩ := fits_ok (toD_fits hf (by rw [journal_len]; exact hK) w hw)
  omega

set_option maxRecDepth 100000 in
set_option maxHeartbeats 4000000 in
theorem JUndone_any (a : Option Addr) (c : Nat) (l : List (List UInt8)) (many : UInt8) (ak : Option Addr) (nk ck : Nat) (kb : List UInt8) (tn : UInt8) (w : World) (h : ByS w a c l) (hk : Row 1 w ak nk ck (kb.map byteV)) :
    Calls Try.prog 13 #[.slice a l.length c, .int .u8 (many.toNat : Int), .agg #[.slice ak nk ck, .int .u8 (tn.toNat : Int)]] w (Holds w) := by
  have hB0 := (Below.refl _ w).alloc (Nat.le_refl _) (.cells #[.slice ak nk ck, .int .u8 (tn.toNat : Int)] 68)
  have HB0 := Lib.hid hB0
  have HB := Lib.hid (h.mono hB0 (Nat.le_refl _))
  have HK := Lib.hid (hk.mono hB0 (Nat.le_refl _))
  have hc0 : (w.alloc (.cells #[.slice ak nk ck, .int .u8 (tn.toNat : Int)] 68)).cell? ⟨w.heap.size, 0, none⟩ = some (.slice ak nk ck) := by simp
  have hc1 : (w.alloc (.cells #[.slice ak nk ck, .int .u8 (tn.toNat : Int)] 68)).cell? ⟨w.heap.size, 1, none⟩ = some (.int .u8 (tn.toNat : Int)) := by simp
  have hz1 : (w.alloc (.cells #[.slice ak nk ck, .int .u8 (tn.toNat : Int)] 68)).heap.size = w.heap.size + 1 := by simp
  clear h hk hB0
  have hmem := linesS_mem (l := l) (most := 12)
  have hlen := linesS_le l 12
  have hlines := fun W (h : ByS W a c l) => LinesBy_any a c 12 l W (by omega) h
  generalize linesS l 12 = L at hmem hlen hlines
  have hline : ∀ s ∈ L, isLine s = true := fun s hs => (hmem s hs).1
  have hgl := jgood_le (l := L) 100 (fun s hs => (hmem s hs).2)
  have hg : good L ≤ 2560 := by omega
  obtain ⟨q, hq⟩ : ∃ q : Nat, (many.toNat : Int) % ((L.length : Int) + 1) = q := ⟨many.toNat % (L.length + 1), by simp⟩
  have hmt : many.toNat < 256 := many.toNat_lt
  have hqL : q ≤ L.length := by
    have := Int.emod_lt_of_pos (many.toNat : Int) (show (0 : Int) < (L.length : Int) + 1 by omega)
    omega
  obtain ⟨K, hK⟩ : ∃ K, L.take (L.length - q) = K := ⟨_, rfl⟩
  have hKl : K.length = L.length - q := by rw [← hK]; simp
  have hKline : ∀ s ∈ K, isLine s = true := fun s hs => hline s (List.mem_of_mem_take (by rw [hK]; exact hs))
  have hKg : good K ≤ 2560 := by have := jgood_take_le L (L.length - q); rw [hK] at this; omega
  have hdl : (dev L 2560).length = 2560 := dev_len hg
  have hf : formed (dev L 2560) = true := formed_of (N := 80) hdl (by omega) (by omega)
  have hKd : good K ≤ (dev L 2560).length := by rw [hdl]; exact hKg
  have hck : checkD (dev L 2560) = 0 := checkD_dev (N := 80) hline (by omega) hg rfl (by omega) (by omega)
  have hrd : read (dev L 2560) = L := read_dev hline (by omega)
  have hun : undoJ (dev L 2560) (q : Int) = ((toD (dev L 2560) (journal K)).reverse, 0) := by
    rw [undoJ, if_neg (by rw [hck]; simp), hrd, if_pos ⟨by omega, by omega⟩, Int.toNat_natCast, hK]
  obtain ⟨D, hD⟩ : ∃ D, (toD (dev L 2560) (journal K)).reverse = D := ⟨_, rfl⟩
  rw [hD] at hun
  have hDm : ∀ w, w ∈ D ↔ w ∈ toD (dev L 2560) (journal K) := fun w => by rw [← hD, List.mem_reverse]
  have hDl : D.length ≤ 2560 := by rw [← hD, List.length_reverse]; exact Nat.le_trans (toD_len _ _) (by rw [hdl]; exact Nat.le_refl _)
  have hDb : ∀ x ∈ D, x.2.length ≤ 140737488355328 := fun x hx => toD_bytes hf hKd x ((hDm x).1 hx)
  have hay := applyJ_any hf hKd hDm
  rw [hdl] at hay
  have hdK : (dev K 2560).length = 2560 := dev_len hKg
  obtain ⟨T, hcr, hTl, hbt⟩ := crash_btw hf hKd (fun w hw => (hDm w).1 hw) (keep := keepL kb D.length) (keepL_length _ _) (torn := (tn.toNat : Int) % 33) (by omega) (by omega)
  rw [hdl] at hTl hbt
  rw [← hK] at hbt
  obtain ⟨hp1, hp2⟩ := read_cut hline (by omega) hg hbt
  rw [hK] at hp2
  have hrT : recJ T = (read T, (good (read T) : Int), 0) := by rw [recJ, if_pos (by omega)]
  have hRTl := hp2.length_le
  have hRTu := hp1.length_le
  have hRTp : (read T).isPrefixOf L = true := List.isPrefixOf_iff_prefix.2 hp1
  -- the contracts
  have hf1 := fun a c W h => filled79 a c L W hline (by omega) hg h
  have hf2 : ∀ a c W, Row 1 W a (L.length - q) c (K.map strV) → Calls Try.prog 45 #[.slice a (L.length - q) c, .int .u8 79] W fun e w' => ∃ a' c', e = .returned (.tuple #[.slice a' 2560 c', .bool true]) ∧ Row 1 w' a' 2560 c' ((dev K 2560).map byteV) ∧ Below W.heap.size W w' := by
    intro a c W h
    rw [← hKl] at h ⊢
    exact filled79 a c K W hKline (by omega) hKg h
  have hwf : (Lit.int .i64 (q : Int)).wf = true := by simp [Lit.wf, IntKind.min, IntKind.max, IntKind.signed, IntKind.bits]; omega
  have hu : ∀ a c W, Row 1 W a 2560 c ((dev L 2560).map byteV) → Calls Try.prog 37 #[.slice a 2560 c, .int .i64 (q : Int)] W (RetWrE W D 0) := by
    intro a c W h
    have := Undo_any a 2560 c (dev L 2560) (q : Int) W (by omega) hwf h
    rwa [hun] at this
  have hap : ∀ a a2 c c2 W, Row 1 W a 2560 c ((dev L 2560).map byteV) → Writes W a2 c2 D → Calls Try.prog 41 #[.slice a 2560 c, .slice a2 D.length c2] W fun e w' => ∃ a' c', e = .returned (.tuple #[.slice a' 2560 c', .int .i64 0]) ∧ Row 1 w' a' 2560 c' ((dev K 2560).map byteV) ∧ Below W.heap.size W w' := by
    intro a a2 c c2 W h h2
    refine (Apply_any a a2 2560 c c2 (dev L 2560) D W (by omega) (by omega) h h2).mono ?_
    rintro e w' ⟨a', c', he, ho, hb⟩
    rw [hay] at he ho
    simp only [hdK] at he ho
    exact ⟨a', c', he, row_of_own ho, hb⟩
  have haf : ∀ a a2 c c2 W, Row 1 W ak nk ck (kb.map byteV) → Row 1 W a 2560 c ((dev L 2560).map byteV) → Writes W a2 c2 D → Calls Try.prog 47 #[.agg #[.slice ak nk ck, .int .u8 (tn.toNat : Int)], .slice a 2560 c, .slice a2 D.length c2] W fun e w' => ∃ a' c', e = .returned (.tuple #[.slice a' 2560 c', .int .i64 0]) ∧ Row 1 w' a' 2560 c' (T.map byteV) ∧ Below W.heap.size W w' := by
    intro a a2 c c2 W hk h h2
    refine (after_any ak a a2 nk ck 2560 c c2 kb (dev L 2560) tn D W hk (by omega) (by omega) hDb h h2).mono ?_
    rintro e w' ⟨a', c', he, hr, hb⟩
    rw [hcr] at he hr
    simp only [hTl] at he hr
    exact ⟨a', c', he, hr, hb⟩
  have hre : ∀ a c W, Row 1 W a 2560 c (T.map byteV) → Calls Try.prog 22 #[.slice a 2560 c] W fun e w' => ∃ a' c', e = .returned (.tuple #[.slice a' (read T).length c', .int .i64 (good (read T) : Int), .int .i64 0]) ∧ Row 1 w' a' (read T).length c' ((read T).map strV) ∧ Below W.heap.size W w' := by
    intro a c W h
    refine (Recover_any a 2560 c T W (by omega) h).mono ?_
    rintro e w' ⟨a', c', he, hr, hb⟩
    rw [hrT] at he hr
    exact ⟨a', c', he, hr, hb⟩
  have hfi := fun a b c d W h h' => firstOf_any a b c d (read T) L W (by omega) (by omega) h h'
  simp only [hRTp] at hfi
  generalize read T = RT at hre hfi hRTl hRTu
  rw [hKl] at hRTl
  have hcp := fun a c W h => copied_any a c D W (by omega) hDb h
  have HLN := Lib.hid hlines
  have HF1 := Lib.hid hf1
  have HF2 := Lib.hid hf2
  have HU := Lib.hid hu
  have HAP := Lib.hid hap
  have HAF := Lib.hid haf
  have HRE := Lib.hid hre
  have HFI := Lib.hid hfi
  have HCP := Lib.hid hcp
  have HKt := Lib.hid hK
  have hge : (L.length : Int) - (q : Int) ≤ (RT.length : Int) := by omega
  clear hmem hlines hline hgl hg hKl hKline hKg hdl hf hKd hck hrd hun hD hDm hDb hay hdK hcr hTl hbt hp1 hp2 hrT hRTp hf1 hf2 hwf hu hap haf hre hfi hcp hK
  go_enter Try.func13, Try.ntmps13
  go_upto_region 1 with fail
  generalize hW1 : w.alloc (.cells #[.slice ak nk ck, .int .u8 (tn.toNat : Int)] 68) = W1 at *
  have HL0 := Lib.hid (show (⟨w.heap.size, 0, none⟩ : Addr).block < W1.heap.size by rw [hz1]; exact Nat.lt_succ_self _)
  have HL1 := Lib.hid (show (⟨w.heap.size, 1, none⟩ : Addr).block < W1.heap.size by rw [hz1]; exact Nat.lt_succ_self _)
  have HC0 := Lib.hid hc0
  have HC1 := Lib.hid hc1
  clear hz1 hc0 hc1
  go_upto_region 6 with (first
    | (go_at_call 34; refine (HLN.out _ HB.out).mono ?_; rintro e w1 ⟨a1, c1, rfl, ho1, hb1⟩; have R1 := Lib.hid (row_of_own ho1); clear ho1)
    | (go_at_call 45; refine (HF1.out _ _ _ R1.out).mono ?_; rintro e wf ⟨af, cf, rfl, hrf, hbf⟩; have RF := Lib.hid hrf; clear hrf)
    | fail)
  rw [hq]
  have HBF := Lib.hid (ext hb1 hbf)
  have RL := Lib.hid (R1.out.mono hbf (Nat.le_refl _))
  obtain ⟨a3, c3, hsl, hr3⟩ := slice_h (P := Try.prog) RL.out Try.und34' Try.size34' ((L.length : Int) - (q : Int)) (by omega) (by omega)
  have hqn : ((L.length : Int) - (q : Int)).toNat = L.length - q := by omega
  simp only [hqn, Nat.mul_one, ← List.map_take, HKt.out] at hsl hr3
  have R3 := Lib.hid hr3
  clear hq hr3 hqn hb1 hbf
  go_upto_region 8 with (first
    | (go_at_call 21; refine (own_any af 2560 cf (dev L 2560) wf RF.out (by omega)).mono ?_; rintro e w2 ⟨a2, c2, rfl, ho2, hb2⟩; have R2 := Lib.hid (row_of_own ho2); clear ho2)
    | (go_at_call 37; refine (HU.out _ _ _ R2.out).mono ?_; intro e w4 h4; obtain ⟨a4, c4, rfl, hr4, hb4⟩ := h4.toP; have R4 := Lib.hid hr4; clear h4 hr4)
    | (go_at_call 45; refine (HF2.out _ _ _ (R3.out.mono (ext hb2 hb4) (Nat.le_refl _))).mono ?_; rintro e w5 ⟨a5, c5, rfl, hr5, hb5⟩; have R5 := Lib.hid hr5; clear hr5)
    | fail)
  have HB5 := Lib.hid (ext hb2 (ext hb4 hb5))
  have R45 := Lib.hid (R4.out.mono hb5 (Nat.le_refl _))
  clear hb2 hb4 hb5 hsl
  go_upto_region 11 with (first
    | (go_at_call 21; refine (own_any af 2560 cf (dev L 2560) w5 (RF.out.mono HB5.out (Nat.le_refl _)) (by omega)).mono ?_; rintro e w6 ⟨a6, c6, rfl, ho6, hb6⟩; have R6 := Lib.hid (row_of_own ho6); clear ho6)
    | (go_at_call 46; refine (HCP.out _ _ _ (R45.out.mono hb6 (Nat.le_refl _))).mono ?_; rintro e w7 ⟨a7, c7, rfl, hr7, hb7⟩; have R7 := Lib.hid hr7; clear hr7)
    | (go_at_call 41; refine (HAP.out _ _ _ _ _ (R6.out.mono hb7 (Nat.le_refl _)) R7.out).mono ?_; rintro e w8 ⟨a8, c8, rfl, hr8, hb8⟩; have R8 := Lib.hid hr8; clear hr8)
    | fail)
  have HB8 := Lib.hid (ext hb6 (ext hb7 hb8))
  have P8 := Lib.hid (ext HBF.out (ext HB5.out HB8.out))
  have z0 := (P8.out.cell HL0.out).trans HC0.out
  have z1 := (P8.out.cell HL1.out).trans HC1.out
  clear hb6 hb7 hb8
  go_wp2_with (first
    | (go_at_call 47; refine (HAF.out af a4 cf c4 w8 (HK.out.mono P8.out (Nat.le_refl _)) (RF.out.mono (ext HB5.out HB8.out) (Nat.le_refl _)) (R45.out.mono HB8.out (Nat.le_refl _))).mono ?_; rintro e w9 ⟨a9, c9, rfl, hr9, hb9⟩; have R9 := Lib.hid hr9; clear hr9)
    | (go_at_call 22; refine (HRE.out _ _ _ R9.out).mono ?_; rintro e w10 ⟨a10, c10, rfl, hr10, hb10⟩; have R10 := Lib.hid hr10; clear hr10; have k1 := run_conv (P := Try.prog) (R8.out.mono (ext hb9 hb10) (Nat.le_refl _)) 22 9 5 Try.underlying22 Try.underlying5 Try.underlying9; have k2 := run_conv (P := Try.prog) (R5.out.mono (ext HB8.out (ext hb9 hb10)) (Nat.le_refl _)) 22 9 5 Try.underlying22 Try.underlying5 Try.underlying9)
    | (go_at_call 35; refine (HFI.out a10 a1 c10 c1 w10 R10.out (RL.out.mono (ext HB5.out (ext HB8.out (ext hb9 hb10))) (Nat.le_refl _))).mono ?_; rintro e w11 ⟨rfl, hb11⟩)
    | (go_at_call 16; refine (known_any _).mono ?_; rintro e wk ⟨rfl, hbk⟩)
    | fail)
  go_ret
  exact ⟨rfl, HB0.out.trans ((ext P8.out (ext hb9 (ext hb10 (ext hb11 hbk)))).mono HB0.out.size)⟩
end Go.Proofs.Ytphalijdanmkeaa
