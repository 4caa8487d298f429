/- The law of torn writes: the walk. -/
import Derived.Test.YtphalijdanmkeaaAX
namespace Go.Proofs.Ytphalijdanmkeaa
open Go.RowKit Go.Shelf J

/-- the line of the law's last step -/
def J.soL : List UInt8 := [108, 101, 116, 32, 115, 111, 32, 61, 32, 49, 59]

set_option maxRecDepth 100000 in
set_option maxHeartbeats 8000000 in
theorem JTorn_any (a : Option Addr) (c : Nat) (l : List (List UInt8)) (ak : Option Addr) (nk ck : Nat) (kb : List UInt8) (tn : UInt8) (ay : Option Addr) (ny cy : Nat) (kb' : List UInt8) (tn' : UInt8) (w : World) (h : ByS w a c l) (hk : Row 1 w ak nk ck (kb.map byteV)) (hy : Row 1 w ay ny cy (kb'.map byteV)) :
    Calls Try.prog 12 #[.slice a l.length c, .agg #[.slice ak nk ck, .int .u8 (tn.toNat : Int)], .agg #[.slice ay ny cy, .int .u8 (tn'.toNat : Int)]] w (Holds w) := by
  obtain ⟨i9, hi9, hz9, hy9, hx9⟩ := info_parts Try.info9
  have HI := Lib.hid hi9
  have HZ := Lib.hid hz9
  have HY9 := Lib.hid hy9
  have HX := Lib.hid hx9
  have hB0 := ((Below.refl _ w).alloc (Nat.le_refl _) (.cells #[.slice ak nk ck, .int .u8 (tn.toNat : Int)] 68)).alloc (by simp) (.cells #[.slice ay ny cy, .int .u8 (tn'.toNat : Int)] 68)
  have HB0 := Lib.hid hB0
  have HB := Lib.hid (h.mono hB0 (Nat.le_refl _))
  have HK := Lib.hid (hk.mono hB0 (Nat.le_refl _))
  have HY := Lib.hid (hy.mono hB0 (Nat.le_refl _))
  obtain ⟨W1, hW1⟩ : ∃ W1, (w.alloc (.cells #[.slice ak nk ck, .int .u8 (tn.toNat : Int)] 68)).alloc (.cells #[.slice ay ny cy, .int .u8 (tn'.toNat : Int)] 68) = W1 := ⟨_, rfl⟩
  have hc0 : W1.cell? ⟨w.heap.size, 0, none⟩ = some (.slice ak nk ck) := by rw [← hW1]; simp
  have hc1 : W1.cell? ⟨w.heap.size, 1, none⟩ = some (.int .u8 (tn.toNat : Int)) := by rw [← hW1]; simp
  have hc2 : W1.cell? ⟨w.heap.size + 1, 0, none⟩ = some (.slice ay ny cy) := by rw [← hW1]; simp
  have hc3 : W1.cell? ⟨w.heap.size + 1, 1, none⟩ = some (.int .u8 (tn'.toNat : Int)) := by rw [← hW1]; simp
  have hz1 : W1.heap.size = w.heap.size + 2 := by rw [← hW1]; simp
  have HL0 := Lib.hid (show w.heap.size < W1.heap.size by omega)
  have HL1 := Lib.hid (show w.heap.size + 1 < W1.heap.size by omega)
  have HC0 := Lib.hid hc0
  have HC1 := Lib.hid hc1
  have HC2 := Lib.hid hc2
  have HC3 := Lib.hid hc3
  rw [hW1] at HB0 HB HK HY
  clear h hk hy hB0 hc0 hc1 hc2 hc3 hz1 hi9 hz9 hy9 hx9
  have hmem := linesS_mem (l := l) (most := 10)
  have hlen := linesS_le l 10
  have hlines := fun W (h : ByS W a c l) => LinesBy_any a c 10 l W (by omega) h
  generalize linesS l 10 = M at hmem hlen hlines
  by_cases hM : M = []
  · subst hM
    have HLN := Lib.hid hlines
    clear hlines hmem
    go_enter Try.func12, Try.ntmps12
    go_upto_region 1 with fail
    clear hW1
    go_wp2_with (first
      | (go_at_call 34; refine (HLN.out _ HB.out).mono ?_; rintro e w1 ⟨a1, c1, rfl, ho1, hb1⟩)
      | (go_at_call 16; refine (known_any _).mono ?_; rintro e wk ⟨rfl, hbk⟩)
      | fail)
    go_ret
    exact ⟨rfl, HB0.out.trans ((ext hb1 hbk).mono HB0.out.size)⟩
  · obtain ⟨L, x, rfl⟩ : ∃ L x, M = L ++ [x] := ⟨M.dropLast, M.getLast hM, (List.dropLast_concat_getLast hM).symm⟩
    have hML : (L ++ [x]).length = L.length + 1 := by simp
    rw [hML] at hlen
    have hMline : ∀ s ∈ L ++ [x], isLine s = true := fun s hs => (hmem s hs).1
    have hLline : ∀ s ∈ L, isLine s = true := fun s hs => hMline s (List.mem_append_left _ hs)
    have hxline : isLine x = true := hMline x (by simp)
    have hgM := jgood_le (l := L ++ [x]) 100 (fun s hs => (hmem s hs).2)
    rw [hML] at hgM
    have hgM2 : good (L ++ [x]) ≤ 2560 := by omega
    have hgx := jgood_snoc L x
    have hgL : good L ≤ 2560 := by omega
    have hdL : (dev L 2560).length = 2560 := dev_len hgL
    have hdM : (dev (L ++ [x]) 2560).length = 2560 := dev_len hgM2
    have hf : formed (dev L 2560) = true := formed_of (N := 80) hdL (by omega) (by omega)
    have hgM3 : good (L ++ [x]) ≤ (dev L 2560).length := by rw [hdL]; exact hgM2
    obtain ⟨T, hcr, hTl, hbt⟩ := crash_between hf hgM3 (keep := keepL kb (toD (dev L 2560) (journal (L ++ [x]))).length) (keepL_length _ _) (torn := (tn.toNat : Int) % 33) (by omega) (by omega)
    rw [hdL] at hTl hbt
    have hgrow := read_grow hMline (by omega) hgM2 hbt
    have hfT : formed T = true := formed_of (N := 80) hTl (by omega) (by omega)
    obtain ⟨E, U, hcl1, hEl, hEb, hcU, hUl, hrU, haE, hcase⟩ := clean_all (kb := kb') hfT (torn := (tn'.toNat : Int) % 33) (by omega) (by omega)
    rw [hTl] at hEl hUl haE
    have hRl : ∀ s ∈ read T, isLine s = true := by
      rcases hgrow with ⟨_, e⟩ | ⟨_, e⟩ <;> rw [e]
      · exact hMline
      · exact hLline
    have hRlen : (read T).length ≤ 10 := by
      rcases hgrow with ⟨_, e⟩ | ⟨_, e⟩ <;> rw [e]
      · rw [hML]; omega
      · omega
    have hRg : good (read T) ≤ 1090 := by
      rcases hgrow with ⟨_, e⟩ | ⟨_, e⟩ <;> rw [e] <;> omega
    have hap1 := apply_dev (b := dev L 2560) (K := L ++ [x]) hf hgM3
    rw [hdL] at hap1
    obtain ⟨b, hb⟩ : ∃ b, (T == dev (L ++ [x]) 2560) = b := ⟨_, rfl⟩
    have hbR : (b = true → read T = L ++ [x]) ∧ (b = false → read T = L) := by
      rcases hgrow with ⟨e1, e2⟩ | ⟨e1, e2⟩
      · refine ⟨fun _ => e2, fun h => ?_⟩
        rw [h] at hb
        simp [e1] at hb
      · refine ⟨fun h => ?_, fun _ => e2⟩
        rw [h] at hb
        exact absurd (by simpa using hb) e1
    have hDl : (toD (dev L 2560) (journal (L ++ [x]))).length ≤ 2560 := Nat.le_trans (toD_len _ _) (by rw [hdL]; exact Nat.le_refl _)
    have hDb := toD_bytes' hf hgM3
    -- the contracts of the first half
    have hlines2 : ∀ W (h : ByS W a c l), Calls Try.prog 34 #[.slice a l.length c, .int .i64 10] W fun e w' => ∃ a' c', e = .returned (.slice a' (L.length + 1) c') ∧ Row 1 w' a' (L.length + 1) c' ((L ++ [x]).map strV) ∧ Below W.heap.size W w' := by
      intro W h
      refine (hlines W h).mono ?_
      rintro e w' ⟨a', c', he, ho, hb⟩
      simp only [hML] at he ho
      exact ⟨a', c', he, row_of_own ho, hb⟩
    have HLN := Lib.hid hlines2
    have HF1 := Lib.hid (fun a c W h => c_filled a c L W hLline (by omega) hgL h)
    have HAP := Lib.hid (fun a c W r => c_append (K := L) (s := x) hLline (by omega) hxline (by omega) a c W r)
    have HCP := Lib.hid (fun a c W h => copied_any a c (toD (dev L 2560) (journal (L ++ [x]))) W (by omega) hDb h)
    have HAY := Lib.hid (fun a a2 c c2 W r hw => c_apply (b := dev L 2560) (by omega) hap1 hdM a a2 c c2 W r hw)
    have HAF := Lib.hid (fun a a2 c c2 W hk r hw => c_after (b := dev L 2560) (by omega) hDb hcr hTl ak a a2 nk ck c c2 W hk r hw)
    obtain ⟨RT, hRT⟩ : ∃ RT, read T = RT := ⟨_, rfl⟩
    rw [hRT] at hRl hRlen hRg haE hbR hrU
    have HRT := Lib.hid (fun a c W r => c_recover hTl hRT a c W r)
    -- of the second half
    have hrec6 : ∀ a c W, Row 1 W a 2560 c (T.map byteV) → Calls Try.prog 25 #[.slice a 2560 c] W (RetWrE W E (cleanJ T).2) := by
      intro a c W r
      have := Clean_any a 2560 c T W (by omega) r
      rwa [hcl1] at this
    have HCL := Lib.hid hrec6
    have HCK := Lib.hid (fun a c W r => Check_any a 2560 c T W (by omega) r)
    have HAF2 := Lib.hid (fun a a2 c c2 W hk r hw => c_after (b := T) (by omega) hEb hcU hUl ay a a2 ny cy c c2 W hk r hw)
    have HRU := Lib.hid (fun a c W r => c_recover hUl hrU a c W r)
    have hdV : (dev RT 2560).length = 2560 := dev_len (by omega)
    have HAY2 := Lib.hid (fun a a2 c c2 W r hw => c_apply (b := T) (E := E) (by omega) haE hdV a a2 c c2 W r hw)
    have hckV : checkD (dev RT 2560) = 0 := checkD_dev (N := 80) hRl (by omega) (by omega) rfl (by omega) (by omega)
    have hck2 := fun a c W r => Check_any a 2560 c (dev RT 2560) W (by omega) r
    simp only [hckV] at hck2
    have HCK2 := Lib.hid hck2
    have hso : isLine soL = true := by decide
    have HAP2 := Lib.hid (fun a c W r => c_append (K := RT) (s := soL) hRl (by omega) hso (by show good RT + 20 ≤ 2560; omega) a c W r)
    have hgS : good (RT ++ [soL]) = good RT + 20 := by rw [jgood_snoc]; rfl
    have hSl : ∀ s ∈ RT ++ [soL], isLine s = true := by
      intro s hs
      rcases List.mem_append.1 hs with hs | hs
      · exact hRl s hs
      · rw [List.mem_singleton.1 hs]; exact hso
    have hfV : formed (dev RT 2560) = true := formed_of (N := 80) hdV (by omega) (by omega)
    have hdS : (dev (RT ++ [soL]) 2560).length = 2560 := dev_len (by omega)
    have hap3 := apply_dev (b := dev RT 2560) (K := RT ++ [soL]) hfV (by rw [hdV]; omega)
    rw [hdV] at hap3
    have hGl : (toD (dev RT 2560) (journal (RT ++ [soL]))).length ≤ 2560 := Nat.le_trans (toD_len _ _) (by rw [hdV]; exact Nat.le_refl _)
    have HAY3 := Lib.hid (fun a a2 c c2 W r hw => c_apply (b := dev RT 2560) (E := toD (dev RT 2560) (journal (RT ++ [soL]))) (by omega) hap3 hdS a a2 c c2 W r hw)
    have hSlen : (RT ++ [soL]).length = RT.length + 1 := by simp
    have hrecS := fun a c W r => c_recover (b := dev (RT ++ [soL]) 2560) hdS (read_dev hSl (by rw [hSlen]; omega)) a c W r
    simp only [hSlen] at hrecS
    have HRS := Lib.hid hrecS
    have hpre1 : RT.isPrefixOf RT = true := List.isPrefixOf_iff_prefix.2 (List.prefix_refl _)
    have hpre2 : RT.isPrefixOf (RT ++ [soL]) = true := List.isPrefixOf_iff_prefix.2 (List.prefix_append _ _)
    have hfi1 := fun a b c d W h h' => firstOf_any a b c d RT RT W (by omega) (by omega) h h'
    simp only [hpre1] at hfi1
    have hfi2 := fun a b c d W h h' => firstOf_any a b c d RT (RT ++ [soL]) W (by omega) (by rw [hSlen]; omega) h h'
    simp only [hpre2, hSlen] at hfi2
    have HFI1 := Lib.hid hfi1
    have HFI2 := Lib.hid hfi2
    have HBR := Lib.hid hbR
    have HCASE := Lib.hid hcase
    generalize hDD : toD (dev L 2560) (journal (L ++ [x])) = D at *
    generalize hGG : toD (dev RT 2560) (journal (RT ++ [soL])) = G at *
    generalize dev (L ++ [x]) 2560 = C at *
    generalize dev (RT ++ [soL]) 2560 = S at *
    generalize dev RT 2560 = V at *
    generalize dev L 2560 = B at *
    generalize (cleanJ T).2 = ie at *
    generalize checkD T = ct at *
    generalize good (RT ++ [soL]) = gS at *
    generalize good RT = gR at *
    clear hmem hMline hLline hxline hgM hgM2 hgx hgL hdL hdM hf hgM3 hcr hTl hbt hgrow hfT hcl1 hEb hcU hUl hrU haE hcase hRl hap1 hbR hDb hlines hlines2 hrec6 hRT hdV hckV hck2 hso hgS hSl hfV hdS hap3 hSlen hrecS hpre1 hpre2 hfi1 hfi2 hDD hGG hM hML
    go_enter Try.func12, Try.ntmps12
    go_upto_region 1 with fail
    clear hW1
    go_upto_region 4 with (first
      | (go_at_call 34; refine (HLN.out _ HB.out).mono ?_; rintro e w1 ⟨a1, c1, rfl, hr1, hb1⟩; have R1 := Lib.hid hr1; clear hr1)
      | fail)
    obtain ⟨b1, o1, rfl, hlb1, hc1⟩ := R1.out.some (by omega)
    have x1 : w1.cell? ⟨b1, o1 + L.length, none⟩ = some (strV x) := by
      rw [hc1 L.length (by simp)]
      simp
    obtain ⟨a3, c3, hsl, hr3⟩ := slice_h (P := Try.prog) R1.out Try.und34t Try.size34t (L.length : Int) (by omega) (by omega)
    have htk : (L ++ [x]).take L.length = L := List.take_left
    simp only [Int.toNat_natCast, Nat.mul_one, ← List.map_take, htk] at hsl hr3
    have R3 := Lib.hid hr3
    clear hc1 hr3 htk
    go_upto_region 9 with (first
      | (go_at_call 45; refine (HF1.out _ _ _ R3.out).mono ?_; rintro e wf ⟨af, cf, rfl, hrf, hbf⟩; have RF := Lib.hid hrf; clear hrf)
      | fail)
    have HBF := Lib.hid (ext hb1 hbf)
    have RL := Lib.hid (R3.out.mono hbf (Nat.le_refl _))
    clear hb1 hbf hsl x1
    go_upto_region 12 with (first
      | (go_at_call 21; refine (own_any af 2560 cf B wf RF.out (by omega)).mono ?_; rintro e w2 ⟨a2, c2, rfl, ho2, hb2⟩; have R2 := Lib.hid (row_of_own ho2); clear ho2)
      | (go_at_call 36; refine (HAP.out _ _ _ R2.out).mono ?_; intro e w4 h4; obtain ⟨a4, c4, rfl, hr4, hb4⟩ := h4.toP; have R4 := Lib.hid hr4; clear h4 hr4)
      | fail)
    have HB4 := Lib.hid (ext hb2 hb4)
    clear hb2 hb4
    go_upto_region 13 with (first
      | (go_at_call 21; refine (own_any af 2560 cf B w4 (RF.out.mono HB4.out (Nat.le_refl _)) (by omega)).mono ?_; rintro e w6 ⟨a6, c6, rfl, ho6, hb6⟩; have R6 := Lib.hid (row_of_own ho6); clear ho6)
      | (go_at_call 46; refine (HCP.out _ _ _ (R4.out.mono hb6 (Nat.le_refl _))).mono ?_; rintro e w7 ⟨a7, c7, rfl, hr7, hb7⟩; have R7 := Lib.hid hr7; clear hr7)
      | (go_at_call 41; refine (HAY.out _ _ _ _ _ (R6.out.mono hb7 (Nat.le_refl _)) R7.out).mono ?_; rintro e w8 ⟨a8, c8, rfl, hr8, hb8⟩; have R8 := Lib.hid hr8; clear hr8)
      | fail)
    have HB8 := Lib.hid (ext hb6 (ext hb7 hb8))
    have P8 := Lib.hid (ext HBF.out (ext HB4.out HB8.out))
    have z0 := (P8.out.cell (p := ⟨w.heap.size, 0, none⟩) HL0.out).trans HC0.out
    have z1 := (P8.out.cell (p := ⟨w.heap.size, 1, none⟩) HL0.out).trans HC1.out
    clear hb6 hb7 hb8
    go_upto_region 16 with (first
      | (go_at_call 47; refine (HAF.out af a4 cf c4 w8 (HK.out.mono P8.out (Nat.le_refl _)) (RF.out.mono (ext HB4.out HB8.out) (Nat.le_refl _)) (R4.out.mono HB8.out (Nat.le_refl _))).mono ?_; rintro e w9 ⟨a9, c9, rfl, hr9, hb9⟩; have R9 := Lib.hid hr9; clear hr9)
      | fail)
    have HB9 := Lib.hid hb9
    clear hb9 z0 z1
    go_upto_region 18 with (first
      | (go_at_call 21; refine (own_any a9 2560 c9 T w9 R9.out (by omega)).mono ?_; rintro e w10 ⟨a10, c10, rfl, ho10, hb10⟩; have R10 := Lib.hid (row_of_own ho10); clear ho10)
      | (go_at_call 22; refine (HRT.out _ _ _ R10.out).mono ?_; rintro e w11 ⟨a11, c11, rfl, hr11, hb11⟩; have R11 := Lib.hid hr11; clear hr11)
      | fail)
    have HB11 := Lib.hid (ext hb10 hb11)
    clear hb10 hb11
    have k1 := run_conv (P := Try.prog) (R9.out.mono HB11.out (Nat.le_refl _)) 22 9 5 Try.underlying22 Try.underlying5 Try.underlying9
    have k2 := run_conv (P := Try.prog) (R8.out.mono (ext HB9.out HB11.out) (Nat.le_refl _)) 22 9 5 Try.underlying22 Try.underlying5 Try.underlying9
    have RL11 := Lib.hid (RL.out.mono (ext HB4.out (ext HB8.out (ext HB9.out HB11.out))) (Nat.le_refl _))
    go_upto_if 109 with fail
    clear k1 k2
    go_cut [20] from 110 to 115 (fun v wc => ∃ (aw : Option Addr) (cw : Nat), v = .slice aw RT.length cw ∧ Row 1 wc aw RT.length cw (RT.map strV) ∧ Below w11.heap.size w11 wc)
    case first =>
      have hbr := HBR.out
      cases b with
      | false =>
        obtain rfl := hbr.2 rfl
        clear hb
        go_wp2
        go_meet
        exact ⟨a3, c3, rfl, RL11.out, Below.refl _ _⟩
      | true =>
        have hRTe := Lib.hid (hbr.1 rfl)
        clear hb hbr
        go_wp2_with (first
          | (have x' := HO20; at_builtin; refine wpList_append_own _ rfl (.tmp 112) (.tmp 114) 34 rfl w11.heap.size 9 i9 _ 1 16 Try.underlying34 HI.out HZ.out HY9.out HX.out rfl (by decide) _ _ _ rfl (HO20.out.alloc _) ⟨w20.heap.size, 0, none⟩ 1 1 [strV x] rfl rfl (one_cell _ _ _ _ (by simp)) (by intro u hu; simp at hu; subst hu; rfl) (by unfold maxLen; omega) (by omega) (by have := HB20.out.size; simp only [World.size_alloc]; omega) ?_; intro v' w21 hown' hgrow _; obtain ⟨a21, c21, rfl, _⟩ := own_row hown')
          | (at_builtin; refine wpList_append_row rfl (.tmp 110) (.tmp 111) 34 rfl w11.heap.size 9 i9 (.string ⟨#[]⟩) 1 16 Try.underlying34 HI.out HZ.out HY9.out HX.out rfl (by decide) (.slice (some ⟨w11.heap.size, 0, none⟩) 0 0) 0 [] rfl (World.ownsRow_made w11 #[] 0 (Nat.le_refl _) (by decide) rfl) a3 L.length c3 (L.map strV) rfl (RL11.out.mono ((Below.refl _ w11).alloc (Nat.le_refl _) _) (Nat.le_refl _)) (strs_one _) (by unfold maxLen; omega) (by omega) (by simp) ?_; intro a20 c20 w20 ho20 hg20; simp only [Nat.zero_add, List.nil_append] at ho20; have HO20 := Lib.hid ho20; have HB20 := Lib.hid (((Below.refl _ w11).alloc (Nat.le_refl _) (.cells #[] 9)).grown hg20 (by simp) (fun k e => by cases e; exact Nat.le_refl _)); clear ho20 hg20)
          | fail)
        go_meet
        have hb21 := own_grown (HB20.out.alloc HB20.out.size (.cells #[strV x] 9)) (HO20.out.alloc _) hgrow (by have := HB20.out.size; simp only [World.size_alloc]; omega)
        have hr21 := row_of_own hown'
        have he : RT.length = L.length + 1 := by rw [hRTe.out]; simp
        refine ⟨a21, c21, by rw [he], ?_, hb21⟩
        rw [he, hRTe.out, List.map_append]
        exact hr21
    case rest =>
    obtain ⟨aw, cw, rfl, rww, hbw⟩ := hcut
    have RW := Lib.hid rww
    have HBW := Lib.hid hbw
    have hgr : ¬ (2560 : Int) < (gR : Int) := by omega
    have hgr2 : ¬ 2560 < gR := by omega
    clear rww hbw hb
    go_upto_region 22 with (first
      | (go_at_call 35; refine (HFI1.out a11 aw c11 cw wc (R11.out.mono HBW.out (Nat.le_refl _)) RW.out).mono ?_; rintro e w12 ⟨rfl, hb12⟩)
      | fail)
    have HB12 := Lib.hid (ext HB11.out (ext HBW.out hb12))
    have RW12 := Lib.hid (RW.out.mono hb12 (Nat.le_refl _))
    clear hb12
    go_upto_region 23 with (first
      | (go_at_call 21; refine (own_any a9 2560 c9 T w12 (R9.out.mono HB12.out (Nat.le_refl _)) (by omega)).mono ?_; rintro e w14 ⟨a14, c14, rfl, ho14, hb14⟩; have R14 := Lib.hid (row_of_own ho14); clear ho14)
      | (go_at_call 25; refine (HCL.out _ _ _ R14.out).mono ?_; intro e w15 h15; obtain ⟨a15, c15, rfl, hr15, hb15⟩ := h15.toP; have R15 := Lib.hid hr15; clear h15 hr15)
      | fail)
    have HB15 := Lib.hid (ext hb14 hb15)
    have RT15 := Lib.hid (R9.out.mono (ext HB12.out HB15.out) (Nat.le_refl _))
    clear hb14 hb15
    go_cut [162] from 143 to 162 (fun v wc2 => v = .bool false ∧ Below w15.heap.size w15 wc2)
    case first =>
      rcases HCASE.out with ⟨e1, e2, e3⟩ | ⟨e1, e2⟩
      · have q1 : (ie != 0) = true := by simp [e1]
        have q2 : (ie != 6) = false := by simp [e1]
        have q3 : (ie == 6) = true := by simp [e1]
        have q4 : ((E.length : Int) != 0) = false := by simp [e2]
        have q5 : (ct == 0) = true := by simp [e3]
        clear e1 e2 e3
        go_wp2_with (first
          | (go_at_call 21; refine (own_any a9 2560 c9 T w15 RT15.out (by omega)).mono ?_; rintro e w16 ⟨a16, c16, rfl, ho16, hb16⟩; have R16 := Lib.hid (row_of_own ho16); clear ho16)
          | (go_at_call 23; refine (HCK.out _ _ _ R16.out).mono ?_; rintro e w17 ⟨rfl, hb17⟩)
          | fail)
        go_meet
        exact ⟨rfl, ext hb16 hb17⟩
      · have q1 : (ie != 0) = false := by simp [e1]
        have q3 : (ie == 6) = false := by simp [e1]
        have q5 : (ct == 0) = false := by simp [e2]
        clear e1 e2
        go_wp2_with (first
          | (go_at_call 21; refine (own_any a9 2560 c9 T w15 RT15.out (by omega)).mono ?_; rintro e w16 ⟨a16, c16, rfl, ho16, hb16⟩; have R16 := Lib.hid (row_of_own ho16); clear ho16)
          | (go_at_call 23; refine (HCK.out _ _ _ R16.out).mono ?_; rintro e w17 ⟨rfl, hb17⟩)
          | fail)
        go_meet
        exact ⟨rfl, ext hb16 hb17⟩
    case rest =>
    obtain ⟨rfl, hbc2⟩ := hcut
    have HBC2 := Lib.hid hbc2
    have P18 := Lib.hid (ext P8.out (ext HB9.out (ext HB12.out (ext HB15.out HBC2.out))))
    have z2 := (P18.out.cell (p := ⟨w.heap.size + 1, 0, none⟩) HL1.out).trans HC2.out
    have z3 := (P18.out.cell (p := ⟨w.heap.size + 1, 1, none⟩) HL1.out).trans HC3.out
    have RT18 := Lib.hid (RT15.out.mono HBC2.out (Nat.le_refl _))
    have RE18 := Lib.hid (R15.out.mono HBC2.out (Nat.le_refl _))
    have RW18 := Lib.hid (RW12.out.mono (ext HB15.out HBC2.out) (Nat.le_refl _))
    clear hbc2
    go_upto_region 27 with (first
      | (go_at_call 47; refine (HAF2.out a9 a15 c9 c15 wc (HY.out.mono P18.out (Nat.le_refl _)) RT18.out RE18.out).mono ?_; rintro e w19 ⟨a19, c19, rfl, hr19, hb19⟩; have R19 := Lib.hid hr19; clear hr19)
      | (go_at_call 22; refine (HRU.out _ _ _ R19.out).mono ?_; rintro e w20 ⟨a20, c20, rfl, hr20, hb20⟩; have R20 := Lib.hid hr20; clear hr20)
      | fail)
    have HB20 := Lib.hid (ext hb19 hb20)
    clear hb19 hb20 z2 z3
    go_upto_region 28 with (first
      | (go_at_call 21; refine (own_any a9 2560 c9 T w20 (RT18.out.mono HB20.out (Nat.le_refl _)) (by omega)).mono ?_; rintro e w21 ⟨a21, c21, rfl, ho21, hb21⟩; have R21 := Lib.hid (row_of_own ho21); clear ho21)
      | (go_at_call 41; refine (HAY2.out _ _ _ _ _ R21.out (RE18.out.mono (ext HB20.out hb21) (Nat.le_refl _))).mono ?_; rintro e w22 ⟨a22, c22, rfl, hr22, hb22⟩; have R22 := Lib.hid hr22; clear hr22)
      | fail)
    have HB22 := Lib.hid (ext hb21 hb22)
    clear hb21 hb22
    go_upto_region 30 with (first
      | (go_at_call 35; refine (HFI1.out a20 aw c20 cw w22 (R20.out.mono HB22.out (Nat.le_refl _)) (RW18.out.mono (ext HB20.out HB22.out) (Nat.le_refl _))).mono ?_; rintro e w23 ⟨rfl, hb23⟩)
      | (go_at_call 21; refine (own_any a22 2560 c22 V w23 (R22.out.mono hb23 (Nat.le_refl _)) (by omega)).mono ?_; rintro e w24 ⟨a24, c24, rfl, ho24, hb24⟩; have R24 := Lib.hid (row_of_own ho24); clear ho24)
      | (go_at_call 23; refine (HCK2.out _ _ _ R24.out).mono ?_; rintro e w25 ⟨rfl, hb25⟩)
      | fail)
    have HB25 := Lib.hid (ext hb23 (ext hb24 hb25))
    clear hb23 hb24 hb25
    go_upto_region 33 with (first
      | (go_at_call 21; refine (own_any a22 2560 c22 V w25 (R22.out.mono HB25.out (Nat.le_refl _)) (by omega)).mono ?_; rintro e w26 ⟨a26, c26, rfl, ho26, hb26⟩; have R26 := Lib.hid (row_of_own ho26); clear ho26)
      | (go_at_call 36; refine (HAP2.out _ _ _ R26.out).mono ?_; intro e w27 h27; obtain ⟨a27, c27, rfl, hr27, hb27⟩ := h27.toP; have R27 := Lib.hid hr27; clear h27 hr27)
      | fail)
    have HB27 := Lib.hid (ext HB25.out (ext hb26 hb27))
    clear hb26 hb27
    go_upto_region 35 with (first
      | (go_at_call 41; refine (HAY3.out a22 a27 c22 c27 w27 (R22.out.mono HB27.out (Nat.le_refl _)) R27.out).mono ?_; rintro e w28 ⟨a28, c28, rfl, hr28, hb28⟩; have R28 := Lib.hid hr28; clear hr28)
      | (go_at_call 22; refine (HRS.out _ _ _ R28.out).mono ?_; rintro e w29 ⟨a29, c29, rfl, hr29, hb29⟩; have R29 := Lib.hid hr29; clear hr29)
      | fail)
    have HB29 := Lib.hid (ext hb28 hb29)
    clear hb28 hb29
    obtain ⟨b29, o29, rfl, hl29, hc29⟩ := R29.out.some (by omega)
    have y29 : w29.cell? ⟨b29, o29 + RT.length, none⟩ = some (.string ⟨#[108, 101, 116, 32, 115, 111, 32, 61, 32, 49, 59]⟩) := by
      rw [hc29 RT.length (by simp)]
      simp
      rfl
    have Y29 := Lib.hid y29
    clear hc29 y29
    go_wp2_with (first
      | (go_at_call 35; refine (HFI2.out aw (some ⟨b29, o29, none⟩) cw c29 w29 (RW18.out.mono (ext HB20.out (ext HB22.out (ext HB27.out HB29.out))) (Nat.le_refl _)) R29.out).mono ?_; rintro e w30 ⟨rfl, hb30⟩; have y30 := (hb30.cell (p := ⟨b29, o29 + RT.length, none⟩) hl29).trans Y29.out)
      | (go_at_call 16; refine (known_any _).mono ?_; rintro e wk ⟨rfl, hbk⟩)
      | fail)
    go_ret
    exact ⟨rfl, HB0.out.trans ((ext P18.out (ext HB20.out (ext HB22.out (ext HB27.out (ext HB29.out (ext hb30 hbk)))))).mono HB0.out.size)⟩
end Go.Proofs.Ytphalijdanmkeaa
