/- The reference's Apply: the walk. -/
import Derived.Test.YtphalijdanmkeaaAK
import Derived.Deep.Cut
namespace Go.Proofs.Ytphalijdanmkeaa
open Go.RowKit Go.Shelf J

theorem ownsRow_set5 {W : World} {B g n cap : Nat} {xs : List Value} (h : W.ownsRow B 5 1 (.slice (some ⟨g, 0, none⟩) n cap) n xs) (i : Nat) (hi : i < n) (u : Value) :
    (W.setCell ⟨g, i, none⟩ u).ownsRow B 5 1 (.slice (some ⟨g, 0, none⟩) n cap) n (xs.set i u) := by
  obtain ⟨hl, h⟩ := h
  rcases h with ⟨h, _⟩ | ⟨g', cap', cur, e, hb, hg, hnc, hcm, hcs, ht⟩
  · cases h
  · cases e
    refine ⟨by simp [hl], .inr ⟨g, cap, cur.setIfInBounds i u, rfl, hb, ?_, hnc, hcm, by simp [hcs], ?_⟩⟩
    · simp [World.setCell, Array.getElem?_modify, hg]
    · simp only [Array.toList_setIfInBounds]
      rw [List.take_set, ht]

theorem own_frozen5 {W : World} {B g n cap : Nat} {xs : List Value} (h : W.ownsRow B 5 1 (.slice (some ⟨g, 0, none⟩) n cap) n xs) (i : Nat) : W.frozen? ⟨g, i, none⟩ = false := by
  rcases h.2 with ⟨h, _⟩ | ⟨g', cap', cur, e, hb, hg, _⟩
  · cases h
  · cases e
    simp [World.frozen?, hg]

theorem run_storeVar_one {P : Program} (w : World) (b o : Nat) (ty : TypeId) (v u : Value) (hv : v.oneCell' = true) (hi : (P.info? ty).map (·.size) = some 1) (hc : w.cell? ⟨b, o, none⟩ = some u) (hf : w.frozen? ⟨b, o, none⟩ = false) :
    (storeVar ty ⟨b, o, none⟩ v).run P w = .ok () (w.setCell ⟨b, o, none⟩ v) := by
  have hs : (storeCells ⟨b, o, none⟩ [v]).run P w = .ok () (w.setCell ⟨b, o, none⟩ v) := by
    have h0 : (⟨b, o, none⟩ : Addr).add 0 = ⟨b, o, none⟩ := by unfold Addr.add; split <;> simp_all
    simp [storeCells, h0, run_store P w ⟨b, o, none⟩ v .plain hv, hc, hf, Result.andThen]
  have hcs : v.cells = #[v] := by cases v <;> first | rfl | cases hv
  cases hq : P.info? ty with
  | none => simp [hq] at hi
  | some i =>
    have hsz : i.size = 1 := by simp [hq] at hi; omega
    simp [storeVar, sizeOf, typeInfo, hq, hcs, hsz, hs]

theorem wpList_store_one1 {P : Program} {ops : Array Oper} {rest : List Oper} {op : Oper} {a : Act} {w : World} {Q : Exit → Act → World → Prop} (hgd : op.guard = none) (ty : TypeId) (x y : Operand) (ho : op.op = .store ty x y)
    (b o : Nat) (v u : Value) (hx : a.eval x = .pointer (some ⟨b, o, none⟩)) (hy : a.eval y = v) (hv : v.oneCell' = true) (hi : (P.info? ty).map (·.size) = some 1) (hc : w.cell? ⟨b, o, none⟩ = some u) (hf : w.frozen? ⟨b, o, none⟩ = false)
    (h : wpList P ops Q rest (a.put op.dst undef) (w.setCell ⟨b, o, none⟩ v)) : wpList P ops Q (op :: rest) a w := by
  refine wpList_plain hgd fun K hK => ?_
  unfold Oper.wp execOp
  simp only [ho, hx, hy, Instr.storeAt, Instr.sureAddr, Sem.run_bind, Sem.run_pure, Result.andThen_ok, run_storeVar_one w b o ty v u hv hi hc hf]
  exact hK _ _ h

theorem Try.one5 : (Try.prog.info? 5).map (·.size) = some 1 := by kernel_rfl

theorem own_ge {W : World} {B g n cap : Nat} {xs : List Value} (h : W.ownsRow B 5 1 (.slice (some ⟨g, 0, none⟩) n cap) n xs) : B ≤ g := by
  rcases h.2 with ⟨h, _⟩ | ⟨g', cap', cur, e, hb, hg, _⟩
  · cases h
  · cases e; exact hb

theorem putB_none (d s : List UInt8) (n : Nat) : putB d n s 0 = d := by simp [putB]
theorem putB_succ {d s : List UInt8} {n j : Nat} (h : 32 * n + j < d.length) (hs : j < s.length) : putB d n s (j + 1) = (putB d n s j).set (32 * n + j) s[j] := by
  have h1 : (d.take (32 * n)).length = 32 * n := by simp; omega
  have h2 : (s.take j).length = j := by simp; omega
  simp only [putB]
  rw [List.set_append_right _ _ (by omega), h1, show 32 * n + j - 32 * n = j from by omega, List.set_append_right _ _ (by omega), h2, Nat.sub_self]
  rw [show 32 * n + (j + 1) = 32 * n + j + 1 from by omega, List.drop_eq_getElem_cons (show 32 * n + j < d.length by omega), List.set_cons_zero, List.take_succ_eq_append_getElem hs, List.append_assoc, List.singleton_append]

set_option maxRecDepth 100000 in
set_option maxHeartbeats 4000000 in
theorem RApply_any (a a2 : Option Addr) (m c c2 : Nat) (b : List UInt8) (l : List (Int × List UInt8)) (w : World) (hm : m ≤ 140737488355328) (hl : l.length ≤ 140737488355328) (hb : Row 1 w a m c (b.map byteV)) (h : Writes w a2 c2 l) :
    Calls Try.prog 43 #[.slice a m c, .slice a2 l.length c2] w (RetB w (applyJ b l).1 (applyJ b l).2) := by
  have hmo : Try.prog.follows .mixedOrders = true := by kernel_rfl
  have hbl : b.length = m := by simpa using hb.1
  have HR := Lib.hid hb
  have HWR := Lib.hid h
  clear hb h
  by_cases hc : checkW b l = 0
  · obtain ⟨hf, hfit⟩ := checkW_ok hc
    have hle := formed_eq b
    rw [hf] at hle
    have hle2 : b.length ≤ 8000 ∧ 0 < b.length := by simp at hle; omega
    have hap : applyJ b l = (applyW b l, 0) := by rw [applyJ, if_neg (by simp [hc])]
    have HAP := Lib.hid hap
    have HC := Lib.hid hc
    have HF := Lib.hid hfit
    clear hap hc hf hfit hle
    go_enter Try.func43, Try.ntmps43
    go_wp2_with (first
      | (go_at_call 71; refine (RWrites_any _ _ _ _ _ b l _ hm hl hbl HWR.out).mono ?_; rintro e w1 ⟨rfl, rfl⟩; rw [HC.out])
      | (at_builtin; refine append_bytes rfl (.tmp 16) (.tmp 17) 22 rfl Try.underlying22 w.heap.size (.slice (some ⟨w.heap.size, 0, none⟩) 0 0) 0 [] rfl (World.ownsRow_made w #[] 0 (Nat.le_refl _) (by decide) rfl) a m c b rfl (HR.out.mono ((Below.refl _ w).alloc (Nat.le_refl _) _) (Nat.le_refl _)) (by omega) (by simp) ?_; intro a1 c1 w1 ho1 hg1; have HO1 := Lib.hid ho1; have HG1 := Lib.hid hg1; clear ho1 hg1))
    obtain ⟨g, rfl⟩ : ∃ g, a1 = some ⟨g, 0, none⟩ := by
      rcases HO1.out.2 with ⟨_, h⟩ | ⟨g, cap, _, e, _⟩
      · simp at h; omega
      · cases e; exact ⟨g, rfl⟩
    have HB1 := Lib.hid (((Below.refl _ w).alloc (Nat.le_refl _) _).grown HG1.out (by simp) (fun k e => by cases e; exact Nat.le_refl _))
    have ho1 := HO1.out
    simp only [List.nil_append, List.length_map, hbl, Nat.zero_add] at ho1
    have HO2 := Lib.hid ho1
    clear ho1 HO1
    go_loopw [8, 9] (fun i _ wr => ∃ k : Nat, k ≤ l.length ∧ i = .int .i64 k ∧ wr.ownsRow w.heap.size 5 1 (.slice (some ⟨g, 0, none⟩) m c1) m ((applyW b (l.take k)).map byteV) ∧ Below w.heap.size w wr) (fun i _ _ => l.length - (intOf i).toNat)
    case atStart => exact ⟨0, Nat.zero_le _, rfl, HO2.out, HB1.out⟩
    case round =>
      obtain ⟨k, hk, rfl, hown, hbw⟩ := hrel
      have HO := Lib.hid hown
      have HB := Lib.hid hbw
      clear hown hbw
      by_cases hlt : k < l.length
      · obtain ⟨bb, oo, rfl, hbb, hcc⟩ := HWR.out.at (by omega)
        obtain ⟨x1, a3, c3, x2, r2⟩ := hcc k hlt
        obtain ⟨n, h1, h2, h3⟩ := fits_ok (HF.out _ (List.getElem_mem hlt))
        rw [h1] at x1
        rw [h3] at x2 r2
        obtain ⟨b5, o5, rfl, hb5, hc5⟩ := r2.some (by omega)
        have hdl : (applyW b (l.take k)).length = m := by rw [applyW_length _ _ (fun x hx => HF.out x (List.mem_of_mem_take hx)), hbl]
        have hsn := applyW_snoc b (l.take k) l[k]
        rw [← List.take_succ_eq_append_getElem hlt, h1, Int.toNat_natCast] at hsn
        have HSN := Lib.hid hsn
        have HCC := Lib.hid hc5
        have X1 := Lib.hid x1
        have X2 := Lib.hid x2
        have HDL := Lib.hid hdl
        clear hcc r2 hsn x1 x2 hc5 hdl h1
        obtain ⟨wo, rfl⟩ : ∃ wo : World, wo = wr := ⟨_, rfl⟩
        go_wp2
        go_loopw [9] (fun j wr2 => ∃ q : Nat, q ≤ 32 ∧ j = .int .i64 q ∧ wr2.ownsRow w.heap.size 5 1 (.slice (some ⟨g, 0, none⟩) m c1) m ((putB (applyW b (l.take k)) n l[k].2 q).map byteV) ∧ Below w.heap.size w wr2) (fun j _ => 32 - (intOf j).toNat)
        case atStart => exact ⟨0, Nat.zero_le _, rfl, by rw [putB_none]; exact HO.out, HB.out⟩
        case round =>
          obtain ⟨q, hq, rfl, hown, hbw⟩ := hrel
          have HO := Lib.hid hown
          have HB := Lib.hid hbw
          clear hown hbw
          by_cases hqt : q < 32
          · have hbd : Below w.heap.size w wr.drew := HB.out.drew
            have y1 := (hbd.cell (p := ⟨bb, oo + k * 2, none⟩) hbb).trans X1.out
            have y2 := (hbd.cell (p := ⟨bb, oo + k * 2 + 1, none⟩) hbb).trans X2.out
            have y3 := (hbd.cell (p := ⟨b5, o5 + q, none⟩) hb5).trans (HCC.out q (by simp; omega))
            have hps := putB_succ (d := applyW b (l.take k)) (s := l[k].2) (n := n) (j := q) (by rw [HDL.out]; omega) (by omega)
            have HPS := Lib.hid hps
            have hm1 : IntKind.i64.wrap (32 * (n : Int)) = 32 * (n : Int) := by rw [IntKind.wrap_i64]; omega
            have hm2 : IntKind.i64.wrap (32 * (n : Int) + (q : Int)) = 32 * (n : Int) + (q : Int) := by rw [IntKind.wrap_i64]; omega
            have hm3 : (32 * (n : Int) + (q : Int)).toNat = 32 * n + q := by omega
            have hq1 : 0 ≤ 32 * (n : Int) + (q : Int) := by omega
            have hq2 : 32 * (n : Int) + (q : Int) < (m : Int) := by omega
            have hod := own_below HO.out ((Below.refl _ wr).drew)
            have hff := own_frozen5 hod (32 * n + q)
            have hcell : wr.drew.cell? ⟨g, 32 * n + q, none⟩ = some (byteV ((putB (applyW b (l.take k)) n l[k].2 q)[32 * n + q]'(by rw [putB_length (by rw [HDL.out]; omega) (by omega), HDL.out]; omega))) := by
              have hx := hod.cells (g := g) rfl (32 * n + q) (byteV ((putB (applyW b (l.take k)) n l[k].2 q)[32 * n + q]'(by rw [putB_length (by rw [HDL.out]; omega) (by omega), HDL.out]; omega))) (by rw [List.getElem?_map, List.getElem?_eq_getElem (by rw [putB_length (by rw [HDL.out]; omega) (by omega), HDL.out]; omega)]; rfl)
              have hadd : (⟨g, 0, none⟩ : Addr).add (32 * n + q) = ⟨g, 32 * n + q, none⟩ := by unfold Addr.add; split <;> simp_all
              rwa [hadd] at hx
            have HOD := Lib.hid hod
            have HB9 := Lib.hid (HB.out.drew.setCell (p := ⟨g, 32 * n + q, none⟩) (own_ge HO.out) (byteV l[k].2[q]))
            clear hps hbd hod
            simp only [List.getElem_map] at y3
            go_upto_region 11 with fail
            refine Reg.region_JTm 18 hmo (by kernel_rfl) (by kernel_rfl) rfl (by kernel_rfl) (by kernel_rfl) (fun W' => W' = wr.drew) rfl ?_
            simp only [List.take_succ_cons, List.take_zero, List.drop_succ_cons, List.drop_zero]
            refine Reg.WalkT.cons ?vA0 (Reg.StepP.pure rfl ?hA0) ?rA0
            case hA0 => intro w' hJ; subst hJ; go_simp; rfl
            simp only [Act.put, List.setIfInBounds_toArray, List.set_cons_zero, List.set_cons_succ]
            refine Reg.WalkT.cons ?vA1 (Reg.StepP.pure rfl ?hA1) ?rA1
            case hA1 => intro w' hJ; subst hJ; go_simp; rfl
            simp only [Act.put, List.setIfInBounds_toArray, List.set_cons_zero, List.set_cons_succ]
            refine Reg.WalkT.cons ?vA2 (Reg.StepP.pure rfl ?hA2) ?rA2
            case hA2 => intro w' hJ; subst hJ; go_simp; rfl
            simp only [Act.put, List.setIfInBounds_toArray, List.set_cons_zero, List.set_cons_succ]
            refine Reg.WalkT.cons ?vA3 (Reg.StepP.pure rfl ?hA3) ?rA3
            case hA3 => intro w' hJ; subst hJ; go_simp; rfl
            simp only [Act.put, List.setIfInBounds_toArray, List.set_cons_zero, List.set_cons_succ]
            refine Reg.WalkT.cons ?vA4 (Reg.StepP.pure rfl ?hA4) ?rA4
            case hA4 => intro w' hJ; subst hJ; go_simp; rfl
            simp only [Act.put, List.setIfInBounds_toArray, List.set_cons_zero, List.set_cons_succ]
            refine Reg.WalkT.cons ?vA5 (Reg.StepP.pure rfl ?hA5) ?rA5
            case hA5 => intro w' hJ; subst hJ; go_simp; rfl
            simp only [Act.put, List.setIfInBounds_toArray, List.set_cons_zero, List.set_cons_succ]
            refine Reg.WalkT.cons ?vA6 (Reg.StepP.pure rfl ?hA6) ?rA6
            case hA6 => intro w' hJ; subst hJ; go_simp; rfl
            simp only [Act.put, List.setIfInBounds_toArray, List.set_cons_zero, List.set_cons_succ]
            refine Reg.WalkT.cons ?vA7 (Reg.StepP.pure rfl ?hA7) ?rA7
            case hA7 => intro w' hJ; subst hJ; go_simp; rfl
            simp only [Act.put, List.setIfInBounds_toArray, List.set_cons_zero, List.set_cons_succ]
            refine Reg.WalkT.cons ?vA8 (Reg.StepP.pure rfl ?hA8) ?rA8
            case hA8 => intro w' hJ; subst hJ; go_simp; rfl
            simp only [Act.put, List.setIfInBounds_toArray, List.set_cons_zero, List.set_cons_succ]
            refine Reg.WalkT.cons ?vA9 (Reg.StepP.pure rfl ?hA9) ?rA9
            case hA9 => intro w' hJ; subst hJ; go_simp; rfl
            simp only [Act.put, List.setIfInBounds_toArray, List.set_cons_zero, List.set_cons_succ]
            refine Reg.WalkT.cons ?vA10 (Reg.StepP.pure rfl ?hA10) ?rA10
            case hA10 => intro w' hJ; subst hJ; go_simp; rfl
            simp only [Act.put, List.setIfInBounds_toArray, List.set_cons_zero, List.set_cons_succ]
            refine Reg.WalkT.cons ?vA11 (Reg.StepP.pure rfl ?hA11) ?rA11
            case hA11 => intro w' hJ; subst hJ; go_simp; rfl
            simp only [Act.put, List.setIfInBounds_toArray, List.set_cons_zero, List.set_cons_succ]
            refine Reg.WalkT.cons ?vA12 (Reg.StepP.pure rfl ?hA12) ?rA12
            case hA12 => intro w' hJ; subst hJ; go_simp; rfl
            simp only [Act.put, List.setIfInBounds_toArray, List.set_cons_zero, List.set_cons_succ]
            refine Reg.WalkT.cons ?vA13 (Reg.StepP.pure rfl ?hA13) ?rA13
            case hA13 => intro w' hJ; subst hJ; go_simp; rfl
            simp only [Act.put, List.setIfInBounds_toArray, List.set_cons_zero, List.set_cons_succ]
            refine Reg.WalkT.cons ?vA14 (Reg.StepP.pure rfl ?hA14) ?rA14
            case hA14 => intro w' hJ; subst hJ; go_simp; rfl
            simp only [Act.put, List.setIfInBounds_toArray, List.set_cons_zero, List.set_cons_succ]
            refine Reg.WalkT.cons ?vA15 (Reg.StepP.pure rfl ?hA15) ?rA15
            case hA15 => intro w' hJ; subst hJ; go_simp; rfl
            simp only [Act.put, List.setIfInBounds_toArray, List.set_cons_zero, List.set_cons_succ]
            refine Reg.WalkT.cons ?vA16 (Reg.StepP.pure rfl ?hA16) ?rA16
            case hA16 => intro w' hJ; subst hJ; go_simp; rfl
            simp only [Act.put, List.setIfInBounds_toArray, List.set_cons_zero, List.set_cons_succ]
            refine Reg.WalkT.cons ?vA17 (Reg.StepP.pure rfl ?hA17) ?rA17
            case hA17 => intro w' hJ; subst hJ; go_simp; rfl
            simp only [Act.put, List.setIfInBounds_toArray, List.set_cons_zero, List.set_cons_succ]
            refine .nil fun W' hJ => ?_
            subst hJ
            refine wpList_store_one1 rfl 5 (.tmp 46) (.tmp 45) rfl g (32 * n + q) (byteV l[k].2[q]) _ rfl rfl rfl Try.one5 hcell hff ?_
            go_wp2
            go_roundw
            case rel => exact ⟨q + 1, by omega, by go_num, by rw [HPS.out, List.map_set]; exact ownsRow_set5 HOD.out _ (by omega) _, HB9.out⟩
            case measure => simp [intOf]; omega
          · obtain rfl : q = 32 := by omega
            go_wp2
            go_roundw
            case rel => exact ⟨k + 1, by omega, by go_num, by rw [HSN.out]; exact HO.out, HB.out⟩
            case measure => simp [intOf]; omega
      · obtain rfl : k = l.length := by omega
        go_wp2
        go_ret2
        rw [HAP.out]
        have ho := HO.out
        rw [List.take_length] at ho
        exact RetB.mk (by rw [applyW_length _ _ HF.out, hbl]) ho HB.out
  · have hne : (checkW b l != 0) = true := by simpa using hc
    have hap : applyJ b l = ([], checkW b l) := by rw [applyJ, if_pos hc]
    have HAP := Lib.hid hap
    clear hap hc
    go_enter Try.func43, Try.ntmps43
    go_wp2_with (go_at_call 71; refine (RWrites_any _ _ _ _ _ b l _ hm hl hbl HWR.out).mono ?_; rintro e w1 ⟨rfl, rfl⟩)
    go_ret2
    rw [HAP.out]
    exact RetB.none rfl rfl (Below.refl _ _)
end Go.Proofs.Ytphalijdanmkeaa
