/- The law of the spoilt byte: the walk. -/
import Derived.Test.YtphalijdanmkeaaY
import Derived.Test.YtphalijdanmkeaaAP
import Derived.Test.YtphalijdanmkeaaPE
import Derived.Test.YtphalijdanmkeaaEmp
import Derived.Test.YtphalijdanmkeaaQ
import Derived.Test.YtphalijdanmkeaaW
import Derived.Lib.ConvBytes
namespace Go.Proofs.Ytphalijdanmkeaa
open Go.RowKit Go.Shelf J

theorem lineC_ok (c : UInt8) : 32 ≤ (lineC c).toNat ∧ (lineC c).toNat ≤ 126 := by
  have h : (lineC c).toNat = (32 + c.toNat % 95) % 256 := rfl
  omega
theorem lineS_len (s : List UInt8) : 1 ≤ (lineS s).length ∧ (lineS s).length ≤ 100 := by
  unfold lineS
  split
  · decide
  · rename_i h
    have : 0 < s.length := List.length_pos_iff.2 h
    simp
    omega
theorem lineS_line (s : List UInt8) : isLine (lineS s) = true := by
  have hl := lineS_len s
  have hall : (lineS s).all (fun c => decide (32 ≤ c.toNat) && decide (c.toNat ≤ 126)) = true := by
    unfold lineS
    split
    · decide
    · refine List.all_eq_true.2 fun x hx => ?_
      obtain ⟨y, _, rfl⟩ := List.mem_map.1 hx
      have := lineC_ok y
      simp [this.1, this.2]
  simp only [isLine, hall, Bool.and_true, Bool.and_eq_true, decide_eq_true_eq]
  omega
theorem linesS_mem {l : List (List UInt8)} {most : Nat} : ∀ s ∈ linesS l most, isLine s = true ∧ s.length ≤ 100 := by
  intro s hs
  obtain ⟨x, _, rfl⟩ := List.mem_map.1 hs
  exact ⟨lineS_line x, (lineS_len x).2⟩
theorem linesS_le (l : List (List UInt8)) (most : Nat) : (linesS l most).length ≤ most := by simp [linesS]; omega

theorem writeJ_ok {l : List (List UInt8)} (h1 : l.length ≤ 60) (h2 : ∀ s ∈ l, isLine s = true) : writeJ l = (journal l, 0) := by
  rw [writeJ, if_neg (by omega), if_neg]
  intro hx
  obtain ⟨x, hx1, hx2⟩ := List.any_eq_true.1 hx
  rw [h2 x hx1] at hx2
  cases hx2

theorem wpList_append_empty {P : Program} {w : World} {ops : Array Oper} {rest : List Oper} {o : Oper} {a : Act} {Q : Exit → Act → World → Prop} (hgd : o.guard = none) (s x : Operand) (t : TypeId)
    (ho : o.op = .call { callee := .builtin .append, args := #[s, x], argTypes := #[t, t] })
    (e : TypeId) (i : TypeInfo) (z : Value) (k bytes : Nat) (ht : P.underlying t = some (.slice e)) (hi : P.info? e = some i) (hz : i.zero = some z) (hsize : i.size = k) (hby : i.bytes = bytes)
    (b : Addr) (hs : a.eval s = .slice (some b) 0 0) (ax : Option Addr) (m c : Nat) (news : List Value) (hx : a.eval x = .slice ax m c) (hr : Row k w ax m c news) (h63 : m ≤ maxLen) (hbytes : m * bytes ≤ 140737488355328)
    (h : ∀ a' c' w', Row k w' a' m c' news → Below w.heap.size w w' → wpList P ops Q rest (a.put o.dst (.slice a' m c')) w') : wpList P ops Q (o :: rest) a w := by
  refine wpList_plain hgd fun K hK => ?_
  obtain ⟨a', c', w', hrun, h2, h3⟩ := run_append_empty (P := P) w t o.type e i z k bytes ht hi hz hsize hby b ax m c news hr h63 hbytes
  unfold Oper.wp execOp
  simp only [ho, resolve, invoke, builtin, Sem.run_bind, Sem.run_pure, Result.andThen_ok, List.map_toArray, List.map_cons, List.map_nil, hs, hx, hrun]
  exact hK _ _ (h a' c' w' h2 h3)

theorem row_set {W : World} {g n c : Nat} {l : List UInt8} (h : Row 1 W (some ⟨g, 0, none⟩) n c (l.map byteV)) {k : Nat} (hk : k < n) (v : UInt8) : Row 1 (W.setCell ⟨g, k, none⟩ (byteV v)) (some ⟨g, 0, none⟩) n c ((l.set k v).map byteV) := by
  obtain ⟨h1, h2, h3, h4⟩ := h
  rcases h4 with h4 | ⟨b, o, e, hb, hc⟩
  · omega
  · cases e
    simp at h1
    refine ⟨by simp [h1], h2, h3, .inr ⟨g, 0, rfl, by simpa [World.setCell] using hb, fun i hi => ?_⟩⟩
    have hi' : i < l.length := by simpa using hi
    have hci := hc i (by simpa using hi')
    have hck := hc k (by simp; omega)
    simp only [Nat.zero_add] at hci hck ⊢
    by_cases e : i = k
    · subst e
      rw [World.cell?_setCell_same _ _ _ hck]
      simp
    · rw [World.cell?_setCell_other _ _ _ _ (fun h => e (by cases h; rfl)), hci]
      simp [List.getElem_set_ne (fun h => e h.symm)]

theorem bytes_of (W : World) (l : List UInt8) : ∃ cap W', (convert 9 22 (strV l)).run Try.prog W = .ok (.slice (some ⟨W.heap.size, 0, none⟩) l.length cap) W' ∧ Row 1 W' (some ⟨W.heap.size, 0, none⟩) l.length cap (l.map byteV) ∧ Below W.heap.size W W' ∧ ∀ k, k < l.length → W'.frozen? ⟨W.heap.size, k, none⟩ = false := by
  have hz : (⟨l.toArray⟩ : ByteArray).size = l.length := by simp [ByteArray.size]
  have hrun := Lib.run_convert_string_bytes (P := Try.prog) W 9 22 5 ⟨l.toArray⟩ Try.underlying9 Try.underlying22 Try.underlying5
  have hge := grownCap_ge W (⟨l.toArray⟩ : ByteArray).size 0 5
  have hnew := Lib.bytesWorld_at_new W 5 ⟨l.toArray⟩
  have hcs : (Lib.bytesCells W 5 ⟨l.toArray⟩).size = grownCap W l.length 0 5 := by
    rw [hz] at hge
    simp [Lib.bytesCells, hz]
    omega
  rw [hz] at hrun hge
  refine ⟨_, _, hrun, ⟨by simp, hge, (fun h => by cases h), .inr ⟨W.heap.size, 0, rfl, by rw [Lib.bytesWorld_size]; omega, fun i hi => ?_⟩⟩, ⟨rfl, rfl, rfl, by rw [Lib.bytesWorld_size]; omega, fun j hj => Lib.bytesWorld_at_old W 5 _ j hj⟩, fun k hk => ?_⟩
  · have hi' : i < l.length := by simpa using hi
    rw [Nat.zero_add, Lib.bytesWorld_cell W 5 ⟨l.toArray⟩ i (by rw [hz]; exact hi')]
    simp only [List.getElem_map, List.getD_eq_getElem?_getD, List.getElem?_eq_getElem hi', Option.getD_some]
    rfl
  · simp only [World.frozen?, hnew]
    simp [hcs]
    omega

theorem alloc_below {W W' : World} {o : Obj} (h : Below (W.alloc o).heap.size (W.alloc o) W') : Below W.heap.size W W' := ((Below.refl _ W).alloc (Nat.le_refl _) o).trans (h.mono (by simp))

set_option maxRecDepth 100000 in
set_option maxHeartbeats 4000000 in
theorem JSpoilt_any (a : Option Addr) (c : Nat) (l : List (List UInt8)) (at' : Nat) (to : UInt8) (w : World) (h : ByS w a c l) (hat : at' ≤ 65535) :
    Calls Try.prog 7 #[.slice a l.length c, .int .u16 (at' : Int), .int .u8 (to.toNat : Int)] w (Holds w) := by
  obtain ⟨i9, hi9, hz9, hy9, hx9⟩ := info_parts Try.info9
  have HI := Lib.hid hi9
  have HZ := Lib.hid hz9
  have HY := Lib.hid hy9
  have HX := Lib.hid hx9
  have HB := Lib.hid h
  clear h hi9 hz9 hy9 hx9
  have hmem := linesS_mem (l := l) (most := 12)
  have hlen := linesS_le l 12
  have hlines := fun W (h : ByS W a c l) => LinesBy_any a c 12 l W (by omega) h
  generalize linesS l 12 = L at hmem hlen hlines
  have hline : ∀ s ∈ L, isLine s = true := fun s hs => (hmem s hs).1
  have hwr := fun a c W h => Write_any a L.length c L W h (by omega) (fun s hs => by have := (hmem s hs).2; omega)
  simp only [writeJ_ok (by omega : L.length ≤ 60) hline] at hwr
  have HM := Lib.hid hmem
  have HL := Lib.hid hline
  have HLN := Lib.hid hlines
  have HWR := Lib.hid hwr
  have hjl : (journal L).length = good L := jfrom_len L 0
  have hgl := jgood_le (l := L) 100 (fun s hs => (hmem s hs).2)
  have HJL := Lib.hid hjl
  have hj4 : (journal L).length ≤ 1308 := by rw [hjl]; omega
  clear hmem hline hlines hwr hjl hgl
  by_cases hj0 : (journal L).isEmpty = true
  · go_enter Try.func7, Try.ntmps7
    go_wp2_with (first
      | (go_at_call 34; refine (HLN.out _ HB.out).mono ?_; rintro e w1 ⟨a1, c1, rfl, ho1, hb1⟩; have R1 := Lib.hid (row_of_own ho1); clear ho1)
      | (at_builtin; refine wpList_append_empty rfl (.tmp 20) (.tmp 21) 34 rfl 9 i9 (.string ⟨#[]⟩) 1 16 Try.underlying34 HI.out HZ.out HY.out HX.out _ rfl a1 L.length c1 (L.map strV) rfl (R1.out.mono ((Below.refl _ _).alloc (Nat.le_refl _) _) (Nat.le_refl _)) (by unfold maxLen; omega) (by omega) ?_; intro a2 c2 w2 r2 hb2; have R2 := Lib.hid r2; clear r2)
      | (go_at_call 32; refine (HWR.out _ _ _ R2.out).mono ?_; rintro e w3 ⟨rfl, hb3⟩)
      | (go_at_call 16; refine (known_any _).mono ?_; rintro e w5 ⟨rfl, hb5⟩)
      | fail)
    go_ret
    exact ⟨rfl, ext hb1 (ext (alloc_below hb2) (ext hb3 hb5))⟩
  · have hj1 := Bool.eq_false_iff.2 hj0
    have hj2 : ¬ journal L = [] := by intro h; rw [h] at hj0; exact hj0 rfl
    clear hj0
    go_enter Try.func7, Try.ntmps7
    go_wp2_with (first
      | (go_at_call 34; refine (HLN.out _ HB.out).mono ?_; rintro e w1 ⟨a1, c1, rfl, ho1, hb1⟩; have R1 := Lib.hid (row_of_own ho1); clear ho1)
      | (at_builtin; refine wpList_append_empty rfl (.tmp 20) (.tmp 21) 34 rfl 9 i9 (.string ⟨#[]⟩) 1 16 Try.underlying34 HI.out HZ.out HY.out HX.out _ rfl a1 L.length c1 (L.map strV) rfl (R1.out.mono ((Below.refl _ _).alloc (Nat.le_refl _) _) (Nat.le_refl _)) (by unfold maxLen; omega) (by omega) ?_; intro a2 c2 w2 r2 hb2; have R2 := Lib.hid r2; clear r2)
      | (go_at_call 32; refine (HWR.out _ _ _ R2.out).mono ?_; rintro e w3 ⟨rfl, hb3⟩)
      | fail)
    have hb13 := ext hb1 (ext (alloc_below hb2) hb3)
    have R3 := Lib.hid (R1.out.mono (ext (alloc_below hb2) hb3) (Nat.le_refl _))
    have HB3 := Lib.hid hb13
    have hpos : 0 < (journal L).length := List.length_pos_iff.2 hj2
    obtain ⟨k, hk⟩ : ∃ k : Nat, (at' : Int) % ((journal L).length : Int) = k := ⟨at' % (journal L).length, by simp⟩
    have hkl : k < (journal L).length := by
      have := Int.emod_lt_of_pos (at' : Int) (show (0 : Int) < ((journal L).length : Int) by omega)
      omega
    rw [hk]
    clear hk hb1 hb2 hb3 hb13
    go_loop [11, 12] (fun p e => ∃ q : Nat, q ≤ L.length ∧ p = .int .i64 q ∧ e = .int .i64 (good (L.take q) : Int) ∧ good (L.take q) ≤ k) (fun p _ => L.length - (intOf p).toNat)
    case atStart => exact ⟨0, Nat.zero_le _, rfl, rfl, Nat.zero_le _⟩
    case round =>
      obtain ⟨q, hq, rfl, rfl, hgk⟩ := hrel
      have hql : q < L.length := by
        rcases Nat.lt_or_ge q L.length with h | h
        · exact h
        · rw [List.take_of_length_le h, ← HJL.out] at hgk
          omega
      obtain ⟨b1, o1, rfl, hb1, hc1⟩ := R3.out.some (by omega)
      have x1 := strs_at hc1 q hql
      have hl1 := (HM.out _ (List.getElem_mem hql)).2
      have hgs := Lib.hid (jgood_take hql)
      clear hc1
      generalize hG : good (L.take q) = G at *
      by_cases hge : G + 9 + L[q].length ≤ k
      · have hge' : (G : Int) + 9 + (L[q].length : Int) ≤ (k : Int) := by omega
        go_wp2
        go_round
        case rel => exact ⟨q + 1, by omega, by go_num, by rw [hgs.out]; go_num, by rw [hgs.out]; omega⟩
        case measure => simp [intOf]; omega
      · have hge' : ¬ (G : Int) + 9 + (L[q].length : Int) ≤ (k : Int) := by omega
        obtain ⟨cap, W4, hcv, hrow, hbel, hfr⟩ := bytes_of w3 (journal L)
        have hfk := hfr k hkl
        obtain ⟨b9, o9, e9, hb9, hc9⟩ := hrow.some hpos
        cases e9
        have y1 := hc9 k (by simpa using hkl)
        simp only [Nat.zero_add, List.getElem_map, byteV] at y1
        have HRW := Lib.hid (row_set hrow hkl to)
        have HB4 := Lib.hid (ext HB3.out hbel)
        have HBS := Lib.hid (hbel.setCell (p := ⟨w3.heap.size, k, none⟩) (Nat.le_refl _) (byteV to))
        clear hrow hfr hc9 hbel
        have hsp := read_spoilt HL.out (by omega) hql (k := k) (by omega) (by omega) (c := to) hkl
        have HSP := Lib.hid hsp
        have hRL := R3.out
        clear hsp
        obtain ⟨X, hX⟩ : ∃ X, (journal L)[k] = X := ⟨_, rfl⟩
        have HX := Lib.hid hX
        rw [hX] at y1
        clear hX
        by_cases hto : X = to
        · subst hto
          go_wp2_with (go_at_call 16; refine (known_any _).mono ?_; rintro e w5 ⟨rfl, hb5⟩)
          go_ret
          exact ⟨rfl, ext HB4.out hb5⟩
        · have hn2 : ¬ X.toNat = to.toNat := fun h => hto (UInt8.toNat_inj.1 h)
          have hrd : recJ ((journal L).set k to) = (L.take q, (G : Int), 0) := by
            rw [recJ, if_pos (by simp; omega), HSP.out (by rw [HX.out]; exact hto), hG]
          have hT : (L.take q).length = q := by simp; omega
          have h22 : ∀ W, Row 1 W (some ⟨w3.heap.size, 0, none⟩) (journal L).length cap (((journal L).set k to).map byteV) → Calls Try.prog 22 #[.slice (some ⟨w3.heap.size, 0, none⟩) (journal L).length cap] W fun e w' => ∃ a6 c6, e = .returned (.tuple #[.slice a6 q c6, .int .i64 (G : Int), .int .i64 0]) ∧ Row 1 w' a6 q c6 ((L.take q).map strV) ∧ Below W.heap.size W w' := fun W h => (Recover_any _ _ cap ((journal L).set k to) W (by omega) h).mono fun e w' ⟨a6, c6, he, hr, hb⟩ => by
            rw [hrd] at he hr
            simp only [hT] at he hr
            exact ⟨a6, c6, he, hr, hb⟩
          have hpre : (L.take q).isPrefixOf L = true := List.isPrefixOf_iff_prefix.2 (List.take_prefix _ _)
          have hfst := fun a b c d W h h' => firstOf_any a b c d (L.take q) L W (by omega) (by omega) h h'
          simp only [hpre, hT] at hfst
          have H22 := Lib.hid h22
          have HF := Lib.hid hfst
          clear h22 hrd hfst hpre
          go_wp2_with (first
            | (go_at_call 22; refine (H22.out _ HRW.out).mono ?_; rintro e w6 ⟨a6, c6, rfl, hr6, hb6⟩; have R6 := Lib.hid hr6; clear hr6)
            | (go_at_call 35; refine (HF.out _ _ _ _ _ R6.out (hRL.mono (ext HBS.out hb6) (Nat.le_refl _))).mono ?_; rintro e w7 ⟨rfl, hb7⟩)
            | (go_at_call 16; refine (known_any _).mono ?_; rintro e w8 ⟨rfl, hb8⟩)
            | fail)
          go_ret
          exact ⟨rfl, ext HB3.out (ext HBS.out (ext hb6 (ext hb7 hb8)))⟩
end Go.Proofs.Ytphalijdanmkeaa
