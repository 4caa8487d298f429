/- A device with the journal of lines: the walk; to append to bytes that came of a text. -/
import Derived.Test.YtphalijdanmkeaaAQ
import Derived.Test.YtphalijdanmkeaaPF
import Derived.Laws.IdiomCopy
namespace Go.Proofs.Ytphalijdanmkeaa
open Go.RowKit Go.Shelf J

theorem below_setCells {B b : Nat} {A : World} : ∀ (vs : List Value) (o : Nat) (w : World), Below B A w → B ≤ b → Below B A (w.setCells b o vs)
  | [], _, _, h, _ => h
  | v :: r, o, w, h, hb => by
    rw [World.setCells]
    exact below_setCells r (o + 1) _ (h.setCell (p := ⟨b, o, none⟩) hb v) hb

theorem setCells_size {b : Nat} : ∀ (vs : List Value) (o : Nat) (w : World), (w.setCells b o vs).heap.size = w.heap.size
  | [], _, _ => rfl
  | v :: r, o, w => by rw [World.setCells, setCells_size r]; simp [World.setCell]

/-- to append to a slice whose cells are known and may be written up to its capacity -/
theorem run_append_there {P : Program} (W : World) (B : Nat) (t ty e : TypeId) (i : TypeInfo) (z : Value) (ht : P.underlying t = some (.slice e)) (hi : P.info? e = some i) (hz : i.zero = some z)
    (hsize : i.size = 1) (hby : i.bytes = 1) (g n cap : Nat) (xs : List Value) (hx : xs.length = n) (hcells : ∀ j (h : j < xs.length), W.cell? ⟨g, j, none⟩ = some xs[j])
    (hthere : ∀ j, j < cap → (W.cell? ⟨g, j, none⟩).isSome = true ∧ W.frozen? ⟨g, j, none⟩ = false) (hnc : n ≤ cap) (hg : g < W.heap.size)
    (ax : Option Addr) (m c : Nat) (news : List Value) (hr : Row 1 W ax m c news) (h1 : ∀ u ∈ news, u.oneCell' = true) (hbytes : n + m ≤ 140737488355328) (hB : B ≤ g) :
    ∃ a' c' w', (Builtin.append_ #[t, t] ty #[.slice (some ⟨g, 0, none⟩) n cap, .slice ax m c]).run P W = .ok (.slice a' (n + m) c') w' ∧ Row 1 w' a' (n + m) c' (xs ++ news) ∧ Below B W w' := by
  obtain ⟨hl, hmc, hnil, hcell⟩ := hr
  rw [Nat.mul_one] at hl
  by_cases hroom : n + m ≤ cap
  · have hf : (Builtin.firstCells 1 m (.slice ax m c)).run P W = .ok news.toArray W := by
      cases ax with
      | none =>
        obtain rfl := hnil rfl
        obtain rfl : m = 0 := by omega
        obtain rfl : news = [] := List.eq_nil_of_length_eq_zero (by omega)
        rfl
      | some a =>
        refine run_firstCells_some (P := P) W 1 m a m c news (by omega) fun j u hj => ?_
        have hj' : j < news.length := (List.getElem?_eq_some_iff.1 hj).1
        rcases hcell with h0 | ⟨b, o, e, _, hc⟩
        · omega
        · obtain rfl := Option.some.inj e
          have hp : (⟨b, o, none⟩ : Addr).add j = ⟨b, o + j, none⟩ := by unfold Addr.add; split <;> simp_all
          rw [hp, hc j hj', ← hj, List.getElem?_eq_getElem hj']
    have hst := run_storeCells_cells (P := P) g n news 0 W (fun j hj => (hthere (n + 0 + j) (by omega)).1) (fun j hj => (hthere (n + 0 + j) (by omega)).2) h1
    simp only [Nat.add_zero] at hst
    refine ⟨some ⟨g, 0, none⟩, cap, W.setCells g n news, ?_, ⟨by simp; omega, hroom, (fun h => by cases h), .inr ⟨g, 0, rfl, by rw [setCells_size]; exact hg, fun j hj => ?_⟩⟩, below_setCells news n W (Below.refl _ _) hB⟩
    · simp [Builtin.append_, run_underlying ht, sizeOf, typeInfo, hi, hsize, Builtin.lenOf, hroom, hf, Addr.add_lit, hst]
    · rw [Nat.zero_add]
      by_cases hjn : j < n
      · rw [World.cell?_setCells_out g news n W ⟨g, j, none⟩ (fun _ _ => .inl hjn), hcells j (by omega), List.getElem_append_left (by omega)]
      · have := World.cell?_setCells_in g news n W (fun q hq => (hthere (n + q) (by omega)).1) (j - n) (by simp at hj; omega)
        rw [show n + (j - n) = j by omega] at this
        rw [this, List.getElem_append_right (by omega)]
        simp [hx]
  · have hm : 0 < m := by omega
    rcases hcell with h | ⟨g2, o2, rfl, hg2, hc2⟩
    · omega
    have hadd : ∀ b o j, (⟨b, o, none⟩ : Addr).add j = ⟨b, o + j, none⟩ := fun b o j => by unfold Addr.add; split <;> simp_all
    have hrun := run_append_grow (P := P) (w := W) t ty e i z ht hi hz ⟨g, 0, none⟩ n cap xs (by rw [hsize, hx, Nat.mul_one])
      (fun j u hj => by
        have hj' : j < xs.length := (List.getElem?_eq_some_iff.1 hj).1
        rw [hadd, Nat.zero_add, hcells j hj', ← hj, List.getElem?_eq_getElem hj']) ⟨g2, o2, none⟩ m c news (by rw [hsize]; omega)
      (fun j u hj => by
        have hj' : j < news.length := (List.getElem?_eq_some_iff.1 hj).1
        rw [hadd, hc2 j hj', ← hj, List.getElem?_eq_getElem hj']) (by omega) (by omega) (by rw [hby]; exact growslice_fits (by omega) (by omega))
    refine ⟨_, _, _, hrun, ⟨by simp; omega, grownCap_ge _ _ _ _, (fun h => by cases h), .inr ⟨W.heap.size, 0, rfl, by simp, fun j hj => ?_⟩⟩, ((Below.refl _ W).drew).alloc (by show B ≤ W.heap.size; omega) _⟩
    have hnew := heap_alloc_new W.drew (.cells (xs.toArray ++ news.toArray ++ Builtin.zeroCells z.cells (grownCap W (n + m) cap e - (n + m))) e)
    rw [Nat.zero_add, cell_of_row _ W.heap.size j _ e (0, 0) hnew]
    have hj' : j < xs.length + news.length := by simpa using hj
    rw [Array.getElem?_append_left (by simpa using hj')]
    have : (xs.toArray ++ news.toArray) = (xs ++ news).toArray := by simp
    rw [this]
    simp [hj']

/-- bytes that came of a text: what lies there -/
theorem bytes_of2 (W : World) (l : List UInt8) : ∃ cap W', (convert 9 22 (strV l)).run Try.prog W = .ok (.slice (some ⟨W.heap.size, 0, none⟩) l.length cap) W' ∧ Row 1 W' (some ⟨W.heap.size, 0, none⟩) l.length cap (l.map byteV) ∧ Below W.heap.size W W' ∧ W'.heap.size = W.heap.size + 1 ∧ ∀ k, k < cap → (W'.cell? ⟨W.heap.size, k, none⟩).isSome = true ∧ W'.frozen? ⟨W.heap.size, k, none⟩ = false := by
  have hz : (⟨l.toArray⟩ : ByteArray).size = l.length := by simp [ByteArray.size]
  have hrun := Lib.run_convert_string_bytes (P := Try.prog) W 9 22 5 ⟨l.toArray⟩ Try.underlying9 Try.underlying22 Try.underlying5
  have hge := grownCap_ge W (⟨l.toArray⟩ : ByteArray).size 0 5
  have hnew := Lib.bytesWorld_at_new W 5 ⟨l.toArray⟩
  have hcs : (Lib.bytesCells W 5 ⟨l.toArray⟩).size = grownCap W l.length 0 5 := by
    rw [hz] at hge
    simp [Lib.bytesCells, hz]
    omega
  rw [hz] at hrun hge
  refine ⟨_, _, hrun, ⟨by simp, hge, (fun h => by cases h), .inr ⟨W.heap.size, 0, rfl, by rw [Lib.bytesWorld_size]; omega, fun i hi => ?_⟩⟩, ⟨rfl, rfl, rfl, by rw [Lib.bytesWorld_size]; omega, fun j hj => Lib.bytesWorld_at_old W 5 _ j hj⟩, Lib.bytesWorld_size _ _ _, fun k hk => ⟨?_, ?_⟩⟩
  · have hi' : i < l.length := by simpa using hi
    rw [Nat.zero_add, Lib.bytesWorld_cell W 5 ⟨l.toArray⟩ i (by rw [hz]; exact hi')]
    simp only [List.getElem_map, List.getD_eq_getElem?_getD, List.getElem?_eq_getElem hi', Option.getD_some]
    rfl
  · rw [cell_of_row _ W.heap.size k _ 5 _ hnew]
    simp [hcs, hk]
  · simp only [World.frozen?, hnew]
    simp [hcs]
    omega

theorem wpList_append_there {P : Program} {W : World} {ops : Array Oper} {rest : List Oper} {o : Oper} {a : Act} {Q : Exit → Act → World → Prop} (hgd : o.guard = none) (s x : Operand) (t : TypeId)
    (ho : o.op = .call { callee := .builtin .append, args := #[s, x], argTypes := #[t, t] })
    (B : Nat) (e : TypeId) (i : TypeInfo) (z : Value) (ht : P.underlying t = some (.slice e)) (hi : P.info? e = some i) (hz : i.zero = some z) (hsize : i.size = 1) (hby : i.bytes = 1)
    (g n cap : Nat) (xs : List Value) (hs : a.eval s = .slice (some ⟨g, 0, none⟩) n cap) (hrow : Row 1 W (some ⟨g, 0, none⟩) n cap xs)
    (hthere : ∀ j, j < cap → (W.cell? ⟨g, j, none⟩).isSome = true ∧ W.frozen? ⟨g, j, none⟩ = false) (hg : g < W.heap.size)
    (ax : Option Addr) (m c : Nat) (news : List Value) (hx : a.eval x = .slice ax m c) (hr : Row 1 W ax m c news) (h1 : ∀ u ∈ news, u.oneCell' = true) (hbytes : n + m ≤ 140737488355328) (hB : B ≤ g)
    (h : ∀ a' c' w', Row 1 w' a' (n + m) c' (xs ++ news) → Below B W w' → wpList P ops Q rest (a.put o.dst (.slice a' (n + m) c')) w') : wpList P ops Q (o :: rest) a W := by
  refine wpList_plain hgd fun K hK => ?_
  have hcells : ∀ j (h : j < xs.length), W.cell? ⟨g, j, none⟩ = some xs[j] := fun j hj => by
    rcases hrow.2.2.2 with h0 | ⟨b, o, e, _, hc⟩
    · have := hrow.1; omega
    · cases e
      have := hc j hj
      rwa [Nat.zero_add] at this
  obtain ⟨a', c', w', hrun, h2, h3⟩ := run_append_there (P := P) W B t o.type e i z ht hi hz hsize hby g n cap xs (by have := hrow.1; omega) hcells hthere hrow.2.1 hg ax m c news hr h1 hbytes hB
  unfold Oper.wp execOp
  simp only [ho, resolve, invoke, builtin, Sem.run_bind, Sem.run_pure, Result.andThen_ok, List.map_toArray, List.map_cons, List.map_nil, hs, hx, hrun]
  exact hK _ _ (h a' c' w' h2 h3)

set_option maxRecDepth 100000 in
set_option maxHeartbeats 4000000 in
theorem filled_any (a : Option Addr) (c : Nat) (L : List (List UInt8)) (blocks : UInt8) (w : World) (hL : ∀ s ∈ L, isLine s = true) (hlen : L.length ≤ 60) (h : Row 1 w a L.length c (L.map strV)) :
    Calls Try.prog 45 #[.slice a L.length c, .int .u8 (blocks.toNat : Int)] w fun e w' => (if good L ≤ 32 * (1 + blocks.toNat % 80) then ∃ a' c', e = .returned (.tuple #[.slice a' (32 * (1 + blocks.toNat % 80)) c', .bool true]) ∧ Row 1 w' a' (32 * (1 + blocks.toNat % 80)) c' ((dev L (32 * (1 + blocks.toNat % 80))).map byteV)
      else e = .returned (.tuple #[.slice none 0 0, .bool false])) ∧ Below w.heap.size w w' := by
  obtain ⟨i9, hi9, hz9, hy9, hx9⟩ := info_parts Try.info9
  have HI := Lib.hid hi9
  have HZ := Lib.hid hz9
  have HY := Lib.hid hy9
  have HX := Lib.hid hx9
  obtain ⟨i5, hi5, hz5, hy5, hx5⟩ := info_parts Try.info5
  have HI5 := Lib.hid hi5
  have HZ5 := Lib.hid hz5
  have HY5 := Lib.hid hy5
  have HX5 := Lib.hid hx5
  clear hi9 hz9 hy9 hx9 hi5 hz5 hy5 hx5
  have HR := Lib.hid h
  have HL := Lib.hid hL
  have hwr := fun a c W h => Write_any a L.length c L W h (by omega) (fun s hs => by have := (jline_len (hL s hs)).2; omega)
  simp only [writeJ_ok hlen hL] at hwr
  have HWR := Lib.hid hwr
  have hgl := jgood_le (l := L) 120 (fun s hs => (jline_len (hL s hs)).2)
  have hjl := journal_len L
  obtain ⟨N, hN⟩ : ∃ N, 1 + blocks.toNat % 80 = N := ⟨_, rfl⟩
  have hN1 : 1 ≤ N ∧ N ≤ 80 := by omega
  have hNi : (1 + (blocks.toNat : Int) % 80).toNat = N := by omega
  have hfm := fun W => Format_ok (1 + (blocks.toNat : Int) % 80) W (by omega) (by omega)
  simp only [hNi] at hfm
  have HFM := Lib.hid hfm
  have HJL := Lib.hid hjl
  rw [hN]
  have hj4 : (journal L).length ≤ 7740 := by rw [hjl]; omega
  have hbt : blocks.toNat < 256 := blocks.toNat_lt
  clear h hL hwr hgl hfm hNi hN
  by_cases hfit : (journal L).length ≤ 32 * N
  · have hfit' : ¬ 32 * N < (journal L).length := by omega
    have hfg : good L ≤ 32 * N := by rw [← HJL.out]; exact hfit
    simp only [if_pos hfg]
    clear hjl
    go_enter Try.func45, Try.ntmps45
    go_upto_region 5 with (first
      | (go_at_call 14; refine (HFM.out _).mono ?_; rintro e w1 ⟨a1, c1, rfl, ho1, hb1⟩; have R1 := Lib.hid (row_of_own ho1); clear ho1)
      | (at_builtin; refine wpList_append_empty rfl (.tmp 19) (.tmp 20) 34 rfl 9 i9 (.string ⟨#[]⟩) 1 16 Try.underlying34 HI.out HZ.out HY.out HX.out _ rfl a L.length c (L.map strV) rfl (HR.out.mono (hb1.trans (((Below.refl _ _).alloc (Nat.le_refl _) _).mono hb1.size)) (Nat.le_refl _)) (by unfold maxLen; omega) (by omega) ?_; intro a2 c2 w2 r2 hb2; have R2 := Lib.hid r2; clear r2)
      | (go_at_call 32; refine (HWR.out _ _ _ R2.out).mono ?_; rintro e w3 ⟨rfl, hb3⟩)
      | fail)
    have HB3 := Lib.hid (ext hb1 (ext (alloc_below hb2) hb3))
    obtain ⟨cap, W4, hcv, hrow, hbel, hsz4, hthere⟩ := bytes_of2 w3 (journal L)
    have hb14 := ext (alloc_below hb2) (ext hb3 hbel)
    obtain ⟨a4, c4, hsl, hr4⟩ := slice_l (P := Try.prog) (R1.out.mono hb14 (Nat.le_refl _)) Try.und22 Try.size5 ((journal L).length : Int) (by omega) (by omega)
    simp only [Int.toNat_natCast, Nat.mul_one] at hsl hr4
    have ROW := Lib.hid hrow
    have THERE := Lib.hid hthere
    have R4 := Lib.hid hr4
    have HB4 := Lib.hid (ext HB3.out hbel)
    have HS4 := Lib.hid hsz4
    have HBEL := Lib.hid hbel
    clear hrow hthere hr4 hsz4 hbel hb14 hb1 hb2 hb3
    go_wp2_with (at_builtin; refine wpList_append_there rfl (.tmp 39) (.tmp 43) 22 rfl w3.heap.size 5 i5 (.int .u8 0) Try.underlying22 HI5.out HZ5.out HY5.out HX5.out w3.heap.size (journal L).length cap ((journal L).map byteV) rfl ROW.out THERE.out (by rw [HS4.out]; omega) a4 (32 * N - (journal L).length) c4 (((nulls (32 * N)).map byteV).drop (journal L).length) rfl R4.out (by intro u hu; exact bytes_one _ u (List.mem_of_mem_drop hu)) (by omega) (Nat.le_refl _) ?_; intro a5 c5 w5 r5 hb5)
    go_ret2
    have he : (journal L).length + (32 * N - (journal L).length) = 32 * N := by omega
    rw [he] at r5
    refine ⟨⟨a5, c5, rfl, ?_⟩, ext HB3.out (HBEL.out.trans hb5)⟩
    have hd : (journal L).map byteV ++ ((nulls (32 * N)).map byteV).drop (journal L).length = (dev L (32 * N)).map byteV := by
      rw [dev, List.map_append, ← List.map_drop, nulls, List.drop_replicate, HJL.out]
    rw [← hd]
    exact r5
  · have hfit' : 32 * N < (journal L).length := by omega
    have hfg : ¬ good L ≤ 32 * N := by rw [← HJL.out]; exact hfit
    simp only [if_neg hfg]
    clear hjl
    go_enter Try.func45, Try.ntmps45
    go_wp2_with (first
      | (go_at_call 14; refine (HFM.out _).mono ?_; rintro e w1 ⟨a1, c1, rfl, ho1, hb1⟩; have R1 := Lib.hid (row_of_own ho1); clear ho1)
      | (at_builtin; refine wpList_append_empty rfl (.tmp 19) (.tmp 20) 34 rfl 9 i9 (.string ⟨#[]⟩) 1 16 Try.underlying34 HI.out HZ.out HY.out HX.out _ rfl a L.length c (L.map strV) rfl (HR.out.mono (hb1.trans (((Below.refl _ _).alloc (Nat.le_refl _) _).mono hb1.size)) (Nat.le_refl _)) (by unfold maxLen; omega) (by omega) ?_; intro a2 c2 w2 r2 hb2; have R2 := Lib.hid r2; clear r2)
      | (go_at_call 32; refine (HWR.out _ _ _ R2.out).mono ?_; rintro e w3 ⟨rfl, hb3⟩)
      | fail)
    go_ret2
    exact ⟨rfl, ext hb1 (ext (alloc_below hb2) hb3)⟩
end Go.Proofs.Ytphalijdanmkeaa
