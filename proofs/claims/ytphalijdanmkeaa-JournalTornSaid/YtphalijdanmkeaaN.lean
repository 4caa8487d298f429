/- What must be written so that a device has bytes at its beginning. -/
import Derived.Test.YtphalijdanmkeaaM
namespace Go.Proofs.Ytphalijdanmkeaa
open Go.RowKit Go.Shelf J
attribute [local go_sem] Oper.semAt_some

/-- the writes that a call hands back, in new memory -/
def RetWr (w : World) (bs : List (Int × List UInt8)) (e : Ending) (w' : World) : Prop :=
  ∃ a c xs, e = .returned (.slice a bs.length c) ∧ w'.ownsRow w.heap.size 58 2 (.slice a bs.length c) bs.length xs ∧ WrO w.heap.size w' xs bs ∧ Below w.heap.size w w'

/-- what holds in the loop, behind some chunks: the writes so far, how many chunks -/
structure ToI (h : Nat) (w : World) (a : Option Addr) (m c : Nat) (t : List UInt8) (bs : List (Int × List UInt8)) (num : Nat) (v : Value) (xs : List Value) (W : World) : Prop where
  out : Boxed W (h + 1) 39 v
  row : W.ownsRow h 58 2 v bs.length xs
  wr : WrO h W xs bs
  num : Boxed W (h + 1 + 1 + 1) 3 (.int .i64 (num : Int))
  dev : Boxed W h 79 (.slice a m c)
  held : W.heap[h + 1 + 1]? = some (.cells (t.map byteV).toArray 5 (0, 0))
  b1 : Boxed W (h + 1 + 1 + 1 + 1) 22 (.slice (some ⟨h + 1 + 1, 0, none⟩) m m)
  b2 : Boxed W (h + 1 + 1 + 1 + 1 + 1) 3 (.int .i64 32)
  below : Below h w W
  size : h ≤ W.heap.size

theorem boxed_others {W W' : World} {B : Nat} {t : TypeId} {v : Value} {row : Option Nat} (h : Boxed W B t v) (hg : W.grownBy W' row) (hr : ∀ r, row = some r → ∃ o : Obj, W.heap[r]? = some o ∧ o.isCells = false) : Boxed W' B t v :=
  boxed_own B t (fun _ : Unit => v) () W W' row h hg hr

section
variable {h : Nat} {w : World} {a : Option Addr} {m c : Nat} {t : List UInt8} {bs bs' : List (Int × List UInt8)} {num num' : Nat} {v v' : Value} {xs xs' : List Value} {X Y : World} {row : Option Nat}
theorem ToI.others (k : ToI h w a m c t bs num v xs X) (hg : X.grownBy Y row) (hr : ∀ r, row = some r → h ≤ r ∧ ∃ o : Obj, X.heap[r]? = some o ∧ o.isCells = false) : ToI h w a m c t bs num v xs Y :=
  have hr' := fun r e => (hr r e).2
  ⟨boxed_others k.out hg hr', ownsRow_others k.row hg hr', k.wr.imp (fun _ _ _ hy => ownsRow_others hy hg hr'), boxed_others k.num hg hr', boxed_others k.dev hg hr',
    held_own (β := Unit) _ _ rfl () X Y row k.held hg hr', boxed_others k.b1 hg hr', boxed_others k.b2 hg hr', k.below.grown hg k.size (fun j e => (hr j e).1), Nat.le_trans k.size hg.size⟩

theorem ToI.keep (k : ToI h w a m c t bs num v xs X) (k' : ToI h w a m c t bs' num' v' xs' Y) (hb : Below h X Y) : Keep2 h (h + 1 + 1 + 1 + 1) (h + 1 + 1 + 1 + 1 + 1) X Y :=
  ⟨⟨hb, fun u hu => by rw [k.b1.cell] at hu; rw [k'.b1.cell, hu]⟩, ⟨hb, fun u hu => by rw [k.b2.cell] at hu; rw [k'.b2.cell, hu]⟩⟩

/-- 'n++' -/
theorem ToI.step (k : ToI h w a m c t bs num v xs X) (num' : Nat) : ToI h w a m c t bs num' v xs (X.setCell ⟨h + 1 + 1 + 1, 0, none⟩ (.int .i64 (num' : Int))) := by
  have hg := grownBy_setCell' X (h + 1 + 1 + 1) (.int .i64 (num' : Int))
  have hn : ∀ {base e size y n xs}, X.ownsRow base e size y n xs → 3 ≠ e → y.ownBlock ≠ some (h + 1 + 1 + 1) := fun hy hne e => (k.num.not_row hne hy) e.symm
  refine ⟨k.out.other (by omega) _, k.row.kept hg (.inr (hn k.row (by decide))), k.wr.imp (fun _ _ _ hy => hy.kept hg (.inr (hn hy (by decide)))), k.num.set _, k.dev.other (by omega) _, held_kept k.held hg (by simp), k.b1.other (by omega) _, k.b2.other (by omega) _,
    k.below.setCell (p := ⟨h + 1 + 1 + 1, 0, none⟩) (by show h ≤ h + 1 + 1 + 1; omega) _, Nat.le_trans k.size hg.size⟩

theorem ToI.again (k : ToI h w a m c t bs num v xs X) : ToI h w a m c t bs num v xs (X.setCell ⟨h + 1, 0, none⟩ v) := by
  have hg := grownBy_setCell' X (h + 1) v
  have hn : ∀ {base e size y n xs}, X.ownsRow base e size y n xs → 39 ≠ e → y.ownBlock ≠ some (h + 1) := fun hy hne e => (k.out.not_row hne hy) e.symm
  refine ⟨k.out.set _, k.row.kept hg (.inr (hn k.row (by decide))), k.wr.imp (fun _ _ _ hy => hy.kept hg (.inr (hn hy (by decide)))), k.num.other (by omega) _, k.dev.other (by omega) _, held_kept k.held hg (by simp), k.b1.other (by omega) _, k.b2.other (by omega) _,
    k.below.setCell (p := ⟨h + 1, 0, none⟩) (by show h ≤ h + 1; omega) _, Nat.le_trans k.size hg.size⟩

/-- one write more -/
theorem ToI.grow (k : ToI h w a m c t bs num v xs X) {i : Int} {l : List UInt8} {y : Value} {tmp : Obj} (hy : X.ownsRow h 5 1 y l.length (l.map byteV))
    (hown : Y.ownsRow h 58 2 v' (bs.length + 1) (xs ++ [.int .i64 i, y])) (hgrow : (X.alloc tmp).grownBy Y v.ownBlock) :
    Boxed Y (h + 1) 39 v ∧ Boxed Y (h + 1 + 1 + 1) 3 (.int .i64 (num : Int)) ∧ ToI h w a m c t (bs ++ [(i, l)]) num v' (xs ++ [.int .i64 i, y]) (Y.setCell ⟨h + 1, 0, none⟩ v') ∧ KeepsOthers X (Y.setCell ⟨h + 1, 0, none⟩ v') ∧ Below h X (Y.setCell ⟨h + 1, 0, none⟩ v') := by
  obtain ⟨hv1, hv2, hr2, hk2, hb2⟩ := k.out.appended (by decide) k.row k.size (by omega) hown hgrow
  have hrow := k.row.alloc tmp
  have hb : ∀ {B ty u}, Boxed X B ty u → ty ≠ 58 → Boxed Y B ty u := fun hB hne => (hB.alloc tmp).kept hgrow ((hB.alloc tmp).not_row hne hrow)
  have hw : ∀ {y n xs}, X.ownsRow h 5 1 y n xs → Y.ownsRow h 5 1 y n xs := fun hy => (hy.alloc tmp).kept hgrow (ownsRow_two (hy.alloc tmp) hrow (by decide))
  have hg := grownBy_setCell' Y (h + 1) v'
  have hw2 : ∀ {y n xs}, X.ownsRow h 5 1 y n xs → (Y.setCell ⟨h + 1, 0, none⟩ v').ownsRow h 5 1 y n xs := fun hy => (hw hy).kept hg (.inr (fun e => (hv1.not_row (by decide) (hw hy)) e.symm))
  have hheld : Y.heap[h + 1 + 1]? = some (.cells (t.map byteV).toArray 5 (0, 0)) := by
    have h1 : (X.alloc tmp).heap[h + 1 + 1]? = some (.cells (t.map byteV).toArray 5 (0, 0)) := (Below.heap_alloc X tmp _ (Array.getElem?_eq_some_iff.1 k.held).1).trans k.held
    exact held_kept h1 hgrow (held_not_row h1 (by decide) hrow)
  refine ⟨hv1, hb k.num (by decide), ⟨hv2, by simpa using hr2, (k.wr.imp (fun _ _ _ hy => hw2 hy)).snoc (hw2 hy), (hb k.num (by decide)).other (by omega) _, (hb k.dev (by decide)).other (by omega) _, held_kept hheld hg (by simp),
    (hb k.b1 (by decide)).other (by omega) _, (hb k.b2 (by decide)).other (by omega) _, k.below.trans hb2, Nat.le_trans k.size hk2.size⟩, hk2, hb2⟩
end

theorem blkI_length (b t : List UInt8) : ∀ (pre : List Nat) (i : Nat), (blkI b t i pre).length ≤ pre.length
  | [], _ => by simp [blkI]
  | x :: r, i => by
    have := blkI_length b t r (i + 1)
    simp only [blkI, List.length_append, List.length_cons]
    split <;> simp <;> omega
theorem two_cells (W : World) (u0 u1 : Value) (e : TypeId) (j : Nat) (u : Value) (hj : [u0, u1][j]? = some u) : (W.alloc (.cells #[u0, u1] e)).cell? ((⟨W.heap.size, 0, none⟩ : Addr).add j) = some u := by
  match j, hj with
  | 0, hj => simp at hj; subst hj; simp [Addr.add]
  | 1, hj => simp at hj; subst hj; simp [Addr.add]
  | j + 2, hj => simp at hj
theorem heap_new' {W : World} {o : Obj} {k : Nat} (hk : k = W.heap.size) : (W.alloc o).heap[k]? = some o := by subst hk; exact World.alloc_heap_new W o
theorem heap_old' {W : World} {o x : Obj} {k : Nat} (h : W.heap[k]? = some x) : (W.alloc o).heap[k]? = some x := (Below.heap_alloc W o k (Array.getElem?_eq_some_iff.1 h).1).trans h
set_option maxRecDepth 100000 in
set_option maxHeartbeats 2000000 in
theorem to_any (a : Option Addr) (m c : Nat) (b s : List UInt8) (w : World) (N : Nat) (hN : N ≤ 250) (hbm : m = 32 * N) (hs : s.length ≤ m) (h : Row 1 w a m c (b.map byteV)) :
    Calls Try.prog 58 #[.slice a m c, strV s] w (RetWr w (toD b s)) := by
  have hmo : Try.prog.follows .mixedOrders = true := by kernel_rfl
  obtain ⟨i0, hi, hz0, hz1, hz2⟩ := info_parts Try.info58
  have hcp := copy_pad ((w.alloc (.cells #[.slice a m c] 79)).alloc (.cells #[.slice none 0 0] 39)) m s hs
  simp only [World.size_alloc] at hcp
  have hpl := pad_length s m hs
  have hbl : b.length = m := by simpa using h.1
  have hsz := Lib.hid hs
  have hmN := Lib.hid hbm
  have hPL := Lib.hid hpl
  have hBL := Lib.hid hbl
  have H := Lib.hid h
  clear hs hbm hpl hbl h
  refine (callsIn_wide (n := 3)).1 ?_
  refine callsIn_of_wp_marks Try.func58 rfl trivial ?_ rfl
  simp only [Try.ntmps58, List.size_toArray, List.length_cons, List.length_nil, Nat.reduceAdd, Nat.reduceSub, Array.replicate_succ, Array.replicate_zero, List.push_toArray, List.append_toArray, List.nil_append, List.cons_append]
  have hmb : (m : Int) ≤ 140737488355328 := by have := hmN.out; omega
  have hmk' := fun W => run_mk W (m : Int) (by omega) hmb
  simp only [Int.toNat_natCast] at hmk'
  gi_wp2_with (refine ⟨trivial, ?_⟩; gi_at_call 76; refine (callsIn_wide.2 (Chunk_any _ _ _ _)).mono ?_; rintro e w' ⟨rfl, rfl⟩)
  generalize hW7 : ((((((w.alloc (Obj.cells #[Value.slice a m c] 79)).alloc (Obj.cells #[Value.slice none 0 0] 39)).alloc (Obj.cells (List.map byteV (pad s m)).toArray 5)).alloc (Obj.cells #[Value.int IntKind.i64 0] 3)).alloc (Obj.cells #[Value.slice (some { block := w.heap.size + 1 + 1, off := 0 }) m m] 22)).alloc (Obj.cells #[Value.int IntKind.i64 32] 3)) = W7
  have hI0 : ToI w.heap.size w a m c (pad s m) [] 0 (.slice none 0 0) [] W7 := by
    subst hW7
    refine ⟨?_, World.ownsRow_nil _ _ _ _, trivial, ?_, ?_, ?_, ?_, ?_, ?_, ?_⟩
    case refine_8 => simp only [World.size_alloc]; omega
    all_goals first | (show _ = _; repeat (first | exact heap_new' (by simp only [World.size_alloc]) | refine heap_old' ?_)) | skip
    refine ((((((Below.refl _ w).alloc ?_ _).alloc ?_ _).alloc ?_ _).alloc ?_ _).alloc ?_ _).alloc ?_ _ <;> (try simp only [World.size_alloc]) <;> omega
  have hsz7 : W7.heap.size = w.heap.size + 6 := by subst hW7; simp only [World.size_alloc]
  clear hW7
  refine wpIn_rangeFunc_ownG rfl (by omega) (gf := 86) (lb := #[.pointer (some ⟨w.heap.size + 1 + 1 + 1 + 1, 0, none⟩), .pointer (some ⟨w.heap.size + 1 + 1 + 1 + 1 + 1, 0, none⟩)]) rfl trivial (enters_of Try.func86 (by kernel_rfl) rfl)
    (chunk_stops _ (w.heap.size + 1 + 1 + 1 + 1) (w.heap.size + 1 + 1 + 1 + 1 + 1) w.heap.size (w.heap.size + 1 + 1) N hN W7 (by omega) (by omega) (by rw [← hmN.out]; exact hI0.b1.cell) hI0.b2.cell)
    (fun h k => h.trans k) ?hKb (Below.refl _ _) (fun _ => rfl)
    (fun pre W => ∃ v xs, ToI w.heap.size w a m c (pad s m) (blkI b (pad s m) 0 (pre.map (·.val))) pre.length v xs W)
    (fun _ _ _ => False)
    ?hI
    (fun _ _ _ _ _ hs _ _ => hs)
    ⟨_, _, hI0⟩
    (fun x => { tmps := #[.slice a m c, strV s, .pointer (some ⟨w.heap.size, 0, none⟩), undef, .pointer (some ⟨w.heap.size + 1, 0, none⟩), .slice (some ⟨w.heap.size + 1 + 1, 0, none⟩) m m, .pointer (some ⟨w.heap.size + 1 + 1 + 1, 0, none⟩),
      .slice (some ⟨w.heap.size + 1 + 1, 32 * x.val, none⟩) 32 32, undef, .slice a m c, .int .i64 (m : Int), .slice (some ⟨w.heap.size + 1 + 1, 0, none⟩) m m, .slice (some ⟨w.heap.size + 1 + 1, 0, none⟩) m m, strV s, .int .i64 (s.length : Int), .slice (some ⟨w.heap.size + 1 + 1, 0, none⟩) m m,
      .func (.func 86) #[] #[.pointer (some ⟨w.heap.size + 1 + 1 + 1 + 1, 0, none⟩), .pointer (some ⟨w.heap.size + 1 + 1 + 1 + 1 + 1, 0, none⟩)], .slice (some ⟨w.heap.size + 1 + 1, 32 * x.val, none⟩) 32 32,
      undef, undef, undef, undef, undef, undef, undef, undef, undef, undef, undef, undef, undef, undef, undef, undef, undef, undef, undef, undef], defers := [] }) ?assign ?body ?done ?stop
  case hKb =>
    intro W l o o' hl ho hoc hw
    have kb := belowK_b (w := W7) (n₀ := w.heap.size) (by omega) W l o o' (by omega) ho hoc hw
    exact ⟨⟨kb, fun v hv => cell_kept hv (grownBy_putObj' W l o') (fun r e => by cases e; exact ⟨o, ho, hoc⟩)⟩, ⟨kb, fun v hv => cell_kept hv (grownBy_putObj' W l o') (fun r e => by cases e; exact ⟨o, ho, hoc⟩)⟩⟩
  case hI =>
    rintro pre X Y row ⟨v, xs, k⟩ hg hr
    exact ⟨v, xs, k.others hg (fun r e => ⟨by have := (hr r e).1; omega, (hr r e).2⟩)⟩
  case assign =>
    intro l x W K hK
    gi_wp2
    exact hK
  case body =>
    rintro l pre x W ⟨v, xs, k⟩ hlt
    have hK := Lib.hid k
    have hx := x.isLt
    have hN' : N ≤ 250 := hN
    have hHS : w.heap.size ≤ W.heap.size := k.size
    have hRd : Row 1 W a m c (b.map byteV) := H.out.mono k.below (Nat.le_refl _)
    have hRx := held_row k.held x.val (by have := hPL.out; have := hmN.out; omega)
    obtain ⟨a', c', hsl, hRs⟩ := slice_lh hRd Try.und79 Try.size5d ((pre.length : Int) * 32) ((pre.length : Int) * 32 + 32) (by omega) (by omega) (by have := hmN.out; omega)
    have e32 : ((pre.length : Int) * 32 + 32).toNat - ((pre.length : Int) * 32).toNat = 32 := by omega
    have e0 : ((pre.length : Int) * 32).toNat = 32 * pre.length := by omega
    rw [e32] at hRs
    simp only [e32] at hsl
    simp only [e0, Nat.mul_one, ← List.map_drop, ← List.map_take] at hRs
    have hc1 := k.num.cell
    have hc2 := k.dev.cell
    have hc3 := k.out.cell
    have hf1 := k.num.frozen
    have hf3 := k.out.frozen
    have hEq := fun n => callsIn_wide (n := n).2 (Equal_any _ _ _ _ _ _ _ _ W hRx hRs)
    have HEQ := Lib.hid hEq
    have HRX := Lib.hid hRx
    clear hEq hRx hRs hRd k
    by_cases he : (chunk x.val (pad s m) == (b.drop (32 * pre.length)).take 32) = true
    · have HE := Lib.hid he
      clear he
      gi_wp2_with (refine ⟨trivial, ?_⟩; gi_at_call 77; refine (CallsIn.inRound l (HEQ.out _)).mono ?_; rintro e w' ⟨rfl, rfl⟩; rw [HE.out])
      have hk := hK.out.step (pre.length + 1)
      have hkb : Below w.heap.size W (W.setCell ⟨w.heap.size + 1 + 1 + 1, 0, none⟩ (.int .i64 ((pre.length + 1 : Nat) : Int))) := (Below.refl _ W).setCell (p := ⟨w.heap.size + 1 + 1 + 1, 0, none⟩) (by show w.heap.size ≤ w.heap.size + 1 + 1 + 1; omega) _
      refine ⟨(KeepsOthers.setCell _ _ _).from _, hK.out.keep hk hkb, v, xs, ?_⟩
      have hE : chunk x.val (pad s m) = chunk pre.length b := by simpa [chunk] using HE.out
      rw [List.map_append, List.map_cons, List.map_nil, blkI_snoc, List.length_map, Nat.zero_add, if_pos hE, List.append_nil, List.length_append]
      exact hk
    · have he' := Bool.eq_false_iff.2 he
      have HE := Lib.hid he'
      clear he he'
      gi_wp2_with (refine ⟨trivial, ?_⟩; gi_at_call 77; refine (CallsIn.inRound l (HEQ.out _)).mono ?_; rintro e w' ⟨rfl, rfl⟩; rw [HE.out])
      have HLEN := Lib.hid (blkI_length b (pad s m) (pre.map (·.val)) 0)
      simp only [List.length_map] at HLEN
      refine Reg.regionIn_L 3 hmo (by kernel_rfl) (by kernel_rfl) (by kernel_rfl) rfl (by kernel_rfl) (by kernel_rfl) (fun w' => w'.cell? ⟨w.heap.size + 1, 0, none⟩ = some v ∧ w'.cell? ⟨w.heap.size + 1 + 1 + 1, 0, none⟩ = some (.int .i64 (pre.length : Int))) ⟨hc3, hc1⟩ ?_
      simp only [List.take_succ_cons, List.take_zero, List.drop_succ_cons, List.drop_zero]
      refine Reg.WalkL.cons ?v0 (Reg.Still.pure (by intro c e; cases e) rfl (fun _ => rfl) ?h0) ?r0
      case h0 => intro w' hJ; obtain ⟨j1, j2⟩ := hJ; go_simp; rfl
      simp only [Act.put, List.setIfInBounds_toArray, List.set_cons_zero, List.set_cons_succ]
      refine Reg.WalkL.cons ?v1 (Reg.Still.pure (by intro c e; cases e) rfl (fun _ => rfl) ?h1) ?r1
      case h1 => intro w' hJ; obtain ⟨j1, j2⟩ := hJ; go_simp; rfl
      simp only [Act.put, List.setIfInBounds_toArray, List.set_cons_zero, List.set_cons_succ]
      refine Reg.WalkL.cons ?v2 (Reg.Still.pure (by intro c e; cases e) rfl (fun _ => rfl) ?h2) ?r2
      case h2 => intro w' hJ; obtain ⟨j1, j2⟩ := hJ; go_simp; rfl
      simp only [Act.put, List.setIfInBounds_toArray, List.set_cons_zero, List.set_cons_succ]
      refine .nil ?_
      refine Reg.TailW.call (f := 68) (args := #[.slice (some ⟨w.heap.size + 1 + 1, 32 * x.val, none⟩) 32 32]) (fun _ => trivial) rfl (by intro c e; cases e) rfl ?hcr ?hcc
      case hcr => go_simp
      case hcc =>
        refine (CallsIn.inRound l (callsIn_wide.2 (Clone_any _ 32 32 _ W.drew HRX.out (by omega)))).mono ?_
        rintro e w1 ⟨a1, c1, rfl, ho1, hb1⟩
        have hg1 := below_grown hb1
        have hk1 : ToI w.heap.size w a m c (pad s m) (blkI b (pad s m) 0 (pre.map (·.val))) pre.length v xs w1 := (hK.out.others (Y := W.drew) (row := none) ⟨rfl, rfl, rfl, Nat.le_refl _, fun _ _ _ => rfl⟩ (fun r e => by cases e)).others hg1 (fun r e => by cases e)
        refine ⟨_, rfl, (fun _ => ⟨hk1.out.cell, hk1.num.cell⟩), ?_⟩
        simp only [Act.put, List.setIfInBounds_toArray, List.set_cons_zero, List.set_cons_succ]
        refine Reg.TailW.run (v := .agg #[.int .i64 (pre.length : Int), .slice a1 32 c1]) (by intro c e; cases e) rfl rfl ?hb (fun _ => ⟨hk1.out.cell, hk1.num.cell⟩) ?_
        case hb => go_simp
        simp only [Act.put, List.setIfInBounds_toArray, List.set_cons_zero, List.set_cons_succ]
        refine Reg.TailW.run (v := .slice (some ⟨w1.heap.size, 0, none⟩) 1 1) (w' := w1.alloc (.cells #[.int .i64 (pre.length : Int), .slice a1 32 c1] 58)) (by intro c e; cases e) rfl rfl ?hbs (fun _ => ⟨(hk1.out.alloc _).cell, (hk1.num.alloc _).cell⟩) ?_
        case hbs => go_simp
        simp only [Act.put, List.setIfInBounds_toArray, List.set_cons_zero, List.set_cons_succ]
        obtain ⟨v', w3, hrun, hown, hgrow, _⟩ := run_append_own (P := Try.prog) (w := w1.alloc (.cells #[.int .i64 (pre.length : Int), .slice a1 32 c1] 58)) w.heap.size 39 39 58 i0 _ 2 32 Try.underlying39 hi hz0 hz1 hz2 rfl (by decide) v _ xs (hk1.row.alloc _) ⟨w1.heap.size, 0, none⟩ 1 1 [.int .i64 (pre.length : Int), .slice a1 32 c1] rfl
          (fun j u hj => two_cells _ _ _ _ j u hj) (by intro u hu; simp at hu; rcases hu with rfl | rfl <;> rfl) (by have := HLEN.out; unfold maxLen; omega) (by have := HLEN.out; omega) (by have := hk1.size; simp only [World.size_alloc]; omega)
        obtain ⟨g', cap', rfl⟩ := ownsRow_succ hown
        have hCL : (chunk x.val (pad s m)).length = 32 := by have := hPL.out; have := hmN.out; simp [chunk]; omega
        obtain ⟨hb1', hb2', hk3, hko, hbw⟩ := hk1.grow (i := (pre.length : Int)) (l := chunk x.val (pad s m)) (by rw [hCL]; exact ownsRow_weaken ho1 hHS) hown hgrow
        have hbc1 := hb1'.cell
        have hbf1 := hb1'.frozen
        refine Reg.TailW.append rfl (.tmp 28) (.tmp 33) 39 rfl rfl rfl hrun (fun _ => ⟨hbc1, hb2'.cell⟩) ?_
        simp only [Act.put, List.setIfInBounds_toArray, List.set_cons_zero, List.set_cons_succ]
        have hbx : KeepsOthers W w1 := (KeepsOthers.drew W).trans (KeepsOthers.of_grownBy hg1 (fun j o e => by cases e))
        have hbz : Below w.heap.size W w1 := ((Below.refl _ W).drew).trans (hb1.mono hHS)
        refine (Reg.TailW.skip (w' := w3.setCell ⟨w.heap.size + 1, 0, none⟩ (.slice (some ⟨g', 0, none⟩) ((blkI b (pad s m) 0 (pre.map (·.val))).length + 1) cap')) (by intro c e; cases e) rfl rfl ?hst (fun h => absurd rfl h) ?_)
        case hst => go_simp
        generalize hW4 : w3.setCell ⟨w.heap.size + 1, 0, none⟩ (.slice (some ⟨g', 0, none⟩) ((blkI b (pad s m) 0 (pre.map (·.val))).length + 1) cap') = W4 at hk3 hko hbw ⊢
        have hnc := hk3.num.cell
        have hnf := hk3.num.frozen
        refine .nil ?_
        gi_wp2
        have hk := hk3.step (pre.length + 1)
        have hkb : Below w.heap.size W (W4.setCell ⟨w.heap.size + 1 + 1 + 1, 0, none⟩ (.int .i64 ((pre.length + 1 : Nat) : Int))) := (hbz.trans hbw).setCell (p := ⟨w.heap.size + 1 + 1 + 1, 0, none⟩) (by show w.heap.size ≤ w.heap.size + 1 + 1 + 1; omega) _
        refine ⟨((hbx.trans hko).trans (KeepsOthers.setCell _ _ _)).from _, hK.out.keep hk hkb, .slice (some ⟨g', 0, none⟩) ((blkI b (pad s m) 0 (pre.map (·.val))).length + 1) cap', xs ++ [.int .i64 (pre.length : Int), .slice a1 32 c1], ?_⟩
        have hE : ¬ chunk x.val (pad s m) = chunk pre.length b := by simpa [chunk] using HE.out
        rw [List.map_append, List.map_cons, List.map_nil, blkI_snoc, List.length_map, Nat.zero_add, if_neg hE, List.length_append]
        exact hk
  case done =>
    rintro D ys W hD hys ⟨v, xs, k⟩ hKD
    obtain ⟨av, cv, rfl, _⟩ := own_row k.row
    have hK := Lib.hid k
    have hc := k.out.cell
    have hf := k.out.frozen
    clear k
    gi_wp2
    have k2 := hK.out.again
    have hK2' := (KeepsOthers.setCell W ⟨w.heap.size + 1, 0, none⟩ (.slice av (blkI b (pad s m) 0 (ys.map (·.val))).length cv)).same D _ hKD rfl
    rw [hys] at k2 hK2'
    generalize hW2 : W.setCell ⟨w.heap.size + 1, 0, none⟩ (.slice av (blkI b (pad s m) 0 (List.range N)).length cv) = W2 at k2 hK2' ⊢
    have k3 := k2.others (grownBy_putObj' W2 D (.deferred none)) (fun r e => by cases e; exact ⟨by omega, _, hK2', rfl⟩)
    have hc3 := k3.out.cell
    have ht : toD b s = blkI b (pad s m) 0 (List.range N) := by
      have h1 := hBL.out
      have h2 := hmN.out
      rw [toD, blocks, h1, show m / 32 = N from by omega, List.range_eq_range', blkI_blocks]
    refine ⟨by simp, .inl ⟨_, _, rfl, run_takeDeferred hK2', ?_⟩⟩
    rw [ht]
    refine ⟨.slice av (blkI b (pad s m) 0 (List.range N)).length cv, ?_, av, cv, xs, rfl, k3.row, k3.wr, k3.below⟩
    simp [results, Try.results58, go_sem, hc3]
  case stop =>
    rintro D c pre W _ _ h _
    exact h.elim
end Go.Proofs.Ytphalijdanmkeaa
