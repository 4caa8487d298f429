/- Arguments, opened; and the end of a law's row, whatever the arguments are. -/
import Derived.Test.YtphalijdanmkeaaPost
import Derived.Carry
import Derived.ChangeSlices
import Derived.SliceStrings
namespace Go.Proofs.Ytphalijdanmkeaa
open Go.ChangeShapes Go.WideShapes Go.ChangeAt Go.RowKit

section
variable {H : Type} {enc : TypeId × Value → H} {P : Program}

/-- arguments read behind the call as they did -/
theorem trodAll_stays (hl : laidOutB P = true) {W W' : World} {sp' : Nat → Bool} : ∀ {ts : List TypeId} {vs : List Value} {ds : List (DataW H)} {ps : List MemPlace}, (ts.all fun t => P.readableRec t && decide (t < P.types.size)) = true →
    DataW.TrodAll enc P W 0 (fun _ => true) true ts vs ds ps → (∀ p ∈ ps, W.sameAt W' p) → (∀ p ∈ ps, sp' p.block = true) → DataW.TrodAll enc P W' 0 sp' true ts vs ds ps
  | [], _, _, _, _, h, _, _ => by
    obtain ⟨rfl, rfl, rfl⟩ := trodAll_nil h
    exact trodAll_mk0
  | t :: ts, vs, ds, ps, hr, h, h1, h2 => by
    obtain ⟨v, vs1, d, ds1, a, b, rfl, rfl, rfl, k1, k2⟩ := trodAll_cons h
    simp only [List.all_cons, Bool.and_eq_true, decide_eq_true_eq] at hr
    exact trodAll_cons_mk (WideElems.Trod_stays hl hr.1.1 hr.1.2 k1 (fun p hp => h1 p (List.mem_append_left _ hp)) (fun p hp => h2 p (List.mem_append_left _ hp)))
      (trodAll_stays hl hr.2 k2 (fun p hp => h1 p (List.mem_append_right _ hp)) (fun p hp => h2 p (List.mem_append_right _ hp)))

/-- a law's end -/
theorem post_law {f : Func} {s : ChangeSpec} {apart fresh handsOn again : Bool} {W W' : World} {args : Array Value} {ds gs : List (DataW H)} {before : List MemPlace} {tb : TypeId}
    (hl : laidOutB P = true) (hr : (f.params.toList.all fun t => P.readableRec t && decide (t < P.types.size)) = true) (htb : P.underlying tb = some .bool) (hrt : f.resultTypes = #[tb]) (hsv : s.vars = [])
    (hW : DataW.Whole enc P f.params.toList s.vars apart W args.toList ds gs before) (hb : Below W.heap.size W W')
    (e1 : (s.fn H (ds ++ gs)).results = [.lit (.bool true)]) (e2 : (s.fn H (ds ++ gs)).args = ds) (e3 : (s.fn H (ds ++ gs)).vars = []) :
    s.post enc P f apart fresh handsOn again W args (.bool true) W' := by
  have hW' := hW
  obtain ⟨p, q, hA, hV, rfl, hfz, hnd⟩ := hW
  have hq : q = [] := by
    rw [hsv] at hV
    obtain ⟨_, rfl⟩ := trodVars_none hV
    rfl
  subst hq
  have hlt := hW'.lt
  refine post_below (pa := p) (pv := []) hW' ?_ ?_ ?_ rfl hb ?_
  · intro b sp hd
    rw [e1, hrt]
    exact trodAll_cons_mk (shut_bool htb _) trodAll_mk0
  · intro sp hsp
    rw [e2]
    exact trodAll_stays hl hr hA (fun x hx => hb.same (hlt x (List.mem_append_left _ hx))) (fun x hx => hsp x (List.mem_append_left _ hx))
  · intro sp _
    rw [e3, hsv]
    rfl
  · exact ok_one hrt rfl (okWide_bool_mk htb _)
end

section
variable {H : Type} {enc : TypeId × Value → H} {W : World} {v : Value} {d : DataW H} {ps : List MemPlace} {base : Nat}

theorem Try.cells5 : Try.prog.cellsOf 5 = 1 := by kernel_rfl
theorem Try.cells9 : Try.prog.cellsOf 9 = 1 := by kernel_rfl
theorem Try.cells22 : Try.prog.cellsOf 22 = 1 := by kernel_rfl

/-- a slice whose cells are known is a row -/
theorem row_of_cells {a : Addr} {n c : Nat} {xs : List Value} (hl : xs.length = n) (hn : n ≤ c) (hc : ∀ i (h : i < xs.length), W.cell? (a.add i) = some xs[i]) : Row 1 W (some a) n c xs := by
  refine ⟨by omega, hn, (fun h => by cases h), ?_⟩
  by_cases h0 : n = 0
  · exact .inl h0
  · have hc0 := hc 0 (by omega)
    have ha : a.add 0 = a := by simp [Addr.add]
    rw [ha] at hc0
    have hspot : a.spot = none := by
      unfold World.cell? at hc0
      split at hc0
      · split at hc0
        · cases hc0
        · rename_i h; simpa using h
      · cases hc0
    obtain ⟨b, o, sp⟩ := a
    simp only at hspot
    subst hspot
    refine .inr ⟨b, o, rfl, World.block_lt_of_cell? W _ hc0, fun i hi => ?_⟩
    have := hc i hi
    have e : (⟨b, o, none⟩ : Addr).add i = ⟨b, o + i, none⟩ := by
      unfold Addr.add
      split
      · simp_all
      · rfl
    rwa [e] at this

theorem wf_u8 {z : Int} (h : (Lit.int .u8 z).wf = true) : byteV (UInt8.ofNat z.toNat) = .int .u8 z := by
  have : (0 : Int) ≤ z ∧ z ≤ 255 := by simpa [Lit.wf, IntKind.min, IntKind.max, IntKind.signed, IntKind.bits] using h
  simp only [byteV, UInt8.toNat_ofNat']
  congr 1
  omega

theorem bytes_of_trod {cs : List Value} {fuel : Nat} {x : DataW H × List MemPlace} {sp : Nat → Bool} {held : Bool} {b0 : Nat} (hsp : ∀ b, sp b = true) (h : DataW.trod enc Try.prog W b0 sp held fuel 22 cs = some x) :
    ∃ a n c l, cs = [.slice a n c] ∧ n ≤ maxLen ∧ Row 1 W a n c (List.map byteV l) := by
  rcases open_ints Try.underlying22 Try.underlying5 Try.cells5 h with ⟨rfl, _⟩ | ⟨a, len, cap, zs, rfl, _, hl, hm, hz, _, hcell, hwz⟩
  · exact ⟨none, 0, 0, [], rfl, by unfold maxLen; omega, ⟨by simp, Nat.le_refl _, (fun _ => rfl), .inl rfl⟩⟩
  · rw [hsp, if_pos rfl] at hz
    refine ⟨some a, len, cap, (zs.take len).map (fun z => UInt8.ofNat z.toNat), rfl, by omega, row_of_cells (by simp; omega) hl fun i hi => ?_⟩
    simp at hi
    rw [hcell i (by omega)]
    simp only [List.getElem_map, List.getElem_take]
    have hi' : i < zs.length := by omega
    rw [wf_u8 (hwz _ (List.getElem_mem hi')), List.getD_eq_getElem?_getD, List.getElem?_eq_getElem hi']
    rfl

set_option maxRecDepth 100000 in
theorem open_bytes (hval : Value.okWide Try.prog W .any base 22 v) (h : DataW.Trod enc Try.prog W 0 (fun _ => true) true 22 v d ps) :
    ∃ a n c l, v = .slice a n c ∧ n ≤ maxLen ∧ Row 1 W a n c (List.map byteV l) := by
  obtain ⟨a, n, c, rfl⟩ := okWide_slice Try.underlying22 hval
  obtain ⟨fuel, hf⟩ := h
  obtain ⟨a', n', c', l, e, h1, h2⟩ := bytes_of_trod (fun _ => rfl) hf
  simp [Value.cells] at e
  obtain ⟨rfl, rfl, rfl⟩ := e
  exact ⟨a, n, c, l, rfl, h1, h2⟩

set_option maxRecDepth 100000 in
theorem open_strs (hval : Value.okWide Try.prog W .any base 34 v) (h : DataW.Trod enc Try.prog W 0 (fun _ => true) true 34 v d ps) :
    ∃ a n c l, v = .slice a n c ∧ n ≤ maxLen ∧ Row 1 W a n c (List.map strV l) ∧ ∀ s ∈ l, s.length ≤ 9223372036854775807 := by
  obtain ⟨a, n, c, rfl⟩ := okWide_slice Try.underlying34 hval
  obtain ⟨fuel, hf⟩ := h
  rcases open_strings Try.underlying34 Try.underlying9 Try.cells9 hf with ⟨e, _⟩ | ⟨a', len, cap, ss, e, _, hl, hm, hz, _, hcell, hws⟩
  · simp [Value.cells] at e
    obtain ⟨rfl, rfl, rfl⟩ := e
    exact ⟨none, 0, 0, [], rfl, by unfold maxLen; omega, ⟨by simp, Nat.le_refl _, (fun _ => rfl), .inl rfl⟩, fun s hs => by simp at hs⟩
  · simp [Value.cells] at e
    obtain ⟨rfl, rfl, rfl⟩ := e
    rw [if_pos rfl] at hz
    refine ⟨some a', n, c, (ss.take n).map (fun s => s.data.toList), rfl, by omega, row_of_cells (by simp; omega) hl fun i hi => ?_, fun s hs => ?_⟩
    · simp at hi
      have hi' : i < ss.length := by omega
      rw [hcell i hi', List.getD_eq_getElem?_getD, List.getElem?_eq_getElem hi']
      simp only [List.getElem_map, List.getElem_take]
      rfl
    · obtain ⟨x, hx, rfl⟩ := List.mem_map.1 hs
      have := hws x (List.mem_of_mem_take hx)
      rw [Array.length_toList]
      exact this
end
end Go.Proofs.Ytphalijdanmkeaa
