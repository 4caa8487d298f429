/- Arguments, opened: slices of slices of bytes, small numbers, a storm. -/
import Derived.Test.YtphalijdanmkeaaOpen
import Derived.Test.YtphalijdanmkeaaAP
import Derived.Deep.Slices
namespace Go.Proofs.Ytphalijdanmkeaa
open Go.ChangeShapes Go.WideShapes Go.ChangeAt Go.RowKit Go.Shelf J

section
variable {H : Type} {enc : TypeId × Value → H} {W : World} {v : Value} {d : DataW H} {ps : List MemPlace} {base : Nat}

theorem bys_of_trod {cs : List Value} {fuel : Nat} {x : DataW H × List MemPlace} {b0 : Nat} {held : Bool} (h : DataW.trod enc Try.prog W b0 (fun _ => true) held fuel 47 cs = some x) :
    ∃ a n c l, cs = [.slice a n c] ∧ n ≤ maxLen ∧ n = l.length ∧ ByS W a c l := by
  rcases Go.Deep.open_slice1 Try.underlying47 Try.cells22 h with ⟨rfl, _⟩ | ⟨a, len, cap, m, n, V, D, Pl, rfl, hb, hl, hm, hmm, rfl, hx⟩
  · exact ⟨none, 0, 0, [], rfl, by unfold maxLen; omega, rfl, ⟨[], ⟨by simp, Nat.le_refl _, (fun _ => rfl), .inl rfl⟩, fun i hi => by simp at hi⟩⟩
  · rw [if_pos rfl] at hmm
    have each : ∀ i, i < len → ∃ l : List UInt8, AtB W (V i) l := by
      intro i hi
      obtain ⟨_, h2⟩ := hx i (by omega)
      obtain ⟨a5, n5, c5, l5, e1, h6, h7⟩ := bytes_of_trod (fun _ => rfl) h2
      simp at e1
      have hl5 : l5.length = n5 := by simpa using h7.1
      exact ⟨l5, a5, c5, by rw [e1, hl5], by rw [hl5]; exact h7⟩
    obtain ⟨q, hq⟩ := Go.Deep.choose_lt each
    refine ⟨some a, len, cap, (List.range len).map q, rfl, by omega, by simp, (List.range len).map V, ?_, fun i hi => ?_⟩
    · simp only [List.length_map, List.length_range]
      refine row_of_cells (by simp) hl fun i hi => ?_
      simp at hi
      rw [(hx i (by omega)).1]
      simp
    · simp at hi
      refine ⟨V i, by simp [hi], ?_⟩
      simp only [List.getElem_map, List.getElem_range]
      exact hq i hi

set_option maxRecDepth 100000 in
theorem open_bys (hval : Value.okWide Try.prog W .any base 47 v) (h : DataW.Trod enc Try.prog W 0 (fun _ => true) true 47 v d ps) :
    ∃ a n c l, v = .slice a n c ∧ n ≤ maxLen ∧ n = l.length ∧ ByS W a c l := by
  obtain ⟨a, n, c, rfl⟩ := okWide_slice Try.underlying47 hval
  obtain ⟨fuel, hf⟩ := h
  obtain ⟨a', n', c', l, e, h1, h2, h3⟩ := bys_of_trod hf
  simp [Value.cells] at e
  obtain ⟨rfl, rfl, rfl⟩ := e
  exact ⟨a, n, c, l, rfl, h1, h2, h3⟩

theorem wf_u16 {z : Int} (h : (Lit.int .u16 z).wf = true) : ∃ n : Nat, z = (n : Int) ∧ n ≤ 65535 := by
  have : (0 : Int) ≤ z ∧ z ≤ 65535 := by simpa [Lit.wf, IntKind.min, IntKind.max, IntKind.signed, IntKind.bits] using h
  exact ⟨z.toNat, by omega, by omega⟩
theorem wf_byte {z : Int} (h : (Lit.int .u8 z).wf = true) : ∃ c : UInt8, z = (c.toNat : Int) := by
  have : (0 : Int) ≤ z ∧ z ≤ 255 := by simpa [Lit.wf, IntKind.min, IntKind.max, IntKind.signed, IntKind.bits] using h
  refine ⟨UInt8.ofNat z.toNat, ?_⟩
  simp only [UInt8.toNat_ofNat']
  omega

theorem Try.cells68 : Try.prog.cellsOf 68 = 2 := by kernel_rfl

set_option maxRecDepth 100000 in
theorem open_storm (hval : Value.okWide Try.prog W .any base 68 v) (h : DataW.Trod enc Try.prog W 0 (fun _ => true) true 68 v d ps) :
    ∃ a n c l, ∃ t : UInt8, v = .agg #[.slice a n c, .int .u8 (t.toNat : Int)] ∧ n ≤ maxLen ∧ Row 1 W a n c (List.map byteV l) := by
  obtain ⟨cs, rfl, hsz⟩ := okWide_struct Try.underlying68 hval
  obtain ⟨fuel, hf⟩ := h
  obtain ⟨y0, y1, k, _, hl, h0, h1⟩ := Go.ChangeShapes.trod_struct2 Try.underlying68 hf
  rw [Try.cells68] at hsz
  match cs, hsz with
  | ⟨[u0, u1]⟩, _ =>
    simp only [Try.cells22, Try.cells5, Value.cells, List.drop_zero, List.take_succ_cons, List.take_zero, List.drop_succ_cons] at h0 h1
    obtain ⟨a, n, c, l, e0, k1, k2⟩ := bytes_of_trod (fun _ => rfl) h0
    obtain ⟨z, e1, _, k3⟩ := DataW.trod_int Try.underlying5 h1
    obtain ⟨t, rfl⟩ := wf_byte k3
    simp at e0 e1
    subst e0 e1
    exact ⟨a, n, c, l, t, rfl, k1, k2⟩
end
end Go.Proofs.Ytphalijdanmkeaa
