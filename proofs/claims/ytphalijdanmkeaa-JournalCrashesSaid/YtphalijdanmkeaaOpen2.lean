/- Arguments, opened: slices of flags, of writes; a power cut. -/
import Derived.Test.YtphalijdanmkeaaOpen
import Derived.Test.YtphalijdanmkeaaAJ
import Derived.Deep.SlicePairs
import Derived.Deep.Grids
import Derived.SizedLaws
namespace Go.Proofs.Ytphalijdanmkeaa
open Go.ChangeShapes Go.WideShapes Go.ChangeAt Go.RowKit Go.Shelf J

section
variable {H : Type} {enc : TypeId × Value → H} {W : World} {v : Value} {d : DataW H} {ps : List MemPlace} {base : Nat}

theorem Try.cells3 : Try.prog.cellsOf 3 = 1 := by kernel_rfl
theorem Try.cells4 : Try.prog.cellsOf 4 = 1 := by kernel_rfl
theorem Try.cells54 : Try.prog.cellsOf 54 = 1 := by kernel_rfl
theorem Try.cells58 : Try.prog.cellsOf 58 = 2 := by kernel_rfl
theorem Try.cells56 : Try.prog.cellsOf 56 = 2 := by kernel_rfl
theorem Try.bytes5 : Try.prog.bytesOf 5 = 1 := by kernel_rfl

theorem addr_add (b o i : Nat) : (⟨b, o, none⟩ : Addr).add i = ⟨b, o + i, none⟩ := by
  unfold Addr.add
  split
  · simp_all
  · rfl

/-- a slice whose cells are known is a row, of elements of k cells -/
theorem row_of_cellsK {k : Nat} (hk : 0 < k) {a : Addr} {n c : Nat} {xs : List Value} (hl : xs.length = n * k) (hn : n ≤ c) (hc : ∀ i (h : i < xs.length), W.cell? (a.add i) = some xs[i]) : Row k W (some a) n c xs := by
  refine ⟨hl, hn, (fun h => by cases h), ?_⟩
  by_cases h0 : n = 0
  · exact .inl h0
  · have hpos : 0 < xs.length := by rw [hl]; exact Nat.mul_pos (by omega) hk
    have hc0 := hc 0 hpos
    have ha : a.add 0 = a := by simp [Addr.add]
    rw [ha] at hc0
    have hspot : a.spot = none := by
      unfold World.cell? at hc0
      split at hc0
      · split at hc0
        · cases hc0
        · rename_i h; simpa using h
      · cases hc0
    obtain ⟨b, o, sp⟩ := a
    simp only at hspot
    subst hspot
    refine .inr ⟨b, o, rfl, World.block_lt_of_cell? W _ hc0, fun i hi => ?_⟩
    have := hc i hi
    rwa [addr_add] at this

theorem WrR.of {W : World} : ∀ {bs : List (Int × List UInt8)} {xs : List Value}, xs.length = bs.length * 2 → (∀ i (h : i < bs.length), xs[i * 2]? = some (.int .i64 bs[i].1) ∧ ∃ y, xs[i * 2 + 1]? = some y ∧ AtB W y bs[i].2) → WrR W xs bs
  | [], [], _, _ => trivial
  | [], _ :: _, h, _ => by simp at h
  | (n, b) :: bs, [], h, _ => by simp at h
  | (n, b) :: bs, [_], h, _ => by simp at h; omega
  | (n, b) :: bs, x :: y :: xs, h, hc => by
    obtain ⟨k1, z, k2, k3⟩ := hc 0 (by simp)
    simp at k1 k2
    subst k1 k2
    refine ⟨rfl, k3, WrR.of (by simp at h; omega) fun i hi => ?_⟩
    obtain ⟨l1, u, l2, l3⟩ := hc (i + 1) (by simpa using hi)
    exact ⟨by simpa [Nat.succ_mul] using l1, u, by simpa [Nat.succ_mul] using l2, by simpa using l3⟩

/-- a slice of bytes, and how many its datum says there are -/
theorem bytes_of_trod' {cs : List Value} {fuel : Nat} {x : DataW H × List MemPlace} {b0 : Nat} {held : Bool} (h : DataW.trod enc Try.prog W b0 (fun _ => true) held fuel 22 cs = some x) :
    ∃ a n c l, cs = [.slice a n c] ∧ n ≤ maxLen ∧ Row 1 W a n c (List.map byteV l) ∧ (n = 0 ∨ ∃ m, n ≤ m ∧ m * Try.prog.bytesOf 5 ∈ x.1.weights Try.prog 22) := by
  obtain ⟨a, n, c, l, rfl, h1, h2⟩ := bytes_of_trod (fun _ => rfl) h
  refine ⟨a, n, c, l, rfl, h1, h2, ?_⟩
  rcases open_ints Try.underlying22 Try.underlying5 Try.cells5 h with ⟨e, _⟩ | ⟨a', len, cap, zs, e, _, hl, hm, hz, rfl, _⟩
  · simp at e; exact .inl e.2.1
  · simp at e
    obtain ⟨rfl, rfl, rfl⟩ := e
    rw [if_pos rfl] at hz
    refine .inr ⟨(zs.take n).length + (zs.drop n).length, by simp; omega, ?_⟩
    simp [DataW.weights, Try.underlying22, lits]

theorem weightsAll_mem {P : Program} {e : TypeId} : ∀ {l : List (DataW H)} {d : DataW H}, d ∈ l → ∀ n ∈ d.weights P e, n ∈ DataW.weightsAll P e l
  | x :: l, d, h, n, hn => by
    simp only [DataW.weightsAll, List.mem_append]
    rcases List.mem_cons.1 h with rfl | h
    · exact .inl hn
    · exact .inr (weightsAll_mem h n hn)

set_option maxRecDepth 100000 in
theorem open_writes (hval : Value.okWide Try.prog W .any base 39 v) (h : DataW.Trod enc Try.prog W 0 (fun _ => true) true 39 v d ps) (hw : ∀ n ∈ d.weights Try.prog 39, n ≤ reachBytes) :
    ∃ a n c l, v = .slice a n c ∧ n ≤ maxLen ∧ n = l.length ∧ Writes W a c l ∧ ∀ x ∈ l, x.2.length ≤ reachBytes := by
  obtain ⟨a, n, c, rfl⟩ := okWide_slice Try.underlying39 hval
  obtain ⟨fuel, hf⟩ := h
  rcases Go.Deep.open_slice_pairs Try.underlying39 Try.underlying58 Try.cells58 rfl rfl Try.cells3 Try.cells22 hf with ⟨e, _⟩ | ⟨a', len, cap, m, k, V0, V1, D0, D1, P0, P1, e, _, hl, hm, hmm, hx, hc⟩
  · simp [Value.cells] at e
    obtain ⟨rfl, rfl, rfl⟩ := e
    exact ⟨none, 0, 0, [], rfl, by unfold maxLen; omega, rfl, ⟨[], ⟨by simp, Nat.le_refl _, (fun _ => rfl), .inl rfl⟩, trivial⟩, fun s hs => by simp at hs⟩
  · simp [Value.cells] at e
    obtain ⟨rfl, rfl, rfl⟩ := e
    rw [if_pos rfl] at hmm
    have hd : d = .slice ((List.range n).map fun i => .agg [D0 i, D1 i]) ((List.range (m - n)).map fun j => .agg [D0 (n + j), D1 (n + j)]) := congrArg Prod.fst hx
    have each : ∀ i, i < n → ∃ q : Int × List UInt8, V0 i = .int .i64 q.1 ∧ AtB W (V1 i) q.2 ∧ q.2.length ≤ reachBytes := by
      intro i hi
      obtain ⟨_, _, h3, h4⟩ := hc i (by omega)
      obtain ⟨z, e0, _, _⟩ := DataW.trod_int Try.underlying3 h3
      obtain ⟨a5, n5, c5, l5, e1, h6, h7, h8⟩ := bytes_of_trod' h4
      simp at e0 e1
      have hl5 : l5.length = n5 := by simpa using h7.1
      refine ⟨(z, l5), e0, ⟨a5, c5, by rw [e1, hl5], by rw [hl5]; exact h7⟩, ?_⟩
      rcases h8 with h8 | ⟨m8, h8, h9⟩
      · show l5.length ≤ _; omega
      · have hmem : m8 * Try.prog.bytesOf 5 ∈ d.weights Try.prog 39 := by
          rw [hd]
          simp only [DataW.weights, Try.underlying39, List.mem_cons, List.mem_append]
          refine .inr (.inl (weightsAll_mem (List.mem_map.2 ⟨i, List.mem_range.2 hi, rfl⟩) _ ?_))
          simp only [DataW.weights, Try.underlying58, List.map_cons, List.map_nil, DataW.weightsEach, List.mem_append, List.append_nil]
          exact .inr h9
        have := hw _ hmem
        rw [Try.bytes5] at this
        show l5.length ≤ _
        omega
    obtain ⟨q, hq⟩ := Go.Deep.choose_lt each
    refine ⟨some a', n, c, (List.range n).map q, rfl, by omega, by simp, ?_, fun x hx => ?_⟩
    · refine ⟨(List.range (n * 2)).map fun j => if j % 2 = 0 then V0 (j / 2) else V1 (j / 2), ?_, ?_⟩
      · simp only [List.length_map, List.length_range]
        refine row_of_cellsK (by decide) (by simp) hl fun j hj => ?_
        simp at hj
        simp only [List.getElem_map, List.getElem_range]
        obtain ⟨c0, c1, _, _⟩ := hc (j / 2) (by omega)
        split
        · rename_i h0
          rw [show j / 2 * 2 = j by omega] at c0
          exact c0
        · rename_i h0
          rw [show j / 2 * 2 + 1 = j by omega] at c1
          exact c1
      · refine WrR.of (by simp) fun i hi => ?_
        simp at hi
        obtain ⟨g0, g1, _⟩ := hq i hi
        refine ⟨?_, V1 i, ?_, by simpa using g1⟩
        · rw [List.getElem?_map, List.getElem?_range (by omega)]
          simp [g0]
        · rw [List.getElem?_map, List.getElem?_range (by omega)]
          simp [show (i * 2 + 1) % 2 = 1 by omega, show (i * 2 + 1) / 2 = i by omega]
    · obtain ⟨i, hi, rfl⟩ := List.mem_map.1 hx
      exact (hq i (List.mem_range.1 hi)).2.2

theorem bools_of_trod {cs : List Value} {fuel : Nat} {x : DataW H × List MemPlace} {b0 : Nat} {held : Bool} (h : DataW.trod enc Try.prog W b0 (fun _ => true) held fuel 54 cs = some x) :
    ∃ a n c l, cs = [.slice a n c] ∧ n ≤ maxLen ∧ Row 1 W a n c (List.map boolV l) := by
  rcases Go.Deep.open_bools Try.underlying54 Try.underlying4 Try.cells4 h with ⟨rfl, _⟩ | ⟨a, len, cap, B, rfl, _, hl, hm, _, hcell⟩
  · exact ⟨none, 0, 0, [], rfl, by unfold maxLen; omega, ⟨by simp, Nat.le_refl _, (fun _ => rfl), .inl rfl⟩⟩
  · refine ⟨some a, len, cap, (List.range len).map B, rfl, by omega, row_of_cells (by simp) hl fun i hi => ?_⟩
    simp at hi
    rw [hcell i (by omega)]
    simp

set_option maxRecDepth 100000 in
theorem open_power (hval : Value.okWide Try.prog W .any base 56 v) (h : DataW.Trod enc Try.prog W 0 (fun _ => true) true 56 v d ps) :
    ∃ a n c l t, v = .agg #[.slice a n c, .int .i64 t] ∧ n ≤ maxLen ∧ Row 1 W a n c (List.map boolV l) ∧ (Lit.int .i64 t).wf = true := by
  obtain ⟨cs, rfl, hsz⟩ := okWide_struct Try.underlying56 hval
  obtain ⟨fuel, hf⟩ := h
  obtain ⟨y0, y1, k, _, hl, h0, h1⟩ := trod_struct2 Try.underlying56 hf
  rw [Try.cells56] at hsz
  match cs, hsz with
  | ⟨[u0, u1]⟩, _ =>
    simp only [Try.cells54, Try.cells3, Value.cells, List.drop_zero, List.take_succ_cons, List.take_zero, List.drop_succ_cons] at h0 h1
    obtain ⟨a, n, c, l, e0, k1, k2⟩ := bools_of_trod h0
    obtain ⟨t, e1, _, k3⟩ := DataW.trod_int Try.underlying3 h1
    simp at e0 e1
    subst e0 e1
    exact ⟨a, n, c, l, t, rfl, k1, k2, k3⟩
end
end Go.Proofs.Ytphalijdanmkeaa
