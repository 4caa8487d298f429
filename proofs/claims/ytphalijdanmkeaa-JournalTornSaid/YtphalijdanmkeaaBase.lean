/- Words for memory: a row of cells that a slice reads, and strings as lists of bytes. -/
import Derived.Test.YtphalijdanmkeaaProg
import Derived.WalkKit
import Derived.WalkSpells
import Derived.WalkLawsBesides
import Derived.Handy
import Derived.Lib.Hide
import Derived.Lib.Strings
namespace Go.Proofs.Ytphalijdanmkeaa
open Go.RowKit

/-- a byte as a value -/
def byteV (c : UInt8) : Value := .int .u8 (c.toNat : Int)
/-- a text as a value -/
abbrev strV (l : List UInt8) : Value := .string ⟨l.toArray⟩

/-- k-cell rows: the slice value with address a, n elements, capacity c holds the cells xs -/
def Row (k : Nat) (w : World) (a : Option Addr) (n c : Nat) (xs : List Value) : Prop :=
  xs.length = n * k ∧ n ≤ c ∧ (a = none → c = 0) ∧ (n = 0 ∨ ∃ b o, a = some ⟨b, o, none⟩ ∧ b < w.heap.size ∧ ∀ i (h : i < xs.length), w.cell? ⟨b, o + i, none⟩ = some xs[i])

theorem Row.mono {k : Nat} {w w' : World} {a : Option Addr} {n c : Nat} {xs : List Value} {B : Nat} (h : Row k w a n c xs) (hb : Below B w w') (hB : w.heap.size ≤ B) : Row k w' a n c xs := by
  obtain ⟨h1, h2, h3, h4⟩ := h
  refine ⟨h1, h2, h3, ?_⟩
  rcases h4 with h4 | ⟨b, o, e, hlt, hc⟩
  · exact .inl h4
  · exact .inr ⟨b, o, e, Nat.lt_of_lt_of_le hlt hb.size, fun i hi => (hb.cell (p := ⟨b, o + i, none⟩) (by show b < B; omega)).trans (hc i hi)⟩

/-- the cells, where there are any -/
theorem Row.some {k : Nat} {w : World} {a : Option Addr} {n c : Nat} {xs : List Value} (h : Row k w a n c xs) (hn : 0 < n) :
    ∃ b o, a = .some ⟨b, o, none⟩ ∧ b < w.heap.size ∧ ∀ i (h : i < xs.length), w.cell? ⟨b, o + i, none⟩ = .some xs[i] := by
  rcases h.2.2.2 with h4 | h4
  · omega
  · exact h4

def IsBytes (w : World) (v : Value) (l : List UInt8) : Prop := ∃ a n c, v = .slice a n c ∧ Row 1 w a n c (l.map byteV)
def IsStrs (w : World) (v : Value) (l : List (List UInt8)) : Prop := ∃ a n c, v = .slice a n c ∧ Row 1 w a n c (l.map strV)

theorem IsBytes.mono {w w' : World} {v : Value} {l : List UInt8} {B : Nat} (h : IsBytes w v l) (hb : Below B w w') (hB : w.heap.size ≤ B) : IsBytes w' v l :=
  let ⟨a, n, c, e, r⟩ := h; ⟨a, n, c, e, r.mono hb hB⟩
theorem IsStrs.mono {w w' : World} {v : Value} {l : List (List UInt8)} {B : Nat} (h : IsStrs w v l) (hb : Below B w w') (hB : w.heap.size ≤ B) : IsStrs w' v l :=
  let ⟨a, n, c, e, r⟩ := h; ⟨a, n, c, e, r.mono hb hB⟩

theorem ret_int {k : IntKind} {a b : Int} (h : a = b) : Ending.returned (.int k a) = .returned (.int k b) := by rw [h]
theorem ret_bool {a b : Bool} (h : a = b) : Ending.returned (.bool a) = .returned (.bool b) := by rw [h]
theorem ret_str {a b : ByteArray} (h : a = b) : Ending.returned (.string a) = .returned (.string b) := by rw [h]

/-- a letter of a text, as the walk spells it -/
@[go_sem] theorem str_index (l : List UInt8) (k : Nat) (h : k < (⟨l.toArray⟩ : ByteArray).size) : (⟨l.toArray⟩ : ByteArray)[k] = l[k]'(by simpa [ByteArray.size] using h) := rfl
@[go_sem] theorem bytes_append (a b : List UInt8) : (⟨a.toArray⟩ : ByteArray) ++ ⟨b.toArray⟩ = ⟨(a ++ b).toArray⟩ := by
  apply ByteArray.ext; simp

/-- a new block, written out -/
theorem Row.made {k : Nat} (w : World) (xs : List Value) (e : TypeId) {n c : Nat} (hl : xs.length = n * k) (hn : n ≤ c) :
    Row k (w.alloc (.cells xs.toArray e)) (Option.some ⟨w.heap.size, 0, none⟩) n c xs :=
  ⟨hl, hn, (fun h => by cases h), .inr ⟨w.heap.size, 0, rfl, by simp, fun i hi => by simp [hi]⟩⟩

theorem strOf_bytes (l : List UInt8) : strOfNums (l.map fun c => (c.toNat : Int)) = ⟨l.toArray⟩ := by
  simp [strOfNums, List.map_map, Function.comp_def]

/-- string(b) of a slice of bytes -/
theorem run_conv {P : Program} {w : World} {a : Option Addr} {n c : Nat} {l : List UInt8} (h : Row 1 w a n c (l.map byteV)) (src dst e : TypeId)
    (hs : P.underlying src = some (.slice e)) (he : P.underlying e = some (.int .u8)) (hd : P.underlying dst = some .string) :
    (convert src dst (.slice a n c)).run P w = .ok (strV l) w := by
  obtain ⟨h1, h2, h3, h4⟩ := h
  simp at h1
  subst h1
  rcases h4 with h4 | ⟨b, o, rfl, hb, hc⟩
  · obtain rfl : l = [] := List.eq_nil_of_length_eq_zero h4
    cases a with
    | none => exact run_convert_bytes_nil w src e hs he _ _ dst hd
    | some a =>
      obtain ⟨b, o, sp⟩ := a
      have := run_bytesToString (P := P) w ⟨b, o, sp⟩ 0 c [] (by simp [loadCells, loadCellsFrom])
      rw [run_convert_bytes_string w src dst e _ _ _ hs he hd]
      exact this
  · rw [run_convert_bytes_arg w src e hs he b o l.length c (l.map fun c => (c.toNat : Int)) (by simp) (fun i hi => by
      rw [hc i (by simpa using hi)]; simp [byteV, hi]) dst hd, strOf_bytes]

/-- what the call owns reads as a row -/
theorem own_row {w : World} {B : Nat} {e : TypeId} {k : Nat} {v : Value} {n : Nat} {xs : List Value} (h : w.ownsRow B e k v n xs) : ∃ a c, v = .slice a n c ∧ Row k w a n c xs := by
  obtain ⟨hl, h⟩ := h
  rcases h with ⟨rfl, rfl⟩ | ⟨g, cap, cur, rfl, hb, hg, hnc, hcm, hcs, ht⟩
  · exact ⟨none, 0, rfl, hl, Nat.le_refl _, fun _ => rfl, .inl rfl⟩
  · refine ⟨_, _, rfl, hl, hnc, (fun h => by cases h), .inr ⟨g, 0, rfl, (Array.getElem?_eq_some_iff.1 hg).1, fun i hi => ?_⟩⟩
    have hi' : i < n * k := hl ▸ hi
    rw [Nat.zero_add, cell_of_row w g i cur e (0, 0) hg]
    have : xs[i]? = cur[i]? := by rw [← ht, List.getElem?_take, if_pos hi']; simp
    rw [← this, List.getElem?_eq_getElem hi]

/-- append, of whatever the call owns and whatever a row holds -/
theorem run_append_row {P : Program} (w : World) (B : Nat) (t ty e : TypeId) (i : TypeInfo) (z : Value) (k bytes : Nat) (ht : P.underlying t = some (.slice e)) (hi : P.info? e = some i) (hz : i.zero = some z)
    (hsize : i.size = k) (hby : i.bytes = bytes) (hzs : z.cells.size = k) (hsz : 0 < k)
    (v : Value) (n : Nat) (xs : List Value) (hown : w.ownsRow B e k v n xs) (ax : Option Addr) (m c : Nat) (news : List Value) (hr : Row k w ax m c news) (h1 : ∀ u ∈ news, u.oneCell' = true)
    (h63 : n + m ≤ maxLen) (hbytes : (n + m) * bytes ≤ 140737488355328) (hB : B ≤ w.heap.size) :
    ∃ v' w', (Builtin.append_ #[t, t] ty #[v, .slice ax m c]).run P w = .ok v' w' ∧ w'.ownsRow B e k v' (n + m) (xs ++ news) ∧ w.grownBy w' v.ownBlock := by
  obtain ⟨hl, hmc, hnil, hcell⟩ := hr
  cases ax with
  | none =>
    obtain rfl := hnil rfl
    obtain rfl : m = 0 := by omega
    obtain rfl : news = [] := List.eq_nil_of_length_eq_zero (by omega)
    exact ⟨v, w, run_append_owned_none w B t ty e i k ht hi v n xs hown, by simpa using hown, ⟨rfl, rfl, rfl, Nat.le_refl _, fun _ _ _ => rfl⟩⟩
  | some a =>
    have hnews : ∀ j u, news[j]? = some u → w.cell? (a.add j) = some u := by
      intro j u hj
      have hj' : j < news.length := (List.getElem?_eq_some_iff.1 hj).1
      rcases hcell with h0 | ⟨b, o, e, _, hc⟩
      · subst h0; omega
      · obtain rfl := Option.some.inj e
        have hp : (⟨b, o, none⟩ : Addr).add j = ⟨b, o + j, none⟩ := by unfold Addr.add; split <;> simp_all
        rw [hp, hc j hj', ← hj, List.getElem?_eq_getElem hj']
    obtain ⟨v', w', h1, h2, h3, _⟩ := run_append_own (P := P) w B t ty e i z k bytes ht hi hz hsize hby hzs hsz v n xs hown a m c news hl hnews h1 h63 hbytes hB
    exact ⟨v', w', h1, h2, h3⟩

theorem wpList_append_row {P : Program} {w : World} {ops : Array Oper} {rest : List Oper} {o : Oper} {a : Act} {Q : Exit → Act → World → Prop} (hgd : o.guard = none) (s x : Operand) (t : TypeId)
    (ho : o.op = .call { callee := .builtin .append, args := #[s, x], argTypes := #[t, t] })
    (B : Nat) (e : TypeId) (i : TypeInfo) (z : Value) (k bytes : Nat) (ht : P.underlying t = some (.slice e)) (hi : P.info? e = some i) (hz : i.zero = some z)
    (hsize : i.size = k) (hby : i.bytes = bytes) (hzs : z.cells.size = k) (hsz : 0 < k)
    (v : Value) (n : Nat) (xs : List Value) (hs : a.eval s = v) (hown : w.ownsRow B e k v n xs)
    (ax : Option Addr) (m c : Nat) (news : List Value) (hx : a.eval x = .slice ax m c) (hr : Row k w ax m c news) (h1 : ∀ u ∈ news, u.oneCell' = true)
    (h63 : n + m ≤ maxLen) (hbytes : (n + m) * bytes ≤ 140737488355328) (hB : B ≤ w.heap.size)
    (h : ∀ a' c' w', w'.ownsRow B e k (.slice a' (n + m) c') (n + m) (xs ++ news) → w.grownBy w' v.ownBlock → wpList P ops Q rest (a.put o.dst (.slice a' (n + m) c')) w') : wpList P ops Q (o :: rest) a w := by
  refine wpList_plain hgd fun K hK => ?_
  obtain ⟨v', w', hrun, h2, h3⟩ := run_append_row (P := P) w B t o.type e i z k bytes ht hi hz hsize hby hzs hsz v n xs hown ax m c news hr h1 h63 hbytes hB
  obtain ⟨a', c', rfl, _⟩ := own_row h2
  unfold Oper.wp execOp
  simp only [ho, resolve, invoke, builtin, Sem.run_bind, Sem.run_pure, Result.andThen_ok, List.map_toArray, List.map_cons, List.map_nil, hs, hx, hrun]
  exact hK _ _ (h a' c' w' h2 h3)

theorem Try.info5 : (Try.prog.info? 5).map (fun i => (i.zero, i.size, i.bytes)) = some (some (.int .u8 0), 1, 1) := by kernel_rfl
theorem Try.info9 : (Try.prog.info? 9).map (fun i => (i.zero, i.size, i.bytes)) = some (some (.string ⟨#[]⟩), 1, 16) := by kernel_rfl
theorem Try.info58 : (Try.prog.info? 58).map (fun i => (i.zero, i.size, i.bytes)) = some (some (.agg #[.int .i64 0, .slice none 0 0]), 2, 32) := by kernel_rfl
theorem Try.info4 : (Try.prog.info? 4).map (fun i => (i.zero, i.size, i.bytes)) = some (some (.bool false), 1, 1) := by kernel_rfl

theorem bytes_one (l : List UInt8) : ∀ u ∈ l.map byteV, u.oneCell' = true := by
  intro u hu
  obtain ⟨c, _, rfl⟩ := List.mem_map.1 hu
  rfl
theorem strs_one (l : List (List UInt8)) : ∀ u ∈ l.map strV, u.oneCell' = true := by
  intro u hu
  obtain ⟨c, _, rfl⟩ := List.mem_map.1 hu
  rfl

/-- append of bytes -/
theorem append_bytes {w : World} {ops : Array Oper} {rest : List Oper} {o : Oper} {a : Act} {Q : Exit → Act → World → Prop} (hgd : o.guard = none) (s x : Operand) (t : TypeId)
    (ho : o.op = .call { callee := .builtin .append, args := #[s, x], argTypes := #[t, t] }) (ht : Try.prog.underlying t = some (.slice 5))
    (B : Nat) (v : Value) (n : Nat) (xs : List UInt8) (hs : a.eval s = v) (hown : w.ownsRow B 5 1 v n (xs.map byteV))
    (ax : Option Addr) (m c : Nat) (news : List UInt8) (hx : a.eval x = .slice ax m c) (hr : Row 1 w ax m c (news.map byteV))
    (hbytes : n + m ≤ 140737488355328) (hB : B ≤ w.heap.size)
    (h : ∀ a' c' w', w'.ownsRow B 5 1 (.slice a' (n + m) c') (n + m) ((xs ++ news).map byteV) → w.grownBy w' v.ownBlock → wpList Try.prog ops Q rest (a.put o.dst (.slice a' (n + m) c')) w') : wpList Try.prog ops Q (o :: rest) a w := by
  obtain ⟨i0, hi, hz0, hz1, hz2⟩ := info_parts Try.info5
  refine wpList_append_row hgd s x t ho B 5 i0 (.int .u8 0) 1 1 ht hi hz0 hz1 hz2 rfl (by decide) v n _ hs hown ax m c _ hx hr (bytes_one _) (by unfold maxLen; omega) (by omega) hB ?_
  rw [← List.map_append]
  exact h

theorem sliced_row {k : Nat} {w : World} {a : Option Addr} {n c : Nat} {xs : List Value} (h : Row k w a n c xs) {lo hi m : Nat} (h1 : lo ≤ hi) (h2 : hi ≤ n) (hm : hi ≤ m) (hmc : m ≤ c) :
    ∃ a' c', sliced a lo hi m k = .slice a' (hi - lo) c' ∧ Row k w a' (hi - lo) c' ((xs.drop (lo * k)).take ((hi - lo) * k)) := by
  refine ⟨_, _, rfl, ?_, by omega, ?_, ?_⟩
  · rw [List.length_take, List.length_drop, h.1, Nat.min_eq_left]
    rw [← Nat.sub_mul]
    exact Nat.mul_le_mul_right _ (by omega)
  · intro e
    split at e
    · omega
    · have := h.2.2.1 (by simpa using e); omega
  · by_cases h0 : hi - lo = 0
    · exact .inl h0
    · obtain ⟨b, o, rfl, hb, hc⟩ := h.some (by omega)
      refine .inr ⟨b, o + lo * k, ?_, hb, fun i hi' => ?_⟩
      · rw [if_neg (by omega)]
        simp only [Option.map_some, Addr.add]
        split
        · simp_all
        · rfl
      · have hi2 : lo * k + i < xs.length := by
          rw [List.length_take, List.length_drop] at hi'
          omega
        rw [Nat.add_assoc, hc (lo * k + i) hi2]
        simp

section
variable {P : Program} {T : TypeId} {k : Nat} {w : World} {a : Option Addr} {n c : Nat} {xs : List Value}

/-- x[lo:hi] -/
theorem slice_lh (h : Row k w a n c xs) (ht : P.underlying T = some (.slice (P.elem T))) (hk : ∀ W, (sizeOf (P.elem T)).run P W = .ok k W) (lo hi : Int) (h0 : 0 ≤ lo) (h1 : lo ≤ hi) (h2 : hi ≤ n) :
    ∃ a' c', (∀ W : World, (Instr.slice T (.slice a n c) (some (.int .i64 lo)) (some (.int .i64 hi)) none).run P W = .ok (.slice a' (hi.toNat - lo.toNat) c') W) ∧
      Row k w a' (hi.toNat - lo.toNat) c' ((xs.drop (lo.toNat * k)).take ((hi.toNat - lo.toNat) * k)) := by
  have hnc := h.2.1
  obtain ⟨a', c', e, hr⟩ := sliced_row h (lo := lo.toNat) (hi := hi.toNat) (m := c) (by omega) (by omega) (by omega) (by omega)
  refine ⟨a', c', fun W => ?_, hr⟩
  rw [run_slice_lh W T a n c ht .i64 .i64 lo hi h0 h1 (by omega), hk W]
  simp only [Result.andThen]
  rw [e]

/-- x[lo:hi:m] -/
theorem slice_lhm (h : Row k w a n c xs) (ht : P.underlying T = some (.slice (P.elem T))) (hk : ∀ W, (sizeOf (P.elem T)).run P W = .ok k W) (lo hi m : Int) (h0 : 0 ≤ lo) (h1 : lo ≤ hi) (h2 : hi ≤ n) (h3 : hi ≤ m) (h4 : m ≤ c) :
    ∃ a' c', (∀ W : World, (Instr.slice T (.slice a n c) (some (.int .i64 lo)) (some (.int .i64 hi)) (some (.int .i64 m))).run P W = .ok (.slice a' (hi.toNat - lo.toNat) c') W) ∧
      Row k w a' (hi.toNat - lo.toNat) c' ((xs.drop (lo.toNat * k)).take ((hi.toNat - lo.toNat) * k)) := by
  obtain ⟨a', c', e, hr⟩ := sliced_row h (lo := lo.toNat) (hi := hi.toNat) (m := m.toNat) (by omega) (by omega) (by omega) (by omega)
  refine ⟨a', c', fun W => ?_, hr⟩
  rw [run_slice_lhm W T a n c ht .i64 .i64 .i64 lo hi m h0 h1 h3 h4, hk W]
  simp only [Result.andThen]
  rw [e]

/-- x[lo:] -/
theorem slice_l (h : Row k w a n c xs) (ht : P.underlying T = some (.slice (P.elem T))) (hk : ∀ W, (sizeOf (P.elem T)).run P W = .ok k W) (lo : Int) (h0 : 0 ≤ lo) (h1 : lo ≤ n) :
    ∃ a' c', (∀ W : World, (Instr.slice T (.slice a n c) (some (.int .i64 lo)) none none).run P W = .ok (.slice a' (n - lo.toNat) c') W) ∧
      Row k w a' (n - lo.toNat) c' (xs.drop (lo.toNat * k)) := by
  have hnc := h.2.1
  obtain ⟨a', c', e, hr⟩ := sliced_row h (lo := lo.toNat) (hi := n) (m := c) (by omega) (by omega) (by omega) (by omega)
  refine ⟨a', c', fun W => ?_, ?_⟩
  · rw [run_slice_l W T a n c ht .i64 lo h0 h1, hk W]
    simp only [Result.andThen]
    rw [e]
  · rw [List.take_of_length_le (by rw [List.length_drop, h.1, ← Nat.sub_mul]; exact Nat.le_refl _)] at hr
    exact hr

/-- x[:hi] -/
theorem slice_h (h : Row k w a n c xs) (ht : P.underlying T = some (.slice (P.elem T))) (hk : ∀ W, (sizeOf (P.elem T)).run P W = .ok k W) (hi : Int) (h0 : 0 ≤ hi) (h1 : hi ≤ n) :
    ∃ a' c', (∀ W : World, (Instr.slice T (.slice a n c) none (some (.int .i64 hi)) none).run P W = .ok (.slice a' hi.toNat c') W) ∧
      Row k w a' hi.toNat c' (xs.take (hi.toNat * k)) := by
  have hnc := h.2.1
  obtain ⟨a', c', e, hr⟩ := sliced_row h (lo := 0) (hi := hi.toNat) (m := c) (by omega) (by omega) (by omega) (by omega)
  refine ⟨a', c', fun W => ?_, by simpa using hr⟩
  rw [run_slice_h W T a n c ht .i64 hi h0 (by omega), hk W]
  simp only [Result.andThen]
  rw [e]
  simp
end

theorem Try.size5 (W : World) : (sizeOf (Try.prog.elem 22)).run Try.prog W = .ok 1 W := by kernel_rfl
theorem Try.size5d (W : World) : (sizeOf (Try.prog.elem 79)).run Try.prog W = .ok 1 W := by kernel_rfl
theorem Try.size9 (W : World) : (sizeOf (Try.prog.elem 34)).run Try.prog W = .ok 1 W := by kernel_rfl
theorem Try.size58 (W : World) : (sizeOf (Try.prog.elem 39)).run Try.prog W = .ok 2 W := by kernel_rfl
theorem Try.und22 : Try.prog.underlying 22 = some (.slice (Try.prog.elem 22)) := by kernel_rfl
theorem Try.und79 : Try.prog.underlying 79 = some (.slice (Try.prog.elem 79)) := by kernel_rfl
theorem Try.und34 : Try.prog.underlying 34 = some (.slice (Try.prog.elem 34)) := by kernel_rfl
theorem Try.und39 : Try.prog.underlying 39 = some (.slice (Try.prog.elem 39)) := by kernel_rfl
end Go.Proofs.Ytphalijdanmkeaa
