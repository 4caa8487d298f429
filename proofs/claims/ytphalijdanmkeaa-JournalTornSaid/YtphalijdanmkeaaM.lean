/- What must be written so that a device has bytes at its beginning: the parts. -/
import Derived.Test.YtphalijdanmkeaaL
import Derived.Test.YtphalijdanmkeaaLate
import Derived.Deep.WholeRow
import Derived.Lib.BufferWrite
namespace Go.Proofs.Ytphalijdanmkeaa
open Go.RowKit Go.Shelf J
attribute [local go_sem] Oper.semAt_some

theorem Chunk_any (a : Option Addr) (m c : Nat) (w : World) :
    Calls Try.prog 76 #[.slice a m c, .int .i64 32] w fun e w' => e = .returned (.func (.func 86) #[] #[.pointer (some ⟨w.heap.size, 0, none⟩), .pointer (some ⟨w.heap.size + 1, 0, none⟩)]) ∧ (w.alloc (.cells #[.slice a m c] 22)).alloc (.cells #[.int .i64 32] 3) = w' := by
  have hmf : ∀ (fn : Fn) (first cap : Array Value) (w : World), (Instr.makeFunc fn first cap).run Try.prog w = .ok (.func fn first cap) w := fun _ _ _ _ => rfl
  go_enter Try.func76, Try.ntmps76
  go_wp2
  go_ret
  exact ⟨rfl, rfl⟩

theorem chunk_stops (n : Nat) (B1 B2 n₀ g N : Nat) (hN : N ≤ 250) (w : World) (h1 : B1 < w.heap.size) (h2 : B2 < w.heap.size)
    (hc1 : w.cell? ⟨B1, 0, none⟩ = some (.slice (some ⟨g, 0, none⟩) (32 * N) (32 * N))) (hc2 : w.cell? ⟨B2, 0, none⟩ = some (.int .i64 32)) :
    SeqStopsK Fence.wide n Try.prog 86 #[.pointer (some ⟨B1, 0, none⟩), .pointer (some ⟨B2, 0, none⟩)] (fun k : Fin N => encC g k.val) (Keep2 n₀ B1 B2) (fun ys => ys.map (·.val) = List.range N) (fun _ => True) N w := by
  intro l J Jx W hW hJ _ hY h0
  refine (chunk1_in n l B1 B2 n₀ g N hN (fun pre W => ∃ fs : List (Fin N), fs.map (·.val) = pre ∧ J fs W) (fun pre W => ∃ fs : List (Fin N), fs.map (·.val) = pre ∧ Jx fs W) W
    (fun s A B row ⟨fs, e, h⟩ hg hr => ⟨fs, e, hJ fs A B row h hg hr⟩) ((hW.cell (p := ⟨B1, 0, none⟩) h1).trans hc1) ((hW.cell (p := ⟨B2, 0, none⟩) h2).trans hc2) ?_ ⟨[], rfl, h0⟩).mono ?_
  · rintro pre x W1 ⟨fs, rfl, hfs⟩ hlt hx
    have hlt' : fs.length < N := by simpa using hlt
    have hxN : x < N := by simp at hx; omega
    obtain ⟨fn, tmps, assign, body, hy, hR⟩ := hY fs ⟨x, hxN⟩ W1 hfs hlt'
    refine ⟨fn, tmps, assign, body, hy, hR.mono ?_⟩
    rintro e W' (⟨he, hj, hk⟩ | ⟨he, hj⟩)
    · exact .inl ⟨he, ⟨_, by simp, hj⟩, hk⟩
    · exact .inr ⟨he, ⟨_, by simp, hj⟩⟩
  · rintro e W' ⟨hv, (⟨ys, rfl, fs, he, hj⟩ | ⟨pre, _, fs, _, hj⟩)⟩
    · exact ⟨hv, .inl ⟨fs, he, hj⟩⟩
    · exact ⟨hv, .inr ⟨fs, trivial, hj⟩⟩

theorem pad_length (s : List UInt8) (n : Nat) (h : s.length ≤ n) : (pad s n).length = n := by simp [pad]; omega
theorem pad_eq (s : List UInt8) (n : Nat) (h : s.length ≤ n) : pad s n = s ++ List.replicate (n - s.length) 0 := by simp [pad, List.take_of_length_le h]

theorem Try.size1of5 : (Try.prog.info? 5).map (·.size) = some 1 := by kernel_rfl

theorem copy_pad (W : World) (n : Nat) (s : List UInt8) (hs : s.length ≤ n) :
    (Builtin.copy_ #[22, 9] 3 #[.slice (some ⟨W.heap.size, 0, none⟩) n n, .string ⟨s.toArray⟩]).run Try.prog (W.alloc (.cells (zeros n) 5)) = .ok (.int .i64 (s.length : Int)) (W.alloc (.cells ((pad s n).map byteV).toArray 5)) := by
  have hz : (⟨s.toArray⟩ : ByteArray).size = s.length := by simp [ByteArray.size]
  rw [Lib.run_copy_row_string (P := Try.prog) (W.alloc (.cells (zeros n) 5)) 22 9 3 5 W.heap.size 0 n n ⟨s.toArray⟩ (zeros n) 5 Try.underlying22 Try.size1of5 (World.alloc_heap_new W _) (by rw [hz]; exact hs) (by rw [hz, zeros_size]; omega)]
  rw [World.setRow_alloc_new, hz, pad_eq s n hs]
  congr 3
  · simp [zeros, Lib.byteCells, byteV]

/-- the blocks in which a device turns, from one on -/
def blkI (b t : List UInt8) : Nat → List Nat → List (Int × List UInt8)
  | _, [] => []
  | i, x :: r => (if chunk x t = chunk i b then [] else [((i : Int), chunk x t)]) ++ blkI b t (i + 1) r
theorem blkI_snoc (b t : List UInt8) (x : Nat) : ∀ (pre : List Nat) (i : Nat), blkI b t i (pre ++ [x]) = blkI b t i pre ++ (if chunk x t = chunk (i + pre.length) b then [] else [(((i + pre.length : Nat) : Int), chunk x t)])
  | [], i => by simp [blkI]
  | y :: r, i => by
    simp only [List.cons_append, blkI, blkI_snoc b t x r (i + 1), List.length_cons, List.append_assoc, show i + 1 + r.length = i + (r.length + 1) from by omega]
theorem blkI_blocks (b t : List UInt8) : ∀ (m i : Nat), blkI b t i (List.range' i m) = blocksFrom i m b t
  | 0, _ => rfl
  | m + 1, i => by
    simp only [List.range'_succ, blkI, blkI_blocks b t m (i + 1), blocksFrom]
    by_cases h : chunk i t = chunk i b
    · rw [if_pos h, if_pos h.symm]; rfl
    · rw [if_neg h, if_neg (fun e => h e.symm)]; rfl

/-- what the call owns abides what turns no cells -/
theorem ownsRow_others {W W' : World} {base : Nat} {e : TypeId} {size : Nat} {v : Value} {n : Nat} {xs : List Value} {row : Option Nat} (h : W.ownsRow base e size v n xs) (hg : W.grownBy W' row) (hr : ∀ r, row = some r → ∃ o : Obj, W.heap[r]? = some o ∧ o.isCells = false) : W'.ownsRow base e size v n xs := by
  refine h.kept hg ?_
  rcases h.2 with ⟨rfl, _⟩ | ⟨g, cap, cur, rfl, _, hgb, _⟩
  · exact .inl rfl
  · refine .inr fun e' => ?_
    obtain ⟨o, ho, hc⟩ := hr g (by simpa [Value.ownBlock] using e'.symm)
    rw [hgb] at ho; cases ho; cases hc

/-- rows of two types are two -/
theorem ownsRow_two {W : World} {base base' : Nat} {e e' : TypeId} {size size' : Nat} {v v' : Value} {n n' : Nat} {xs xs' : List Value} (h : W.ownsRow base e size v n xs) (h' : W.ownsRow base' e' size' v' n' xs') (hne : e ≠ e') : v.ownBlock = none ∨ v.ownBlock ≠ v'.ownBlock := by
  rcases h.2 with ⟨rfl, _⟩ | ⟨g, cap, cur, rfl, _, hgb, _⟩
  · exact .inl rfl
  · refine .inr fun e2 => ?_
    rcases h'.2 with ⟨rfl, _⟩ | ⟨g', cap', cur', rfl, _, hgb', _⟩
    · simp [Value.ownBlock] at e2
    · obtain rfl : g = g' := by simpa [Value.ownBlock] using e2
      rw [hgb] at hgb'
      simp at hgb'
      exact hne hgb'.2

/-- the cells of writes of whatever the call owns -/
def WrO (B : Nat) (W : World) : List Value → List (Int × List UInt8) → Prop
  | [], [] => True
  | x :: y :: xs, (n, b) :: bs => x = .int .i64 n ∧ W.ownsRow B 5 1 y b.length (b.map byteV) ∧ WrO B W xs bs
  | _, _ => False
theorem WrO.imp {B : Nat} {W W' : World} (h : ∀ y n xs, W.ownsRow B 5 1 y n xs → W'.ownsRow B 5 1 y n xs) : ∀ {xs : List Value} {bs : List (Int × List UInt8)}, WrO B W xs bs → WrO B W' xs bs
  | [], [], _ => trivial
  | _ :: _ :: _, (_, _) :: _, ⟨h1, h2, h3⟩ => ⟨h1, h _ _ _ h2, WrO.imp h h3⟩
theorem WrO.snoc {B : Nat} {W : World} {y : Value} {n : Int} {b : List UInt8} (h2 : W.ownsRow B 5 1 y b.length (b.map byteV)) : ∀ {xs : List Value} {bs : List (Int × List UInt8)}, WrO B W xs bs → WrO B W (xs ++ [.int .i64 n, y]) (bs ++ [(n, b)])
  | [], [], _ => ⟨rfl, h2, trivial⟩
  | _ :: _ :: _, (_, _) :: _, ⟨k1, k2, k3⟩ => ⟨k1, k2, WrO.snoc h2 k3⟩
theorem WrO.length {B : Nat} {W : World} : ∀ {xs : List Value} {bs : List (Int × List UInt8)}, WrO B W xs bs → xs.length = bs.length * 2
  | [], [], _ => rfl
  | _ :: _ :: _, (_, _) :: _, ⟨_, _, k3⟩ => by simp [WrO.length k3]; omega

theorem held_own {β : Type} (b : Nat) (o : Obj) (ho : o.isCells = true) : Own (fun (_ : β) W => W.heap[b]? = some o) := fun s X Y row hs hg hrow =>
  (hg.block b (Array.getElem?_eq_some_iff.1 hs).1 (fun e' => by obtain ⟨o', ho', hc⟩ := hrow b e'.symm; rw [hs] at ho'; cases ho'; rw [ho] at hc; cases hc)).trans hs
theorem held_not_row {W : World} {b : Nat} {cs : Array Value} {t e : TypeId} {fr : Nat × Nat} (h : W.heap[b]? = some (.cells cs t fr)) (hte : t ≠ e) {base size k : Nat} {v : Value} {xs : List Value} (hr : W.ownsRow base e size v k xs) : some b ≠ v.ownBlock := by
  rcases hr.2 with ⟨rfl, _⟩ | ⟨g, cap, cur, rfl, _, hgb, _⟩
  · simp [Value.ownBlock]
  · intro e'
    obtain rfl : b = g := by simpa [Value.ownBlock] using e'
    have := h.symm.trans hgb
    simp at this
    exact hte this.2.1
theorem held_kept {W W' : World} {b : Nat} {o : Obj} {row : Option Nat} (h : W.heap[b]? = some o) (hg : W.grownBy W' row) (hne : some b ≠ row) : W'.heap[b]? = some o := (hg.block b (Array.getElem?_eq_some_iff.1 h).1 hne).trans h
theorem ownsRow_weaken {W : World} {base base' : Nat} {e : TypeId} {size : Nat} {v : Value} {n : Nat} {xs : List Value} (h : W.ownsRow base e size v n xs) (hb : base' ≤ base) : W.ownsRow base' e size v n xs := by
  refine ⟨h.1, ?_⟩
  rcases h.2 with hn | ⟨g, cap, cur, rfl, hg, rest⟩
  · exact .inl hn
  · exact .inr ⟨g, cap, cur, rfl, by omega, rest⟩
theorem held_row {W : World} {b : Nat} {l : List UInt8} (h : W.heap[b]? = some (.cells (l.map byteV).toArray 5 (0, 0))) (x : Nat) (hx : 32 * x + 32 ≤ l.length) : Row 1 W (some ⟨b, 32 * x, none⟩) 32 32 ((chunk x l).map byteV) := by
  refine ⟨by simp [chunk]; omega, Nat.le_refl _, (fun h => by cases h), .inr ⟨b, 32 * x, rfl, (Array.getElem?_eq_some_iff.1 h).1, fun i hi => ?_⟩⟩
  simp [chunk] at hi
  simp [World.cell?, h, chunk, show 32 * x + i < l.length from by omega]
end Go.Proofs.Ytphalijdanmkeaa
