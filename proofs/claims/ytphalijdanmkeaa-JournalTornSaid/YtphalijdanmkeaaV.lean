/- Whether two lists of writes are the same. -/
import Derived.Test.YtphalijdanmkeaaU
namespace Go.Proofs.Ytphalijdanmkeaa
open Go.RowKit Go.Shelf J

/-- a slice of bytes, somewhere -/
def AtB (W : World) (y : Value) (b : List UInt8) : Prop := ∃ a c, y = .slice a b.length c ∧ Row 1 W a b.length c (b.map byteV)
theorem AtB.mono {W W' : World} {y : Value} {b : List UInt8} {B : Nat} (h : AtB W y b) (hb : Below B W W') (hB : W.heap.size ≤ B) : AtB W' y b := let ⟨a, c, e, r⟩ := h; ⟨a, c, e, r.mono hb hB⟩

/-- the cells of writes, somewhere -/
def WrR (W : World) : List Value → List (Int × List UInt8) → Prop
  | [], [] => True
  | x :: y :: xs, (n, b) :: bs => x = .int .i64 n ∧ AtB W y b ∧ WrR W xs bs
  | _, _ => False
theorem WrR.imp {W W' : World} (h : ∀ y b, AtB W y b → AtB W' y b) : ∀ {xs : List Value} {bs : List (Int × List UInt8)}, WrR W xs bs → WrR W' xs bs
  | [], [], _ => trivial
  | _ :: _ :: _, (_, _) :: _, ⟨h1, h2, h3⟩ => ⟨h1, h _ _ h2, WrR.imp h h3⟩
theorem WrR.get {W : World} : ∀ {xs : List Value} {bs : List (Int × List UInt8)}, WrR W xs bs → ∀ i (h : i < bs.length), xs[i * 2]? = some (.int .i64 bs[i].1) ∧ ∃ y, xs[i * 2 + 1]? = some y ∧ AtB W y bs[i].2
  | [], [], _, _, hi => by simp at hi
  | x :: y :: xs, (n, b) :: bs, ⟨h1, h2, h3⟩, i, hi => by
    cases i with
    | zero => exact ⟨by simp [h1], y, by simp, h2⟩
    | succ i =>
      obtain ⟨k1, z, k2, k3⟩ := h3.get i (by simpa using hi)
      exact ⟨by simpa [Nat.succ_mul] using k1, z, by simpa [Nat.succ_mul] using k2, k3⟩
theorem WrO.toR {B : Nat} {W : World} : ∀ {xs : List Value} {bs : List (Int × List UInt8)}, WrO B W xs bs → WrR W xs bs
  | [], [], _ => trivial
  | _ :: _ :: _, (_, _) :: _, ⟨h1, h2, h3⟩ => ⟨h1, (by obtain ⟨a, c, e, r⟩ := own_row h2; exact ⟨a, c, e, r⟩), h3.toR⟩

/-- a list of writes, somewhere: the slice has this address, so many elements, this capacity -/
def Writes (W : World) (a : Option Addr) (c : Nat) (bs : List (Int × List UInt8)) : Prop := ∃ xs, Row 2 W a bs.length c xs ∧ WrR W xs bs
theorem Writes.mono {W W' : World} {a : Option Addr} {c : Nat} {bs : List (Int × List UInt8)} {B : Nat} (h : Writes W a c bs) (hb : Below B W W') (hB : W.heap.size ≤ B) : Writes W' a c bs :=
  let ⟨xs, r, k⟩ := h; ⟨xs, r.mono hb hB, k.imp fun _ _ h => h.mono hb hB⟩
theorem Writes.of {B : Nat} {W : World} {a : Option Addr} {c : Nat} {bs : List (Int × List UInt8)} {xs : List Value} (ho : W.ownsRow B 58 2 (.slice a bs.length c) bs.length xs) (hw : WrO B W xs bs) : Writes W a c bs := ⟨xs, row_of_own ho, hw.toR⟩
/-- the cells of one of them -/
theorem Writes.at {W : World} {a : Option Addr} {c : Nat} {bs : List (Int × List UInt8)} (h : Writes W a c bs) (hn : 0 < bs.length) :
    ∃ b o, a = some ⟨b, o, none⟩ ∧ b < W.heap.size ∧ ∀ i (hi : i < bs.length), W.cell? ⟨b, o + i * 2, none⟩ = some (.int .i64 bs[i].1) ∧ ∃ a' c', W.cell? ⟨b, o + i * 2 + 1, none⟩ = some (.slice a' bs[i].2.length c') ∧ Row 1 W a' bs[i].2.length c' (bs[i].2.map byteV) := by
  obtain ⟨xs, r, k⟩ := h
  obtain ⟨b, o, rfl, hb, hc⟩ := r.some hn
  refine ⟨b, o, rfl, hb, fun i hi => ?_⟩
  obtain ⟨k1, y, k2, a', c', rfl, hr⟩ := k.get i hi
  have hl := r.1
  obtain ⟨l1, e1⟩ := List.getElem?_eq_some_iff.1 k1
  obtain ⟨l2, e2⟩ := List.getElem?_eq_some_iff.1 k2
  exact ⟨by rw [hc _ l1, e1], a', c', by rw [Nat.add_assoc, hc _ l2, e2], hr⟩

set_option maxRecDepth 100000 in
set_option maxHeartbeats 4000000 in
theorem Same_any (a b : Option Addr) (c d : Nat) (l k : List (Int × List UInt8)) (w : World) (hn : l.length ≤ 140737488355328) (hm : k.length ≤ 140737488355328) (h : Writes w a c l) (h' : Writes w b d k) :
    Calls Try.prog 31 #[.slice a l.length c, .slice b k.length d] w fun e w' => e = .returned (.bool (l == k)) ∧ Below w.heap.size w w' := by
  have HR := Lib.hid h
  have HR' := Lib.hid h'
  clear h h'
  by_cases hne : l.length = k.length
  · have hb : ((l.length : Int) != (k.length : Int)) = false := by simp [hne]
    have HE := Lib.hid hne
    have HE1 : l.length ≤ k.length := by omega
    have HE2 : k.length ≤ l.length := by omega
    clear hne
    go_enter Try.func31, Try.ntmps31
    go_wp2
    go_loopw [5] (fun i wr => ∃ j : Nat, j ≤ l.length ∧ i = .int .i64 j ∧ l.take j = k.take j ∧ Below w.heap.size w wr) (fun i _ => l.length - (intOf i).toNat)
    case atStart => exact ⟨0, Nat.zero_le _, rfl, rfl, Below.refl _ _⟩
    case round =>
      obtain ⟨j, hj, rfl, ht, hbw⟩ := hrel
      have HT := Lib.hid ht
      have HB := Lib.hid hbw
      clear ht hbw
      by_cases hlt : j < l.length
      · have hltk : j < k.length := by omega
        obtain ⟨b1, o1, rfl, hb1, hc1⟩ := (HR.out.mono HB.out (Nat.le_refl _)).at (by omega)
        obtain ⟨b2, o2, rfl, hb2, hc2⟩ := (HR'.out.mono HB.out (Nat.le_refl _)).at (by omega)
        obtain ⟨x1, a3, c3, y1, r1⟩ := hc1 j hlt
        obtain ⟨x2, a4, c4, y2, r2⟩ := hc2 j hltk
        clear hc1 hc2
        have cv1 := fun q => run_conv (P := Try.prog) (w := wr.drewN q) r1 22 9 5 Try.underlying22 Try.underlying5 Try.underlying9
        have cv2 := fun q => run_conv (P := Try.prog) (w := wr.drewN q) r2 22 9 5 Try.underlying22 Try.underlying5 Try.underlying9
        have cv3 := run_conv (P := Try.prog) r1 22 9 5 Try.underlying22 Try.underlying5 Try.underlying9
        have cv4 := run_conv (P := Try.prog) r2 22 9 5 Try.underlying22 Try.underlying5 Try.underlying9
        clear r1 r2
        by_cases he1 : (l[j].1 != k[j].1) = true
        · have HN := Lib.hid he1
          go_wp2
          go_quiet (fail)
          go_wp2
          go_ret
          refine ⟨ret_bool ?_, HB.out.trans (below_drewN _ _ _)⟩
          have : ¬ l = k := fun h => by have h1 := HN.out; simp only [h, bne_self_eq_false, Bool.false_eq_true] at h1
          simp [this]
        · have he1' := Bool.eq_false_iff.2 he1
          have HN := Lib.hid he1'
          clear he1
          by_cases he2 : (l[j].2 == k[j].2) = true
          · have HM := Lib.hid he2
            go_wp2
            go_quiet (fail)
            go_wp2
            go_roundw
            case rel => exact ⟨j + 1, by omega, by go_num, take_eq_succ HT.out hlt hltk (Prod.ext (by simpa using HN.out) (by simpa using HM.out)), HB.out.trans (below_drewN _ _ _)⟩
            case measure => simp [intOf]; omega
          · have he2' := Bool.eq_false_iff.2 he2
            have HM := Lib.hid he2'
            clear he2
            go_wp2
            go_quiet (fail)
            go_wp2
            go_ret
            refine ⟨ret_bool ?_, HB.out.trans (below_drewN _ _ _)⟩
            have : ¬ l = k := fun h => by have h1 := HM.out; simp only [h, beq_self_eq_true, Bool.true_eq_false] at h1
            simp [this]
      · obtain rfl : j = l.length := by omega
        go_wp2
        go_ret
        refine ⟨ret_bool ?_, HB.out⟩
        have := HT.out
        rw [List.take_length, HE.out, List.take_length] at this
        simp [this]
  · have hb : ((l.length : Int) != (k.length : Int)) = true := by rw [bne_iff_ne]; omega
    have HE := Lib.hid hne
    clear hne
    go_enter Try.func31, Try.ntmps31
    go_wp2
    go_ret
    refine ⟨ret_bool ?_, Below.refl _ _⟩
    have : ¬ l = k := fun h => HE.out (by rw [h])
    simp [this]
end Go.Proofs.Ytphalijdanmkeaa
