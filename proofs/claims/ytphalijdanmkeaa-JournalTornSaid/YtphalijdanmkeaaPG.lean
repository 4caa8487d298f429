/- Plain: devices between two: some blocks, and a part of one, are written. -/
import Derived.Test.YtphalijdanmkeaaAJ
import Derived.Test.YtphalijdanmkeaaPF
namespace Go.Proofs.Ytphalijdanmkeaa
open J

/-- each byte is one's or the other's -/
def J.btw (B C T : List UInt8) : Prop := T.length = B.length ∧ ∀ j : Nat, T[j]? = B[j]? ∨ T[j]? = C[j]?
theorem btw_refl (B C : List UInt8) : btw B C B := ⟨rfl, fun _ => .inl rfl⟩

theorem chunk_get {C : List UInt8} {i j : Nat} (h1 : 32 * i ≤ j) (h2 : j < 32 * i + 32) : (chunk i C)[j - 32 * i]? = C[j]? := by
  rw [chunk, List.getElem?_take, if_pos (by omega), List.getElem?_drop]
  congr 1
  omega

/-- what is written, place by place -/
theorem put_get {T C : List UInt8} {i many : Nat} (hi : 32 * i + 32 ≤ T.length) (hC : C.length = T.length) (hm : many ≤ 32) (j : Nat) :
    (putB T i (chunk i C) many)[j]? = if 32 * i ≤ j ∧ j < 32 * i + many then C[j]? else T[j]? := by
  have h1 : (T.take (32 * i)).length = 32 * i := by simp; omega
  have hc : (chunk i C).length = 32 := chunk_length (by omega)
  have h2 : ((chunk i C).take many).length = many := by simp; omega
  rw [putB]
  by_cases ha : j < 32 * i
  · rw [List.getElem?_append_left (by omega), List.getElem?_take, if_pos ha, if_neg (by omega)]
  · rw [List.getElem?_append_right (by omega), h1]
    by_cases hb : j < 32 * i + many
    · rw [List.getElem?_append_left (by omega), List.getElem?_take, if_pos (by omega), if_pos ⟨by omega, hb⟩]
      exact chunk_get (by omega) (by omega)
    · rw [List.getElem?_append_right (by omega), h2, List.getElem?_drop, if_neg (by omega)]
      congr 1
      omega
theorem put_len {T C : List UInt8} {i many : Nat} (hi : 32 * i + 32 ≤ T.length) (hC : C.length = T.length) (hm : many ≤ 32) : (putB T i (chunk i C) many).length = T.length :=
  putB_length (by omega) (by rw [chunk_length (by omega)]; exact hm)

theorem btw_put {B C T : List UInt8} (hC : C.length = B.length) (h : btw B C T) {i many : Nat} (hi : 32 * i + 32 ≤ B.length) (hm : many ≤ 32) : btw B C (putB T i (chunk i C) many) := by
  refine ⟨(put_len (by rw [h.1]; exact hi) (hC.trans h.1.symm) hm).trans h.1, fun j => ?_⟩
  rw [put_get (by rw [h.1]; exact hi) (hC.trans h.1.symm) hm]
  split
  · exact .inr rfl
  · exact h.2 j

/-- writes that write C's blocks -/
def J.writesOf (C : List UInt8) (l : List (Int × List UInt8)) : Prop := ∀ w ∈ l, ∃ i : Nat, w = ((i : Int), chunk i C) ∧ 32 * i + 32 ≤ C.length
theorem writesOf_sub {C : List UInt8} {l l' : List (Int × List UInt8)} (h : writesOf C l) (hs : ∀ w ∈ l', w ∈ l) : writesOf C l' := fun w hw => h w (hs w hw)

theorem btw_apply {B C : List UInt8} (hC : C.length = B.length) : ∀ (l : List (Int × List UInt8)) (T : List UInt8), writesOf C l → btw B C T → btw B C (applyW T l)
  | [], _, _, h => h
  | w :: l, T, hw, h => by
    obtain ⟨i, rfl, hi⟩ := hw w (List.mem_cons_self ..)
    show btw B C (applyW (putB T ((i : Int).toNat) (chunk i C) 32) l)
    rw [Int.toNat_natCast]
    exact btw_apply hC l _ (fun x hx => hw x (List.mem_cons_of_mem _ hx)) (btw_put hC h (by omega) (Nat.le_refl _))

theorem btw_torn {B C : List UInt8} (hC : C.length = B.length) {l : List (Int × List UInt8)} (hw : writesOf C l) {many : Nat} (hm : many ≤ 32) : btw B C (tornW B l many) := by
  unfold tornW
  cases hl : l.getLast? with
  | none => exact btw_refl B C
  | some w =>
    have hmem : w ∈ l := List.mem_of_getLast? hl
    obtain ⟨i, rfl, hi⟩ := hw w hmem
    simp only [Int.toNat_natCast]
    exact btw_put hC (btw_apply hC l.dropLast B (writesOf_sub hw fun x hx => (List.dropLast_sublist l).subset hx) (btw_refl B C)) (by omega) hm

/-- all that differs is written, whatever the order -/
theorem apply_keep {C : List UInt8} {j : Nat} : ∀ (l : List (Int × List UInt8)) (T : List UInt8), T.length = C.length → writesOf C l → T[j]? = C[j]? → (applyW T l)[j]? = C[j]?
  | [], _, _, _, h => h
  | w :: l, T, ht, hw, h => by
    obtain ⟨i, rfl, hi⟩ := hw w (List.mem_cons_self ..)
    show (applyW (putB T ((i : Int).toNat) (chunk i C) 32) l)[j]? = _
    rw [Int.toNat_natCast]
    refine apply_keep l _ ((put_len (by omega) ht.symm (Nat.le_refl _)).trans ht) (fun x hx => hw x (List.mem_cons_of_mem _ hx)) ?_
    rw [put_get (by omega) ht.symm (Nat.le_refl _)]
    split
    · rfl
    · exact h
theorem apply_get {C : List UInt8} {i j : Nat} (h1 : 32 * i ≤ j) (h2 : j < 32 * i + 32) : ∀ (l : List (Int × List UInt8)) (T : List UInt8), T.length = C.length → writesOf C l → ((i : Int), chunk i C) ∈ l → (applyW T l)[j]? = C[j]?
  | w :: l, T, ht, hw, hm => by
    obtain ⟨i', rfl, hi⟩ := hw w (List.mem_cons_self ..)
    have hw' : writesOf C l := fun x hx => hw x (List.mem_cons_of_mem _ hx)
    have hlen := (put_len (many := 32) (by omega : 32 * i' + 32 ≤ T.length) ht.symm (Nat.le_refl _)).trans ht
    show (applyW (putB T ((i' : Int).toNat) (chunk i' C) 32) l)[j]? = _
    rw [Int.toNat_natCast]
    by_cases hin : ((i : Int), chunk i C) ∈ l
    · exact apply_get h1 h2 l _ hlen hw' hin
    · have he : i = i' := by
        rcases List.mem_cons.1 hm with e | e
        · have := congrArg Prod.fst e
          simp only at this
          omega
        · exact absurd e hin
      subst he
      refine apply_keep l _ hlen hw' ?_
      rw [put_get (by omega) ht.symm (Nat.le_refl _), if_pos ⟨h1, h2⟩]
theorem blocksFrom_all (b t : List UInt8) : ∀ (m k i : Nat), k ≤ i → i < k + m → chunk i b = chunk i t ∨ ((i : Int), chunk i t) ∈ blocksFrom k m b t
  | 0, k, i, h1, h2 => by omega
  | m + 1, k, i, h1, h2 => by
    simp only [blocksFrom]
    by_cases e : i = k
    · subst e
      split
      · rename_i h; exact .inl h
      · exact .inr (List.mem_cons_self ..)
    · rcases blocksFrom_all b t m (k + 1) i (by omega) (by omega) with h | h
      · exact .inl h
      · split
        · exact .inr h
        · exact .inr (List.mem_cons_of_mem _ h)

theorem pad_dev {K : List (List UInt8)} {n : Nat} (h : good K ≤ n) : pad (journal K) n = dev K n := by
  rw [pad, List.take_of_length_le (by rw [journal_len]; exact h), dev, journal_len]

theorem toD_writes {b : List UInt8} {K : List (List UInt8)} (hf : formed b = true) (hK : good K ≤ b.length) : writesOf (dev K b.length) (toD b (journal K)) := by
  intro w hw
  obtain ⟨i, rfl, hi⟩ := toD_mem hf (by rw [journal_len]; exact hK) w hw
  have := formed_div hf
  rw [pad_dev hK]
  exact ⟨i, rfl, by rw [dev_len hK]; omega⟩

/-- in whatever order -/
theorem apply_any {b : List UInt8} {K : List (List UInt8)} (hf : formed b = true) (hK : good K ≤ b.length) {l : List (Int × List UInt8)} (hl : ∀ w, w ∈ l ↔ w ∈ toD b (journal K)) : applyW b l = dev K b.length := by
  have hw : writesOf (dev K b.length) l := writesOf_sub (toD_writes hf hK) fun w h => (hl w).1 h
  have hlen := dev_len hK
  have hd := formed_div hf
  refine List.ext_getElem? fun j => ?_
  rcases Nat.lt_or_ge j b.length with hj | hj
  · rcases blocksFrom_all b (pad (journal K) b.length) (b.length / 32) 0 (j / 32) (Nat.zero_le _) (by omega) with h | h
    · refine apply_keep l b hlen.symm hw ?_
      have h1 := chunk_get (C := b) (i := j / 32) (j := j) (by omega) (by omega)
      have h2 := chunk_get (C := pad (journal K) b.length) (i := j / 32) (j := j) (by omega) (by omega)
      rw [← h1, h, h2, pad_dev hK]
    · rw [pad_dev hK] at h
      refine apply_get (i := j / 32) (by omega) (by omega) l b hlen.symm hw ((hl _).2 ?_)
      show _ ∈ blocksFrom 0 (b.length / 32) b (pad (journal K) b.length)
      rw [pad_dev hK]
      exact h
  · have h1 := (btw_apply hlen l b hw (btw_refl _ _)).1
    rw [List.getElem?_eq_none (by omega), List.getElem?_eq_none (by omega)]

/-- what can be read is what lies there -/
theorem recover_take : ∀ (f num : Nat) (b : List UInt8), b.take (good (recover f num b)) = journalFrom num (recover f num b)
  | 0, _, _ => by simp [recover, good, journalFrom]
  | f + 1, num, b => by
    simp only [recover]
    cases h : first b num with
    | none => simp [good, journalFrom]
    | some l =>
      obtain ⟨_, _, h3, _, _, h6, _⟩ := first_some' h
      have ih := recover_take f (num + 1) (b.drop (l.length + 9))
      simp only [good, journalFrom]
      rw [h6, ← ih, List.take_add]
theorem read_take (b : List UInt8) : b.take (good (read b)) = journal (read b) := recover_take 60 0 b

theorem clean_is_dev {b : List UInt8} (h : clean b = true) : b = dev (read b) b.length := by
  rw [dev, ← read_take]
  have hg : good (read b) ≤ b.length := recover_good 60 0 b
  have h2 : b.drop (good (read b)) = List.replicate (b.length - good (read b)) 0 := by
    refine List.eq_replicate_iff.2 ⟨by simp, fun x hx => ?_⟩
    have := List.all_eq_true.1 h x hx
    simpa using this
  rw [← h2, List.take_append_drop]

theorem cut_mask {b : List UInt8} {m : Nat} (hm : m ≤ b.length) : mask (b.take m ++ List.replicate (b.length - m) 0) b := by
  refine ⟨by simp; omega, fun i hi => ?_⟩
  by_cases h : i < m
  · refine .inr ?_
    rw [← List.getElem?_eq_getElem, List.getElem?_append_left (by simp; omega), List.getElem?_take, if_pos h]
  · refine .inl ?_
    rw [List.getElem_append_right (by simp; omega), List.getElem_replicate]
theorem dev_take {L : List (List UInt8)} {n k : Nat} (hg : good L ≤ n) : (dev L n).take (good (L.take k)) = journal (L.take k) := by
  have hs : journal L = journal (L.take k) ++ journalFrom (L.take k).length (L.drop k) := by
    show journalFrom 0 L = _
    conv => lhs; rw [← List.take_append_drop k L]
    rw [jfrom_app, Nat.zero_add]
    rfl
  rw [dev, hs, List.append_assoc, ← journal_len, List.take_left]
theorem dev_mask_take {L : List (List UInt8)} {n k : Nat} (hg : good L ≤ n) : mask (dev (L.take k) n) (dev L n) := by
  have hk := jgood_take_le L k
  have := cut_mask (b := dev L n) (m := good (L.take k)) (by rw [dev_len hg]; omega)
  rw [dev_take hg, dev_len hg] at this
  exact this
theorem dev_mask_read (b : List UInt8) : mask (dev (read b) b.length) b := by
  have := cut_mask (b := b) (m := good (read b)) (recover_good 60 0 b)
  rw [read_take] at this
  exact this

theorem btw_mask1 {B C T : List UInt8} (h : btw B C T) (hm : mask C B) : mask T B := by
  refine ⟨h.1, fun i hi => ?_⟩
  have hT := List.getElem?_eq_getElem hi
  rcases h.2 i with e | e
  · exact .inr (hT.symm.trans e)
  · rw [hT] at e
    have hC : i < C.length := (List.getElem?_eq_some_iff.1 e.symm).1
    rw [List.getElem?_eq_getElem hC] at e
    have e' := Option.some.inj e
    rcases hm.2 i hC with h0 | h0
    · exact .inl (e'.trans h0)
    · exact .inr (by rw [e']; exact h0)
theorem btw_mask2 {B C T : List UInt8} (h : btw B C T) (hm : mask B C) : mask T C := by
  refine ⟨h.1.trans hm.1, fun i hi => ?_⟩
  have hT := List.getElem?_eq_getElem hi
  rcases h.2 i with e | e
  · rw [hT] at e
    have hB : i < B.length := (List.getElem?_eq_some_iff.1 e.symm).1
    rw [List.getElem?_eq_getElem hB] at e
    have e' := Option.some.inj e
    rcases hm.2 i hB with h0 | h0
    · exact .inl (e'.trans h0)
    · exact .inr (by rw [e']; exact h0)
  · exact .inr (hT.symm.trans e)
theorem btw_take {B C T : List UInt8} (h : btw B C T) {m : Nat} (he : B.take m = C.take m) : T.take m = B.take m := by
  refine List.ext_getElem? fun j => ?_
  rw [List.getElem?_take, List.getElem?_take]
  split
  · rename_i hj
    rcases h.2 j with e | e
    · exact e
    · have := congrArg (fun l => l[j]?) he
      simp only [List.getElem?_take, if_pos hj] at this
      exact e.trans this.symm
  · rfl

/-- between a device and what it is cut to, the lines that are left stay -/
theorem read_cut {L : List (List UInt8)} {n k : Nat} {T : List UInt8} (h : ∀ s ∈ L, isLine s = true) (hl : L.length ≤ 60) (hg : good L ≤ n) (hb : btw (dev L n) (dev (L.take k) n) T) : read T <+: L ∧ L.take k <+: read T := by
  have hr := read_dev (n := n) h hl
  have hm := btw_mask1 hb (dev_mask_take hg)
  have h1 : read T <+: read (dev L n) := recover_mask 60 0 _ _ hm
  rw [hr] at h1
  refine ⟨h1, ?_⟩
  have hk := jgood_take_le L k
  have hrec : recover 60 0 (dev L n) = L := hr
  have h2 := recover_keeps (min k L.length) 60 0 T (dev L n) hm.1 (by rw [hrec]; omega)
  rw [hrec] at h2
  have e : L.take (min k L.length) = L.take k := by
    rcases Nat.le_total k L.length with h | h
    · rw [Nat.min_eq_left h]
    · rw [Nat.min_eq_right h, List.take_of_length_le h, List.take_of_length_le (Nat.le_refl _)]
  rw [e] at h2
  refine h2 (btw_take hb ?_)
  rw [dev_take hg]
  have := dev_take (L := L.take k) (n := n) (k := (L.take k).length) (by omega)
  rw [List.take_of_length_le (Nat.le_refl _)] at this
  exact this.symm

/-- between a device and the same with one line more: these lines, or the new one too, this just if all is written -/
theorem read_grow {l : List (List UInt8)} {x : List UInt8} {n : Nat} {T : List UInt8} (h : ∀ s ∈ l ++ [x], isLine s = true) (hl : l.length < 60) (hg : good (l ++ [x]) ≤ n) (hb : btw (dev l n) (dev (l ++ [x]) n) T) :
    (T = dev (l ++ [x]) n ∧ read T = l ++ [x]) ∨ (T ≠ dev (l ++ [x]) n ∧ read T = l) := by
  have hM : (l ++ [x]).length ≤ 60 := by simp; omega
  have hr := read_dev (n := n) h hM
  have htk : (l ++ [x]).take l.length = l := List.take_left
  have hgl : good l ≤ n := by have := jgood_take_le (l ++ [x]) l.length; rw [htk] at this; omega
  have hmk := dev_mask_take (n := n) (k := l.length) hg
  rw [htk] at hmk
  have hm := btw_mask2 hb hmk
  have h1 : read T <+: read (dev (l ++ [x]) n) := recover_mask 60 0 _ _ hm
  rw [hr] at h1
  have hrec : recover 60 0 (dev (l ++ [x]) n) = l ++ [x] := hr
  have h2 := recover_keeps l.length 60 0 T (dev (l ++ [x]) n) hm.1 (by rw [hrec]; simp)
  rw [hrec, htk] at h2
  have hdt := dev_take (n := n) (k := l.length) hg
  rw [htk] at hdt
  have hdl : (dev l n).take (good l) = journal l := by rw [dev, ← journal_len, List.take_left]
  have htl : T.take (good l) = (dev (l ++ [x]) n).take (good l) := by rw [btw_take hb (hdl.trans hdt.symm), hdl, hdt]
  have h3 : l <+: read T := h2 htl
  by_cases hT : T = dev (l ++ [x]) n
  · exact .inl ⟨hT, by rw [hT]; exact hr⟩
  · refine .inr ⟨hT, ?_⟩
    have hle := h1.length_le
    have hle2 := h3.length_le
    simp only [List.length_append, List.length_singleton] at hle
    rcases Nat.lt_or_ge l.length (read T).length with hlt | hge
    · exfalso
      apply hT
      have hRM : read T = l ++ [x] := h1.eq_of_length (by simp; omega)
      have htT := read_take T
      rw [hRM] at htT
      refine List.ext_getElem? fun j => ?_
      rcases Nat.lt_or_ge j (good (l ++ [x])) with hj | hj
      · have e1 := congrArg (fun q => q[j]?) htT
        have e2 : ((dev (l ++ [x]) n).take (good (l ++ [x])))[j]? = (journal (l ++ [x]))[j]? := by rw [dev, ← journal_len, List.take_left]
        simp only [List.getElem?_take, if_pos hj] at e1
        rw [List.getElem?_take, if_pos hj] at e2
        exact e1.trans e2.symm
      · rcases hb.2 j with e | e
        · rw [e]
          have hgx : good l ≤ good (l ++ [x]) := by rw [jgood_snoc]; omega
          rw [dev, List.getElem?_append_right (by rw [journal_len]; omega), dev, List.getElem?_append_right (by rw [journal_len]; exact hj), journal_len, journal_len, List.getElem?_replicate, List.getElem?_replicate]
          by_cases hjn : j < n
          · rw [if_pos (by omega), if_pos (by omega)]
          · rw [if_neg (by omega), if_neg (by omega)]
        · exact e
    · exact (h3.eq_of_length (by omega)).symm

/-- while a device is cleaned, its lines stay -/
theorem read_clean {T U : List UInt8} (hb : btw T (dev (read T) T.length) U) : read U = read T := by
  have hm := btw_mask1 hb (dev_mask_read T)
  have h1 : read U <+: read T := recover_mask 60 0 _ _ hm
  have h2 := recover_keeps (read T).length 60 0 U T hm.1 (Nat.le_refl _)
  have e : (recover 60 0 T).take (read T).length = read T := List.take_of_length_le (Nat.le_refl _)
  rw [e] at h2
  have h3 : read T <+: read U := h2 (btw_take hb (by rw [read_take, dev, ← journal_len, List.take_left]))
  exact h1.eq_of_length (Nat.le_antisymm h1.length_le h3.length_le)
end Go.Proofs.Ytphalijdanmkeaa
