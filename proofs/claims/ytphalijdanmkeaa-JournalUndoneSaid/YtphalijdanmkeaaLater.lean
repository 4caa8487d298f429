/- A region that draws its order: still operations first in the text, all of them but a few forced ahead of the chain's first; those few are still in whatever world. -/
import Derived.Test.YtphalijdanmkeaaLate
namespace Go.Proofs.Ytphalijdanmkeaa.Reg
open Go

section
variable {P : Program} {ops : Array Oper} {md : Region.Mode} {F : Fence} {n : Nat} {Q : Exit → Act → World → Prop} {J K : World → Prop}

/-- each of the first m but the late ones is forced ahead of number m -/
def sunkB (md : Region.Mode) (ops : Array Oper) (m : Nat) (late : List Nat) : Bool :=
  (List.range m).all fun i => late.contains i || (List.range (m + 1)).any fun j => decide (i < j) && (decide (j = m) || !late.contains j) && Region.waitsFor md ops j i

theorem sunk_listed {m : Nat} {late : List Nat} (hs : sunkB md ops m late = true) {listed : Array Bool} (inv : Inv md ops listed) (hm : listed.getD m false = true) : ∀ d i, m - i = d → i < m → late.contains i = false → listed.getD i false = true := by
  intro d
  induction d using Nat.strongRecOn with
  | _ d ih =>
    intro i hd him hl
    have h := List.all_eq_true.1 hs i (List.mem_range.2 him)
    rw [hl, Bool.false_or] at h
    obtain ⟨j, hj, hc⟩ := List.any_eq_true.1 h
    simp only [Bool.and_eq_true, Bool.or_eq_true, decide_eq_true_eq, Bool.not_eq_true'] at hc
    obtain ⟨⟨hij, hjm⟩, hw⟩ := hc
    have hj' := List.mem_range.1 hj
    obtain ⟨oj, hoj, e, he, hb, hon⟩ := Region.waitsFor_spec hw
    have hlj : listed.getD j false = true := by
      rcases hjm with rfl | hjl
      · exact hm
      · rcases Nat.lt_or_ge j m with h | h
        · exact ih (m - j) (by omega) j rfl h hjl
        · have : j = m := by omega
          rw [this]; exact hm
    have := inv.closed j oj hoj hlj e he hb
    rwa [hon] at this

theorem wpAnyIn_K (hnd : noDefer ops = true) (hok : okB md ops = true) (hsel : noSelect ops = true) {l : List Oper} (hl : ops = l.toArray) {m : Nat} (hm : m < ops.size) (hc : Region.chainB md ops m = true) (hlast : lastB md ops = true) {late : List Nat} (hsk : sunkB md ops m late = true) (hv : Nat → Value) (a0 : Act)
    (hstep : ∀ i o, i < m → ops[i]? = some o → Still F n P ops Q J o (pre ops hv a0 i) (hv i))
    (hlate : ∀ i o, i < m → late.contains i = true → ops[i]? = some o → Still F n P ops Q K o (pre ops hv a0 i) (hv i)) :
    ∀ (fuel : Nat) (listed : Array Bool) (c : Nat) (vals : Nat → Value) (w : World), Inv md ops listed → todo ops listed ≤ fuel → m + c ≤ ops.size → (∀ j, m ≤ j → j < ops.size → listed.getD j false = decide (j < m + c)) → (∀ i, i < m → vals i = hv i) → (if c = 0 then J w else K w) →
      TailW F n P ops Q K (l.drop (m + c)) (actL ops vals a0 (firsts ops.size (m + c)) ops.size) w → wpAnyIn F n P md ops Q fuel listed (actL ops vals a0 listed ops.size) w := by
  have hls : l.length = ops.size := by rw [hl]; simp
  intro fuel
  induction fuel with
  | zero =>
    intro listed c vals w inv hf hmc hch hvs hw ht
    have hr : Region.ready md ops listed = [] := by
      rw [List.eq_nil_iff_forall_not_mem]
      intro i hi
      obtain ⟨h0, o, ho, _⟩ := mem_ready.1 hi
      have := todo_pos (listed := listed) (Array.getElem?_eq_some_iff.1 ho).1 (getD_both h0)
      omega
    have hmc' : m + c = ops.size := by
      rcases Nat.lt_or_ge (m + c) ops.size with h | h
      · have := all_listed hok inv.size hr (m + c) h
        rw [hch (m + c) (by omega) h] at this
        simp at this
      · omega
    rw [hmc', List.drop_eq_nil_of_le (by omega)] at ht
    exact ⟨hr, by rw [end_act hok vals a0 inv.size hr]; exact ht⟩
  | succ fuel ih =>
    intro listed c vals w inv hf hmc hch hvs hw ht
    refine ⟨fun hr => ?_, fun i hi => ?_⟩
    · have hmc' : m + c = ops.size := by
        rcases Nat.lt_or_ge (m + c) ops.size with h | h
        · have := all_listed hok inv.size hr (m + c) h
          rw [hch (m + c) (by omega) h] at this
          simp at this
        · omega
      rw [hmc', List.drop_eq_nil_of_le (by omega)] at ht
      rw [end_act hok vals a0 inv.size hr]; exact ht
    · obtain ⟨h0, o, ho, hall⟩ := mem_ready.1 hi
      have hun := getD_both h0
      have hi' := (Array.getElem?_eq_some_iff.1 ho).1
      have hsees := sees hok vals a0 listed inv ho hi
      rcases Nat.lt_or_ge i m with him | him
      · have he : actL ops vals a0 (firsts ops.size i) ops.size = pre ops hv a0 i := by
          rw [actL_firsts _ _ _ _ (Nat.le_refl _), Nat.min_eq_left (by omega)]
          exact pre_congr i (fun j hj => hvs j (by omega))
        rw [he] at hsees
        have hstill : Region.wanted o (yielded ops (pre ops hv a0 i).tmps) = true ∧ o.wpIn F n P (pre ops hv a0 i) w (fun a' w' => ∃ u, a' = (pre ops hv a0 i).put o.dst u ∧ u = hv i ∧ w' = w) (NoP Q) := by
          by_cases hc0 : c = 0
          · rw [if_pos hc0] at hw
            exact ⟨(hstep i o him ho).1, (hstep i o him ho).2 w hw⟩
          · rw [if_neg hc0] at hw
            have hla : late.contains i = true := by
              cases hx : late.contains i with
              | true => rfl
              | false =>
                have := sunk_listed hsk inv (by rw [hch m (Nat.le_refl _) hm]; simp; omega) (m - i) i rfl him hx
                rw [hun] at this; cases this
            exact ⟨(hlate i o him hla ho).1, (hlate i o him hla ho).2 w hw⟩
        refine go_any (noDefer_spec hnd ho) ho (noSelect_spec hsel ho) hstill.1 hstill.2 hsees (by rw [← he, actL_size, actL_size]) ?_
        rintro v w' ⟨rfl, rfl⟩
        rw [← hvs i him, ← actL_set hok vals a0 listed inv.size ho hun]
        have := todo_set hi' inv.size hun
        refine ih _ c vals w' (inv.set hi) (by omega) hmc (fun j hj hjs => ?_) hvs hw ht
        rw [getD_set_ne false (by omega)]
        exact hch j hj hjs
      · have hic : i = m + c := by
          have h1 := hch i him hi'
          rw [hun] at h1
          have h1' : ¬ i < m + c := by simpa using h1.symm
          rcases Nat.lt_or_ge (m + c) i with h | h
          · exfalso
            have hcc := List.all_eq_true.1 hc i (List.mem_range.2 hi')
            simp only [Bool.or_eq_true, decide_eq_true_eq] at hcc
            rcases hcc with hcc | hcc
            · omega
            · obtain ⟨o', ho', e, he, hb, hon⟩ := Region.waitsFor_spec hcc
              obtain rfl := Option.some.inj (ho'.symm.trans ho)
              have h2 := hall e he hb
              rw [hon, hch (i - 1) (by omega) (by omega)] at h2
              simp at h2
              omega
          · omega
        subst hic
        have hd : l.drop (m + c) = o :: l.drop (m + c + 1) := by
          rw [List.drop_eq_getElem_cons (by omega)]
          congr 1
          have : l[m + c]? = some o := by rw [← ho, hl]; simp
          rw [List.getElem?_eq_getElem (by omega)] at this
          exact Option.some.inj this
        rw [hd] at ht
        obtain ⟨h1, h2⟩ := ht
        refine go_any (noDefer_spec hnd ho) ho (noSelect_spec hsel ho) h1 h2 hsees (by rw [actL_size, actL_size]) ?_
        rintro v w' ⟨hJ', ht'⟩
        have e1 : actL ops vals a0 listed ops.size = actL ops (fun j => if j = m + c then v else vals j) a0 listed ops.size := actL_congr _ fun j _ hlj => by
          rw [if_neg (fun e => by rw [e, hun] at hlj; cases hlj)]
        have e2 := actL_set hok (fun j => if j = m + c then v else vals j) a0 listed inv.size ho hun
        simp only [if_pos] at e2
        rw [e1, ← e2]
        have := todo_set hi' inv.size hun
        by_cases hrest : l.drop (m + c + 1) = []
        · have hend : m + c + 1 = ops.size := by
            have := List.drop_eq_nil_iff.1 hrest
            omega
          have hal : ∀ j, j < ops.size → (listed.setIfInBounds (m + c) true).getD j false = true := by
            intro j hj
            by_cases hj' : m + c = j
            · subst hj'; exact getD_set_self (by rw [inv.size]; exact hi')
            · have hw := List.all_eq_true.1 hlast j (List.mem_range.2 (by omega))
              rw [show ops.size - 1 = m + c from by omega] at hw
              obtain ⟨o', ho', e, he, hb, hon⟩ := Region.waitsFor_spec hw
              obtain rfl := Option.some.inj (ho'.symm.trans ho)
              have := hall e he hb
              rw [hon] at this
              exact getD_set_true this
          have hrn : Region.ready md ops (listed.setIfInBounds (m + c) true) = [] := by
            rw [List.eq_nil_iff_forall_not_mem]
            intro i hi
            obtain ⟨h0, o2, ho2, _⟩ := mem_ready.1 hi
            have := hal i (Array.getElem?_eq_some_iff.1 ho2).1
            rw [getD_both h0] at this
            cases this
          refine wpAnyIn_end hrn ?_
          rw [end_act hok _ a0 (inv.set hi).size hrn]
          rw [hrest] at ht'
          rw [actL_firsts _ _ _ _ (Nat.le_refl _), Nat.min_eq_left (by omega)] at ht' ⊢
          rw [← hend]
          simp only [pre, ho, Option.bind_some, if_pos]
          rw [pre_congr (m + c) (vals' := vals) (fun j hj => by rw [if_neg (by omega)])]
          exact ht'
        refine ih _ (c + 1) _ w' (inv.set hi) (by omega) (by omega) (fun j hj hjs => ?_) (fun j hj => by rw [if_neg (by omega)]; exact hvs j hj) (by rw [if_neg (by omega)]; exact hJ' hrest) ?_
        · by_cases hj' : m + c = j
          · subst hj'
            rw [getD_set_self (by rw [inv.size]; exact hi')]
            simp
          · rw [getD_set_ne false hj', hch j hj hjs]
            exact decide_eq_decide.2 (by omega)
        · rw [show m + (c + 1) = m + c + 1 from rfl]
          rw [actL_firsts _ _ _ _ (Nat.le_refl _), Nat.min_eq_left (by omega)] at ht' ⊢
          simp only [pre, ho, Option.bind_some, if_pos]
          rw [pre_congr (m + c) (vals' := vals) (fun j hj => by rw [if_neg (by omega)])]
          exact ht'

/-- the still ones, in the order of the text; those that may come late are still in whatever world of which K holds -/
inductive WalkK (F : Fence) (n : Nat) (P : Program) (ops : Array Oper) (Q : Exit → Act → World → Prop) (J K : World → Prop) (late : List Nat) (tail : Act → Prop) : Nat → List Oper → Act → Prop
  | nil {i : Nat} {a : Act} (h : tail a) : WalkK F n P ops Q J K late tail i [] a
  | cons {i : Nat} {o : Oper} {rest : List Oper} {a : Act} (v : Value) (h : Still F n P ops Q J o a v) (h' : late.contains i = true → Still F n P ops Q K o a v) (hr : WalkK F n P ops Q J K late tail (i + 1) rest (a.put o.dst v)) : WalkK F n P ops Q J K late tail i (o :: rest) a
theorem WalkK.steps {late : List Nat} {tail : Act → Prop} {i0 : Nat} {l : List Oper} {a : Act} (h : WalkK F n P ops Q J K late tail i0 l a) : ∃ vs : List Value, vs.length = l.length ∧
    (∀ k o, l[k]? = some o → Still F n P ops Q J o ((l.take k).zip vs |>.foldl (fun a p => a.put p.1.dst p.2) a) (vs.getD k undef) ∧ (late.contains (i0 + k) = true → Still F n P ops Q K o ((l.take k).zip vs |>.foldl (fun a p => a.put p.1.dst p.2) a) (vs.getD k undef))) ∧
    tail ((l.zip vs).foldl (fun a p => a.put p.1.dst p.2) a) := by
  induction h with
  | nil h => exact ⟨[], rfl, fun k o ho => by simp at ho, h⟩
  | cons v hs hs' _ ih =>
    obtain ⟨vs, h1, h2, h3⟩ := ih
    refine ⟨v :: vs, by simp [h1], fun k o ho => ?_, h3⟩
    cases k with
    | zero =>
      simp only [List.getElem?_cons_zero, Option.some.injEq] at ho
      subst ho
      exact ⟨hs, hs'⟩
    | succ k =>
      have := h2 k o (by simpa using ho)
      rw [Nat.add_assoc, Nat.add_comm 1 k] at this
      exact this

theorem regionIn_K0 {id : Nat} {l t : List Oper} {a : Act} {w : World} {late : List Nat} (hm : P.follows .mixedOrders = true) (hok : okB .any (l ++ t).toArray = true) (hsel : noSelect (l ++ t).toArray = true) (hnd : noDefer (l ++ t).toArray = true) (ht : 0 < t.length)
    (hc : Region.chainB .any (l ++ t).toArray l.length = true) (hlast : lastB .any (l ++ t).toArray = true) (hsk : sunkB .any (l ++ t).toArray l.length late = true) (h0 : J w.drew)
    (h : WalkK F n P (l ++ t).toArray Q J K late (fun a => TailW F n P (l ++ t).toArray Q K t a w.drew) 0 l a) : (Code.region id (l ++ t).toArray true).wpIn F n P Q a w := by
  obtain ⟨vs, h1, h2, h3⟩ := h.steps
  have hpre := pre_fold l vs h1 a
  refine wpIn_region_any hm ?_
  have hsz : (l ++ t).toArray.size = l.length + t.length := by simp
  have key := wpAnyIn_K (P := P) (Q := Q) (J := J) (K := K) (F := F) (n := n) hnd hok hsel rfl (m := l.length) (by omega) hc hlast hsk (fun i => vs.getD i undef) a (fun i o hi ho => by
      rw [pre_app _ _ _ _ _ (by omega), hpre i (by omega)]
      exact (h2 i o (by simpa [List.getElem?_append, hi] using ho)).1) (fun i o hi hla ho => by
      rw [pre_app _ _ _ _ _ (by omega), hpre i (by omega)]
      exact (h2 i o (by simpa [List.getElem?_append, hi] using ho)).2 (by rw [Nat.zero_add]; exact hla)) (l ++ t).toArray.size (Array.replicate (l ++ t).toArray.size false) 0 (fun i => vs.getD i undef) w.drew
    ⟨by simp, (fun j oj _ hl => by rw [getD_replicate_false] at hl; cases hl)⟩ (by
      unfold todo
      exact Nat.le_trans (List.length_filter_le _ _) (by simp)) (by omega) (fun j hj _ => by rw [getD_replicate_false]; simp; omega) (fun _ _ => rfl) (by rw [if_pos rfl]; exact h0) (by
      rw [Nat.add_zero, actL_firsts _ _ _ _ (Nat.le_refl _), Nat.min_eq_left (by omega), pre_app _ _ _ _ _ (Nat.le_refl _), hpre _ (Nat.le_refl _), List.take_length, List.drop_left]
      exact h3)
  rw [actL_none _ _ _ _ (Nat.le_refl _)] at key
  exact key

theorem regionIn_K {id : Nat} {l : List Oper} (m : Nat) (late : List Nat) {a : Act} {w : World} (hm : P.follows .mixedOrders = true) (hok : okB .any l.toArray = true) (hsel : noSelect l.toArray = true) (hnd : noDefer l.toArray = true)
    (ht : decide (m < l.length) = true) (hc : Region.chainB .any l.toArray m = true) (hlast : lastB .any l.toArray = true) (hsk : sunkB .any l.toArray m late = true) (J K : World → Prop) (h0 : J w.drew)
    (h : WalkK F n P l.toArray Q J K late (fun a => TailW F n P l.toArray Q K (l.drop m) a w.drew) 0 (l.take m) a) : (Code.region id l.toArray true).wpIn F n P Q a w := by
  have ht := of_decide_eq_true ht
  have e : l.take m ++ l.drop m = l := List.take_append_drop m l
  have em : (l.take m).length = m := by simp; omega
  have key := regionIn_K0 (P := P) (Q := Q) (F := F) (n := n) (J := J) (K := K) (late := late) (id := id) (l := l.take m) (t := l.drop m) (a := a) (w := w) hm (by rw [e]; exact hok) (by rw [e]; exact hsel) (by rw [e]; exact hnd) (by simp; omega) (by rw [e, em]; exact hc) (by rw [e]; exact hlast) (by rw [e, em]; exact hsk) h0 (by rw [e]; exact h)
  rw [e] at key
  exact key
end
end Go.Proofs.Ytphalijdanmkeaa.Reg
