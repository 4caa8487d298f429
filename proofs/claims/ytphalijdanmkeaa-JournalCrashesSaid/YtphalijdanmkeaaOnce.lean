/- A region that draws its order: still operations, one of them an event that turns the world (an allocation), and a chain behind. -/
import Derived.Test.YtphalijdanmkeaaLate
namespace Go.Proofs.Ytphalijdanmkeaa.Reg
open Go

section
variable {P : Program} {ops : Array Oper} {md : Region.Mode} {F : Fence} {n : Nat} {Q : Exit → Act → World → Prop} {J : World → Prop}

theorem wpAnyIn_E (hnd : noDefer ops = true) (hok : okB md ops = true) (hsel : noSelect ops = true) {l : List Oper} (hl : ops = l.toArray) {m : Nat} (hm : m ≤ ops.size) (hc : Region.chainB md ops m = true) (hlast : lastB md ops = true) (hv : Nat → Value) (a0 : Act) {e0 : Nat} (he0 : e0 < m) (hme : Region.waitsFor md ops m e0 = true) (hmm : m < ops.size) {W0 W1 : World} (hJ0 : J W0) (hJ1 : J W1)
    (hev : ∀ o, ops[e0]? = some o → Region.wanted o (yielded ops (pre ops hv a0 e0).tmps) = true ∧ o.wpIn F n P (pre ops hv a0 e0) W0 (fun a' w' => ∃ u, a' = (pre ops hv a0 e0).put o.dst u ∧ u = hv e0 ∧ w' = W1) (NoP Q))
    (hstep : ∀ i o, i < m → i ≠ e0 → ops[i]? = some o → Still F n P ops Q J o (pre ops hv a0 i) (hv i)) :
    ∀ (fuel : Nat) (listed : Array Bool) (c : Nat) (vals : Nat → Value) (w : World), Inv md ops listed → todo ops listed ≤ fuel → m + c ≤ ops.size → (∀ j, m ≤ j → j < ops.size → listed.getD j false = decide (j < m + c)) → (∀ i, i < m → vals i = hv i) → (if listed.getD e0 false then J w else w = W0) →
      TailW F n P ops Q J (l.drop (m + c)) (actL ops vals a0 (firsts ops.size (m + c)) ops.size) (if listed.getD e0 false then w else W1) → wpAnyIn F n P md ops Q fuel listed (actL ops vals a0 listed ops.size) w := by
  have hls : l.length = ops.size := by rw [hl]; simp
  intro fuel
  induction fuel with
  | zero =>
    intro listed c vals w inv hf hmc hch hvs hw ht
    have hr : Region.ready md ops listed = [] := by
      rw [List.eq_nil_iff_forall_not_mem]
      intro i hi
      obtain ⟨h0, o, ho, _⟩ := mem_ready.1 hi
      have := todo_pos (listed := listed) (Array.getElem?_eq_some_iff.1 ho).1 (getD_both h0)
      omega
    have hmc' : m + c = ops.size := by
      rcases Nat.lt_or_ge (m + c) ops.size with h | h
      · have := all_listed hok inv.size hr (m + c) h
        rw [hch (m + c) (by omega) h] at this
        simp at this
      · omega
    rw [if_pos (all_listed hok inv.size hr e0 (by omega)), hmc', List.drop_eq_nil_of_le (by omega)] at ht
    exact ⟨hr, by rw [end_act hok vals a0 inv.size hr]; exact ht⟩
  | succ fuel ih =>
    intro listed c vals w inv hf hmc hch hvs hw ht
    refine ⟨fun hr => ?_, fun i hi => ?_⟩
    · have hmc' : m + c = ops.size := by
        rcases Nat.lt_or_ge (m + c) ops.size with h | h
        · have := all_listed hok inv.size hr (m + c) h
          rw [hch (m + c) (by omega) h] at this
          simp at this
        · omega
      rw [if_pos (all_listed hok inv.size hr e0 (by omega)), hmc', List.drop_eq_nil_of_le (by omega)] at ht
      rw [end_act hok vals a0 inv.size hr]; exact ht
    · obtain ⟨h0, o, ho, hall⟩ := mem_ready.1 hi
      have hun := getD_both h0
      have hi' := (Array.getElem?_eq_some_iff.1 ho).1
      have hsees := sees hok vals a0 listed inv ho hi
      rcases Nat.lt_or_ge i m with him | him
      · have he : actL ops vals a0 (firsts ops.size i) ops.size = pre ops hv a0 i := by
          rw [actL_firsts _ _ _ _ (Nat.le_refl _), Nat.min_eq_left (by omega)]
          exact pre_congr i (fun j hj => hvs j (by omega))
        rw [he] at hsees
        by_cases hie : i = e0
        · subst hie
          have hun' : listed.getD i false = false := hun
          rw [if_neg (by rw [hun']; exact Bool.false_ne_true)] at hw ht
          subst hw
          obtain ⟨h1, h2⟩ := hev o ho
          refine go_any (noDefer_spec hnd ho) ho (noSelect_spec hsel ho) h1 h2 hsees (by rw [← he, actL_size, actL_size]) ?_
          rintro v w' ⟨rfl, rfl⟩
          rw [← hvs i him, ← actL_set hok vals a0 listed inv.size ho hun]
          have := todo_set hi' inv.size hun
          have hon := getD_set_self (listed := listed) (i := i) (by rw [inv.size]; exact hi')
          refine ih _ c vals w' (inv.set hi) (by omega) hmc (fun j hj hjs => ?_) hvs (by rw [if_pos hon]; exact hJ1) (by rw [if_pos hon]; exact ht)
          rw [getD_set_ne false (by omega)]
          exact hch j hj hjs
        · obtain ⟨h1, h2⟩ := hstep i o him hie ho
          have hJw : J w := by
            split at hw
            · exact hw
            · rw [hw]; exact hJ0
          refine go_any (noDefer_spec hnd ho) ho (noSelect_spec hsel ho) h1 (h2 w hJw) hsees (by rw [← he, actL_size, actL_size]) ?_
          rintro v w' ⟨rfl, rfl⟩
          rw [← hvs i him, ← actL_set hok vals a0 listed inv.size ho hun]
          have := todo_set hi' inv.size hun
          have hsame : (listed.setIfInBounds i true).getD e0 false = listed.getD e0 false := getD_set_ne false hie
          refine ih _ c vals w' (inv.set hi) (by omega) hmc (fun j hj hjs => ?_) hvs (by rw [hsame]; exact hw) (by rw [hsame]; exact ht)
          rw [getD_set_ne false (by omega)]
          exact hch j hj hjs
      · have hic : i = m + c := by
          have h1 := hch i him hi'
          rw [hun] at h1
          have h1' : ¬ i < m + c := by simpa using h1.symm
          rcases Nat.lt_or_ge (m + c) i with h | h
          · exfalso
            have hcc := List.all_eq_true.1 hc i (List.mem_range.2 hi')
            simp only [Bool.or_eq_true, decide_eq_true_eq] at hcc
            rcases hcc with hcc | hcc
            · omega
            · obtain ⟨o', ho', e, he, hb, hon⟩ := Region.waitsFor_spec hcc
              obtain rfl := Option.some.inj (ho'.symm.trans ho)
              have h2 := hall e he hb
              rw [hon, hch (i - 1) (by omega) (by omega)] at h2
              simp at h2
              omega
          · omega
        subst hic
        have hd : l.drop (m + c) = o :: l.drop (m + c + 1) := by
          rw [List.drop_eq_getElem_cons (by omega)]
          congr 1
          have : l[m + c]? = some o := by rw [← ho, hl]; simp
          rw [List.getElem?_eq_getElem (by omega)] at this
          exact Option.some.inj this
        have hle0 : listed.getD e0 false = true := by
          rcases Nat.eq_zero_or_pos c with hc0 | hc0
          · subst hc0
            obtain ⟨o', ho', e, he, hb, hon⟩ := Region.waitsFor_spec hme
            obtain rfl := Option.some.inj (ho'.symm.trans ho)
            have := hall e he hb
            rwa [hon] at this
          · have hml : listed.getD m false = true := by rw [hch m (Nat.le_refl _) hmm]; simp; omega
            obtain ⟨o', ho', e, he, hb, hon⟩ := Region.waitsFor_spec hme
            have := inv.closed m o' ho' hml e he hb
            rwa [hon] at this
        rw [if_pos hle0] at ht hw
        rw [hd] at ht
        obtain ⟨h1, h2⟩ := ht
        refine go_any (noDefer_spec hnd ho) ho (noSelect_spec hsel ho) h1 h2 hsees (by rw [actL_size, actL_size]) ?_
        rintro v w' ⟨hJ', ht'⟩
        have e1 : actL ops vals a0 listed ops.size = actL ops (fun j => if j = m + c then v else vals j) a0 listed ops.size := actL_congr _ fun j _ hlj => by
          rw [if_neg (fun e => by rw [e, hun] at hlj; cases hlj)]
        have e2 := actL_set hok (fun j => if j = m + c then v else vals j) a0 listed inv.size ho hun
        simp only [if_pos] at e2
        rw [e1, ← e2]
        have := todo_set hi' inv.size hun
        by_cases hrest : l.drop (m + c + 1) = []
        · have hend : m + c + 1 = ops.size := by
            have := List.drop_eq_nil_iff.1 hrest
            omega
          have hal : ∀ j, j < ops.size → (listed.setIfInBounds (m + c) true).getD j false = true := by
            intro j hj
            by_cases hj' : m + c = j
            · subst hj'; exact getD_set_self (by rw [inv.size]; exact hi')
            · have hw := List.all_eq_true.1 hlast j (List.mem_range.2 (by omega))
              rw [show ops.size - 1 = m + c from by omega] at hw
              obtain ⟨o', ho', e, he, hb, hon⟩ := Region.waitsFor_spec hw
              obtain rfl := Option.some.inj (ho'.symm.trans ho)
              have := hall e he hb
              rw [hon] at this
              exact getD_set_true this
          have hrn : Region.ready md ops (listed.setIfInBounds (m + c) true) = [] := by
            rw [List.eq_nil_iff_forall_not_mem]
            intro i hi
            obtain ⟨h0, o2, ho2, _⟩ := mem_ready.1 hi
            have := hal i (Array.getElem?_eq_some_iff.1 ho2).1
            rw [getD_both h0] at this
            cases this
          refine wpAnyIn_end hrn ?_
          rw [end_act hok _ a0 (inv.set hi).size hrn]
          rw [hrest] at ht'
          rw [actL_firsts _ _ _ _ (Nat.le_refl _), Nat.min_eq_left (by omega)] at ht' ⊢
          rw [← hend]
          simp only [pre, ho, Option.bind_some, if_pos]
          rw [pre_congr (m + c) (vals' := vals) (fun j hj => by rw [if_neg (by omega)])]
          exact ht'
        refine ih _ (c + 1) _ w' (inv.set hi) (by omega) (by omega) (fun j hj hjs => ?_) (fun j hj => by rw [if_neg (by omega)]; exact hvs j hj) (by rw [getD_set_ne false (by omega), hle0]; exact hJ' hrest) ?_
        · by_cases hj' : m + c = j
          · subst hj'
            rw [getD_set_self (by rw [inv.size]; exact hi')]
            simp
          · rw [getD_set_ne false hj', hch j hj hjs]
            exact decide_eq_decide.2 (by omega)
        · rw [getD_set_ne false (show m + c ≠ e0 by omega), hle0, if_pos rfl, show m + (c + 1) = m + c + 1 from rfl]
          rw [actL_firsts _ _ _ _ (Nat.le_refl _), Nat.min_eq_left (by omega)] at ht' ⊢
          simp only [pre, ho, Option.bind_some, if_pos]
          rw [pre_congr (m + c) (vals' := vals) (fun j hj => by rw [if_neg (by omega)])]
          exact ht'


/-- the event: it turns W0 to W1 and hands back v -/
def Event (F : Fence) (n : Nat) (P : Program) (ops : Array Oper) (Q : Exit → Act → World → Prop) (W0 W1 : World) (o : Oper) (a : Act) (v : Value) : Prop :=
  Region.wanted o (yielded ops a.tmps) = true ∧ o.wpIn F n P a W0 (fun a' w' => ∃ u, a' = a.put o.dst u ∧ u = v ∧ w' = W1) (NoP Q)

inductive WalkE (F : Fence) (n : Nat) (P : Program) (ops : Array Oper) (Q : Exit → Act → World → Prop) (J : World → Prop) (e0 : Nat) (W0 W1 : World) (tail : Act → Prop) : Nat → List Oper → Act → Prop
  | nil {i : Nat} {a : Act} (h : tail a) : WalkE F n P ops Q J e0 W0 W1 tail i [] a
  | cons {i : Nat} {o : Oper} {rest : List Oper} {a : Act} (v : Value) (hi : i ≠ e0) (h : Still F n P ops Q J o a v) (hr : WalkE F n P ops Q J e0 W0 W1 tail (i + 1) rest (a.put o.dst v)) : WalkE F n P ops Q J e0 W0 W1 tail i (o :: rest) a
  | event {i : Nat} {o : Oper} {rest : List Oper} {a : Act} (v : Value) (hi : i = e0) (h : Event F n P ops Q W0 W1 o a v) (hr : WalkE F n P ops Q J e0 W0 W1 tail (i + 1) rest (a.put o.dst v)) : WalkE F n P ops Q J e0 W0 W1 tail i (o :: rest) a
theorem WalkE.steps {e0 : Nat} {W0 W1 : World} {tail : Act → Prop} {i0 : Nat} {l : List Oper} {a : Act} (h : WalkE F n P ops Q J e0 W0 W1 tail i0 l a) : ∃ vs : List Value, vs.length = l.length ∧
    (∀ k o, l[k]? = some o → (i0 + k ≠ e0 → Still F n P ops Q J o ((l.take k).zip vs |>.foldl (fun a p => a.put p.1.dst p.2) a) (vs.getD k undef)) ∧ (i0 + k = e0 → Event F n P ops Q W0 W1 o ((l.take k).zip vs |>.foldl (fun a p => a.put p.1.dst p.2) a) (vs.getD k undef))) ∧
    tail ((l.zip vs).foldl (fun a p => a.put p.1.dst p.2) a) := by
  induction h with
  | nil h => exact ⟨[], rfl, fun k o ho => by simp at ho, h⟩
  | cons v hi hs _ ih =>
    obtain ⟨vs, h1, h2, h3⟩ := ih
    refine ⟨v :: vs, by simp [h1], fun k o ho => ?_, h3⟩
    cases k with
    | zero =>
      simp only [List.getElem?_cons_zero, Option.some.injEq] at ho
      subst ho
      exact ⟨fun _ => hs, fun e => absurd e hi⟩
    | succ k =>
      have := h2 k o (by simpa using ho)
      rw [Nat.add_assoc, Nat.add_comm 1 k] at this
      exact this
  | event v hi hs _ ih =>
    obtain ⟨vs, h1, h2, h3⟩ := ih
    refine ⟨v :: vs, by simp [h1], fun k o ho => ?_, h3⟩
    cases k with
    | zero =>
      simp only [List.getElem?_cons_zero, Option.some.injEq] at ho
      subst ho
      exact ⟨fun e => absurd hi e, fun _ => hs⟩
    | succ k =>
      have := h2 k o (by simpa using ho)
      rw [Nat.add_assoc, Nat.add_comm 1 k] at this
      exact this

theorem regionIn_E0 {id : Nat} {l t : List Oper} {a : Act} {w W1 : World} {e0 : Nat} (hm : P.follows .mixedOrders = true) (hok : okB .any (l ++ t).toArray = true) (hsel : noSelect (l ++ t).toArray = true) (hnd : noDefer (l ++ t).toArray = true) (ht : 0 < t.length)
    (hc : Region.chainB .any (l ++ t).toArray l.length = true) (hlast : lastB .any (l ++ t).toArray = true) (he0 : e0 < l.length) (hme : Region.waitsFor .any (l ++ t).toArray l.length e0 = true) (h0 : J w.drew) (h1 : J W1)
    (h : WalkE F n P (l ++ t).toArray Q J e0 w.drew W1 (fun a => TailW F n P (l ++ t).toArray Q J t a W1) 0 l a) : (Code.region id (l ++ t).toArray true).wpIn F n P Q a w := by
  obtain ⟨vs, h1', h2, h3⟩ := h.steps
  have hpre := pre_fold l vs h1' a
  refine wpIn_region_any hm ?_
  have hsz : (l ++ t).toArray.size = l.length + t.length := by simp
  have hnl : (Array.replicate (l ++ t).toArray.size false).getD e0 false = false := getD_replicate_false _ _
  have key := wpAnyIn_E (P := P) (Q := Q) (J := J) (F := F) (n := n) hnd hok hsel rfl (m := l.length) (by omega) hc hlast (fun i => vs.getD i undef) a he0 hme (by omega) h0 h1 (fun o ho => by
      rw [pre_app _ _ _ _ _ (by omega), hpre e0 (by omega)]
      exact (h2 e0 o (by simpa [List.getElem?_append, he0] using ho)).2 (by omega)) (fun i o hi hne ho => by
      rw [pre_app _ _ _ _ _ (by omega), hpre i (by omega)]
      exact (h2 i o (by simpa [List.getElem?_append, hi] using ho)).1 (by omega)) (l ++ t).toArray.size (Array.replicate (l ++ t).toArray.size false) 0 (fun i => vs.getD i undef) w.drew
    ⟨by simp, (fun j oj _ hl => by rw [getD_replicate_false] at hl; cases hl)⟩ (by
      unfold todo
      exact Nat.le_trans (List.length_filter_le _ _) (by simp)) (by omega) (fun j hj _ => by rw [getD_replicate_false]; simp; omega) (fun _ _ => rfl) (by rw [hnl]; rfl) (by
      rw [hnl]
      rw [Nat.add_zero, actL_firsts _ _ _ _ (Nat.le_refl _), Nat.min_eq_left (by omega), pre_app _ _ _ _ _ (Nat.le_refl _), hpre _ (Nat.le_refl _), List.take_length, List.drop_left]
      exact h3)
  rw [actL_none _ _ _ _ (Nat.le_refl _)] at key
  exact key

theorem regionIn_E {id : Nat} {l : List Oper} (m e0 : Nat) {a : Act} {w W1 : World} (hm : P.follows .mixedOrders = true) (hok : okB .any l.toArray = true) (hsel : noSelect l.toArray = true) (hnd : noDefer l.toArray = true)
    (ht : decide (m < l.length) = true) (hc : Region.chainB .any l.toArray m = true) (hlast : lastB .any l.toArray = true) (he0 : decide (e0 < m) = true) (hme : Region.waitsFor .any l.toArray m e0 = true) (J : World → Prop) (h0 : J w.drew) (h1 : J W1)
    (h : WalkE F n P l.toArray Q J e0 w.drew W1 (fun a => TailW F n P l.toArray Q J (l.drop m) a W1) 0 (l.take m) a) : (Code.region id l.toArray true).wpIn F n P Q a w := by
  have ht := of_decide_eq_true ht
  have he0 := of_decide_eq_true he0
  have e : l.take m ++ l.drop m = l := List.take_append_drop m l
  have em : (l.take m).length = m := by simp; omega
  have key := regionIn_E0 (P := P) (Q := Q) (F := F) (n := n) (J := J) (e0 := e0) (W1 := W1) (id := id) (l := l.take m) (t := l.drop m) (a := a) (w := w) hm (by rw [e]; exact hok) (by rw [e]; exact hsel) (by rw [e]; exact hnd) (by simp; omega) (by rw [e, em]; exact hc) (by rw [e]; exact hlast) (by rw [em]; exact he0) (by rw [e, em]; exact hme) h0 h1 (by rw [e]; exact h)
  rw [e] at key
  exact key

theorem Event.run {o : Oper} {a : Act} {v : Value} {W0 W1 : World} (hnd : ∀ c, o.op ≠ .defer c) (hw : Region.wanted o (yielded ops a.tmps) = true) (hab : o.about P W0 a.eval = none)
    (hr : (execOp a.eval o).run P W0 = .ok (.value v) W1) : Event F n P ops Q W0 W1 o a v :=
  ⟨hw, (fun f hf => by rw [hab] at hf; cases hf), by rw [semAt_any hnd, hr]; exact ⟨v, rfl, rfl, rfl⟩⟩
end
end Go.Proofs.Ytphalijdanmkeaa.Reg
