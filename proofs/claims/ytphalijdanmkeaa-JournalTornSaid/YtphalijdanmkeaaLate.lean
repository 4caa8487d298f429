/- A region that draws its order: some operations that are still (whenever they come they hand back the same and leave the world), and behind them in the text a chain that is walked in its order, in whatever worlds it makes; a word J holds all along. In a round as anywhere. -/
import Derived.Test.YtphalijdanmkeaaReg
namespace Go.Proofs.Ytphalijdanmkeaa.Reg
open Go

section
variable {P : Program} {ops : Array Oper} {md : Region.Mode} {F : Fence} {n : Nat}

def noDefer (ops : Array Oper) : Bool := ops.all fun o => match o.op with | .defer _ => false | _ => true
theorem noDefer_spec (h : noDefer ops = true) {i : Nat} {o : Oper} (ho : ops[i]? = some o) : ∀ c, o.op ≠ .defer c := by
  intro c e
  have hm : o ∈ ops := by
    obtain ⟨hi, rfl⟩ := Array.getElem?_eq_some_iff.1 ho
    exact Array.getElem_mem hi
  have := Array.all_eq_true_iff_forall_mem.1 h o hm
  rw [e] at this
  cases this
theorem semAt_any {o : Oper} (h : ∀ c, o.op ≠ .defer c) (r : Option Nat) (ρ : Operand → Value) : Oper.semAt r ρ o = execOp ρ o := by
  cases r with
  | none => exact Oper.semAt_none _ _
  | some l => exact Oper.semAt_some l _ _ h

variable {Q : Exit → Act → World → Prop} {J : World → Prop}

theorem go_any {o : Oper} {a b : Act} {T : Value → World → Prop} {i : Nat} (hnd : ∀ c, o.op ≠ .defer c) (ho : ops[i]? = some o) (hsel : ∀ cs b, o.op ≠ .select cs b) (hwa : Region.wanted o (yielded ops a.tmps) = true) {w : World}
    (h : o.wpIn F n P a w (fun a' w' => ∃ v, a' = a.put o.dst v ∧ T v w') (NoP Q))
    (hab : ∀ t ∈ o.looksAt ops, b.tmps[t]? = a.tmps[t]?) (hs : b.tmps.size = a.tmps.size) {K : Act → World → Prop} (hK : ∀ v w', T v w' → K (b.put o.dst v) w') : wpOpIn F n P ops Q i K b w := by
  have hwant := wanted_same hab
  have hex : execOp b.eval o = execOp a.eval o := execOp_congr o hsel (eval_same hab)
  have habout : ∀ w, o.about P w b.eval = o.about P w a.eval := fun w => about_congr o w (eval_same hab)
  unfold wpOpIn
  simp only [ho]
  rw [if_pos (hwant.trans hwa)]
  unfold Oper.wpIn at *
  rw [habout]
  refine ⟨h.1, ?_⟩
  have h2 := h.2
  rw [semAt_any hnd] at h2 ⊢
  rw [hex]
  generalize (execOp a.eval o).run P w = r at *
  cases r with
  | ok x w' =>
    cases x <;> simp only [Oper.uponIn] at h2 ⊢
    case value u => obtain ⟨v, e, ht⟩ := h2; rw [put_inj e hs]; exact hK _ _ ht
    case skip => obtain ⟨v, e, ht⟩ := h2; rw [put_inj e hs]; exact hK _ _ ht
    case defer d =>
      obtain ⟨v, e, ht⟩ := h2
      have := congrArg Act.defers e
      simp only [put_defers'] at this
      exact absurd this (by simp)
    case enter f args =>
      refine ⟨h2.1, CallsIn.mono h2.2 fun e w'' he => ?_⟩
      cases e with
      | returned u => simp only at he ⊢; obtain ⟨v, e, ht⟩ := he; rw [put_inj e hs]; exact hK _ _ ht
      | panicked c => exact he.elim
      | outgrown => exact NoP.letsOut he
    case row row args => exact ⟨h2.1, RowsIn.mono h2.2 fun u w'' he => by obtain ⟨v, e, ht⟩ := he; rw [put_inj e hs]; exact hK _ _ ht⟩
    case round l f tmps assign body =>
      refine ⟨h2.1, RoundIn.mono h2.2 fun e w'' he => ?_⟩
      cases e with
      | returned u => simp only at he ⊢; obtain ⟨v, e, ht⟩ := he; rw [put_inj e hs]; exact hK _ _ ht
      | panicked c => exact he.elim
      | outgrown => exact NoP.letsOut he
  | halt x w' => cases x <;> simp only [Oper.uponIn] at h2 ⊢ <;> exact h2.elim

/-- whenever it comes it hands back the same, and leaves the world -/
def Still (F : Fence) (n : Nat) (P : Program) (ops : Array Oper) (Q : Exit → Act → World → Prop) (J : World → Prop) (o : Oper) (a : Act) (v : Value) : Prop :=
  Region.wanted o (yielded ops a.tmps) = true ∧ ∀ w, J w → o.wpIn F n P a w (fun a' w' => ∃ u, a' = a.put o.dst u ∧ u = v ∧ w' = w) (NoP Q)

/-- the chain -/
def TailW (F : Fence) (n : Nat) (P : Program) (ops : Array Oper) (Q : Exit → Act → World → Prop) (J : World → Prop) : List Oper → Act → World → Prop
  | [], a, w => Q .normal a w
  | o :: rest, a, w => Region.wanted o (yielded ops a.tmps) = true ∧ o.wpIn F n P a w (fun a' w' => ∃ v, a' = a.put o.dst v ∧ (rest ≠ [] → J w') ∧ TailW F n P ops Q J rest (a.put o.dst v) w') (NoP Q)

/-- the last waits for all others -/
def lastB (md : Region.Mode) (ops : Array Oper) : Bool := (List.range (ops.size - 1)).all fun i => Region.waitsFor md ops (ops.size - 1) i

theorem wpAnyIn_end {fuel : Nat} {listed : Array Bool} {a : Act} {w : World} (hr : Region.ready md ops listed = []) (h : Q .normal a w) : wpAnyIn F n P md ops Q fuel listed a w := by
  cases fuel with
  | zero => exact ⟨hr, h⟩
  | succ fuel => exact ⟨fun _ => h, fun i hi => by rw [hr] at hi; cases hi⟩

theorem actL_congr {vals vals' : Nat → Value} {a0 : Act} {listed : Array Bool} : ∀ k, (∀ j, j < k → listed.getD j false = true → vals j = vals' j) → actL ops vals a0 listed k = actL ops vals' a0 listed k
  | 0, _ => rfl
  | k + 1, h => by
    simp only [actL, actL_congr k (fun j hj => h j (by omega))]
    split
    · rename_i hl; rw [h k (by omega) hl]
    · rfl

theorem pre_congr {vals vals' : Nat → Value} {a0 : Act} : ∀ k, (∀ j, j < k → vals j = vals' j) → pre ops vals a0 k = pre ops vals' a0 k
  | 0, _ => rfl
  | k + 1, h => by simp only [pre, pre_congr k (fun j hj => h j (by omega)), h k (by omega)]

theorem wpAnyIn_L (hnd : noDefer ops = true) (hok : okB md ops = true) (hsel : noSelect ops = true) {l : List Oper} (hl : ops = l.toArray) {m : Nat} (hm : m ≤ ops.size) (hc : Region.chainB md ops m = true) (hlast : lastB md ops = true) (hv : Nat → Value) (a0 : Act)
    (hstep : ∀ i o, i < m → ops[i]? = some o → Still F n P ops Q J o (pre ops hv a0 i) (hv i)) :
    ∀ (fuel : Nat) (listed : Array Bool) (c : Nat) (vals : Nat → Value) (w : World), Inv md ops listed → todo ops listed ≤ fuel → m + c ≤ ops.size → (∀ j, m ≤ j → j < ops.size → listed.getD j false = decide (j < m + c)) → (∀ i, i < m → vals i = hv i) → J w →
      TailW F n P ops Q J (l.drop (m + c)) (actL ops vals a0 (firsts ops.size (m + c)) ops.size) w → wpAnyIn F n P md ops Q fuel listed (actL ops vals a0 listed ops.size) w := by
  have hls : l.length = ops.size := by rw [hl]; simp
  intro fuel
  induction fuel with
  | zero =>
    intro listed c vals w inv hf hmc hch hvs hw ht
    have hr : Region.ready md ops listed = [] := by
      rw [List.eq_nil_iff_forall_not_mem]
      intro i hi
      obtain ⟨h0, o, ho, _⟩ := mem_ready.1 hi
      have := todo_pos (listed := listed) (Array.getElem?_eq_some_iff.1 ho).1 (getD_both h0)
      omega
    have hmc' : m + c = ops.size := by
      rcases Nat.lt_or_ge (m + c) ops.size with h | h
      · have := all_listed hok inv.size hr (m + c) h
        rw [hch (m + c) (by omega) h] at this
        simp at this
      · omega
    rw [hmc', List.drop_eq_nil_of_le (by omega)] at ht
    exact ⟨hr, by rw [end_act hok vals a0 inv.size hr]; exact ht⟩
  | succ fuel ih =>
    intro listed c vals w inv hf hmc hch hvs hw ht
    refine ⟨fun hr => ?_, fun i hi => ?_⟩
    · have hmc' : m + c = ops.size := by
        rcases Nat.lt_or_ge (m + c) ops.size with h | h
        · have := all_listed hok inv.size hr (m + c) h
          rw [hch (m + c) (by omega) h] at this
          simp at this
        · omega
      rw [hmc', List.drop_eq_nil_of_le (by omega)] at ht
      rw [end_act hok vals a0 inv.size hr]; exact ht
    · obtain ⟨h0, o, ho, hall⟩ := mem_ready.1 hi
      have hun := getD_both h0
      have hi' := (Array.getElem?_eq_some_iff.1 ho).1
      have hsees := sees hok vals a0 listed inv ho hi
      rcases Nat.lt_or_ge i m with him | him
      · have he : actL ops vals a0 (firsts ops.size i) ops.size = pre ops hv a0 i := by
          rw [actL_firsts _ _ _ _ (Nat.le_refl _), Nat.min_eq_left (by omega)]
          exact pre_congr i (fun j hj => hvs j (by omega))
        rw [he] at hsees
        obtain ⟨h1, h2⟩ := hstep i o him ho
        refine go_any (noDefer_spec hnd ho) ho (noSelect_spec hsel ho) h1 (h2 w hw) hsees (by rw [← he, actL_size, actL_size]) ?_
        rintro v w' ⟨rfl, rfl⟩
        rw [show actL ops vals a0 listed ops.size = actL ops vals a0 listed ops.size from rfl, ← hvs i him, ← actL_set hok vals a0 listed inv.size ho hun]
        have := todo_set hi' inv.size hun
        refine ih _ c vals w' (inv.set hi) (by omega) hmc (fun j hj hjs => ?_) hvs hw ht
        rw [getD_set_ne false (by omega)]
        exact hch j hj hjs
      · have hic : i = m + c := by
          have h1 := hch i him hi'
          rw [hun] at h1
          have h1' : ¬ i < m + c := by simpa using h1.symm
          rcases Nat.lt_or_ge (m + c) i with h | h
          · exfalso
            have hcc := List.all_eq_true.1 hc i (List.mem_range.2 hi')
            simp only [Bool.or_eq_true, decide_eq_true_eq] at hcc
            rcases hcc with hcc | hcc
            · omega
            · obtain ⟨o', ho', e, he, hb, hon⟩ := Region.waitsFor_spec hcc
              obtain rfl := Option.some.inj (ho'.symm.trans ho)
              have h2 := hall e he hb
              rw [hon, hch (i - 1) (by omega) (by omega)] at h2
              simp at h2
              omega
          · omega
        subst hic
        have hd : l.drop (m + c) = o :: l.drop (m + c + 1) := by
          rw [List.drop_eq_getElem_cons (by omega)]
          congr 1
          have : l[m + c]? = some o := by rw [← ho, hl]; simp
          rw [List.getElem?_eq_getElem (by omega)] at this
          exact Option.some.inj this
        rw [hd] at ht
        obtain ⟨h1, h2⟩ := ht
        refine go_any (noDefer_spec hnd ho) ho (noSelect_spec hsel ho) h1 h2 hsees (by rw [actL_size, actL_size]) ?_
        rintro v w' ⟨hJ', ht'⟩
        have e1 : actL ops vals a0 listed ops.size = actL ops (fun j => if j = m + c then v else vals j) a0 listed ops.size := actL_congr _ fun j _ hlj => by
          rw [if_neg (fun e => by rw [e, hun] at hlj; cases hlj)]
        have e2 := actL_set hok (fun j => if j = m + c then v else vals j) a0 listed inv.size ho hun
        simp only [if_pos] at e2
        rw [e1, ← e2]
        have := todo_set hi' inv.size hun
        by_cases hrest : l.drop (m + c + 1) = []
        · have hend : m + c + 1 = ops.size := by
            have := List.drop_eq_nil_iff.1 hrest
            omega
          have hal : ∀ j, j < ops.size → (listed.setIfInBounds (m + c) true).getD j false = true := by
            intro j hj
            by_cases hj' : m + c = j
            · subst hj'; exact getD_set_self (by rw [inv.size]; exact hi')
            · have hw := List.all_eq_true.1 hlast j (List.mem_range.2 (by omega))
              rw [show ops.size - 1 = m + c from by omega] at hw
              obtain ⟨o', ho', e, he, hb, hon⟩ := Region.waitsFor_spec hw
              obtain rfl := Option.some.inj (ho'.symm.trans ho)
              have := hall e he hb
              rw [hon] at this
              exact getD_set_true this
          have hrn : Region.ready md ops (listed.setIfInBounds (m + c) true) = [] := by
            rw [List.eq_nil_iff_forall_not_mem]
            intro i hi
            obtain ⟨h0, o2, ho2, _⟩ := mem_ready.1 hi
            have := hal i (Array.getElem?_eq_some_iff.1 ho2).1
            rw [getD_both h0] at this
            cases this
          refine wpAnyIn_end hrn ?_
          rw [end_act hok _ a0 (inv.set hi).size hrn]
          rw [hrest] at ht'
          rw [actL_firsts _ _ _ _ (Nat.le_refl _), Nat.min_eq_left (by omega)] at ht' ⊢
          rw [← hend]
          simp only [pre, ho, Option.bind_some, if_pos]
          rw [pre_congr (m + c) (vals' := vals) (fun j hj => by rw [if_neg (by omega)])]
          exact ht'
        refine ih _ (c + 1) _ w' (inv.set hi) (by omega) (by omega) (fun j hj hjs => ?_) (fun j hj => by rw [if_neg (by omega)]; exact hvs j hj) (hJ' hrest) ?_
        · by_cases hj' : m + c = j
          · subst hj'
            rw [getD_set_self (by rw [inv.size]; exact hi')]
            simp
          · rw [getD_set_ne false hj', hch j hj hjs]
            exact decide_eq_decide.2 (by omega)
        · rw [show m + (c + 1) = m + c + 1 from rfl]
          rw [actL_firsts _ _ _ _ (Nat.le_refl _), Nat.min_eq_left (by omega)] at ht' ⊢
          simp only [pre, ho, Option.bind_some, if_pos]
          rw [pre_congr (m + c) (vals' := vals) (fun j hj => by rw [if_neg (by omega)])]
          exact ht'

/-- the still ones, in the order of the text -/
inductive WalkL (F : Fence) (n : Nat) (P : Program) (ops : Array Oper) (Q : Exit → Act → World → Prop) (J : World → Prop) (tail : Act → Prop) : List Oper → Act → Prop
  | nil {a : Act} (h : tail a) : WalkL F n P ops Q J tail [] a
  | cons {o : Oper} {rest : List Oper} {a : Act} (v : Value) (h : Still F n P ops Q J o a v) (hr : WalkL F n P ops Q J tail rest (a.put o.dst v)) : WalkL F n P ops Q J tail (o :: rest) a
theorem WalkL.steps {tail : Act → Prop} {l : List Oper} {a : Act} (h : WalkL F n P ops Q J tail l a) : ∃ vs : List Value, vs.length = l.length ∧
    (∀ k o, l[k]? = some o → Still F n P ops Q J o ((l.take k).zip vs |>.foldl (fun a p => a.put p.1.dst p.2) a) (vs.getD k undef)) ∧
    tail ((l.zip vs).foldl (fun a p => a.put p.1.dst p.2) a) := by
  induction h with
  | nil h => exact ⟨[], rfl, fun k o ho => by simp at ho, h⟩
  | cons v hs _ ih =>
    obtain ⟨vs, h1, h2, h3⟩ := ih
    refine ⟨v :: vs, by simp [h1], fun k o ho => ?_, h3⟩
    cases k with
    | zero =>
      simp only [List.getElem?_cons_zero, Option.some.injEq] at ho
      subst ho
      exact hs
    | succ k => exact h2 k o (by simpa using ho)

theorem regionIn_L0 {id : Nat} {l t : List Oper} {a : Act} {w : World} (hm : P.follows .mixedOrders = true) (hok : okB .any (l ++ t).toArray = true) (hsel : noSelect (l ++ t).toArray = true) (hnd : noDefer (l ++ t).toArray = true)
    (hc : Region.chainB .any (l ++ t).toArray l.length = true) (hlast : lastB .any (l ++ t).toArray = true) (J : World → Prop) (h0 : J w.drew)
    (h : WalkL F n P (l ++ t).toArray Q J (fun a => TailW F n P (l ++ t).toArray Q J t a w.drew) l a) : (Code.region id (l ++ t).toArray true).wpIn F n P Q a w := by
  obtain ⟨vs, h1, h2, h3⟩ := h.steps
  have hpre := pre_fold l vs h1 a
  refine wpIn_region_any hm ?_
  have hsz : (l ++ t).toArray.size = l.length + t.length := by simp
  have key := wpAnyIn_L (P := P) (Q := Q) (J := J) (F := F) (n := n) hnd hok hsel rfl (m := l.length) (by omega) hc hlast (fun i => vs.getD i undef) a (fun i o hi ho => by
      rw [pre_app _ _ _ _ _ (by omega), hpre i (by omega)]
      exact h2 i o (by simpa [List.getElem?_append, hi] using ho)) (l ++ t).toArray.size (Array.replicate (l ++ t).toArray.size false) 0 (fun i => vs.getD i undef) w.drew
    ⟨by simp, (fun j oj _ hl => by rw [getD_replicate_false] at hl; cases hl)⟩ (by
      unfold todo
      exact Nat.le_trans (List.length_filter_le _ _) (by simp)) (by omega) (fun j hj _ => by rw [getD_replicate_false]; simp; omega) (fun _ _ => rfl) h0 (by
      rw [Nat.add_zero, actL_firsts _ _ _ _ (Nat.le_refl _), Nat.min_eq_left (by omega), pre_app _ _ _ _ _ (Nat.le_refl _), hpre _ (Nat.le_refl _), List.take_length, List.drop_left]
      exact h3)
  rw [actL_none _ _ _ _ (Nat.le_refl _)] at key
  exact key

theorem regionIn_L {id : Nat} {l : List Oper} (m : Nat) {a : Act} {w : World} (hm : P.follows .mixedOrders = true) (hok : okB .any l.toArray = true) (hsel : noSelect l.toArray = true) (hnd : noDefer l.toArray = true)
    (ht : decide (m < l.length) = true) (hc : Region.chainB .any l.toArray m = true) (hlast : lastB .any l.toArray = true) (J : World → Prop) (h0 : J w.drew)
    (h : WalkL F n P l.toArray Q J (fun a => TailW F n P l.toArray Q J (l.drop m) a w.drew) (l.take m) a) : (Code.region id l.toArray true).wpIn F n P Q a w := by
  have ht := of_decide_eq_true ht
  have e : l.take m ++ l.drop m = l := List.take_append_drop m l
  have em : (l.take m).length = m := by simp; omega
  have key := regionIn_L0 (P := P) (Q := Q) (F := F) (n := n) (id := id) (l := l.take m) (t := l.drop m) (a := a) (w := w) hm (by rw [e]; exact hok) (by rw [e]; exact hsel) (by rw [e]; exact hnd) (by rw [e, em]; exact hc) (by rw [e]; exact hlast) J h0 (by rw [e]; exact h)
  rw [e] at key
  exact key

theorem Still.pure {o : Oper} {a : Act} {v : Value} (hnd : ∀ c, o.op ≠ .defer c) (hw : Region.wanted o (yielded ops a.tmps) = true) (hab : ∀ w, o.about P w a.eval = none)
    (hr : ∀ w, J w → (execOp a.eval o).run P w = .ok (.value v) w) : Still F n P ops Q J o a v :=
  ⟨hw, fun w h => ⟨(fun f hf => by rw [hab w] at hf; cases hf), by rw [semAt_any hnd, hr w h]; exact ⟨v, rfl, rfl, rfl⟩⟩⟩
theorem TailW.nil {a : Act} {w : World} (h : Q .normal a w) : TailW F n P ops Q J [] a w := h
theorem TailW.run {o : Oper} {rest : List Oper} {a : Act} {v : Value} {w w' : World} (hnd : ∀ c, o.op ≠ .defer c) (hw : Region.wanted o (yielded ops a.tmps) = true) (hab : o.about P w a.eval = none)
    (hr : (execOp a.eval o).run P w = .ok (.value v) w') (hJ : rest ≠ [] → J w') (k : TailW F n P ops Q J rest (a.put o.dst v) w') : TailW F n P ops Q J (o :: rest) a w :=
  ⟨hw, (fun f hf => by rw [hab] at hf; cases hf), by rw [semAt_any hnd, hr]; exact ⟨v, rfl, hJ, k⟩⟩
theorem TailW.skip {o : Oper} {rest : List Oper} {a : Act} {w w' : World} (hnd : ∀ c, o.op ≠ .defer c) (hw : Region.wanted o (yielded ops a.tmps) = true) (hab : o.about P w a.eval = none)
    (hr : (execOp a.eval o).run P w = .ok .skip w') (hJ : rest ≠ [] → J w') (k : TailW F n P ops Q J rest (a.put o.dst undef) w') : TailW F n P ops Q J (o :: rest) a w :=
  ⟨hw, (fun f hf => by rw [hab] at hf; cases hf), by rw [semAt_any hnd, hr]; exact ⟨undef, rfl, hJ, k⟩⟩
theorem TailW.append {o : Oper} {rest : List Oper} {a : Act} {w : World} (hw : Region.wanted o (yielded ops a.tmps) = true) (s x : Operand) (t : TypeId) (hop : o.op = Op.call { callee := Callee.builtin Builtin.append, args := #[s, x], argTypes := #[t, t] })
    {vs vx v : Value} (hs : a.eval s = vs) (hx : a.eval x = vx) {w' : World} (hr : (Builtin.append_ #[t, t] o.type #[vs, vx]).run P w = .ok v w') (hJ : rest ≠ [] → J w') (k : TailW F n P ops Q J rest (a.put o.dst v) w') : TailW F n P ops Q J (o :: rest) a w :=
  TailW.run (by rw [hop]; intro c e; cases e) hw (by simp [Oper.about, hop, resolve, Target.leads, Sem.run_pure]) (by simp [execOp, hop, resolve, invoke, builtin, hs, hx, hr, Result.andThen]) hJ k
theorem TailW.call {o : Oper} {rest : List Oper} {a : Act} {f : FuncId} {args : Array Value} {w : World} (hF : ∀ f, F.fn f) (hd : F.depth = none) (hnd : ∀ c, o.op ≠ .defer c) (hw : Region.wanted o (yielded ops a.tmps) = true)
    (hr : (execOp a.eval o).run P w = .ok (.enter f args) w) (hc : CallsIn F (n - 1) P f args w fun e w' => ∃ v, e = .returned v ∧ (rest ≠ [] → J w') ∧ TailW F n P ops Q J rest (a.put o.dst v) w') : TailW F n P ops Q J (o :: rest) a w :=
  ⟨hw, (fun f _ => hF f), by
    rw [semAt_any hnd, hr, Oper.uponIn_enter]
    exact ⟨(fun h => by rw [hd] at h; cases h), hc.mono fun e w' ⟨v, he, hj⟩ => by subst he; exact ⟨v, rfl, hj⟩⟩⟩
end
end Go.Proofs.Ytphalijdanmkeaa.Reg
