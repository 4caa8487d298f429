/- Part of a proof. -/
import Derived.StillTail
import Derived.OrdersIn
import Derived.WalkKit
import Derived.OwnWalkIn
set_option maxRecDepth 100000
set_option maxHeartbeats 8000000
set_option linter.unusedVariables false
set_option linter.unusedSimpArgs false
namespace Go.Proofs.YtcdkdiedphhdhaaGreatDoor.N
open Go
theorem pz:(∀(l:List Value) (ds:_) (k:Nat) (v:Value),Act.put ⟨l.toArray,ds⟩ (some k) v=⟨(l.set k v).toArray,ds⟩)/\(∀(a:Act) (v:Value),a.put none v=a)/\(∀(a b:Value) (l:List Value),(a::l).set 0 b=b::l)/\(∀(a b:Value) (l:List Value) (n:Nat),(a::l).set (n+1) b=a::l.set n b):=
 ⟨fun l ds k v=>by simp[Act.put],fun a v=>rfl,fun _ _ _=>rfl,fun _ _ _ _=>rfl⟩
section
variable {P : Program} {ops : Array Oper} {md : Region.Mode}
def okB(md:Region.Mode)(ops:Array Oper):Bool:=
 (List.range ops.size).all fun i=>match ops[i]? with
  |none=>true
  | some o=>
    (o.after.all fun e=>!Region.binds md e||decide (e.on<i)) &&
    (List.range ops.size).all fun j=>match (ops[j]?).bind (·.dst)with
     |none=>true
     |some t=>(!(o.looksAt ops).contains t||(Region.waitsFor md ops i j||(decide (i=j)||Region.waitsFor md ops j i)))&&(decide (i=j)||o.dst != some t)
def actL(ops:Array Oper)(vals:Nat->Value)(a0:Act)(listed:Array Bool):Nat->Act
 |0=>a0
 |k+1=>if listed.getD k false then (actL ops vals a0 listed k).put ((ops[k]?).bind (·.dst)) (vals k)else actL ops vals a0 listed k
theorem put_defers'(a:Act)(d:Option Tmp)(v:Value):(a.put d v).defers=a.defers:=by cases d<;>rfl
theorem put_size(a:Act)(d:Option Tmp)(v:Value):(a.put d v).tmps.size=a.tmps.size:=by cases d<;>simp[Act.put]
theorem actL_defers(vals:Nat->Value)(a0:Act)(listed:Array Bool)(k:Nat):(actL ops vals a0 listed k).defers=a0.defers:=by
 induction k with
 |zero=>rfl
 |succ k ih=>simp only[actL];split<;>simp[put_defers',ih]
theorem actL_size(vals:Nat->Value)(a0:Act)(listed:Array Bool)(k:Nat):(actL ops vals a0 listed k).tmps.size=a0.tmps.size:=by
 induction k with
 |zero=>rfl
 |succ k ih=>simp only[actL];split<;>simp[put_size,ih]
theorem put_get_ne(a:Act)(d:Option Tmp)(v:Value)(t:Nat)(h:d≠some t):(a.put d v).tmps[t]?=a.tmps[t]?:=by
 cases d with
 |none=>rfl
 |some d=>simp[Act.put,Array.getElem?_setIfInBounds_ne (show d≠t from fun e=>h (by rw[e]))]
theorem put_get_eq(a b:Act)(t:Nat)(v:Value)(hs:a.tmps.size=b.tmps.size):(a.put (some t) v).tmps[t]?=(b.put (some t) v).tmps[t]?:=by
 simp[Act.put,Array.getElem?_setIfInBounds,hs]
theorem actL_get(vals:Nat->Value)(a0:Act)(l l':Array Bool)(t:Nat)(k:Nat)(h:∀j,j<k->(ops[j]?).bind (·.dst)=some t->l.getD j false=l'.getD j false) :
 (actL ops vals a0 l k).tmps[t]?=(actL ops vals a0 l' k).tmps[t]?:=by
 induction k with
 |zero=>rfl
 | succ k ih=>
   have ih:=ih (fun j hj=>h j (by omega));simp only[actL];by_cases hd:(ops[k]?).bind (·.dst)=some t
   .rw[h k (by omega) hd]
    split
    .rw[hd];exact put_get_eq _ _ t _ (by rw[actL_size,actL_size])
    .exact ih
   .split<;>split<;>simp only[put_get_ne _ _ _ _ hd,ih]
theorem act_ext{a b:Act}(ht:∀t:Nat,a.tmps[t]?=b.tmps[t]?)(hd:a.defers=b.defers):a=b:=by
 obtain⟨x,y⟩:=a;obtain⟨x',y'⟩:=b;simp only at hd ht;obtain rfl:x=x':=Array.ext_getElem? ht;rw[hd]
theorem getD_set_self{listed:Array Bool}{i:Nat}(h:i<listed.size):(listed.setIfInBounds i true).getD i false=true:=by simp[h]
theorem okB_spec(hok:okB md ops=true){i:Nat}{o:Oper}(ho:ops[i]?=some o) :
 (∀e∈o.after,Region.binds md e=true->e.on<i)/\(∀j t,(ops[j]?).bind (·.dst)=some t->(t∈o.looksAt ops->Region.waitsFor md ops i j=true\/i=j\/Region.waitsFor md ops j i=true)/\(i≠j->o.dst≠some t)):=by
 have hi:i<ops.size:=(Array.getElem?_eq_some_iff.1 ho).1;have h:=List.all_eq_true.1 hok i (List.mem_range.2 hi);simp only[ho,Bool.and_eq_true]at h;refine⟨fun e he hb=>?_,fun j t hj=>?_⟩
 .have:=Array.all_eq_true_iff_forall_mem.1 h.1 e he
  simpa[hb]using this
 .have ha:j<ops.size:=by
   cases hx:ops[j]? with
   |none=>simp[hx]at hj
   |some _=>exact(Array.getElem?_eq_some_iff.1 hx).1
  have:=List.all_eq_true.1 h.2 j (List.mem_range.2 ha);simp only[hj,Bool.and_eq_true,Bool.or_eq_true,Bool.not_eq_true',decide_eq_true_eq,bne_iff_ne,ne_eq]at this;refine⟨fun hm=>?_,fun hne=>?_⟩
  .rcases this.1 with h1|h1
   .rw[List.contains_eq_mem]at h1;simp[hm]at h1
   .exact h1
  .rcases this.2 with h1|h1
   .exact absurd h1 hne
   .exact h1
theorem actL_set(hok:okB md ops=true)(vals:Nat->Value)(a0:Act)(listed:Array Bool)(hs:listed.size=ops.size){i:Nat}{o:Oper}(ho:ops[i]?=some o)(hun:listed.getD i false=false) :
 actL ops vals a0 (listed.setIfInBounds i true) ops.size=(actL ops vals a0 listed ops.size).put o.dst (vals i):=by
 have hi:i<ops.size:=(Array.getElem?_eq_some_iff.1 ho).1;have ha:(ops[i]?).bind (·.dst)=o.dst:=by simp[ho]
 refine act_ext (fun t=>?_) (by rw[put_defers',actL_defers,actL_defers]);by_cases hd:o.dst=some t
 .
  rw[hd]
  have key:∀k,i<k->k<=ops.size->(actL ops vals a0 (listed.setIfInBounds i true) k).tmps[t]?=((actL ops vals a0 listed k).put (some t) (vals i)).tmps[t]?:=by
   intro k
   induction k with
   |zero=>intro h _;omega
   | succ k ih=>
     intro hc hk;by_cases hkk:k=i
     .subst hkk
      simp only[actL,getD_set_self (show k<listed.size by omega),if_true,ha,hd,hun,Bool.false_eq_true,if_false];exact put_get_eq _ _ t _ (by rw[actL_size,actL_size])
     .have ih:=ih (by omega) (by omega)
      have hb:(ops[k]?).bind (·.dst)≠some t:=fun e=>((okB_spec hok ho).2 k t e).2 (fun e'=>hkk e'.symm) hd;simp only[actL,getD_set_ne false (show i≠k from fun e=>hkk e.symm)];split
      .rw[put_get_ne _ _ _ _ hb,ih]
       exact put_get_eq _ _ t _ (by rw[put_size])
      .exact ih
  exact key ops.size hi (Nat.le_refl _)
 .rw[put_get_ne _ _ _ _ hd]
  refine actL_get vals a0 _ _ t ops.size fun j _ hj=>?_;by_cases hji:j=i
  .subst hji;exact absurd (ha.symm.trans hj) hd
  .exact getD_set_ne false (fun e=>hji e.symm)
def firsts(n k:Nat):Array Bool:=Array.ofFn (n:=n) fun j=>decide (j.val<k)
theorem firsts_getD(n k j:Nat)(d:Bool)(h:j<n):(firsts n k).getD j d=decide (j<k):=by
 simp[firsts,Array.getD,h]
theorem firsts_size(n k:Nat):(firsts n k).size=n:=by simp[firsts]
theorem eval_same{o:Oper}{a b:Act}(h:∀t∈o.looksAt ops,a.tmps[t]?=b.tmps[t]?):∀x∈o.op.operands,a.eval x=b.eval x:=by
 intro x hx
 cases x with
 | tmp t=>
   have:t∈o.looksAt ops:=List.mem_append_left _ (List.mem_filterMap.2 ⟨.tmp t,by simpa using hx,rfl⟩);simp only[Act.eval,Array.getD_eq_getD_getElem?,h t this]
 |const v=>rfl
 |global g=>rfl
 |func f=>rfl
theorem wanted_same{o:Oper}{a b:Act}(h:∀t∈o.looksAt ops,a.tmps[t]?=b.tmps[t]?):Region.wanted o (yielded ops a.tmps)=Region.wanted o (yielded ops b.tmps):=by
 unfold Region.wanted
 cases hg:o.guard with
 |none=>rfl
 | some gw=>
   obtain⟨g,want⟩:=gw
   have:yielded ops a.tmps g=yielded ops b.tmps g:=by
    unfold yielded;cases ht:(ops[g]?).bind (·.dst)with
    |none=>rfl
    | some t=>
      have:=h t (by simp[Oper.looksAt,hg,ht]);simp[this]
   simp only[this]
def NoP(Q:Exit->Act->World->Prop):Exit->Act->World->Prop
 |.panic _,_,_=>False
 |e,a,w=>Q e a w
theorem NoP.letsOut{Q:Exit->Act->World->Prop}(h:LetsOut (NoP Q)):LetsOut Q:=h
theorem put_inj{a b:Act}{d:Option Tmp}{u v:Value}(h:a.put d u=a.put d v)(hs:b.tmps.size=a.tmps.size):b.put d u=b.put d v:=by
 cases d with
 |none=>rfl
 | some t=>
   refine act_ext (fun t'=>?_) rfl;by_cases ht:t=t'
   .subst ht
    have:=congrArg (fun a:Act=>a.tmps[t]?) h;simp only[Act.put,Array.getElem?_setIfInBounds]at this|-;rw[hs];exact this
   .simp[Act.put,Array.getElem?_setIfInBounds_ne ht]
def StepP(P:Program)(ops:Array Oper)(Q:Exit->Act->World->Prop)(J:World->Prop)(o:Oper)(a:Act)(v:Value):Prop:=
 (Region.wanted o (yielded ops a.tmps)=true/\∀w,J w->o.wp P a w (fun a' w'=>a'=a.put o.dst v/\J w') (NoP Q))\/(Region.wanted o (yielded ops a.tmps)=false/\v=undef)
variable {Q : Exit -> Act -> World -> Prop} {J : World -> Prop}
theorem StepP.go{o:Oper}{a b:Act}{v:Value}{i:Nat}(ho:ops[i]?=some o)(hsel:∀cs b,o.op ≠ .select cs b)(h:StepP P ops Q J o a v)
 (hab:∀t∈o.looksAt ops,b.tmps[t]?=a.tmps[t]?)(hd:b.defers=a.defers)(hs:b.tmps.size=a.tmps.size){K:Act->World->Prop}(hK:∀w',J w'->K (b.put o.dst v) w'){w:World}(hw:J w):wpOp P ops Q i K b w:=by
 have ha:=wanted_same hab;have hb:execOp b.eval o=execOp a.eval o:=execOp_congr o hsel (eval_same hab);unfold wpOp;simp only[ho];rcases h with⟨h1,h2⟩|⟨h1,rfl⟩
 .rw[if_pos (ha.trans h1)]
  have h2:=h2 w hw;refine .inl ?_;unfold Oper.wp at *;rw[hb];generalize (execOp a.eval o).run P w=r at *
  cases r with
  | ok x w'=>
    cases x<;>simp only[Oper.upon]at h2|-
    case value u=>rw[put_inj h2.1 hs];exact hK _ h2.2
    case skip=>rw[put_inj h2.1 hs];exact hK _ h2.2
    case defer d=>
     have:=congrArg Act.defers h2.1;simp only[put_defers']at this;exact absurd this (by simp)
    case enter f args=>
     refine Calls.mono h2 fun e w'' he=>?_
     cases e with
     |returned u=>simp only at he|-;rw[put_inj he.1 hs];exact hK _ he.2
     |panicked c=>exact he.elim
     |outgrown=>exact NoP.letsOut he
    case row row args=>exact Rows.mono h2 fun u w'' he=>by rw[put_inj he.1 hs];exact hK _ he.2
  |halt x w'=>cases x<;>simp only[Oper.upon]at h2|-<;>exact h2.elim
 .rw[if_neg (by rw[ha,h1];exact Bool.false_ne_true)]
  exact hK _ hw
def noSelect(ops:Array Oper):Bool:=ops.all fun o=>match o.op with|.select _ _=>false|_=>true
theorem noSelect_spec(h:noSelect ops=true){i:Nat}{o:Oper}(ho:ops[i]?=some o):∀cs b,o.op ≠ .select cs b:=by
 intro cs b e
 have hm:o∈ops:=by
  obtain⟨hi,rfl⟩:=Array.getElem?_eq_some_iff.1 ho;exact Array.getElem_mem hi
 have:=Array.all_eq_true_iff_forall_mem.1 h o hm;rw[e]at this;cases this
structure Inv (md:Region.Mode) (ops:Array Oper) (listed:Array Bool):Prop where
 size:listed.size=ops.size
 closed:∀j oj,ops[j]?=some oj->listed.getD j false=true->∀e∈oj.after,Region.binds md e=true->listed.getD e.on false=true
theorem Inv.set{i:Nat}{listed:Array Bool}(inv:Inv md ops listed)(hi:i∈Region.ready md ops listed):Inv md ops (listed.setIfInBounds i true):=by
 obtain⟨_,oi,hc,ha⟩:=mem_ready.1 hi;refine⟨by simp[inv.size],fun j oj hj hl e he hb=>?_⟩;by_cases hij:i=j
 .subst hij
  obtain rfl:=Option.some.inj (hj.symm.trans hc);exact getD_set_true (ha e he hb)
 .rw[getD_set_ne false hij]at hl
  exact getD_set_true (inv.closed j oj hj hl e he hb)
theorem sees(hok:okB md ops=true)(vals:Nat->Value)(a0:Act)(listed:Array Bool)(inv:Inv md ops listed){i:Nat}{o:Oper}(ho:ops[i]?=some o)(hr:i∈Region.ready md ops listed) :
 ∀t∈o.looksAt ops,(actL ops vals a0 listed ops.size).tmps[t]?=(actL ops vals a0 (firsts ops.size i) ops.size).tmps[t]?:=by
 intro t ht;obtain⟨h0,o2,hk,hf⟩:=mem_ready.1 hr;obtain rfl:=Option.some.inj (hk.symm.trans ho);have hh:=getD_both h0;refine actL_get vals a0 _ _ t ops.size fun j hj hd=>?_;rcases((okB_spec hok ho).2 j t hd).1 ht with hw|rfl|hw
 .obtain⟨o',ha,e,he,hb,hc⟩:=Region.waitsFor_spec hw
  obtain rfl:=Option.some.inj (ha.symm.trans ho);have hg:=(okB_spec hok ho).1 e he hb;have h1:=hf e he hb;rw[hc]at h1 hg;rw[h1,firsts_getD _ _ _ _ hj];simp[hg]
 .rw[hh,firsts_getD _ _ _ _ hj]
  simp
 .obtain⟨o',ha,e,he,hb,hc⟩:=Region.waitsFor_spec hw
  have hi:=(okB_spec hok ha).1 e he hb;rw[hc]at hi;rw[firsts_getD _ _ _ _ hj]
  cases hl:listed.getD j false with
  |false=>simp;omega
  | true=>
    have:=inv.closed j o' ha hl e he hb;rw[hc,hh]at this;cases this
theorem all_listed(hok:okB md ops=true){listed:Array Bool}(hs:listed.size=ops.size)(h:Region.ready md ops listed=[]):∀j,j<ops.size->listed.getD j false=true:=by
 intro j
 induction j using Nat.strongRecOn with
 | _ j ih=>
   intro hj
   cases hl:listed.getD j false with
   |true=>rfl
   | false=>
     exfalso;have ho:ops[j]?=some ops[j]:=Array.getElem?_eq_getElem hj
     have:j∈Region.ready md ops listed:=mem_ready.2 ⟨getD_in (by omega) hl,ops[j],ho,fun e he hb=>by
      have:=(okB_spec hok ho).1 e he hb
      exact ih e.on this (by omega)⟩
     rw[h]at this;cases this
def todo(ops:Array Oper)(listed:Array Bool):Nat:=((List.range ops.size).filter fun j=>!listed.getD j false).length
theorem filter_lt{p q:Nat->Bool}:∀(l:List Nat),(∀x,p x=true->q x=true)->(∃x∈l,q x=true/\p x=false)->(l.filter p).length<(l.filter q).length
 | [],_,⟨x,hx,_⟩=>by cases hx
 | y::l,h,⟨x,hx,hq,hp⟩=>by
   have hle:∀l:List Nat,(l.filter p).length<=(l.filter q).length:=by
    intro l
    induction l with
    |nil=>simp
    | cons z l ih=>
      simp only[List.filter_cons];by_cases hz:p z=true
      .simp[hz,h z hz,ih]
      .by_cases hz':q z=true
       .simp[hz,hz'];omega
       .simp[hz,hz',ih]
   simp only[List.filter_cons];rcases List.mem_cons.1 hx with rfl|hx
   .have:=hle l
    simp[hq,hp];omega
   .have ih:=filter_lt l h ⟨x,hx,hq,hp⟩
    by_cases hz:p y=true
    .simp[hz,h y hz,ih]
    .by_cases hz':q y=true
     .simp[hz,hz'];omega
     .simp[hz,hz',ih]
theorem todo_set{listed:Array Bool}{i:Nat}(hi:i<ops.size)(hs:listed.size=ops.size)(hun:listed.getD i false=false):todo ops (listed.setIfInBounds i true)<todo ops listed:=by
 refine filter_lt _ (fun j hj=>?_) ⟨i,List.mem_range.2 hi,by simp[hun],by rw[getD_set_self (by omega)];rfl⟩;by_cases hij:i=j
 .subst hij;rw[getD_set_self (by omega)]at hj;cases hj
 .rw[getD_set_ne false hij]at hj;exact hj
theorem todo_pos{listed:Array Bool}{i:Nat}(hi:i<ops.size)(hun:listed.getD i false=false):0<todo ops listed:=
 List.length_pos_of_mem (List.mem_filter.2 ⟨List.mem_range.2 hi,by rw[hun];rfl⟩)
theorem end_act(hok:okB md ops=true)(vals:Nat->Value)(a0:Act){listed:Array Bool}(hs:listed.size=ops.size)(hr:Region.ready md ops listed=[]) :
 actL ops vals a0 listed ops.size=actL ops vals a0 (firsts ops.size ops.size) ops.size:=by
 have:=all_listed hok hs hr;exact act_ext (fun t=>actL_get vals a0 _ _ t ops.size fun j hj _=>by rw[this j hj,firsts_getD _ _ _ _ hj];simp[hj]) (by rw[actL_defers,actL_defers])
theorem wpAny_J(hok:okB md ops=true)(hsel:noSelect ops=true)(vals:Nat->Value)(a0:Act)
 (hstep:∀i o,ops[i]?=some o->StepP P ops Q J o (actL ops vals a0 (firsts ops.size i) ops.size) (vals i))
 (hend:∀w,J w->Q .normal (actL ops vals a0 (firsts ops.size ops.size) ops.size) w) :
 ∀(fuel:Nat) (listed:Array Bool) (w:World),Inv md ops listed->todo ops listed<=fuel->J w->wpAny P md ops Q fuel listed (actL ops vals a0 listed ops.size) w:=by
 intro fuel
 induction fuel with
 | zero=>
   intro listed w inv hf hw
   have hr:Region.ready md ops listed=[]:=by
    rw[List.eq_nil_iff_forall_not_mem];intro i hi;obtain⟨h0,o,ho,_⟩:=mem_ready.1 hi;have:=todo_pos (listed:=listed) (Array.getElem?_eq_some_iff.1 ho).1 (getD_both h0);omega
   exact⟨hr,by rw[end_act hok vals a0 inv.size hr];exact hend w hw⟩
 | succ fuel ih=>
   intro listed w inv hf hw;refine⟨fun hr=>by rw[end_act hok vals a0 inv.size hr];exact hend w hw,fun i hi=>?_⟩;obtain⟨h0,o,ho,hb⟩:=mem_ready.1 hi;have ha:=getD_both h0;have hc:=(Array.getElem?_eq_some_iff.1 ho).1;refine(hstep i o ho).go ho (noSelect_spec hsel ho) (sees hok vals a0 listed inv ho hi) (by rw[actL_defers,actL_defers]) (by rw[actL_size,actL_size]) (fun w' hw'=>?_) hw;rw[<-actL_set hok vals a0 listed inv.size ho ha];have:=todo_set hc inv.size ha;exact ih _ w' (inv.set hi) (by omega) hw'
theorem actL_none(vals:Nat->Value)(a0:Act)(k:Nat):∀m,m<=k->actL ops vals a0 (Array.replicate k false) m=a0
 |0,_=>rfl
 | m+1,h=>by
   have:(Array.replicate k false).getD m false=false:=getD_replicate_false k m;simp only[actL,this,Bool.false_eq_true,if_false];exact actL_none vals a0 k m (by omega)
def pre(ops:Array Oper)(vals:Nat->Value)(a0:Act):Nat->Act
 |0=>a0
 |k+1=>(pre ops vals a0 k).put ((ops[k]?).bind (·.dst)) (vals k)
theorem actL_firsts(vals:Nat->Value)(a0:Act)(i:Nat):∀m,m<=ops.size->actL ops vals a0 (firsts ops.size i) m=pre ops vals a0 (min i m)
 |0,_=>by rw[Nat.min_zero];rfl
 | m+1,h=>by
   simp only[actL,firsts_getD ops.size i m false (by omega)];by_cases hm:m<i
   .simp only[hm,decide_true,if_true]
    rw[actL_firsts vals a0 i m (by omega),Nat.min_eq_right (by omega),Nat.min_eq_right (by omega)];rfl
   .simp only[hm,decide_false,Bool.false_eq_true,if_false]
    rw[actL_firsts vals a0 i m (by omega),Nat.min_eq_left (by omega),Nat.min_eq_left (by omega)]
inductive Walk (P:Program) (ops:Array Oper) (Q:Exit->Act->World->Prop) (J:World->Prop):List Oper->Act->Prop
 |nil {a:Act}(h:∀w,J w->Q .normal a w):Walk P ops Q J [] a
 |cons {o:Oper}{rest:List Oper}{a:Act}(v:Value) (h:StepP P ops Q J o a v) (hr:Walk P ops Q J rest (a.put o.dst v)):Walk P ops Q J (o::rest) a
theorem Walk.steps{l:List Oper}{a:Act}(h:Walk P ops Q J l a):∃vs:List Value,vs.length=l.length /\
 (∀k o,l[k]?=some o->StepP P ops Q J o ((l.take k).zip vs |>.foldl (fun a p=>a.put p.1.dst p.2) a) (vs.getD k undef)) /\
 (∀w,J w->Q .normal ((l.zip vs).foldl (fun a p=>a.put p.1.dst p.2) a) w):=by
 induction h with
 |nil h=>exact⟨[],rfl,fun k o ho=>by simp at ho,h⟩
 | cons v hs _ ih=>
   obtain⟨vs,h1,h2,h3⟩:=ih;refine⟨v::vs,by simp[h1],fun k o ho=>?_,h3⟩
   cases k with
   | zero=>
     simp only[List.getElem?_cons_zero,Option.some.injEq]at ho;subst ho;exact hs
   |succ k=>exact h2 k o (by simpa using ho)
theorem pre_fold(l:List Oper)(vs:List Value)(hl:vs.length=l.length)(a0:Act):∀k,k<=l.length ->
 pre l.toArray (fun i=>vs.getD i undef) a0 k=((l.take k).zip vs).foldl (fun a p=>a.put p.1.dst p.2) a0
 |0,_=>rfl
 | k+1,h=>by
   have ih:=pre_fold l vs hl a0 k (by omega);have hk:k<vs.length:=by omega
   have ha:k<l.length:=by omega
   have e:(l.take (k+1)).zip vs=(l.take k).zip vs++[(l[k],vs[k])]:=by
    apply List.ext_getElem?;intro j;simp only[List.getElem?_zip_eq_some,List.zip,List.getElem?_zipWith,List.getElem?_append,List.length_zipWith,List.length_take];rcases Nat.lt_trichotomy j k with hj|hj|hj
    .rw[if_pos (by omega),List.getElem?_take,List.getElem?_take,if_pos (by omega),if_pos hj]
    .subst hj
     rw[if_neg (by omega),List.getElem?_take,if_pos (by omega),List.getElem?_eq_getElem hk,List.getElem?_eq_getElem ha,show j-min (min j l.length) vs.length=0 from by omega];rfl
    .rw[if_neg (by omega),List.getElem?_take,if_neg (by omega)]
     have:j-min (min k l.length) vs.length=(j-k-1)+1:=by omega
     rw[this];rfl
   rw[e,List.foldl_append,<-ih];simp[pre,hk,ha]
theorem region_J{id:Nat}{l:List Oper}{a:Act}{w:World}(hm:P.follows .mixedOrders=true)(hok:okB .any l.toArray=true)(hsel:noSelect l.toArray=true)(J:World->Prop)(h0:J w.drew)
 (h:Walk P l.toArray Q J l a):(Code.region id l.toArray true).wp P Q a w:=by
 obtain⟨vs,h1,h2,h3⟩:=h.steps;have ha:=pre_fold l vs h1 a;refine wp_region_any hm ?_
 have key:=wpAny_J (P:=P) (Q:=Q) (J:=J) hok hsel (fun i=>vs.getD i undef) a (fun i o ho=>by
  have hi:i<l.length:=by simpa using(Array.getElem?_eq_some_iff.1 ho).1
  rw[actL_firsts _ _ _ _ (Nat.le_refl _),Nat.min_eq_left (by simp;omega),ha i (by omega)]
  exact h2 i o (by simpa using ho)) (fun w hw=>by
  rw[actL_firsts _ _ _ _ (Nat.le_refl _),Nat.min_self,show l.toArray.size=l.length from by simp,ha _ (Nat.le_refl _),List.take_length]
  exact h3 w hw) l.toArray.size (Array.replicate l.toArray.size false) w.drew ⟨by simp,fun j oj _ hl=>by rw[getD_replicate_false]at hl;cases hl⟩ (by
  unfold todo
  exact Nat.le_trans (List.length_filter_le _ _) (by simp)) h0
 rw[actL_none _ _ _ _ (Nat.le_refl _)]at key;exact key
theorem set_firsts(n k:Nat)(h:k<n):(firsts n k).setIfInBounds k true=firsts n (k+1):=by
 apply Array.ext_getElem?;intro i;by_cases hi:k=i
 .subst hi
  simp[firsts,h]
 .rw[Array.getElem?_setIfInBounds_ne hi]
  by_cases hin:i<n
  .simp only[firsts,Array.getElem?_ofFn,hin,dif_pos]
   congr 1;exact decide_eq_decide.2 (by omega)
  .simp[firsts,hin]
theorem ready_firsts(hok:okB md ops=true){m k i:Nat}(hc:Region.chainB md ops m=true)(hmk:m<=k)(hk:k<=ops.size)(hi:i∈Region.ready md ops (firsts ops.size k)):i=k/\k<ops.size:=by
 obtain⟨h0,o,ho,ha⟩:=mem_ready.1 hi;have hd:=(Array.getElem?_eq_some_iff.1 ho).1;rw[firsts_getD _ _ _ _ hd]at h0;have hj:k<=i:=by simpa using h0
 have h1:=List.all_eq_true.1 hc i (List.mem_range.2 hd);simp only[Bool.or_eq_true,decide_eq_true_eq]at h1;rcases h1 with h1|h1
 .exact⟨by omega,by omega⟩
 .obtain⟨o',hg,e,he,hb,hh⟩:=Region.waitsFor_spec h1
  obtain rfl:=Option.some.inj (hg.symm.trans ho);have h2:=ha e he hb;have hf:=(okB_spec hok ho).1 e he hb;rw[hh]at h2 hf;rw[firsts_getD _ _ _ _ (by omega)]at h2;have:i-1<k:=by simpa using h2
  exact⟨by omega,by omega⟩
theorem tail_run(hok:okB md ops=true){m:Nat}(hc:Region.chainB md ops m=true):∀(d k:Nat),k+d=ops.size->m<=k->∀(fuel:Nat) (a:Act) (w:World),d<=fuel->wpOps P ops Q (List.range' k d) a w->wpAny P md ops Q fuel (firsts ops.size k) a w:=by
 intro d
 induction d with
 | zero=>
   intro k hk hm fuel a w _ h;refine wpAny_done ?_ (by simpa[wpOps]using h) fuel;rw[List.eq_nil_iff_forall_not_mem];intro i hi;have:=ready_firsts hok hc hm (by omega) hi;omega
 | succ d ih=>
   intro k hk hm fuel a w hf h
   cases fuel with
   |zero=>omega
   | succ fuel=>
     rw[List.range'_succ,wpOps_cons]at h;refine⟨fun hr=>?_,fun i hi=>?_⟩
     .have:=all_listed hok (firsts_size _ _) hr k (by omega)
      rw[firsts_getD _ _ _ _ (by omega)]at this;simp at this
     .obtain⟨rfl,_⟩:=ready_firsts hok hc hm (by omega) hi
      rw[set_firsts _ _ (by omega)];exact wpOp_mono (fun a w h=>ih (i+1) (by omega) (by omega) fuel a w (by omega) h) h
theorem tail_runIn{F:Fence}{n:Nat}(hok:okB md ops=true){m:Nat}(hc:Region.chainB md ops m=true):∀(d k:Nat),k+d=ops.size->m<=k->∀(fuel:Nat) (a:Act) (w:World),d<=fuel->wpOpsIn F n P ops Q (List.range' k d) a w->wpAnyIn F n P md ops Q fuel (firsts ops.size k) a w:=by
 intro d
 induction d with
 | zero=>
   intro k hk hm fuel a w _ h;refine wpAnyIn_done ?_ (by simpa[wpOpsIn]using h) fuel;rw[List.eq_nil_iff_forall_not_mem];intro i hi;have:=ready_firsts hok hc hm (by omega) hi;omega
 | succ d ih=>
   intro k hk hm fuel a w hf h
   cases fuel with
   |zero=>omega
   | succ fuel=>
     rw[List.range'_succ,wpOpsIn_cons]at h;refine⟨fun hr=>?_,fun i hi=>?_⟩
     .have:=all_listed hok (firsts_size _ _) hr k (by omega)
      rw[firsts_getD _ _ _ _ (by omega)]at this;simp at this
     .obtain⟨rfl,_⟩:=ready_firsts hok hc hm (by omega) hi
      rw[set_firsts _ _ (by omega)];exact wpOpIn_mono (fun a w h=>ih (i+1) (by omega) (by omega) fuel a w (by omega) h) h
theorem head_done{m:Nat}{listed:Array Bool}(inv:HeadInv md ops m listed)(hm:m<=ops.size)(h:∀i,i<m->listed.getD i false=true):listed=firsts ops.size m:=by
 apply Array.ext
 .rw[inv.size,firsts_size]
 .intro i h1 h2
  have hi:i<ops.size:=by rw[firsts_size]at h2;exact h2
  have e1:(firsts ops.size m)[i]=decide (i<m):=by have:=firsts_getD ops.size m i false hi;simpa[h2]using this
  rw[e1];by_cases hlt:i<m
  .have:=h i hlt;simp[h1]at this;simp[this,hlt]
  .have:=inv.tail i (by omega) hi;simp[h1]at this;simp[this,hlt]
theorem wpAny_J2(hok:okB md ops=true)(hsel:noSelect ops=true){m:Nat}(hm:m<ops.size)(hsk:Region.sinkB md ops m=true)(hc:Region.chainB md ops m=true)(vals:Nat->Value)(a0:Act)
 (hstep:∀i o,i<m->ops[i]?=some o->StepP P ops Q J o (actL ops vals a0 (firsts ops.size i) ops.size) (vals i))
 (hend:∀w,J w->wpOps P ops Q (List.range' m (ops.size-m)) (actL ops vals a0 (firsts ops.size m) ops.size) w) :
 ∀(fuel:Nat) (listed:Array Bool) (w:World),HeadInv md ops m listed->todo ops listed<=fuel->J w->wpAny P md ops Q fuel listed (actL ops vals a0 listed ops.size) w:=by
 intro fuel
 induction fuel with
 | zero=>
   intro listed w inv hf hw;have:=todo_pos (listed:=listed) hm (getD_both (inv.tail m (Nat.le_refl _) hm));omega
 | succ fuel ih=>
   intro listed w inv hf hw;by_cases hall:∀i,i<m->listed.getD i false=true
   .have hl:=head_done inv (Nat.le_of_lt hm) hall
    have hh:ops.size-m<=fuel+1:=by
     refine Nat.le_trans ?_ hf;rw[hl];unfold todo;have:List.range' m (ops.size-m)=(List.range ops.size).drop m:=by rw[List.range_eq_range',List.drop_range'];simp
     have h2:((List.range ops.size).drop m).filter (fun j=>!(firsts ops.size m).getD j false)=(List.range ops.size).drop m:=by
      rw[List.filter_eq_self];intro j hj;rw[<-this,List.mem_range'_1]at hj;rw[firsts_getD _ _ _ _ (by omega)];simp;omega
     have h3:((List.range ops.size).drop m).length=ops.size-m:=by simp
     rw[<-h3]
     conv=>lhs;rw[<-h2]
     exact(List.Sublist.filter _ (List.drop_sublist _ _)).length_le
    rw[hl];exact tail_run hok hc (ops.size-m) m (by omega) (Nat.le_refl _) (fuel+1) _ w hh (hend w hw)
   .have⟨i0,h0,hd⟩:∃i,i<m/\listed.getD i false=false:=by
     refine Classical.byContradiction fun hno=>hall fun i hi=>?_
     cases hx:listed.getD i false with
     |true=>rfl
     |false=>exact absurd ⟨i,hi,hx⟩ hno
    have ha:=tail_waits hsk hc hm inv (m-i0) i0 rfl h0 (getD_in (by rw[inv.size];omega) hd);refine⟨fun hr=>?_,fun i hi=>?_⟩
    .have:=all_listed hok inv.size hr i0 (by omega)
     rw[hd]at this;cases this
    .obtain⟨hg,o,ho,_⟩:=mem_ready.1 hi
     have he:=getD_both hg;have hk:=(Array.getElem?_eq_some_iff.1 ho).1;have hb:i<m:=Nat.lt_of_not_le fun h=>ha i h hi;refine(hstep i o hb ho).go ho (noSelect_spec hsel ho) (sees hok vals a0 listed ⟨inv.size,inv.closed⟩ ho hi) (by rw[actL_defers,actL_defers]) (by rw[actL_size,actL_size]) (fun w' hw'=>?_) hw;rw[<-actL_set hok vals a0 listed inv.size ho he];have:=todo_set hk inv.size he;exact ih _ w' (inv.set hi hb) (by omega) hw'
inductive WalkT (P:Program) (ops:Array Oper) (Q:Exit->Act->World->Prop) (J:World->Prop) (tail:Act->World->Prop):List Oper->Act->Prop
 |nil {a:Act}(h:∀w,J w->tail a w):WalkT P ops Q J tail [] a
 |cons {o:Oper}{rest:List Oper}{a:Act}(v:Value) (h:StepP P ops Q J o a v) (hr:WalkT P ops Q J tail rest (a.put o.dst v)):WalkT P ops Q J tail (o::rest) a
theorem WalkT.steps{tail:Act->World->Prop}{l:List Oper}{a:Act}(h:WalkT P ops Q J tail l a):∃vs:List Value,vs.length=l.length /\
 (∀k o,l[k]?=some o->StepP P ops Q J o ((l.take k).zip vs |>.foldl (fun a p=>a.put p.1.dst p.2) a) (vs.getD k undef)) /\
 (∀w,J w->tail ((l.zip vs).foldl (fun a p=>a.put p.1.dst p.2) a) w):=by
 induction h with
 |nil h=>exact⟨[],rfl,fun k o ho=>by simp at ho,h⟩
 | cons v hs _ ih=>
   obtain⟨vs,h1,h2,h3⟩:=ih;refine⟨v::vs,by simp[h1],fun k o ho=>?_,h3⟩
   cases k with
   | zero=>
     simp only[List.getElem?_cons_zero,Option.some.injEq]at ho;subst ho;exact hs
   |succ k=>exact h2 k o (by simpa using ho)
theorem pre_app(l t:List Oper)(f:Nat->Value)(a0:Act):∀k,k<=l.length->pre (l++t).toArray f a0 k=pre l.toArray f a0 k
 |0,_=>rfl
 | k+1,h=>by
   simp only[pre,pre_app l t f a0 k (by omega)];have hk:k<l.length:=by omega
   simp[List.getElem?_append,hk]
theorem region_JT{id:Nat}{l t:List Oper}{a:Act}{w:World}(hm:P.follows .mixedOrders=true)(hok:okB .any (l++t).toArray=true)(hsel:noSelect (l++t).toArray=true)
 (ht:0<t.length)(hsk:Region.sinkB .any (l++t).toArray l.length=true)(hc:Region.chainB .any (l++t).toArray l.length=true)(J:World->Prop)(h0:J w.drew)
 (h:WalkT P (l++t).toArray Q J (fun a w=>wpList P (l++t).toArray Q t a w) l a):(Code.region id (l++t).toArray true).wp P Q a w:=by
 obtain⟨vs,h1,h2,h3⟩:=h.steps;have ha:=pre_fold l vs h1 a;refine wp_region_any hm ?_;have hb:(l++t).toArray.size=l.length+t.length:=by simp
 have key:=wpAny_J2 (P:=P) (Q:=Q) (J:=J) hok hsel (m:=l.length) (by omega) hsk hc (fun i=>vs.getD i undef) a (fun i o hi ho=>by
  rw[actL_firsts _ _ _ _ (Nat.le_refl _),Nat.min_eq_left (by omega),pre_app _ _ _ _ _ (by omega),ha i (by omega)]
  exact h2 i o (by simpa[List.getElem?_append,hi]using ho)) (fun w hw=>by
  rw[actL_firsts _ _ _ _ (Nat.le_refl _),Nat.min_eq_left (by omega),pre_app _ _ _ _ _ (Nat.le_refl _),ha _ (Nat.le_refl _),List.take_length,show(l++t).toArray.size-l.length=t.length from by omega,
   wpOps_eq_wpList t l.length (fun j=>by simp[List.getElem?_append,show ¬l.length+j<l.length from by omega])]
  exact h3 w hw) (l++t).toArray.size (Array.replicate (l++t).toArray.size false) w.drew ⟨by simp,(fun j oj _ hl=>by rw[getD_replicate_false]at hl;cases hl),fun j _ hj=>by simp only[Array.getD_eq_getD_getElem?];rw[Array.getElem?_replicate,if_pos hj];rfl⟩ (by
  unfold todo
  exact Nat.le_trans (List.length_filter_le _ _) (by simp)) h0
 rw[actL_none _ _ _ _ (Nat.le_refl _)]at key;exact key
theorem region_JTm{id:Nat}{l:List Oper}(m:Nat){a:Act}{w:World}(hm:P.follows .mixedOrders=true)(hok:okB .any l.toArray=true)(hsel:noSelect l.toArray=true)
 (ht:decide (m<l.length)=true)(hsk:Region.sinkB .any l.toArray m=true)(hc:Region.chainB .any l.toArray m=true)(J:World->Prop)(h0:J w.drew)
 (h:WalkT P l.toArray Q J (fun a w=>wpList P l.toArray Q (l.drop m) a w) (l.take m) a):(Code.region id l.toArray true).wp P Q a w:=by
 have ht:=of_decide_eq_true ht;have e:l.take m++l.drop m=l:=List.take_append_drop m l;have em:(l.take m).length=m:=by simp;omega
 have key:=region_JT (P:=P) (Q:=Q) (id:=id) (l:=l.take m) (t:=l.drop m) (a:=a) (w:=w) hm (by rw[e];exact hok) (by rw[e];exact hsel) (by simp;omega) (by rw[e,em];exact hsk) (by rw[e,em];exact hc) J h0 (by rw[e];exact h);rw[e]at key;exact key
theorem StepP.pure{o:Oper}{a:Act}{v:Value}(hw:Region.wanted o (yielded ops a.tmps)=true)(hr:∀w,J w->(execOp a.eval o).run P w=.ok (.value v) w):StepP P ops Q J o a v:=
 .inl ⟨hw,fun w h=>by unfold Oper.wp;rw[hr w h];exact⟨rfl,h⟩⟩
theorem StepP.skip{o:Oper}{a:Act}(hw:Region.wanted o (yielded ops a.tmps)=false):StepP P ops Q J o a undef:=.inr ⟨hw,rfl⟩
theorem StepP.call{o:Oper}{a:Act}{v:Value}{f:FuncId}{args:Array Value}(hw:Region.wanted o (yielded ops a.tmps)=true)(hr:∀w,J w->(execOp a.eval o).run P w=.ok (.enter f args) w)
 (hc:∀w,J w->Calls P f args w fun e w'=>e=.returned v/\J w'):StepP P ops Q J o a v:=
 .inl ⟨hw,fun w h=>by
  unfold Oper.wp;rw[hr w h,Oper.upon_enter]
  exact(hc w h).mono fun e w' ⟨he,hj⟩=>by subst he;exact⟨rfl,hj⟩⟩
end
end Go.Proofs.YtcdkdiedphhdhaaGreatDoor.N
namespace Go.Proofs.YtcdkdiedphhdhaaGreatDoor.N
open Go
section
variable {P : Program} {ops : Array Oper} {md : Region.Mode} {F : Fence} {n : Nat}
def noDefer(ops:Array Oper):Bool:=ops.all fun o=>match o.op with|.defer _=>false|_=>true
theorem noDefer_spec(h:noDefer ops=true){i:Nat}{o:Oper}(ho:ops[i]?=some o):∀c,o.op ≠ .defer c:=by
 intro c e
 have hm:o∈ops:=by
  obtain⟨hi,rfl⟩:=Array.getElem?_eq_some_iff.1 ho;exact Array.getElem_mem hi
 have:=Array.all_eq_true_iff_forall_mem.1 h o hm;rw[e]at this;cases this
theorem semAt_any{o:Oper}(h:∀c,o.op ≠ .defer c)(r:Option Nat)(ρ:Operand->Value):Oper.semAt r ρ o=execOp ρ o:=by
 cases r with
 |none=>exact Oper.semAt_none _ _
 |some l=>exact Oper.semAt_some l _ _ h
variable {Q : Exit -> Act -> World -> Prop} {J : World -> Prop}
theorem actL_congr{vals vals':Nat->Value}{a0:Act}{listed:Array Bool}:∀k,(∀j,j<k->listed.getD j false=true->vals j=vals' j)->actL ops vals a0 listed k=actL ops vals' a0 listed k
 |0,_=>rfl
 | k+1,h=>by
   simp only[actL,actL_congr k (fun j hj=>h j (by omega))];split
   .rename_i hl;rw[h k (by omega) hl]
   .rfl
theorem pre_congr{vals vals':Nat->Value}{a0:Act}:∀k,(∀j,j<k->vals j=vals' j)->pre ops vals a0 k=pre ops vals' a0 k
 |0,_=>rfl
 |k+1,h=>by simp only[pre,pre_congr k (fun j hj=>h j (by omega)),h k (by omega)]
end
end Go.Proofs.YtcdkdiedphhdhaaGreatDoor.N
namespace Go.Proofs.YtcdkdiedphhdhaaGreatDoor.N
open Go
section
def PanQ(G:List PanicEntry->World->Prop)(Q:Exit->Act->World->Prop):Exit->Act->World->Prop
 |.panic c,_,w=>G c w
 |e,a,w=>Q e a w
theorem PanQ.letsOut{G:List PanicEntry->World->Prop}{Q:Exit->Act->World->Prop}(h:LetsOut (PanQ G Q)):LetsOut Q:=h
def Pans(Q:Exit->Act->World->Prop)(ds:List Deferred)(G:List PanicEntry->World->Prop):Prop:=∀c (b:Act) w,b.defers=ds->G c w->Q (.panic c) b w
theorem Pans.no{Q:Exit->Act->World->Prop}{ds:List Deferred}:Pans Q ds (fun _ _=>False):=fun _ _ _ _ h=>h.elim
variable {P : Program} {ops : Array Oper} {md : Region.Mode} {Q : Exit -> Act -> World -> Prop} {J : World -> Prop} {K : World -> World -> Prop} {G : List PanicEntry -> World -> Prop}
def StepS(P:Program)(ops:Array Oper)(Q:Exit->Act->World->Prop)(G:List PanicEntry->World->Prop)(J:World->Prop)(K:World->World->Prop)(o:Oper)(a:Act)(pre:World->Prop)(R:Value->World->Prop):Prop:=
 (Region.wanted o (yielded ops a.tmps)=true/\∀w,J w->pre w->o.wp P a w (fun a' w'=>∃v,a'=a.put o.dst v/\J w'/\K w w'/\R v w') (PanQ G Q)) \/
 (Region.wanted o (yielded ops a.tmps)=false/\∀w,J w->pre w->K w w/\R undef w)
def StepSIn(F:Fence)(n:Nat)(P:Program)(ops:Array Oper)(Q:Exit->Act->World->Prop)(G:List PanicEntry->World->Prop)(J:World->Prop)(K:World->World->Prop)(o:Oper)(a:Act)(pre:World->Prop)(R:Value->World->Prop):Prop:=
 (Region.wanted o (yielded ops a.tmps)=true/\∀w,J w->pre w->o.wpIn F n P a w (fun a' w'=>∃v,a'=a.put o.dst v/\J w'/\K w w'/\R v w') (PanQ G Q)) \/
 (Region.wanted o (yielded ops a.tmps)=false/\∀w,J w->pre w->(K w w/\R undef w)/\∀f,o.about P w a.eval=some f->F.fn f)
theorem StepS.go{o:Oper}{a b:Act}{pre:World->Prop}{R:Value->World->Prop}{i:Nat}(ho:ops[i]?=some o)(hsel:∀cs b,o.op ≠ .select cs b)(hG:Pans Q a.defers G)(h:StepS P ops Q G J K o a pre R)
 (hab:∀t∈o.looksAt ops,b.tmps[t]?=a.tmps[t]?)(hd:b.defers=a.defers)(hs:b.tmps.size=a.tmps.size){C:Act->World->Prop}{w:World}(hK:∀v w',J w'->K w w'->R v w'->C (b.put o.dst v) w')(hw:J w)(hp:pre w):wpOp P ops Q i C b w:=by
 have ha:=wanted_same hab;have hb:execOp b.eval o=execOp a.eval o:=execOp_congr o hsel (eval_same hab);unfold wpOp;simp only[ho];rcases h with⟨h1,h2⟩|⟨h1,h2⟩
 .rw[if_pos (ha.trans h1)]
  have h2:=h2 w hw hp;refine .inl ?_;unfold Oper.wp at *;rw[hb];generalize (execOp a.eval o).run P w=r at *
  cases r with
  | ok x w'=>
    cases x<;>simp only[Oper.upon]at h2|-
    case value u=>
     obtain⟨v,e,h3,h4,h5⟩:=h2;rw[put_inj e hs];exact hK _ _ h3 h4 h5
    case skip=>
     obtain⟨v,e,h3,h4,h5⟩:=h2;rw[put_inj e hs];exact hK _ _ h3 h4 h5
    case defer d=>
     obtain⟨v,e,h3,h4,h5⟩:=h2;have:=congrArg Act.defers e;simp only[put_defers']at this;exact absurd this (by simp)
    case enter f args=>
     refine Calls.mono h2 fun e w'' he=>?_
     cases e with
     | returned u=>
       simp only at he|-;obtain⟨v,e,h3,h4,h5⟩:=he;rw[put_inj e hs];exact hK _ _ h3 h4 h5
     |panicked c=>exact hG c b w'' hd he
     |outgrown=>exact PanQ.letsOut he
    case row row args=>
     refine Rows.mono h2 fun u w'' he=>?_;obtain⟨v,e,h3,h4,h5⟩:=he;rw[put_inj e hs];exact hK _ _ h3 h4 h5
  |halt x w'=>cases x<;>simp only[Oper.upon]at h2|-<;>first|exact hG _ b w' hd h2|exact h2.elim
 .rw[if_neg (by rw[ha,h1];exact Bool.false_ne_true)]
  obtain⟨h3,h4⟩:=h2 w hw hp;exact hK _ _ hw h3 h4
theorem StepSIn.go{F:Fence}{n:Nat}{o:Oper}{a b:Act}{pre:World->Prop}{R:Value->World->Prop}{i:Nat}(hnd:∀c,o.op ≠ .defer c)(ho:ops[i]?=some o)(hsel:∀cs b,o.op ≠ .select cs b)(hG:Pans Q a.defers G)(h:StepSIn F n P ops Q G J K o a pre R)
 (hab:∀t∈o.looksAt ops,b.tmps[t]?=a.tmps[t]?)(hd:b.defers=a.defers)(hs:b.tmps.size=a.tmps.size){C:Act->World->Prop}{w:World}(hK:∀v w',J w'->K w w'->R v w'->C (b.put o.dst v) w')(hw:J w)(hp:pre w):wpOpIn F n P ops Q i C b w:=by
 have hb:=wanted_same hab;have hc:execOp b.eval o=execOp a.eval o:=execOp_congr o hsel (eval_same hab);have ha:∀w,o.about P w b.eval=o.about P w a.eval:=fun w=>about_congr o w (eval_same hab);unfold wpOpIn;simp only[ho];rcases h with⟨h1,h2⟩|⟨h1,h2⟩
 .rw[if_pos (hb.trans h1)]
  have h2:=h2 w hw hp;unfold Oper.wpIn at *;rw[ha];refine⟨h2.1,?_⟩;have h2:=h2.2;rw[semAt_any hnd]at h2|-;rw[hc];generalize (execOp a.eval o).run P w=r at *
  cases r with
  | ok x w'=>
    cases x<;>simp only[Oper.uponIn]at h2|-
    case value u=>
     obtain⟨v,e,h3,h4,h5⟩:=h2;rw[put_inj e hs];exact hK _ _ h3 h4 h5
    case skip=>
     obtain⟨v,e,h3,h4,h5⟩:=h2;rw[put_inj e hs];exact hK _ _ h3 h4 h5
    case defer d=>
     obtain⟨v,e,h3,h4,h5⟩:=h2;have:=congrArg Act.defers e;simp only[put_defers']at this;exact absurd this (by simp)
    case enter f args=>
     refine⟨h2.1,CallsIn.mono h2.2 fun e w'' he=>?_⟩
     cases e with
     | returned u=>
       simp only at he|-;obtain⟨v,e,h3,h4,h5⟩:=he;rw[put_inj e hs];exact hK _ _ h3 h4 h5
     |panicked c=>exact hG c b w'' hd he
     |outgrown=>exact PanQ.letsOut he
    case row row args=>
     refine⟨h2.1,RowsIn.mono h2.2 fun u w'' he=>?_⟩;obtain⟨v,e,h3,h4,h5⟩:=he;rw[put_inj e hs];exact hK _ _ h3 h4 h5
    case round l f tmps assign body=>
     refine⟨h2.1,RoundIn.mono h2.2 fun e w'' he=>?_⟩
     cases e with
     | returned u=>
       simp only at he|-;obtain⟨v,e,h3,h4,h5⟩:=he;rw[put_inj e hs];exact hK _ _ h3 h4 h5
     |panicked c=>exact hG c b w'' hd he
     |outgrown=>exact PanQ.letsOut he
  |halt x w'=>cases x<;>simp only[Oper.uponIn]at h2|-<;>first|exact hG _ b w' hd h2|exact h2.elim
 .obtain⟨⟨h3,h4⟩,h5⟩:=h2 w hw hp
  rw[if_neg (by rw[hb,h1];exact Bool.false_ne_true),ha];exact⟨h5,hK _ _ hw h3 h4⟩
inductive Kd where
 |fix (v:Value)
 |dep (ds:List Nat) (f:List Value->Value->World->Prop)
def Kd.val:Kd->Value->Value
 |.fix v,_=>v
 |.dep _ _,x=>x
def Kd.Holds(x:Nat->Value)(i:Nat)(w:World):Kd->Prop
 |.fix _=>True
 |.dep ds f=>f (ds.map x) (x i) w
def kd(ks:List Kd)(i:Nat):Kd:=ks.getD i (.fix undef)
def vals(ks:List Kd)(x:Nat->Value)(i:Nat):Value:=(kd ks i).val (x i)
def Kd.deps:Kd->List Nat
 |.fix _=>[]
 |.dep ds _=>ds
def depsB(md:Region.Mode)(ops:Array Oper)(D:List (List Nat)):Bool:=(List.range D.length).all fun i=>(D.getD i []).all fun j=>Region.waitsFor md ops i j
def Pre(md:Region.Mode)(ops:Array Oper)(ks:List Kd)(x:Nat->Value)(i:Nat)(w:World):Prop:=
 ∀j,Region.waitsFor md ops i j=true->(kd ks j).Holds x j w
def Kd.step(P:Program)(ops:Array Oper)(Q:Exit->Act->World->Prop)(G:List PanicEntry->World->Prop)(J:World->Prop)(K:World->World->Prop)(pre:World->Prop)(x:Nat->Value)(o:Oper)(a:Act):Kd->Prop
 |.fix v=>StepS P ops Q G J K o a pre (fun u _=>u=v)
 |.dep ds f=>StepS P ops Q G J K o a pre (fun u w=>f (ds.map x) u w)
def Kd.stepIn(F:Fence)(n:Nat)(P:Program)(ops:Array Oper)(Q:Exit->Act->World->Prop)(G:List PanicEntry->World->Prop)(J:World->Prop)(K:World->World->Prop)(pre:World->Prop)(x:Nat->Value)(o:Oper)(a:Act):Kd->Prop
 |.fix v=>StepSIn F n P ops Q G J K o a pre (fun u _=>u=v)
 |.dep ds f=>StepSIn F n P ops Q G J K o a pre (fun u w=>f (ds.map x) u w)
theorem waits_ne(hok:okB md ops=true){i j:Nat}(h:Region.waitsFor md ops i j=true):j<i:=by
 obtain⟨o,ho,e,he,hb,ha⟩:=Region.waitsFor_spec h;have:=(okB_spec hok ho).1 e he hb;omega
theorem depsB_spec{D:List (List Nat)}(h:depsB md ops D=true){i:Nat}:∀j∈D.getD i [],Region.waitsFor md ops i j=true:=by
 intro j hj;by_cases hi:i<D.length
 .exact List.all_eq_true.1 (List.all_eq_true.1 h i (List.mem_range.2 hi)) j hj
 .rw[List.getD_eq_getElem?_getD,List.getElem?_eq_none (by omega)]at hj
  cases hj
theorem map_congr'{x y:Nat->Value}{l:List Nat}(h:∀j∈l,x j=y j):l.map x=l.map y:=List.map_congr_left h
section
variable {ks : List Kd} {D : List (List Nat)} (hD : D = ks.map Kd.deps)
include hD
theorem deps_kd(i:Nat):D.getD i []=(kd ks i).deps:=by
 subst hD;unfold kd;simp only[List.getD_eq_getElem?_getD,List.getElem?_map];cases ks[i]?<;>rfl
theorem holds_other(hok:okB md ops=true)(hdep:depsB md ops D=true){x:Nat->Value}{i j:Nat}{v:Value}{w:World}(hij:i≠j)(hw:Region.waitsFor md ops j i=false)(h:(kd ks j).Holds x j w):(kd ks j).Holds (fun k=>if k=i then v else x k) j w:=by
 have hd:=deps_kd hD j
 cases hk:kd ks j with
 |fix u=>trivial
 | dep ds f=>
   rw[hk]at h hd;simp only[Kd.Holds]at h|-;rw[if_neg (fun e=>hij e.symm)]
   have:ds.map (fun k=>if k=i then v else x k)=ds.map x:=map_congr' fun k hk'=>by
    rw[if_neg];rintro rfl;have:=depsB_spec hdep (i:=j) k (by rw[hd];exact hk');rw[hw]at this;cases this
   rw[this];exact h
theorem holds_new(hok:okB md ops=true)(hdep:depsB md ops D=true){x:Nat->Value}{i:Nat}{v:Value}{w:World}{ds:List Nat}{f:List Value->Value->World->Prop}(hk:kd ks i=.dep ds f)(h:f (ds.map x) v w):(kd ks i).Holds (fun k=>if k=i then v else x k) i w:=by
 have hd:=deps_kd hD i;rw[hk]at hd|-;simp only[Kd.Holds,if_pos]
 have:ds.map (fun k=>if k=i then v else x k)=ds.map x:=map_congr' fun k hk'=>by
  rw[if_neg];rintro rfl;have:=waits_ne hok (depsB_spec hdep (i:=k) k (by rw[hd];exact hk'));omega
 rw[this];exact h
end
theorem Kd.stable{K:World->World->Prop}{k:Kd}(hst:∀ds f,k=.dep ds f->∀l v w w',K w w'->f l v w->f l v w'){x:Nat->Value}{i:Nat}{w w':World}(hk:K w w')(h:k.Holds x i w):k.Holds x i w':=by
 cases k with
 |fix v=>trivial
 |dep ds f=>exact hst ds f rfl _ _ _ _ hk h
theorem wpAny_M(hok:okB md ops=true)(hsel:noSelect ops=true){m:Nat}(hm:m<ops.size)(hsk:Region.sinkB md ops m=true)(hc:Region.chainB md ops m=true)(ks:List Kd){D:List (List Nat)}(hD:D=ks.map Kd.deps)(hdep:depsB md ops D=true)(a0:Act)(hG:Pans Q a0.defers G)
 (hst:∀i ds f,kd ks i=.dep ds f->∀l v w w',K w w'->f l v w->f l v w')
 (hstep:∀x i o,i<m->ops[i]?=some o->(kd ks i).step P ops Q G J K (Pre md ops ks x i) x o (actL ops (vals ks x) a0 (firsts ops.size i) ops.size))
 (hend:∀x w,J w->(∀i,i<m->(kd ks i).Holds x i w)->wpOps P ops Q (List.range' m (ops.size-m)) (actL ops (vals ks x) a0 (firsts ops.size m) ops.size) w) :
 ∀(fuel:Nat) (listed:Array Bool) (x:Nat->Value) (w:World),HeadInv md ops m listed->todo ops listed<=fuel->J w->(∀i,i<m->listed.getD i false=true->(kd ks i).Holds x i w)->wpAny P md ops Q fuel listed (actL ops (vals ks x) a0 listed ops.size) w:=by
 intro fuel
 induction fuel with
 | zero=>
   intro listed x w inv hf hw _;have:=todo_pos (listed:=listed) hm (getD_both (inv.tail m (Nat.le_refl _) hm));omega
 | succ fuel ih=>
   intro listed x w inv hf hw hh;by_cases hall:∀i,i<m->listed.getD i false=true
   .have hl:=head_done inv (Nat.le_of_lt hm) hall
    have hB:ops.size-m<=fuel+1:=by
     refine Nat.le_trans ?_ hf;rw[hl];unfold todo;have:List.range' m (ops.size-m)=(List.range ops.size).drop m:=by rw[List.range_eq_range',List.drop_range'];simp
     have h2:((List.range ops.size).drop m).filter (fun j=>!(firsts ops.size m).getD j false)=(List.range ops.size).drop m:=by
      rw[List.filter_eq_self];intro j hj;rw[<-this,List.mem_range'_1]at hj;rw[firsts_getD _ _ _ _ (by omega)];simp;omega
     have h3:((List.range ops.size).drop m).length=ops.size-m:=by simp
     rw[<-h3]
     conv=>lhs;rw[<-h2]
     exact(List.Sublist.filter _ (List.drop_sublist _ _)).length_le
    rw[hl];exact tail_run hok hc (ops.size-m) m (by omega) (Nat.le_refl _) (fuel+1) _ w hB (hend x w hw fun i hi=>hh i hi (hall i hi))
   .have⟨i0,h0,hy⟩:∃i,i<m/\listed.getD i false=false:=by
     refine Classical.byContradiction fun hno=>hall fun i hi=>?_
     cases hx:listed.getD i false with
     |true=>rfl
     |false=>exact absurd ⟨i,hi,hx⟩ hno
    have hn:=tail_waits hsk hc hm inv (m-i0) i0 rfl h0 (getD_in (by rw[inv.size];omega) hy);refine⟨fun hr=>?_,fun i hi=>?_⟩
    .have:=all_listed hok inv.size hr i0 (by omega)
     rw[hy]at this;cases this
    .obtain⟨hA,o,ho,hd⟩:=mem_ready.1 hi
     have hp:=getD_both hA;have hC:=(Array.getElem?_eq_some_iff.1 ho).1;have ht:i<m:=Nat.lt_of_not_le fun h=>hn i h hi
     have hE:∀j,listed.getD j false=true->Region.waitsFor md ops j i=false:=by
      intro j hj
      cases hx:Region.waitsFor md ops j i with
      |false=>rfl
      | true=>
        obtain⟨oj,hH,e,he,hb,hv⟩:=Region.waitsFor_spec hx;have:=inv.closed j oj hH hj e he hb;rw[hv,hp]at this;cases this
     have hg:Pre md ops ks x i w:=by
      intro j hj;obtain⟨oi,hF,e,he,hb,hv⟩:=Region.waitsFor_spec hj;obtain rfl:=Option.some.inj (hF.symm.trans ho);have h1:=hd e he hb;rw[hv]at h1;exact hh j (Nat.lt_trans (waits_ne hok hj) ht) h1
     have ha:=sees hok (vals ks x) a0 listed ⟨inv.size,inv.closed⟩ ho hi;have hz:=todo_set hC inv.size hp;have hs:=hstep x i o ht ho
     cases hk:kd ks i with
     | fix v=>
       rw[hk]at hs;refine StepS.go ho (noSelect_spec hsel ho) (by rw[actL_defers];exact hG) hs ha (by rw[actL_defers,actL_defers]) (by rw[actL_size,actL_size]) (fun u w' hw' hkw hu=>?_) hw hg;subst hu
       have:(actL ops (vals ks x) a0 listed ops.size).put o.dst u=actL ops (vals ks x) a0 (listed.setIfInBounds i true) ops.size:=by
        rw[actL_set hok (vals ks x) a0 listed inv.size ho hp];simp[vals,hk,Kd.val]
       rw[this];refine ih _ x w' (inv.set hi ht) (by omega) hw' fun j hj hl=>?_;by_cases hij:i=j
       .subst hij;rw[hk];trivial
       .rw[getD_set_ne false hij]at hl
        exact Kd.stable (fun ds f e=>hst j ds f e) hkw (hh j hj hl)
     | dep ds f=>
       rw[hk]at hs;refine StepS.go ho (noSelect_spec hsel ho) (by rw[actL_defers];exact hG) hs ha (by rw[actL_defers,actL_defers]) (by rw[actL_size,actL_size]) (fun u w' hw' hkw hu=>?_) hw hg
       have hq:∀j,j≠i->vals ks x j=vals ks (fun k=>if k=i then u else x k) j:=by
        intro j hj;simp only[vals];rw[if_neg hj]
       have:(actL ops (vals ks x) a0 listed ops.size).put o.dst u=actL ops (vals ks (fun k=>if k=i then u else x k)) a0 (listed.setIfInBounds i true) ops.size:=by
        rw[actL_set hok _ a0 listed inv.size ho hp];rw[actL_congr ops.size fun j hj hl=>hq j (fun e=>by subst e;rw[hp]at hl;cases hl)];simp[vals,hk,Kd.val]
       rw[this];refine ih _ _ w' (inv.set hi ht) (by omega) hw' fun j hj hl=>?_;by_cases hij:i=j
       .subst hij
        exact holds_new hD hok hdep hk hu
       .rw[getD_set_ne false hij]at hl
        exact holds_other hD hok hdep hij (hE j hl) (Kd.stable (fun ds f e=>hst j ds f e) hkw (hh j hj hl))
theorem wpAnyIn_M{F:Fence}{n:Nat}(hnd:noDefer ops=true)(hok:okB md ops=true)(hsel:noSelect ops=true){m:Nat}(hm:m<ops.size)(hsk:Region.sinkB md ops m=true)(hc:Region.chainB md ops m=true)(ks:List Kd){D:List (List Nat)}(hD:D=ks.map Kd.deps)(hdep:depsB md ops D=true)(a0:Act)(hG:Pans Q a0.defers G)
 (hst:∀i ds f,kd ks i=.dep ds f->∀l v w w',K w w'->f l v w->f l v w')
 (hstep:∀x i o,i<m->ops[i]?=some o->(kd ks i).stepIn F n P ops Q G J K (Pre md ops ks x i) x o (actL ops (vals ks x) a0 (firsts ops.size i) ops.size))
 (hend:∀x w,J w->(∀i,i<m->(kd ks i).Holds x i w)->wpOpsIn F n P ops Q (List.range' m (ops.size-m)) (actL ops (vals ks x) a0 (firsts ops.size m) ops.size) w) :
 ∀(fuel:Nat) (listed:Array Bool) (x:Nat->Value) (w:World),HeadInv md ops m listed->todo ops listed<=fuel->J w->(∀i,i<m->listed.getD i false=true->(kd ks i).Holds x i w)->wpAnyIn F n P md ops Q fuel listed (actL ops (vals ks x) a0 listed ops.size) w:=by
 intro fuel
 induction fuel with
 | zero=>
   intro listed x w inv hf hw _;have:=todo_pos (listed:=listed) hm (getD_both (inv.tail m (Nat.le_refl _) hm));omega
 | succ fuel ih=>
   intro listed x w inv hf hw hh;by_cases hall:∀i,i<m->listed.getD i false=true
   .have hl:=head_done inv (Nat.le_of_lt hm) hall
    have hB:ops.size-m<=fuel+1:=by
     refine Nat.le_trans ?_ hf;rw[hl];unfold todo;have:List.range' m (ops.size-m)=(List.range ops.size).drop m:=by rw[List.range_eq_range',List.drop_range'];simp
     have h2:((List.range ops.size).drop m).filter (fun j=>!(firsts ops.size m).getD j false)=(List.range ops.size).drop m:=by
      rw[List.filter_eq_self];intro j hj;rw[<-this,List.mem_range'_1]at hj;rw[firsts_getD _ _ _ _ (by omega)];simp;omega
     have h3:((List.range ops.size).drop m).length=ops.size-m:=by simp
     rw[<-h3]
     conv=>lhs;rw[<-h2]
     exact(List.Sublist.filter _ (List.drop_sublist _ _)).length_le
    rw[hl];exact tail_runIn hok hc (ops.size-m) m (by omega) (Nat.le_refl _) (fuel+1) _ w hB (hend x w hw fun i hi=>hh i hi (hall i hi))
   .have⟨i0,h0,hy⟩:∃i,i<m/\listed.getD i false=false:=by
     refine Classical.byContradiction fun hno=>hall fun i hi=>?_
     cases hx:listed.getD i false with
     |true=>rfl
     |false=>exact absurd ⟨i,hi,hx⟩ hno
    have hn:=tail_waits hsk hc hm inv (m-i0) i0 rfl h0 (getD_in (by rw[inv.size];omega) hy);refine⟨fun hr=>?_,fun i hi=>?_⟩
    .have:=all_listed hok inv.size hr i0 (by omega)
     rw[hy]at this;cases this
    .obtain⟨hA,o,ho,hd⟩:=mem_ready.1 hi
     have hp:=getD_both hA;have hC:=(Array.getElem?_eq_some_iff.1 ho).1;have ht:i<m:=Nat.lt_of_not_le fun h=>hn i h hi
     have hE:∀j,listed.getD j false=true->Region.waitsFor md ops j i=false:=by
      intro j hj
      cases hx:Region.waitsFor md ops j i with
      |false=>rfl
      | true=>
        obtain⟨oj,hH,e,he,hb,hv⟩:=Region.waitsFor_spec hx;have:=inv.closed j oj hH hj e he hb;rw[hv,hp]at this;cases this
     have hg:Pre md ops ks x i w:=by
      intro j hj;obtain⟨oi,hF,e,he,hb,hv⟩:=Region.waitsFor_spec hj;obtain rfl:=Option.some.inj (hF.symm.trans ho);have h1:=hd e he hb;rw[hv]at h1;exact hh j (Nat.lt_trans (waits_ne hok hj) ht) h1
     have ha:=sees hok (vals ks x) a0 listed ⟨inv.size,inv.closed⟩ ho hi;have hz:=todo_set hC inv.size hp;have hs:=hstep x i o ht ho
     cases hk:kd ks i with
     | fix v=>
       rw[hk]at hs;refine StepSIn.go (noDefer_spec hnd ho) ho (noSelect_spec hsel ho) (by rw[actL_defers];exact hG) hs ha (by rw[actL_defers,actL_defers]) (by rw[actL_size,actL_size]) (fun u w' hw' hkw hu=>?_) hw hg;subst hu
       have:(actL ops (vals ks x) a0 listed ops.size).put o.dst u=actL ops (vals ks x) a0 (listed.setIfInBounds i true) ops.size:=by
        rw[actL_set hok (vals ks x) a0 listed inv.size ho hp];simp[vals,hk,Kd.val]
       rw[this];refine ih _ x w' (inv.set hi ht) (by omega) hw' fun j hj hl=>?_;by_cases hij:i=j
       .subst hij;rw[hk];trivial
       .rw[getD_set_ne false hij]at hl
        exact Kd.stable (fun ds f e=>hst j ds f e) hkw (hh j hj hl)
     | dep ds f=>
       rw[hk]at hs;refine StepSIn.go (noDefer_spec hnd ho) ho (noSelect_spec hsel ho) (by rw[actL_defers];exact hG) hs ha (by rw[actL_defers,actL_defers]) (by rw[actL_size,actL_size]) (fun u w' hw' hkw hu=>?_) hw hg
       have hq:∀j,j≠i->vals ks x j=vals ks (fun k=>if k=i then u else x k) j:=by
        intro j hj;simp only[vals];rw[if_neg hj]
       have:(actL ops (vals ks x) a0 listed ops.size).put o.dst u=actL ops (vals ks (fun k=>if k=i then u else x k)) a0 (listed.setIfInBounds i true) ops.size:=by
        rw[actL_set hok _ a0 listed inv.size ho hp];rw[actL_congr ops.size fun j hj hl=>hq j (fun e=>by subst e;rw[hp]at hl;cases hl)];simp[vals,hk,Kd.val]
       rw[this];refine ih _ _ w' (inv.set hi ht) (by omega) hw' fun j hj hl=>?_;by_cases hij:i=j
       .subst hij
        exact holds_new hD hok hdep hk hu
       .rw[getD_set_ne false hij]at hl
        exact holds_other hD hok hdep hij (hE j hl) (Kd.stable (fun ds f e=>hst j ds f e) hkw (hh j hj hl))
inductive WalkM (P:Program) (ops:Array Oper) (md:Region.Mode) (Q:Exit->Act->World->Prop) (G:List PanicEntry->World->Prop) (J:World->Prop) (K:World->World->Prop) (all:List Kd) (x:Nat->Value) (tail:Act->World->Prop):Nat->List Oper->List Kd->Act->Prop
 |nil {i:Nat}{a:Act}(h:∀w,J w->(∀j,(kd all j).Holds x j w)->tail a w):WalkM P ops md Q G J K all x tail i [] [] a
 |fix {i:Nat}{o:Oper}{rest:List Oper}{ks:List Kd}{a:Act}{v:Value}(h:StepS P ops Q G J K o a (Pre md ops all x i) (fun u _=>u=v)) (hr:WalkM P ops md Q G J K all x tail (i+1) rest ks (a.put o.dst v)):WalkM P ops md Q G J K all x tail i (o::rest) (.fix v::ks) a
 |dep {i:Nat}{o:Oper}{rest:List Oper}{ks:List Kd}{a:Act}{ds:List Nat}{f:List Value->Value->World->Prop}(h:StepS P ops Q G J K o a (Pre md ops all x i) (fun u w=>f (ds.map x) u w)) (hr:WalkM P ops md Q G J K all x tail (i+1) rest ks (a.put o.dst (x i))):WalkM P ops md Q G J K all x tail i (o::rest) (.dep ds f::ks) a
inductive WalkMIn (F:Fence) (n:Nat) (P:Program) (ops:Array Oper) (md:Region.Mode) (Q:Exit->Act->World->Prop) (G:List PanicEntry->World->Prop) (J:World->Prop) (K:World->World->Prop) (all:List Kd) (x:Nat->Value) (tail:Act->World->Prop):Nat->List Oper->List Kd->Act->Prop
 |nil {i:Nat}{a:Act}(h:∀w,J w->(∀j,(kd all j).Holds x j w)->tail a w):WalkMIn F n P ops md Q G J K all x tail i [] [] a
 |fix {i:Nat}{o:Oper}{rest:List Oper}{ks:List Kd}{a:Act}{v:Value}(h:StepSIn F n P ops Q G J K o a (Pre md ops all x i) (fun u _=>u=v)) (hr:WalkMIn F n P ops md Q G J K all x tail (i+1) rest ks (a.put o.dst v)):WalkMIn F n P ops md Q G J K all x tail i (o::rest) (.fix v::ks) a
 |dep {i:Nat}{o:Oper}{rest:List Oper}{ks:List Kd}{a:Act}{ds:List Nat}{f:List Value->Value->World->Prop}(h:StepSIn F n P ops Q G J K o a (Pre md ops all x i) (fun u w=>f (ds.map x) u w)) (hr:WalkMIn F n P ops md Q G J K all x tail (i+1) rest ks (a.put o.dst (x i))):WalkMIn F n P ops md Q G J K all x tail i (o::rest) (.dep ds f::ks) a
theorem WalkM.steps{all:List Kd}{x:Nat->Value}{tail:Act->World->Prop}:∀{i:Nat}{l:List Oper}{ks:List Kd}{a:Act},WalkM P ops md Q G J K all x tail i l ks a->ks.length=l.length /\
 (∀k o,l[k]?=some o->(kd ks k).step P ops Q G J K (Pre md ops all x (i+k)) x o (((l.take k).zip ((List.range l.length).map fun j=>vals ks (fun j=>x (i+j)) j)).foldl (fun a p=>a.put p.1.dst p.2) a)) /\
 (∀w,J w->(∀j,(kd all j).Holds x j w)->tail ((l.zip ((List.range l.length).map fun j=>vals ks (fun j=>x (i+j)) j)).foldl (fun a p=>a.put p.1.dst p.2) a) w):=by
 intro i l ks a h
 induction h with
 |nil h=>exact⟨rfl,fun k o ho=>by simp at ho,h⟩
 | @fix i o rest ks a v hs _ ih=>
   obtain⟨h1,h2,h3⟩:=ih
   have e:(List.range (rest.length+1)).map (fun j=>vals (Kd.fix v::ks) (fun j=>x (i+j)) j)=v::(List.range rest.length).map fun j=>vals ks (fun j=>x (i+1+j)) j:=by
    rw[List.range_succ_eq_map];simp only[List.map_cons,List.map_map];refine congrArg (List.cons _) (List.map_congr_left fun j _=>?_);simp only[Function.comp,vals,kd,List.getD_cons_succ];rw[show i+(j+1)=i+1+j by omega]
   refine⟨by simp[h1],fun k o' ho=>?_,?_⟩
   .simp only[List.length_cons,e]
    cases k with
    | zero=>
      simp only[List.getElem?_cons_zero,Option.some.injEq]at ho;subst ho;exact hs
    | succ k=>
      have:=h2 k o' (by simpa using ho);rw[show i+1+k=i+(k+1) by omega]at this;simpa[kd]using this
   .simp only[List.length_cons,e]
    exact h3
 | @dep i o rest ks a ds f hs _ ih=>
   obtain⟨h1,h2,h3⟩:=ih
   have e:(List.range (rest.length+1)).map (fun j=>vals (Kd.dep ds f::ks) (fun j=>x (i+j)) j)=x i::(List.range rest.length).map fun j=>vals ks (fun j=>x (i+1+j)) j:=by
    rw[List.range_succ_eq_map];simp only[List.map_cons,List.map_map];refine congrArg (List.cons _) (List.map_congr_left fun j _=>?_);simp only[Function.comp,vals,kd,List.getD_cons_succ];rw[show i+(j+1)=i+1+j by omega]
   refine⟨by simp[h1],fun k o' ho=>?_,?_⟩
   .simp only[List.length_cons,e]
    cases k with
    | zero=>
      simp only[List.getElem?_cons_zero,Option.some.injEq]at ho;subst ho;exact hs
    | succ k=>
      have:=h2 k o' (by simpa using ho);rw[show i+1+k=i+(k+1) by omega]at this;simpa[kd]using this
   .simp only[List.length_cons,e]
    exact h3
theorem WalkMIn.steps{F:Fence}{n:Nat}{all:List Kd}{x:Nat->Value}{tail:Act->World->Prop}:∀{i:Nat}{l:List Oper}{ks:List Kd}{a:Act},WalkMIn F n P ops md Q G J K all x tail i l ks a->ks.length=l.length /\
 (∀k o,l[k]?=some o->(kd ks k).stepIn F n P ops Q G J K (Pre md ops all x (i+k)) x o (((l.take k).zip ((List.range l.length).map fun j=>vals ks (fun j=>x (i+j)) j)).foldl (fun a p=>a.put p.1.dst p.2) a)) /\
 (∀w,J w->(∀j,(kd all j).Holds x j w)->tail ((l.zip ((List.range l.length).map fun j=>vals ks (fun j=>x (i+j)) j)).foldl (fun a p=>a.put p.1.dst p.2) a) w):=by
 intro i l ks a h
 induction h with
 |nil h=>exact⟨rfl,fun k o ho=>by simp at ho,h⟩
 | @fix i o rest ks a v hs _ ih=>
   obtain⟨h1,h2,h3⟩:=ih
   have e:(List.range (rest.length+1)).map (fun j=>vals (Kd.fix v::ks) (fun j=>x (i+j)) j)=v::(List.range rest.length).map fun j=>vals ks (fun j=>x (i+1+j)) j:=by
    rw[List.range_succ_eq_map];simp only[List.map_cons,List.map_map];refine congrArg (List.cons _) (List.map_congr_left fun j _=>?_);simp only[Function.comp,vals,kd,List.getD_cons_succ];rw[show i+(j+1)=i+1+j by omega]
   refine⟨by simp[h1],fun k o' ho=>?_,?_⟩
   .simp only[List.length_cons,e]
    cases k with
    | zero=>
      simp only[List.getElem?_cons_zero,Option.some.injEq]at ho;subst ho;exact hs
    | succ k=>
      have:=h2 k o' (by simpa using ho);rw[show i+1+k=i+(k+1) by omega]at this;simpa[kd]using this
   .simp only[List.length_cons,e]
    exact h3
 | @dep i o rest ks a ds f hs _ ih=>
   obtain⟨h1,h2,h3⟩:=ih
   have e:(List.range (rest.length+1)).map (fun j=>vals (Kd.dep ds f::ks) (fun j=>x (i+j)) j)=x i::(List.range rest.length).map fun j=>vals ks (fun j=>x (i+1+j)) j:=by
    rw[List.range_succ_eq_map];simp only[List.map_cons,List.map_map];refine congrArg (List.cons _) (List.map_congr_left fun j _=>?_);simp only[Function.comp,vals,kd,List.getD_cons_succ];rw[show i+(j+1)=i+1+j by omega]
   refine⟨by simp[h1],fun k o' ho=>?_,?_⟩
   .simp only[List.length_cons,e]
    cases k with
    | zero=>
      simp only[List.getElem?_cons_zero,Option.some.injEq]at ho;subst ho;exact hs
    | succ k=>
      have:=h2 k o' (by simpa using ho);rw[show i+1+k=i+(k+1) by omega]at this;simpa[kd]using this
   .simp only[List.length_cons,e]
    exact h3
theorem vals_zero(ks:List Kd)(x:Nat->Value)(j:Nat):vals ks (fun j=>x (0+j)) j=vals ks x j:=by simp[vals]
theorem region_M{id:Nat}{l:List Oper}(m:Nat){a:Act}{w:World}(hm:P.follows .mixedOrders=true)(hok:okB .any l.toArray=true)(hsel:noSelect l.toArray=true)
 (ht:decide (m<l.length)=true)(hsk:Region.sinkB .any l.toArray m=true)(hc:Region.chainB .any l.toArray m=true)(G:List PanicEntry->World->Prop)(hG:Pans Q a.defers G)(J:World->Prop)(K:World->World->Prop)(h0:J w.drew)
 (ks:List Kd)(D:List (List Nat))(hD:D=ks.map Kd.deps)(hdep:depsB .any l.toArray D=true)
 (hst:∀i ds f,kd ks i=.dep ds f->∀l v w w',K w w'->f l v w->f l v w')
 (h:∀x,WalkM P l.toArray .any Q G J K ks x (fun a w=>wpList P l.toArray Q (l.drop m) a w) 0 (l.take m) ks a):(Code.region id l.toArray true).wp P Q a w:=by
 have ht:=of_decide_eq_true ht;refine wp_region_any hm ?_
 have hb:ks.length=m:=by
  obtain⟨h1,_⟩:=(h fun _=>undef).steps;rw[h1];simp;omega
 have ha:∀(x:Nat->Value) k,k<=m->pre l.toArray (vals ks x) a k=(((l.take m).take k).zip ((List.range (l.take m).length).map fun j=>vals ks (fun j=>x (0+j)) j)).foldl (fun a p=>a.put p.1.dst p.2) a:=by
  intro x k hk;have hp:=pre_fold (l.take m) ((List.range (l.take m).length).map fun j=>vals ks x j) (by simp) a k (by simp;omega);simp only[vals_zero];rw[<-hp]
  have e2:∀j,j<m->((List.range (l.take m).length).map fun j=>vals ks x j).getD j undef=vals ks x j:=by
   intro j hj;rw[List.getD_eq_getElem?_getD,List.getElem?_map,List.getElem?_range (by simp;omega)];rfl
  have e3:∀k,k<=m->pre l.toArray (vals ks x) a k=pre (l.take m).toArray (fun i=>((List.range (l.take m).length).map fun j=>vals ks x j).getD i undef) a k:=by
   intro k
   induction k with
   |zero=>intro _;rfl
   | succ k ih=>
     intro hk;simp only[pre];rw[ih (by omega),e2 k (by omega)]
     have:l.toArray[k]?=(l.take m).toArray[k]?:=by
      simp only[List.getElem?_toArray];rw[List.getElem?_take,if_pos (by omega)]
     rw[this]
  exact e3 k hk
 have key:=wpAny_M (P:=P) (Q:=Q) (G:=G) (J:=J) (K:=K) hok hsel (m:=m) (by simp;omega) hsk hc ks hD hdep a hG hst (fun x i o hi ho=>by
  obtain⟨_,h2,_⟩:=(h x).steps;rw[actL_firsts _ _ _ _ (Nat.le_refl _),Nat.min_eq_left (by simp;omega),ha x i (by omega)];have:=h2 i o (by rw[List.getElem?_take,if_pos hi];simpa using ho)
  simpa using this) (fun x w hw hh=>by
  obtain⟨_,_,h3⟩:=(h x).steps
  rw[actL_firsts _ _ _ _ (Nat.le_refl _),Nat.min_eq_left (by simp;omega),ha x m (Nat.le_refl _),
   show l.toArray.size-m=(l.drop m).length from by simp,wpOps_eq_wpList (l.drop m) m (fun j=>by simp)]
  have:=h3 w hw (fun j=>by
   by_cases hj:j<m
   .exact hh j hj
   .have:kd ks j=.fix undef:=by
     unfold kd;rw[List.getD_eq_getElem?_getD,List.getElem?_eq_none (by omega)];rfl
    rw[this];trivial)
  rw[List.take_of_length_le (show(l.take m).length<=m by simp;omega)]
  exact this) l.toArray.size (Array.replicate l.toArray.size false) (fun _=>undef) w.drew ⟨by simp,(fun j oj _ hl=>by rw[getD_replicate_false]at hl;cases hl),fun j _ hj=>by simp only[Array.getD_eq_getD_getElem?];rw[Array.getElem?_replicate,if_pos hj];rfl⟩ (by
  unfold todo
  exact Nat.le_trans (List.length_filter_le _ _) (by simp)) h0 (fun i _ hl=>by rw[getD_replicate_false]at hl;cases hl)
 rw[actL_none _ _ _ _ (Nat.le_refl _)]at key;exact key
theorem regionIn_M{F:Fence}{n:Nat}{id:Nat}{l:List Oper}(m:Nat){a:Act}{w:World}(hm:P.follows .mixedOrders=true)(hok:okB .any l.toArray=true)(hsel:noSelect l.toArray=true)(hnd:noDefer l.toArray=true)
 (ht:decide (m<l.length)=true)(hsk:Region.sinkB .any l.toArray m=true)(hc:Region.chainB .any l.toArray m=true)(G:List PanicEntry->World->Prop)(hG:Pans Q a.defers G)(J:World->Prop)(K:World->World->Prop)(h0:J w.drew)
 (ks:List Kd)(D:List (List Nat))(hD:D=ks.map Kd.deps)(hdep:depsB .any l.toArray D=true)
 (hst:∀i ds f,kd ks i=.dep ds f->∀l v w w',K w w'->f l v w->f l v w')
 (h:∀x,WalkMIn F n P l.toArray .any Q G J K ks x (fun a w=>wpListIn F n P l.toArray Q (l.drop m) a w) 0 (l.take m) ks a):(Code.region id l.toArray true).wpIn F n P Q a w:=by
 have ht:=of_decide_eq_true ht;refine wpIn_region_any hm ?_
 have hb:ks.length=m:=by
  obtain⟨h1,_⟩:=(h fun _=>undef).steps;rw[h1];simp;omega
 have ha:∀(x:Nat->Value) k,k<=m->pre l.toArray (vals ks x) a k=(((l.take m).take k).zip ((List.range (l.take m).length).map fun j=>vals ks (fun j=>x (0+j)) j)).foldl (fun a p=>a.put p.1.dst p.2) a:=by
  intro x k hk;have hp:=pre_fold (l.take m) ((List.range (l.take m).length).map fun j=>vals ks x j) (by simp) a k (by simp;omega);simp only[vals_zero];rw[<-hp]
  have e2:∀j,j<m->((List.range (l.take m).length).map fun j=>vals ks x j).getD j undef=vals ks x j:=by
   intro j hj;rw[List.getD_eq_getElem?_getD,List.getElem?_map,List.getElem?_range (by simp;omega)];rfl
  have e3:∀k,k<=m->pre l.toArray (vals ks x) a k=pre (l.take m).toArray (fun i=>((List.range (l.take m).length).map fun j=>vals ks x j).getD i undef) a k:=by
   intro k
   induction k with
   |zero=>intro _;rfl
   | succ k ih=>
     intro hk;simp only[pre];rw[ih (by omega),e2 k (by omega)]
     have:l.toArray[k]?=(l.take m).toArray[k]?:=by
      simp only[List.getElem?_toArray];rw[List.getElem?_take,if_pos (by omega)]
     rw[this]
  exact e3 k hk
 have key:=wpAnyIn_M (F:=F) (n:=n) (P:=P) (Q:=Q) (G:=G) (J:=J) (K:=K) hnd hok hsel (m:=m) (by simp;omega) hsk hc ks hD hdep a hG hst (fun x i o hi ho=>by
  obtain⟨_,h2,_⟩:=(h x).steps;rw[actL_firsts _ _ _ _ (Nat.le_refl _),Nat.min_eq_left (by simp;omega),ha x i (by omega)];have:=h2 i o (by rw[List.getElem?_take,if_pos hi];simpa using ho)
  simpa using this) (fun x w hw hh=>by
  obtain⟨_,_,h3⟩:=(h x).steps
  rw[actL_firsts _ _ _ _ (Nat.le_refl _),Nat.min_eq_left (by simp;omega),ha x m (Nat.le_refl _),
   show l.toArray.size-m=(l.drop m).length from by simp,wpOpsIn_eq_wpListIn (l.drop m) m (fun j=>by simp)]
  have:=h3 w hw (fun j=>by
   by_cases hj:j<m
   .exact hh j hj
   .have:kd ks j=.fix undef:=by
     unfold kd;rw[List.getD_eq_getElem?_getD,List.getElem?_eq_none (by omega)];rfl
    rw[this];trivial)
  rw[List.take_of_length_le (show(l.take m).length<=m by simp;omega)]
  exact this) l.toArray.size (Array.replicate l.toArray.size false) (fun _=>undef) w.drew ⟨by simp,(fun j oj _ hl=>by rw[getD_replicate_false]at hl;cases hl),fun j _ hj=>by simp only[Array.getD_eq_getD_getElem?];rw[Array.getElem?_replicate,if_pos hj];rfl⟩ (by
  unfold todo
  exact Nat.le_trans (List.length_filter_le _ _) (by simp)) h0 (fun i _ hl=>by rw[getD_replicate_false]at hl;cases hl)
 rw[actL_none _ _ _ _ (Nat.le_refl _)]at key;exact key
def Kd.St(K:World->World->Prop):Kd->Prop
 |.fix _=>True
 |.dep _ f=>∀l v w w',K w w'->f l v w->f l v w'
def Sts(K:World->World->Prop):List Kd->Prop
 | []=>True
 |k::ks=>k.St K/\Sts K ks
theorem sts_kd{K:World->World->Prop}:∀{ks:List Kd},Sts K ks->∀i ds f,kd ks i=.dep ds f->∀l v w w',K w w'->f l v w->f l v w'
 | [],_,i,ds,f,h=>by simp[kd]at h
 | k::ks,hs,0,ds,f,h=>by
   have e:k=.dep ds f:=h;have:=hs.1;rw[e]at this;exact this
 |k::ks,hs,i+1,ds,f,h=>sts_kd hs.2 i ds f (by simpa[kd]using h)
theorem StepS.pure{o:Oper}{a:Act}{pre:World->Prop}{R:Value->World->Prop}(v:Value)(hw:Region.wanted o (yielded ops a.tmps)=true)(hK:∀w,K w w)(hr:∀w,J w->pre w->(execOp a.eval o).run P w=.ok (.value v) w/\R v w):StepS P ops Q G J K o a pre R:=
 .inl ⟨hw,fun w h hp=>by unfold Oper.wp;rw[(hr w h hp).1];exact⟨v,rfl,h,hK w,(hr w h hp).2⟩⟩
theorem StepS.known{o:Oper}{a:Act}{pre:World->Prop}{v:Value}(hw:Region.wanted o (yielded ops a.tmps)=true)(hK:∀w,K w w)(hr:∀w,J w->pre w->(execOp a.eval o).run P w=.ok (.value v) w):StepS P ops Q G J K o a pre (fun u _=>u=v):=
 StepS.pure v hw hK fun w h1 h2=>⟨hr w h1 h2,rfl⟩
theorem StepSIn.known{F:Fence}{n:Nat}{o:Oper}{a:Act}{pre:World->Prop}{v:Value}(hnd:∀c,o.op ≠ .defer c)(hw:Region.wanted o (yielded ops a.tmps)=true)(hab:∀w,o.about P w a.eval=none)(hK:∀w,K w w)(hr:∀w,J w->pre w->(execOp a.eval o).run P w=.ok (.value v) w):StepSIn F n P ops Q G J K o a pre (fun u _=>u=v):=
 .inl ⟨hw,fun w h hp=>⟨(fun f hf=>by rw[hab w]at hf;cases hf),by rw[semAt_any hnd,hr w h hp];exact⟨v,rfl,h,hK w,rfl⟩⟩⟩
theorem StepS.skip{o:Oper}{a:Act}{pre:World->Prop}{R:Value->World->Prop}(hw:Region.wanted o (yielded ops a.tmps)=false)(hK:∀w,K w w)(hr:∀w,J w->pre w->R undef w):StepS P ops Q G J K o a pre R:=.inr ⟨hw,fun w h hp=>⟨hK w,hr w h hp⟩⟩
theorem StepS.runs{o:Oper}{a:Act}{pre:World->Prop}{R:Value->World->Prop}(hw:Region.wanted o (yielded ops a.tmps)=true)(hr:∀w,J w->pre w->∃v w',(execOp a.eval o).run P w=.ok (.value v) w'/\J w'/\K w w'/\R v w'):StepS P ops Q G J K o a pre R:=
 .inl ⟨hw,fun w h hp=>by
  obtain⟨v,w',h1,h2,h3,h4⟩:=hr w h hp
  unfold Oper.wp;rw[h1];exact⟨v,rfl,h2,h3,h4⟩⟩
theorem StepS.call{o:Oper}{a:Act}{pre:World->Prop}{R:Value->World->Prop}{f:FuncId}{args:Array Value}(hw:Region.wanted o (yielded ops a.tmps)=true)(hr:∀w,J w->pre w->(execOp a.eval o).run P w=.ok (.enter f args) w)
 (hc:∀w,J w->pre w->Calls P f args w fun e w'=>(∃v,e=.returned v/\J w'/\K w w'/\R v w')\/(∃c,e=.panicked c/\G c w')):StepS P ops Q G J K o a pre R:=
 .inl ⟨hw,fun w h hp=>by
  unfold Oper.wp;rw[hr w h hp,Oper.upon_enter];refine(hc w h hp).mono fun e w' he=>?_;rcases he with⟨v,rfl,h1,h2,h3⟩|⟨c,rfl,h1⟩
  .exact⟨v,rfl,h1,h2,h3⟩
  .exact h1⟩
theorem StepS.call'{o:Oper}{a:Act}{pre:World->Prop}{R:Value->World->Prop}{f:FuncId}{args:Array Value}(hw:Region.wanted o (yielded ops a.tmps)=true)(hr:∀w,J w->pre w->(execOp a.eval o).run P w=.ok (.enter f args) w)
 (hc:∀w,J w->pre w->Calls P f args w fun e w'=>∃v,e=.returned v/\J w'/\K w w'/\R v w'):StepS P ops Q G J K o a pre R:=
 StepS.call hw hr fun w h hp=>(hc w h hp).mono fun _ _ he=>.inl he
theorem StepSIn.pure{F:Fence}{n:Nat}{o:Oper}{a:Act}{pre:World->Prop}{R:Value->World->Prop}(hnd:∀c,o.op ≠ .defer c)(v:Value)(hw:Region.wanted o (yielded ops a.tmps)=true)(hab:∀w,o.about P w a.eval=none)(hK:∀w,K w w)(hr:∀w,J w->pre w->(execOp a.eval o).run P w=.ok (.value v) w/\R v w):StepSIn F n P ops Q G J K o a pre R:=
 .inl ⟨hw,fun w h hp=>⟨(fun f hf=>by rw[hab w]at hf;cases hf),by rw[semAt_any hnd,(hr w h hp).1];exact⟨v,rfl,h,hK w,(hr w h hp).2⟩⟩⟩
theorem StepSIn.skip{F:Fence}{n:Nat}{o:Oper}{a:Act}{pre:World->Prop}{R:Value->World->Prop}(hw:Region.wanted o (yielded ops a.tmps)=false)(hF:∀f,F.fn f)(hK:∀w,K w w)(hr:∀w,J w->pre w->R undef w):StepSIn F n P ops Q G J K o a pre R:=.inr ⟨hw,fun w h hp=>⟨⟨hK w,hr w h hp⟩,fun f _=>hF f⟩⟩
theorem StepSIn.runs{F:Fence}{n:Nat}{o:Oper}{a:Act}{pre:World->Prop}{R:Value->World->Prop}(hnd:∀c,o.op ≠ .defer c)(hw:Region.wanted o (yielded ops a.tmps)=true)(hab:∀w,o.about P w a.eval=none)(hr:∀w,J w->pre w->∃v w',(execOp a.eval o).run P w=.ok (.value v) w'/\J w'/\K w w'/\R v w'):StepSIn F n P ops Q G J K o a pre R:=
 .inl ⟨hw,fun w h hp=>⟨(fun f hf=>by rw[hab w]at hf;cases hf),by
  obtain⟨v,w',h1,h2,h3,h4⟩:=hr w h hp
  rw[semAt_any hnd,h1];exact⟨v,rfl,h2,h3,h4⟩⟩⟩
theorem StepSIn.call{F:Fence}{n:Nat}(hF:∀f,F.fn f)(hd:F.depth=none){o:Oper}{a:Act}{pre:World->Prop}{R:Value->World->Prop}{f:FuncId}{args:Array Value}(hnd:∀c,o.op ≠ .defer c)(hw:Region.wanted o (yielded ops a.tmps)=true)
 (hr:∀w,J w->pre w->(execOp a.eval o).run P w=.ok (.enter f args) w)(hc:∀w,J w->pre w->CallsIn F (n-1) P f args w fun e w'=>∃v,e=.returned v/\J w'/\K w w'/\R v w'):StepSIn F n P ops Q G J K o a pre R:=
 .inl ⟨hw,fun w h hp=>⟨fun f _=>hF f,by
  rw[semAt_any hnd,hr w h hp,Oper.uponIn_enter]
  exact⟨(fun h=>by rw[hd]at h;cases h),(hc w h hp).mono fun e w' ⟨v,he,h1,h2,h3⟩=>by subst he;exact⟨v,rfl,h1,h2,h3⟩⟩⟩⟩
end
end Go.Proofs.YtcdkdiedphhdhaaGreatDoor.N
