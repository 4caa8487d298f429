/- Part of a proof. -/
import Derived.Test.YtcdkdiedphhdhaaGreatDoorK08
import Derived.RangeFuncNested
import Derived.RangeFuncBound
import Derived.RangeFuncCalls
import Derived.RangeFuncLeaves
set_option maxRecDepth 100000
set_option maxHeartbeats 8000000
set_option linter.unusedVariables false
set_option linter.unusedSimpArgs false
namespace Go.Proofs.YtcdkdiedphhdhaaGreatDoor
section
open Go Go.RowKit
structure Turns (M:Nat->Prop) (X Y:World):Prop where
 os:Y.os=X.os
 tape:Y.tape=X.tape
 output:Y.output=X.output
 size:X.heap.size<=Y.heap.size
 block:∀k,k<X.heap.size->¬M k->Y.heap[k]?=X.heap[k]?
theorem Turns.refl(M:Nat->Prop)(X:World):Turns M X X:=⟨rfl,rfl,rfl,nlr,fun _ _ _=>rfl⟩
theorem Turns.trans{M:Nat->Prop}{X Y Z:World}(h:Turns M X Y)(k:Turns M Y Z):Turns M X Z:=
 ⟨k.os.trans h.os,k.tape.trans h.tape,k.output.trans h.output,Nat.le_trans h.size k.size,fun i hi hm=>(k.block i (Nat.lt_of_lt_of_le hi h.size) hm).trans (h.block i hi hm)⟩
theorem Turns.mono{M M':Nat->Prop}{X Y:World}(h:Turns M X Y)(hm:∀k,k<X.heap.size->M k->M' k):Turns M' X Y:=
 ⟨h.os,h.tape,h.output,h.size,fun k hk hn=>h.block k hk fun e=>hn (hm k hk e)⟩
theorem Turns.alloc(M:Nat->Prop)(X:World)(o:Obj):Turns M X (X.alloc o):=⟨rfl,rfl,rfl,by simp,fun k hk _=>Below.heap_alloc _ _ _ hk⟩
theorem Turns.setCell{M:Nat->Prop}{X:World}{a:Addr}(h:M a.block)(u:Value):Turns M X (X.setCell a u):=
 ⟨rfl,rfl,rfl,by simp[World.setCell],fun k _ hn=>Below.heap_setCell _ _ _ _ (fun e=>hn (e▸h))⟩
theorem Turns.putObj{M:Nat->Prop}{X:World}{l:Nat}(h:M l)(o:Obj):Turns M X (X.putObj l o):=
 ⟨rfl,rfl,rfl,by simp,fun k _ hn=>World.putObj_heap_other (fun e=>hn (e▸h))⟩
theorem Turns.drew(M:Nat->Prop)(X:World):Turns M X X.drew:=⟨rfl,rfl,rfl,nlr,fun _ _ _=>rfl⟩
theorem Turns.below{M:Nat->Prop}{X Y:World}{B:Nat}(h:Turns M X Y)(hM:∀k,M k->B<=k)(hB:B<=X.heap.size):Below B X Y:=
 ⟨h.os,h.tape,h.output,h.size,fun k hk=>h.block k (by omega) (fun e=>by have:=hM k e;omega)⟩
theorem Turns.of_below{M:Nat->Prop}{X Y:World}{B:Nat}(h:Below B X Y)(hB:∀k,k<X.heap.size->B<=k->M k):Turns M X Y:=
 ⟨h.os,h.tape,h.output,h.size,fun k hk hn=>h.block k (by
  rcases Nat.lt_or_ge k B with h|h
  .exact h
  .exact absurd (hB k hk h) hn)⟩
theorem Turns.cell{M:Nat->Prop}{X Y:World}(h:Turns M X Y){b o:Nat}(hb:b<X.heap.size)(hm:¬M b):Y.cell? ⟨b,o,none⟩=X.cell? ⟨b,o,none⟩:=by
 unfold World.cell?;rw[h.block b hb hm]
theorem Turns.frozen{M:Nat->Prop}{X Y:World}(h:Turns M X Y){b o:Nat}(hb:b<X.heap.size)(hm:¬M b):Y.frozen? ⟨b,o,none⟩=X.frozen? ⟨b,o,none⟩:=by
 unfold World.frozen?;rw[h.block b hb hm]
structure Gd (N0:Nat->Prop) (G:Nat->Prop) (X:World):Prop where
 size:∀i,X.heap.size<=i->N0 i
 mem:∀i,G i->N0 i/\i<X.heap.size
structure StepG (G:Nat->Prop) (X:World) (G':Nat->Prop) (Y:World):Prop where
 turns:Turns G X Y
 up:∀i,G i->G' i
 news:∀i,G' i->G i\/X.heap.size<=i
 lt:∀i,G' i->i<Y.heap.size
theorem StepG.trans{G G' G'':Nat->Prop}{X Y Z:World}(h:StepG G X G' Y)(k:StepG G' Y G'' Z):StepG G X G'' Z where
 turns:=⟨k.turns.os.trans h.turns.os,k.turns.tape.trans h.turns.tape,k.turns.output.trans h.turns.output,Nat.le_trans h.turns.size k.turns.size,fun i hi hn=>
  (k.turns.block i (Nat.lt_of_lt_of_le hi h.turns.size) (fun e=>by
   rcases h.news i e with h1|h1
   .exact hn h1
   .omega)).trans (h.turns.block i hi hn)⟩
 up:=fun i hi=>k.up i (h.up i hi)
 news:=fun i hi=>by
  have hs:=h.turns.size;rcases k.news i hi with h1|h1
  .exact h.news i h1
  .exact .inr (by omega)
 lt:=k.lt
theorem StepG.same{G:Nat->Prop}{X Y:World}(h:Turns G X Y)(hl:∀i,G i->i<X.heap.size):StepG G X G Y:=
 ⟨h,fun _ h=>h,fun _ h=>.inl h,fun i hi=>Nat.lt_of_lt_of_le (hl i hi) h.size⟩
theorem Gd.step{N0:Nat->Prop}{G G':Nat->Prop}{X Y:World}(h:Gd N0 G X)(s:StepG G X G' Y):Gd N0 G' Y:=
 ⟨fun i hi=>h.size i (Nat.le_trans s.turns.size hi),fun i hi=>⟨by
  rcases s.news i hi with h1|h1
  .exact(h.mem i h1).1
  .exact h.size i h1,s.lt i hi⟩⟩
theorem StepG.of_below{G:Nat->Prop}{X Y:World}(h:Below X.heap.size X Y)(hl:∀i,G i->i<X.heap.size):StepG G X G Y:=StepG.same (Turns.of_below h (fun k hk hn=>by omega)) hl
abbrev Keeps(N0:Nat->Prop)(G:Nat->Prop)(A B:World):Prop:=Turns (fun i=>¬G i/\N0 i) A B
theorem Keeps.of_below{N0:Nat->Prop}{G:Nat->Prop}{A B:World}(h:Below A.heap.size A B):Keeps N0 G A B:=Turns.of_below h (fun k hk hn=>by omega)
theorem Gd.keeps{N0:Nat->Prop}{G:Nat->Prop}{X Y:World}(h:Gd N0 G X)(s:X.heap.size<=Y.heap.size):Gd N0 G Y:=
 ⟨fun i hi=>h.size i (Nat.le_trans s hi),fun i hi=>⟨(h.mem i hi).1,Nat.lt_of_lt_of_le (h.mem i hi).2 s⟩⟩
theorem Keeps.below{N0:Nat}{G:Nat->Prop}{A B:World}(h:Keeps (N0 <= ·) G A B)(hB:N0<=A.heap.size):Below N0 A B:=Turns.below h (fun _ h=>h.2) hB
structure Kept (w X:World):Prop where
 size:w.heap.size<=X.heap.size
 cell:∀b i v,w.cell? ⟨b,i,none⟩=some v->X.cell? ⟨b,i,none⟩=some v
theorem Kept.refl(w:World):Kept w w:=⟨nlr,fun _ _ _ h=>h⟩
theorem Kept.of_below{B:Nat}{w X:World}(h:Below B w X)(hB:w.heap.size<=B):Kept w X:=
 ⟨h.size,fun b i v hv=>(h.cell (p:=⟨b,i,none⟩) (Nat.lt_of_lt_of_le (World.block_lt_of_cell? w _ hv) hB)).trans hv⟩
def Apart(N0:Nat->Prop)(w:World):Prop:=∀b i v,w.cell? ⟨b,i,none⟩=some v->¬N0 b
theorem Apart.ge{B:Nat}{w:World}(hB:w.heap.size<=B):Apart (B <= ·) w:=fun _ _ _ h e=>by have:=World.block_lt_of_cell? w _ h;simp only at this e;omega
theorem Kept.turns{N0 M:Nat->Prop}{w X Y:World}(h:Kept w X)(ha:Apart N0 w)(hk:Turns M X Y)(hM:∀i,M i->N0 i):Kept w Y:=
 ⟨Nat.le_trans h.size hk.size,fun b i v hv=>(hk.cell (World.block_lt_of_cell? X _ (h.cell b i v hv)) (fun e=>ha b i v hv (hM b e))).trans (h.cell b i v hv)⟩
theorem Kept.row{k:Nat}{w w':World}{a:Option Addr}{n c:Nat}{xs:List Value}(hb:Kept w w')(h:Row k w a n c xs):Row k w' a n c xs:=by
 obtain⟨h1,h2,h3,h4⟩:=h;refine⟨h1,h2,h3,?_⟩;rcases h4 with h4|⟨b,o,e,ha,hc⟩
 .exact .inl h4
 .exact .inr ⟨b,o,e,Nat.lt_of_lt_of_le ha hb.size,fun i hi=>hb.cell _ _ _ (hc i hi)⟩
theorem Kept.nodes{w w':World}{a:Option Addr}{c:Nat}{ns:List Nd}(hb:Kept w w')(h:Nodes w a c ns):Nodes w' a c ns:=by
 obtain⟨ks,h1,h2,h3⟩:=h;exact⟨ks,h1,hb.row h2,fun i hi k=>hb.row (h3 i hi k)⟩
theorem Kept.tree{w w':World}{v:TreeV}{t:Tr}(hb:Kept w w')(h:IsTree w v t):IsTree w' v t:=⟨hb.nodes h.nodes,hb.row h.items⟩
def gJ{β:Type}(J:β->(Nat->Prop)->World->Prop):Prop:=∀s G X G' Y,J s G X->StepG G X G' Y->J s G' Y
def SeqG{α:Type}(P:Program)(g:Nat)(lb:Array Value)(encs:α->Array Value)(xs:List α)(N0:Nat->Prop)(G0:Nat->Prop)(W0:World):Prop:=
 ∀ (l:Nat) (J Jx:Nat->(Nat->Prop)->World->Prop) (W:World),Keeps N0 G0 W0 W->Gd N0 G0 W->gJ J->gJ Jx ->
   (∀k x G A,xs[k]?=some x->Gd N0 G A->J k G A->YieldAt Fence.wide 0 P l (encs x) A fun e B=>
    (e=.returned (.bool true)/\Keeps N0 G A B/\J (k+1) G B)\/(e=.returned (.bool false)/\Keeps N0 G A B/\Jx (k+1) G B)) ->
   J 0 G0 W ->
   CallsIn Fence.wide 0 P g (#[.func (.yield l) #[] #[]]++lb) W fun e B=>(∃v,e=.returned v)/\∃G,Gd N0 G B/\(J xs.length G B\/∃k,k<=xs.length/\Jx k G B)
def RL(N0:Nat->Prop)(I:Nat->(Nat->Prop)->World->Prop)(Ix:Code->Nat->(Nat->Prop)->World->Prop)(k:Nat)(G:Nat->Prop)(A:World):Exit->Act->World->Prop
 |.normal,_,B=>Keeps N0 G A B/\I (k+1) G B
 |.ret,_,B=>Keeps N0 G A B/\Ix .ret (k+1) G B
 |.exit id,_,B=>Keeps N0 G A B/\Ix (.exit id) (k+1) G B
 |.goto t,_,B=>Keeps N0 G A B/\Ix (.goto t) (k+1) G B
 |.panic _,_,_=>False
 |.outgrown,_,_=>False
theorem zB{W:World}{l:Nat}{o:Obj}(h:W.heap[l]?=some o):l<W.heap.size:=(Array.getElem?_eq_some_iff.1 h).1
theorem kM{α:Type}{P:Program}{g:Operand}{ps:Array Tmp}{assign body:Code}{Q:Exit->Act->World->Prop}{a:Act}{w:World}{gf:Nat}{lb:Array Value}
 (hg:a.eval g=.func (.func gf) #[] lb)(eg:∀args w,(callFunc gf args).run P w=.ok (.enter gf args) w)
 {encs:α->Array Value}{xs:List α}{N0:Nat->Prop}{G0:Nat->Prop}{w0:World}(hseq:SeqG P gf lb encs xs N0 G0 w0)(hw0:Keeps N0 G0 w0 w)(hgd:Gd N0 G0 w)(hps:∀x,(encs x).size=ps.size)
 (I:Nat->(Nat->Prop)->World->Prop)(Ix:Code->Nat->(Nat->Prop)->World->Prop)(hI:gJ I)(hIx:∀c,gJ (Ix c))(h0:I 0 G0 w)(a₁:α->Act)
 (hassign:∀(l:Nat) (x:α) (W:World) (K:Act->World->Prop),K (a₁ x) W ->
  assign.wpIn (Fence.wide.inRound l) 0 P (Exit.then K (fun _ _ _=>False)) { tmps:=(ps.zip (encs x)).foldl (fun t (p,v)=>t.setIfInBounds p v) a.tmps,defers:=[] } W)
 (hbody:∀(l k:Nat) (x:α) (G:Nat->Prop) (A:World),xs[k]?=some x->G l->(∃r,A.heap[l]?=some (.loop r))->Gd N0 G A->I k G A->body.wpIn (Fence.wide.inRound l) 0 P (RL N0 I Ix k G A) (a₁ x) A)
 (hdone:∀(D:Nat) (G:Nat->Prop) (B:World),w.heap.size<=D->B.heap[D]?=some (.deferred (some []))->G D->Gd N0 G B->I xs.length G B->Q .normal { a with defers:={ target:=.collected D,args:=#[] }::a.defers } B)
 (hstop:∀(D:Nat) (c:Code) (k:Nat) (G:Nat->Prop) (B:World),w.heap.size<=D->B.heap[D]?=some (.deferred (some []))->G D->Gd N0 G B->k<=xs.length->Ix c k G B->c.wpIn Fence.wide 0 P Q { a with defers:={ target:=.collected D,args:=#[] }::a.defers } B) :
 (Code.rangeFunc g ps assign body).wpIn Fence.wide 0 P Q a w:=by
 refine wpIn_rangeFunc ?_;intro fn hR;rw[show Fence.wide.round=none from rfl];obtain⟨rec,ha⟩:∃rec:LoopState->Option Code->Loop,rec=fun st pe=>{ state:=st,pending:=pe,fn,tmps:=a.tmps,params:=ps,assign,body,defers:=w.heap.size }:=⟨_,rfl⟩
 obtain⟨W1,hw⟩:∃W1,(w.alloc (.deferred (some []))).alloc (.loop (rec .ready none))=W1:=⟨_,rfl⟩
 obtain⟨D,hD⟩:∃D,D=w.heap.size:=⟨_,rfl⟩
 obtain⟨l,hl⟩:∃l,l=w.heap.size+1:=⟨_,rfl⟩
 have hV:W1.heap.size=w.heap.size+2:=by rw[<-hw];simp
 have hP:W1.heap[l]?=some (.loop (rec .ready none)):=by
  rw[<-hw,hl];have:=World.alloc_heap_new (w.alloc (.deferred (some []))) (.loop (rec .ready none));rwa[World.size_alloc]at this
 have hO:W1.heap[D]?=some (.deferred (some [])):=by
  rw[<-hw,hD];exact(Below.heap_alloc _ _ _ (by simp)).trans (World.alloc_heap_new w _)
 have hH:∀M,Turns M w W1:=fun M=>by rw[<-hw];exact(Turns.alloc M w _).trans (Turns.alloc M _ _)
 have hQ:N0 D:=hgd.size D (by omega);have hF:N0 l:=hgd.size l (by omega);obtain⟨Gp,hz⟩:∃Gp:(Nat->Prop)->Nat->Prop,Gp=fun G i=>G i\/i=D\/i=l:=⟨_,rfl⟩
 have gU:∀{G:Nat->Prop}{i:Nat},G i->Gp G i:=fun h=>by rw[hz];exact .inl h
 have gD:∀{G:Nat->Prop},Gp G D:=by intro G;rw[hz];exact .inr (.inl rfl)
 have gL:∀{G:Nat->Prop},Gp G l:=by intro G;rw[hz];exact .inr (.inr rfl)
 have gE:∀{G:Nat->Prop}{i:Nat},Gp G i->G i\/i=D\/i=l:=fun h=>by rw[hz]at h;exact h
 have gd:∀{G:Nat->Prop}{X:World},Gd N0 G X->D<X.heap.size->l<X.heap.size->Gd N0 (Gp G) X:=fun h h1 h2=>⟨h.size,fun i hi=>by
  rcases gE hi with h3|rfl|rfl
  .exact h.mem i h3
  .exact⟨hQ,h1⟩
  .exact⟨hF,h2⟩⟩
 have stepB:∀{G:Nat->Prop}{X:World}{i:Nat}{o:Obj},Gp G i->(∀j,Gp G j->j<X.heap.size)->StepG (Gp G) X (Gp G) (X.putObj i o):=fun h h1=>StepG.same (Turns.putObj h _) h1
 have abide:∀{β:Type}(K:β->(Nat->Prop)->World->Prop),gJ K->∀(st:Obj),gJ (fun s G X=>K s (Gp G) X/\¬G l/\¬G D/\X.heap[l]?=some st/\X.heap[D]?=some (.deferred (some []))):=by
  rintro β K hK st s G X G' Y⟨h1,h2,h3,h4,h5⟩ hb;have hA:=zB h4;have hC:=zB h5;have hs:=hb.turns.size;refine⟨hK s _ _ _ _ h1 ⟨hb.turns.mono (fun k _ h=>gU h),fun i hi=>?_,fun i hi=>?_,fun i hi=>?_⟩,?_,?_,(hb.turns.block _ hA h2).trans h4,(hb.turns.block _ hC h3).trans h5⟩
  .rcases gE hi with h|rfl|rfl
   .exact gU (hb.up i h)
   .exact gD
   .exact gL
  .rcases gE hi with h|rfl|rfl
   .exact(hb.news i h).elim (fun h=>.inl (gU h)) .inr
   .exact .inl gD
   .exact .inl gL
  .rcases gE hi with h|rfl|rfl
   .exact hb.lt i h
   .omega
   .omega
  .exact fun h=>(hb.news _ h).elim h2 (fun h=>by omega)
  .exact fun h=>(hb.news _ h).elim h3 (fun h=>by omega)
 have hU:¬G0 l:=fun h=>by have:=(hgd.mem l h).2;omega
 have hT:¬G0 D:=fun h=>by have:=(hgd.mem D h).2;omega
 have hN:I 0 (Gp G0) W1:=hI 0 _ _ _ _ h0 ⟨hH _,fun i h=>gU h,fun i h=>by
  rcases gE h with h|rfl|rfl
  .exact .inl h
  .exact .inr (by omega)
  .exact .inr (by omega),fun i h=>by
  rcases gE h with h|rfl|rfl
  .have:=(hgd.mem i h).2;omega
  .omega
  .omega⟩
 refine⟨l,[{ target:=.collected D,args:=#[] }],W1,{ target:=.fn (.func gf) lb,args:=#[.func (.yield l) #[] #[]] },W1,gf,
  #[.func (.yield l) #[] #[]]++lb,W1,?_,?_,fun _ _=>trivial,?_,fun h=>(by cases h),?_⟩
 .rw[<-hw,ha,hl,hD];exact run_enterLoop_outer _ _ _ _ _
 .simp only[resolve,hg]
  simp[go_sem]
 .simp[invoke,go_sem,eg]
 .refine(hseq l
   (fun k G X=>I k (Gp G) X/\¬G l/\¬G D/\X.heap[l]?=some (.loop (rec .ready none))/\X.heap[D]?=some (.deferred (some [])))
   (fun k G X=>∃c,Ix c k (Gp G) X/\¬G l/\¬G D/\X.heap[l]?=some (.loop (rec .done (some c)))/\X.heap[D]?=some (.deferred (some [])))
   W1 (hw0.trans (hH _)) (hgd.keeps (hH (fun _=>True)).size) (abide I hI _)
   (fun s G X G' Y h hb=>by obtain⟨c,h⟩:=h;exact⟨c,abide (Ix c) (hIx c) _ s G X G' Y h hb⟩)
   ?_ ⟨hN,hU,hT,hP,hO⟩).mono ?_
  .
   rintro k x G A hx hG⟨hi,hc,hq,hJ,hM⟩;have hA:=zB hJ;have hC:=zB hM;have hE:=gd hG hC hA;have hy:=run_yield (P:=P) (args:=encs x) hJ (by rw[ha];exact hps x);rw[ha]at hy;refine⟨fn,_,assign,body,hy,roundIn_of_wpIn hR (hassign l x A _ ⟨_,run_beginRound hJ (by rw[ha]),?_⟩)⟩;obtain⟨A1,ht⟩:∃A1,A.putObj l (.loop { rec .ready none with state:=.busy })=A1:=⟨_,rfl⟩
   rw[ht];have ho:A1.heap[l]?=some (.loop { rec .ready none with state:=.busy }):=by rw[<-ht];exact World.putObj_heap_same hA
   have hu:A1.heap[D]?=some (.deferred (some [])):=by rw[<-ht];exact(World.putObj_heap_other (by omega)).trans hM
   have hL:StepG (Gp G) A (Gp G) A1:=by rw[<-ht];exact stepB gL (fun j hj=>(hE.mem j hj).2)
   have hS:Keeps N0 G A A1:=by rw[<-ht];exact Turns.putObj ⟨hc,hF⟩ _
   refine wpIn_mono (hbody l k x (Gp G) A1 hx gL ⟨_,ho⟩ (hE.step hL) (hI _ _ _ _ _ hi hL)) ?_
   have fin:∀(jump:Option Code) (B:World),Keeps N0 (Gp G) A1 B ->
    (Instr.endRound l jump).run P B=.ok (.bool jump.isNone) (B.putObj l (.loop (rec (if jump.isNone then .ready else .done) jump))) /\
    StepG (Gp G) B (Gp G) (B.putObj l (.loop (rec (if jump.isNone then .ready else .done) jump))) /\
    Keeps N0 G A (B.putObj l (.loop (rec (if jump.isNone then .ready else .done) jump))) /\
    (B.putObj l (.loop (rec (if jump.isNone then .ready else .done) jump))).heap[l]?=some (.loop (rec (if jump.isNone then .ready else .done) jump)) /\
    (B.putObj l (.loop (rec (if jump.isNone then .ready else .done) jump))).heap[D]?=some (.deferred (some [])):=fun jump B hB=>by
    have hd:B.heap[l]?=some (.loop { rec .ready none with state:=.busy }):=(hB.block l (zB ho) (fun h=>h.1 gL)).trans ho;have he:B.heap[D]?=some (.deferred (some [])):=(hB.block D (zB hu) (fun h=>h.1 gD)).trans hu;have:=run_endRound (P:=P) jump hd;rw[ha]at this|-;refine⟨this,stepB gL (fun j hj=>Nat.lt_of_lt_of_le ((hE.step hL).mem j hj).2 hB.size),(hS.trans (hB.mono fun i _ h=>⟨fun e=>h.1 (gU e),h.2⟩)).trans (Turns.putObj ⟨hc,hF⟩ _),World.putObj_heap_same (zB hd),(World.putObj_heap_other (by omega)).trans he⟩
   rintro e a3 B hp
   cases e with
   | normal=>
     obtain⟨hk,hh⟩:=hp;obtain⟨hr,hs,hm,hn,hf⟩:=fin none B hk;exact⟨_,_,hr,.inl ⟨rfl,hm,hI _ _ _ _ _ hh hs,hc,hq,hn,hf⟩⟩
   | ret=>
     obtain⟨hk,hh⟩:=hp;obtain⟨hr,hs,hm,hn,hf⟩:=fin (some .ret) B hk;exact⟨_,_,hr,.inr ⟨rfl,hm,_,hIx _ _ _ _ _ _ hh hs,hc,hq,hn,hf⟩⟩
   | exit id=>
     obtain⟨hk,hh⟩:=hp;obtain⟨hr,hs,hm,hn,hf⟩:=fin (some (.exit id)) B hk;exact⟨_,_,hr,.inr ⟨rfl,hm,_,hIx _ _ _ _ _ _ hh hs,hc,hq,hn,hf⟩⟩
   | goto t=>
     obtain⟨hk,hh⟩:=hp;obtain⟨hr,hs,hm,hn,hf⟩:=fin (some (.goto t)) B hk;exact⟨_,_,hr,.inr ⟨rfl,hm,_,hIx _ _ _ _ _ _ hh hs,hc,hq,hn,hf⟩⟩
   |panic ch=>exact hp.elim
   |outgrown=>exact hp.elim
  .
   rintro e B ⟨⟨v,rfl⟩,G,hG,(⟨hi,hc,hq,hd,he⟩|⟨k,hk,c,hi,hc,hq,hd,he⟩)⟩
   .have hv:=gd hG (zB he) (zB hd)
    have hs:StepG (Gp G) B (Gp G) (B.putObj l (.loop { rec .ready none with state:=.exhausted })):=stepB gL (fun j hj=>(hv.mem j hj).2);exact⟨none,_,by have:=run_endLoop (P:=P) hd (by rw[ha];simp);rw[ha]at this|-;exact this,hdone D _ _ (by omega) ((World.putObj_heap_other (by omega)).trans he) gD (hv.step hs) (hI _ _ _ _ _ hi hs)⟩
   .have hv:=gd hG (zB he) (zB hd)
    have hs:StepG (Gp G) B (Gp G) (B.putObj l (.loop { rec .done (some c)with state:=.exhausted })):=stepB gL (fun j hj=>(hv.mem j hj).2);exact⟨some c,_,by have:=run_endLoop (P:=P) hd (by rw[ha];simp);rw[ha]at this|-;exact this,hstop D c k _ _ (by omega) ((World.putObj_heap_other (by omega)).trans he) gD (hv.step hs) hk (hIx c _ _ _ _ _ hi hs)⟩
theorem JQ{α:Type}{P:Program}{g:Operand}{ps:Array Tmp}{assign body:Code}{Q:Exit->Act->World->Prop}{a:Act}{w:World}{gf:Nat}{lb:Array Value}{l₀:Nat}{r₀:Loop}
 (hl₀:w.heap[l₀]?=some (.loop r₀))(hg:a.eval g=.func (.func gf) #[] lb)(eg:∀args w,(callFunc gf args).run P w=.ok (.enter gf args) w)
 {encs:α->Array Value}{xs:List α}{N0:Nat->Prop}{G0:Nat->Prop}{w0:World}(hseq:SeqG P gf lb encs xs N0 G0 w0)(hw0:Keeps N0 G0 w0 w)(hgd:Gd N0 G0 w)(hps:∀x,(encs x).size=ps.size)
 (I:Nat->(Nat->Prop)->World->Prop)(Ix:Code->Nat->(Nat->Prop)->World->Prop)(hI:gJ I)(hIx:∀c,gJ (Ix c))(h0:I 0 G0 w)(a₁:α->Act)
 (hassign:∀(l:Nat) (x:α) (W:World) (K:Act->World->Prop),K (a₁ x) W ->
  assign.wpIn (Fence.wide.inRound l) 0 P (Exit.then K (fun _ _ _=>False)) { tmps:=(ps.zip (encs x)).foldl (fun t (p,v)=>t.setIfInBounds p v) a.tmps,defers:=[] } W)
 (hbody:∀(l k:Nat) (x:α) (G:Nat->Prop) (A:World),xs[k]?=some x->G l->(∃r,A.heap[l]?=some (.loop r))->Gd N0 G A->I k G A->body.wpIn (Fence.wide.inRound l) 0 P (RL N0 I Ix k G A) (a₁ x) A)
 (hdone:∀(G:Nat->Prop) (B:World),Gd N0 G B->I xs.length G B->Q .normal a B)
 (hstop:∀(c:Code) (k:Nat) (G:Nat->Prop) (B:World),Gd N0 G B->k<=xs.length->Ix c k G B->c.wpIn (Fence.wide.inRound l₀) 0 P Q a B) :
 (Code.rangeFunc g ps assign body).wpIn (Fence.wide.inRound l₀) 0 P Q a w:=by
 refine wpIn_rangeFunc ?_;intro fn hF;rw[show(Fence.wide.inRound l₀).round=some l₀ from rfl];obtain⟨rec,ha⟩:∃rec:LoopState->Option Code->Loop,rec=fun st pe=>{ state:=st,pending:=pe,fn,tmps:=a.tmps,params:=ps,assign,body,defers:=r₀.defers }:=⟨_,rfl⟩
 obtain⟨W1,hq⟩:∃W1,w.alloc (.loop (rec .ready none))=W1:=⟨_,rfl⟩
 obtain⟨l,hl⟩:∃l,l=w.heap.size:=⟨_,rfl⟩
 have hL:W1.heap.size=w.heap.size+1:=by rw[<-hq];simp
 have hE:W1.heap[l]?=some (.loop (rec .ready none)):=by rw[<-hq,hl];exact World.alloc_heap_new w _
 have hz:∀M,Turns M w W1:=fun M=>by rw[<-hq];exact Turns.alloc M w _
 have hw:N0 l:=hgd.size l (by omega);obtain⟨Gp,hv⟩:∃Gp:(Nat->Prop)->Nat->Prop,Gp=fun G i=>G i\/i=l:=⟨_,rfl⟩
 have gU:∀{G:Nat->Prop}{i:Nat},G i->Gp G i:=fun h=>by rw[hv];exact .inl h
 have gL:∀{G:Nat->Prop},Gp G l:=by intro G;rw[hv];exact .inr rfl
 have gE:∀{G:Nat->Prop}{i:Nat},Gp G i->G i\/i=l:=fun h=>by rw[hv]at h;exact h
 have gd:∀{G:Nat->Prop}{X:World},Gd N0 G X->l<X.heap.size->Gd N0 (Gp G) X:=fun h h2=>⟨h.size,fun i hi=>by
  rcases gE hi with h3|rfl
  .exact h.mem i h3
  .exact⟨hw,h2⟩⟩
 have stepB:∀{G:Nat->Prop}{X:World}{i:Nat}{o:Obj},Gp G i->(∀j,Gp G j->j<X.heap.size)->StepG (Gp G) X (Gp G) (X.putObj i o):=fun h h1=>StepG.same (Turns.putObj h _) h1
 have abide:∀{β:Type}(K:β->(Nat->Prop)->World->Prop),gJ K->∀(st:Obj),gJ (fun s G X=>K s (Gp G) X/\¬G l/\X.heap[l]?=some st):=by
  rintro β K hK st s G X G' Y⟨h1,h2,h4⟩ hb;have ht:=zB h4;have hs:=hb.turns.size;refine⟨hK s _ _ _ _ h1 ⟨hb.turns.mono (fun k _ h=>gU h),fun i hi=>?_,fun i hi=>?_,fun i hi=>?_⟩,?_,(hb.turns.block _ ht h2).trans h4⟩
  .rcases gE hi with h|rfl
   .exact gU (hb.up i h)
   .exact gL
  .rcases gE hi with h|rfl
   .exact(hb.news i h).elim (fun h=>.inl (gU h)) .inr
   .exact .inl gL
  .rcases gE hi with h|rfl
   .exact hb.lt i h
   .omega
  .exact fun h=>(hb.news _ h).elim h2 (fun h=>by omega)
 have hJ:¬G0 l:=fun h=>by have:=(hgd.mem l h).2;omega
 have hD:I 0 (Gp G0) W1:=hI 0 _ _ _ _ h0 ⟨hz _,fun i h=>gU h,fun i h=>by
  rcases gE h with h|rfl
  .exact .inl h
  .exact .inr (by omega),fun i h=>by
  rcases gE h with h|rfl
  .have:=(hgd.mem i h).2;omega
  .omega⟩
 refine⟨l,[],W1,{ target:=.fn (.func gf) lb,args:=#[.func (.yield l) #[] #[]] },W1,gf,
  #[.func (.yield l) #[] #[]]++lb,W1,?_,?_,fun _ _=>trivial,?_,fun h=>(by cases h),?_⟩
 .rw[<-hq,ha,hl];exact run_enterLoop_inner hl₀ _ _ _ _ _
 .simp only[resolve,hg]
  simp[go_sem]
 .simp[invoke,go_sem,eg]
 .refine(hseq l
   (fun k G X=>I k (Gp G) X/\¬G l/\X.heap[l]?=some (.loop (rec .ready none)))
   (fun k G X=>∃c,Ix c k (Gp G) X/\¬G l/\X.heap[l]?=some (.loop (rec .done (some c))))
   W1 (hw0.trans (hz _)) (hgd.keeps (hz (fun _=>True)).size) (abide I hI _)
   (fun s G X G' Y h hb=>by obtain⟨c,h⟩:=h;exact⟨c,abide (Ix c) (hIx c) _ s G X G' Y h hb⟩)
   ?_ ⟨hD,hJ,hE⟩).mono ?_
  .rintro k x G A hx hG⟨hi,hc,hA⟩
   have ht:=zB hA;have hu:=gd hG ht;have hy:=run_yield (P:=P) (args:=encs x) hA (by rw[ha];exact hps x);rw[ha]at hy;refine⟨fn,_,assign,body,hy,roundIn_of_wpIn hF (hassign l x A _ ⟨_,run_beginRound hA (by rw[ha]),?_⟩)⟩;obtain⟨A1,ho⟩:∃A1,A.putObj l (.loop { rec .ready none with state:=.busy })=A1:=⟨_,rfl⟩
   rw[ho];have hm:A1.heap[l]?=some (.loop { rec .ready none with state:=.busy }):=by rw[<-ho];exact World.putObj_heap_same ht
   have hC:StepG (Gp G) A (Gp G) A1:=by rw[<-ho];exact stepB gL (fun j hj=>(hu.mem j hj).2)
   have hH:Keeps N0 G A A1:=by rw[<-ho];exact Turns.putObj ⟨hc,hw⟩ _
   refine wpIn_mono (hbody l k x (Gp G) A1 hx gL ⟨_,hm⟩ (hu.step hC) (hI _ _ _ _ _ hi hC)) ?_
   have fin:∀(jump:Option Code) (B:World),Keeps N0 (Gp G) A1 B ->
    (Instr.endRound l jump).run P B=.ok (.bool jump.isNone) (B.putObj l (.loop (rec (if jump.isNone then .ready else .done) jump))) /\
    StepG (Gp G) B (Gp G) (B.putObj l (.loop (rec (if jump.isNone then .ready else .done) jump))) /\
    Keeps N0 G A (B.putObj l (.loop (rec (if jump.isNone then .ready else .done) jump))) /\
    (B.putObj l (.loop (rec (if jump.isNone then .ready else .done) jump))).heap[l]?=some (.loop (rec (if jump.isNone then .ready else .done) jump)):=fun jump B hB=>by
    have hd:B.heap[l]?=some (.loop { rec .ready none with state:=.busy }):=(hB.block l (zB hm) (fun h=>h.1 gL)).trans hm;have:=run_endRound (P:=P) jump hd;rw[ha]at this|-;refine⟨this,stepB gL (fun j hj=>Nat.lt_of_lt_of_le ((hu.step hC).mem j hj).2 hB.size),(hH.trans (hB.mono fun i _ h=>⟨fun e=>h.1 (gU e),h.2⟩)).trans (Turns.putObj ⟨hc,hw⟩ _),World.putObj_heap_same (zB hd)⟩
   rintro e a3 B hp
   cases e with
   | normal=>
     obtain⟨hk,he⟩:=hp;obtain⟨hr,hs,hf,hh⟩:=fin none B hk;exact⟨_,_,hr,.inl ⟨rfl,hf,hI _ _ _ _ _ he hs,hc,hh⟩⟩
   | ret=>
     obtain⟨hk,he⟩:=hp;obtain⟨hr,hs,hf,hh⟩:=fin (some .ret) B hk;exact⟨_,_,hr,.inr ⟨rfl,hf,_,hIx _ _ _ _ _ _ he hs,hc,hh⟩⟩
   | exit id=>
     obtain⟨hk,he⟩:=hp;obtain⟨hr,hs,hf,hh⟩:=fin (some (.exit id)) B hk;exact⟨_,_,hr,.inr ⟨rfl,hf,_,hIx _ _ _ _ _ _ he hs,hc,hh⟩⟩
   | goto t=>
     obtain⟨hk,he⟩:=hp;obtain⟨hr,hs,hf,hh⟩:=fin (some (.goto t)) B hk;exact⟨_,_,hr,.inr ⟨rfl,hf,_,hIx _ _ _ _ _ _ he hs,hc,hh⟩⟩
   |panic ch=>exact hp.elim
   |outgrown=>exact hp.elim
  .rintro e B ⟨⟨v,rfl⟩,G,hG,(⟨hi,hc,hd⟩|⟨k,hk,c,hi,hc,hd⟩)⟩
   .have hn:=gd hG (zB hd)
    have hs:StepG (Gp G) B (Gp G) (B.putObj l (.loop { rec .ready none with state:=.exhausted })):=stepB gL (fun j hj=>(hn.mem j hj).2);exact⟨none,_,by have:=run_endLoop (P:=P) hd (by rw[ha];simp);rw[ha]at this|-;exact this,hdone _ _ (hn.step hs) (hI _ _ _ _ _ hi hs)⟩
   .have hn:=gd hG (zB hd)
    have hs:StepG (Gp G) B (Gp G) (B.putObj l (.loop { rec .done (some c)with state:=.exhausted })):=stepB gL (fun j hj=>(hn.mem j hj).2);exact⟨some c,_,by have:=run_endLoop (P:=P) hd (by rw[ha];simp);rw[ha]at this|-;exact this,hstop c k _ _ (hn.step hs) hk (hIx c _ _ _ _ _ hi hs)⟩
end
end Go.Proofs.YtcdkdiedphhdhaaGreatDoor
