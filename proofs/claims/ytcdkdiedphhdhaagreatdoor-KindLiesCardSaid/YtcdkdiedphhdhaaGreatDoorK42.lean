/- Part of a proof. -/
import Derived.Test.YtcdkdiedphhdhaaGreatDoorRows
import Derived.Test.YtcdkdiedphhdhaaGreatDoorK31
import Derived.Test.YtcdkdiedphhdhaaGreatDoorK41
set_option maxRecDepth 100000
set_option maxHeartbeats 8000000
set_option linter.unusedVariables false
set_option linter.unusedSimpArgs false
open Go.Proofs.Tryz
namespace Go.Proofs.YtcdkdiedphhdhaaGreatDoor
section
open Go Go.RowKit Go.Maps
abbrev scV(p:bF)(mb:Nat):Value:=.agg #[.pointer (some ⟨p.g,0,none⟩),.map (some mb)]
abbrev tmV(a b:Int):Value:=.agg #[intV a,intV b]
theorem KT:prog.underlying 93=some (.map 120 3):=by kernel_rfl
theorem KR:(match prog.underlying 120 with|some (.array _ _)|some (.struct _)=>true|_=>false)=true:=by kernel_rfl
theorem tmplKeyed:Keyed prog 120:=
 Keyed.of_law (deep_law_laid MZ (m:=2) (by omega) (of_decide_eq_true (by kernel_rfl)) (by kernel_rfl) KR)
def keyT(a b:Int):Lit:=.string (keyBytes [.int .i64 a,.int .i64 b])
theorem DC{a:Int}(h0:0<=a)(h:a<1000000):(Lit.int .i64 a).wf=true:=by
 have h1:IntKind.i64.min = -9223372036854775808:=rfl;have h2:IntKind.i64.max=9223372036854775807:=rfl;simp only[Lit.wf,Bool.and_eq_true,decide_eq_true_eq];rw[h1,h2];omega
theorem tF{a b:Int}(ha:0<=a)(ha':a<1000000)(hb:0<=b)(hb':b<1000000):keyOf prog 120 (tmV a b)=some (keyT a b):=by
 have wa:=DC ha ha';have wb:=DC hb hb';have h1:prog.keyType 120=true:=by kernel_rfl
 have h2:(tmV a b).formed prog 120=true:=by kernel_rfl
 have h3:prog.types.size+1=(prog.types.size-1)+1+1:=by kernel_rfl
 have h4:prog.cellsOf 120=2:=by kernel_rfl
 have h5:prog.cellsOf 3=1:=by kernel_rfl
 have one:∀(d:Nat) (x:Int),(Lit.int .i64 x).wf=true->prog.keyLits (d+1) 3 [intV x]=some [.int .i64 x]:=fun d x hx=>by
  unfold Program.keyLits;rw[underlying3];simp[hx]
 unfold keyOf;rw[underlying120];simp only[h1,h2,Bool.and_self,if_true];rw[h3];unfold Program.keyLits;rw[underlying120];simp[h4,h5,Value.cells,one,wa,wb,keyT]
theorem MN{a b c d:Nat}(ha:a<1000000)(hb:b<1000000)(hc:c<1000000)(hd:d<1000000)(h:keyT a b=keyT c d):a=c/\b=d:=by
 have h1:=tF (a:=(a:Int)) (b:=(b:Int)) (by omega) (by omega) (by omega) (by omega);have h2:=tF (a:=(c:Int)) (b:=(d:Int)) (by omega) (by omega) (by omega) (by omega);rw[<-h]at h2;have h3:=tmplKeyed.inj h1 h2;simp only[Value.agg.injEq]at h3;have h4:=congrArg Array.toList h3;simp at h4;omega
theorem CC{a b:Nat}(ha:a<1000000)(hb:b<1000000):WideAt.IsKeyLit (keyT a b):=tmplKeyed.key (tF (a:=(a:Int)) (b:=(b:Int)) (by omega) (by omega) (by omega) (by omega))
theorem CI:∀(n:Nat) (l:List Nat),l.Nodup->(∀x∈l,x<n)->l.length<=n
 | 0,l,_,h=>by
   cases l with
   |nil=>simp
   |cons x l=>exact absurd (h x (by simp)) (Nat.not_lt_zero _)
 | n+1,l,hn,h=>by
   have h1:=CI n (l.erase n) (hn.erase n) fun x hx=>by
    obtain⟨h2,h3⟩:=hn.mem_erase_iff.1 hx;have:=h x h3;omega
   rw[List.length_erase]at h1;split at h1<;>omega
structure MemoD (t:Tr) (D:DataW Unit) (K:List Nat):Prop where
 map:IsMap D
 sz:Maps.size D<=K.length
 nodup:K.Nodup
 le:∀x∈K,x<16000000
 mem:∀g e:Nat,g<1000000->e<16->(Maps.has D (keyT g e)=true↔g*16+e∈K)
 val:∀g e:Nat,g<1000000->e<16->g*16+e∈K->∃x:Nat,BodyW t g e x/\D.atKey (keyT g e) (.lit (.int .i64 0))=.lit (.int .i64 (min 3001 (x:Int)))
theorem MemoD.nil(t:Tr):MemoD t (.map []) []:=⟨⟨_,rfl⟩,nlr,List.nodup_nil,(fun x h=>by cases h),fun g e _ _=>by simp[Maps.has],fun g e _ _ h=>by cases h⟩
theorem NQ{D:DataW Unit}(hD:IsMap D)(k:Lit)(d:DataW Unit):Maps.size (D.put k d)<=Maps.size D+1/\(Maps.has D k=true->Maps.size (D.put k d)<=Maps.size D):=by
 obtain⟨es,rfl⟩:=hD
 have e:Maps.size ((DataW.map es:DataW Unit).put k d)=(es.filter fun p=>!p.1.sameKey k).length+1:=by
  show(DataW.insert (k,d) (es.filter fun p=>!p.1.sameKey k)).length=_
  rw[length_insert]
 have h1:=List.length_filter_le (fun p:Lit×DataW Unit=>!p.1.sameKey k) es;refine⟨by rw[e];show _<=es.length+1;omega,fun h=>?_⟩
 have h2:(es.filter fun p=>!p.1.sameKey k).length<es.length:=by
  rw[List.length_filter_lt_length_iff_exists];have h:(es.any fun p=>p.1.sameKey k)=true:=h;obtain⟨x,hx,hk⟩:=List.any_eq_true.1 h;exact⟨x,hx,by simp[hk]⟩
 rw[e];show _<=es.length;omega
theorem MemoD.put{t:Tr}{D:DataW Unit}{K:List Nat}(h:MemoD t D K){g e x:Nat}(hg:g<1000000)(he:e<16)(hb:BodyW t g e x):∃K',MemoD t (D.put (keyT g e) (.lit (.int .i64 (min 3001 (x:Int))))) K':=by
 have key:∀c d:Nat,c<1000000->d<16->c*16+d≠g*16+e->keyT c d≠keyT g e:=fun c d hc hd hne e'=>by
  have:=MN hc (by omega) hg (by omega) e';omega
 obtain⟨z1,z2⟩:=NQ h.map (keyT g e) (.lit (.int .i64 (min 3001 (x:Int))));have hf:=h.sz
 have go:∀K':List Nat,Maps.size (D.put (keyT g e) (.lit (.int .i64 (min 3001 (x:Int)))))<=K'.length->K'.Nodup->(∀y,y∈K'↔y=g*16+e\/y∈K)->MemoD t (D.put (keyT g e) (.lit (.int .i64 (min 3001 (x:Int))))) K':=fun K' hs hn hm=>by
  refine⟨aI h.map _ _,hs,hn,fun y hy=>?_,fun c d hc hd=>?_,fun c d hc hd ha=>?_⟩
  .rcases(hm y).1 hy with rfl|hy
   .omega
   .exact h.le y hy
  .by_cases q:c*16+d=g*16+e
   .obtain⟨rfl,rfl⟩:c=g/\d=e:=by omega
    rw[has_put_same h.map (CC hc (by omega)),hm];simp
   .rw[has_put_other (key c d hc hd q),h.mem c d hc hd,hm]
    simp[q]
  .by_cases q:c*16+d=g*16+e
   .obtain⟨rfl,rfl⟩:c=g/\d=e:=by omega
    exact⟨x,hb,atKey_put_same h.map (CC hc (by omega)) _ _⟩
   .rcases(hm _).1 ha with ha|ha
    .exact absurd ha q
    .obtain⟨y,h1,h2⟩:=h.val c d hc hd ha
     exact⟨y,h1,by rw[atKey_put_other (key c d hc hd q)];exact h2⟩
 by_cases hh:Maps.has D (keyT g e)=true
 .have hm:=(h.mem g e hg he).1 hh
  exact⟨K,go K (by have:=z2 hh;omega) h.nodup fun y=>⟨.inr,fun q=>by rcases q with rfl|q;exact hm;exact q⟩⟩
 .have hm:g*16+e ∉ K:=fun q=>hh ((h.mem g e hg he).2 q)
  exact⟨(g*16+e)::K,go _ (by simp only[List.length_cons];omega) (List.nodup_cons.2 ⟨hm,h.nodup⟩) fun y=>List.mem_cons⟩
abbrev xV(X:World)(b n:Nat)(D:DataW Unit):Prop:=X.ownsMap prog 120 rdV b n D
structure KnO (W1:World) (t:Tr) (mb:Nat) (W:World):Prop where
 base:Below W1.heap.size W1 W
 own:∃D K,xV W mb (Maps.size D) D/\MemoD t D K
 lo:W1.heap.size<=mb
theorem tN{X:World}{b n:Nat}{D:DataW Unit}(h:xV X b n D):∃es clock,X.heap[b]?=some (.map es clock)/\∀Y:World,Y.heap[b]?=some (.map es clock)->xV Y b n D:=by
 obtain⟨es,clock,hb,F,hs,hD⟩:=h;exact⟨es,clock,hb,fun Y hY=>⟨es,clock,hY,F,hs,hD⟩⟩
theorem JK{X:World}{b n:Nat}{D:DataW Unit}(h:xV X b n D):xV X b (Maps.size D) D:=by
 obtain⟨es,clock,hb,F,hs,rfl⟩:=h;exact⟨es,clock,hb,F,by show _<=List.length _;rw[length_sorted];simp,rfl⟩
theorem KnO.lt{W1 W:World}{t:Tr}{mb:Nat}(h:KnO W1 t mb W):mb<W.heap.size:=by
 obtain⟨D,K,h1,-⟩:=h.own;obtain⟨es,clock,hb,-⟩:=tN h1;exact(Array.getElem?_eq_some_iff.1 hb).1
theorem KnO.step{W1 W W':World}{t:Tr}{mb:Nat}(h:KnO W1 t mb W)(hb:Below W.heap.size W W'):KnO W1 t mb W':=by
 have hl:=h.lt;obtain⟨D,K,h1,h2⟩:=h.own;obtain⟨es,clock,h3,h4⟩:=tN h1;exact⟨h.base.trans (hb.mono h.base.size),⟨D,K,h4 W' ((hb.block mb hl).trans h3),h2⟩,h.lo⟩
theorem aB{M:Nat->Prop}{W W':World}(h:Below W.heap.size W W'):Turns M W W':=⟨h.os,h.tape,h.output,h.size,fun k hk _=>h.block k hk⟩
theorem Turns.keepC{mb:Nat}{W W':World}(h:Turns (fun i=>i=mb) W W'){p:Addr}{v:Value}(hc:W.cell? p=some v)(hne:p.block≠mb):W'.cell? p=some v:=
 (World.cell?_of_block (h.block p.block (World.block_lt_of_cell? W p hc) hne)).trans hc
structure WtOk (t:Tr):Prop where
 wf:WF t
 fn:∀g:Nat,g<t.nodes.length->(t.nd (g:Int)).kind=42->(t.nd (g:Int)).n<=8/\1<=(t.nd (g:Int)).kids.length/\∃a:Nat,jD t g=a/\a<t.nodes.length
 call:∀i:Nat,i<t.nodes.length->(t.nd (i:Int)).kind=21->∃d:Nat,means t i=d/\d<t.nodes.length/\(t.nd (d:Int)).kind=42
theorem RV{t:Tr}(bd:Bd t)(hr:(zb t).2.2=0):WtOk t:=by
 obtain⟨wf,G⟩:=zi bd hr;refine⟨wf,fun g hg hk=>?_,fun i hi hk=>?_⟩
 .have he:=Good.sizedOk (zt hr).check hg
  obtain⟨a,ha,hf,-,hm⟩:=tD G hg hk;refine⟨by simp[eX,hk]at he;omega,?_,a,ha,by omega⟩;have:=List.length_pos_of_mem hm;omega
 .obtain⟨d,hd,hc,hb,-⟩:=oJ bd hr G hi hk
  exact⟨d,hd,hc,hb⟩
def TmOk(t:Tr)(F d:Int):Prop:=(F = -1/\d=0)\/∃g:Nat,F=g/\g<t.nodes.length/\(t.nd (g:Int)).kind=42/\0<=d/\d<=8
theorem TmOk.rng{t:Tr}{F d:Int}(h:TmOk t F d)(hn:t.nodes.length<=1000000) : -1<=F/\F<1000000/\0<=d/\d<=8:=by
 rcases h with⟨rfl,rfl⟩|⟨g,rfl,h1,-,h2,h3⟩<;>omega
theorem IA{t:Tr}{F d:Int}{i:Nat}(O:WtOk t)(hT:TmOk t F d)(hi:i<t.nodes.length)(hk:(t.nd (i:Int)).kind=21){g e:Int}(h:cS t F d i=some (g,e)):∃m:Nat,g=m/\means t i=m/\m<t.nodes.length/\(t.nd (m:Int)).kind=42/\0<=e/\e<=8:=by
 obtain⟨m,hm,hb,ha⟩:=O.call i hi hk;unfold cS at h;rw[hm]at h;split at h
 .rename_i q
  split at h
  .rename_i hd
   cases h
   rcases hT with⟨q2,_⟩|⟨g,q2,h1,h2,h3,h4⟩
   .omega
   .obtain rfl:m=g:=by omega
    have:=(O.fn m hb ha).1;rw[q2]at hd;exact⟨m,q2,hm,hb,ha,by omega,by omega⟩
  .cases h
 .cases h
  exact⟨m,rfl,hm,hb,ha,by omega,by omega⟩
theorem eE(W:World)(a b:Obj):((W.alloc a).alloc b).heap[W.heap.size]?=some a/\((W.alloc a).alloc b).heap[W.heap.size+1]?=some b:=by
 have hb:=(Below.refl (W.alloc a).heap.size (W.alloc a)).alloc nlr b;have h1:=World.alloc_heap_new (W.alloc a) b;rw[World.size_alloc]at h1;exact⟨(hb.block W.heap.size (by rw[World.size_alloc];omega)).trans (World.alloc_heap_new W a),h1⟩
theorem yI(W:World)(a b c:Obj):(((W.alloc a).alloc b).alloc c).heap[W.heap.size]?=some a/\(((W.alloc a).alloc b).alloc c).heap[W.heap.size+1]?=some b/\(((W.alloc a).alloc b).alloc c).heap[W.heap.size+1+1]?=some c:=by
 obtain⟨h1,h2⟩:=eE W a b;have hb:=(Below.refl ((W.alloc a).alloc b).heap.size ((W.alloc a).alloc b)).alloc nlr c;have h3:=World.alloc_heap_new ((W.alloc a).alloc b) c;rw[World.size_alloc,World.size_alloc]at h3;exact⟨(hb.block _ (by rw[World.size_alloc,World.size_alloc];omega)).trans h1,(hb.block _ (by rw[World.size_alloc,World.size_alloc];omega)).trans h2,h3⟩
theorem xF(t:Tr)(L:List (List UInt8))(b:Nat)(p:bF)(mb:Nat)(F d:Int)(i m:Nat)(W:World)(O:WtOk t)(hT:TmOk t F d)(hi:i<t.nodes.length)(hm:means t i=m)(hmn:m<t.nodes.length)(hP:KindP t L b p W) :
 Calls prog 85 #[scV p mb,tmV F d,intV i] W fun e w'=>Below W.heap.size W w' /\∃g h:Int,e=.returned (.tuple #[tmV g h,.bool (cS t F d i).isSome])/\∀q,cS t F d i=some q->q=(g,h):=by
 have hr:prog.follows .mixedOrders=true:=by kernel_rfl
 have hp:=O.wf.bd.n;obtain⟨r0,r1,r2,r3⟩:=hT.rng hp;have hb:Below W.heap.size W (((W.alloc (.cells #[.pointer (some ⟨p.g,0,none⟩),.map (some mb)] 95)).alloc (.cells #[intV F,intV d] 120)).alloc (.cells #[intV 0,intV 0] 120)):=((brf.alloc nlr _).alloc (by simp) _).alloc (by simp;omega) _;obtain⟨X,hX⟩:∃X,((W.alloc (.cells #[.pointer (some ⟨p.g,0,none⟩),.map (some mb)] 95)).alloc (.cells #[intV F,intV d] 120)).alloc (.cells #[intV 0,intV 0] 120)=X:=⟨_,rfl⟩
 obtain⟨hd,he,hh⟩:=yI W (.cells #[.pointer (some ⟨p.g,0,none⟩),.map (some mb)] 95) (.cells #[intV F,intV d] 120) (.cells #[intV 0,intV 0] 120);rw[hX]at hd he hh;have s0:X.cell? ⟨W.heap.size,0,none⟩=some (.pointer (some ⟨p.g,0,none⟩)):=za hd rfl;have s1:X.cell? ⟨W.heap.size,1,none⟩=some (.map (some mb)):=za hd rfl;have q0:X.cell? ⟨W.heap.size+1,0,none⟩=some (intV F):=za he rfl;have q1:X.cell? ⟨W.heap.size+1,1,none⟩=some (intV d):=za he rfl;have r0c:X.cell? ⟨W.heap.size+1+1,0,none⟩=some (intV 0):=za hh rfl;have r1c:X.cell? ⟨W.heap.size+1+1,1,none⟩=some (intV 0):=za hh rfl;have f0c:X.frozen? ⟨W.heap.size+1+1,0,none⟩=false:=zr hh;have f1c:X.frozen? ⟨W.heap.size+1+1,1,none⟩=false:=zr hh;have sz:W.heap.size+1+1<X.heap.size:=(Array.getElem?_eq_some_iff.1 hh).1;rw[hX]at hb;obtain⟨cd,od,eda,hg,hj⟩:=hP.declAt hi;have c2:=hP.c2;have c0:=hP.c0;have hc:=hP.gl;obtain⟨bn,on,ka,kc,ea,hf,-,-,m2,-,-,-⟩:=hP.tree.nodes.at hmn;rw[eda]at c2;rw[ea]at c0;rw[hm]at hj;have c0:=(hb.cell (p:=⟨p.g,0,none⟩) hc).trans c0;have c2:=(hb.cell (p:=⟨p.g,2,none⟩) hc).trans c2;have hj:=(hb.cell (p:=⟨cd,od+i,none⟩) hg).trans hj;have m2:=(hb.cell (p:=⟨bn,on+m*5+2,none⟩) hf).trans m2;have hk:=t.nd_at hmn;rw[<-hk]at m2;obtain⟨N,hN⟩:∃N,(t.nd (m:Int)).n=N:=⟨_,rfl⟩
 rw[hN]at m2;have hC:cS t F d i=if (m:Int)=F then (if d<(t.nd F).n then some (F,d+1)else none)else some ((m:Int),0):=by unfold cS;rw[hm]
 have HC:=Hd hC;have HN:=Hd hN;have HB:=Hd hb;obtain⟨S0,ha⟩:∃g,W.heap.size=g:=⟨_,rfl⟩
 have Ha:Hid (W.heap.size<=S0+1+1):=Hd (by omega);clear hP hT O hC eda ea hm hN hk hb hh hd he;by_cases hq:(m:Int)=F
 .have HR:Hid (cS t F d i=if d<N then some ((m:Int),d+1)else none):=Hd (by rw[HC.o,if_pos hq,<-hq,HN.o])
  subst hq;clear HC;go_enter func85,ntmps85
  go_upto_region 1 with fail
  clear hX;rw[ha]at s0 s1 q0 q1 r0c r1c f0c f1c sz hc hf hg;have ho:p.g<X.heap.size:=by omega
  have hl:bn<X.heap.size:=by omega
  have hn:cd<X.heap.size:=by omega
  clear ha;have k1:((X.setCell ⟨S0+1+1,0,none⟩ (intV m)).setCell ⟨S0+1+1,1,none⟩ (intV (d+1))).cell? ⟨S0+1+1,1,none⟩=some (intV (d+1)):=World.cell?_setCell_same _ _ _ ((World.cell?_setCell_other _ _ _ _ (by simp)).trans r1c);have k0:((X.setCell ⟨S0+1+1,0,none⟩ (intV m)).setCell ⟨S0+1+1,1,none⟩ (intV (d+1))).cell? ⟨S0+1+1,0,none⟩=some (intV m):=(World.cell?_setCell_other _ _ _ _ (by simp)).trans (World.cell?_setCell_same _ _ _ r0c);go_wp2;go_region;go_wp2;have hi:(cS t (m:Int) d i).isSome=decide (d<N):=by rw[HR.o];split<;>simp[*]
  refine bodyPost_ret (v:=.tuple #[tmV m (d+1),.bool (decide (d<N))]) (by simp[results,results85,go_sem,loadVar,Result.andThen,k0,k1]) rfl ⟨((HB.o.setCell (show W.heap.size<=S0+1+1 from Ha.o) _).setCell (show W.heap.size<=S0+1+1 from Ha.o) _).drew,m,d+1,by rw[hi],fun q hq=>?_⟩;rw[HR.o]at hq;split at hq
  .exact(Option.some.inj hq).symm
  .cases hq
 .have hs:((m:Int) != F)=true:=by simpa using hq
  have HR:Hid (cS t F d i=some ((m:Int),0)):=Hd (by rw[HC.o,if_neg hq]);clear HC hq;go_enter func85,ntmps85
  go_upto_region 1 with fail
  clear hX;rw[ha]at s0 s1 q0 q1 r0c r1c f0c f1c sz hc hf hg;have ho:p.g<X.heap.size:=by omega
  have hl:bn<X.heap.size:=by omega
  have hn:cd<X.heap.size:=by omega
  clear ha;have k1:((X.setCell ⟨S0+1+1,0,none⟩ (intV m)).setCell ⟨S0+1+1,1,none⟩ (intV 0)).cell? ⟨S0+1+1,1,none⟩=some (intV 0):=World.cell?_setCell_same _ _ _ ((World.cell?_setCell_other _ _ _ _ (by simp)).trans r1c);have k0:((X.setCell ⟨S0+1+1,0,none⟩ (intV m)).setCell ⟨S0+1+1,1,none⟩ (intV 0)).cell? ⟨S0+1+1,0,none⟩=some (intV m):=(World.cell?_setCell_other _ _ _ _ (by simp)).trans (World.cell?_setCell_same _ _ _ r0c);go_wp2;refine bodyPost_ret (v:=.tuple #[tmV m 0,.bool true]) (by simp[results,results85,go_sem,loadVar,Result.andThen,k0,k1]) rfl ⟨(HB.o.setCell (show W.heap.size<=S0+1+1 from Ha.o) _).setCell (show W.heap.size<=S0+1+1 from Ha.o) _,m,0,by rw[HR.o];rfl,fun q hq=>?_⟩;rw[HR.o]at hq;exact(Option.some.inj hq).symm
theorem OP{w:World}{a:Option Addr}{c:Nat}{l:List Int}(h:Ints w a c l){y:Addr}(e:a=some y)(h0:0<l.length):y.block<w.heap.size:=by
 obtain⟨-,-,-,h4⟩:=h;rcases h4 with h4|⟨b,o,e2,ha,-⟩
 .omega
 .rw[e]at e2
  rw[Option.some.inj e2];exact ha
def BH(W1:World)(t:Tr)(p:bF)(mb f:Nat):Prop:=
 ∀ (F d:Int) (l:List Int) (S:Nat) (la:Option Addr) (lc:Nat) (W:World),TmOk t F d->(∀x∈l,0<=x/\x<(t.nodes.length:Int))->l.length<=1000000->sumW (l.map (wOne t f F d))=some S->KnO W1 t mb W->Ints W la lc l->(∀y,la=some y->0<l.length->y.block≠mb) ->
   Calls prog 60 #[scV p mb,tmV F d,.slice la l.length lc] W fun e w'=>e=.returned (intV (min 3001 (S:Int)))/\KnO W1 t mb w'/\Turns (fun i=>i=mb) W w'
def QN(W1:World)(t:Tr)(p:bF)(mb f:Nat):Prop:=
 ∀ (g e x:Nat) (W:World),g<t.nodes.length->(t.nd (g:Int)).kind=42->e<=8->wOne t f g e (jD t g)=some x->KnO W1 t mb W ->
   Calls prog 59 #[scV p mb,tmV g e] W fun r w'=>r=.returned (intV (min 3001 (x:Int)))/\KnO W1 t mb w'/\Turns (fun i=>i=mb) W w'
theorem DB(W1:World)(t:Tr)(L:List (List UInt8))(b:Nat)(p:bF)(mb f:Nat)(O:WtOk t)(hP:KindP t L b p W1)(hW:BH W1 t p mb f):QN W1 t p mb f:=by
 intro g e xw W hg hk hZ hx hO;have hF:prog.follows .mixedOrders=true:=by kernel_rfl
 have h4:=O.wf.bd.n;obtain⟨-,hz,a,ha,hY⟩:=O.fn g hg hk;have HX:=Hd hx;have HW:=Hd hW;have HP:=Hd hP;have hr:Below W.heap.size W ((W.alloc (.cells #[.pointer (some ⟨p.g,0,none⟩),.map (some mb)] 95)).alloc (.cells #[intV g,intV e] 120)):=(brf.alloc nlr _).alloc (by simp) _;obtain⟨X,hX⟩:∃X,(W.alloc (.cells #[.pointer (some ⟨p.g,0,none⟩),.map (some mb)] 95)).alloc (.cells #[intV g,intV e] 120)=X:=⟨_,rfl⟩
 obtain⟨ht,hl⟩:=eE W (.cells #[.pointer (some ⟨p.g,0,none⟩),.map (some mb)] 95) (.cells #[intV g,intV e] 120);rw[hX]at ht hl;have s0:X.cell? ⟨W.heap.size,0,none⟩=some (.pointer (some ⟨p.g,0,none⟩)):=za ht rfl;have s1:X.cell? ⟨W.heap.size,1,none⟩=some (.map (some mb)):=za ht rfl;have q0:X.cell? ⟨W.heap.size+1,0,none⟩=some (intV g):=za hl rfl;have q1:X.cell? ⟨W.heap.size+1,1,none⟩=some (intV e):=za hl rfl;have sz:W.heap.size+1<X.heap.size:=(Array.getElem?_eq_some_iff.1 hl).1;clear ht hl;rw[hX]at hr;have h3:=hO.lt;have Hb:=Hd (hO.step hr);have Hf:=Hd hr;have HK:=Hd hk;have HA:=Hd ha;obtain⟨D,K,h1,h2⟩:=Hb.o.own;have hd:=tF (a:=(g:Int)) (b:=(e:Int)) (by omega) (by omega) (by omega) (by omega);obtain⟨vv,ps,he,hv⟩:=h1.look_ok tmplKeyed KT (uE X) (zd:=.lit (.int .i64 0)) (zp:=[]) rfl hd;obtain⟨S0,hq⟩:∃g,W.heap.size=g:=⟨_,rfl⟩
 have Hn:=Hd hq;have H1:=Hd h1;have H2:=Hd h2;have He:=Hd hd;clear hx hW hP hO hk ha h1 h2 hd;cases hh:Maps.has D (keyT g e)with
 | true=>
   obtain⟨y,hK,hL⟩:=H2.o.val g e (by omega) (by omega) ((H2.o.mem g e (by omega) (by omega)).1 hh);obtain rfl:y=xw:=hK.unique ⟨f,HX.o⟩;rw[hL]at hv;rw[AK hv,hh]at he;have HR:Hid (Turns (fun i=>i=mb) W X):=Hd (aB Hf.o);clear hh hv hK hL HX;go_enter func59,ntmps59;rw[hq]at s0 s1 q0 q1 sz
   go_upto_region 1 with fail
   clear hX;go_wp2;go_ret;exact⟨rfl,Hb.o,HR.o⟩
 | false=>
   rw[hh]at he;have HH:=Hd hh;have hp:=HP.o.step Hb.o.base;have c0:=hp.c0;have hS:=hp.gl;obtain⟨bn,on,ka,kc,ea,hN,-,-,-,m3,-,hu⟩:=hp.tree.nodes.at hg;rw[ea]at c0;have hI:=t.nd_at hg;have hw:=O.wf.bd.k _ (List.getElem_mem hg);rw[<-hI]at m3 hu hw;have Hg:Hid ((t.nd (g:Int)).kids.getD ((t.nd (g:Int)).kids.length-1) 0=a):=Hd HA.o;obtain⟨ks,hD⟩:∃ks,(t.nd (g:Int)).kids=ks:=⟨_,rfl⟩
   rw[hD]at m3 hu hw hz Hg;obtain⟨bk,ok,ek,hs,hf⟩:=Ints.at hu (show ks.length-1<ks.length by omega)
   have hC:ks[ks.length-1]=(a:Int):=by
    have:=Hg.o;rwa[List.getD_eq_getElem?_getD,List.getElem?_eq_getElem (by omega),Option.getD_some]at this
   rw[hC]at hf;subst ek;obtain⟨n,hn⟩:∃n,ks.length=n+1:=⟨ks.length-1,by omega⟩
   rw[hn]at m3 hf hw;rw[show n+1-1=n by omega]at hf;have h7:IntKind.i64.wrap (((n+1:Nat):Int)-1)=(n:Int):=by rw[IntWalk.i64_in _ (by omega)];omega
   have hT:(n:Int)<(n:Int)+1:=by omega
   have h8:IntKind.i64.wrap (n:Int)=(n:Int):=IntWalk.i64_in _ (by omega);clear hp ea hI hu hD hh hv hC hn hz;go_enter func59,ntmps59;rw[hq]at s0 s1 q0 q1 sz
   go_upto_region 1 with fail
   clear hX hr hq;have szq:S0<X.heap.size:=by omega
   go_upto_region 3 with fail
   refine N.region_JTm 11 hF (by kernel_rfl) (by kernel_rfl) rfl (by kernel_rfl) (by kernel_rfl) (fun Wz=>Below (X).heap.size (X) Wz) (brf.drew) ?_
   iterate 11 (refine N.WalkT.cons ?_ (N.StepP.pure rfl ?_) ?_;rotate_left;(intro W hJ;obtain⟨hQ,hR⟩:=bcell hJ;go_simp;rfl);simp only[N.pz])
   refine N.WalkT.nil fun W hJ=>?_;rename World=>X3
   have Hl:=Hd (Hb.o.step hJ);have Hj:=Hd hJ;have sz3:S0+1<X3.heap.size:=Nat.lt_of_lt_of_le sz hJ.size;have s0:=(hJ.cell (p:=⟨S0,0,none⟩) (show S0<_ by omega)).trans s0;have s1:=(hJ.cell (p:=⟨S0,1,none⟩) (show S0<_ by omega)).trans s1;have q0:=(hJ.cell (p:=⟨S0+1,0,none⟩) (show S0+1<_ by omega)).trans q0;have q1:=(hJ.cell (p:=⟨S0+1,1,none⟩) (show S0+1<_ by omega)).trans q1;have hf:=(hJ.cell (p:=⟨bk,ok+n,none⟩) hs).trans hf;have hs:=Nat.lt_of_lt_of_le hs hJ.size;clear hJ c0 hS hN m3 sz he;have szq:S0<X3.heap.size:=by omega
   go_upto_region 4 with fail
   refine N.region_M 9 hF (by kernel_rfl) (by kernel_rfl) rfl (by kernel_rfl) (by kernel_rfl) (fun _ _=>False) N.Pans.no (fun Wz=>Below (X3).heap.size (X3) Wz) (fun Wy Wz=>Below Wy.heap.size Wy Wz) (brf.drew) [.fix ?vG2_0,.fix ?vG2_1,.fix ?vG2_2,.fix ?vG2_3,.fix ?vG2_4,.fix ?vG2_5,.fix ?vG2_6,.fix ?vG2_7,.dep [] (N.NewS (X3).heap.size #[intV a] 3 1)] [[],[],[],[],[],[],[],[],[]] rfl (by kernel_rfl) (N.sts_kd ⟨trivial,trivial,trivial,trivial,trivial,trivial,trivial,trivial,N.NewS.st,trivial⟩) fun x=>?_;rotate_left 8
   iterate 8 (refine N.WalkM.fix ?_ ?_;refine N.StepS.known rfl (fun _=>brf) ?_;intro W hJ hP;obtain⟨hQ,hR⟩:=bcell hJ;go_simp;rfl;simp only[N.pz])
   refine N.WalkM.dep ?sG2_8 ?rG2_8;case sG2_8=>exact N.StepS.runs rfl (fun W hJ _=>⟨_,_,(by(go_simp;try rfl)),hJ.alloc hJ.size _,brf.alloc nlr _,⟨W.heap.size,rfl,hJ.size,heap_alloc_new _ _⟩⟩)
   simp only[N.pz];refine N.WalkM.nil fun W hJ hH=>?_;obtain⟨g8,hV,h0,hG⟩:N.NewS (X3).heap.size #[intV a] 3 1 [] (x 8) W:=hH 8;generalize x 8=y8 at *;subst hV;rename World=>X4
   have Hm:=Hd (Hl.o.step hJ);have Hk:=Hd hJ;have sz4:S0+1<X4.heap.size:=Nat.lt_of_lt_of_le sz3 hJ.size;have s0:=(hJ.cell (p:=⟨S0,0,none⟩) (show S0<_ by omega)).trans s0;have s1:=(hJ.cell (p:=⟨S0,1,none⟩) (show S0<_ by omega)).trans s1;have q0:=(hJ.cell (p:=⟨S0+1,0,none⟩) (show S0+1<_ by omega)).trans q0;have q1:=(hJ.cell (p:=⟨S0+1,1,none⟩) (show S0+1<_ by omega)).trans q1;have hU:=Hn.o;have hm:S0≠mb:=by omega
   have ho:S0+1≠mb:=by omega
   have Hh:=Hd (HW.o g e [(a:Int)] xw (some ⟨g8,0,none⟩) 1 X4 (.inr ⟨g,rfl,hg,HK.o,by omega,by omega⟩) (by intro y hy;simp only[List.mem_singleton]at hy;omega) (by simp) (by rw[List.map_cons,List.map_nil,<-HA.o,HX.o];rfl) Hm.o (qX hG) (by intro y hy _;simp only[Option.some.injEq]at hy;rw[<-hy];show g8≠mb;omega));clear hJ hf hs hG sz3 hU;simp only[List.drop_succ_cons,List.drop_zero]
   go_upto_region 5 with(go_at_call 60;refine Hh.o.mono ?_;rintro r w5 ⟨rfl,hA,hB⟩;have Hc:=Hd hA;have Ha:=Hd hB;clear hA hB)
   have s0:=Ha.o.keepC s0 hm;have s1:=Ha.o.keepC s1 hm;have q0:=Ha.o.keepC q0 ho;have q1:=Ha.o.keepC q1 ho;obtain⟨D5,K5,h5,m5⟩:=Hc.o.own;have h6:Maps.size D5<=16000000:=Nat.le_trans m5.sz (CI _ _ m5.nodup m5.le);obtain⟨K7,m7⟩:=m5.put (show g<1000000 by omega) (show e<16 by omega) ⟨f,HX.o⟩;have H5:=Hd h5;have M7:=Hd m7;have hE:=Hc.o.lo;clear h5 m5 m7
   go_wp2_with (at_mapUpdate;refine wpList_mapUpdate_own _ rfl _ _ _ 93 rfl 120 3 tmplKeyed KT rdV mb (Maps.size D5) D5 rfl H5.o (by unfold maxLen;omega) _ _ (keyT g e) rfl rfl He.o (.lit (.int .i64 (min 3001 (xw:Int)))) [] rfl ?_;intro w7 hc hb;have Ho:=Hd hc;have Hi:=Hd hb;clear hc hb)
   go_ret;have hi:=Hi.o;have hM:Turns (fun i=>i=mb) w5 w7:=⟨hi.os,hi.tape,hi.output,hi.size,fun j hj hne=>hi.block j hj (by intro e;exact hne (Option.some.inj e))⟩
   exact⟨rfl,⟨Hc.o.base.grown hi Hc.o.base.size (fun j e=>by rw[<-Option.some.inj e];exact hE),⟨_,K7,JK Ho.o,M7.out⟩,hE⟩,((((aB Hf.o).trans (aB Hj.o)).trans (aB Hk.o)).trans Ha.o).trans hM⟩
theorem OE(W1:World)(t:Tr)(L:List (List UInt8))(b:Nat)(p:bF)(mb f:Nat)(O:WtOk t)(hP:KindP t L b p W1)(hW:∀f',f'<f->BH W1 t p mb f')(hB:∀f',f'<f->QN W1 t p mb f'):BH W1 t p mb f:=by
 intro F d l S la lc W hE hl hll hS hO hr hU;have hn3:=O.wf.bd.n;have HW:=Hd hW;have HB:=Hd hB;have HP:=Hd hP;have HL:=Hd hl;have HS:=Hd hS;have HC:=Hd hr;have Hy:=Hd hU;have Hq:=Hd hE;have Hf:=Hd O;obtain⟨r0,r1,r2,r3⟩:=hE.rng hn3;have hv:Below W.heap.size W ((W.alloc (.cells #[.pointer (some ⟨p.g,0,none⟩),.map (some mb)] 95)).alloc (.cells #[intV F,intV d] 120)):=(brf.alloc nlr _).alloc (by simp) _;obtain⟨X,hX⟩:∃X,(W.alloc (.cells #[.pointer (some ⟨p.g,0,none⟩),.map (some mb)] 95)).alloc (.cells #[intV F,intV d] 120)=X:=⟨_,rfl⟩
 obtain⟨hw,hq⟩:=eE W (.cells #[.pointer (some ⟨p.g,0,none⟩),.map (some mb)] 95) (.cells #[intV F,intV d] 120);rw[hX]at hw hq;have S0c:Hid (X.cell? ⟨W.heap.size,0,none⟩=some (.pointer (some ⟨p.g,0,none⟩))):=Hd (za hw rfl);have S1c:Hid (X.cell? ⟨W.heap.size,1,none⟩=some (.map (some mb))):=Hd (za hw rfl);have Q0c:Hid (X.cell? ⟨W.heap.size+1,0,none⟩=some (intV F)):=Hd (za hq rfl);have Q1c:Hid (X.cell? ⟨W.heap.size+1,1,none⟩=some (intV d)):=Hd (za hq rfl);have sz:W.heap.size+1<X.heap.size:=(Array.getElem?_eq_some_iff.1 hq).1;clear hw hq;rw[hX]at hv;have h9:=hO.lt;have hlo:=hO.lo;have Hz:=Hd (hO.step hv);have Hr:=Hd hv;clear hW hB hP hl hS hr hU hE O hO hv;go_enter func60,ntmps60
 go_upto_region 1 with fail
 clear hX;obtain⟨s0,hI⟩:∃g,W.heap.size=g:=⟨_,rfl⟩
 rw[hI]at S0c S1c Q0c Q1c sz h9|-;have HE:=Hd hI;clear hI;have he:s0≠mb:=by omega
 have hg:s0+1≠mb:=by omega
 go_wp2
 go_loopw [6,14] (fun t6 t14 wr=>∃(j:Nat) (sv:Int),t14=.int .i64 j/\t6=.int .i64 sv/\j<=l.length/\0<=sv/\sv<=10000*(j:Int)/\Hid (∃R:Nat,sumW ((l.drop j).map (wOne t f F d))=some R/\min 3001 (sv+(R:Int))=min 3001 (S:Int))/\Hid (KnO W1 t mb wr)/\Hid (Turns (fun i=>i=mb) X wr)) (fun _ t14 _=>l.length-(intOf t14).toNat)
 case atStart=>exact⟨0,0,rfl,rfl,Nat.zero_le _,by omega,by omega,Hd ⟨S,by simpa using HS.o,by omega⟩,Hz,Hd (Turns.refl _ _)⟩
 case round=>
  obtain⟨j,sv,rfl,rfl,hj,hs1,hs2,HR,HO,HT⟩:=hrel;by_cases hlt:j<l.length
  .obtain⟨R,hR,hu⟩:=HR.o
   rw[List.drop_eq_getElem_cons hlt,List.map_cons]at hR;obtain⟨A,R',hA,hM,hN⟩:=KO hR;obtain⟨q1,q2⟩:=HL.o _ (List.getElem_mem hlt);obtain⟨bs,os,es,hbs,hF⟩:=Ints.at HC.o hlt;have h7:bs≠mb:=Hy.o _ es (by omega);have hF:=((aB Hr.o).trans HT.o).keepC hF h7;subst es;obtain⟨a,ha⟩:=Int.eq_ofNat_of_zero_le q1;rw[ha]at hA hF q2;have ho:a<t.nodes.length:=by omega
   obtain⟨f',hf⟩:∃f',f=f'+1:=by
    cases f with
    |zero=>cases hA
    |succ f'=>exact⟨f',rfl⟩
   have hT:=HW.o f' (by omega);have hJ:=HB.o f' (by omega);have hc:=hA;rw[hf,wOne]at hc;cases hsm:sumW ((t.nd (a:Int)).kids.map (wOne t f' F d))with
   |none=>rw[hsm]at hc;cases hc
   |some s=>
   rw[hsm]at hc;simp only[Option.bind_some]at hc;have hC:=HP.o.step HO.o.base;have c0:=hC.c0;have hgl:=hC.gl;obtain⟨bn,on,ka,kc,ea,hp,m0,m1,m2,m3,m4,hG⟩:=HP.o.tree.nodes.at ho;rw[ea]at c0;have hb:=HO.o.base;have m0:=(hb.cell (p:=⟨bn,on+a*5,none⟩) hp).trans m0;have m1:=(hb.cell (p:=⟨bn,on+a*5+1,none⟩) hp).trans m1;have m2:=(hb.cell (p:=⟨bn,on+a*5+2,none⟩) hp).trans m2;have m3:=(hb.cell (p:=⟨bn,on+a*5+3,none⟩) hp).trans m3;have m4:=(hb.cell (p:=⟨bn,on+a*5+4,none⟩) hp).trans m4;have hs:=Hf.o.wf.kid a ho;have hy:=Hf.o.wf.bd.k _ (List.getElem_mem ho)
   have hi:∀y,ka=some y->0<t.nodes[a].kids.length->y.block≠mb:=fun y e h0=>by
    have:=OP hG e h0;omega
   have hk:Ints wr ka kc t.nodes[a].kids:=Row.mono hG hb nlr;rw[<-t.nd_at ho]at m0 m1 m2 m3 m4 hs hy hk hi;have s0c:=HT.o.keepC S0c.out he;have s1c:=HT.o.keepC S1c.out he;have q0c:=HT.o.keepC Q0c.out hg;have q1c:=HT.o.keepC Q1c.out hg;have hszr:s0+1<wr.heap.size:=Nat.lt_of_lt_of_le sz HT.o.size;have hszq:s0<wr.heap.size:=by omega
   obtain⟨D,hD⟩:∃D,t.nd (a:Int)=D:=⟨_,rfl⟩
   rw[hD]at m0 m1 m2 m3 m4 hs hy hk hsm hc hi;obtain⟨k,tx,nn,kids,pos⟩:=D;simp only at m0 m1 m2 m3 m4 hs hy hk hsm hc hi;have HY:Hid (Below wr.heap.size wr (wr.alloc (.cells #[.int .u8 k,strV tx,intV nn,.slice ka kids.length kc,intV pos] 31))):=Hd (brf.alloc nlr _);have Hg:=Hd (hT F d kids s ka kc _ Hq.o (fun x hx=>by have:=hs x hx;omega) hy hsm (HO.o.step HY.o) (Row.mono hk HY.o nlr) hi);obtain⟨Mv,hz⟩:∃m,min 3001 (s:Int)=m:=⟨_,rfl⟩
   have hY:0<=Mv/\Mv<=3001:=by omega
   obtain⟨hM1,hM2⟩:=hY;rw[hz]at Hg;have Hk:=Hd hz;have Hm:=Hd hM;have Hn:=Hd hu;have Hl:=Hd hN;have Hu:=Hd hD;have HJ:=Hd hlt;have Hv:=Hd hJ;have Hj:Hid (wr.heap.size≠mb):=Hd (by omega);have hgr:wr.heap.size<(wr.alloc (.cells #[.int .u8 k,strV tx,intV nn,.slice ka kids.length kc,intV pos] 31)).heap.size:=by simp
   have n0:(wr.alloc (.cells #[.int .u8 k,strV tx,intV nn,.slice ka kids.length kc,intV pos] 31)).cell? ⟨wr.heap.size,0,none⟩=some (.int .u8 k):=by simp
   have N0:=Hd n0;have Ho:=Hd (HT.o.trans (aB HY.o));clear hR hM hu hA hT hC hb hs hG hk hsm hz hN hD hJ hi ea ha q1 n0;by_cases k21:k=21
   .subst k21
    obtain⟨m,hm,hmn,hmk⟩:=Hf.o.call a ho (by rw[Hu.o]);have Ht:=Hd (fun W5 (h5:KnO W1 t mb W5)=>xF t L b p mb F d a m W5 Hf.o Hq.o ho hm hmn (HP.o.step h5.base))
    cases hcl:cS t F d a with
    | none=>
      have Hc:Hid (A=1+s):=Hd (by
       rw[hcl]at hc
       exact(Option.some.inj hc).symm)
      have Hi:=Hd hcl;clear hc hcl hm
      go_wp2_with (first
       | (have:=Hb;clear this;go_at_call 85;refine(Ht.o _ Hb.o).mono ?_;rw[Hi.o];rintro r w6 ⟨hd,g6,h6,rfl,-⟩;simp only[Option.isSome_none];have s0c:=(hd.cell (p:=⟨s0,0,none⟩) (show s0<_ by omega)).trans s0c;have s1c:=(hd.cell (p:=⟨s0,1,none⟩) (show s0<_ by omega)).trans s1c;have z6:s0<w6.heap.size:=(by have:=hd.size;omega);have He:=Hd (hd.alloc hd.size (.cells #[intV g6,intV h6] 120));have Hh:=Hd (Hb.o.step He.o);have Hp:=Hd (Ha.o.trans (aB He.o));clear hd)
       | (go_at_call 60;refine Hg.o.mono ?_;rintro r w5 ⟨rfl,hn,hh⟩;have n0:=hh.keepC N0.out Hj.o;have Ha:=Hd (Ho.o.trans hh);have s0c:=Ha.o.keepC S0c.out he;have s1c:=Ha.o.keepC S1c.out he;have q0c:=Ha.o.keepC Q0c.out hg;have q1c:=Ha.o.keepC Q1c.out hg;have z5:s0+1<w5.heap.size:=Nat.lt_of_lt_of_le sz Ha.o.size;have Hb:=Hd hn;clear hn hh))
      go_roundw
      case rel=>exact⟨j+1,_,by go_num,rfl,by omega,by omega,by omega,Hd ⟨R',Hm.o,by have h1:=Hc.o;have h2:=Hn.o;have h3:=Hl.o;have h4:=Hk.o;omega⟩,Hh,Hp⟩
      case measure=>simp[intOf];omega
    | some q=>
      obtain⟨g,e⟩:=q;obtain⟨m',rfl,-,hH,ht,h8,he8⟩:=IA Hf.o Hq.o ho (by rw[Hu.o]) hcl;obtain⟨en,rfl⟩:=Int.eq_ofNat_of_zero_le h8;rw[hcl]at hc;cases hbw:wOne t f' m' en (jD t m')with
      |none=>simp only[hbw]at hc;cases hc
      |some bw=>
      have Hc:Hid (A=1+s+bw):=Hd (by
       simp only[hbw]at hc
       exact(Option.some.inj hc).symm)
      have Hi:=Hd hcl;have Hw:=Hd hbw;have Hx:=Hd ht;obtain⟨Bv,hK⟩:∃m,min 3001 (bw:Int)=m:=⟨_,rfl⟩
      obtain⟨hB1,hB2⟩:0<=Bv/\Bv<=3001:=by omega
      have Hs:=Hd hK;clear hc hcl hm hbw hK ht
      go_wp2_with (first
       | (have:=Hh;clear this;go_at_call 59;refine(Hv.o m' en bw _ hH Hx.o (by omega) Hw.o Hh.o).mono ?_;rw[Hs.o];rintro r w8 ⟨rfl,hL,hQ⟩;have HA:=Hd hL;have HD:=Hd (Hp.o.trans hQ);clear hL hQ)
       | (have:=Hb;clear this;go_at_call 85;refine(Ht.o _ Hb.o).mono ?_;rw[Hi.o];rintro r w6 ⟨hd,g6,h6,rfl,hV⟩;simp only[Option.isSome_some];obtain⟨rfl,rfl⟩:(m':Int)=g6/\(en:Int)=h6:=Prod.mk.inj (hV _ rfl);clear hV;have s0c:=(hd.cell (p:=⟨s0,0,none⟩) (show s0<_ by omega)).trans s0c;have s1c:=(hd.cell (p:=⟨s0,1,none⟩) (show s0<_ by omega)).trans s1c;have z6:s0<w6.heap.size:=(by have:=hd.size;omega);have He:=Hd (hd.alloc hd.size (.cells #[intV m',intV en] 120));have Hh:=Hd (Hb.o.step He.o);have Hp:=Hd (Ha.o.trans (aB He.o));clear hd)
       | (go_at_call 60;refine Hg.o.mono ?_;rintro r w5 ⟨rfl,hn,hh⟩;have n0:=hh.keepC N0.out Hj.o;have Ha:=Hd (Ho.o.trans hh);have s0c:=Ha.o.keepC S0c.out he;have s1c:=Ha.o.keepC S1c.out he;have q0c:=Ha.o.keepC Q0c.out hg;have q1c:=Ha.o.keepC Q1c.out hg;have z5:s0+1<w5.heap.size:=Nat.lt_of_lt_of_le sz Ha.o.size;have Hb:=Hd hn;clear hn hh))
      go_roundw
      case rel=>exact⟨j+1,_,by go_num,rfl,by omega,by omega,by omega,Hd ⟨R',Hm.o,by have h1:=Hc.o;have h2:=Hn.o;have h3:=Hl.o;have h4:=Hk.o;have h5:=Hs.o;omega⟩,HA,HD⟩
      case measure=>simp[intOf];omega
   .have hk2:(k != 21)=true:=by simpa using k21
    have Hc:Hid (A=1+s):=Hd (by
     have:(k==21)=false:=by simpa using k21
     rw[this]at hc
     exact(Option.some.inj hc).symm)
    clear hc k21
    go_wp2_with (go_at_call 60;refine Hg.o.mono ?_;rintro r w5 ⟨rfl,hn,hh⟩;have n0:=hh.keepC N0.out Hj.o;have Hb:=Hd hn;have Ha:=Hd (Ho.o.trans hh);clear hn hh)
    go_roundw
    case rel=>exact⟨j+1,sv+(1+Mv),by go_num,by go_num,by omega,by omega,by omega,Hd ⟨R',Hm.o,by have h1:=Hc.o;have h2:=Hn.o;have h3:=Hl.o;have h4:=Hk.o;omega⟩,Hb,Ha⟩
    case measure=>simp[intOf];omega
  .obtain rfl:j=l.length:=by omega
   obtain⟨R,hR,hu⟩:=HR.o;have hZ:R=0:=by rw[List.drop_length]at hR;exact(Option.some.inj hR).symm
   have HV:Hid (min sv 3001=min 3001 (S:Int)):=Hd (by omega);clear hR hu hZ;go_wp2;refine bodyPost_ret (v:=.int .i64 (min sv 3001)) (by simp[results,results60,go_sem]) rfl ⟨by rw[HV.o],HO.o,(aB Hr.o).trans HT.o⟩
theorem xC(W1:World)(t:Tr)(L:List (List UInt8))(b:Nat)(p:bF)(mb:Nat)(O:WtOk t)(hP:KindP t L b p W1):∀f,BH W1 t p mb f:=fun f=>by
 induction f using Nat.strongRecOn with
 |ind f ih=>exact OE W1 t L b p mb f O hP ih fun f' hf=>DB W1 t L b p mb f' O hP (ih f' hf)
theorem rJ{B x:Nat}{A W W':World}(h:Below B A W)(hT:Turns (fun i=>i=x) W W')(hx:B<=x)(hs:B<=W.heap.size):Below B A W':=
 h.trans ⟨hT.os,hT.tape,hT.output,hT.size,fun k hk=>hT.block k (by omega) (by omega)⟩
theorem NF{W:World}{mb:Nat}(h:W.heap[mb]?=some (.map #[] 0)):xV W mb 0 (.map []):=by
 obtain⟨es,clock,hb,F,hs,hD⟩:=(World.ownsMap_made W prog 120 rdV:xV (W.alloc (.map #[] 0)) W.heap.size 0 (.map []))
 rw[World.alloc_heap_new]at hb;simp only[Option.some.injEq,Obj.map.injEq]at hb;obtain⟨rfl,rfl⟩:=hb;exact⟨#[],0,h,F,hs,hD⟩
theorem oY(t:Tr)(p:bF)(W:World):Calls prog 40 #[.pointer (some ⟨p.g,0,none⟩)] W fun e w'=>∃mb,e=.returned (scV p mb)/\KnO W t mb w':=by
 have hd:=@run_makeMap prog;obtain⟨ha,hc⟩:=eE W (.cells #[.pointer none,.map none] 95) (.map #[] 0);have hb:Below W.heap.size W ((W.alloc (.cells #[.pointer none,.map none] 95)).alloc (.map #[] 0)):=(brf.alloc nlr _).alloc (by simp) _;obtain⟨X,hX⟩:∃X,(W.alloc (.cells #[.pointer none,.map none] 95)).alloc (.map #[] 0)=X:=⟨_,rfl⟩
 rw[hX]at ha hc hb;have r0c:X.cell? ⟨W.heap.size,0,none⟩=some (.pointer none):=za ha rfl;have r1c:X.cell? ⟨W.heap.size,1,none⟩=some (.map none):=za ha rfl;have f0c:X.frozen? ⟨W.heap.size,0,none⟩=false:=zr ha;have f1c:X.frozen? ⟨W.heap.size,1,none⟩=false:=zr ha;have k1:((X.setCell ⟨W.heap.size,0,none⟩ (.pointer (some ⟨p.g,0,none⟩))).setCell ⟨W.heap.size,1,none⟩ (.map (some (W.heap.size+1)))).cell? ⟨W.heap.size,1,none⟩=some (.map (some (W.heap.size+1))):=World.cell?_setCell_same _ _ _ ((World.cell?_setCell_other _ _ _ _ (by simp)).trans r1c);have k0:((X.setCell ⟨W.heap.size,0,none⟩ (.pointer (some ⟨p.g,0,none⟩))).setCell ⟨W.heap.size,1,none⟩ (.map (some (W.heap.size+1)))).cell? ⟨W.heap.size,0,none⟩=some (.pointer (some ⟨p.g,0,none⟩)):=(World.cell?_setCell_other _ _ _ _ (by simp)).trans (World.cell?_setCell_same _ _ _ r0c)
 have HM:Hid (((X.setCell ⟨W.heap.size,0,none⟩ (.pointer (some ⟨p.g,0,none⟩))).setCell ⟨W.heap.size,1,none⟩ (.map (some (W.heap.size+1)))).heap[W.heap.size+1]?=some (.map #[] 0)):=Hd (by
  exact(zQ (show W.heap.size+1≠W.heap.size by omega)).trans ((zQ (show W.heap.size+1≠W.heap.size by omega)).trans hc))
 have HB:=Hd hb;clear ha hc hb;go_enter func40,ntmps40;go_wp2;refine bodyPost_ret (v:=scV p (W.heap.size+1)) (by simp[results,results40,go_sem,loadVar,Result.andThen,k0,k1]) rfl ⟨W.heap.size+1,rfl,(HB.o.setCell nlr _).setCell nlr _,⟨.map [],[],NF HM.o,MemoD.nil t⟩,by omega⟩
theorem mQ(W1:World)(t:Tr)(L:List (List UInt8))(b:Nat)(p:bF)(mb f i w:Nat)(W:World)(O:WtOk t)(hP:KindP t L b p W1)(hi:i<t.nodes.length)(hw:jL t f i=some w)(hO:KnO W1 t mb W) :
 Calls prog 41 #[scV p mb,intV i] W fun e w'=>e=.returned (intV (min 3001 (w:Int)))/\KnO W1 t mb w'/\Turns (fun i=>i=mb) W w':=by
 have hs:=O.wf.bd.n;have hb:Below W.heap.size W (W.alloc (.cells #[.pointer (some ⟨p.g,0,none⟩),.map (some mb)] 95)):=brf.alloc nlr _;obtain⟨X,hX⟩:∃X,W.alloc (.cells #[.pointer (some ⟨p.g,0,none⟩),.map (some mb)] 95)=X:=⟨_,rfl⟩
 have hh:X.heap[W.heap.size]?=some (.cells #[.pointer (some ⟨p.g,0,none⟩),.map (some mb)] 95 (0,0)):=by rw[<-hX];exact World.alloc_heap_new _ _
 have s0:X.cell? ⟨W.heap.size,0,none⟩=some (.pointer (some ⟨p.g,0,none⟩)):=za hh rfl;have s1:X.cell? ⟨W.heap.size,1,none⟩=some (.map (some mb)):=za hh rfl;have sz:W.heap.size<X.heap.size:=(Array.getElem?_eq_some_iff.1 hh).1;rw[hX]at hb;have hr:=hO.lt;have hq:=hO.lo;have Hb:=Hd (hO.step hb);have hm:=hP.step Hb.o.base;have c0:=hm.c0;have hp:=hm.gl;obtain⟨bn,on,ka,kc,ea,hg,m0,m1,m2,m3,m4,hn⟩:=hP.tree.nodes.at hi;rw[ea]at c0;have ha:=Hb.o.base;have m0:=(ha.cell (p:=⟨bn,on+i*5,none⟩) hg).trans m0;have m1:=(ha.cell (p:=⟨bn,on+i*5+1,none⟩) hg).trans m1;have m2:=(ha.cell (p:=⟨bn,on+i*5+2,none⟩) hg).trans m2;have m3:=(ha.cell (p:=⟨bn,on+i*5+3,none⟩) hg).trans m3;have m4:=(ha.cell (p:=⟨bn,on+i*5+4,none⟩) hg).trans m4;have hj:=O.wf.kid i hi;have hk:=O.wf.bd.k _ (List.getElem_mem hi)
 have hc:∀y,ka=some y->0<t.nodes[i].kids.length->y.block≠mb:=fun y e h0=>by
  have:=OP hn e h0;omega
 have hd:Ints X ka kc t.nodes[i].kids:=Row.mono hn ha nlr;rw[<-t.nd_at hi]at m0 m1 m2 m3 m4 hj hk hd hc;have HW:=Hd (xC W1 t L b p mb O hP f);have Hh:=Hd (DB W1 t L b p mb f O hP (xC W1 t L b p mb O hP f));unfold jL at hw;have Hm:=Hd (fun(h:(t.nd (i:Int)).kind=42)=>h);obtain⟨D,hD⟩:∃D,t.nd (i:Int)=D:=⟨_,rfl⟩
 have Hi:=Hd hD;rw[hD]at m0 m1 m2 m3 m4 hj hk hd hc hw;obtain⟨k,tx,nn,kids,pos⟩:=D;simp only at m0 m1 m2 m3 m4 hj hk hd hc hw;have HY:Hid (Below X.heap.size X (X.alloc (.cells #[.int .u8 k,strV tx,intV nn,.slice ka kids.length kc,intV pos] 31))):=Hd (brf.alloc nlr _);have Hc:=Hd (Hb.o.step HY.o);have Hf:Hid (Turns (fun i=>i=mb) W (X.alloc (.cells #[.int .u8 k,strV tx,intV nn,.slice ka kids.length kc,intV pos] 31))):=Hd ((aB hb).trans (aB HY.o));have Hl:=Hd (Row.mono hd HY.o nlr);have Hj:=Hd hc;have Hk:Hid (∀x∈kids,0<=x/\x<(t.nodes.length:Int)):=Hd fun x hx=>by have:=hj x hx;omega
 clear hm hP hn hd hc hj hD O ea hb ha hh hO;obtain⟨Mv,hl⟩:∃m,min 3001 (w:Int)=m:=⟨_,rfl⟩
 have Ha:=Hd hl;rw[hl];clear hl;by_cases k42:k=42
 .subst k42
  have HC:=Hd (Hh.o i 0 w _ hi (by rw[Hi.o]) (by omega) (by simpa using hw) Hc.o);rw[Ha.o]at HC;clear hw;go_enter func41,ntmps41
  go_wp2_with (go_at_call 59;refine HC.o.mono ?_;rintro e w5 ⟨rfl,he,hf⟩;have He:=Hd he;have Hg:=Hd (Hf.o.trans hf);clear he hf)
  go_ret;exact⟨rfl,He.o,Hg.o⟩
 .have q42:(k==42)=false:=by simpa using k42
  rw[q42]at hw;simp only[Bool.false_eq_true,if_false]at hw;by_cases kk:k=43\/k=44\/k=46
  .have ho:sumW (kids.map (wOne t f (-1) 0))=some w:=by
    have:(k==43||k==44||k==46)=true:=by simp;omega
    rwa[if_pos this]at hw
   have HC:=Hd (HW.o (-1) 0 kids w ka kc _ (.inl ⟨rfl,rfl⟩) Hk.o hk ho Hc.o Hl.o Hj.o);rw[Ha.o]at HC;clear hw ho k42;rcases kk with rfl|rfl|rfl
   all_goals
    go_enter func41,ntmps41
    go_wp2_with (go_at_call 60;refine HC.o.mono ?_;rintro e w5 ⟨rfl,he,hf⟩;have He:=Hd he;have Hg:=Hd (Hf.o.trans hf);clear he hf)
    go_ret;exact⟨rfl,He.o,Hg.o⟩
  .have q43:(k==43)=false:=by simp;omega
   have q44:(k==44)=false:=by simp;omega
   have q46:(k==46)=false:=by simp;omega
   have HV:Hid (Mv=0):=Hd (by
    have:=Ha.o;rw[q43,q44,q46]at hw;have hw:some 0=some w:=hw;cases hw
    omega)
   clear hw k42 kk;go_enter func41,ntmps41;go_wp2;go_ret;exact⟨by rw[HV.o];rfl,Hc.o,Hf.o⟩
def QX(t:Tr)(x:Int)(r:Int×Int):Prop:=
 (0<=x/\x<(t.items.length:Int)/\∃f w,jL t f (t.items.getD x.toNat 0)=some w/\r=(min 3001 (w:Int),0))\/(¬(0<=x/\x<(t.items.length:Int))/\r=(0,7))
def RetWeigh(w:World)(t:Tr)(x:Int)(e:Ending)(w':World):Prop:=
 Below w.heap.size w w'/\((InfOk t/\∃r:Int×Int,QX t x r/\e=.returned (.tuple #[intV r.1,intV r.2]))\/∃k er:Int,InfO t k er/\e=.returned (.tuple #[intV 0,intV er]))
theorem pA(v:TreeV)(t:Tr)(x:Int)(w:World)(bd:Bd t)(rg:Rg t)(hg:GVK w)(h:IsTree w v t) :
 Calls prog 20 #[v.val t,intV x] w (RetWeigh w t x):=by
 have hy:prog.follows .mixedOrders=true:=by kernel_rfl
 have hB:=bd.i;have hc:=hg.step (boxT_below (v:=v) (t:=t));have hd:=h.mono (boxT_below (v:=v) (t:=t)) nlr;by_cases hok:InfOk t
 .have HI:=Hd (sE v t _ bd rg hc hd hok)
  have HO:=Hd (RV bd hok.1);have Hb:Hid (∀i:Nat,i<t.nodes.length->∃f w,jL t f i=some w):=Hd (fun i hi=>BZ bd hok.1 hi);have Ha:=Hd hok;clear h hg bd rg hc hd hok;obtain⟨na,nc,ia,ic⟩:=v;unfold TreeV.val;have INF:=True.intro;by_cases hr:0<=x/\x<(t.items.length:Int)
  .obtain⟨m,rfl⟩:=Int.eq_ofNat_of_zero_le hr.1
   have hm:m<t.items.length:=by omega
   have hD:¬(m:Int)<0:=by omega
   have hz:¬(t.items.length:Int)<=(m:Int):=by omega
   have hA:(m:Int)<(t.items.length:Int):=by omega
   clear hr;go_enter func20,ntmps20
   go_upto_region 2 with(go_at_call 25;refine HI.o.mono ?_;rintro e w2 ⟨p,w1,rfl,-,hb,hO⟩;have HK:=Hd hO;have HB:=Hd (hO.all hb);clear hb hO)
   have hP:=HK.o.prog;have c1:=hP.c1;have he:=hP.gl;obtain⟨bi,oi,ei,hv,hp⟩:=hP.tree.items.at hm;have hh:=HO.o.wf.item _ (List.getElem_mem hm);obtain⟨a,ha⟩:=Int.eq_ofNat_of_zero_le hh.1;rw[ha]at hp hh;rw[ei]at c1;have hl:a<t.nodes.length:=by omega
   have HA:Hid (t.items.getD (Int.toNat m) 0=a):=Hd (by rw[Int.toNat_natCast,List.getD_eq_getElem?_getD,List.getElem?_eq_getElem hm,Option.getD_some,ha]);obtain⟨f,wv,hf⟩:=Hb.o a hl;have HF:=Hd hf;have HP:=Hd hP;clear hP ha hf ei hh
   go_upto_region 6 with fail
   refine N.region_M 10 hy (by kernel_rfl) (by kernel_rfl) rfl (by kernel_rfl) (by kernel_rfl) (fun _ _=>False) N.Pans.no (fun Wz=>Below (w2).heap.size (w2) Wz) (fun Wy Wz=>Below Wy.heap.size Wy Wz) (brf.drew) [.fix ?vG1_0,.dep [] (fun _ v W=>∃mb,v=scV p mb/\KnO w2 t mb W),.fix ?vG1_2,.fix ?vG1_3,.fix ?vG1_4,.fix ?vG1_5,.fix ?vG1_6,.fix ?vG1_7,.fix ?vG1_8,.fix ?vG1_9] [[],[],[],[],[],[],[],[],[],[]] rfl (by kernel_rfl) (N.sts_kd ⟨trivial,(fun _ _ _ _ hk h=>by obtain⟨mb,h1,h2⟩:=h;exact⟨mb,h1,h2.step hk⟩),trivial,trivial,trivial,trivial,trivial,trivial,trivial,trivial,trivial⟩) fun x=>?_;rotate_left 9;refine N.WalkM.fix ?_ ?_;refine N.StepS.known rfl (fun _=>brf) ?_;intro W hJ hP;obtain⟨ho,hq⟩:=bcell hJ;go_simp;rfl;simp only[N.pz];refine N.WalkM.dep ?sG1_1 ?rG1_1;case sG1_1=>(refine N.StepS.call' (f:=40) (args:=#[.pointer (some ⟨p.g,0,none⟩)]) rfl ?_ ?_;(intro W hJ hP;obtain⟨ho,hq⟩:=bcell hJ;(go_simp;try rfl));(intro W hJ hP;refine(oY t p W).mono ?_;rintro e w' ⟨mb,rfl,hk⟩;exact⟨_,rfl,hJ.trans (hk.base.mono hJ.size),hk.base,mb,rfl,⟨hJ.trans (hk.base.mono hJ.size),hk.own,Nat.le_trans hJ.size hk.lo⟩⟩))
   simp only[N.pz]
   iterate 8 (refine N.WalkM.fix ?_ ?_;refine N.StepS.known rfl (fun _=>brf) ?_;intro W hJ hP;obtain⟨ho,hq⟩:=bcell hJ;go_simp;rfl;simp only[N.pz])
   refine N.WalkM.nil fun W hJ hH=>?_;obtain⟨mb,hw,ht⟩:∃mb,x 1=scV p mb/\KnO w2 t mb W:=hH 1;generalize x 1=y1 at *;subst hw;have He:=Hd ht;clear hH ht hJ c1 he hv hp;have HC:=Hd (mQ w2 t _ _ p mb f a wv W HO.o HP.o hl HF.o He.o);simp only[List.drop_succ_cons,List.drop_zero]
   go_wp2_with (go_at_call 41;refine HC.o.mono ?_;rintro e w8 ⟨rfl,hj,hu⟩;have Hf:=Hd hj;clear hj hu)
   refine bodyPost_ret (v:=.tuple #[intV (min 3001 (wv:Int)),intV 0]) (by simp[results,results20,go_sem]) rfl ⟨HB.o.trans (Hf.o.base.mono HB.o.size),.inl ⟨Ha.o,(min 3001 (wv:Int),0),.inl ⟨by omega,hA,f,wv,by rw[HA.o];exact HF.o,rfl⟩,rfl⟩⟩
  .have HR:=Hd hr
   by_cases hx:x<0
   .clear hr
    go_enter func20,ntmps20
    go_wp2_with (go_at_call 25;refine HI.o.mono ?_;rintro e w2 ⟨p,w1,rfl,-,hb,hO⟩;have HK:=Hd hO;have HB:=Hd (hO.all hb);have c1:=hO.prog.c1;have he:=hO.prog.gl;clear hb hO)
    refine bodyPost_ret (v:=.tuple #[intV 0,intV 7]) (by simp[results,results20,go_sem]) rfl ⟨HB.o,.inl ⟨Ha.o,(0,7),.inr ⟨HR.o,rfl⟩,rfl⟩⟩
   .have hz:(t.items.length:Int)<=x:=by omega
    clear hr;go_enter func20,ntmps20
    go_wp2_with (go_at_call 25;refine HI.o.mono ?_;rintro e w2 ⟨p,w1,rfl,-,hb,hO⟩;have HK:=Hd hO;have HB:=Hd (hO.all hb);have c1:=hO.prog.c1;have he:=hO.prog.gl;clear hb hO)
    refine bodyPost_ret (v:=.tuple #[intV 0,intV 7]) (by simp[results,results20,go_sem]) rfl ⟨HB.o,.inl ⟨Ha.o,(0,7),.inr ⟨HR.o,rfl⟩,rfl⟩⟩
 .have HI:=Hd (mY v t _ bd rg hc hd hok)
  clear h hg bd rg hc hd hok;obtain⟨na,nc,ia,ic⟩:=v;unfold TreeV.val;go_enter func20,ntmps20
  go_wp2_with (go_at_call 25;refine HI.o.mono ?_;rintro e w2 ⟨k,er,hs,hC,rfl,hn⟩;have Hc:=Hd hs;have HB:=Hd (boxT_below.trans (hn.mono (by simp)):Below w.heap.size w w2);clear hn hs)
  refine bodyPost_ret (v:=.tuple #[intV 0,intV er]) (by simp[results,results20,go_sem]) rfl ⟨HB.o,.inr ⟨k,er,Hc.o,rfl⟩⟩
theorem KnO.turn{W1 W W':World}{t:Tr}{mb cb:Nat}(h:KnO W1 t mb W)(hT:Turns (fun i=>i=cb) W W')(hne:cb≠mb)(hlo:W1.heap.size<=cb):KnO W1 t mb W':=by
 have hl:=h.lt;obtain⟨D,K,h1,h2⟩:=h.own;obtain⟨es,clock,h3,h4⟩:=tN h1;exact⟨rJ h.base hT hlo h.base.size,⟨D,K,h4 W' ((hT.block mb hl (fun e=>hne e.symm)).trans h3),h2⟩,h.lo⟩
abbrev talO(x:Int×Int×Int):Obj:=.cells #[intV x.1,intV x.2.1,intV x.2.2] 101 (0,0)
structure TalOk (x:Int×Int×Int) (j:Nat):Prop where
 c0:0<=x.1
 c1:x.1<=j
 w0:0<=x.2.1
 w1:x.2.1<=2001
 a0 : -(j:Int)<=x.2.2
 a1:x.2.2<=j
def ChOk(t:Tr):Prop:=∀i:Nat,i<t.nodes.length->(t.nd (i:Int)).kind=40->∃a b:Nat,(t.nd (i:Int)).kids=[(a:Int),(b:Int)]/\a<t.nodes.length/\b<t.nodes.length /\ -9999<=(t.nd (a:Int)).n/\(t.nd (a:Int)).n<=9999 /\ -9999<=(t.nd (b:Int)).n/\(t.nd (b:Int)).n<=9999/\1<=(t.nd (b:Int)).n-(t.nd (a:Int)).n+1/\(t.nd (b:Int)).n-(t.nd (a:Int)).n+1<=12
theorem SG{t:Tr}(bd:Bd t)(hr:(zb t).2.2=0):ChOk t:=by
 obtain⟨wf,G⟩:=zi bd hr;intro i hi hk;have hm:=G.many hi;rw[hk]at hm
 have h2:(t.nd (i:Int)).kids.length=2:=by
  have:((t.nd (i:Int)).kids.length:Int)=2:=by simpa[zC]using hm
  omega
 obtain⟨a,ha,hh⟩:=aN G hi (List.getElem_mem (show 0<(t.nd (i:Int)).kids.length by omega));obtain⟨b,hb,hj⟩:=aN G hi (List.getElem_mem (show 1<(t.nd (i:Int)).kids.length by omega));have hc:=G.kidOk hi (show 0<(t.nd (i:Int)).kids.length by omega);have hd:=G.kidOk hi (show 1<(t.nd (i:Int)).kids.length by omega);rw[hk,ha]at hc;rw[hk,hb]at hd;have hc:(t.nd (a:Int)).kind=1:=by simpa[kidK]using hc
 have hd:(t.nd (b:Int)).kind=1:=by simpa[kidK]using hd
 have he:=(G.ok (show a<t.nodes.length by omega)).2.2;have hf:=(G.ok (show b<t.nodes.length by omega)).2.2;rw[hc]at he;rw[hd]at hf;have hg:=Good.sizedOk (zt hr).check hi
 have hl:(t.nd (i:Int)).kids=[(a:Int),(b:Int)]:=List.ext_getElem (by simp[h2]) fun j j1 j2=>by
  have:j=0\/j=1:=by simp at j2;omega
  rcases this with rfl|rfl
  .exact ha
  .exact hb
 simp[zA]at he hf;simp[eX,hk,hl]at hg;exact⟨a,b,hl,by omega,by omega,by omega,by omega,by omega,by omega,by omega,by omega⟩
theorem TalOk.next{t:Tr}{x:Int×Int×Int}{j:Nat}(h:TalOk x j)(hc:ChOk t){i:Nat}(hi:i<t.nodes.length):TalOk (iY t i x) (j+1):=by
 obtain⟨h1,h2,h3,h4,h5,h6⟩:=h;unfold iY;split
 .rename_i hk
  obtain⟨a,b,hl,-,-,-,-,-,-,h7,h8⟩:=hc i hi (by simpa using hk);rw[hl];obtain⟨m,hm⟩:∃m,(t.nd (b:Int)).n-(t.nd (a:Int)).n+1=m:=⟨_,rfl⟩
  have e:(t.nd (([(a:Int),(b:Int)]:List Int).getD 1 0)).n-(t.nd (([(a:Int),(b:Int)]:List Int).getD 0 0)).n+1=m:=hm;rw[e];have:0<=x.2.1*m:=Int.mul_nonneg h3 (by omega);exact⟨by show 0<=x.1+1;omega,by show x.1+1<=((j+1:Nat):Int);omega,by show 0<=min 2001 _;omega,by show min 2001 _<=_;omega,by show -((j+1:Nat):Int)<=x.2.2;omega,by show x.2.2<=((j+1:Nat):Int);omega⟩
 .split
  .exact⟨h1,by show x.1<=((j+1:Nat):Int);omega,h3,h4,by show -((j+1:Nat):Int)<=x.2.2+1;omega,by show x.2.2+1<=((j+1:Nat):Int);omega⟩
  .split
   .exact⟨h1,by show x.1<=((j+1:Nat):Int);omega,h3,h4,by show -((j+1:Nat):Int)<=x.2.2-1;omega,by show x.2.2-1<=((j+1:Nat):Int);omega⟩
   .exact⟨h1,by omega,h3,h4,by omega,by omega⟩
theorem DF(v:TreeV)(t:Tr)(cb i j:Nat)(x:Int×Int×Int)(W0 W:World)(bd:Bd t)(hc:ChOk t)(hi:i<t.nodes.length)(hx:TalOk x j)(hj:j<=1000000)(h0:IsTree W0 v t)(hbw:Below W0.heap.size W0 W)(hlo:W0.heap.size<=cb)(hcb:W.heap[cb]?=some (talO x)) :
 Calls prog 43 #[.pointer (some ⟨cb,0,none⟩),v.val t,intV i] W fun e w'=>e=.returned (.tuple #[])/\w'.heap[cb]?=some (talO (iY t i x))/\Turns (fun i=>i=cb) W w':=by
 obtain⟨c,w,a⟩:=x;obtain⟨h1,h2,h3,h4,h5,h6⟩:=hx;simp only at h1 h2 h3 h4 h5 h6;have hL:cb<W.heap.size:=(Array.getElem?_eq_some_iff.1 hcb).1;have hH:=t.nd_at hi;have h:=h0.mono hbw nlr;obtain⟨bn,on,ka,kc,ea,hh,m0,m1,m2,m3,m4,ha⟩:=h0.nodes.at hi;have m0:=(hbw.cell (p:=⟨bn,on+i*5,none⟩) hh).trans m0;have m1:=(hbw.cell (p:=⟨bn,on+i*5+1,none⟩) hh).trans m1;have m2:=(hbw.cell (p:=⟨bn,on+i*5+2,none⟩) hh).trans m2;have m3:=(hbw.cell (p:=⟨bn,on+i*5+3,none⟩) hh).trans m3;have m4:=(hbw.cell (p:=⟨bn,on+i*5+4,none⟩) hh).trans m4;have he:bn<W.heap.size:=Nat.lt_of_lt_of_le hh hbw.size;have hr:bn≠cb:=by omega
 have Hc:=Hd hbw;have HC:=Hd (hc i hi);have HS:Hid (iY t i (c,w,a)=if (t.nd (i:Int)).kind==40 then (c+1,min 2001 (w*((t.nd ((t.nd (i:Int)).kids.getD 1 0)).n-(t.nd ((t.nd (i:Int)).kids.getD 0 0)).n+1)),a)else if (t.nd (i:Int)).kind==44 then (c,w,a+1)else if (t.nd (i:Int)).kind==45 then (c,w,a-1)else (c,w,a)):=Hd rfl;rw[<-hH]at m0 m1 m2 m3 m4 ha;obtain⟨D,hD⟩:∃D,t.nd (i:Int)=D:=⟨_,rfl⟩
 rw[hD]at m0 m1 m2 m3 m4 ha HC HS;obtain⟨k,tx,nn,kids,pos⟩:=D;simp only at m0 m1 m2 m3 m4 ha HC HS;have HT:=Hd h;clear hD hH h hc;obtain⟨na,nc,ia,ic⟩:=v;simp only at ea;subst ea;unfold TreeV.val;obtain⟨hw,hs⟩:=eE W (.cells #[.slice (some ⟨bn,on,none⟩) t.nodes.length nc,.slice ia t.items.length ic] 25) (.cells #[.int .u8 k,strV tx,intV nn,.slice ka kids.length kc,intV pos] 31);have hb:Below W.heap.size W ((W.alloc (.cells #[.slice (some ⟨bn,on,none⟩) t.nodes.length nc,.slice ia t.items.length ic] 25)).alloc (.cells #[.int .u8 k,strV tx,intV nn,.slice ka kids.length kc,intV pos] 31)):=(brf.alloc nlr _).alloc (by simp) _;obtain⟨X,hX⟩:∃X,(W.alloc (.cells #[.slice (some ⟨bn,on,none⟩) t.nodes.length nc,.slice ia t.items.length ic] 25)).alloc (.cells #[.int .u8 k,strV tx,intV nn,.slice ka kids.length kc,intV pos] 31)=X:=⟨_,rfl⟩
 rw[hX]at hw hs hb;have hd:=(hb.block cb hL).trans hcb;have t0:X.cell? ⟨cb,0,none⟩=some (intV c):=za hd rfl;have t1:X.cell? ⟨cb,1,none⟩=some (intV w):=za hd rfl;have t2:X.cell? ⟨cb,2,none⟩=some (intV a):=za hd rfl;have f0:X.frozen? ⟨cb,0,none⟩=false:=zr hd;have f1:X.frozen? ⟨cb,1,none⟩=false:=zr hd;have f2:X.frozen? ⟨cb,2,none⟩=false:=zr hd;have b0:X.cell? ⟨W.heap.size,0,none⟩=some (.slice (some ⟨bn,on,none⟩) t.nodes.length nc):=za hw rfl;have n0:X.cell? ⟨W.heap.size+1,0,none⟩=some (.int .u8 k):=za hs rfl;have n3:X.cell? ⟨W.heap.size+1,3,none⟩=some (.slice ka kids.length kc):=za hs rfl;have hy:W.heap.size≠cb:=by omega
 have hA:W.heap.size+1≠cb:=by omega
 have Hf:Hid (Turns (fun i=>i=cb) W X):=Hd (aB hb);have He:=Hd hd;have Hb:=Hd hb;have hM:prog.follows .mixedOrders=true:=by kernel_rfl
 have one:∀(Y:World) (q:Nat) (z:Value),Turns (fun i=>i=cb) W Y->Turns (fun i=>i=cb) W (Y.setCell ⟨cb,q,none⟩ z):=fun Y q z hY=>hY.trans ⟨rfl,rfl,rfl,by simp,fun k _ hk=>zQ hk⟩;have ONE:=Hd one;clear hw hs hb hd hcb one;by_cases k40:k=40
 .subst k40
  obtain⟨a1,b1,hl,hF,hG,x1,x2,x3,x4,x5,x6⟩:=HC.o rfl;subst hl;obtain⟨bk,ok,ek,hm,hn⟩:=Ints.at ha (show 0<([(a1:Int),(b1:Int)]:List Int).length by simp);obtain⟨bk',ok',ek',-,ho⟩:=Ints.at ha (show 1<([(a1:Int),(b1:Int)]:List Int).length by simp);rw[ek]at ek';simp only[Option.some.injEq,Addr.mk.injEq,and_true]at ek';obtain⟨rfl,rfl⟩:=ek';subst ek;simp only[List.getElem_cons_zero,List.getElem_cons_succ,Nat.add_zero]at hn ho;simp only[List.length_cons,List.length_nil,Nat.zero_add,Nat.reduceAdd]at hX n3;obtain⟨bn',on',-,-,ea',-,-,-,e2,-,-,-⟩:=HT.o.nodes.at hF;simp only[Option.some.injEq,Addr.mk.injEq,and_true]at ea';obtain⟨rfl,rfl⟩:=ea';obtain⟨bn',on',-,-,ea',-,-,-,g2,-,-,-⟩:=HT.o.nodes.at hG;simp only[Option.some.injEq,Addr.mk.injEq,and_true]at ea';obtain⟨rfl,rfl⟩:=ea';rw[<-t.nd_at hF]at e2;rw[<-t.nd_at hG]at g2;have Ha:Hid (iY t i (c,w,a)=(c+1,min 2001 (w*((t.nd (b1:Int)).n-(t.nd (a1:Int)).n+1)),a)):=Hd (by rw[HS.o];rfl);obtain⟨N0,ht⟩:∃n,(t.nd (a1:Int)).n=n:=⟨_,rfl⟩
  obtain⟨N1,hu⟩:∃n,(t.nd (b1:Int)).n=n:=⟨_,rfl⟩
  rw[ht,hu]at Ha;rw[ht]at e2 x1 x2 x5 x6;rw[hu]at g2 x3 x4 x5 x6;have hR:0<=w*(N1-N0+1):=Int.mul_nonneg h3 (by omega);have hS:w*(N1-N0+1)<=2001*(N1-N0+1):=Int.mul_le_mul_of_nonneg_right h4 (by omega);have hQ:IntKind.i64.wrap (w*(N1-N0+1))=w*(N1-N0+1):=IntWalk.i64_in _ (by omega);have hn:=(Hb.o.cell (p:=⟨bk,ok,none⟩) (Nat.lt_of_lt_of_le hm Hc.o.size)).trans ((Hc.o.cell (p:=⟨bk,ok,none⟩) hm).trans hn);have ho:=(Hb.o.cell (p:=⟨bk,ok+1,none⟩) (Nat.lt_of_lt_of_le hm Hc.o.size)).trans ((Hc.o.cell (p:=⟨bk,ok+1,none⟩) hm).trans ho);have e2:=(Hb.o.cell (p:=⟨bn,on+a1*5+2,none⟩) he).trans e2;have g2:=(Hb.o.cell (p:=⟨bn,on+b1*5+2,none⟩) he).trans g2;have hp:bk≠cb:=by omega
  have hK:bn<X.heap.size:=Nat.lt_of_lt_of_le he Hb.o.size;have hI:bk<X.heap.size:=Nat.lt_of_lt_of_le (Nat.lt_of_lt_of_le hm Hc.o.size) Hb.o.size;clear HC HS HT ht hu x1 x2 x3 x4 ha;go_enter func43,ntmps43
  go_upto_region 5 with fail
  clear hX;obtain⟨X2,hg⟩:∃Y,X.setCell ⟨cb,0,none⟩ (intV (c+1))=Y:=⟨_,rfl⟩
  have o2:∀{q i:Nat}{z:Value},q≠cb->X.cell? ⟨q,i,none⟩=some z->X2.cell? ⟨q,i,none⟩=some z:=fun hq hz=>by
   rw[<-hg];exact(World.cell?_setCell_other _ _ _ _ (fun e=>hq (congrArg Addr.block e).symm)).trans hz
  have hv:X2.heap[cb]?=some (.cells #[intV (c+1),intV w,intV a] 101 (0,0)):=by rw[<-hg];exact N.heap_setCell_at (i:=0) He.o (intV (c+1))
  have hB:X2.heap.size=X.heap.size:=by rw[<-hg];simp
  have t1:X2.cell? ⟨cb,1,none⟩=some (intV w):=za hv rfl;have hE:=Hb.o.size;have hC:W.heap.size+1<X.heap.size:=World.block_lt_of_cell? X _ n3;have b0:=o2 hy b0;have n3:=o2 hA n3;have hn:=o2 hp hn;have ho:=o2 hp ho;have e2:=o2 hr e2;have g2:=o2 hr g2;have z1:W.heap.size<X2.heap.size:=by omega
  have z2:W.heap.size+1<X2.heap.size:=by omega
  have z3:bn<X2.heap.size:=by omega
  have z4:bk<X2.heap.size:=by omega
  have z5:cb<X2.heap.size:=by omega
  have Hh:Hid (Turns (fun i=>i=cb) W X2):=Hd (by rw[<-hg];exact ONE.out _ _ _ Hf.o);have Hg:=Hd hv;rw[hg];clear hg hv o2 hB hE hC t0 t2 f0 f1 f2 n0;obtain⟨w0,hN⟩:∃g,W.heap.size=g:=⟨_,rfl⟩
  rw[hN]at b0 n3 z1 z2|-;refine N.region_JTm 29 hM (by kernel_rfl) (by kernel_rfl) rfl (by kernel_rfl) (by kernel_rfl) (fun Wz=>Below (X2).heap.size (X2) Wz) (brf.drew) ?_
  iterate 29 (refine N.WalkT.cons ?_ (N.StepP.pure rfl ?_) ?_;rotate_left;(intro W hJ;obtain⟨hO,hP⟩:=bcell hJ;go_simp;rfl);simp only[N.pz])
  refine N.WalkT.nil fun W hJ=>?_;rename World=>X5
  have h5:=(hJ.block cb z5).trans Hg.o;have Hi:=Hd (Hh.o.trans (aB hJ));have t1:X5.cell? ⟨cb,1,none⟩=some (intV w):=za h5 rfl;have f1:X5.frozen? ⟨cb,1,none⟩=false:=zr h5;have H5:=Hd h5;clear hJ h5;simp only[List.drop_succ_cons,List.drop_zero];go_wp2;have hf:=N.heap_setCell_at (i:=1) H5.o (intV (min 2001 (w*(N1-N0+1))));refine bodyPost_end (v:=.tuple #[]) (by simp[results,results43,go_sem]) rfl ⟨rfl,?_,ONE.out _ _ _ Hi.o⟩;rw[Ha.o];exact hf
 .have q40:(k==40)=false:=by simpa using k40
  by_cases k44:k=44
  .subst k44
   have Ha:Hid (iY t i (c,w,a)=(c,w,a+1)):=Hd (by rw[HS.o];rfl);clear HC HS HT k40 ha;go_enter func43,ntmps43;go_wp2;have hf:=N.heap_setCell_at (i:=2) He.o (intV (a+1));refine bodyPost_end (v:=.tuple #[]) (by simp[results,results43,go_sem]) rfl ⟨rfl,?_,ONE.out _ _ _ Hf.o⟩;rw[Ha.o];exact hf
  .have q44:(k==44)=false:=by simpa using k44
   by_cases k45:k=45
   .subst k45
    have Ha:Hid (iY t i (c,w,a)=(c,w,a-1)):=Hd (by rw[HS.o];rfl);clear HC HS HT k40 k44 ha;go_enter func43,ntmps43;go_wp2;have hf:=N.heap_setCell_at (i:=2) He.o (intV (a-1));refine bodyPost_end (v:=.tuple #[]) (by simp[results,results43,go_sem]) rfl ⟨rfl,?_,ONE.out _ _ _ Hf.o⟩;rw[Ha.o];exact hf
   .have q45:(k==45)=false:=by simpa using k45
    have Ha:Hid (iY t i (c,w,a)=(c,w,a)):=Hd (by rw[HS.o,q40,q44,q45];rfl);clear HC HS HT k40 k44 k45 ha;go_enter func43,ntmps43;go_wp2;refine bodyPost_end (v:=.tuple #[]) (by simp[results,results43,go_sem]) rfl ⟨rfl,?_,Hf.o⟩;rw[Ha.o];exact He.o
theorem jA(x:Int×Int×Int)(W:World):Calls prog 44 #[.agg #[intV x.1,intV x.2.1,intV x.2.2]] W fun e w'=>e=.returned (.bool (tooB x))/\Below W.heap.size W w':=by
 obtain⟨c,w,a⟩:=x;have hb:Below W.heap.size W (W.alloc (.cells #[intV c,intV w,intV a] 101)):=brf.alloc nlr _;have HB:=Hd hb;clear hb;have HR:Hid (tooB (c,w,a)=(decide (6<c)||decide (2000<w)||decide (8<a))):=Hd rfl;cases h1:decide (6<c)with
 | true=>
   rw[h1,Bool.true_or,Bool.true_or]at HR;go_enter func44,ntmps44;go_wp2;go_ret;exact⟨by rw[HR.o];rfl,HB.o⟩
 | false=>
   cases h2:decide (2000<w)with
   | true=>
     rw[h1,h2,Bool.false_or,Bool.true_or]at HR;go_enter func44,ntmps44;go_wp2;go_ret;exact⟨by rw[HR.o];rfl,HB.o⟩
   | false=>
     rw[h1,h2,Bool.false_or,Bool.false_or]at HR;go_enter func44,ntmps44;go_wp2;go_ret;exact⟨by rw[HR.o];rfl,HB.o⟩
def RetFaultK(w:World)(t:Tr)(e:Ending)(w':World):Prop:=
 Below w.heap.size w w'/\((InfOk t/\∃(f:Nat) (r:Int×Int),gC t f t.items (0,1,0)=some r/\e=.returned (.tuple #[intV r.1,intV r.2]))\/∃k er:Int,InfO t k er/\e=.returned (.tuple #[intV k,intV er]))
theorem oU(v:TreeV)(t:Tr)(w:World)(bd:Bd t)(rg:Rg t)(hg:GVK w)(h:IsTree w v t) :
 Calls prog 23 #[v.val t] w (RetFaultK w t):=by
 have hP:=bd.i;have hp:=hg.step (boxT_below (v:=v) (t:=t));have hs:=h.mono (boxT_below (v:=v) (t:=t)) nlr;by_cases hok:InfOk t
 .have HI:=Hd (sE v t _ bd rg hp hs hok)
  have HO:=Hd (RV bd hok.1);have Hl:=Hd (SG bd hok.1);have Hk:=Hd hok;have Hu:=Hd bd
  have hx:∀i∈t.items,∃k:Nat,i=k/\k<t.nodes.length:=fun i hi=>by
   obtain⟨h1,h2⟩:=HO.o.wf.item i hi;obtain⟨k,rfl⟩:=Int.eq_ofNat_of_zero_le h1;exact⟨k,rfl,by omega⟩
  obtain⟨f,r,hr⟩:=vL bd hok.1 t.items (0,1,0) hx;have Hx:=Hd hx;have HR:=Hd hr;clear h hg bd rg hp hs hok hx hr;obtain⟨na,nc,ia,ic⟩:=v;unfold TreeV.val;go_enter func23,ntmps23
  go_upto_region 5 with(first
   | (go_at_call 25
      refine HI.o.mono ?_;rintro e w2⟨⟨⟨na',nc',ia',ic'⟩,g,da,dc,mb',oa,oc⟩,w1,rfl,-,hB,hO⟩;have HP:=Hd hO.prog;have HB:=Hd (hO.all hB)
      clear hB hO)
   | (go_at_call 40
      refine(oY t ⟨⟨na',nc',ia',ic'⟩,g,da,dc,mb',oa,oc⟩ _).mono ?_;rintro e w3⟨mb,rfl,hF⟩;have Hh:=Hd hF
      clear hF))
  obtain⟨hq,hw⟩:=eE w3 (.cells #[.pointer (some ⟨g,0,none⟩),.map (some mb)] 95) (.cells #[intV 0,intV 1,intV 0] 101);have hv:Below w3.heap.size w3 ((w3.alloc (.cells #[.pointer (some ⟨g,0,none⟩),.map (some mb)] 95)).alloc (.cells #[intV 0,intV 1,intV 0] 101)):=(brf.alloc nlr _).alloc (by simp) _;obtain⟨X,hX⟩:∃X,(w3.alloc (.cells #[.pointer (some ⟨g,0,none⟩),.map (some mb)] 95)).alloc (.cells #[intV 0,intV 1,intV 0] 101)=X:=⟨_,rfl⟩
  rw[hX]at hq hw hv|-;have hJ:=Hh.o.lt;have hQ:=Hh.o.lo;have hA:=Hh.o.base.size;have Hq:=Hd (Hh.o.step hv);have hu:=HP.o.step Hq.o.base;have c1:=hu.c1;have hD:=hu.gl;have S01:Hid (X.cell? ⟨w3.heap.size,0,none⟩=some (.pointer (some ⟨g,0,none⟩))/\X.cell? ⟨w3.heap.size,1,none⟩=some (.map (some mb))):=Hd ⟨za hq rfl,za hq rfl⟩;have Hs:Hid (X.heap[w3.heap.size+1]?=some (talO (0,1,0))):=Hd hw;clear hX hq hw hv hu;obtain⟨sb,hG⟩:∃g,w3.heap.size=g:=⟨_,rfl⟩
  rw[hG]at S01 Hs hJ hA|-;clear hG;have hm:sb≠mb:=by omega
  have hz:sb+1≠mb:=by omega
  go_wp2;clear c1 hD
  go_loopw [28] (fun t28 wr=>∃(j:Nat) (x:Int×Int×Int),t28=.int .i64 j/\j<=t.items.length/\Hid (TalOk x j)/\Hid (gC t f (t.items.drop j) x=some r)/\Hid (KnO w2 t mb wr)/\Hid (wr.heap[sb+1]?=some (talO x))/\Hid (wr.cell? ⟨sb,0,none⟩=some (.pointer (some ⟨g,0,none⟩))/\wr.cell? ⟨sb,1,none⟩=some (.map (some mb)))) (fun t28 _=>t.items.length-(intOf t28).toNat)
  case atStart=>exact⟨0,(0,1,0),rfl,Nat.zero_le _,Hd ⟨by simp,by simp,by simp,by simp,by simp,by simp⟩,Hd (by simpa using HR.o),Hq,Hs,S01⟩
  case round=>
   obtain⟨j,x,rfl,hj,HX,HF,HK,Hy,Hi⟩:=hrel;have hk:=HP.o.step HK.o.base;by_cases hlt:j<t.items.length
   .obtain⟨bi,oi,ei,hN,hI⟩:=hk.tree.items.at hlt
    obtain⟨a,ha,ho⟩:=Hx.o _ (List.getElem_mem hlt);have hf:=HF.o;rw[List.drop_eq_getElem_cons hlt,ha,gC]at hf;rw[ha]at hI;have c0:=hk.c0;have c1:=hk.c1;have hD:=hk.gl;simp only at ei;subst ei;have Hb:=Hd (DF ⟨na',nc',some ⟨bi,oi,none⟩,ic'⟩ t (sb+1) a j x w2 wr Hu.o Hl.o ho HX.o (by omega) HP.o.tree HK.o.base (by omega) Hy.o);have Ht:=Hd (HX.o.next Hl.o ho);unfold TreeV.val at Hb;obtain⟨y,hy⟩:∃y,iY t a x=y:=⟨_,rfl⟩
    rw[hy]at hf Hb Ht;have HJ:=Hd hlt;have Hm:=Hd hf;clear hk ha hf hy;obtain⟨yc,yw,ya⟩:=y;cases htb:tooB (yc,yw,ya)with
    | true=>
      have Hg:=Hd htb
      have Hf:Hid (r=((a:Int),5)):=Hd (by
       have:=Hm.o;rw[Hg.o,if_pos rfl]at this
       exact(Option.some.inj this).symm)
      clear htb
      go_wp2_with (first
       | (go_at_call 43
          refine Hb.o.mono ?_;rintro e w5⟨rfl,hb,hd⟩;have y0:=za (i:=0) (v:=intV yc) hb rfl;have y1:=za (i:=1) (v:=intV yw) hb rfl;have y2:=za (i:=2) (v:=intV ya) hb rfl;have Hc:=Hd (HK.o.turn hd (by omega) (by omega))
          clear hb hd)
       | (go_at_call 44
          refine(jA (yc,yw,ya) _).mono ?_;rw[Hg.o];rintro e w6⟨rfl,hc⟩;have He:=Hd (Hc.o.step hc)
          clear hc))
      refine bodyPost_ret (v:=.tuple #[intV a,intV 5]) (by simp[results,results23,go_sem]) rfl ⟨HB.o.trans (He.o.base.mono HB.o.size),.inl ⟨Hk.o,f,r,HR.o,by rw[Hf.o]⟩⟩
    | false=>
      have Hg:=Hd htb;have he:=Hm.o;rw[htb,if_neg Bool.false_ne_true]at he
      cases hiw:jL t f a with
      |none=>rw[hiw]at he;cases he
      |some wv=>
      rw[hiw]at he;simp only[Option.bind_some]at he;have Hp:=Hd hiw;obtain⟨Mv,ht⟩:∃m,min 3001 (wv:Int)=m:=⟨_,rfl⟩
      have Hr:=Hd ht;by_cases hbig:3000<wv
      .have hM:Mv=3001:=by omega
       subst hM
       have Hf:Hid (r=((a:Int),5)):=Hd (by
        rw[if_pos hbig]at he
        exact(Option.some.inj he).symm)
       clear htb he hiw ht hbig
       go_wp2_with (first
        | (go_at_call 43
           refine Hb.o.mono ?_;rintro e w5⟨rfl,hb,hd⟩;have y0:=za (i:=0) (v:=intV yc) hb rfl;have y1:=za (i:=1) (v:=intV yw) hb rfl;have y2:=za (i:=2) (v:=intV ya) hb rfl;have Ha:=Hd (And.intro (hd.keepC Hi.o.1 (by simp)) (hd.keepC Hi.o.2 (by simp)));have Hc:=Hd (HK.o.turn hd (by omega) (by omega))
           clear hb hd)
        | (go_at_call 44
           refine(jA (yc,yw,ya) _).mono ?_;rw[Hg.o];rintro e w6⟨rfl,hc⟩;have hh:=World.block_lt_of_cell? _ _ Ha.o.1;have z0:=(hc.cell (p:=⟨sb,0,none⟩) hh).trans Ha.o.1;have z1:=(hc.cell (p:=⟨sb,1,none⟩) hh).trans Ha.o.2;have He:=Hd (Hc.o.step hc)
           clear hc hh)
        | (go_at_call 41
           refine(mQ w2 t _ _ ⟨⟨na',nc',_,ic'⟩,g,da,dc,mb',oa,oc⟩ mb f a wv _ HO.o HP.o ho Hp.o He.o).mono ?_;rw[Hr.o];rintro e w7⟨rfl,hl,-⟩;have Hj:=Hd hl
           clear hl))
       refine bodyPost_ret (v:=.tuple #[intV a,intV 5]) (by simp[results,results23,go_sem]) rfl ⟨HB.o.trans (Hj.o.base.mono HB.o.size),.inl ⟨Hk.o,f,r,HR.o,by rw[Hf.o]⟩⟩
      .have hM:(Mv==3001)=false:=by simp;omega
       have HN:Hid (gC t f (t.items.drop (j+1)) (yc,yw,ya)=some r):=Hd (by
        rw[if_neg hbig]at he
        exact he)
       have hH:0<=Mv/\Mv<=3001:=by omega
       obtain⟨hK,hL⟩:=hH;clear htb he hiw ht hbig
       go_wp2_with (first
        | (go_at_call 43
           refine Hb.o.mono ?_;rintro e w5⟨rfl,hb,hd⟩;have y0:=za (i:=0) (v:=intV yc) hb rfl;have y1:=za (i:=1) (v:=intV yw) hb rfl;have y2:=za (i:=2) (v:=intV ya) hb rfl;have Ha:=Hd (And.intro (hd.keepC Hi.o.1 (by simp)) (hd.keepC Hi.o.2 (by simp)));have Hc:=Hd (HK.o.turn hd (by omega) (by omega));have Hn:=Hd hb
           clear hb hd)
        | (go_at_call 44
           refine(jA (yc,yw,ya) _).mono ?_;rw[Hg.o];rintro e w6⟨rfl,hc⟩;have hh:=World.block_lt_of_cell? _ _ Ha.o.1;have z0:=(hc.cell (p:=⟨sb,0,none⟩) hh).trans Ha.o.1;have z1:=(hc.cell (p:=⟨sb,1,none⟩) hh).trans Ha.o.2;have HZ:=Hd (And.intro z0 z1);have Ho:=Hd ((hc.block (sb+1) (Array.getElem?_eq_some_iff.1 Hn.o).1).trans Hn.o);have He:=Hd (Hc.o.step hc)
           clear hc hh)
        | (go_at_call 41
           refine(mQ w2 t _ _ ⟨⟨na',nc',_,ic'⟩,g,da,dc,mb',oa,oc⟩ mb f a wv _ HO.o HP.o ho Hp.o He.o).mono ?_;rw[Hr.o];rintro e w7⟨rfl,hl,hn⟩;have Hj:=Hd hl;have Hz:=Hd (And.intro (hn.keepC HZ.o.1 hm) (hn.keepC HZ.o.2 hm));have Hv:=Hd ((hn.block (sb+1) (Array.getElem?_eq_some_iff.1 Ho.o).1 hz).trans Ho.o)
           clear hl hn))
       go_roundw
       case rel=>exact⟨j+1,(yc,yw,ya),by go_num,by have:=HJ.o;omega,Ht,HN,Hj,Hv,Hz⟩
       case measure=>have:=HJ.o;simp[intOf];omega
   .obtain rfl:j=t.items.length:=by omega
    have Hf:Hid (r=(0,0)):=Hd (by
     have:=HF.o;rw[List.drop_length]at this
     exact(Option.some.inj this).symm)
    clear hk;go_wp2;refine bodyPost_ret (v:=.tuple #[intV 0,intV 0]) (by simp[results,results23,go_sem]) rfl ⟨HB.o.trans (HK.o.base.mono HB.o.size),.inl ⟨Hk.o,f,r,HR.o,by rw[Hf.o]⟩⟩
 .have HI:=Hd (mY v t _ bd rg hp hs hok)
  clear h hg bd rg hp hs hok;obtain⟨na,nc,ia,ic⟩:=v;unfold TreeV.val;go_enter func23,ntmps23
  go_wp2_with (go_at_call 25;refine HI.o.mono ?_;rintro e w2 ⟨k,er,hE,hR,rfl,hC⟩;have Hw:=Hd hE;have HB:=Hd (boxT_below.trans (hC.mono (by simp)):Below w.heap.size w w2);clear hC hE)
  refine bodyPost_ret (v:=.tuple #[intV k,intV er]) (by simp[results,results23,go_sem]) rfl ⟨HB.o,.inr ⟨k,er,Hw.o,rfl⟩⟩
def RetCheckK(w:World)(t:Tr)(e:Ending)(w':World):Prop:=
 Below w.heap.size w w'/\((InfOk t/\∃(f:Nat) (r:Int×Int),gC t f t.items (0,1,0)=some r/\e=.returned (intV r.2))\/∃k er:Int,InfO t k er/\e=.returned (intV er))
theorem xG(v:TreeV)(t:Tr)(w:World)(bd:Bd t)(rg:Rg t)(hg:GVK w)(h:IsTree w v t) :
 Calls prog 18 #[v.val t] w (RetCheckK w t):=by
 have HC:=Hd (oU v t _ bd rg (hg.step (boxT_below (v:=v) (t:=t))) (h.mono (boxT_below (v:=v) (t:=t)) nlr));clear h hg bd rg;obtain⟨na,nc,ia,ic⟩:=v;unfold TreeV.val
 have key:∀(e:Ending) (w2:World),RetFaultK (boxT w ⟨na,nc,ia,ic⟩ t) t e w2->∃a b:Int,e=.returned (.tuple #[intV a,intV b])/\RetCheckK w t (.returned (intV b)) w2:=fun e w2 hr=>by
  obtain⟨hb,⟨hc,f,r,h1,rfl⟩|⟨k,er,h1,rfl⟩⟩:=hr
  .exact⟨_,_,rfl,boxT_below.trans (hb.mono (by simp)),.inl ⟨hc,f,r,h1,rfl⟩⟩
  .exact⟨_,_,rfl,boxT_below.trans (hb.mono (by simp)),.inr ⟨k,er,h1,rfl⟩⟩
 have KEY:=Hd key;clear key;go_enter func18,ntmps18
 go_wp2_with (go_at_call 23;refine HC.o.mono ?_;rintro e w2 hr;obtain⟨a,b,rfl,ha⟩:=KEY.out _ _ hr;have Ha:=Hd ha;clear hr ha)
 refine bodyPost_ret (v:=intV b) (by simp[results,results18,go_sem]) rfl Ha.o
end
section
open Go Go.RowKit
theorem QI{a b:List (List UInt8)}(hl:a.length=b.length){k:Nat}(hk:k<a.length)(h:a.take k=b.take k)(he:a[k]=b[k]'(by omega)):a.take (k+1)=b.take (k+1):=by
 rw[List.take_succ_eq_append_getElem hk,List.take_succ_eq_append_getElem (by omega),h,he]
theorem SN{a b:List (List UInt8)}{k:Nat}(hk:k<a.length)(hk':k<b.length)(he:¬a[k]=b[k]):(a==b)=false:=by
 rw[beq_eq_false_iff_ne];rintro rfl;exact he rfl
theorem FC(a a':Option Addr)(c c':Nat)(l l':List (List UInt8))(w:World)(hm:l.length<=1000000)(hm':l'.length<=1000000)(h:Strs w a c l)(h':Strs w a' c' l') :
 Calls prog 24 #[.slice a l.length c,.slice a' l'.length c'] w (zD w (l==l')):=by
 have HR:=Hd h;have Hb:=Hd h';clear h h';by_cases hl:l.length=l'.length
 .have HL:=Hd hl
  have hf:((l.length:Int)==(l'.length:Int))=true:=by simp[hl]
  have hj:((l.length:Int) != (l'.length:Int))=false:=by simp[hl]
  clear hl;go_enter func24,ntmps24;go_wp2
  go_loopw [5] (fun i wr=>∃k:Nat,k<=l.length/\i=.int .i64 k/\Hid (l.take k=l'.take k)/\Hid (Below w.heap.size w wr)) (fun i _=>l.length-(intOf i).toNat)
  case atStart=>exact⟨0,Nat.zero_le _,rfl,Hd rfl,Hd brf⟩
  case round=>
   obtain⟨k,hk,rfl,HA,HB⟩:=hrel;have Hc:=Hd (Row.mono HR.o HB.o nlr);have Ha:=Hd (Row.mono Hb.o HB.o nlr);by_cases hlt:k<l.length
   .obtain⟨b,o,rfl,hb,hc⟩:=Strs.at Hc.o hlt
    obtain⟨b',o',rfl,hg,hd⟩:=Strs.at Ha.o (i:=k) (by have:=HL.o;omega);have ha:k<l'.length:=by have:=HL.o;omega
    by_cases he:l[k]=l'[k]
    .have HS:=Hd (QI HL.o hlt HA.o he)
     rw[<-he]at hd;clear he;go_wp2
     go_quiet (fail)
     go_wp2
     go_roundw
     case rel=>exact⟨k+1,by omega,by go_num,HS,Hd (below_drewN HB.o _)⟩
     case measure=>simp[intOf];omega
    .have hh:(l[k] != l'[k])=true:=by simp[he]
     have hi:(l[k]==l'[k])=false:=by simp[he]
     have HE:=Hd he;clear he;go_wp2
     go_quiet (fail)
     go_wp2;go_ret;exact⟨zc (SN hlt ha HE.o).symm,below_drewN HB.o _⟩
   .go_wp2
    go_ret;refine⟨zc ?_,HB.o⟩;have h1:=HA.o;rw[List.take_of_length_le (by omega),List.take_of_length_le (by have:=HL.o;omega)]at h1;rw[h1];simp
 .have hf:((l.length:Int) != (l'.length:Int))=true:=by simp;omega
  have HL:=Hd hl;clear hl;go_enter func24,ntmps24;go_wp2;go_ret;refine⟨zc ?_,brf⟩;symm;rw[beq_eq_false_iff_ne];intro e;exact HL.o (congrArg List.length e)
def SE(t:Tr)(x:Int)(w':World)(e:Ending):Prop:=
 (∃m:Nat,x=m/\m<t.items.length/\(t.nd (t.items.getD m 0)).kind=42/\∃a c,e=.returned (.tuple #[.slice a (dY t (tysP t t.nodes.length) (t.items.getD m 0)).length c,strV (fB t (tysP t t.nodes.length) (t.items.getD m 0)),intV 0])/\Strs w' a c (dY t (tysP t t.nodes.length) (t.items.getD m 0))) \/
 (¬(∃m:Nat,x=m/\m<t.items.length/\(t.nd (t.items.getD m 0)).kind=42)/\e=.returned (.tuple #[.slice none 0 0,strV [],intV 7]))
def RetSignK(w:World)(t:Tr)(x:Int)(e:Ending)(w':World):Prop:=
 Below w.heap.size w w'/\((InfOk t/\SE t x w' e)\/∃k er:Int,InfO t k er/\e=.returned (.tuple #[.slice none 0 0,strV [],intV er]))
theorem rO(v:TreeV)(t:Tr)(x:Int)(w:World)(bd:Bd t)(rg:Rg t)(hg:GVK w)(h:IsTree w v t) :
 Calls prog 12 #[v.val t,intV x] w (RetSignK w t x):=by
 have hf:prog.follows .mixedOrders=true:=by kernel_rfl
 have hE:=bd.i;have he:=hg.step (boxT_below (v:=v) (t:=t));have hh:=h.mono (boxT_below (v:=v) (t:=t)) nlr;by_cases hok:InfOk t
 .have HI:=Hd (sE v t _ bd rg he hh hok)
  obtain⟨wf,G⟩:=zi bd hok.1;have Hg:=Hd wf;have Hf:=Hd G;have Hb:=Hd hok;clear h hg bd rg he hh hok wf G;obtain⟨na,nc,ia,ic⟩:=v;unfold TreeV.val;by_cases hr:0<=x/\x<(t.items.length:Int)
  .obtain⟨m,rfl⟩:=Int.eq_ofNat_of_zero_le hr.1
   have hm:m<t.items.length:=by omega
   have ho:=Hg.o.item _ (List.getElem_mem hm);obtain⟨a,ha⟩:=Int.eq_ofNat_of_zero_le ho.1;have hd:a<t.nodes.length:=by rw[ha]at ho;omega
   have HA:Hid (t.items.getD m 0=a):=Hd (by rw[List.getD_eq_getElem?_getD,List.getElem?_eq_getElem hm,Option.getD_some,ha]);have hA:decide ((m:Int)<0)=false:=by simp
   have hC:decide ((t.items.length:Int)<=(m:Int))=false:=by simp;omega
   have hD:decide (t.items.length<=m)=false:=by simp;omega
   have hI:(m:Int)<(t.items.length:Int):=by omega
   have hK:(0:Int)<=(m:Int):=by omega
   have Hh:=Hd ha;clear hr ho ha;have stage:∀{R:Ending->World->Prop},True:=fun {R}=>trivial;clear stage;go_enter func12,ntmps12
   go_upto_region 2 with(
    go_at_call 25
    refine HI.o.mono ?_;rintro e w2⟨⟨⟨na',nc',ia',ic'⟩,g,da,dc,mb',oa,oc⟩,w1,rfl,-,hb,hO⟩;have HP:=Hd hO.prog;have HB:=Hd (hO.all hb)
    clear hb hO)
   obtain⟨bi,oi,ei,hi,hl⟩:=HP.o.tree.items.at hm;simp only at ei;subst ei;have c0:=HP.o.c0;have c1:=HP.o.c1;have hc:=HP.o.gl;simp only at c0 c1 hc;obtain⟨bn,on,ka,kc,ea,hu,m0,-,-,-,-,-⟩:=HP.o.tree.nodes.at hd;simp only at ea;subst ea;rw[Hh.o]at hl;have hy:=t.nd_at hd;rw[<-hy]at m0;clear hy
   go_upto_region 4 with fail
   have hB:∃k,(t.nd (a:Int)).kind=k:=⟨_,rfl⟩
   obtain⟨k,hk⟩:=hB;rw[hk]at m0;have Hc:=Hd hk;clear hk;by_cases k42:k=42
   .subst k42
    refine N.region_JTm 31 hf (by kernel_rfl) (by kernel_rfl) rfl (by kernel_rfl) (by kernel_rfl) (fun Wz=>Below (w2).heap.size (w2) Wz) (brf.drew) ?_
    iterate 31 (refine N.WalkT.cons ?_ (N.StepP.pure rfl ?_) ?_;rotate_left;(intro W hJ;obtain⟨hj,hn⟩:=bcell hJ;go_simp;rfl);simp only[N.pz])
    refine N.WalkT.nil fun W hJ=>?_;rename World=>w5
    have He:=Hd (HP.o.step hJ);have Ha:=Hd hJ;have hl:=(hJ.cell (p:=⟨bi,oi+m,none⟩) hi).trans hl;have hi:=Nat.lt_of_lt_of_le hi hJ.size;clear hJ c0 c1 hc hu m0;have c1:=He.o.c1;have hc:=He.o.gl;simp only at c1 hc;have hp:=Hf.o.many hd;rw[Hc.o]at hp
    have h2:2<=(t.nd (a:Int)).kids.length:=by
     have:(2:Int)<=((t.nd (a:Int)).kids.length:Int):=by simpa[zC]using hp
     omega
    obtain⟨q,hq,hH⟩:=aN Hf.o hd (List.getElem_mem (show(t.nd (a:Int)).kids.length-2<(t.nd (a:Int)).kids.length by omega));have HC:=Hd (uG t (tysP t t.nodes.length) t.nodes.length ⟨⟨some ⟨bn,on,none⟩,nc',some ⟨bi,oi,none⟩,ic'⟩,g,da,dc,mb',oa,oc⟩ a q w5 Hg.o hd h2 (by rw[List.getElem?_eq_getElem (by omega),hq]) (by omega) He.o);clear hp h2 hq;simp only[List.drop_succ_cons,List.drop_zero]
    go_wp2_with (
     go_at_call 29
     refine HC.o.mono ?_;rintro e w6⟨a6,c6,rfl,hz,ht⟩;have Hk:=Hd (zT hz);have Hi:=Hd (Ha.o.trans (ht.mono Ha.o.size))
     clear hz ht)
    refine bodyPost_ret (v:=.tuple #[.slice a6 (dY t (tysP t t.nodes.length) a).length c6,strV (fB t (tysP t t.nodes.length) a),intV 0]) (by simp[results,results12,go_sem]) rfl ⟨HB.o.trans (Hi.o.mono HB.o.size),.inl ⟨Hb.o,.inl ⟨m,rfl,hm,by rw[HA.o,Hc.o],a6,c6,by rw[HA.o],by rw[HA.o];exact Hk.o⟩⟩⟩
   .have k2:(k != 42)=true:=by simpa using k42
    refine N.region_JTm 31 hf (by kernel_rfl) (by kernel_rfl) rfl (by kernel_rfl) (by kernel_rfl) (fun Wz=>Below (w2).heap.size (w2) Wz) (brf.drew) ?_
    iterate 31 (refine N.WalkT.cons ?_ (N.StepP.pure rfl ?_) ?_;rotate_left;(intro W hJ;obtain⟨hj,hn⟩:=bcell hJ;go_simp;rfl);simp only[N.pz])
    refine N.WalkT.nil fun W hJ=>?_;rename World=>w5
    have Ha:=Hd hJ;clear hJ c0 c1 hc hu m0;simp only[List.drop_succ_cons,List.drop_zero];go_wp2;refine bodyPost_ret (v:=.tuple #[.slice none 0 0,strV [],intV 7]) (by simp[results,results12,go_sem,strV]) rfl ⟨HB.o.trans (Ha.o.mono HB.o.size),.inl ⟨Hb.o,.inr ⟨?_,rfl⟩⟩⟩;rintro⟨m',e,hF,hw⟩;obtain rfl:m=m':=by omega
    rw[HA.o,Hc.o]at hw;exact k42 hw
  .have HR:Hid (¬ ∃m:Nat,x=m/\m<t.items.length/\(t.nd (t.items.getD m 0)).kind=42):=Hd (by
    rintro⟨m,rfl,hm,-⟩
    exact hr ⟨by omega,by omega⟩)
   by_cases hx:x<0
   .have hA:decide (x<0)=true:=by simpa using hx
    clear hr;go_enter func12,ntmps12
    go_upto_region 4 with(
     go_at_call 25
     refine HI.o.mono ?_;rintro e w2⟨p,w1,rfl,-,hb,hO⟩;have HP:=Hd hO.prog;have HB:=Hd (hO.all hb)
     clear hb hO)
    refine N.region_JTm 31 hf (by kernel_rfl) (by kernel_rfl) rfl (by kernel_rfl) (by kernel_rfl) (fun Wz=>Below (w2).heap.size (w2) Wz) (brf.drew) ?_
    iterate 31 ((first|(refine N.WalkT.cons undef (N.StepP.skip rfl) ?_)|(refine N.WalkT.cons ?_ (N.StepP.pure rfl ?_) ?_;rotate_left;(intro W hJ;obtain⟨hj,hn⟩:=bcell hJ;go_simp;rfl)));simp only[N.pz])
    refine N.WalkT.nil fun W hJ=>?_;rename World=>w5
    have Ha:=Hd hJ;clear hJ;simp only[List.drop_succ_cons,List.drop_zero];go_wp2;refine bodyPost_ret (v:=.tuple #[.slice none 0 0,strV [],intV 7]) (by simp[results,results12,go_sem,strV]) rfl ⟨HB.o.trans (Ha.o.mono HB.o.size),.inl ⟨Hb.o,.inr ⟨HR.o,rfl⟩⟩⟩
   .have hA:decide (x<0)=false:=by simpa using hx
    have hC:decide ((t.items.length:Int)<=x)=true:=by simp;omega
    clear hr;go_enter func12,ntmps12
    go_upto_region 4 with(
     go_at_call 25
     refine HI.o.mono ?_;rintro e w2⟨p,w1,rfl,-,hb,hO⟩;have HP:=Hd hO.prog;have HB:=Hd (hO.all hb)
     clear hb hO)
    have c1:=HP.o.c1;have hc:=HP.o.gl;refine N.region_JTm 31 hf (by kernel_rfl) (by kernel_rfl) rfl (by kernel_rfl) (by kernel_rfl) (fun Wz=>Below (w2).heap.size (w2) Wz) (brf.drew) ?_
    iterate 31 ((first|(refine N.WalkT.cons undef (N.StepP.skip rfl) ?_)|(refine N.WalkT.cons ?_ (N.StepP.pure rfl ?_) ?_;rotate_left;(intro W hJ;obtain⟨hj,hn⟩:=bcell hJ;go_simp;rfl)));simp only[N.pz])
    refine N.WalkT.nil fun W hJ=>?_;rename World=>w5
    have Ha:=Hd hJ;clear hJ;simp only[List.drop_succ_cons,List.drop_zero];go_wp2;refine bodyPost_ret (v:=.tuple #[.slice none 0 0,strV [],intV 7]) (by simp[results,results12,go_sem,strV]) rfl ⟨HB.o.trans (Ha.o.mono HB.o.size),.inl ⟨Hb.o,.inr ⟨HR.o,rfl⟩⟩⟩
 .have HI:=Hd (mY v t _ bd rg he hh hok)
  clear h hg bd rg he hh hok;obtain⟨na,nc,ia,ic⟩:=v;unfold TreeV.val;go_enter func12,ntmps12
  go_wp2_with (go_at_call 25;refine HI.o.mono ?_;rintro e w2 ⟨k,er,hv,hG,rfl,hs⟩;have Hj:=Hd hv;have HB:=Hd (boxT_below.trans (hs.mono (by simp)):Below w.heap.size w w2);clear hs hv)
  refine bodyPost_ret (v:=.tuple #[.slice none 0 0,strV [],intV er]) (by simp[results,results12,go_sem,strV]) rfl ⟨HB.o,.inr ⟨k,er,Hj.o,rfl⟩⟩
section
variable {w w' : World} {t : Tr} {e : Ending}
theorem RetCells.val{s:List UInt8}{c:Int}(h:RetCells w t s e w')(hok:InfOk t)(ht:aX s=true)(hc:HasC t (tysP t t.nodes.length) t.nodes.length s c true)(hn:c≠10000):e=.returned (.tuple #[intV c,intV 0])/\Below w.heap.size w w':=by
 obtain⟨hb,⟨-,r,hr,rfl⟩|⟨k,er,ha,-⟩⟩:=h
 .rcases hr with⟨h1,_⟩|⟨_,d,o,h2,rfl⟩
  .rw[ht]at h1;cases h1
  .obtain⟨rfl,rfl⟩:=h2.unique hc
   rw[if_pos rfl,if_neg hn];exact⟨rfl,hb⟩
 .exact(hok.no ha).elim
theorem RetPlace.val{s field:List UInt8}{q f:Nat}{r:Int×Int×Int}(h:RetPlace w t s field e w')(hok:InfOk t)(hq:recT t t.nodes.length s=some q)(hp:dL t (tysP t t.nodes.length) t.nodes.length f field (t.nd (q:Int)).kids 0=some r):e=.returned (.tuple #[intV r.1,intV r.2.1,intV r.2.2])/\Below w.heap.size w w':=by
 obtain⟨hb,⟨-,r',hr,rfl⟩|⟨k,er,ha,-⟩⟩:=h
 .unfold nS at hr
  rw[hq]at hr;obtain⟨g,hg⟩:=hr;have h1:=dF (show g<=g+f by omega) _ _ _ hg;rw[dF (show f<=g+f by omega) _ _ _ hp]at h1;cases h1
  exact⟨rfl,hb⟩
 .exact(hok.no ha).elim
theorem RetWeigh.val{x:Int}{f n:Nat}(h:RetWeigh w t x e w')(hok:InfOk t)(h0:0<=x)(h1:x<(t.items.length:Int))(hw:jL t f (t.items.getD x.toNat 0)=some n):e=.returned (.tuple #[intV (min 3001 (n:Int)),intV 0])/\Below w.heap.size w w':=by
 obtain⟨hb,⟨-,r,hr,rfl⟩|⟨k,er,ha,-⟩⟩:=h
 .rcases hr with⟨_,_,g,m,hm,rfl⟩|⟨hc,_⟩
  .have h1:=kK hm (show g<=g+f by omega)
   rw[kK hw (show f<=g+f by omega)]at h1;cases h1
   exact⟨rfl,hb⟩
  .exact absurd ⟨h0,h1⟩ hc
 .exact(hok.no ha).elim
theorem RetFaultK.err{k er:Int}(h:RetFaultK w t e w')(hio:InfO t k er):e=.returned (.tuple #[intV k,intV er])/\Below w.heap.size w w':=by
 obtain⟨hb,⟨hc,-⟩|⟨k',er',ha,rfl⟩⟩:=h
 .exact(hc.no hio).elim
 .obtain⟨rfl,rfl⟩:=hio.unique ha
  exact⟨rfl,hb⟩
theorem RetCheckK.val{f:Nat}{r:Int×Int}(h:RetCheckK w t e w')(hok:InfOk t)(hf:gC t f t.items (0,1,0)=some r):e=.returned (intV r.2)/\Below w.heap.size w w':=by
 obtain⟨hb,⟨-,g,r',hg,rfl⟩|⟨k,er,ha,-⟩⟩:=h
 .have h1:=iN (show g<=g+f by omega) _ _ _ hg
  rw[iN (show f<=g+f by omega) _ _ _ hf]at h1;cases h1
  exact⟨rfl,hb⟩
 .exact(hok.no ha).elim
theorem RetSignK.val{m:Nat}(h:RetSignK w t (m:Int) e w')(hok:InfOk t)(hm:m<t.items.length)(hk:(t.nd (t.items.getD m 0)).kind=42):∃a c,e=.returned (.tuple #[.slice a (dY t (tysP t t.nodes.length) (t.items.getD m 0)).length c,strV (fB t (tysP t t.nodes.length) (t.items.getD m 0)),intV 0])/\Strs w' a c (dY t (tysP t t.nodes.length) (t.items.getD m 0))/\Below w.heap.size w w':=by
 obtain⟨hb,⟨-,⟨m',e1,he,hd,a,c,rfl,hs⟩|⟨hc,_⟩⟩|⟨k,er,ha,-⟩⟩:=h
 .obtain rfl:m=m':=by omega
  exact⟨a,c,rfl,hs,hb⟩
 .exact absurd ⟨m,rfl,hm,hk⟩ hc
 .exact(hok.no ha).elim
theorem RetInfer.val(h:RetInfer w t e w')(hok:InfOk t):∃a c,e=.returned (.tuple #[.agg #[.slice a t.nodes.length c],intV 0,intV 0])/\Row 1 w' a t.nodes.length c (kP (exT t))/\Below w.heap.size w w':=by
 rcases h with⟨-,a,c,rfl,ho,hb⟩|⟨k,er,ha,-⟩
 .have:=zT ho
  unfold Strs at this;rw[cP]at this;exact⟨a,c,rfl,this,hb⟩
 .exact(hok.no ha).elim
end
end
section
open Go Go.RowKit
structure KnW (w X:World) (tb:Nat) (v:TreeV) (t:Tr):Prop where
 base:Below w.heap.size w X
 c0:X.cell? ⟨tb,0,none⟩=some (.slice v.na t.nodes.length v.nc)
 c1:X.cell? ⟨tb,1,none⟩=some (.slice v.ia t.items.length v.ic)
 tree:IsTree X v t
theorem KnW.step{w X X':World}{tb:Nat}{v:TreeV}{t:Tr}(h:KnW w X tb v t)(hb:Below X.heap.size X X'):KnW w X' tb v t:=
 ⟨h.base.trans (hb.mono h.base.size),(hb.cell (p:=⟨tb,0,none⟩) (World.block_lt_of_cell? X _ h.c0)).trans h.c0,(hb.cell (p:=⟨tb,1,none⟩) (World.block_lt_of_cell? X _ h.c1)).trans h.c1,h.tree.mono hb nlr⟩
theorem KnW.box{w X:World}{v:TreeV}{t:Tr}(hb:Below w.heap.size w X)(ht:IsTree X v t):KnW w (X.alloc (.cells #[.slice v.na t.nodes.length v.nc,.slice v.ia t.items.length v.ic] 25)) X.heap.size v t:=
 ⟨hb.alloc hb.size _,bZ rfl,bZ rfl,ht.mono ((Below.refl _ X).alloc nlr _) nlr⟩
structure KnK (w X:World) (tb kb:Nat) (v:TreeV) (t:Tr) (oa:Option Addr) (oc:Nat):Prop where
 kn:KnW w X tb v t
 k0:X.cell? ⟨kb,0,none⟩=some (.slice oa t.nodes.length oc)
 row:Row 1 X oa t.nodes.length oc (kP (exT t))
theorem KnK.step{w X X':World}{tb kb:Nat}{v:TreeV}{t:Tr}{oa:Option Addr}{oc:Nat}(h:KnK w X tb kb v t oa oc)(hb:Below X.heap.size X X'):KnK w X' tb kb v t oa oc:=
 ⟨h.kn.step hb,(hb.cell (p:=⟨kb,0,none⟩) (World.block_lt_of_cell? X _ h.k0)).trans h.k0,Row.mono h.row hb nlr⟩
theorem JB(W:World)(l:List (List UInt8)){n:Nat}(hn:n=l.length):Strs (W.alloc (.cells (kP l).toArray 9)) (some ⟨W.heap.size,0,none⟩) n l:=Row.made W (kP l) _ (by simp) (by omega)
theorem FB(w:World)(hg:GVK w)(T U:Tr)(p4:cJ [116,121,112,101,32,112,32,61,32,123,120,58,32,105,110,116,44,32,121,58,32,91,98,111,111,108,59,32,51,93,125,59,32,108,101,116,32,97,32,61,32,91,49,44,32,50,93,91,48,93,32,43,32,49,59,32,102,117,110,32,102,40,110,58,32,105,110,116,41,58,32,105,110,116,32,117,112,116,111,32,50,32,61,32,105,102,32,110,32,61,61,32,48,32,116,104,101,110,32,48,32,101,108,115,101,32,102,40,110,32,45,32,49,41,59,32,108,101,116,32,98,32,61,32,102,40,53,41,59]=.ok T)(p5:cJ [108,101,116,32,97,32,61,32,49,32,43,32,116,114,117,101,59]=.ok U)
 (i4:InfOk T)(i5:InfO U 2 11)(n4:8<T.nodes.length)(l4:T.items.length=4)(o4:ofK (exT T) 8=[91,105,110,116,59,32,50,93])
 (c4:aX [91,112,59,32,50,93]=true/\zU T (tysP T T.nodes.length) T.nodes.length 30 [91,112,59,32,50,93]=some (8,true))(e4:mW [91,91,105,110,116,59,32,50,93,59,32,51,93]=([91,105,110,116,59,32,50,93],3,0))
 (q4:recT T T.nodes.length [112]=some 5/\dL T (tysP T T.nodes.length) T.nodes.length 30 [121] (T.nd 5).kids 0=some (1,3,0))
 (w4:jL T 60 (T.items.getD (2:Int).toNat 0)=some 27/\jL T 60 (T.items.getD (3:Int).toNat 0)=some 29)
 (s4:(T.nd (T.items.getD 2 0)).kind=42/\dY T (tysP T T.nodes.length) (T.items.getD 2 0)=[intT]/\fB T (tysP T T.nodes.length) (T.items.getD 2 0)=intT)(f4:gC T 60 T.items (0,1,0)=some (0,0)) :
 Calls prog 7 #[] w (zD w true):=by
 obtain⟨bd,rg⟩:=jO p4;obtain⟨bd5,rg5⟩:=jO p5;have hh:∀X,Below w.heap.size w X->GVK X:=fun X h=>hg.mono h nlr;have HG:=Hd hh;have HL:=Hd p4;have HM:=Hd p5;have Hf:=Hd i4;have HE:=Hd i5;have HF:=Hd (show(2:Int)<(T.items.length:Int) by omega);have HH:=Hd (show(3:Int)<(T.items.length:Int) by omega);have HI:=Hd (show 2<T.items.length by omega);have HJ:=Hd o4;have Hu:=Hd c4;have HB:=Hd e4;have Hv:=Hd q4;have Hy:=Hd w4;have Ht:=Hd s4;have HC:=Hd f4;have He:=Hd bd;have Hg:=Hd rg;have HA:=Hd bd5;have HN:=Hd rg5;have n4':(8:Int)<(T.nodes.length:Int):=by omega
 have n4a:decide ((T.nodes.length:Int)<9)=false:=by simp;omega
 have n4b:decide (T.nodes.length<9)=false:=by simp;omega
 have n4c:((T.nodes.length:Int) != (T.nodes.length:Int))=false:=by simp
 have HD:=Hd (hh w (Below.refl _ w));clear hh hg p4 p5 i4 i5 l4 o4 c4 e4 q4 w4 s4 f4 bd rg bd5 rg5;go_enter func7,ntmps7
 go_upto_region 4 with(
  go_at_call 21
  refine(oR [116,121,112,101,32,112,32,61,32,123,120,58,32,105,110,116,44,32,121,58,32,91,98,111,111,108,59,32,51,93,125,59,32,108,101,116,32,97,32,61,32,91,49,44,32,50,93,91,48,93,32,43,32,49,59,32,102,117,110,32,102,40,110,58,32,105,110,116,41,58,32,105,110,116,32,117,112,116,111,32,50,32,61,32,105,102,32,110,32,61,61,32,48,32,116,104,101,110,32,48,32,101,108,115,101,32,102,40,110,32,45,32,49,41,59,32,108,101,116,32,98,32,61,32,102,40,53,41,59] _ (by decide) HD.o.gv).mono ?_;rintro e w1⟨⟨na,nc,ia,ic⟩,t,ok,rfl,ht,hk,-,-,hp⟩;obtain⟨rfl,rfl⟩:=hp _ HL.o;unfold TreeV.val;have HX:=Hd (KnW.box hk ht)
  clear ht hk hp)
 obtain⟨X1,hi⟩:∃X,w1.alloc (.cells #[.slice na t.nodes.length nc,.slice ia t.items.length ic] 25)=X:=⟨_,rfl⟩
 obtain⟨tb,hq⟩:∃g,w1.heap.size=g:=⟨_,rfl⟩
 try simp only at HX
 rw[hi,hq]at HX|-;clear hi hq;have c0:=HX.o.c0;have c1:=HX.o.c1;try simp only at c0 c1
 go_upto_region 5 with(
  go_at_call 17
  refine(kW ⟨na,nc,ia,ic⟩ t _ He.o Hg.o (HG.o _ HX.o.base) HX.o.tree).mono ?_;rintro e w2 hr;obtain⟨oa,oc,rfl,hf,hl⟩:=RetInfer.val hr Hf.o;have Hz:=Hd (HX.o.step hl);have Hw:=Hd hf
  clear hr hf hl)
 have he:Below w2.heap.size w2 (w2.alloc (.cells #[.slice oa t.nodes.length oc] 53)):=(Below.refl _ w2).alloc nlr _;have HK:Hid (KnK w (w2.alloc (.cells #[.slice oa t.nodes.length oc] 53)) tb w2.heap.size ⟨na,nc,ia,ic⟩ t oa oc):=Hd ⟨Hz.o.step he,bZ rfl,Row.mono Hw.o he nlr⟩;obtain⟨X3,hj⟩:∃X,w2.alloc (.cells #[.slice oa t.nodes.length oc] 53)=X:=⟨_,rfl⟩
 obtain⟨kb,hm⟩:∃g,w2.heap.size=g:=⟨_,rfl⟩
 rw[hj,hm]at HK|-;clear hj hm he Hz Hw HX c0 c1;have c0:=HK.o.kn.c0;have c1:=HK.o.kn.c1;try simp only at c0 c1
 go_upto_region 11 with(first
  | (go_at_call 12;have hB:=Hk;clear hB;refine(rO ⟨na,nc,ia,ic⟩ t 2 _ He.o Hg.o (HG.o _ Hk.o.kn.base) Hk.o.kn.tree).mono ?_;rintro e w9 hr;obtain⟨sa,sc,rfl,hs,hb⟩:=RetSignK.val (m:=2) hr Hf.o HI.o Ht.o.1;rw[Ht.o.2.1]at hs|-;rw[Ht.o.2.2];have Hx:=Hd hs;clear hr hs;have Hq:=Hd (Hk.o.step hb);clear hb c0 c1;have c0:=Hq.o.kn.c0;have c1:=Hq.o.kn.c1;(try simp only at c0 c1))
  | (go_at_call 20;have hA:=Hj;clear hA;refine(pA ⟨na,nc,ia,ic⟩ t 3 _ He.o Hg.o (HG.o _ Hj.o.kn.base) Hj.o.kn.tree).mono ?_;rintro e w8 hr;obtain⟨rfl,hb⟩:=RetWeigh.val hr Hf.o (by decide) HH.o Hy.o.2;clear hr;have Hk:=Hd (Hj.o.step hb);clear hb c0 c1;have c0:=Hk.o.kn.c0;have c1:=Hk.o.kn.c1;(try simp only at c0 c1))
  | (go_at_call 20;have hz:=Hi;clear hz;refine(pA ⟨na,nc,ia,ic⟩ t 2 _ He.o Hg.o (HG.o _ Hi.o.kn.base) Hi.o.kn.tree).mono ?_;rintro e w7 hr;obtain⟨rfl,hb⟩:=RetWeigh.val hr Hf.o (by decide) HF.o Hy.o.1;clear hr;have Hj:=Hd (Hi.o.step hb);clear hb c0 c1;have c0:=Hj.o.kn.c0;have c1:=Hj.o.kn.c1;(try simp only at c0 c1))
  | (go_at_call 11;have hy:=Hn;clear hy;refine(iZ [91,91,105,110,116,59,32,50,93,59,32,51,93] _ (HG.o _ Hn.o.kn.base) (by decide)).mono ?_;rw[HB.o];rintro e w6 ⟨rfl,hb⟩;have Hi:=Hd (Hn.o.step hb);clear hb c0 c1;have c0:=Hi.o.kn.c0;have c1:=Hi.o.kn.c1;(try simp only at c0 c1))
  | (go_at_call 14;have hw:=Hh;clear hw;refine(oW ⟨na,nc,ia,ic⟩ t [112] [121] _ He.o Hg.o (HG.o _ Hh.o.kn.base) Hh.o.kn.tree (by decide) (by decide)).mono ?_;rintro e w5 hr;obtain⟨rfl,hb⟩:=RetPlace.val hr Hf.o Hv.o.1 Hv.o.2;clear hr;have Hn:=Hd (Hh.o.step hb);clear hb c0 c1;have c0:=Hn.o.kn.c0;have c1:=Hn.o.kn.c1;(try simp only at c0 c1))
  | (go_at_call 9;have hv:=HK;clear hv;refine(fN ⟨na,nc,ia,ic⟩ t [91,112,59,32,50,93] _ He.o Hg.o (HG.o _ HK.o.kn.base) HK.o.kn.tree (by decide)).mono ?_;rintro e w4 hr;obtain⟨rfl,hb⟩:=RetCells.val hr Hf.o Hu.o.1 ⟨30,Hu.o.2⟩ (by decide);clear hr;have Hh:=Hd (HK.o.step hb);clear hb c0 c1;have c0:=Hh.o.kn.c0;have c1:=Hh.o.kn.c1;(try simp only at c0 c1)))
 go_upto_region 12 with(
  go_at_call 21
  refine(oR [108,101,116,32,97,32,61,32,49,32,43,32,116,114,117,101,59] _ (by decide) (HG.o _ Hq.o.kn.base).gv).mono ?_;rintro e w10⟨⟨ma,mc,ja,jc⟩,u,ok,rfl,ht,hb,-,-,hp⟩;obtain⟨rfl,rfl⟩:=hp _ HM.o;unfold TreeV.val;have Hl:=Hd (Hq.o.step hb);have HU:=Hd ht;have Ho:Hid (Strs w10 sa sc [intT]):=Hd (Row.mono Hx.o hb nlr)
  clear ht hb hp c0 c1)
 have he:Below w10.heap.size w10 (w10.alloc (.cells #[.slice ma u.nodes.length mc,.slice ja u.items.length jc] 25)):=(Below.refl _ w10).alloc nlr _;have Hb:=Hd (KnW.box (v:=⟨ma,mc,ja,jc⟩) Hl.o.kn.base HU.o);have Hm:=Hd (Hl.o.step he);have Hp:Hid (Strs _ sa sc [intT]):=Hd (Row.mono Ho.o he nlr);obtain⟨X11,ha⟩:∃X,w10.alloc (.cells #[.slice ma u.nodes.length mc,.slice ja u.items.length jc] 25)=X:=⟨_,rfl⟩
 obtain⟨ub,hu⟩:∃g,w10.heap.size=g:=⟨_,rfl⟩
 try simp only at Hb
 rw[ha]at Hm Hp;rw[ha,hu]at Hb|-;clear ha hu he Ho Hx;have c0:=Hb.o.c0;have c1:=Hb.o.c1;try simp only at c0 c1
 go_upto_region 13 with(
  go_at_call 23
  refine(oU ⟨ma,mc,ja,jc⟩ u _ HA.o HN.o (HG.o _ Hb.o.base) Hb.o.tree).mono ?_;rintro e w12 hr;obtain⟨rfl,hb⟩:=RetFaultK.err hr HE.o;have Hc:=Hd (Hm.o.step hb);have Hs:Hid (Strs w12 sa sc [intT]):=Hd (Row.mono Hp.o hb nlr)
  clear hr hb c0 c1)
 have c0:=Hc.o.kn.c0;have c1:=Hc.o.kn.c1;have k0:=Hc.o.k0;have hn:Strs w12 oa oc (exT t):=by unfold Strs;rw[cP];exact Hc.o.row
 obtain⟨b,o,eb,hb,hc⟩:=hn.at (i:=8) (by rw[cP];exact n4);subst eb;clear hn;have ho:(exT t).getD 8 []=_:=HJ.o;rw[List.getD_eq_getElem?_getD,List.getElem?_eq_getElem (by rw[cP];exact n4),Option.getD_some]at ho;rw[ho]at hc;clear ho;try simp only at c0 c1
 try simp only[List.drop_succ_cons,List.drop_zero]
 go_wp2_with (first
  | (go_at_call 18
     have hx:=Ha;clear hx;refine(xG ⟨na,nc,ia,ic⟩ t _ He.o Hg.o (HG.o _ Ha.o.kn.base) Ha.o.kn.tree).mono ?_;rintro e w15 hr;obtain⟨rfl,hb⟩:=RetCheckK.val hr Hf.o HC.o;have Hr:=Hd (Ha.o.kn.step hb).base
     clear hr hb)
  | (go_at_call 24
     have hd:Below w12.heap.size w12 (w12.alloc (.cells #[strV [105,110,116]] 9)):=(Below.refl _ w12).alloc nlr _;refine(FC sa (some ⟨w12.heap.size,0,none⟩) sc 1 [intT] [intT] _ (by decide) (by decide) (Row.mono Hs.o hd nlr) (JB w12 [intT] rfl)).mono ?_;rintro e w14⟨rfl,hb⟩;rw[show(([intT]:List (List UInt8))==[intT])=true from by decide];have Ha:=Hd ((Hc.o.step hd).step hb);clear hb hd c0 c1;have c0:=Ha.o.kn.c0;have c1:=Ha.o.kn.c1
     try simp only at c0 c1))
 go_ret;exact⟨rfl,Hr.o⟩
theorem RB:kT4=[116,121,112,101,32,112,32,61,32,123,120,58,32,105,110,116,44,32,121,58,32,91,98,111,111,108,59,32,51,93,125,59,32,108,101,116,32,97,32,61,32,91,49,44,32,50,93,91,48,93,32,43,32,49,59,32,102,117,110,32,102,40,110,58,32,105,110,116,41,58,32,105,110,116,32,117,112,116,111,32,50,32,61,32,105,102,32,110,32,61,61,32,48,32,116,104,101,110,32,48,32,101,108,115,101,32,102,40,110,32,45,32,49,41,59,32,108,101,116,32,98,32,61,32,102,40,53,41,59]:=by decide +kernel
theorem RC:kT5=[108,101,116,32,97,32,61,32,49,32,43,32,116,114,117,101,59]:=by decide +kernel
theorem jY(w:World)(hg:GVK w):Calls prog 7 #[] w (zD w true):=
 FB w hg _ _ (RB▸CD) (RC▸CE) MS MT (by rw[MU];decide) (by rw[tG];rfl) MV MP (by unfold mW;rw[MQ]) MW (by rw[tG];exact MY) (by rw[tG];exact MX) MR
end
section
open Go Go.RowKit
theorem oC{t:Tr}(bd:Bd t)(hr:(zb t).2.2=0)(i:Int):(ofK (tysP t t.nodes.length) i).length<=100000:=Nat.le_trans (uA bd hr nlr i) (by decide)
structure NdC (X:World) (nb:Nat) (ka:Option Addr) (kc:Nat) (d:Nd):Prop where
 e0:X.cell? ⟨nb,0,none⟩=some (.int .u8 d.kind)
 e1:X.cell? ⟨nb,1,none⟩=some (strV d.text)
 e3:X.cell? ⟨nb,3,none⟩=some (.slice ka d.kids.length kc)
 kids:Ints X ka kc d.kids
theorem NdC.step{X X':World}{nb:Nat}{ka:Option Addr}{kc:Nat}{d:Nd}(h:NdC X nb ka kc d)(hb:Below X.heap.size X X'):NdC X' nb ka kc d:=
 ⟨(hb.cell (p:=⟨nb,0,none⟩) (World.block_lt_of_cell? X _ h.e0)).trans h.e0,(hb.cell (p:=⟨nb,1,none⟩) (World.block_lt_of_cell? X _ h.e1)).trans h.e1,(hb.cell (p:=⟨nb,3,none⟩) (World.block_lt_of_cell? X _ h.e3)).trans h.e3,Row.mono h.kids hb nlr⟩
section
variable {w w' : World} {t : Tr} {e : Ending}
theorem RetCells.of{s:List UInt8}{r:Int×Int}(h:RetCells w t s e w')(hok:InfOk t)(hr:∀x,CellsR t s x->x=r):e=.returned (.tuple #[intV r.1,intV r.2])/\Below w.heap.size w w':=by
 obtain⟨hb,⟨-,x,hx,rfl⟩|⟨k,er,ha,-⟩⟩:=h
 .rw[hr x hx];exact⟨rfl,hb⟩
 .exact(hok.no ha).elim
theorem RetPlace.of{s field:List UInt8}{r:Int×Int×Int}(h:RetPlace w t s field e w')(hok:InfOk t)(hr:∀x,nS t s field x->x=r):e=.returned (.tuple #[intV r.1,intV r.2.1,intV r.2.2])/\Below w.heap.size w w':=by
 obtain⟨hb,⟨-,x,hx,rfl⟩|⟨k,er,ha,-⟩⟩:=h
 .rw[hr x hx];exact⟨rfl,hb⟩
 .exact(hok.no ha).elim
end
end
end Go.Proofs.YtcdkdiedphhdhaaGreatDoor
