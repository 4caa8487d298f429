/- Part of a proof. -/
import Derived.Test.YtcdkdiedphhdhaaGreatDoorK25
import Derived.Test.YtcdkdiedphhdhaaGreatDoorK29
import Derived.Recover
set_option maxRecDepth 100000
set_option maxHeartbeats 8000000
set_option linter.unusedVariables false
set_option linter.unusedSimpArgs false
open Go.Proofs.Tryz
namespace Go.Proofs.YtcdkdiedphhdhaaGreatDoor
section
open Go Go.RowKit
abbrev tree0:Value:=.agg #[.slice none 0 0,.slice none 0 0]
structure Res3 (W:World) (g:Nat) (x0 x1:Value) (p q:Int):Prop where
 c0:W.cell? ⟨g,0,none⟩=some x0
 c1:W.cell? ⟨g,1,none⟩=some x1
 d0:W.cell? ⟨g+1,0,none⟩=some (intV p)
 e0:W.cell? ⟨g+1+1,0,none⟩=some (intV q)
 f0:W.frozen? ⟨g,0,none⟩=false
 f1:W.frozen? ⟨g,1,none⟩=false
 f2:W.frozen? ⟨g+1,0,none⟩=false
 f3:W.frozen? ⟨g+1+1,0,none⟩=false
theorem Res3.keep{W W':World}{g:Nat}{x0 x1:Value}{p q:Int}(h:Res3 W g x0 x1 p q)(hb:Below (g+1+1+1) W W'):Res3 W' g x0 x1 p q:=by
 obtain⟨h1,h2,h3,h4,h5,h6,h7,h8⟩:=h
 exact⟨(hb.cell (p:=⟨g,0,none⟩) (by show g<_;omega)).trans h1,(hb.cell (p:=⟨g,1,none⟩) (by show g<_;omega)).trans h2,(hb.cell (p:=⟨g+1,0,none⟩) (by show g+1<_;omega)).trans h3,(hb.cell (p:=⟨g+1+1,0,none⟩) (by show g+1+1<_;omega)).trans h4,
  (hb.frozen (p:=⟨g,0,none⟩) (by show g<_;omega)).trans h5,(hb.frozen (p:=⟨g,1,none⟩) (by show g<_;omega)).trans h6,(hb.frozen (p:=⟨g+1,0,none⟩) (by show g+1<_;omega)).trans h7,(hb.frozen (p:=⟨g+1+1,0,none⟩) (by show g+1+1<_;omega)).trans h8⟩
def set3(W:World)(g:Nat)(y0 y1:Value)(p q:Int):World:=(((W.setCell ⟨g,0,none⟩ y0).setCell ⟨g,1,none⟩ y1).setCell ⟨g+1,0,none⟩ (intV p)).setCell ⟨g+1+1,0,none⟩ (intV q)
theorem Res3.set{W:World}{g:Nat}{x0 x1:Value}{p q:Int}(h:Res3 W g x0 x1 p q)(y0 y1:Value)(p' q':Int):Res3 (set3 W g y0 y1 p' q') g y0 y1 p' q'/\Below g W (set3 W g y0 y1 p' q'):=by
 obtain⟨h1,h2,h3,h4,h5,h6,h7,h8⟩:=h;unfold set3;refine⟨⟨?_,?_,?_,?_,?_,?_,?_,?_⟩,((((Below.refl g W).setCell (by simp) _).setCell (by simp) _).setCell (by simp) _).setCell (by simp;omega) _⟩;all_goals go_simp
theorem yF(p q r:Addr)(w:World) :
 CallsD prog 88 #[.pointer (some p),.pointer (some q),.pointer (some r)] .returning w fun e u' w'=>e=.returned (.tuple #[])/\u' = .returning/\w'=w:=by
 refine callsD_of_wpS func88 rfl fun c₀ cs hu=>?_;apply wpS_seq;apply wpS_region;simp[wpOpsS,go_sem,recoverD,hu,ntmps88,Exit.thenS];refine wpS_of_wp ?_;go_wp2;cases c₀
 simp_all[bodyPostS,results,results88]
theorem sV(g:Nat)(pos:Int){x0 x1:Value}{p q:Int}(w:World)(h:Res3 w g x0 x1 p q) :
 CallsD prog 88 #[.pointer (some ⟨g,0,none⟩),.pointer (some ⟨g+1,0,none⟩),.pointer (some ⟨g+1+1,0,none⟩)] (.panicking [{ v:=rC pos,recovered:=false }]) w fun e u' w'=>
  e=.returned (.tuple #[])/\u' = .panicking [{ v:=rC pos,recovered:=true }]/\Res3 w' g (.slice none 0 0) (.slice none 0 0) pos 4/\Below g w w':=by
 have hc:=World.block_lt_of_cell? w _ h.e0;simp only at hc;have HR:=Hd h;obtain⟨h1,h2,h3,h4,h5,h6,h7,h8⟩:=h;refine callsD_of_wpS func88 rfl fun c₀ cs hu=>?_;apply wpS_seq;apply wpS_region;simp[wpOpsS,go_sem,recoverD,hu,ntmps88,Exit.thenS];refine wpS_of_wp ?_;simp only[Array.replicate_succ,Array.replicate_zero,List.push_toArray,List.append_toArray,List.nil_append,List.cons_append,List.setIfInBounds_toArray,List.set_cons_zero,List.set_cons_succ];have he:g<w.heap.size:=by omega
 have hf:g+1<w.heap.size:=by omega
 have hd:∀W:World,(Instr.typeAssert (.iface 148 (.agg #[.int .i64 pos])) 20 148 true).run prog W=.ok (.tuple #[.agg #[.int .i64 pos],.bool true]) W:=fun W=>by kernel_rfl
 go_wp2;go_region;obtain⟨r1,r2⟩:=HR.o.set (.slice none 0 0) (.slice none 0 0) pos 4;obtain⟨W',ha⟩:∃W',((set3 w g (.slice none 0 0) (.slice none 0 0) pos 4).alloc (.cells #[.int .i64 pos] 148)).drew=W':=⟨_,rfl⟩
 have hb:Below (set3 w g (.slice none 0 0) (.slice none 0 0) pos 4).heap.size (set3 w g (.slice none 0 0) (.slice none 0 0) pos 4) W':=by rw[<-ha];exact(brf.alloc nlr _).drew
 have hs:=r2.size;have k1:=r1.keep (hb.mono (by omega));have k2:=r2.trans (hb.mono (by omega));unfold set3 at ha;rw[ha];clear ha hb r1 r2 hs h1 h2 h3 h4 h5 h6 h7 h8 hd;go_wp2;cases c₀
 simp_all[bodyPostS,results,results88]
theorem NN(w:World):Res3 (((w.alloc (.cells #[.slice none 0 0,.slice none 0 0] 25)).alloc (.cells #[.int .i64 0] 3)).alloc (.cells #[.int .i64 0] 33)) w.heap.size (.slice none 0 0) (.slice none 0 0) 0 0:=by
 refine⟨?_,?_,?_,?_,?_,?_,?_,?_⟩;all_goals go_simp
def kC(w:World)(r:PR Tr)(e:Ending)(w':World):Prop:=
 match r with
 |.error pos=>e=.returned (.tuple #[tree0,intV pos,intV 4])/\Below w.heap.size w w'
 |.ok t=>∃v:TreeV,e=.returned (.tuple #[v.val t,intV 0,intV 0])/\IsTree w' v t/\Below w.heap.size w w'
abbrev parO(ta:Option Addr)(n tc:Nat)(fin:Int):Obj:=.cells #[.slice ta n tc,intV fin,intV 0,.slice none 0 0,.slice none 0 0] 146
theorem NG{w0:World}{E:PE}{ta:Option Addr}{tc:Nat}:PQ ⟨w0,E,ta,tc,.slice none 0 0⟩ ⟨0,[]⟩ [] 0 (w0.alloc (parO ta E.toks.length tc E.fin)):=by
 have hc:∀i v,(#[.slice ta E.toks.length tc,intV E.fin,intV 0,.slice none 0 0,.slice none 0 0]:Array Value)[i]?=some v->(w0.alloc (parO ta E.toks.length tc E.fin)).cell? ⟨w0.heap.size,i,none⟩=some v:=fun i v h=>za (World.alloc_heap_new w0 _) h;exact PQ.ofPar (G:=fun i=>i=w0.heap.size) ⟨(Below.refl _ w0).alloc nlr _,hc 0 _ rfl,hc 1 _ rfl,hc 2 _ rfl,hc 4 _ rfl,fun i=>zr (World.alloc_heap_new w0 _),⟨none,0,[],hc 3 _ rfl,OwnN.nil _ _,(fun i ⟨x,h,_⟩=>by cases h),(fun j h=>by simp at h)⟩,rfl,fun i hi=>by subst hi;simp,Nat.zero_le _⟩ (by simp)
theorem gT(w:World)(E:PE)(ta:Option Addr)(tc:Nat)(hok:ParE w E ta tc) :
 Calls prog 62 #[.slice ta E.toks.length tc,intV E.fin] w (kC w (oG E)):=by
 obtain⟨w0,hg⟩:∃w0,((w.alloc (.cells #[.slice none 0 0,.slice none 0 0] 25)).alloc (.cells #[.int .i64 0] 3)).alloc (.cells #[.int .i64 0] 33)=w0:=⟨_,rfl⟩
 have hi:w0.heap.size=w.heap.size+1+1+1:=by rw[<-hg];simp
 have hh:Below w.heap.size w w0:=by rw[<-hg];exact(((Below.refl _ w).alloc nlr _).alloc (by simp) _).alloc (by simp;omega) _
 have hu:Res3 w0 w.heap.size (.slice none 0 0) (.slice none 0 0) 0 0:=by rw[<-hg];exact NN w
 have hd:ParE w0 E ta tc:=⟨hok.row.mono hh nlr,hok.gv.mono hh nlr,hok.many,hok.text,hok.tok⟩
 have hs:Calls prog 89 #[.pointer (some ⟨w.heap.size+1+1+1,0,none⟩)] (w0.alloc (parO ta E.toks.length tc E.fin)) (RdA ⟨w0,E,ta,tc,.slice none 0 0⟩ [] (bM E (E.toks.length+1) [] ⟨0,[]⟩)):=by
  rw[<-hi];exact GN (c:=⟨w0,E,ta,tc,.slice none 0 0⟩) hd rfl NG
 have Hc:=Hd hs;clear hs;have Hb:=Hd hh;have He:=Hd hu;have hx:∀(fn:Fn) (first cap:Array Value) (w:World),(Instr.makeFunc fn first cap).run prog w=.ok (.func fn first cap) w:=fun _ _ _ _=>rfl;have Hg:=Hd hg;clear hok hd hh hu hg;have hf:oG E=(bM E (E.toks.length+1) [] ⟨0,[]⟩).map fun r=>⟨r.2.nodes,r.1⟩:=rfl;obtain⟨S,hS⟩:∃S,bM E (E.toks.length+1) [] ⟨0,[]⟩=S:=⟨_,rfl⟩
 rw[hS]at hf;have Hf:=Hd hS;clear hS
 cases S with
 | error pos=>
   have HT:=Hd hf;clear hf
   go_enter_defers func62,ntmps62
   go_wp2_with (go_at_call 89;rw[Hg.o];refine Hc.o.mono ?_;rw[Hf.o];rintro e w1 (⟨p9,hr,rfl,hb⟩|⟨l,s',a,cp,K,hr,-⟩);rotate_left;(cases hr);obtain rfl:=Except.error.inj hr;have Ha:Hid (Below w0.heap.size w0 w1):=Hd hb;clear hr hb)
   have ha:Below (w.heap.size+1+1+1) w0 w1:=by rw[<-hi];exact Ha.o
   have hw:=He.o.keep ha;refine leaves_cons (f:=88) (args:=#[.pointer (some ⟨w.heap.size,0,none⟩),.pointer (some ⟨w.heap.size+1,0,none⟩),.pointer (some ⟨w.heap.size+1+1,0,none⟩)]) (by simp) (by simp[go_sem]) ?_;refine(sV w.heap.size pos w1 hw).mono ?_;rintro e u' w''⟨rfl,rfl,he,hv⟩;have Hh:=Hd (Hb.o.trans ((ha.mono (by omega)).trans hv));obtain⟨k1,k2,k3,k4,-⟩:=he;simp[Leaves,settle,results,results62,go_sem,loadVar,k1,k2,k3,k4,Result.andThen];rw[HT.o];exact⟨rfl,Hh.o⟩
 | ok r=>
   have HT:=Hd hf;clear hf
   go_enter_defers func62,ntmps62
   go_wp2_with (go_at_call 89;rw[Hg.o];refine Hc.o.mono ?_;rw[Hf.o];rintro e w1 (⟨p9,hr,-⟩|⟨l,s',a,cp,K,hr,rfl,ho,hp⟩);(cases hr);obtain rfl:=Except.ok.inj hr;have Hl:=Hd hp;have Hj:=Hd ho;obtain⟨⟨G,⟨hj,-,-,-⟩⟩,-⟩:=hp;obtain⟨hl,-,-,-,hn,-,⟨na,nc,ks,hm,hq,-,-⟩,-,-,-⟩:=hj;simp only[hi]at hm hn;have Hk:=Hd hq;have Ha:Hid (Below w0.heap.size w0 w1):=Hd hl;have ha:Below (w.heap.size+1+1+1) w0 w1:=(by rw[<-hi];exact Ha.o);obtain⟨r1,r2,r3,r4,r5,r6,r7,r8⟩:=He.o.keep ha;have Hi:=Hd ha;clear hr ho hl hq ha)
   refine leaves_cons (f:=88) (args:=#[.pointer (some ⟨w.heap.size,0,none⟩),.pointer (some ⟨w.heap.size+1,0,none⟩),.pointer (some ⟨w.heap.size+1+1,0,none⟩)]) (by simp) (by simp[go_sem]) ?_;refine(yF _ _ _ _).mono ?_;rintro e u' w''⟨rfl,rfl,rfl⟩;have he:=((Res3.mk r1 r2 r3 r4 r5 r6 r7 r8).set (.slice na s'.nodes.length nc) (.slice a l.length cp) 0 0)
   obtain⟨W2,hc⟩:∃W2,set3 w1 w.heap.size (.slice na s'.nodes.length nc) (.slice a l.length cp) 0 0=W2:=⟨_,rfl⟩
   rw[hc]at he
   have ht:IsTree W2 ⟨na,nc,a,cp⟩ ⟨s'.nodes,l⟩:=by
    rw[<-hc];unfold set3;have q0:∀p:Addr,p.block<w.heap.size+1+1+1->p.block<w0.heap.size+1:=fun p h=>by omega
    have o1:=Hj.o.own w1 Hl.o.own.left;simp only at o1
    exact⟨((((Hk.o.setCell (q0 _ (by simp;omega)) _).setCell (q0 _ (by simp;omega)) _).setCell (q0 _ (by simp)) _).setCell (q0 _ (by simp)) _).nodes,
     dX (ownsRow_setCell_below (ownsRow_setCell_below (ownsRow_setCell_below (ownsRow_setCell_below o1 (q0 _ (by simp;omega)) _) (q0 _ (by simp;omega)) _) (q0 _ (by simp)) _) (q0 _ (by simp)) _)⟩
   have hk:Below w.heap.size w W2:=Hb.o.trans ((Hi.o.mono (by omega)).trans he.2);obtain⟨⟨k1,k2,k3,k4,-⟩,-⟩:=he;unfold set3 at hc;rw[hc];have HX:=Hd ht;have HB:=Hd hk;clear hc r1 r2 r3 r4 r5 r6 r7 r8 hm hn ht hk;simp[Leaves,settle,results,results62,go_sem,loadVar,k1,k2,k3,k4,Result.andThen];rw[HT.o];exact⟨⟨na,nc,a,cp⟩,rfl,HX.o,HB.o⟩
def lS(w:World)(r:Except (Int×Int) Tr)(e:Ending)(w':World):Prop:=
 match r with
 |.error p=>e=.returned (.tuple #[tree0,intV p.1,intV p.2])/\Below w.heap.size w w'
 |.ok t=>∃v:TreeV,e=.returned (.tuple #[v.val t,intV 0,intV 0])/\IsTree w' v t/\Below w.heap.size w w'
def put2(W:World)(g:Nat)(y0 y1:Value):World:=(W.setCell ⟨g,0,none⟩ y0).setCell ⟨g,1,none⟩ y1
theorem fM{W:World}{g:Nat}{x0 x1:Value}(h0:W.cell? ⟨g,0,none⟩=some x0)(h1:W.cell? ⟨g,1,none⟩=some x1)(y0 y1:Value):(put2 W g y0 y1).cell? ⟨g,0,none⟩=some y0/\(put2 W g y0 y1).cell? ⟨g,1,none⟩=some y1:=by
 unfold put2;refine⟨?_,?_⟩
 .rw[World.cell?_setCell_other _ _ _ _ (by simp)];exact World.cell?_setCell_same _ _ _ h0
 .exact World.cell?_setCell_same _ _ _ (by rw[World.cell?_setCell_other _ _ _ _ (by simp)];exact h1)
theorem dM{w W:World}{y0 y1:Value}(h:Below w.heap.size w W):Below w.heap.size w (put2 W w.heap.size y0 y1):=(h.setCell (by simp) _).setCell (by simp) _
theorem ES{w w':World}{r:Except (Int×Int) Tr}{A:Act}{y0 y1:Value}{pos err:Int}(k0:w'.cell? ⟨w.heap.size,0,none⟩=some y0)(k1:w'.cell? ⟨w.heap.size,1,none⟩=some y1)(h2:A.tmps.getD 2 undef=.pointer (some ⟨w.heap.size,0,none⟩))(h3:A.tmps.getD 3 undef=intV pos)(h4:A.tmps.getD 4 undef=intV err)(hd:A.defers=[])
 (hr:lS w r (.returned (.tuple #[.agg #[y0,y1],intV pos,intV err])) w'):bodyPost prog Tryz.f42 (lS w r) Exit.ret A w':=by
 refine bodyPost_ret (v:=.tuple #[.agg #[y0,y1],intV pos,intV err]) ?_ hd hr;simp only[Array.getD_eq_getD_getElem?]at h2 h3 h4;simp[results,results42,go_sem,loadVar,h2,h3,h4,k0,k1,Result.andThen]
theorem jS{w W:World}{r:Except (Int×Int) Tr}{A:Act}{x0 x1 y0 y1:Value}{pos err:Int}(h0:W.cell? ⟨w.heap.size,0,none⟩=some x0)(h1:W.cell? ⟨w.heap.size,1,none⟩=some x1)(h2:A.tmps.getD 2 undef=.pointer (some ⟨w.heap.size,0,none⟩))(h3:A.tmps.getD 3 undef=intV pos)(h4:A.tmps.getD 4 undef=intV err)(hd:A.defers=[])
 (hr:lS w r (.returned (.tuple #[.agg #[y0,y1],intV pos,intV err])) (put2 W w.heap.size y0 y1)):bodyPost prog Tryz.f42 (lS w r) Exit.ret A ((W.setCell ⟨w.heap.size,0,none⟩ y0).setCell ⟨w.heap.size,1,none⟩ y1):=by
 refine bodyPost_ret (v:=.tuple #[.agg #[y0,y1],intV pos,intV err]) ?_ hd hr;obtain⟨k0,k1⟩:=fM h0 h1 y0 y1;unfold put2 at k0 k1;simp only[Array.getD_eq_getD_getElem?]at h2 h3 h4;simp[results,results42,go_sem,loadVar,h2,h3,h4,k0,k1,Result.andThen]
theorem tT{k h:Nat}{W W':World}{a:Option Addr}{n c:Nat}{xs:List Value}(hr:Row k W a n c xs)(hk:0<k)(hs:∀i v,W.cell? ⟨h,i,none⟩=some v->∃a n c,v=.slice a n c)(hx:∀v,xs[0]?=some v->∃q z,v=.int q z)(hT:Turns (fun i=>i=h) W W'):Row k W' a n c xs:=by
 obtain⟨h1,h2,h3,h4⟩:=hr;refine⟨h1,h2,h3,?_⟩;rcases h4 with h4|⟨b,o,e,ha,hc⟩
 .exact .inl h4
 .by_cases h0:n=0
  .exact .inl h0
  .refine .inr ⟨b,o,e,Nat.lt_of_lt_of_le ha hT.size,fun i hi=>?_⟩
   have hl:0<xs.length:=by rw[h1];exact Nat.mul_pos (by omega) hk
   have hb:b≠h:=by
    rintro rfl;obtain⟨q,z,e1⟩:=hx _ (List.getElem?_eq_getElem hl);obtain⟨a9,n9,c9,e2⟩:=hs _ _ (hc 0 hl);rw[e1]at e2;cases e2
   exact(hT.cell ha hb).trans (hc i hi)
theorem nN{h:Nat}{W W':World}{v:TreeV}{t:Tr}(ht:IsTree W v t)(hs:∀i v,W.cell? ⟨h,i,none⟩=some v->∃a n c,v=.slice a n c)(hT:Turns (fun i=>i=h) W W'):IsTree W' v t:=by
 have hI:∀(l:List Int) (v:Value),(zq l)[0]?=some v->∃q z,v=.int q z:=by
  intro l v hv
  cases l with
  |nil=>cases hv
  |cons x l=>cases hv;exact⟨_,_,rfl⟩
 obtain⟨⟨ks,h1,h2,h3⟩,hi⟩:=ht;refine⟨⟨ks,h1,tT h2 (by omega) hs ?_ hT,fun i hi k=>tT (h3 i hi k) (by omega) hs (hI _) hT⟩,tT hi (by omega) hs (hI _) hT⟩;intro v hv
 cases hn:t.nodes with
 |nil=>rw[hn]at hv;simp[zN]at hv
 | cons d ns=>
   cases ks with
   |nil=>rw[hn]at h1;simp at h1
   | cons k ks=>
     rw[hn]at hv;simp[zN,Nd.cells]at hv;exact⟨_,_,hv.symm⟩
structure TreeAt (w W:World) (v:TreeV) (t:Tr):Prop where
 k0:W.cell? ⟨w.heap.size,0,none⟩=some (.slice v.na t.nodes.length v.nc)
 k1:W.cell? ⟨w.heap.size,1,none⟩=some (.slice v.ia t.items.length v.ic)
 g0:W.frozen? ⟨w.heap.size,0,none⟩=false
 g1:W.frozen? ⟨w.heap.size,1,none⟩=false
 os:∀i v,W.cell? ⟨w.heap.size,i,none⟩=some v->∃a n c,v=.slice a n c
 tree:IsTree W v t
 below:Below w.heap.size w W
theorem TreeAt.lt{w W:World}{v:TreeV}{t:Tr}(h:TreeAt w W v t):w.heap.size<W.heap.size:=World.block_lt_of_cell? W _ h.k0
theorem TreeAt.step{w W W':World}{v:TreeV}{t:Tr}(h:TreeAt w W v t)(hb:Below W.heap.size W W'):TreeAt w W' v t:=by
 have hl:=h.lt;have hc:∀i,W'.cell? ⟨w.heap.size,i,none⟩=W.cell? ⟨w.heap.size,i,none⟩:=fun i=>hb.cell (p:=⟨w.heap.size,i,none⟩) hl;exact⟨(hc 0).trans h.k0,(hc 1).trans h.k1,(hb.frozen (p:=⟨w.heap.size,0,none⟩) hl).trans h.g0,(hb.frozen (p:=⟨w.heap.size,1,none⟩) hl).trans h.g1,fun i v hv=>h.os i v ((hc i).symm.trans hv),h.tree.mono hb nlr,h.below.trans (hb.mono (by omega))⟩
theorem iC(W:World)(g:Nat)(y0 y1:Value):Turns (fun i=>i=g) W (put2 W g y0 y1):=(Turns.setCell (M:=fun i=>i=g) (a:=⟨g,0,none⟩) rfl _).trans (Turns.setCell (M:=fun i=>i=g) (a:=⟨g,1,none⟩) rfl _)
theorem TreeAt.put{w W:World}{v:TreeV}{t:Tr}{x0 x1:Value}(h0:W.cell? ⟨w.heap.size,0,none⟩=some x0)(h1:W.cell? ⟨w.heap.size,1,none⟩=some x1)(g0:W.frozen? ⟨w.heap.size,0,none⟩=false)(g1:W.frozen? ⟨w.heap.size,1,none⟩=false)
 (os:∀i v,W.cell? ⟨w.heap.size,i,none⟩=some v->∃a n c,v=.slice a n c)(ht:IsTree W v t)(hb:Below w.heap.size w W):TreeAt w (put2 W w.heap.size (.slice v.na t.nodes.length v.nc) (.slice v.ia t.items.length v.ic)) v t:=by
 obtain⟨k0,k1⟩:=fM h0 h1 (.slice v.na t.nodes.length v.nc) (.slice v.ia t.items.length v.ic);refine⟨k0,k1,by unfold put2;rw[World.frozen?_setCell,World.frozen?_setCell];exact g0,by unfold put2;rw[World.frozen?_setCell,World.frozen?_setCell];exact g1,fun i u hu=>?_,nN ht os (iC _ _ _ _),dM hb⟩;by_cases e0:i=0
 .subst e0;rw[k0]at hu;cases hu;exact⟨_,_,_,rfl⟩
 .by_cases e1:i=1
  .subst e1;rw[k1]at hu;cases hu;exact⟨_,_,_,rfl⟩
  .refine os i u ?_
   unfold put2 at hu;rw[World.cell?_setCell_other _ _ _ _ (by simp[e1]),World.cell?_setCell_other _ _ _ _ (by simp[e0])]at hu;exact hu
theorem fK{w W:World}(hb:Below (w.heap.size+1) (w.alloc (.cells #[.slice none 0 0,.slice none 0 0] 25)) W):∀i v,W.cell? ⟨w.heap.size,i,none⟩=some v->∃a n c,v=.slice a n c:=by
 intro i v hv;have hh:=(hb.block w.heap.size (by omega)).trans (World.alloc_heap_new w _);simp only[World.cell?,hh]at hv;rcases i with _|_|i
 .simp at hv;exact⟨_,_,_,hv.symm⟩
 .simp at hv;exact⟨_,_,_,hv.symm⟩
 .simp at hv
theorem wA(t:Tr):aA t<(t.nodes.length:Int):=by
 apply Classical.byContradiction;intro hn;obtain⟨m,h1,-,h2,-⟩:=eM (p:=fun i=>!eW t i) (n:=t.nodes.length) t.nodes.length 0 (by omega) (show 0<=aA t by omega);have:aA t=m:=h1;omega
theorem wK{s:List UInt8}:∀(f n:Nat) (l:List Tk) (p:Int×Int),nH s f n l=.error p->(p.2 != 0)=true
 |0,n,l,p,h=>by cases h
 | f+1,n,l,p,h=>by
   unfold nH at h;split at h
   .simp only at h
    split at h
    .cases h;rfl
    .split at h
     .cases h;rfl
     .exact wK f _ _ p h
   .cases h
theorem JT{s:List UInt8}{p:Int×Int}(h:nI s=.error p):(p.2 != 0)=true:=by
 unfold nI at h;split at h
 .rename_i hc
  cases h
  exact hc
 .exact wK _ _ _ p h
theorem yA(s:List UInt8)(w:World)(hs:s.length<=1000000000)(hg:GV w) :
 Calls prog 42 #[strV s] w (lS w (cJ s)):=by
 have hE:Below w.heap.size w (w.alloc (.cells #[.slice none 0 0,.slice none 0 0] 25)):=(Below.refl _ w).alloc nlr _;have HR:=Hd (GS s _ hs (hg.mono hE nlr));have Ho:=Hd hE;have HG:=Hd hg;have hF:(w.alloc (.cells #[.slice none 0 0,.slice none 0 0] 25)).cell? ⟨w.heap.size,0,none⟩=some (.slice none 0 0):=za (World.alloc_heap_new w _) rfl;have hG:(w.alloc (.cells #[.slice none 0 0,.slice none 0 0] 25)).cell? ⟨w.heap.size,1,none⟩=some (.slice none 0 0):=za (World.alloc_heap_new w _) rfl;have hI:∀i,(w.alloc (.cells #[.slice none 0 0,.slice none 0 0] 25)).frozen? ⟨w.heap.size,i,none⟩=false:=fun i=>zr (World.alloc_heap_new w _);have Hb:=Hd (And.intro hF (And.intro hG hI));have hJ:(w.alloc (.cells #[.slice none 0 0,.slice none 0 0] 25)).heap.size=w.heap.size+1:=by simp
 have Ha:=Hd hJ;have HA:=Hd hs;clear hE hg hF hG hI hJ hs
 cases hrd:nI s with
 | error p=>
   obtain⟨p1,p2⟩:=p;have Hn:=Hd hrd;have Hh:Hid (cJ s=.error (p1,p2)):=Hd (by unfold cJ wE;rw[hrd]);have hN:(p2 != 0)=true:=JT hrd;clear hrd;go_enter func42,ntmps42
   go_wp2_with (go_at_call 61;refine HR.o.mono ?_;rw[Hn.o];rintro e w2 ⟨rfl,ha⟩;have hf:=(ha.cell (p:=⟨w.heap.size,0,none⟩) (by rw[Ha.o];show w.heap.size<_;omega)).trans Hb.o.1;have hh:=(ha.cell (p:=⟨w.heap.size,1,none⟩) (by rw[Ha.o];show w.heap.size<_;omega)).trans Hb.o.2.1;have hl:=(ha.frozen (p:=⟨w.heap.size,0,none⟩) (by rw[Ha.o];show w.heap.size<_;omega)).trans (Hb.o.2.2 0);have hn:=(ha.frozen (p:=⟨w.heap.size,1,none⟩) (by rw[Ha.o];show w.heap.size<_;omega)).trans (Hb.o.2.2 1);have He:=Hd (Ho.o.trans (ha.mono (by rw[Ha.o];omega)));clear ha)
   rw[Hh.o];exact jS hf hh rfl rfl rfl rfl ⟨rfl,dM He.o⟩
 | ok l=>
   have Hn:=Hd hrd;obtain⟨tk,hP⟩:=CO hrd;have hK:mS ⟨l,s.length⟩:=fun t ht hk=>(nD (tk.tok t ht hk)).2;have Hf:=Hd tk;cases htr:oG ⟨l,(s.length:Int)⟩with
   | error p=>
     have Hp:=Hd htr;have Hh:Hid (cJ s=.error (p,4)):=Hd (by unfold cJ wE;rw[hrd];simp only[htr]);clear hrd htr;go_enter func42,ntmps42
     go_wp2_with (first
      | (go_at_call 61;refine HR.o.mono ?_;rw[Hn.o];rintro e w2 ⟨a,c,rfl,hj,ha⟩;have hf:=(ha.cell (p:=⟨w.heap.size,0,none⟩) (by rw[Ha.o];show w.heap.size<_;omega)).trans Hb.o.1;have hh:=(ha.cell (p:=⟨w.heap.size,1,none⟩) (by rw[Ha.o];show w.heap.size<_;omega)).trans Hb.o.2.1;have hl:=(ha.frozen (p:=⟨w.heap.size,0,none⟩) (by rw[Ha.o];show w.heap.size<_;omega)).trans (Hb.o.2.2 0);have hn:=(ha.frozen (p:=⟨w.heap.size,1,none⟩) (by rw[Ha.o];show w.heap.size<_;omega)).trans (Hb.o.2.2 1);have hi:=Ho.o.trans (ha.mono (by rw[Ha.o];omega));have He:=Hd hi;have he:ParE w2 ⟨l,s.length⟩ a c:=⟨by obtain⟨a',c',e',hu⟩:=aZ hj;cases e';exact hu,HG.o.mono hi nlr,Hf.o.many,Hf.o.text,Hf.o.tok⟩;have Hk:Hid (Calls prog 62 #[.slice a l.length c,intV (s.length:Int)] w2 (kC w2 (oG ⟨l,(s.length:Int)⟩))):=Hd (gT w2 ⟨l,s.length⟩ a c he);clear ha hi he)
      | (go_at_call 62;refine Hk.o.mono ?_;rw[Hp.o];rintro e w3 ⟨rfl,hc⟩;have hq:=(hc.cell (p:=⟨w.heap.size,0,none⟩) (World.block_lt_of_cell? w2 _ hf)).trans hf;have hr:=(hc.cell (p:=⟨w.heap.size,1,none⟩) (World.block_lt_of_cell? w2 _ hh)).trans hh;have hw:=(hc.frozen (p:=⟨w.heap.size,0,none⟩) (World.block_lt_of_cell? w2 _ hf)).trans hl;have hy:=(hc.frozen (p:=⟨w.heap.size,1,none⟩) (World.block_lt_of_cell? w2 _ hh)).trans hn;have Hx:=Hd (He.o.trans (hc.mono He.o.size));clear hc hf hh hl hn))
     rw[Hh.o];exact jS (fM hq hr _ _).1 (fM hq hr _ _).2 rfl rfl rfl rfl ⟨rfl,dM (dM Hx.o)⟩
   | ok t=>
     have Hp:=Hd htr;have tok:=CV hK htr;have bd:Bd t:=tok.bd tk.many (fun x hx=>Nat.le_trans (tk.text x hx) (by omega));have BD:=Hd bd;have hO:=bd.n;have hC:=tok.kid;have Hm:=Hd hC;have Hw:=Hd tok.choices;have Hu:Hid (cJ s=if 800<t.nodes.length\/60<t.items.length then .error (0,5)else if 30<aM t then .error (0,5)else if 0<=aA t then .error ((t.nd (aA t)).pos,3)else .ok t):=Hd (by unfold cJ wE;rw[hrd];simp only[htr]);clear hrd htr tok bd hC;by_cases hlim:800<t.nodes.length\/60<t.items.length
     .have Hr:=Hd (decide_eq_true hlim)
      have Hh:=Hd (Hu.o.trans (if_pos hlim));clear hlim;go_enter func42,ntmps42
      go_wp2_with (first
       | (go_at_call 61;refine HR.o.mono ?_;rw[Hn.o];rintro e w2 ⟨a,c,rfl,hj,ha⟩;have hf:=(ha.cell (p:=⟨w.heap.size,0,none⟩) (by rw[Ha.o];show w.heap.size<_;omega)).trans Hb.o.1;have hh:=(ha.cell (p:=⟨w.heap.size,1,none⟩) (by rw[Ha.o];show w.heap.size<_;omega)).trans Hb.o.2.1;have hl:=(ha.frozen (p:=⟨w.heap.size,0,none⟩) (by rw[Ha.o];show w.heap.size<_;omega)).trans (Hb.o.2.2 0);have hn:=(ha.frozen (p:=⟨w.heap.size,1,none⟩) (by rw[Ha.o];show w.heap.size<_;omega)).trans (Hb.o.2.2 1);have hd:=ha;rw[Ha.o]at hd;have hi:=Ho.o.trans (ha.mono (by rw[Ha.o];omega));have He:=Hd hi;have he:ParE w2 ⟨l,s.length⟩ a c:=⟨by obtain⟨a',c',e',hu⟩:=aZ hj;cases e';exact hu,HG.o.mono hi nlr,Hf.o.many,Hf.o.text,Hf.o.tok⟩;have Hk:Hid (Calls prog 62 #[.slice a l.length c,intV (s.length:Int)] w2 (kC w2 (oG ⟨l,(s.length:Int)⟩))):=Hd (gT w2 ⟨l,s.length⟩ a c he);have Hc:=Hd hd;clear ha hd hi he)
       | (go_at_call 62;refine Hk.o.mono ?_;rw[Hp.o];rintro e w3 ⟨⟨na,nc,ia,ic⟩,rfl,hp,hc⟩;unfold TreeV.val;have hq:=(hc.cell (p:=⟨w.heap.size,0,none⟩) (World.block_lt_of_cell? w2 _ hf)).trans hf;have hr:=(hc.cell (p:=⟨w.heap.size,1,none⟩) (World.block_lt_of_cell? w2 _ hh)).trans hh;have hw:=(hc.frozen (p:=⟨w.heap.size,0,none⟩) (World.block_lt_of_cell? w2 _ hf)).trans hl;have hy:=(hc.frozen (p:=⟨w.heap.size,1,none⟩) (World.block_lt_of_cell? w2 _ hh)).trans hn;have Hi:=Hd (TreeAt.put hq hr hw hy (fK (Hc.o.trans (hc.mono (by have:=Hc.o.size;rw[Ha.o]at this;exact this)))) hp (He.o.trans (hc.mono He.o.size)));obtain⟨p0,p1,q0,q1,-,-,-⟩:=Hi.o;unfold put2 at p0 p1 q0 q1;clear hc hp hf hh hl hn)
       | (go_at_call 63;refine(gS ⟨na,nc,ia,ic⟩ t _ BD.out).mono ?_;rw[Hr.o];rintro e w4 ⟨rfl,ho⟩;have Hg:=Hd (Hi.o.step ho);obtain⟨r0,r1,s0,s1,-,-,-⟩:=Hg.o;clear ho))
      rw[Hh.o];exact jS r0 r1 rfl rfl rfl rfl ⟨rfl,dM Hg.o.below⟩
     .have Hr:=Hd (decide_eq_false hlim)
      have Ht:=Hd (Hu.o.trans (if_neg hlim));obtain⟨dp,hH⟩:∃dp,aM t=dp:=⟨_,rfl⟩
      obtain⟨z,hz⟩:∃z,aA t=z:=⟨_,rfl⟩
      have hL:=wA t;rw[hz]at hL;have Hq:=Hd hH;have Hs:=Hd hz;clear hlim hH hz Hu;by_cases h30:30<dp
      .have Hh:=Hd (Ht.o.trans (if_pos (by rw[Hq.o];exact h30)))
       clear Ht;go_enter func42,ntmps42
       go_wp2_with (first
        | (go_at_call 61;refine HR.o.mono ?_;rw[Hn.o];rintro e w2 ⟨a,c,rfl,hj,ha⟩;have hf:=(ha.cell (p:=⟨w.heap.size,0,none⟩) (by rw[Ha.o];show w.heap.size<_;omega)).trans Hb.o.1;have hh:=(ha.cell (p:=⟨w.heap.size,1,none⟩) (by rw[Ha.o];show w.heap.size<_;omega)).trans Hb.o.2.1;have hl:=(ha.frozen (p:=⟨w.heap.size,0,none⟩) (by rw[Ha.o];show w.heap.size<_;omega)).trans (Hb.o.2.2 0);have hn:=(ha.frozen (p:=⟨w.heap.size,1,none⟩) (by rw[Ha.o];show w.heap.size<_;omega)).trans (Hb.o.2.2 1);have hd:=ha;rw[Ha.o]at hd;have hi:=Ho.o.trans (ha.mono (by rw[Ha.o];omega));have He:=Hd hi;have he:ParE w2 ⟨l,s.length⟩ a c:=⟨by obtain⟨a',c',e',hu⟩:=aZ hj;cases e';exact hu,HG.o.mono hi nlr,Hf.o.many,Hf.o.text,Hf.o.tok⟩;have Hk:Hid (Calls prog 62 #[.slice a l.length c,intV (s.length:Int)] w2 (kC w2 (oG ⟨l,(s.length:Int)⟩))):=Hd (gT w2 ⟨l,s.length⟩ a c he);have Hc:=Hd hd;clear ha hd hi he)
        | (go_at_call 62;refine Hk.o.mono ?_;rw[Hp.o];rintro e w3 ⟨⟨na,nc,ia,ic⟩,rfl,hp,hc⟩;unfold TreeV.val;have hq:=(hc.cell (p:=⟨w.heap.size,0,none⟩) (World.block_lt_of_cell? w2 _ hf)).trans hf;have hr:=(hc.cell (p:=⟨w.heap.size,1,none⟩) (World.block_lt_of_cell? w2 _ hh)).trans hh;have hw:=(hc.frozen (p:=⟨w.heap.size,0,none⟩) (World.block_lt_of_cell? w2 _ hf)).trans hl;have hy:=(hc.frozen (p:=⟨w.heap.size,1,none⟩) (World.block_lt_of_cell? w2 _ hh)).trans hn;have Hi:=Hd (TreeAt.put hq hr hw hy (fK (Hc.o.trans (hc.mono (by have:=Hc.o.size;rw[Ha.o]at this;exact this)))) hp (He.o.trans (hc.mono He.o.size)));obtain⟨p0,p1,q0,q1,-,-,-⟩:=Hi.o;unfold put2 at p0 p1 q0 q1;clear hc hp hf hh hl hn)
        | (go_at_call 63;refine(gS ⟨na,nc,ia,ic⟩ t _ BD.out).mono ?_;rw[Hr.o];rintro e w4 ⟨rfl,ho⟩;have Hg:=Hd (Hi.o.step ho);obtain⟨r0,r1,s0,s1,-,-,-⟩:=Hg.o;clear ho)
        | (go_at_call 64;refine(gA ⟨na,nc,ia,ic⟩ t _ BD.out Hm.o Hg.o.tree).mono ?_;rw[Hq.o];rintro e w5 ⟨rfl,hv⟩;have Hj:=Hd (Hg.o.step hv);obtain⟨r05,r15,s05,s15,-,-,-⟩:=Hj.o;clear hv))
       rw[Hh.o];exact jS r05 r15 rfl rfl rfl rfl ⟨rfl,dM Hj.o.below⟩
      .have Hh:=Hd (Ht.o.trans (if_neg (by rw[Hq.o];exact h30)))
       clear Ht;by_cases hz0:0<=z
       .have Hv:=Hd (Hh.o.trans (if_pos (by rw[Hs.o];exact hz0)))
        clear Hh;obtain⟨m,rfl⟩:=Int.eq_ofNat_of_zero_le hz0;have hm:m<t.nodes.length:=by omega
        have hA:=t.nd_at hm;obtain⟨D2,hD⟩:∃D2,t.nodes[m]=D2:=⟨_,rfl⟩
        rw[hD]at hA;have Hz:=Hd hA;have Hy:=Hd hD;clear hA hD hz0;go_enter func42,ntmps42
        go_wp2_with (first
         | (go_at_call 61;refine HR.o.mono ?_;rw[Hn.o];rintro e w2 ⟨a,c,rfl,hj,ha⟩;have hf:=(ha.cell (p:=⟨w.heap.size,0,none⟩) (by rw[Ha.o];show w.heap.size<_;omega)).trans Hb.o.1;have hh:=(ha.cell (p:=⟨w.heap.size,1,none⟩) (by rw[Ha.o];show w.heap.size<_;omega)).trans Hb.o.2.1;have hl:=(ha.frozen (p:=⟨w.heap.size,0,none⟩) (by rw[Ha.o];show w.heap.size<_;omega)).trans (Hb.o.2.2 0);have hn:=(ha.frozen (p:=⟨w.heap.size,1,none⟩) (by rw[Ha.o];show w.heap.size<_;omega)).trans (Hb.o.2.2 1);have hd:=ha;rw[Ha.o]at hd;have hi:=Ho.o.trans (ha.mono (by rw[Ha.o];omega));have He:=Hd hi;have he:ParE w2 ⟨l,s.length⟩ a c:=⟨by obtain⟨a',c',e',hu⟩:=aZ hj;cases e';exact hu,HG.o.mono hi nlr,Hf.o.many,Hf.o.text,Hf.o.tok⟩;have Hk:Hid (Calls prog 62 #[.slice a l.length c,intV (s.length:Int)] w2 (kC w2 (oG ⟨l,(s.length:Int)⟩))):=Hd (gT w2 ⟨l,s.length⟩ a c he);have Hc:=Hd hd;clear ha hd hi he)
         | (go_at_call 62;refine Hk.o.mono ?_;rw[Hp.o];rintro e w3 ⟨⟨na,nc,ia,ic⟩,rfl,hp,hc⟩;unfold TreeV.val;have hq:=(hc.cell (p:=⟨w.heap.size,0,none⟩) (World.block_lt_of_cell? w2 _ hf)).trans hf;have hr:=(hc.cell (p:=⟨w.heap.size,1,none⟩) (World.block_lt_of_cell? w2 _ hh)).trans hh;have hw:=(hc.frozen (p:=⟨w.heap.size,0,none⟩) (World.block_lt_of_cell? w2 _ hf)).trans hl;have hy:=(hc.frozen (p:=⟨w.heap.size,1,none⟩) (World.block_lt_of_cell? w2 _ hh)).trans hn;have Hi:=Hd (TreeAt.put hq hr hw hy (fK (Hc.o.trans (hc.mono (by have:=Hc.o.size;rw[Ha.o]at this;exact this)))) hp (He.o.trans (hc.mono He.o.size)));obtain⟨p0,p1,q0,q1,-,-,-⟩:=Hi.o;unfold put2 at p0 p1 q0 q1;clear hc hp hf hh hl hn)
         | (go_at_call 63;refine(gS ⟨na,nc,ia,ic⟩ t _ BD.out).mono ?_;rw[Hr.o];rintro e w4 ⟨rfl,ho⟩;have Hg:=Hd (Hi.o.step ho);obtain⟨r0,r1,s0,s1,-,-,-⟩:=Hg.o;clear ho)
         | (go_at_call 64;refine(gA ⟨na,nc,ia,ic⟩ t _ BD.out Hm.o Hg.o.tree).mono ?_;rw[Hq.o];rintro e w5 ⟨rfl,hv⟩;have Hj:=Hd (Hg.o.step hv);obtain⟨r05,r15,s05,s15,-,-,-⟩:=Hj.o;clear hv)
         | (go_at_call 65;refine(iF ⟨na,nc,ia,ic⟩ t _ BD.out Hw.o Hj.o.tree).mono ?_;rw[Hs.o];rintro e w6 ⟨rfl,hB⟩;have Hl:=Hd (Hj.o.step hB);obtain⟨r06,r16,s06,s16,-,-,-⟩:=Hl.o;obtain⟨b,o,ka,kc,ea,hb,m0,m1,m2,m3,m4,-⟩:=Hl.o.tree.nodes.at hm;simp only at ea;subst ea;rw[Hy.o]at m4;clear hB m1 m2 m3))
        have hM:b≠w.heap.size:=by
         rintro rfl;obtain⟨x,y,z,e⟩:=Hl.o.os _ _ m0;cases e
        go_region;go_wp2;rw[Hv.o,Hs.o,Hz.o];exact ES (fM r06 r16 _ _).1 (fM r06 r16 _ _).2 rfl rfl rfl rfl ⟨rfl,(dM Hl.o.below).drew⟩
       .have Hv:=Hd (Hh.o.trans (if_neg (by rw[Hs.o];exact hz0)))
        clear Hh;go_enter func42,ntmps42
        go_wp2_with (first
         | (go_at_call 61;refine HR.o.mono ?_;rw[Hn.o];rintro e w2 ⟨a,c,rfl,hj,ha⟩;have hf:=(ha.cell (p:=⟨w.heap.size,0,none⟩) (by rw[Ha.o];show w.heap.size<_;omega)).trans Hb.o.1;have hh:=(ha.cell (p:=⟨w.heap.size,1,none⟩) (by rw[Ha.o];show w.heap.size<_;omega)).trans Hb.o.2.1;have hl:=(ha.frozen (p:=⟨w.heap.size,0,none⟩) (by rw[Ha.o];show w.heap.size<_;omega)).trans (Hb.o.2.2 0);have hn:=(ha.frozen (p:=⟨w.heap.size,1,none⟩) (by rw[Ha.o];show w.heap.size<_;omega)).trans (Hb.o.2.2 1);have hd:=ha;rw[Ha.o]at hd;have hi:=Ho.o.trans (ha.mono (by rw[Ha.o];omega));have He:=Hd hi;have he:ParE w2 ⟨l,s.length⟩ a c:=⟨by obtain⟨a',c',e',hu⟩:=aZ hj;cases e';exact hu,HG.o.mono hi nlr,Hf.o.many,Hf.o.text,Hf.o.tok⟩;have Hk:Hid (Calls prog 62 #[.slice a l.length c,intV (s.length:Int)] w2 (kC w2 (oG ⟨l,(s.length:Int)⟩))):=Hd (gT w2 ⟨l,s.length⟩ a c he);have Hc:=Hd hd;clear ha hd hi he)
         | (go_at_call 62;refine Hk.o.mono ?_;rw[Hp.o];rintro e w3 ⟨⟨na,nc,ia,ic⟩,rfl,hp,hc⟩;unfold TreeV.val;have hq:=(hc.cell (p:=⟨w.heap.size,0,none⟩) (World.block_lt_of_cell? w2 _ hf)).trans hf;have hr:=(hc.cell (p:=⟨w.heap.size,1,none⟩) (World.block_lt_of_cell? w2 _ hh)).trans hh;have hw:=(hc.frozen (p:=⟨w.heap.size,0,none⟩) (World.block_lt_of_cell? w2 _ hf)).trans hl;have hy:=(hc.frozen (p:=⟨w.heap.size,1,none⟩) (World.block_lt_of_cell? w2 _ hh)).trans hn;have Hi:=Hd (TreeAt.put hq hr hw hy (fK (Hc.o.trans (hc.mono (by have:=Hc.o.size;rw[Ha.o]at this;exact this)))) hp (He.o.trans (hc.mono He.o.size)));obtain⟨p0,p1,q0,q1,-,-,-⟩:=Hi.o;unfold put2 at p0 p1 q0 q1;clear hc hp hf hh hl hn)
         | (go_at_call 63;refine(gS ⟨na,nc,ia,ic⟩ t _ BD.out).mono ?_;rw[Hr.o];rintro e w4 ⟨rfl,ho⟩;have Hg:=Hd (Hi.o.step ho);obtain⟨r0,r1,s0,s1,-,-,-⟩:=Hg.o;clear ho)
         | (go_at_call 64;refine(gA ⟨na,nc,ia,ic⟩ t _ BD.out Hm.o Hg.o.tree).mono ?_;rw[Hq.o];rintro e w5 ⟨rfl,hv⟩;have Hj:=Hd (Hg.o.step hv);obtain⟨r05,r15,s05,s15,-,-,-⟩:=Hj.o;clear hv)
         | (go_at_call 65;refine(iF ⟨na,nc,ia,ic⟩ t _ BD.out Hw.o Hj.o.tree).mono ?_;rw[Hs.o];rintro e w6 ⟨rfl,hB⟩;have Hl:=Hd (Hj.o.step hB);obtain⟨r06,r16,s06,s16,-,-,-⟩:=Hl.o;clear hB))
        rw[Hv.o];exact jS r06 r16 rfl rfl rfl rfl ⟨⟨na,nc,ia,ic⟩,rfl,nN Hl.o.tree Hl.o.os (iC _ _ _ _),dM Hl.o.below⟩
end
end Go.Proofs.YtcdkdiedphhdhaaGreatDoor
