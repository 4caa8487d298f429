/- Part of a proof. -/
import Derived.Test.YtokdgiphdnjeoaaGreatDoorQ24
import Derived.Test.YtokdgiphdnjeoaaGreatDoorQ30
import Derived.Recover
set_option maxRecDepth 100000
set_option maxHeartbeats 8000000
set_option linter.unusedVariables false
set_option linter.unusedSimpArgs false
open Go.Proofs.Tryz
namespace Go.Proofs.YtokdgiphdnjeoaaGreatDoor
section
open Go Go.RowKit
abbrev tree0:Value:=.agg #[.slice none 0 0,.slice none 0 0]
structure Res3 (W:World) (g:Nat) (x0 x1:Value) (p q:Int):Prop where
 c0:W.cell? ⟨g,0,none⟩=some x0
 c1:W.cell? ⟨g,1,none⟩=some x1
 d0:W.cell? ⟨g+1,0,none⟩=some (intV p)
 e0:W.cell? ⟨g+1+1,0,none⟩=some (intV q)
 f0:W.frozen? ⟨g,0,none⟩=false
 f1:W.frozen? ⟨g,1,none⟩=false
 f2:W.frozen? ⟨g+1,0,none⟩=false
 f3:W.frozen? ⟨g+1+1,0,none⟩=false
theorem Res3.keep{W W':World}{g:Nat}{x0 x1:Value}{p q:Int}(h:Res3 W g x0 x1 p q)(hb:Below (g+1+1+1) W W'):Res3 W' g x0 x1 p q:=by
 obtain⟨h1,h2,h3,h4,h5,h6,h7,h8⟩:=h
 exact⟨(hb.cell (p:=⟨g,0,none⟩) (by show g<_;omega)).trans h1,(hb.cell (p:=⟨g,1,none⟩) (by show g<_;omega)).trans h2,(hb.cell (p:=⟨g+1,0,none⟩) (by show g+1<_;omega)).trans h3,(hb.cell (p:=⟨g+1+1,0,none⟩) (by show g+1+1<_;omega)).trans h4,
  (hb.frozen (p:=⟨g,0,none⟩) (by show g<_;omega)).trans h5,(hb.frozen (p:=⟨g,1,none⟩) (by show g<_;omega)).trans h6,(hb.frozen (p:=⟨g+1,0,none⟩) (by show g+1<_;omega)).trans h7,(hb.frozen (p:=⟨g+1+1,0,none⟩) (by show g+1+1<_;omega)).trans h8⟩
def set3(W:World)(g:Nat)(y0 y1:Value)(p q:Int):World:=(((W.setCell ⟨g,0,none⟩ y0).setCell ⟨g,1,none⟩ y1).setCell ⟨g+1,0,none⟩ (intV p)).setCell ⟨g+1+1,0,none⟩ (intV q)
theorem Res3.set{W:World}{g:Nat}{x0 x1:Value}{p q:Int}(h:Res3 W g x0 x1 p q)(y0 y1:Value)(p' q':Int):Res3 (set3 W g y0 y1 p' q') g y0 y1 p' q'∧Below g W (set3 W g y0 y1 p' q'):=by
 obtain⟨h1,h2,h3,h4,h5,h6,h7,h8⟩:=h;unfold set3;refine⟨⟨?_,?_,?_,?_,?_,?_,?_,?_⟩,((((Below.refl g W).setCell (by simp) _).setCell (by simp) _).setCell (by simp) _).setCell (by simp;omega) _⟩;all_goals go_simp
theorem wO(p q r:Addr)(w:World) :
 CallsD prog 175 #[.pointer (some p),.pointer (some q),.pointer (some r)] .returning w fun e u' w'=>e=.returned (.tuple #[])∧u' = .returning∧w'=w:=by
 refine callsD_of_wpS func175 rfl fun c₀ cs hu=>?_;apply wpS_seq;apply wpS_region;simp[wpOpsS,go_sem,recoverD,hu,ntmps175,Exit.thenS];refine wpS_of_wp ?_;go_wp2;cases c₀
 simp_all[bodyPostS,results,results175]
theorem rW(g:Nat)(pos:Int){x0 x1:Value}{p q:Int}(w:World)(h:Res3 w g x0 x1 p q) :
 CallsD prog 175 #[.pointer (some ⟨g,0,none⟩),.pointer (some ⟨g+1,0,none⟩),.pointer (some ⟨g+1+1,0,none⟩)] (.panicking [{ v:=rS pos,recovered:=false }]) w fun e u' w'=>
  e=.returned (.tuple #[])∧u' = .panicking [{ v:=rS pos,recovered:=true }]∧Res3 w' g (.slice none 0 0) (.slice none 0 0) pos 4∧Below g w w':=by
 have hlt:=World.block_lt_of_cell? w _ h.e0;simp only at hlt;have HR:=Hd h;obtain⟨h1,h2,h3,h4,h5,h6,h7,h8⟩:=h;refine callsD_of_wpS func175 rfl fun c₀ cs hu=>?_;apply wpS_seq;apply wpS_region;simp[wpOpsS,go_sem,recoverD,hu,ntmps175,Exit.thenS];refine wpS_of_wp ?_;simp only[Array.replicate_succ,Array.replicate_zero,List.push_toArray,List.append_toArray,List.nil_append,List.cons_append,List.setIfInBounds_toArray,List.set_cons_zero,List.set_cons_succ];have hl0:g<w.heap.size:=by omega
 have hl1:g+1<w.heap.size:=by omega
 have hta:∀W:World,(Instr.typeAssert (.iface 197 (.agg #[.int .i64 pos])) 20 197 true).run prog W=.ok (.tuple #[.agg #[.int .i64 pos],.bool true]) W:=fun W=>by kernel_rfl
 go_wp2;go_region;obtain⟨r1,r2⟩:=HR.out.set (.slice none 0 0) (.slice none 0 0) pos 4;obtain⟨W',hW'⟩:∃W',((set3 w g (.slice none 0 0) (.slice none 0 0) pos 4).alloc (.cells #[.int .i64 pos] 197)).drew=W':=⟨_,rfl⟩
 have hb:Below (set3 w g (.slice none 0 0) (.slice none 0 0) pos 4).heap.size (set3 w g (.slice none 0 0) (.slice none 0 0) pos 4) W':=by rw[←hW'];exact(brf.alloc nlr _).drew
 have hs:=r2.size;have k1:=r1.keep (hb.mono (by omega));have k2:=r2.trans (hb.mono (by omega));unfold set3 at hW';rw[hW'];clear hW' hb r1 r2 hs h1 h2 h3 h4 h5 h6 h7 h8 hta;go_wp2;cases c₀
 simp_all[bodyPostS,results,results175]
theorem KR(w:World):Res3 (((w.alloc (.cells #[.slice none 0 0,.slice none 0 0] 25)).alloc (.cells #[.int .i64 0] 3)).alloc (.cells #[.int .i64 0] 32)) w.heap.size (.slice none 0 0) (.slice none 0 0) 0 0:=by
 refine⟨?_,?_,?_,?_,?_,?_,?_,?_⟩;all_goals go_simp
def jQ(w:World)(r:PR Tr)(e:Ending)(w':World):Prop:=
 match r with
 |.error pos=>e=.returned (.tuple #[tree0,intV pos,intV 4])∧Below w.heap.size w w'
 |.ok t=>∃v:TreeV,e=.returned (.tuple #[v.val t,intV 0,intV 0])∧IsTree w' v t∧Below w.heap.size w w'
abbrev parO(ta:Option Addr)(n tc:Nat)(fin:Int):Obj:=.cells #[.slice ta n tc,intV fin,intV 0,.slice none 0 0,.slice none 0 0] 195
theorem KH{w0:World}{E:PE}{ta:Option Addr}{tc:Nat}:PQ ⟨w0,E,ta,tc,.slice none 0 0⟩ ⟨0,[]⟩ [] 0 (w0.alloc (parO ta E.toks.length tc E.fin)):=by
 have hc:∀i v,(#[.slice ta E.toks.length tc,intV E.fin,intV 0,.slice none 0 0,.slice none 0 0]:Array Value)[i]?=some v→(w0.alloc (parO ta E.toks.length tc E.fin)).cell? ⟨w0.heap.size,i,none⟩=some v:=fun i v h=>za (World.alloc_heap_new w0 _) h;exact PQ.ofPar (G:=fun i=>i=w0.heap.size) ⟨(Below.refl _ w0).alloc nlr _,hc 0 _ rfl,hc 1 _ rfl,hc 2 _ rfl,hc 4 _ rfl,fun i=>zl (World.alloc_heap_new w0 _),⟨none,0,[],hc 3 _ rfl,OwnN.nil _ _,(fun i ⟨x,h,_⟩=>by cases h),(fun j h=>by simp at h)⟩,rfl,fun i hi=>by subst hi;simp,Nat.zero_le _⟩ (by simp)
theorem gN(w:World)(E:PE)(ta:Option Addr)(tc:Nat)(hok:ParE w E ta tc) :
 Calls prog 128 #[.slice ta E.toks.length tc,intV E.fin] w (jQ w (nG E)):=by
 obtain⟨w0,hw0⟩:∃w0,((w.alloc (.cells #[.slice none 0 0,.slice none 0 0] 25)).alloc (.cells #[.int .i64 0] 3)).alloc (.cells #[.int .i64 0] 32)=w0:=⟨_,rfl⟩
 have hs0:w0.heap.size=w.heap.size+1+1+1:=by rw[←hw0];simp
 have hb0:Below w.heap.size w w0:=by rw[←hw0];exact(((Below.refl _ w).alloc nlr _).alloc (by simp) _).alloc (by simp;omega) _
 have hr0:Res3 w0 w.heap.size (.slice none 0 0) (.slice none 0 0) 0 0:=by rw[←hw0];exact KR w
 have hok0:ParE w0 E ta tc:=⟨hok.row.mono hb0 nlr,hok.gv.mono hb0 nlr,hok.many,hok.text,hok.tok⟩
 have hpg:Calls prog 176 #[.pointer (some ⟨w.heap.size+1+1+1,0,none⟩)] (w0.alloc (parO ta E.toks.length tc E.fin)) (RdA ⟨w0,E,ta,tc,.slice none 0 0⟩ [] (bS E (E.toks.length+1) [] ⟨0,[]⟩)):=by
  rw[←hs0];exact DI (c:=⟨w0,E,ta,tc,.slice none 0 0⟩) hok0 rfl KH
 have HPG:=Hd hpg;clear hpg;have HB0:=Hd hb0;have HR0:=Hd hr0;have hmf:∀(fn:Fn) (first cap:Array Value) (w:World),(Instr.makeFunc fn first cap).run prog w=.ok (.func fn first cap) w:=fun _ _ _ _=>rfl;have HW0:=Hd hw0;clear hok hok0 hb0 hr0 hw0;have htp:nG E=(bS E (E.toks.length+1) [] ⟨0,[]⟩).map fun r=>⟨r.2.nodes,r.1⟩:=rfl;obtain⟨S,hS⟩:∃S,bS E (E.toks.length+1) [] ⟨0,[]⟩=S:=⟨_,rfl⟩
 rw[hS]at htp;have HSS:=Hd hS;clear hS
 cases S with
 | error pos=>
   have HT:=Hd htp;clear htp
   go_enter_defers func128,ntmps128
   go_wp2_with (go_at_call 176;rw[HW0.out];refine HPG.out.mono ?_;rw[HSS.out];rintro e w1 (⟨p9,hr,rfl,hb⟩|⟨l,s',a,cp,K,hr,-⟩);rotate_left;(cases hr);obtain rfl:=Except.error.inj hr;have HB1:Hid (Below w0.heap.size w0 w1):=Hd hb;clear hr hb)
   have hb1:Below (w.heap.size+1+1+1) w0 w1:=by rw[←hs0];exact HB1.out
   have hr1:=HR0.out.keep hb1;refine leaves_cons (f:=175) (args:=#[.pointer (some ⟨w.heap.size,0,none⟩),.pointer (some ⟨w.heap.size+1,0,none⟩),.pointer (some ⟨w.heap.size+1+1,0,none⟩)]) (by simp) (by simp[go_sem]) ?_;refine(rW w.heap.size pos w1 hr1).mono ?_;rintro e u' w''⟨rfl,rfl,hr2,hb2⟩;have HB2:=Hd (HB0.out.trans ((hb1.mono (by omega)).trans hb2));obtain⟨k1,k2,k3,k4,-⟩:=hr2;simp[Leaves,settle,results,results128,go_sem,loadVar,k1,k2,k3,k4,Result.andThen];rw[HT.out];exact⟨rfl,HB2.out⟩
 | ok r=>
   have HT:=Hd htp;clear htp
   go_enter_defers func128,ntmps128
   go_wp2_with (go_at_call 176;rw[HW0.out];refine HPG.out.mono ?_;rw[HSS.out];rintro e w1 (⟨p9,hr,-⟩|⟨l,s',a,cp,K,hr,rfl,hkl,hp⟩);(cases hr);obtain rfl:=Except.ok.inj hr;have HP1:=Hd hp;have HKL:=Hd hkl;obtain⟨⟨G,⟨hpar,-,-,-⟩⟩,-⟩:=hp;obtain⟨hbw,-,-,-,hc4,-,⟨na,nc,ks,hc3,hon,-,-⟩,-,-,-⟩:=hpar;simp only[hs0]at hc3 hc4;have HON:=Hd hon;have HB1:Hid (Below w0.heap.size w0 w1):=Hd hbw;have hb1:Below (w.heap.size+1+1+1) w0 w1:=(by rw[←hs0];exact HB1.out);obtain⟨r1,r2,r3,r4,r5,r6,r7,r8⟩:=HR0.out.keep hb1;have HBB:=Hd hb1;clear hr hkl hbw hon hb1)
   refine leaves_cons (f:=175) (args:=#[.pointer (some ⟨w.heap.size,0,none⟩),.pointer (some ⟨w.heap.size+1,0,none⟩),.pointer (some ⟨w.heap.size+1+1,0,none⟩)]) (by simp) (by simp[go_sem]) ?_;refine(wO _ _ _ _).mono ?_;rintro e u' w''⟨rfl,rfl,rfl⟩;have hr2:=((Res3.mk r1 r2 r3 r4 r5 r6 r7 r8).set (.slice na s'.nodes.length nc) (.slice a l.length cp) 0 0)
   obtain⟨W2,hW2⟩:∃W2,set3 w1 w.heap.size (.slice na s'.nodes.length nc) (.slice a l.length cp) 0 0=W2:=⟨_,rfl⟩
   rw[hW2]at hr2
   have ht:IsTree W2 ⟨na,nc,a,cp⟩ ⟨s'.nodes,l⟩:=by
    rw[←hW2];unfold set3;have q0:∀p:Addr,p.block<w.heap.size+1+1+1→p.block<w0.heap.size+1:=fun p h=>by omega
    have o1:=HKL.out.own w1 HP1.out.own.left;simp only at o1
    exact⟨((((HON.out.setCell (q0 _ (by simp;omega)) _).setCell (q0 _ (by simp;omega)) _).setCell (q0 _ (by simp)) _).setCell (q0 _ (by simp)) _).nodes,
     zU (ownsRow_setCell_below (ownsRow_setCell_below (ownsRow_setCell_below (ownsRow_setCell_below o1 (q0 _ (by simp;omega)) _) (q0 _ (by simp;omega)) _) (q0 _ (by simp)) _) (q0 _ (by simp)) _)⟩
   have hbb:Below w.heap.size w W2:=HB0.out.trans ((HBB.out.mono (by omega)).trans hr2.2);obtain⟨⟨k1,k2,k3,k4,-⟩,-⟩:=hr2;unfold set3 at hW2;rw[hW2];have HX:=Hd ht;have HB:=Hd hbb;clear hW2 r1 r2 r3 r4 r5 r6 r7 r8 hc3 hc4 ht hbb;simp[Leaves,settle,results,results128,go_sem,loadVar,k1,k2,k3,k4,Result.andThen];rw[HT.out];exact⟨⟨na,nc,a,cp⟩,rfl,HX.out,HB.out⟩
def lE(w:World)(r:Except (Int×Int) Tr)(e:Ending)(w':World):Prop:=
 match r with
 |.error p=>e=.returned (.tuple #[tree0,intV p.1,intV p.2])∧Below w.heap.size w w'
 |.ok t=>∃v:TreeV,e=.returned (.tuple #[v.val t,intV 0,intV 0])∧IsTree w' v t∧Below w.heap.size w w'
def put2(W:World)(g:Nat)(y0 y1:Value):World:=(W.setCell ⟨g,0,none⟩ y0).setCell ⟨g,1,none⟩ y1
theorem eE{W:World}{g:Nat}{x0 x1:Value}(h0:W.cell? ⟨g,0,none⟩=some x0)(h1:W.cell? ⟨g,1,none⟩=some x1)(y0 y1:Value):(put2 W g y0 y1).cell? ⟨g,0,none⟩=some y0∧(put2 W g y0 y1).cell? ⟨g,1,none⟩=some y1:=by
 unfold put2;refine⟨?_,?_⟩
 ·rw[World.cell?_setCell_other _ _ _ _ (by simp)];exact World.cell?_setCell_same _ _ _ h0
 ·exact World.cell?_setCell_same _ _ _ (by rw[World.cell?_setCell_other _ _ _ _ (by simp)];exact h1)
theorem dP{w W:World}{y0 y1:Value}(h:Below w.heap.size w W):Below w.heap.size w (put2 W w.heap.size y0 y1):=(h.setCell (by simp) _).setCell (by simp) _
theorem BT{w w':World}{r:Except (Int×Int) Tr}{A:Act}{y0 y1:Value}{pos err:Int}(k0:w'.cell? ⟨w.heap.size,0,none⟩=some y0)(k1:w'.cell? ⟨w.heap.size,1,none⟩=some y1)(h2:A.tmps.getD 2 undef=.pointer (some ⟨w.heap.size,0,none⟩))(h3:A.tmps.getD 3 undef=intV pos)(h4:A.tmps.getD 4 undef=intV err)(hd:A.defers=[])
 (hr:lE w r (.returned (.tuple #[.agg #[y0,y1],intV pos,intV err])) w'):bodyPost prog Tryz.f80 (lE w r) Exit.ret A w':=by
 refine bodyPost_ret (v:=.tuple #[.agg #[y0,y1],intV pos,intV err]) ?_ hd hr;simp only[Array.getD_eq_getD_getElem?]at h2 h3 h4;simp[results,results80,go_sem,loadVar,h2,h3,h4,k0,k1,Result.andThen]
theorem jF{w W:World}{r:Except (Int×Int) Tr}{A:Act}{x0 x1 y0 y1:Value}{pos err:Int}(h0:W.cell? ⟨w.heap.size,0,none⟩=some x0)(h1:W.cell? ⟨w.heap.size,1,none⟩=some x1)(h2:A.tmps.getD 2 undef=.pointer (some ⟨w.heap.size,0,none⟩))(h3:A.tmps.getD 3 undef=intV pos)(h4:A.tmps.getD 4 undef=intV err)(hd:A.defers=[])
 (hr:lE w r (.returned (.tuple #[.agg #[y0,y1],intV pos,intV err])) (put2 W w.heap.size y0 y1)):bodyPost prog Tryz.f80 (lE w r) Exit.ret A ((W.setCell ⟨w.heap.size,0,none⟩ y0).setCell ⟨w.heap.size,1,none⟩ y1):=by
 refine bodyPost_ret (v:=.tuple #[.agg #[y0,y1],intV pos,intV err]) ?_ hd hr;obtain⟨k0,k1⟩:=eE h0 h1 y0 y1;unfold put2 at k0 k1;simp only[Array.getD_eq_getD_getElem?]at h2 h3 h4;simp[results,results80,go_sem,loadVar,h2,h3,h4,k0,k1,Result.andThen]
theorem sQ{k h:Nat}{W W':World}{a:Option Addr}{n c:Nat}{xs:List Value}(hr:Row k W a n c xs)(hk:0<k)(hs:∀i v,W.cell? ⟨h,i,none⟩=some v→∃a n c,v=.slice a n c)(hx:∀v,xs[0]?=some v→∃q z,v=.int q z)(hT:Turns (fun i=>i=h) W W'):Row k W' a n c xs:=by
 obtain⟨h1,h2,h3,h4⟩:=hr;refine⟨h1,h2,h3,?_⟩;rcases h4 with h4|⟨b,o,e,hlt,hc⟩
 ·exact .inl h4
 ·by_cases h0:n=0
  ·exact .inl h0
  ·refine .inr ⟨b,o,e,Nat.lt_of_lt_of_le hlt hT.size,fun i hi=>?_⟩
   have hl:0<xs.length:=by rw[h1];exact Nat.mul_pos (by omega) hk
   have hb:b≠h:=by
    rintro rfl;obtain⟨q,z,e1⟩:=hx _ (List.getElem?_eq_getElem hl);obtain⟨a9,n9,c9,e2⟩:=hs _ _ (hc 0 hl);rw[e1]at e2;cases e2
   exact(hT.cell hlt hb).trans (hc i hi)
theorem mR{h:Nat}{W W':World}{v:TreeV}{t:Tr}(ht:IsTree W v t)(hs:∀i v,W.cell? ⟨h,i,none⟩=some v→∃a n c,v=.slice a n c)(hT:Turns (fun i=>i=h) W W'):IsTree W' v t:=by
 have hI:∀(l:List Int) (v:Value),(zm l)[0]?=some v→∃q z,v=.int q z:=by
  intro l v hv
  cases l with
  |nil=>cases hv
  |cons x l=>cases hv;exact⟨_,_,rfl⟩
 obtain⟨⟨ks,h1,h2,h3⟩,hi⟩:=ht;refine⟨⟨ks,h1,sQ h2 (by omega) hs ?_ hT,fun i hi k=>sQ (h3 i hi k) (by omega) hs (hI _) hT⟩,sQ hi (by omega) hs (hI _) hT⟩;intro v hv
 cases hn:t.nodes with
 |nil=>rw[hn]at hv;simp[zI]at hv
 | cons d ns=>
   cases ks with
   |nil=>rw[hn]at h1;simp at h1
   | cons k ks=>
     rw[hn]at hv;simp[zI,Nd.cells]at hv;exact⟨_,_,hv.symm⟩
structure TreeAt (w W:World) (v:TreeV) (t:Tr):Prop where
 k0:W.cell? ⟨w.heap.size,0,none⟩=some (.slice v.na t.nodes.length v.nc)
 k1:W.cell? ⟨w.heap.size,1,none⟩=some (.slice v.ia t.items.length v.ic)
 g0:W.frozen? ⟨w.heap.size,0,none⟩=false
 g1:W.frozen? ⟨w.heap.size,1,none⟩=false
 os:∀i v,W.cell? ⟨w.heap.size,i,none⟩=some v→∃a n c,v=.slice a n c
 tree:IsTree W v t
 below:Below w.heap.size w W
theorem TreeAt.lt{w W:World}{v:TreeV}{t:Tr}(h:TreeAt w W v t):w.heap.size<W.heap.size:=World.block_lt_of_cell? W _ h.k0
theorem TreeAt.step{w W W':World}{v:TreeV}{t:Tr}(h:TreeAt w W v t)(hb:Below W.heap.size W W'):TreeAt w W' v t:=by
 have hl:=h.lt;have hc:∀i,W'.cell? ⟨w.heap.size,i,none⟩=W.cell? ⟨w.heap.size,i,none⟩:=fun i=>hb.cell (p:=⟨w.heap.size,i,none⟩) hl;exact⟨(hc 0).trans h.k0,(hc 1).trans h.k1,(hb.frozen (p:=⟨w.heap.size,0,none⟩) hl).trans h.g0,(hb.frozen (p:=⟨w.heap.size,1,none⟩) hl).trans h.g1,fun i v hv=>h.os i v ((hc i).symm.trans hv),h.tree.mono hb nlr,h.below.trans (hb.mono (by omega))⟩
theorem fG(W:World)(g:Nat)(y0 y1:Value):Turns (fun i=>i=g) W (put2 W g y0 y1):=(Turns.setCell (M:=fun i=>i=g) (a:=⟨g,0,none⟩) rfl _).trans (Turns.setCell (M:=fun i=>i=g) (a:=⟨g,1,none⟩) rfl _)
theorem TreeAt.put{w W:World}{v:TreeV}{t:Tr}{x0 x1:Value}(h0:W.cell? ⟨w.heap.size,0,none⟩=some x0)(h1:W.cell? ⟨w.heap.size,1,none⟩=some x1)(g0:W.frozen? ⟨w.heap.size,0,none⟩=false)(g1:W.frozen? ⟨w.heap.size,1,none⟩=false)
 (os:∀i v,W.cell? ⟨w.heap.size,i,none⟩=some v→∃a n c,v=.slice a n c)(ht:IsTree W v t)(hb:Below w.heap.size w W):TreeAt w (put2 W w.heap.size (.slice v.na t.nodes.length v.nc) (.slice v.ia t.items.length v.ic)) v t:=by
 obtain⟨k0,k1⟩:=eE h0 h1 (.slice v.na t.nodes.length v.nc) (.slice v.ia t.items.length v.ic);refine⟨k0,k1,by unfold put2;rw[World.frozen?_setCell,World.frozen?_setCell];exact g0,by unfold put2;rw[World.frozen?_setCell,World.frozen?_setCell];exact g1,fun i u hu=>?_,mR ht os (fG _ _ _ _),dP hb⟩;by_cases e0:i=0
 ·subst e0;rw[k0]at hu;cases hu;exact⟨_,_,_,rfl⟩
 ·by_cases e1:i=1
  ·subst e1;rw[k1]at hu;cases hu;exact⟨_,_,_,rfl⟩
  ·refine os i u ?_
   unfold put2 at hu;rw[World.cell?_setCell_other _ _ _ _ (by simp[e1]),World.cell?_setCell_other _ _ _ _ (by simp[e0])]at hu;exact hu
theorem eB{w W:World}(hb:Below (w.heap.size+1) (w.alloc (.cells #[.slice none 0 0,.slice none 0 0] 25)) W):∀i v,W.cell? ⟨w.heap.size,i,none⟩=some v→∃a n c,v=.slice a n c:=by
 intro i v hv;have hh:=(hb.block w.heap.size (by omega)).trans (World.alloc_heap_new w _);simp only[World.cell?,hh]at hv;rcases i with _|_|i
 ·simp at hv;exact⟨_,_,_,hv.symm⟩
 ·simp at hv;exact⟨_,_,_,hv.symm⟩
 ·simp at hv
theorem uR(t:Tr):aF t<(t.nodes.length:Int):=by
 apply Classical.byContradiction;intro hn;obtain⟨m,h1,-,h2,-⟩:=eL (p:=fun i=>!eP t i) (n:=t.nodes.length) t.nodes.length 0 (by omega) (show 0≤aF t by omega);have:aF t=m:=h1;omega
theorem vB{s:List UInt8}:∀(f n:Nat) (l:List Tk) (p:Int×Int),mN s f n l=.error p→(p.2 != 0)=true
 |0,n,l,p,h=>by cases h
 | f+1,n,l,p,h=>by
   unfold mN at h;split at h
   ·simp only at h
    split at h
    ·cases h;rfl
    ·split at h
     ·cases h;rfl
     ·exact vB f _ _ p h
   ·cases h
theorem FG{s:List UInt8}{p:Int×Int}(h:mO s=.error p):(p.2 != 0)=true:=by
 unfold mO at h;split at h
 ·rename_i hc
  cases h
  exact hc
 ·exact vB _ _ _ p h
theorem oC(s:List UInt8)(w:World)(hs:s.length≤1000000000)(hg:GV w) :
 Calls prog 80 #[strV s] w (lE w (cL s)):=by
 have hb0:Below w.heap.size w (w.alloc (.cells #[.slice none 0 0,.slice none 0 0] 25)):=(Below.refl _ w).alloc nlr _;have HR:=Hd (DN s _ hs (hg.mono hb0 nlr));have HB0:=Hd hb0;have HG:=Hd hg;have hcx:(w.alloc (.cells #[.slice none 0 0,.slice none 0 0] 25)).cell? ⟨w.heap.size,0,none⟩=some (.slice none 0 0):=za (World.alloc_heap_new w _) rfl;have hcy:(w.alloc (.cells #[.slice none 0 0,.slice none 0 0] 25)).cell? ⟨w.heap.size,1,none⟩=some (.slice none 0 0):=za (World.alloc_heap_new w _) rfl;have hfx:∀i,(w.alloc (.cells #[.slice none 0 0,.slice none 0 0] 25)).frozen? ⟨w.heap.size,i,none⟩=false:=fun i=>zl (World.alloc_heap_new w _);have HCX:=Hd (And.intro hcx (And.intro hcy hfx));have hsz:(w.alloc (.cells #[.slice none 0 0,.slice none 0 0] 25)).heap.size=w.heap.size+1:=by simp
 have HSZ:=Hd hsz;have HSL:=Hd hs;clear hb0 hg hcx hcy hfx hsz hs
 cases hrd:mO s with
 | error p=>
   obtain⟨p1,p2⟩:=p;have HRD:=Hd hrd;have HPA:Hid (cL s=.error (p1,p2)):=Hd (by unfold cL uW;rw[hrd]);have hne:(p2 != 0)=true:=FG hrd;clear hrd;go_enter func80,ntmps80
   go_wp2_with (go_at_call 127;refine HR.out.mono ?_;rw[HRD.out];rintro e w2 ⟨rfl,hb2⟩;have hc0:=(hb2.cell (p:=⟨w.heap.size,0,none⟩) (by rw[HSZ.out];show w.heap.size<_;omega)).trans HCX.out.1;have hc1:=(hb2.cell (p:=⟨w.heap.size,1,none⟩) (by rw[HSZ.out];show w.heap.size<_;omega)).trans HCX.out.2.1;have hf0:=(hb2.frozen (p:=⟨w.heap.size,0,none⟩) (by rw[HSZ.out];show w.heap.size<_;omega)).trans (HCX.out.2.2 0);have hf1:=(hb2.frozen (p:=⟨w.heap.size,1,none⟩) (by rw[HSZ.out];show w.heap.size<_;omega)).trans (HCX.out.2.2 1);have HB2:=Hd (HB0.out.trans (hb2.mono (by rw[HSZ.out];omega)));clear hb2)
   rw[HPA.out];exact jF hc0 hc1 rfl rfl rfl rfl ⟨rfl,dP HB2.out⟩
 | ok l=>
   have HRD:=Hd hrd;obtain⟨tk,hs2⟩:=yQ hrd;have hok:mD ⟨l,s.length⟩:=fun t ht hk=>(mL (tk.tok t ht hk)).2;have HTK:=Hd tk;cases htr:nG ⟨l,(s.length:Int)⟩with
   | error p=>
     have HTR:=Hd htr;have HPA:Hid (cL s=.error (p,4)):=Hd (by unfold cL uW;rw[hrd];simp only[htr]);clear hrd htr;go_enter func80,ntmps80
     go_wp2_with (first
      | (go_at_call 127;refine HR.out.mono ?_;rw[HRD.out];rintro e w2 ⟨a,c,rfl,hown,hb2⟩;have hc0:=(hb2.cell (p:=⟨w.heap.size,0,none⟩) (by rw[HSZ.out];show w.heap.size<_;omega)).trans HCX.out.1;have hc1:=(hb2.cell (p:=⟨w.heap.size,1,none⟩) (by rw[HSZ.out];show w.heap.size<_;omega)).trans HCX.out.2.1;have hf0:=(hb2.frozen (p:=⟨w.heap.size,0,none⟩) (by rw[HSZ.out];show w.heap.size<_;omega)).trans (HCX.out.2.2 0);have hf1:=(hb2.frozen (p:=⟨w.heap.size,1,none⟩) (by rw[HSZ.out];show w.heap.size<_;omega)).trans (HCX.out.2.2 1);have hbw:=HB0.out.trans (hb2.mono (by rw[HSZ.out];omega));have HB2:=Hd hbw;have hpar:ParE w2 ⟨l,s.length⟩ a c:=⟨by obtain⟨a',c',e',hr'⟩:=bK hown;cases e';exact hr',HG.out.mono hbw nlr,HTK.out.many,HTK.out.text,HTK.out.tok⟩;have HPC:Hid (Calls prog 128 #[.slice a l.length c,intV (s.length:Int)] w2 (jQ w2 (nG ⟨l,(s.length:Int)⟩))):=Hd (gN w2 ⟨l,s.length⟩ a c hpar);clear hb2 hbw hpar)
      | (go_at_call 128;refine HPC.out.mono ?_;rw[HTR.out];rintro e w3 ⟨rfl,hb3⟩;have hk0:=(hb3.cell (p:=⟨w.heap.size,0,none⟩) (World.block_lt_of_cell? w2 _ hc0)).trans hc0;have hk1:=(hb3.cell (p:=⟨w.heap.size,1,none⟩) (World.block_lt_of_cell? w2 _ hc1)).trans hc1;have hg0:=(hb3.frozen (p:=⟨w.heap.size,0,none⟩) (World.block_lt_of_cell? w2 _ hc0)).trans hf0;have hg1:=(hb3.frozen (p:=⟨w.heap.size,1,none⟩) (World.block_lt_of_cell? w2 _ hc1)).trans hf1;have HB3:=Hd (HB2.out.trans (hb3.mono HB2.out.size));clear hb3 hc0 hc1 hf0 hf1))
     rw[HPA.out];exact jF (eE hk0 hk1 _ _).1 (eE hk0 hk1 _ _).2 rfl rfl rfl rfl ⟨rfl,dP (dP HB3.out)⟩
   | ok t=>
     have HTR:=Hd htr;have tok:=yW hok htr;have bd:Bd t:=tok.bd tk.many (fun x hx=>Nat.le_trans (tk.text x hx) (by omega));have BD:=Hd bd;have hnn:=bd.n;have hkid:=tok.kid;have HKID:=Hd hkid;have HCH:=Hd tok.choices;have HPE:Hid (cL s=if 800<t.nodes.length∨60<t.items.length then .error (0,5)else if 30<zW t then .error (0,5)else if 0≤aF t then .error ((t.nd (aF t)).pos,3)else .ok t):=Hd (by unfold cL uW;rw[hrd];simp only[htr]);clear hrd htr tok bd hkid;by_cases hlim:800<t.nodes.length∨60<t.items.length
     ·have HLM:=Hd (decide_eq_true hlim)
      have HPA:=Hd (HPE.out.trans (if_pos hlim));clear hlim;go_enter func80,ntmps80
      go_wp2_with (first
       | (go_at_call 127;refine HR.out.mono ?_;rw[HRD.out];rintro e w2 ⟨a,c,rfl,hown,hb2⟩;have hc0:=(hb2.cell (p:=⟨w.heap.size,0,none⟩) (by rw[HSZ.out];show w.heap.size<_;omega)).trans HCX.out.1;have hc1:=(hb2.cell (p:=⟨w.heap.size,1,none⟩) (by rw[HSZ.out];show w.heap.size<_;omega)).trans HCX.out.2.1;have hf0:=(hb2.frozen (p:=⟨w.heap.size,0,none⟩) (by rw[HSZ.out];show w.heap.size<_;omega)).trans (HCX.out.2.2 0);have hf1:=(hb2.frozen (p:=⟨w.heap.size,1,none⟩) (by rw[HSZ.out];show w.heap.size<_;omega)).trans (HCX.out.2.2 1);have hb2x:=hb2;rw[HSZ.out]at hb2x;have hbw:=HB0.out.trans (hb2.mono (by rw[HSZ.out];omega));have HB2:=Hd hbw;have hpar:ParE w2 ⟨l,s.length⟩ a c:=⟨by obtain⟨a',c',e',hr'⟩:=bK hown;cases e';exact hr',HG.out.mono hbw nlr,HTK.out.many,HTK.out.text,HTK.out.tok⟩;have HPC:Hid (Calls prog 128 #[.slice a l.length c,intV (s.length:Int)] w2 (jQ w2 (nG ⟨l,(s.length:Int)⟩))):=Hd (gN w2 ⟨l,s.length⟩ a c hpar);have HB2X:=Hd hb2x;clear hb2 hb2x hbw hpar)
       | (go_at_call 128;refine HPC.out.mono ?_;rw[HTR.out];rintro e w3 ⟨⟨na,nc,ia,ic⟩,rfl,ht3,hb3⟩;unfold TreeV.val;have hk0:=(hb3.cell (p:=⟨w.heap.size,0,none⟩) (World.block_lt_of_cell? w2 _ hc0)).trans hc0;have hk1:=(hb3.cell (p:=⟨w.heap.size,1,none⟩) (World.block_lt_of_cell? w2 _ hc1)).trans hc1;have hg0:=(hb3.frozen (p:=⟨w.heap.size,0,none⟩) (World.block_lt_of_cell? w2 _ hc0)).trans hf0;have hg1:=(hb3.frozen (p:=⟨w.heap.size,1,none⟩) (World.block_lt_of_cell? w2 _ hc1)).trans hf1;have HTA:=Hd (TreeAt.put hk0 hk1 hg0 hg1 (eB (HB2X.out.trans (hb3.mono (by have:=HB2X.out.size;rw[HSZ.out]at this;exact this)))) ht3 (HB2.out.trans (hb3.mono HB2.out.size)));obtain⟨p0,p1,q0,q1,-,-,-⟩:=HTA.out;unfold put2 at p0 p1 q0 q1;clear hb3 ht3 hc0 hc1 hf0 hf1)
       | (go_at_call 98;refine(fF ⟨na,nc,ia,ic⟩ t _ BD.out).mono ?_;rw[HLM.out];rintro e w4 ⟨rfl,hb4⟩;have HT4:=Hd (HTA.out.step hb4);obtain⟨r0,r1,s0,s1,-,-,-⟩:=HT4.out;clear hb4))
      rw[HPA.out];exact jF r0 r1 rfl rfl rfl rfl ⟨rfl,dP HT4.out.below⟩
     ·have HLM:=Hd (decide_eq_false hlim)
      have HPB:=Hd (HPE.out.trans (if_neg hlim));obtain⟨dp,hdp⟩:∃dp,zW t=dp:=⟨_,rfl⟩
      obtain⟨z,hz⟩:∃z,aF t=z:=⟨_,rfl⟩
      have hzl:=uR t;rw[hz]at hzl;have HDP:=Hd hdp;have HOZ:=Hd hz;clear hlim hdp hz HPE;by_cases h30:30<dp
      ·have HPA:=Hd (HPB.out.trans (if_pos (by rw[HDP.out];exact h30)))
       clear HPB;go_enter func80,ntmps80
       go_wp2_with (first
        | (go_at_call 127;refine HR.out.mono ?_;rw[HRD.out];rintro e w2 ⟨a,c,rfl,hown,hb2⟩;have hc0:=(hb2.cell (p:=⟨w.heap.size,0,none⟩) (by rw[HSZ.out];show w.heap.size<_;omega)).trans HCX.out.1;have hc1:=(hb2.cell (p:=⟨w.heap.size,1,none⟩) (by rw[HSZ.out];show w.heap.size<_;omega)).trans HCX.out.2.1;have hf0:=(hb2.frozen (p:=⟨w.heap.size,0,none⟩) (by rw[HSZ.out];show w.heap.size<_;omega)).trans (HCX.out.2.2 0);have hf1:=(hb2.frozen (p:=⟨w.heap.size,1,none⟩) (by rw[HSZ.out];show w.heap.size<_;omega)).trans (HCX.out.2.2 1);have hb2x:=hb2;rw[HSZ.out]at hb2x;have hbw:=HB0.out.trans (hb2.mono (by rw[HSZ.out];omega));have HB2:=Hd hbw;have hpar:ParE w2 ⟨l,s.length⟩ a c:=⟨by obtain⟨a',c',e',hr'⟩:=bK hown;cases e';exact hr',HG.out.mono hbw nlr,HTK.out.many,HTK.out.text,HTK.out.tok⟩;have HPC:Hid (Calls prog 128 #[.slice a l.length c,intV (s.length:Int)] w2 (jQ w2 (nG ⟨l,(s.length:Int)⟩))):=Hd (gN w2 ⟨l,s.length⟩ a c hpar);have HB2X:=Hd hb2x;clear hb2 hb2x hbw hpar)
        | (go_at_call 128;refine HPC.out.mono ?_;rw[HTR.out];rintro e w3 ⟨⟨na,nc,ia,ic⟩,rfl,ht3,hb3⟩;unfold TreeV.val;have hk0:=(hb3.cell (p:=⟨w.heap.size,0,none⟩) (World.block_lt_of_cell? w2 _ hc0)).trans hc0;have hk1:=(hb3.cell (p:=⟨w.heap.size,1,none⟩) (World.block_lt_of_cell? w2 _ hc1)).trans hc1;have hg0:=(hb3.frozen (p:=⟨w.heap.size,0,none⟩) (World.block_lt_of_cell? w2 _ hc0)).trans hf0;have hg1:=(hb3.frozen (p:=⟨w.heap.size,1,none⟩) (World.block_lt_of_cell? w2 _ hc1)).trans hf1;have HTA:=Hd (TreeAt.put hk0 hk1 hg0 hg1 (eB (HB2X.out.trans (hb3.mono (by have:=HB2X.out.size;rw[HSZ.out]at this;exact this)))) ht3 (HB2.out.trans (hb3.mono HB2.out.size)));obtain⟨p0,p1,q0,q1,-,-,-⟩:=HTA.out;unfold put2 at p0 p1 q0 q1;clear hb3 ht3 hc0 hc1 hf0 hf1)
        | (go_at_call 98;refine(fF ⟨na,nc,ia,ic⟩ t _ BD.out).mono ?_;rw[HLM.out];rintro e w4 ⟨rfl,hb4⟩;have HT4:=Hd (HTA.out.step hb4);obtain⟨r0,r1,s0,s1,-,-,-⟩:=HT4.out;clear hb4)
        | (go_at_call 129;refine(fU ⟨na,nc,ia,ic⟩ t _ BD.out HKID.out HT4.out.tree).mono ?_;rw[HDP.out];rintro e w5 ⟨rfl,hb5⟩;have HT5:=Hd (HT4.out.step hb5);obtain⟨r05,r15,s05,s15,-,-,-⟩:=HT5.out;clear hb5))
       rw[HPA.out];exact jF r05 r15 rfl rfl rfl rfl ⟨rfl,dP HT5.out.below⟩
      ·have HPA:=Hd (HPB.out.trans (if_neg (by rw[HDP.out];exact h30)))
       clear HPB;by_cases hz0:0≤z
       ·have HPZ:=Hd (HPA.out.trans (if_pos (by rw[HOZ.out];exact hz0)))
        clear HPA;obtain⟨m,rfl⟩:=Int.eq_ofNat_of_zero_le hz0;have hm:m<t.nodes.length:=by omega
        have hndm:=t.nd_at hm;obtain⟨D2,hD2⟩:∃D2,t.nodes[m]=D2:=⟨_,rfl⟩
        rw[hD2]at hndm;have HND:=Hd hndm;have HD2:=Hd hD2;clear hndm hD2 hz0;go_enter func80,ntmps80
        go_wp2_with (first
         | (go_at_call 127;refine HR.out.mono ?_;rw[HRD.out];rintro e w2 ⟨a,c,rfl,hown,hb2⟩;have hc0:=(hb2.cell (p:=⟨w.heap.size,0,none⟩) (by rw[HSZ.out];show w.heap.size<_;omega)).trans HCX.out.1;have hc1:=(hb2.cell (p:=⟨w.heap.size,1,none⟩) (by rw[HSZ.out];show w.heap.size<_;omega)).trans HCX.out.2.1;have hf0:=(hb2.frozen (p:=⟨w.heap.size,0,none⟩) (by rw[HSZ.out];show w.heap.size<_;omega)).trans (HCX.out.2.2 0);have hf1:=(hb2.frozen (p:=⟨w.heap.size,1,none⟩) (by rw[HSZ.out];show w.heap.size<_;omega)).trans (HCX.out.2.2 1);have hb2x:=hb2;rw[HSZ.out]at hb2x;have hbw:=HB0.out.trans (hb2.mono (by rw[HSZ.out];omega));have HB2:=Hd hbw;have hpar:ParE w2 ⟨l,s.length⟩ a c:=⟨by obtain⟨a',c',e',hr'⟩:=bK hown;cases e';exact hr',HG.out.mono hbw nlr,HTK.out.many,HTK.out.text,HTK.out.tok⟩;have HPC:Hid (Calls prog 128 #[.slice a l.length c,intV (s.length:Int)] w2 (jQ w2 (nG ⟨l,(s.length:Int)⟩))):=Hd (gN w2 ⟨l,s.length⟩ a c hpar);have HB2X:=Hd hb2x;clear hb2 hb2x hbw hpar)
         | (go_at_call 128;refine HPC.out.mono ?_;rw[HTR.out];rintro e w3 ⟨⟨na,nc,ia,ic⟩,rfl,ht3,hb3⟩;unfold TreeV.val;have hk0:=(hb3.cell (p:=⟨w.heap.size,0,none⟩) (World.block_lt_of_cell? w2 _ hc0)).trans hc0;have hk1:=(hb3.cell (p:=⟨w.heap.size,1,none⟩) (World.block_lt_of_cell? w2 _ hc1)).trans hc1;have hg0:=(hb3.frozen (p:=⟨w.heap.size,0,none⟩) (World.block_lt_of_cell? w2 _ hc0)).trans hf0;have hg1:=(hb3.frozen (p:=⟨w.heap.size,1,none⟩) (World.block_lt_of_cell? w2 _ hc1)).trans hf1;have HTA:=Hd (TreeAt.put hk0 hk1 hg0 hg1 (eB (HB2X.out.trans (hb3.mono (by have:=HB2X.out.size;rw[HSZ.out]at this;exact this)))) ht3 (HB2.out.trans (hb3.mono HB2.out.size)));obtain⟨p0,p1,q0,q1,-,-,-⟩:=HTA.out;unfold put2 at p0 p1 q0 q1;clear hb3 ht3 hc0 hc1 hf0 hf1)
         | (go_at_call 98;refine(fF ⟨na,nc,ia,ic⟩ t _ BD.out).mono ?_;rw[HLM.out];rintro e w4 ⟨rfl,hb4⟩;have HT4:=Hd (HTA.out.step hb4);obtain⟨r0,r1,s0,s1,-,-,-⟩:=HT4.out;clear hb4)
         | (go_at_call 129;refine(fU ⟨na,nc,ia,ic⟩ t _ BD.out HKID.out HT4.out.tree).mono ?_;rw[HDP.out];rintro e w5 ⟨rfl,hb5⟩;have HT5:=Hd (HT4.out.step hb5);obtain⟨r05,r15,s05,s15,-,-,-⟩:=HT5.out;clear hb5)
         | (go_at_call 130;refine(gZ ⟨na,nc,ia,ic⟩ t _ BD.out HCH.out HT5.out.tree).mono ?_;rw[HOZ.out];rintro e w6 ⟨rfl,hb6⟩;have HT6:=Hd (HT5.out.step hb6);obtain⟨r06,r16,s06,s16,-,-,-⟩:=HT6.out;obtain⟨b,o,ka,kc,ea,hb,m0,m1,m2,m3,m4,-⟩:=HT6.out.tree.nodes.at hm;simp only at ea;subst ea;rw[HD2.out]at m4;clear hb6 m1 m2 m3))
        have hbh:b≠w.heap.size:=by
         rintro rfl;obtain⟨x,y,z,e⟩:=HT6.out.os _ _ m0;cases e
        go_region;go_wp2;rw[HPZ.out,HOZ.out,HND.out];exact BT (eE r06 r16 _ _).1 (eE r06 r16 _ _).2 rfl rfl rfl rfl ⟨rfl,(dP HT6.out.below).drew⟩
       ·have HPZ:=Hd (HPA.out.trans (if_neg (by rw[HOZ.out];exact hz0)))
        clear HPA;go_enter func80,ntmps80
        go_wp2_with (first
         | (go_at_call 127;refine HR.out.mono ?_;rw[HRD.out];rintro e w2 ⟨a,c,rfl,hown,hb2⟩;have hc0:=(hb2.cell (p:=⟨w.heap.size,0,none⟩) (by rw[HSZ.out];show w.heap.size<_;omega)).trans HCX.out.1;have hc1:=(hb2.cell (p:=⟨w.heap.size,1,none⟩) (by rw[HSZ.out];show w.heap.size<_;omega)).trans HCX.out.2.1;have hf0:=(hb2.frozen (p:=⟨w.heap.size,0,none⟩) (by rw[HSZ.out];show w.heap.size<_;omega)).trans (HCX.out.2.2 0);have hf1:=(hb2.frozen (p:=⟨w.heap.size,1,none⟩) (by rw[HSZ.out];show w.heap.size<_;omega)).trans (HCX.out.2.2 1);have hb2x:=hb2;rw[HSZ.out]at hb2x;have hbw:=HB0.out.trans (hb2.mono (by rw[HSZ.out];omega));have HB2:=Hd hbw;have hpar:ParE w2 ⟨l,s.length⟩ a c:=⟨by obtain⟨a',c',e',hr'⟩:=bK hown;cases e';exact hr',HG.out.mono hbw nlr,HTK.out.many,HTK.out.text,HTK.out.tok⟩;have HPC:Hid (Calls prog 128 #[.slice a l.length c,intV (s.length:Int)] w2 (jQ w2 (nG ⟨l,(s.length:Int)⟩))):=Hd (gN w2 ⟨l,s.length⟩ a c hpar);have HB2X:=Hd hb2x;clear hb2 hb2x hbw hpar)
         | (go_at_call 128;refine HPC.out.mono ?_;rw[HTR.out];rintro e w3 ⟨⟨na,nc,ia,ic⟩,rfl,ht3,hb3⟩;unfold TreeV.val;have hk0:=(hb3.cell (p:=⟨w.heap.size,0,none⟩) (World.block_lt_of_cell? w2 _ hc0)).trans hc0;have hk1:=(hb3.cell (p:=⟨w.heap.size,1,none⟩) (World.block_lt_of_cell? w2 _ hc1)).trans hc1;have hg0:=(hb3.frozen (p:=⟨w.heap.size,0,none⟩) (World.block_lt_of_cell? w2 _ hc0)).trans hf0;have hg1:=(hb3.frozen (p:=⟨w.heap.size,1,none⟩) (World.block_lt_of_cell? w2 _ hc1)).trans hf1;have HTA:=Hd (TreeAt.put hk0 hk1 hg0 hg1 (eB (HB2X.out.trans (hb3.mono (by have:=HB2X.out.size;rw[HSZ.out]at this;exact this)))) ht3 (HB2.out.trans (hb3.mono HB2.out.size)));obtain⟨p0,p1,q0,q1,-,-,-⟩:=HTA.out;unfold put2 at p0 p1 q0 q1;clear hb3 ht3 hc0 hc1 hf0 hf1)
         | (go_at_call 98;refine(fF ⟨na,nc,ia,ic⟩ t _ BD.out).mono ?_;rw[HLM.out];rintro e w4 ⟨rfl,hb4⟩;have HT4:=Hd (HTA.out.step hb4);obtain⟨r0,r1,s0,s1,-,-,-⟩:=HT4.out;clear hb4)
         | (go_at_call 129;refine(fU ⟨na,nc,ia,ic⟩ t _ BD.out HKID.out HT4.out.tree).mono ?_;rw[HDP.out];rintro e w5 ⟨rfl,hb5⟩;have HT5:=Hd (HT4.out.step hb5);obtain⟨r05,r15,s05,s15,-,-,-⟩:=HT5.out;clear hb5)
         | (go_at_call 130;refine(gZ ⟨na,nc,ia,ic⟩ t _ BD.out HCH.out HT5.out.tree).mono ?_;rw[HOZ.out];rintro e w6 ⟨rfl,hb6⟩;have HT6:=Hd (HT5.out.step hb6);obtain⟨r06,r16,s06,s16,-,-,-⟩:=HT6.out;clear hb6))
        rw[HPZ.out];exact jF r06 r16 rfl rfl rfl rfl ⟨⟨na,nc,ia,ic⟩,rfl,mR HT6.out.tree HT6.out.os (fG _ _ _ _),dP HT6.out.below⟩
end
end Go.Proofs.YtokdgiphdnjeoaaGreatDoor
