/- Part of a proof. -/
import Derived.Test.YtokdgiphdnjeoaaGreatDoorQ13
import Derived.Test.YtokdgiphdnjeoaaGreatDoorQ22
import Derived.Shelf.RegionOpen
import Derived.TacticsInMore
import Derived.LoopNIn
import Derived.LoopIn
set_option maxRecDepth 100000
set_option maxHeartbeats 8000000
set_option linter.unusedVariables false
set_option linter.unusedSimpArgs false
open Go.Proofs.Tryz
namespace Go.Proofs.YtokdgiphdnjeoaaGreatDoor
section
open Go Go.RowKit
attribute [local go_sem] Oper.semAt_some
structure ClimbW (w0:World) (g:Nat) (p:ProgV) (kid:Int) (G:Nat→Prop) (W:World):Prop where
 below:Kept w0 W
 c0:W.cell? ⟨g,0,none⟩=some p.ptr
 c1:W.cell? ⟨g+1,0,none⟩=some (intV kid)
 f1:W.frozen? ⟨g+1,0,none⟩=false
 g0:G g
 g1:G (g+1)
theorem ClimbW.lt{w0 W:World}{g:Nat}{p:ProgV}{kid:Int}{G:Nat→Prop}(h:ClimbW w0 g p kid G W):g<W.heap.size∧g+1<W.heap.size:=⟨World.block_lt_of_cell? W _ h.c0,World.block_lt_of_cell? W _ h.c1⟩
theorem ClimbW.keeps{w0 W W':World}{N0:Nat→Prop}{g:Nat}{p:ProgV}{kid:Int}{G:Nat→Prop}(ha:Apart N0 w0)(h:ClimbW w0 g p kid G W)(hk:Keeps N0 G W W'):ClimbW w0 g p kid G W':=by
 obtain⟨l0,l1⟩:=h.lt;obtain⟨h1,h2,h3,h4,h5,h6⟩:=h;exact⟨h1.turns ha hk (fun _ h=>h.2),(hk.cell l0 (fun e=>e.1 h5)).trans h2,(hk.cell l1 (fun e=>e.1 h6)).trans h3,(hk.frozen l1 (fun e=>e.1 h6)).trans h4,h5,h6⟩
theorem ClimbW.set{w0 W:World}{N0:Nat→Prop}{g:Nat}{p:ProgV}{kid:Int}{G:Nat→Prop}(ha:Apart N0 w0)(h:ClimbW w0 g p kid G W)(hg:N0 (g+1))(m:Int):ClimbW w0 g p m G (W.setCell ⟨g+1,0,none⟩ (intV m)):=by
 obtain⟨h1,h2,h3,h4,h5,h6⟩:=h;refine⟨h1.turns ha (Turns.setCell (M:=N0) (a:=⟨g+1,0,none⟩) hg _) (fun _ h=>h),?_,World.cell?_setCell_same _ _ _ h3,by rw[World.frozen?_setCell];exact h4,h5,h6⟩;rw[World.cell?_setCell_other _ _ _ _ (by simp)];exact h2
theorem ClimbW.grow{w0 W W':World}{g:Nat}{p:ProgV}{kid:Int}{G:Nat→Prop}(h:ClimbW w0 g p kid G W)(hk:Below W.heap.size W W'):ClimbW w0 g p kid G W':=by
 obtain⟨l0,l1⟩:=h.lt;obtain⟨h1,h2,h3,h4,h5,h6⟩:=h;exact⟨⟨Nat.le_trans h1.size hk.size,fun b i v hv=>(hk.cell (p:=⟨b,i,none⟩) (World.block_lt_of_cell? W _ (h1.cell b i v hv))).trans (h1.cell b i v hv)⟩,(hk.cell (p:=⟨g,0,none⟩) l0).trans h2,(hk.cell (p:=⟨g+1,0,none⟩) l1).trans h3,(hk.frozen (p:=⟨g+1,0,none⟩) l1).trans h4,h5,h6⟩
theorem IsProg.kept{w w':World}{p:ProgV}{t:Tr}{ups decl:List Int}(h:IsProg w p t ups decl)(hb:Kept w w'):IsProg w' p t ups decl:=
 ⟨hb.cell _ _ _ h.c0,hb.cell _ _ _ h.c1,hb.cell _ _ _ h.c2,hb.cell _ _ _ h.c3,hb.tree h.tree,hb.row h.ups,hb.row h.decl⟩
theorem LZ{α:Type}{l r:List α}{k:Nat}{x:α}(h:l.drop k=x::r):l[k]?=some x∧l.drop (k+1)=r∧k<l.length:=by
 have hk:k<l.length:=by
  apply Classical.byContradiction;intro hn;rw[List.drop_of_length_le (by omega)]at h;cases h
 rw[List.drop_eq_getElem_cons hk]at h;injection h with h1 h2;exact⟨by rw[List.getElem?_eq_getElem hk,h1],h2,hk⟩
theorem tB(p:ProgV)(t:Tr)(ups decl:List Int)(node:Nat)(w0 W0:World)(N0:Nat→Prop)(g:Nat)(bd:Bd t)(hn:node<t.nodes.length)(hu:IsUps t ups)(hp:IsProg w0 p t ups decl)(ha:Apart N0 w0)(hg:∀i,g≤i→N0 i)
 (h0:ClimbW w0 g p node (fun i=>i=g∨i=g+1) W0) :
 SeqG prog 266 #[.pointer (some ⟨g,0,none⟩),.pointer (some ⟨g+1,0,none⟩)] (fun x:Int×Int=>#[intV x.1,intV x.2]) (bH t node) N0 (fun i=>i=g∨i=g+1) W0:=by
 intro l J Jx W hK hgd hJ hJx hY hJ0;have hC:=h0.keeps ha hK;have HC:=Hd hC;have hgdW:=hgd;have HG:=Hd hgdW;have HJ:=Hd hJ;have HY:=Hd hY;have HP:=Hd hp;have HU:=Hd hu;have HJ0:=Hd hJ0;have hn3:=bd.n;have hpr:=hp.kept hC.below;have c2:=hpr.c2;obtain⟨bu,ou,eu,hbu,cu⟩:=hpr.upAt hn;have hcg:=hC.c0;have hcn:=hC.c1;rw[hu node hn]at cu;have hnb:=hC.lt;clear hC hgdW hJ hJx hY hp hu hJ0 hK hgd h0 hpr;obtain⟨s,v,aa,ac,da,dc⟩:=p;simp only at c2 eu;subst eu;have hpb:=zD t (n:=(node:Int)) (by omega);obtain⟨q,hq⟩:∃q,parent t node=q:=⟨_,rfl⟩
 rw[hq]at cu hpb;have HQ:=Hd hq;clear hq;refine callsIn_of_wp func266 rfl trivial ?_ rfl;simp only[ntmps266,List.size_toArray,List.length_cons,List.length_nil,Nat.reduceAdd,Nat.reduceSub,Array.replicate_succ,Array.replicate_zero,List.push_toArray,List.append_toArray,List.nil_append,List.cons_append];refine wpIn_wide.2 ?_;go_wp2
 go_quiet (fail)
 go_wp2
 go_loopw [4] (fun t4 wr=>∃(k:Nat) (kid u:Int) (G:Nat→Prop),t4=.int .i64 u∧k≤(bH t node).length∧u<(t.nodes.length:Int) ∧ -1≤u∧0≤kid∧Hid ((bH t node).drop k=kF t kid u)∧Hid (ClimbW w0 g ⟨s,v,some ⟨bu,ou,none⟩,ac,da,dc⟩ kid G wr)∧Hid (Gd N0 G wr)∧Hid (J k G wr)) (fun t4 _=>mUp t.nodes.length t4)
 case atStart=>
  have hbW:=below_drewN (Below.refl W.heap.size W) nq
  exact⟨0,node,q,fun i=>i=g∨i=g+1,rfl,Nat.zero_le _,hpb,by have:=bV t node;have:=HQ.out;omega,by omega,Hd (by rw[←HQ.out];rfl),Hd (HC.out.grow hbW),Hd (HG.out.keeps hbW.size),
   Hd (HJ.out _ _ _ _ _ HJ0.out (StepG.of_below hbW fun i hi=>(HG.out.mem i hi).2))⟩
 case round=>
  obtain⟨k,kid,u,G,rfl,hkl,hu1,hu0,hkid,HD,HC2,HG2,HJ2⟩:=hrel;have hcg:=HC2.out.c0;have hcn:=HC2.out.c1;have hfn:=HC2.out.f1;by_cases hneg:u = -1
  ·subst hneg
   have hE:(bH t node).length≤k:=by
    have:=HD.out;rw[AZ _ _ (by omega)]at this;simpa using this
   have HE:=Hd (show(bH t node).length=k by omega);clear hE;go_wp2
   go_end0
   exact⟨⟨_,rfl⟩,G,HG2.out,.inl (HE.out▸HJ2.out)⟩
  ·have hu00:0≤u:=by omega
   have hD:=HD.out;rw[BC _ _ hu00 hu1]at hD;obtain⟨hD1,hD2,hD3⟩:=LZ hD;obtain⟨fn,tmps,assign,body,hy,hR⟩:=HY.out k (kid,u) G wr hD1 HG2.out HJ2.out;dsimp only at hy;have HR:=Hd hR;have HD2:=Hd hD2;have hune:(u == -1)=false:=by simpa using hneg
   clear hR hD hD1 hD2;refine(wpIn_wide (n:=0)).1 ?_
   gi_wp2
   refine⟨rfl,HR.out.mono ?_⟩;rintro e W3 (⟨rfl,hk3,hJ3⟩|⟨rfl,hk3,hJ3⟩)
   ·
    obtain⟨m,rfl⟩:=Int.eq_ofNat_of_zero_le hu00;have hm:m<t.nodes.length:=by omega
    have HC3:=Hd (HC2.out.keeps ha hk3);have HG3:=Hd (HG2.out.keeps hk3.size);have HJ3:=Hd hJ3;have hp3:=HP.out.kept HC3.out.below;obtain⟨bu',ou',eu',hbu',cu'⟩:=hp3.upAt hm;simp only[Option.some.injEq,Addr.mk.injEq,and_true]at eu';obtain⟨rfl,rfl⟩:=eu';rw[HU.out m hm]at cu';have hps:=hp3.c2;have hcg3:=HC3.out.c0;have hcn3:=HC3.out.c1;have hfn3:=HC3.out.f1;have hpb2:=zD t (n:=(m:Int)) (by omega);have hpg2:=bV t m;have hup:=dH t (n:=(m:Int)) (by omega);obtain⟨r,hr⟩:∃r,parent t m=r:=⟨_,rfl⟩
    rw[hr]at cu' hpb2 hpg2 hup;have HR2:=Hd hr;simp only at hps;have hl3:=HC3.out.lt;obtain⟨b4,o4,e4,hb4,hc4⟩:=HP.out.upAt hm;simp only[Option.some.injEq,Addr.mk.injEq,and_true]at e4;obtain⟨rfl,rfl⟩:=e4;have hbs:¬bu=g+1:=fun e=>ha _ _ _ hc4 (hg _ (by omega));have hss:¬s=g+1:=fun e=>ha _ _ _ HP.out.c0 (hg _ (by simp only;omega));clear hc4;clear hJ3 hp3 hk3 hr
    gi_wp2
    refine wpIn_wide.2 ?_;go_region;have hT:Turns G W3 (W3.setCell ⟨g+1,0,none⟩ (.int .i64 m)).drew:=(Turns.setCell (a:=⟨g+1,0,none⟩) HC3.out.g1 _).trans (Turns.drew _ _);have HT:=Hd hT;clear hT
    go_roundw
    case rel=>
     exact⟨_,_,_,_,_,_,_,_,_,_,_,_,_,_,_,_,⟨k+1,m,r,G,rfl,by omega,hpb2,hpg2,by omega,Hd (by rw[HD2.out,HR2.out]),Hd ((HC3.out.set ha (hg _ (by omega)) m).grow brf.drew),Hd (HG3.out.keeps HT.out.size),Hd (HJ.out _ _ _ _ _ HJ3.out (StepG.same HT.out fun i hi=>(HG3.out.mem i hi).2))⟩,rfl⟩
    case measure=>exact pM (by omega) (by omega) hup
   ·gi_wp2
    refine bodyPost_ret (results_none rfl _ _ _) rfl ?_;exact⟨⟨_,rfl⟩,G,HG2.out.keeps hk3.size,.inr ⟨k+1,by omega,hJ3⟩⟩
end
section
open Go Go.RowKit
attribute [local go_sem] Oper.semAt_some
structure WithinW (w0:World) (g:Nat) (p:ProgV) (kid up:Int) (G:Nat→Prop) (W:World):Prop where
 below:Kept w0 W
 c0:W.cell? ⟨g,0,none⟩=some p.ptr
 c1:W.cell? ⟨g+1,0,none⟩=some (intV kid)
 c2:W.cell? ⟨g+1+1,0,none⟩=some (intV up)
 g0:G g
 g1:G (g+1)
 g2:G (g+1+1)
theorem WithinW.lt{w0 W:World}{g:Nat}{p:ProgV}{kid up:Int}{G:Nat→Prop}(h:WithinW w0 g p kid up G W):g<W.heap.size∧g+1<W.heap.size∧g+1+1<W.heap.size:=
 ⟨World.block_lt_of_cell? W _ h.c0,World.block_lt_of_cell? W _ h.c1,World.block_lt_of_cell? W _ h.c2⟩
theorem WithinW.keeps{w0 W W':World}{N0:Nat→Prop}{g:Nat}{p:ProgV}{kid up:Int}{G:Nat→Prop}(ha:Apart N0 w0)(h:WithinW w0 g p kid up G W)(hk:Keeps N0 G W W'):WithinW w0 g p kid up G W':=by
 obtain⟨l0,l1,l2⟩:=h.lt;obtain⟨h1,h2,h3,h4,h5,h6,h7⟩:=h;exact⟨h1.turns ha hk (fun _ h=>h.2),(hk.cell l0 (fun e=>e.1 h5)).trans h2,(hk.cell l1 (fun e=>e.1 h6)).trans h3,(hk.cell l2 (fun e=>e.1 h7)).trans h4,h5,h6,h7⟩
theorem Kept.grow{w W W':World}(h1:Kept w W)(hk:Below W.heap.size W W'):Kept w W':=⟨Nat.le_trans h1.size hk.size,fun b i v hv=>(hk.cell (p:=⟨b,i,none⟩) (World.block_lt_of_cell? W _ (h1.cell b i v hv))).trans (h1.cell b i v hv)⟩
theorem WithinW.grow{w0 W W':World}{g:Nat}{p:ProgV}{kid up:Int}{G:Nat→Prop}(h:WithinW w0 g p kid up G W)(hk:Below W.heap.size W W'):WithinW w0 g p kid up G W':=by
 obtain⟨l0,l1,l2⟩:=h.lt;obtain⟨h1,h2,h3,h4,h5,h6,h7⟩:=h;exact⟨h1.grow hk,(hk.cell (p:=⟨g,0,none⟩) l0).trans h2,(hk.cell (p:=⟨g+1,0,none⟩) l1).trans h3,(hk.cell (p:=⟨g+1+1,0,none⟩) l2).trans h4,h5,h6,h7⟩
theorem AK(p:ProgV)(t:Tr)(ups decl:List Int)(kid:Int)(up:Nat)(w0 W0:World)(N0:Nat→Prop)(g:Nat)(bd:Bd t)(wf:WF t)(hn:up<t.nodes.length)(hp:IsProg w0 p t ups decl)(ha:Apart N0 w0)
 (h0:WithinW w0 g p kid up (fun i=>i=g∨i=g+1∨i=g+1+1) W0) :
 SeqG prog 267 #[.pointer (some ⟨g,0,none⟩),.pointer (some ⟨g+1+1,0,none⟩),.pointer (some ⟨g+1,0,none⟩)] (fun d:Int=>#[intV d]) (aB t kid up) N0 (fun i=>i=g∨i=g+1∨i=g+1+1) W0:=by
 intro l J Jx W hK hgd hJ hJx hY hJ0;have hC:=h0.keeps ha hK;obtain⟨G,hGdef⟩:∃G:Nat→Prop,(fun i=>i=g∨i=g+1∨i=g+1+1)=G:=⟨_,rfl⟩
 rw[hGdef]at hC hJ0 hgd;have HC:=Hd hC;have HG:=Hd hgd;have HJ:=Hd hJ;have HY:=Hd hY;have HP:=Hd hp;have HJ0:=Hd hJ0;have hn3:=bd.n;have hfun:=wf.funK up hn;have hpr:=hp.kept hC.below;have c0:=hpr.c0;obtain⟨b,o,ka,kc,ea,hb,n0,n1,n2,n3,n4,hkr⟩:=hpr.tree.nodes.at hn;have hkl:=bd.k _ (List.getElem_mem hn);have hps0:=hpr.lt;have hnd:=t.nd_at hn;have hcg:=hC.c0;have hcn:=hC.c1;have hcu:=hC.c2;have hnb:=hC.lt
 have HKR:Hid (∃W1,Row 1 w0 ka t.nodes[up].kids.length kc (zm t.nodes[up].kids)∧W1=W):=Hd (by
  obtain⟨b',o',ka',kc',ea',hb',m0,m1,m2,m3,m4,hkr'⟩:=hp.tree.nodes.at hn;rw[ea]at ea';simp only[Option.some.injEq,Addr.mk.injEq,and_true]at ea';obtain⟨rfl,rfl⟩:=ea';have e3:=hC.below.cell _ _ _ m3;rw[n3]at e3;simp only[Option.some.injEq,Value.slice.injEq,true_and]at e3;obtain⟨rfl,rfl⟩:=e3
  exact⟨W,hkr',rfl⟩)
 obtain⟨D,hD⟩:∃D,t.nodes[up]=D:=⟨_,rfl⟩
 rw[hD]at n0 n1 n2 n3 n4 hkr hkl hnd hfun HKR
 have hWL:aB t kid up=if D.kids[D.kids.length-1]?==some kid then (if D.kind==20 then [(up:Int)]else if D.kind==42 then D.kids.take (D.kids.length-2)++[(up:Int)]else [])else []:=by
  unfold aB;rw[hnd]
 have HWL:=Hd hWL;clear hC hgd hJ hJx hY hp hJ0 hK h0 hpr hD hnd hWL hGdef;obtain⟨s,v,aa,ac,da,dc⟩:=p;obtain⟨na,nc,ia,ic⟩:=v;simp only at c0 ea hps0;subst ea;have hsW:s<W.heap.size:=by omega
 have hend:∀W1,Below W.heap.size W W1→aB t kid up=[]→∃G,Gd N0 G W1∧(J (aB t kid up).length G W1∨∃k,k≤(aB t kid up).length∧Jx k G W1):=fun W1 hb1 e=>by
  rw[e];exact⟨G,HG.out.keeps hb1.size,.inl (HJ.out _ _ _ _ _ HJ0.out (StepG.of_below hb1 fun i hi=>(HG.out.mem i hi).2))⟩
 have HEND:=Hd hend;clear hend;by_cases hk0:D.kids.length=0
 ·have h0k:((D.kids.length:Int)==0)=true:=by rw[hk0];rfl
  have HNO:=Hd (show aB t kid up=[] by rw[HWL.out,List.eq_nil_of_length_eq_zero hk0];rfl);clear hk0;refine callsIn_of_wp func267 rfl trivial ?_ rfl;simp only[ntmps267,List.size_toArray,List.length_cons,List.length_nil,Nat.reduceAdd,Nat.reduceSub,Array.replicate_succ,Array.replicate_zero,List.push_toArray,List.append_toArray,List.nil_append,List.cons_append];refine wpIn_wide.2 ?_;go_wp2;go_region;go_wp2
  go_quiet (fail)
  go_wp2;refine bodyPost_ret (results_none rfl _ _ _) rfl ?_;exact⟨⟨_,rfl⟩,HEND.out _ (below_drewN ((Below.refl _ W).alloc nlr _).drew _) HNO.out⟩
 ·obtain⟨bk,ok,rfl,hbk,hck⟩:=Ints.at hkr (i:=D.kids.length-1) (by omega)
  obtain⟨last,hlast⟩:∃x,D.kids[D.kids.length-1]=x:=⟨_,rfl⟩
  rw[hlast]at hck;have HLAST:=Hd (show D.kids[D.kids.length-1]?=some last by rw[List.getElem?_eq_getElem (show D.kids.length-1<D.kids.length by omega),hlast]);obtain⟨m,hm⟩:∃m,D.kids.length-1=m:=⟨_,rfl⟩
  rw[hm]at hck;have hmlt:m<D.kids.length:=by omega
  have hwr:IntKind.i64.wrap ((D.kids.length:Int)-1)=(m:Int):=by rw[IntKind.wrap_i64];omega
  have h0k:((D.kids.length:Int)==0)=false:=beq_false_of_ne (by omega);clear hlast hk0 hm;cases hlk:(last==kid)with
  | false=>
    have HNO:=Hd (show aB t kid up=[] by
     rw[HWL.out,HLAST.out,if_neg];intro e;rw[beq_iff_eq,Option.some.injEq]at e;rw[e]at hlk
     simp at hlk)
    refine callsIn_of_wp func267 rfl trivial ?_ rfl;simp only[ntmps267,List.size_toArray,List.length_cons,List.length_nil,Nat.reduceAdd,Nat.reduceSub,Array.replicate_succ,Array.replicate_zero,List.push_toArray,List.append_toArray,List.nil_append,List.cons_append];refine wpIn_wide.2 ?_;go_wp2;go_region;go_wp2
    go_quiet (fail)
    go_wp2;refine bodyPost_ret (results_none rfl _ _ _) rfl ?_;exact⟨⟨_,rfl⟩,HEND.out _ (below_drewN ((Below.refl _ W).alloc nlr _).drew _) HNO.out⟩
  | true=>
    obtain rfl:=eq_of_beq hlk;have HW1:=Hd (show aB t last up=(if D.kind==20 then [(up:Int)]else if D.kind==42 then D.kids.take (D.kids.length-2)++[(up:Int)]else []) by rw[HWL.out,HLAST.out];simp);clear hlk HWL HLAST;refine callsIn_of_wp func267 rfl trivial ?_ rfl;simp only[ntmps267,List.size_toArray,List.length_cons,List.length_nil,Nat.reduceAdd,Nat.reduceSub,Array.replicate_succ,Array.replicate_zero,List.push_toArray,List.append_toArray,List.nil_append,List.cons_append];refine wpIn_wide.2 ?_;go_wp2;go_region;go_wp2
    go_quiet (fail)
    generalize hWW:World.drewN _ _=W1;have hbW1:Below W.heap.size W W1:=by rw[←hWW];exact below_drewN ((Below.refl _ W).alloc nlr _).drew _
    have hk1:W1.cell? ⟨W.heap.size,0,none⟩=some (.int .u8 D.kind):=by rw[←hWW];simp
    have hk3:W1.cell? ⟨W.heap.size,3,none⟩=some (.slice (some ⟨bk,ok,none⟩) D.kids.length kc):=by rw[←hWW];simp
    have HC1:=Hd (HC.out.grow hbW1);have HG1:=Hd (HG.out.keeps hbW1.size);have HJ1:=Hd (HJ.out _ _ _ _ _ HJ0.out (StepG.of_below hbW1 fun i hi=>(HG.out.mem i hi).2));have hcu1:=HC1.out.c2;clear hWW hcg hcn hcu c0 n0 n1 n2 n3 n4 hck
    go_step
    by_cases h20:D.kind=20
    ·have HX:=Hd (show aB t last up=[(up:Int)] by rw[HW1.out,if_pos (by rw[h20];rfl)])
     rw[h20]at hk1;obtain⟨fn,tmps,assign,body,hy,hR⟩:=HY.out 0 up G W1 (by rw[HX.out];rfl) (HG1.out) (HJ1.out);try dsimp only at hy
     have HR:=Hd hR;clear hR
     repeat (first|(refine(wpIn_wide (n:=0)).1 ?_;gi_wp2)|gi_step|go_step)
     refine⟨rfl,HR.out.mono ?_⟩;rintro e W3 (⟨rfl,hk5,hj5⟩|⟨rfl,hk5,hj5⟩)
     ·try dsimp only
      repeat (first|(refine(wpIn_wide (n:=0)).1 ?_;gi_wp2)|gi_step|go_step)
      go_end0
      exact⟨⟨_,rfl⟩,G,HG1.out.keeps hk5.size,.inl (by rw[HX.out];exact hj5)⟩
     ·try dsimp only
      repeat (first|(refine(wpIn_wide (n:=0)).1 ?_;gi_wp2)|gi_step|go_step)
      go_end0
      exact⟨⟨_,rfl⟩,G,HG1.out.keeps hk5.size,.inr ⟨1,by rw[HX.out];exact nlr,hj5⟩⟩
    ·have h20f:(D.kind==20)=false:=beq_false_of_ne h20
     by_cases h42:D.kind=42
     ·have h2:=hfun h42
      have hX:aB t last up=D.kids.take (D.kids.length-2)++[(up:Int)]:=by rw[HW1.out,h20f,if_neg Bool.false_ne_true,if_pos (by rw[h42];rfl)]
      obtain⟨m2,hm2⟩:∃m2,D.kids.length-2=m2:=⟨_,rfl⟩
      rw[hm2]at hX;have hwr2:IntKind.i64.wrap ((D.kids.length:Int)-2)=(m2:Int):=by rw[IntKind.wrap_i64];omega
      have hm2l:m2≤D.kids.length:=by omega
      have hm2k:m2≤kc:=by have:=hkr.2.1;omega
      have hxl:(aB t last up).length=m2+1:=by rw[hX,List.length_append,List.length_take];simp;omega
      have HX:=Hd hX;have HXL:=Hd hxl;have HM2:=Hd hm2;rw[h42]at hk1;clear hX h20f h20 hm2 hxl h2;go_wp2
      go_loopw [49] (fun t49 wr=>∃k:Nat,t49=.int .i64 k∧k≤m2∧Hid (WithinW w0 g ⟨s,⟨some ⟨b,o,none⟩,nc,ia,ic⟩,aa,ac,da,dc⟩ last up G wr)∧Hid (Gd N0 G wr)∧Hid (J k G wr)) (fun t49 _=>m2-(intOf t49).toNat)
      case atStart=>exact⟨0,rfl,Nat.zero_le _,HC1,HG1,HJ1⟩
      case round=>
       obtain⟨k,rfl,hk,HC2,HG2,HJ2⟩:=hrel;by_cases hlt:k<m2
       ·obtain⟨W9,hkr9,-⟩:=HKR.out
        obtain⟨bk',ok',ek',hbk',hck'⟩:=Ints.at hkr9 (i:=k) (by omega);simp only[Option.some.injEq,Addr.mk.injEq,and_true]at ek';obtain⟨rfl,rfl⟩:=ek';have hck2:=HC2.out.below.cell _ _ _ hck';obtain⟨x,hx⟩:∃x,D.kids[k]=x:=⟨_,rfl⟩
        rw[hx]at hck2
        have HXK:=Hd (show(aB t last up)[k]?=some x by
         rw[HX.out,List.getElem?_append_left (by rw[List.length_take];omega),List.getElem?_take_of_lt hlt,List.getElem?_eq_getElem (by omega),hx])
        clear hx hck' hkr9;obtain⟨fn,tmps,assign,body,hy,hR⟩:=HY.out k x G wr (HXK.out) (HG2.out) (HJ2.out);try dsimp only at hy
        have HR:=Hd hR;clear hR
        repeat (first|(refine(wpIn_wide (n:=0)).1 ?_;gi_wp2)|gi_step|go_step)
        refine⟨rfl,HR.out.mono ?_⟩;rintro e W3 (⟨rfl,hk5,hj5⟩|⟨rfl,hk5,hj5⟩)
        ·try dsimp only
         repeat (first|(refine(wpIn_wide (n:=0)).1 ?_;gi_wp2)|gi_step|go_step)
         exact⟨⟨k+1,by simp,by omega,Hd (HC2.out.keeps ha hk5),Hd (HG2.out.keeps hk5.size),Hd hj5⟩,by simp[intOf];omega⟩
        ·try dsimp only
         repeat (first|(refine(wpIn_wide (n:=0)).1 ?_;gi_wp2)|gi_step|go_step)
         refine bodyPost_ret (results_none rfl _ _ _) rfl ?_;exact⟨⟨_,rfl⟩,G,HG2.out.keeps hk5.size,.inr ⟨k+1,by rw[HXL.out];omega,hj5⟩⟩
       ·obtain rfl:k=m2:=by omega
        have hcu2:=HC2.out.c2
        have HXK:=Hd (show(aB t last up)[k]?=some (up:Int) by
         rw[HX.out,List.getElem?_append_right (by rw[List.length_take];omega),List.length_take,Nat.min_eq_left hm2l,Nat.sub_self];rfl)
        obtain⟨fn,tmps,assign,body,hy,hR⟩:=HY.out k up G wr (HXK.out) (HG2.out) (HJ2.out);try dsimp only at hy
        have HR:=Hd hR;clear hR
        repeat (first|(refine(wpIn_wide (n:=0)).1 ?_;gi_wp2)|gi_step|go_step)
        refine⟨rfl,HR.out.mono ?_⟩;rintro e W3 (⟨rfl,hk5,hj5⟩|⟨rfl,hk5,hj5⟩)
        ·try dsimp only
         repeat (first|(refine(wpIn_wide (n:=0)).1 ?_;gi_wp2)|gi_step|go_step)
         go_end0
         exact⟨⟨_,rfl⟩,G,HG2.out.keeps hk5.size,.inl (by rw[HXL.out];exact hj5)⟩
        ·try dsimp only
         repeat (first|(refine(wpIn_wide (n:=0)).1 ?_;gi_wp2)|gi_step|go_step)
         go_end0
         exact⟨⟨_,rfl⟩,G,HG2.out.keeps hk5.size,.inr ⟨k+1,by rw[HXL.out];exact nlr,hj5⟩⟩
     ·have h42f:(D.kind==42)=false:=beq_false_of_ne h42
      have HNO:=Hd (show aB t last up=[] by rw[HW1.out,h20f,h42f];rfl);clear h20 h42;go_wp2
      go_end0
      exact⟨⟨_,rfl⟩,HEND.out _ hbW1 HNO.out⟩
end
section
open Go Go.RowKit
attribute [local go_sem] Oper.semAt_some
theorem CE(a:Option Addr)(n c:Nat)(w:World) :
 Calls prog 205 #[.slice a n c] w fun e w'=>e=.returned (.func (.func 268) #[] #[.pointer (some ⟨w.heap.size,0,none⟩)])∧w.alloc (.cells #[.slice a n c] 23)=w':=by
 go_enter func205,ntmps205;go_wp2;go_ret;exact⟨rfl,rfl⟩
def qE(l:List Int):List (Int×Int):=(List.range l.length).map fun k=>(((l.length-1-k:Nat):Int),l.getD (l.length-1-k) 0)
theorem mW(l:List Int):(qE l).length=l.length:=by simp[qE]
theorem IN{l:List Int}{i:Nat}(h:i<l.length):(qE l)[l.length-1-i]?=some ((i:Int),l[i]):=by
 unfold qE;rw[List.getElem?_map,List.getElem?_range (by omega)];simp only[Option.map_some,Option.some.injEq,Prod.mk.injEq];have e:l.length-1-(l.length-1-i)=i:=by omega
 rw[e,List.getD_eq_getElem?_getD,List.getElem?_eq_getElem h];exact⟨rfl,rfl⟩
theorem DS(l:List Int):(qE l).map (·.2)=l.reverse:=by
 apply List.ext_getElem
 ·simp[qE]
 ·intro k h1 h2
  simp only[qE,List.getElem_map,List.getElem_range,List.getElem_reverse];rw[List.getD_eq_getElem?_getD,List.getElem?_eq_getElem (by simp[qE]at h1;omega)];rfl
theorem GS(a:Option Addr)(c:Nat)(l:List Int)(w0 W0:World)(N0:Nat→Prop)(g:Nat)(hm:l.length≤1000000)(hr:Ints w0 a c l)(ha:Apart N0 w0)(hb0:Kept w0 W0)
 (h0:W0.cell? ⟨g,0,none⟩=some (.slice a l.length c)) :
 SeqG prog 268 #[.pointer (some ⟨g,0,none⟩)] (fun x:Int×Int=>#[intV x.1,intV x.2]) (qE l) N0 (fun i=>i=g) W0:=by
 intro ly J Jx W hK hgd hJ hJx hY hJ0;have hlt0:=World.block_lt_of_cell? W0 _ h0;obtain⟨G,hGdef⟩:∃G:Nat→Prop,(fun i=>i=g)=G:=⟨_,rfl⟩
 have hGg:G g:=by rw[←hGdef]
 rw[hGdef]at hJ0 hgd hK;have hcg:W.cell? ⟨g,0,none⟩=some (.slice a l.length c):=(hK.cell (b:=g) hlt0 (fun e=>e.1 hGg)).trans h0;have hbW:Kept w0 W:=hb0.turns ha hK (fun _ h=>h.2);have HB:=Hd hbW;have HG:=Hd hgd;have HJ:=Hd hJ;have HY:=Hd hY;have HJ0:=Hd hJ0;have HRW:=Hd hr;have hwr:IntKind.i64.wrap ((l.length:Int)-1)=(l.length:Int)-1:=by rw[IntKind.wrap_i64];omega
 have HL:=Hd (mW l);clear hJ hJx hY hJ0 hK hgd hGdef h0 hlt0 hb0 hbW hr;refine callsIn_of_wp func268 rfl trivial ?_ rfl;simp only[ntmps268,List.size_toArray,List.length_cons,List.length_nil,Nat.reduceAdd,Nat.reduceSub,Array.replicate_succ,Array.replicate_zero,List.push_toArray,List.append_toArray,List.nil_append,List.cons_append];refine wpIn_wide.2 ?_;go_wp2
 go_loopw [3] (fun t3 wr=>∃i:Int,t3=.int .i64 i ∧ -1≤i∧i<l.length∧Hid (Kept w0 wr)∧Hid (wr.cell? ⟨g,0,none⟩=some (.slice a l.length c))∧Hid (Gd N0 G wr)∧Hid (J (l.length-(i+1).toNat) G wr)) (fun t3 _=>(intOf t3+1).toNat)
 case atStart=>exact⟨(l.length:Int)-1,rfl,by omega,by omega,HB,Hd hcg,HG,Hd (by rw[show l.length-((l.length:Int)-1+1).toNat=0 by omega];exact HJ0.out)⟩
 case round=>
  obtain⟨i,rfl,hi0,hi1,HB2,HC2,HG2,HJ2⟩:=hrel;by_cases hneg:i = -1
  ·subst hneg
   go_wp2
   go_end0
   exact⟨⟨_,rfl⟩,G,HG2.out,.inl (by rw[HL.out];exact HJ2.out)⟩
  ·obtain⟨m,rfl⟩:=Int.eq_ofNat_of_zero_le (show 0≤i by omega)
   have hm1:m<l.length:=by omega
   obtain⟨bk,ok,rfl,hbk,hck⟩:=Ints.at HRW.out hm1;have hck2:=HB2.out.cell _ _ _ hck;have hX:=IN hm1;obtain⟨x,hx⟩:∃x,l[m]=x:=⟨_,rfl⟩
   rw[hx]at hck2 hX;have hcg2:=HC2.out;have hge:(decide ((m:Int) ≥ 0))=true:=by simp
   have hJk:J (l.length-1-m) G wr:=by have:=HJ2.out;rwa[show l.length-((m:Int)+1).toNat=l.length-1-m by omega]at this
   have hg2:=World.block_lt_of_cell? wr _ hcg2;simp only at hg2;obtain⟨fn,tmps,assign,body,hy,hR⟩:=HY.out (l.length-1-m) ((m:Int),x) G wr hX HG2.out hJk;dsimp only at hy;have HR:=Hd hR;clear hR hx hck hX hJk
   repeat (first|(refine(wpIn_wide (n:=0)).1 ?_;gi_wp2)|gi_step|go_step)
   refine⟨rfl,HR.out.mono ?_⟩;rintro e W3 (⟨rfl,hk5,hj5⟩|⟨rfl,hk5,hj5⟩)
   ·try dsimp only
    repeat (first|(refine(wpIn_wide (n:=0)).1 ?_;gi_wp2)|gi_step|go_step)
    exact⟨⟨(m:Int)-1,rfl,by omega,by omega,Hd (HB2.out.turns ha hk5 (fun _ h=>h.2)),Hd ((hk5.cell (b:=g) hg2 (fun e=>e.1 hGg)).trans hcg2),Hd (HG2.out.keeps hk5.size),Hd (by rw[show l.length-((m:Int)-1+1).toNat=l.length-1-m+1 by omega];exact hj5)⟩,by simp[intOf]⟩
   ·try dsimp only
    repeat (first|(refine(wpIn_wide (n:=0)).1 ?_;gi_wp2)|gi_step|go_step)
    refine bodyPost_ret (results_none rfl _ _ _) rfl ?_;exact⟨⟨_,rfl⟩,G,HG2.out.keeps hk5.size,.inr ⟨_,by rw[HL.out];omega,hj5⟩⟩
end
section
open Go Go.RowKit
attribute [local go_sem] Oper.semAt_some
structure SightW (w0:World) (g y:Nat) (p:ProgV) (node:Int) (ly:Nat) (G:Nat→Prop) (W:World):Prop where
 below:Kept w0 W
 c0:W.cell? ⟨g,0,none⟩=some p.ptr
 c1:W.cell? ⟨g+1,0,none⟩=some (intV node)
 cy:W.cell? ⟨y,0,none⟩=some (.func (.yield ly) #[] #[])
 g0:G g
 g1:G (g+1)
 gy:G y
theorem SightW.lt{w0 W:World}{g y:Nat}{p:ProgV}{node:Int}{ly:Nat}{G:Nat→Prop}(h:SightW w0 g y p node ly G W):g<W.heap.size∧g+1<W.heap.size∧y<W.heap.size:=
 ⟨World.block_lt_of_cell? W _ h.c0,World.block_lt_of_cell? W _ h.c1,World.block_lt_of_cell? W _ h.cy⟩
theorem SightW.turns{w0 W W':World}{N0:Nat→Prop}{g y:Nat}{p:ProgV}{node:Int}{ly:Nat}{G M:Nat→Prop}(ha:Apart N0 w0)(h:SightW w0 g y p node ly G W)(hk:Turns M W W')(hM:∀i,M i→N0 i)(m0:¬M g)(m1:¬M (g+1))(my:¬M y):SightW w0 g y p node ly G W':=by
 obtain⟨l0,l1,l2⟩:=h.lt;obtain⟨h1,h2,h3,h4,h5,h6,h7⟩:=h;exact⟨h1.turns ha hk hM,(hk.cell l0 m0).trans h2,(hk.cell l1 m1).trans h3,(hk.cell l2 my).trans h4,h5,h6,h7⟩
theorem SightW.more{w0 W:World}{g y:Nat}{p:ProgV}{node:Int}{ly:Nat}{G G':Nat→Prop}(h:SightW w0 g y p node ly G W)(hG:∀i,G i→G' i):SightW w0 g y p node ly G' W:=
 ⟨h.below,h.c0,h.c1,h.cy,hG _ h.g0,hG _ h.g1,hG _ h.gy⟩
structure SightI (w0:World) (N0:Nat→Prop) (g y:Nat) (p:ProgV) (node:Int) (ly:Nat) (ds:List Nat) (J:(Nat→Prop)→World→Prop) (H:Nat→Prop) (A:World) (G:Nat→Prop) (X:World):Prop where
 ex:∃Gs:Nat→Prop,J Gs X∧Gd N0 Gs X∧(∀i,G i→Gs i)∧(∀i,H i→Gs i)∧SightW w0 g y p node ly Gs X∧(¬G g∧¬G (g+1)∧¬G y)∧∀d∈ds,X.heap[d]?=some (.deferred (some []))∧¬G d∧Gs d
 apart:∀i,H i→¬G i
 low:∀i,H i→i<X.heap.size
 keeps:Keeps N0 H A X
theorem SightI.step{w0:World}{N0:Nat→Prop}{g y:Nat}(ha:Apart N0 w0){p:ProgV}{node:Int}{ly:Nat}{ds:List Nat}{J:(Nat→Prop)→World→Prop}{H:Nat→Prop}{A:World}(hJ:∀G X G' Y,J G X→StepG G X G' Y→J G' Y){G G':Nat→Prop}{X Y:World}
 (h:SightI w0 N0 g y p node ly ds J H A G X)(s:StepG G X G' Y):SightI w0 N0 g y p node ly ds J H A G' Y:=by
 obtain⟨⟨Gs,h1,h2,h3,h4,h5,⟨h6,h7,h8⟩,hd⟩,h9,h10,h11⟩:=h;have hs:=s.turns.size;obtain⟨l0,l1,l2⟩:=h5.lt
 have hst:StepG Gs X (fun i=>Gs i∨G' i) Y:=⟨s.turns.mono fun i _ hi=>h3 i hi,fun i hi=>.inl hi,fun i hi=>by
  rcases hi with hi|hi
  ·exact .inl hi
  ·exact(s.news i hi).elim (fun h=>.inl (h3 i h)) .inr,fun i hi=>by
  rcases hi with hi|hi
  ·have:=(h2.mem i hi).2;omega
  ·exact s.lt i hi⟩
 have hlow:∀i,G i→N0 i:=fun i hi=>(h2.mem i (h3 i hi)).1;have nw:∀i,i<X.heap.size→¬G i→¬G' i:=fun i hi hn hh=>(s.news i hh).elim hn (fun h=>by omega)
 refine⟨⟨_,hJ _ _ _ _ h1 hst,h2.step hst,fun i hi=>.inr hi,fun i hi=>.inl (h4 i hi),(h5.turns ha s.turns hlow h6 h7 h8).more (fun i hi=>.inl hi),⟨nw _ l0 h6,nw _ l1 h7,nw _ l2 h8⟩,fun d hdd=>?_⟩,
  fun i hi=>nw i (h10 i hi) (h9 i hi),fun i hi=>Nat.lt_of_lt_of_le (h10 i hi) hs,?_⟩
 ·obtain⟨e1,e2,e3⟩:=hd d hdd
  exact⟨(s.turns.block d (zB e1) e2).trans e1,nw d (zB e1) e2,.inl e3⟩
 ·exact h11.trans (s.turns.mono fun i hi hgi=>⟨fun hh=>h9 i hh hgi,hlow i hgi⟩)
theorem SightI.yielded{w0:World}{N0:Nat→Prop}{g y:Nat}(ha:Apart N0 w0){p:ProgV}{node:Int}{ly:Nat}{ds:List Nat}{J':(Nat→Prop)→World→Prop}{H:Nat→Prop}{A:World}{G Gs:Nat→Prop}{X Y:World}
 (h2:Gd N0 Gs X)(h3:∀i,G i→Gs i)(h4:∀i,H i→Gs i)(h5:SightW w0 g y p node ly Gs X)(h6:¬G g∧¬G (g+1)∧¬G y)(hd:∀d∈ds,X.heap[d]?=some (.deferred (some []))∧¬G d∧Gs d)
 (h9:∀i,H i→¬G i)(h11:Keeps N0 H A X)(hk:Keeps N0 Gs X Y)(hj:J' Gs Y):Keeps N0 G X Y∧SightI w0 N0 g y p node ly ds J' H A G Y:=by
 refine⟨hk.mono fun i _ h=>⟨fun e=>h.1 (h3 i e),h.2⟩,⟨Gs,hj,h2.keeps hk.size,h3,h4,h5.turns ha hk (fun _ h=>h.2) (fun e=>e.1 h5.g0) (fun e=>e.1 h5.g1) (fun e=>e.1 h5.gy),h6,fun d hdd=>?_⟩,h9,fun i hi=>?_,?_⟩
 ·obtain⟨e1,e2,e3⟩:=hd d hdd
  exact⟨(hk.block d (zB e1) (fun e=>e.1 e3)).trans e1,e2,e3⟩
 ·exact Nat.lt_of_lt_of_le (h2.mem i (h4 i hi)).2 hk.size
 ·exact h11.trans (hk.mono fun i _ h=>⟨fun e=>h.1 (h4 i e),h.2⟩)
theorem SightI.grow{w0:World}{N0:Nat→Prop}{g y:Nat}(ha:Apart N0 w0){p:ProgV}{node:Int}{ly:Nat}{ds:List Nat}{J:(Nat→Prop)→World→Prop}{H:Nat→Prop}{A:World}(hJ:∀G X G' Y,J G X→StepG G X G' Y→J G' Y){G:Nat→Prop}{X Y:World}
 (h:SightI w0 N0 g y p node ly ds J H A G X)(hb:Below X.heap.size X Y):SightI w0 N0 g y p node ly ds J H A G Y:=by
 refine h.step ha hJ (StepG.of_below hb fun i hi=>?_);obtain⟨⟨Gs,h1,h2,h3,_⟩,_⟩:=h;exact(h2.mem i (h3 i hi)).2
def cntU(t:Tr)(node:Int)(k:Nat):Nat:=(((bH t node).take k).flatMap (fun p=>aB t p.1 p.2)).length
theorem DU{t:Tr}{node:Int}{k:Nat}{kid up:Int}(h:(bH t node)[k]?=some (kid,up)):cntU t node (k+1)=cntU t node k+(aB t kid up).length:=by
 unfold cntU;obtain⟨hk,e⟩:=List.getElem?_eq_some_iff.1 h;rw[List.take_succ_eq_append_getElem hk,e,List.flatMap_append,List.length_append];simp
theorem LX{t:Tr}{node:Int}{k j:Nat}{kid up d:Int}{r:List Int}(h:(bH t node)[k]?=some (kid,up))(hj:(aB t kid up)[j]?=some d) :
 ((bH t node).flatMap (fun p=>aB t p.1 p.2)++r)[cntU t node k+j]?=some d:=by
 obtain⟨hk,e⟩:=List.getElem?_eq_some_iff.1 h;obtain⟨hj2,_⟩:=List.getElem?_eq_some_iff.1 hj
 have hsplit:(bH t node).flatMap (fun p=>aB t p.1 p.2)=((bH t node).take k).flatMap (fun p=>aB t p.1 p.2)++(aB t kid up++((bH t node).drop (k+1)).flatMap (fun p=>aB t p.1 p.2)):=by
  conv=>lhs;rw[←List.take_append_drop k (bH t node),List.flatMap_append,List.drop_eq_getElem_cons hk,e,List.flatMap_cons]
 rw[hsplit,List.append_assoc,List.append_assoc];unfold cntU;rw[List.getElem?_append_right (by omega),Nat.add_sub_cancel_left,List.getElem?_append_left hj2];exact hj
def gI(t:Tr)(node:Int)(k:Nat):List Int:=((t.items.reverse.take k).filter fun it=>decide (it<node)&&zh t it)
theorem BM{t:Tr}{node:Int}{k:Nat}{x:Int}(h:t.items.reverse[k]?=some x):gI t node (k+1)=gI t node k++(if decide (x<node)&&zh t x then [x]else []):=by
 unfold gI;obtain⟨hk,e⟩:=List.getElem?_eq_some_iff.1 h;rw[List.take_succ_eq_append_getElem hk,e,List.filter_append];cases hx:(decide (x<node)&&zh t x)<;>simp[List.filter_cons,hx]
theorem uH{t:Tr}{node:Int}:gI t node t.items.length=(t.items.filter fun it=>decide (it<node)&&zh t it).reverse:=by
 unfold gI;rw[List.take_of_length_le (by simp),List.filter_reverse]
theorem JE{t:Tr}{node:Int}{k:Nat}{x:Int}(h:t.items.reverse[k]?=some x)(hx:(decide (x<node)&&zh t x)=true):(t.items.filter fun it=>decide (it<node)&&zh t it).reverse[(gI t node k).length]?=some x:=by
 rw[←uH];obtain⟨hk,e⟩:=List.getElem?_eq_some_iff.1 h
 have hsplit:gI t node t.items.length=gI t node k++(x::(t.items.reverse.drop (k+1)).filter fun it=>decide (it<node)&&zh t it):=by
  unfold gI;rw[List.take_of_length_le (by simp)]
  conv=>lhs;rw[←List.take_append_drop k t.items.reverse,List.filter_append,List.drop_eq_getElem_cons hk,e,List.filter_cons,if_pos hx]
 rw[hsplit,List.getElem?_append_right nlr,Nat.sub_self];rfl
end
section
open Go Go.RowKit
attribute [local go_sem] Oper.semAt_some
theorem SightI.out{w0:World}{N0:Nat→Prop}{g y:Nat}{p:ProgV}{node:Int}{ly:Nat}{J:(Nat→Prop)→World→Prop}{G G2:Nat→Prop}{W A B:World}(h:SightI w0 N0 g y p node ly [] J G A G2 B)
 (h6:¬G g∧¬G (g+1)∧¬G y)(h4:Keeps N0 (fun _=>False) W A):SightI w0 N0 g y p node ly [] J (fun _=>False) W G B:=by
 obtain⟨⟨Gs,a1,a2,a3,a4,a5,a6,a7⟩,b1,b2,b3⟩:=h;exact⟨⟨Gs,a1,a2,a4,fun _ h=>h.elim,a5,h6,fun _ h=>by cases h⟩,fun _ h=>h.elim,fun _ h=>h.elim,h4.trans (b3.mono fun i _ hi=>⟨fun e=>e,hi.2⟩)⟩
theorem box3(W:World)(ly s:Nat)(node:Int):∃Wa,dI (W.alloc (.cells #[.func (.yield ly) #[] #[]] 121)) (.pointer (some ⟨s,0,none⟩)) node=Wa∧Wa.heap.size=W.heap.size+1+1+1∧Below W.heap.size W Wa ∧
 Wa.cell? ⟨W.heap.size,0,none⟩=some (.func (.yield ly) #[] #[])∧Wa.cell? ⟨W.heap.size+1,0,none⟩=some (.pointer (some ⟨s,0,none⟩))∧Wa.cell? ⟨W.heap.size+1+1,0,none⟩=some (intV node)∧Wa.frozen? ⟨W.heap.size+1+1,0,none⟩=false:=by
 refine⟨_,rfl,by simp,(((Below.refl _ W).alloc nlr _).alloc (by simp) _).alloc (by simp;omega) _,?_,?_,?_,?_⟩
 ·unfold dI;go_simp
 ·unfold dI;go_simp
 ·unfold dI;go_simp
 ·unfold dI;go_simp
theorem OO{A X2:World}{s m:Nat}{kid:Int}(h:(dI A (.pointer (some ⟨s,0,none⟩)) kid).alloc (.cells #[intV m] 3)=X2):X2.heap.size=A.heap.size+1+1+1∧Below A.heap.size A X2 ∧
 X2.cell? ⟨A.heap.size,0,none⟩=some (.pointer (some ⟨s,0,none⟩))∧X2.cell? ⟨A.heap.size+1,0,none⟩=some (intV kid)∧X2.cell? ⟨A.heap.size+1+1,0,none⟩=some (intV m):=by
 subst h;refine⟨by simp,(((Below.refl _ A).alloc nlr _).alloc (by simp) _).alloc (by simp;omega) _,?_,?_,?_⟩
 ·unfold dI;go_simp
 ·unfold dI;go_simp
 ·unfold dI;go_simp
theorem qN(p:ProgV)(t:Tr)(ups decl:List Int)(node:Nat)(w0 W0:World)(N0:Nat→Prop)(g:Nat)(wf:WF t)(hn:node<t.nodes.length)(hu:IsUps t ups)(hp:IsProg w0 p t ups decl)(ha:Apart N0 w0)
 (hb0:Kept w0 W0)(h0:W0.cell? ⟨g,0,none⟩=some p.ptr)(h1:W0.cell? ⟨g+1,0,none⟩=some (intV node)) :
 SeqG prog 202 #[.pointer (some ⟨g,0,none⟩),.pointer (some ⟨g+1,0,none⟩)] (fun d:Int=>#[intV d]) (zA t node) N0 (fun i=>i=g∨i=g+1) W0:=by
 intro ly J Jx W hK hgd hJ hJx hY hJ0;have hl0:=World.block_lt_of_cell? W0 _ h0;have hl1:=World.block_lt_of_cell? W0 _ h1;simp only at hl0 hl1;have hbW:Kept w0 W:=hb0.turns ha hK (fun _ h=>h.2);have hcg:W.cell? ⟨g,0,none⟩=some p.ptr:=(hK.cell hl0 (fun e=>e.1 (.inl rfl))).trans h0;have hcn:W.cell? ⟨g+1,0,none⟩=some (intV node):=(hK.cell hl1 (fun e=>e.1 (.inr rfl))).trans h1;have hgW:=World.block_lt_of_cell? W _ hcg;have hgW1:=World.block_lt_of_cell? W _ hcn;simp only at hgW hgW1;have HC0:∀(s2:Nat) (w2:World),Calls prog 203 #[.pointer (some ⟨s2,0,none⟩),intV node] w2 fun e w'=>e=.returned (.func (.func 266) #[] #[.pointer (some ⟨w2.heap.size,0,none⟩),.pointer (some ⟨w2.heap.size+1,0,none⟩)])∧dI w2 (.pointer (some ⟨s2,0,none⟩)) node=w':=fun s2 w2=>qI s2 node w2;have HC0:=Hd HC0;have HJ:=Hd hJ;have HJx:=Hd hJx;have HY:=Hd hY;have HJ0:=Hd hJ0;have HP:=Hd hp;have HG:=Hd hgd;have HB:=Hd hbW;have HU:=Hd hu;have WFF:=Hd wf;clear hJ hJx hY hJ0 hp hgd hK h0 h1 hb0 hbW hu wf;obtain⟨s,v,aa,ac,da,dc⟩:=p;refine callsIn_of_wp_marks (n:=0) func202 rfl trivial ?_ rfl;simp only[ntmps202,List.size_toArray,List.length_cons,List.length_nil,Nat.reduceAdd,Nat.reduceSub,Array.replicate_succ,Array.replicate_zero,List.push_toArray,List.append_toArray,List.nil_append,List.cons_append];refine wpIn_wide.2 ?_
 go_wp2_with (go_at_call 203;refine(HC0.out _ _).mono ?_;rintro e w' ⟨rfl,rfl⟩)
 obtain⟨Wa,hWa,hsa,hba,ca0,ca1,ca2,fa2⟩:=box3 W ly s node;rw[hWa];have hNW:=HG.out.size;clear hWa;obtain⟨hca,-⟩:=bcell hba
 have HSW:Hid (SightW w0 g W.heap.size ⟨s,v,aa,ac,da,dc⟩ node ly (fun i=>(i=g∨i=g+1)∨W.heap.size≤i∧i<Wa.heap.size) Wa):=Lib.hid
  ⟨HB.out.grow hba,(hca g 0 hgW).trans hcg,(hca (g+1) 0 hgW1).trans hcn,ca0,.inl (.inl rfl),.inl (.inr rfl),.inr ⟨nlr,by omega⟩⟩
 have HST:Hid (StepG (fun i=>i=g∨i=g+1) W (fun i=>(i=g∨i=g+1)∨W.heap.size≤i∧i<Wa.heap.size) Wa):=Lib.hid
  ⟨Turns.of_below hba (fun k hk hn=>by omega),fun i h=>.inl h,fun i h=>h.elim .inl (fun h=>.inr h.1),fun i h=>by
   rcases h with(rfl|rfl) | h
   ·omega
   ·omega
   ·exact h.2⟩
 have HI0:Hid (SightI w0 N0 g W.heap.size ⟨s,v,aa,ac,da,dc⟩ node ly [] (J (cntU t node 0)) (fun _=>False) W (fun i=>i=W.heap.size+1∨i=W.heap.size+1+1) Wa):=Lib.hid
  ⟨⟨_,HJ.out _ _ _ _ _ (show J (cntU t node 0) _ W from HJ0.out) HST.out,HG.out.step HST.out,fun i h=>by
   rcases h with rfl|rfl
   ·exact .inr ⟨by omega,by omega⟩
   ·exact .inr ⟨by omega,by omega⟩,fun _ h=>h.elim,HSW.out,⟨by omega,by omega,by omega⟩,fun _ h=>by cases h⟩,fun _ h=>h.elim,fun _ h=>h.elim,Turns.of_below hba (fun k hk hn=>by omega)⟩
 have HCW:Hid (ClimbW w0 (W.heap.size+1) ⟨s,v,aa,ac,da,dc⟩ node (fun i=>i=W.heap.size+1∨i=W.heap.size+1+1) Wa):=Hd ⟨HB.out.grow hba,ca1,ca2,fa2,.inl rfl,.inr rfl⟩
 have HGC:Hid (Gd N0 (fun i=>i=W.heap.size+1∨i=W.heap.size+1+1) Wa):=Hd ⟨fun i h=>hNW i (by omega),fun i h=>by
  rcases h with rfl|rfl
  ·exact⟨hNW _ (by omega),by omega⟩
  ·exact⟨hNW _ (by omega),by omega⟩⟩
 have HXS:=Hd (vH WFF.out (t:=t) (node:=(node:Int)) (by omega))
 have HJX:Hid (∀G X G' Y,(∃k,k≤(zA t node).length∧Jx k G X)→StepG G X G' Y→∃k,k≤(zA t node).length∧Jx k G' Y):=Hd (by
  rintro G X G' Y⟨k,hk,h⟩ st
  exact⟨k,hk,HJx.out _ _ _ _ _ h st⟩)
 clear hca ca0 ca1 ca2 fa2 hcg hcn;refine(wpIn_wide (n:=0)).1 ?_
 refine gT (gf:=266) (lb:=#[.pointer (some ⟨W.heap.size+1,0,none⟩),.pointer (some ⟨W.heap.size+1+1,0,none⟩)]) rfl (enters_of func266 (by kernel_rfl) rfl)
  (tB ⟨s,v,aa,ac,da,dc⟩ t ups decl node w0 Wa N0 (W.heap.size+1) WFF.out.bd hn HU.out HP.out ha (fun i h=>hNW i (by omega)) HCW.out) (Turns.refl _ _) HGC.out (fun _=>rfl)
  (fun k G X=>SightI w0 N0 g W.heap.size ⟨s,v,aa,ac,da,dc⟩ node ly [] (J (cntU t node k)) (fun _=>False) W G X)
  (fun c _ G X=>c=.ret∧SightI w0 N0 g W.heap.size ⟨s,v,aa,ac,da,dc⟩ node ly [] (fun Gs X=>∃k,k≤(zA t node).length∧Jx k Gs X) (fun _=>False) W G X)
  (fun k G X G' Y h st=>h.step ha (fun _ _ _ _=>HJ.out _ _ _ _ _) st) (fun c k G X G' Y h st=>⟨h.1,h.2.step ha HJX.out st⟩) HI0.out
  (fun x=>{ tmps:=#[.func (.yield ly) #[] #[],.pointer (some ⟨g,0,none⟩),.pointer (some ⟨g+1,0,none⟩),.pointer (some ⟨W.heap.size,0,none⟩),intV x.1,intV x.2,undef,undef,undef,.pointer (some ⟨s,0,none⟩),intV node,.func (.func 266) #[] #[.pointer (some ⟨W.heap.size+1,0,none⟩),.pointer (some ⟨W.heap.size+1+1,0,none⟩)],intV x.1,intV x.2,undef,undef,undef,undef,undef,undef,undef,undef,undef,undef,undef,undef,undef,undef,undef,undef,undef,undef,undef,undef,undef,undef,undef,undef,undef,undef,undef,undef,undef,undef,undef],defers:=[] }) ?assign ?body ?done ?stop
 case assign=>
  intro l x W9 K hK
  gi_wp2
  exact hK
 case body=>
  rintro l k⟨kid,up⟩ G A hx hGl⟨r,hr⟩ hgdA hI;obtain⟨⟨Gs,j1,j2,j3,j4,j5,j6,j7⟩,i2,i3,i4⟩:=id hI;have hmem:=mE _ _ _ _ (List.mem_of_getElem? hx) (zD t (n:=(node:Int)) (by omega));obtain⟨hup0,hup1,-⟩:=hmem;simp only at hup0 hup1;obtain⟨m,rfl⟩:=Int.eq_ofNat_of_zero_le hup0;have hm:m<t.nodes.length:=by omega
  have hcg5:A.cell? ⟨g,0,none⟩=some (.pointer (some ⟨s,0,none⟩)):=j5.c0;have hcy5:=j5.cy;have HX5:=Hd hx;have HI:=Hd hI;have HGA:=Hd hgdA;have hlA:=zB hr;have HLR:=Hd hr;have HGL:=Hd hGl;have hNA:=j2.size;have HJ1:=Hd j1;have HJ2:=Hd j2;have HJ3:=Hd j3;have HJ5:=Hd j5;have HJ6:=Hd j6;have HI4:=Hd i4;have hC5:Hid (Calls prog 204 #[.pointer (some ⟨s,0,none⟩),intV kid,intV m] A fun e w'=>e=.returned (.func (.func 267) #[] #[.pointer (some ⟨A.heap.size,0,none⟩),.pointer (some ⟨A.heap.size+1+1,0,none⟩),.pointer (some ⟨A.heap.size+1,0,none⟩)])∧(dI A (.pointer (some ⟨s,0,none⟩)) kid).alloc (.cells #[intV m] 3)=w'):=Hd (wE s kid m A);clear j1 j2 j3 j4 j5 j6 j7 i2 i3 i4 hI hgdA hx hGl hr
  gi_wp2_with (refine⟨trivial,rfl,?_⟩;refine(CallsIn.inRound l (callsIn_wide.2 hC5.out)).mono ?_;rintro e w' ⟨rfl,rfl⟩)
  obtain⟨X2,hX2⟩:∃X2,(dI A (.pointer (some ⟨s,0,none⟩)) kid).alloc (.cells #[intV m] 3)=X2:=⟨_,rfl⟩
  obtain⟨hs2,hb2,e0,e1,e2⟩:=OO hX2;rw[hX2];clear hX2;obtain⟨hc2,-⟩:=bcell hb2;have hr2:X2.heap[l]?=some (.loop r):=(hb2.block l hlA).trans HLR.out;have HWW:Hid (WithinW w0 A.heap.size ⟨s,v,aa,ac,da,dc⟩ kid m (fun i=>i=A.heap.size∨i=A.heap.size+1∨i=A.heap.size+1+1) X2):=Hd ⟨HJ5.out.below.grow hb2,e0,e1,e2,.inl rfl,.inr (.inl rfl),.inr (.inr rfl)⟩;have hst:StepG Gs A (fun i=>Gs i∨A.heap.size≤i∧i<X2.heap.size) X2:=⟨Turns.of_below hb2 (fun k hk hn=>by omega),fun i h=>.inl h,fun i h=>h.elim .inl (fun h=>.inr h.1),fun i h=>h.elim (fun h=>by have:=(HJ2.out.mem i h).2;omega) (fun h=>h.2)⟩
  have hgw:Gd N0 (fun i=>i=A.heap.size∨i=A.heap.size+1∨i=A.heap.size+1+1) X2:=⟨fun i h=>hNA i (by omega),fun i h=>by
   rcases h with rfl|rfl|rfl
   ·exact⟨hNA _ (by omega),by omega⟩
   ·exact⟨hNA _ (by omega),by omega⟩
   ·exact⟨hNA _ (by omega),by omega⟩⟩
  obtain⟨q0,q1,q2⟩:=HJ5.out.lt
  have HI2:Hid (SightI w0 N0 g W.heap.size ⟨s,v,aa,ac,da,dc⟩ node ly [] (J (cntU t node k+0)) G A (fun i=>i=A.heap.size∨i=A.heap.size+1∨i=A.heap.size+1+1) X2):=Lib.hid
   ⟨⟨_,HJ.out _ _ _ _ _ HJ1.out hst,HJ2.out.step hst,fun i h=>by
    rcases h with rfl|rfl|rfl
    ·exact .inr ⟨by omega,by omega⟩
    ·exact .inr ⟨by omega,by omega⟩
    ·exact .inr ⟨by omega,by omega⟩,fun i h=>.inl (HJ3.out i h),(HJ5.out.turns ha (M:=fun _=>False) (Turns.of_below hb2 (fun k hk hn=>by omega)) (fun _ h=>h.elim) (fun h=>h) (fun h=>h) (fun h=>h)).more (fun i h=>.inl h),⟨by omega,by omega,by omega⟩,fun _ h=>by cases h⟩,
    fun i h=>by have:=(HGA.out.mem i h).2;omega,fun i h=>by have:=(HGA.out.mem i h).2;omega,Turns.of_below hb2 (fun k hk hn=>by omega)⟩
  have HGW:=Hd hgw;clear hst hgw e0 e1 e2 hc2 hcg5 hcy5
  refine FC (l₀:=l) (r₀:=r) (gf:=267) (lb:=#[.pointer (some ⟨A.heap.size,0,none⟩),.pointer (some ⟨A.heap.size+1+1,0,none⟩),.pointer (some ⟨A.heap.size+1,0,none⟩)]) hr2 rfl (enters_of func267 (by kernel_rfl) rfl)
   (AK ⟨s,v,aa,ac,da,dc⟩ t ups decl kid m w0 X2 N0 A.heap.size WFF.out.bd WFF.out hm HP.out ha HWW.out) (Turns.refl _ _) HGW.out (fun _=>rfl)
   (fun k2 G2 X=>SightI w0 N0 g W.heap.size ⟨s,v,aa,ac,da,dc⟩ node ly [] (J (cntU t node k+k2)) G A G2 X)
   (fun c _ G2 X=>c=.ret∧SightI w0 N0 g W.heap.size ⟨s,v,aa,ac,da,dc⟩ node ly [] (fun Gs X=>∃k,k≤(zA t node).length∧Jx k Gs X) G A G2 X)
   (fun k G X G' Y h st=>h.step ha (fun _ _ _ _=>HJ.out _ _ _ _ _) st) (fun c k G X G' Y h st=>⟨h.1,h.2.step ha HJX.out st⟩) HI2.out
   (fun d=>{ tmps:=#[.func (.yield ly) #[] #[],.pointer (some ⟨g,0,none⟩),.pointer (some ⟨g+1,0,none⟩),.pointer (some ⟨W.heap.size,0,none⟩),intV kid,intV m,intV d,undef,undef,.pointer (some ⟨s,0,none⟩),intV node,.func (.func 266) #[] #[.pointer (some ⟨W.heap.size+1,0,none⟩),.pointer (some ⟨W.heap.size+1+1,0,none⟩)],intV kid,intV m,.pointer (some ⟨s,0,none⟩),intV kid,intV m,.func (.func 267) #[] #[.pointer (some ⟨A.heap.size,0,none⟩),.pointer (some ⟨A.heap.size+1+1,0,none⟩),.pointer (some ⟨A.heap.size+1,0,none⟩)],intV d,undef,undef,undef,undef,undef,undef,undef,undef,undef,undef,undef,undef,undef,undef,undef,undef,undef,undef,undef,undef,undef,undef,undef,undef,undef,undef],defers:=[] }) ?assign2 ?body2 ?done2 ?stop2
  case assign2=>
   intro l x W9 K hK
   gi_wp2
   exact hK
  case body2=>
   rintro l2 k2 d G2 X hx2 hGl2-hgdX hI2;obtain⟨⟨Gs2,j1,j2,j3,j4,j5,j6,j7⟩,i2,i3,i4⟩:=hI2;have hxd:(zA t node)[cntU t node k+k2]?=some d:=by rw[HXS.out];exact LX HX5.out hx2
   obtain⟨fn,tmps,assign,body,hy,hR⟩:=HY.out _ d Gs2 X hxd j2 j1;have HXD:=Hd (show cntU t node k+k2+1≤(zA t node).length from(List.getElem?_eq_some_iff.1 hxd).1);try dsimp only at hy
   have HR:=Hd hR;have hcy:=j5.cy;clear hR hxd hx2
   gi_wp2
   refine⟨rfl,RoundIn.mono HR.out ?_⟩;rintro e W3 (⟨rfl,hk5,hj5⟩|⟨rfl,hk5,hj5⟩)
   ·obtain⟨z1,z2⟩:=SightI.yielded ha (J':=J (cntU t node k+(k2+1))) j2 j3 j4 j5 j6 j7 i2 i4 hk5 hj5
    have Z1:=Hd z1;have Z2:=Hd z2;clear z1 z2
    gi_wp2
    exact⟨Z1.out,Z2.out⟩
   ·obtain⟨z1,z2⟩:=SightI.yielded ha (J':=fun Gs X=>∃k,k≤(zA t node).length∧Jx k Gs X) j2 j3 j4 j5 j6 j7 i2 i4 hk5 ⟨_,HXD.out,hj5⟩
    have Z1:=Hd z1;have Z2:=Hd z2;clear z1 z2
    gi_wp2
    exact⟨Z1.out,rfl,Z2.out⟩
  case done2=>
   rintro G2 B hgdB hI2;refine⟨hI2.keeps,?_⟩;have:=DU HX5.out;show SightI w0 N0 g W.heap.size ⟨s,v,aa,ac,da,dc⟩ node ly [] (J (cntU t node (k+1))) (fun _=>False) W G B
   rw[this];exact hI2.out HJ6.out HI4.out
  case stop2=>
   rintro c k2 G2 B hgdB hk2⟨rfl,hI2⟩;have HI9:=Hd hI2;clear hI2
   gi_wp2
   exact⟨HI9.out.keeps,rfl,HI9.out.out HJ6.out HI4.out⟩
 case done=>
  rintro D G B hD hDB hGD hgdB hI;have HI9:=Hd hI;have HDB:=Hd hDB;have HGD:=Hd hGD;obtain⟨⟨Gs,j1,j2,j3,-,j5,j6,-⟩,-,-,i4⟩:=id hI;clear hI;have hpB:=HP.out.kept j5.below;have cB1:=hpB.c1;have hcgB:B.cell? ⟨g,0,none⟩=some (.pointer (some ⟨s,0,none⟩)):=j5.c0;have HJ1:=Hd j1;have HJ2:=Hd j2;have HJ3:=Hd j3;have HJ5:=Hd j5;have HJ6:=Hd j6;have HI4:=Hd i4;clear j1 j2 j3 j5 j6 i4 hgdB hDB hGD hpB;obtain⟨na,nc,ia,ic⟩:=v;simp only at cB1
  go_wp2_with (go_at_call 205;refine(CE _ _ _ _).mono ?_;rintro e w' ⟨rfl,rfl⟩)
  obtain⟨Bb,hBb⟩:∃Bb,B.alloc (.cells #[.slice ia t.items.length ic] 23)=Bb:=⟨_,rfl⟩
  have hsb:Bb.heap.size=B.heap.size+1:=by rw[←hBb];simp
  have hbb:Below B.heap.size B Bb:=by rw[←hBb];exact(Below.refl _ B).alloc nlr _
  have cb0:Bb.cell? ⟨B.heap.size,0,none⟩=some (.slice ia t.items.length ic):=by rw[←hBb];simp
  rw[hBb];clear hBb;have hNB:=HJ2.out.size;have hDl:=zB HDB.out;obtain⟨q0,q1,q2⟩:=HJ5.out.lt;have hst:StepG Gs B (fun i=>Gs i∨B.heap.size≤i∧i<Bb.heap.size) Bb:=⟨Turns.of_below hbb (fun k hk hn=>by omega),fun i h=>.inl h,fun i h=>h.elim .inl (fun h=>.inr h.1),fun i h=>h.elim (fun h=>by have:=(HJ2.out.mem i h).2;omega) (fun h=>h.2)⟩
  have HDBb:=Hd ((hbb.block D hDl).trans HDB.out);have hcU:cntU t node (bH t node).length=((bH t node).flatMap (fun p=>aB t p.1 p.2)).length:=by unfold cntU;rw[List.take_length]
  have HCU:=Hd hcU
  have HI3:Hid (SightI w0 N0 g W.heap.size ⟨s,⟨na,nc,ia,ic⟩,aa,ac,da,dc⟩ node ly [D] (J (cntU t node (bH t node).length+(gI t node 0).length)) (fun _=>False) W (fun i=>i=B.heap.size) Bb):=Lib.hid
   ⟨⟨_,HJ.out _ _ _ _ _ (show J (cntU t node (bH t node).length+(gI t node 0).length) Gs B from HJ1.out) hst,HJ2.out.step hst,fun i h=>.inr (by subst h;exact⟨nlr,by omega⟩),fun _ h=>h.elim,
    (HJ5.out.turns ha (M:=fun _=>False) (Turns.of_below hbb (fun k hk hn=>by omega)) (fun _ h=>h.elim) (fun h=>h) (fun h=>h) (fun h=>h)).more (fun i h=>.inl h),⟨by omega,by omega,by omega⟩,fun d h=>by
     obtain rfl:=List.mem_singleton.1 h
     exact⟨HDBb.out,by omega,.inl (HJ3.out _ HGD.out)⟩⟩,fun _ h=>h.elim,fun _ h=>h.elim,HI4.out.trans (Turns.of_below hbb (fun k hk hn=>by omega))⟩
  have HGB:Hid (Gd N0 (fun i=>i=B.heap.size) Bb):=Hd ⟨fun i h=>hNB i (by omega),fun i h=>by subst h;exact⟨hNB _ nlr,by omega⟩⟩;have HBL:=Hd (mW t.items);have HBS:=Hd (DS t.items);have HWI:=Hd (HJ5.out.below.grow hbb);clear hst hcgB cB1 hcU;refine(wpIn_wide (n:=0)).1 ?_
  refine gT (gf:=268) (lb:=#[.pointer (some ⟨B.heap.size,0,none⟩)]) rfl (enters_of func268 (by kernel_rfl) rfl)
   (GS ia ic t.items w0 Bb N0 B.heap.size WFF.out.bd.i HP.out.tree.items ha HWI.out cb0) (Turns.refl _ _) HGB.out (fun _=>rfl)
   (fun k G X=>SightI w0 N0 g W.heap.size ⟨s,⟨na,nc,ia,ic⟩,aa,ac,da,dc⟩ node ly [D] (J (cntU t node (bH t node).length+(gI t node k).length)) (fun _=>False) W G X)
   (fun c _ G X=>c=.ret∧SightI w0 N0 g W.heap.size ⟨s,⟨na,nc,ia,ic⟩,aa,ac,da,dc⟩ node ly [D] (fun Gs X=>∃k,k≤(zA t node).length∧Jx k Gs X) (fun _=>False) W G X)
   (fun k G X G' Y h st=>h.step ha (fun _ _ _ _=>HJ.out _ _ _ _ _) st) (fun c k G X G' Y h st=>⟨h.1,h.2.step ha HJX.out st⟩) HI3.out
   (fun x=>{ tmps:=#[.func (.yield ly) #[] #[],.pointer (some ⟨g,0,none⟩),.pointer (some ⟨g+1,0,none⟩),.pointer (some ⟨W.heap.size,0,none⟩),undef,undef,undef,undef,intV x.2,.pointer (some ⟨s,0,none⟩),intV node,.func (.func 266) #[] #[.pointer (some ⟨W.heap.size+1,0,none⟩),.pointer (some ⟨W.heap.size+1+1,0,none⟩)],undef,undef,undef,undef,undef,undef,undef,undef,undef,undef,undef,.pointer (some ⟨s,0,none⟩),.pointer (some ⟨s,0,none⟩),.pointer (some ⟨s,0,none⟩),.pointer (some ⟨s,1,none⟩),.slice ia t.items.length ic,.func (.func 268) #[] #[.pointer (some ⟨B.heap.size,0,none⟩)],intV x.1,intV x.2,undef,undef,undef,undef,undef,undef,undef,undef,undef,undef,undef,undef,undef,undef],defers:=[] }) ?assign3 ?body3 ?done3 ?stop3
  case assign3=>
   intro l x W9 K hK
   gi_wp2
   exact hK
  case body3=>
   rintro l k⟨i,x⟩ G A hx hGl⟨r,hr⟩ hgdA hI
   have hxr:t.items.reverse[k]?=some x:=by
    rw[←HBS.out,List.getElem?_map,hx];rfl
   obtain⟨hx0,hx1⟩:=WFF.out.item x (List.mem_reverse.1 (List.mem_of_getElem? hxr));obtain⟨m,rfl⟩:=Int.eq_ofNat_of_zero_le hx0;have hm:m<t.nodes.length:=by omega
   obtain⟨⟨Gs3,j1,j2,j3,j4,j5,j6,j7⟩,i2,i3,i4⟩:=id hI;have hcgA:A.cell? ⟨g,0,none⟩=some (.pointer (some ⟨s,0,none⟩)):=j5.c0;have hcnA:=j5.c1;have hcyA:=j5.cy;have hpA:=HP.out.kept j5.below;have hdc:=fH ⟨s,⟨na,nc,ia,ic⟩,aa,ac,da,dc⟩ t ups decl m A WFF.out.bd hm (HU.out.within m hm) hpA;rw[lJ WFF.out HU.out hm]at hdc;have HXR:=Hd hxr;have hsucc:=BM (node:=(node:Int)) hxr;have HI:=Hd hI;clear hI hx hxr hr hgdA hx0 hx1 hpA;cases hlt:decide ((m:Int)<(node:Int))with
   | false=>
     have hltN:decide (m<node)=false:=by rw[decide_eq_false_iff_not]at hlt⊢;omega
     rw[hlt,Bool.false_and,if_neg Bool.false_ne_true,List.append_nil]at hsucc;have HS:=Hd hsucc;clear hsucc j1 j2 j3 j4 j5 j6 j7 i2 i3 i4 hdc
     gi_wp2
     repeat (first|(refine⟨trivial,?_⟩;gi_wp2)|(refine⟨fun _ _=>trivial,?_⟩;gi_wp2))
     refine⟨Turns.refl _ _,?_⟩;show SightI w0 N0 g W.heap.size ⟨s,⟨na,nc,ia,ic⟩,aa,ac,da,dc⟩ node ly [D] (J (cntU t node (bH t node).length+(gI t node (k+1)).length)) (fun _=>False) W G A
     rw[HS.out];exact HI.out
   | true=>
     have hltN:decide (m<node)=true:=by rw[decide_eq_true_iff]at hlt⊢;omega
     cases hdl:zh t m with
     | false=>
       rw[hlt,hdl,Bool.and_false,if_neg Bool.false_ne_true,List.append_nil]at hsucc;rw[hdl]at hdc;have HS:=Hd hsucc;have HDC:=Hd hdc;clear hsucc j1 j2 j3 j4 j5 j6 j7 i2 i3 i4 hdc hdl
       gi_wp2_with (refine⟨trivial,rfl,?_⟩;refine(CallsIn.inRound l (callsIn_wide.2 HDC.out)).mono ?_;rintro e w' ⟨rfl,rfl⟩)
       repeat (first|(refine⟨trivial,?_⟩;gi_wp2)|(refine⟨fun _ _=>trivial,?_⟩;gi_wp2))
       refine⟨Turns.refl _ _,?_⟩;show SightI w0 N0 g W.heap.size ⟨s,⟨na,nc,ia,ic⟩,aa,ac,da,dc⟩ node ly [D] (J (cntU t node (bH t node).length+(gI t node (k+1)).length)) (fun _=>False) W G A
       rw[HS.out];exact HI.out
     | true=>
       have hxd:(zA t node)[cntU t node (bH t node).length+(gI t node k).length]?=some (m:Int):=by
        rw[HXS.out,HCU.out,List.getElem?_append_right (by omega),Nat.add_sub_cancel_left];exact JE HXR.out (by rw[hlt,hdl];rfl)
       rw[hlt,hdl,Bool.and_true,if_pos rfl]at hsucc;rw[hdl]at hdc;have HS:=Hd (show(gI t node (k+1)).length=(gI t node k).length+1 by rw[hsucc,List.length_append];rfl);have HDC:=Hd hdc;obtain⟨fn,tmps,assign,body,hy,hR⟩:=HY.out _ (m:Int) Gs3 A hxd j2 j1;have HXD:=Hd (show cntU t node (bH t node).length+(gI t node k).length+1≤(zA t node).length from(List.getElem?_eq_some_iff.1 hxd).1);try dsimp only at hy
       have HR:=Hd hR;clear hR hxd hsucc hdc hdl HI
       gi_wp2_with (refine⟨trivial,rfl,?_⟩;refine(CallsIn.inRound l (callsIn_wide.2 HDC.out)).mono ?_;rintro e w' ⟨rfl,rfl⟩)
       refine⟨rfl,RoundIn.mono HR.out ?_⟩;rintro e W3 (⟨rfl,hk5,hj5⟩|⟨rfl,hk5,hj5⟩)
       ·obtain⟨z1,z2⟩:=SightI.yielded ha (J':=J (cntU t node (bH t node).length+(gI t node k).length+1)) j2 j3 j4 j5 j6 j7 i2 i4 hk5 hj5
        have Z1:=Hd z1;have Z2:=Hd z2;clear z1 z2 j1 j2 j3 j4 j5 j6 j7 i2 i3 i4
        gi_wp2
        refine⟨Z1.out,?_⟩;show SightI w0 N0 g W.heap.size ⟨s,⟨na,nc,ia,ic⟩,aa,ac,da,dc⟩ node ly [D] (J (cntU t node (bH t node).length+(gI t node (k+1)).length)) (fun _=>False) W G W3
        rw[HS.out];exact Z2.out
       ·obtain⟨z1,z2⟩:=SightI.yielded ha (J':=fun Gs X=>∃k,k≤(zA t node).length∧Jx k Gs X) j2 j3 j4 j5 j6 j7 i2 i4 hk5 ⟨_,HXD.out,hj5⟩
        have Z1:=Hd z1;have Z2:=Hd z2;clear z1 z2 j1 j2 j3 j4 j5 j6 j7 i2 i3 i4
        gi_wp2
        exact⟨Z1.out,rfl,Z2.out⟩
  case done3=>
   rintro D2 G2 B2 hD2 hDB2 hGD2 hgdB2 hI;obtain⟨⟨Gs2,j1,j2,j3,-,j5,j6,j7⟩,-,-,i4⟩:=id hI;clear hI;obtain⟨d1,d2,d3⟩:=j7 D (by simp);have hne:D2≠D:=fun e=>d2 (e▸hGD2);have s1:StepG Gs2 B2 Gs2 (B2.putObj D2 (.deferred none)):=StepG.same (Turns.putObj (j3 D2 hGD2) _) (fun i hi=>(j2.mem i hi).2);have s2:StepG Gs2 (B2.putObj D2 (.deferred none)) Gs2 ((B2.putObj D2 (.deferred none)).putObj D (.deferred none)):=StepG.same (Turns.putObj d3 _) (fun i hi=>by simpa using(j2.mem i hi).2)
   have hJe:J (zA t node).length Gs2 B2:=by
    have e:(zA t node).length=cntU t node (bH t node).length+(gI t node (qE t.items).length).length:=by
     rw[HXS.out,HBL.out,uH,HCU.out,List.length_append]
    rw[e];exact j1
   have HF:=Hd (show ∃G,Gd N0 G ((B2.putObj D2 (.deferred none)).putObj D (.deferred none))∧(J (zA t node).length G ((B2.putObj D2 (.deferred none)).putObj D (.deferred none))∨∃k,k≤(zA t node).length∧Jx k G ((B2.putObj D2 (.deferred none)).putObj D (.deferred none)))from
    ⟨Gs2,(j2.step s1).step s2,.inl (HJ.out _ _ _ _ _ (HJ.out _ _ _ _ _ hJe s1) s2)⟩)
   have HD2:=Hd hDB2;have HD1:=Hd ((World.putObj_heap_other (w:=B2) (r:=D2) (o:=.deferred none) (Ne.symm hne)).trans d1);clear j1 j2 j3 j5 j6 j7 s1 s2 hJe hDB2 d1 d2 d3 hne;go_wp2;refine⟨by simp,.inl ⟨_,_,rfl,run_takeDeferred HD2.out,?_⟩⟩;refine⟨by simp,.inl ⟨_,_,rfl,run_takeDeferred HD1.out,?_⟩⟩;exact⟨_,results_none rfl _ _ _,⟨_,rfl⟩,HF.out⟩
  case stop3=>
   rintro D2 c k G2 B2 hD2 hDB2 hGD2 hgdB2 hk⟨rfl,hI⟩;obtain⟨⟨Gs2,⟨k',hk',hjx⟩,j2,j3,-,j5,j6,j7⟩,-,-,i4⟩:=id hI;clear hI;obtain⟨d1,d2,d3⟩:=j7 D (by simp);have hne:D2≠D:=fun e=>d2 (e▸hGD2);have s1:StepG Gs2 B2 Gs2 (B2.putObj D2 (.deferred none)):=StepG.same (Turns.putObj (j3 D2 hGD2) _) (fun i hi=>(j2.mem i hi).2);have s2:StepG Gs2 (B2.putObj D2 (.deferred none)) Gs2 ((B2.putObj D2 (.deferred none)).putObj D (.deferred none)):=StepG.same (Turns.putObj d3 _) (fun i hi=>by simpa using(j2.mem i hi).2)
   have HF:=Hd (show ∃G,Gd N0 G ((B2.putObj D2 (.deferred none)).putObj D (.deferred none))∧(J (zA t node).length G ((B2.putObj D2 (.deferred none)).putObj D (.deferred none))∨∃k,k≤(zA t node).length∧Jx k G ((B2.putObj D2 (.deferred none)).putObj D (.deferred none)))from
    ⟨Gs2,(j2.step s1).step s2,.inr ⟨k',hk',HJx.out _ _ _ _ _ (HJx.out _ _ _ _ _ hjx s1) s2⟩⟩)
   have HD2:=Hd hDB2;have HD1:=Hd ((World.putObj_heap_other (w:=B2) (r:=D2) (o:=.deferred none) (Ne.symm hne)).trans d1);clear j2 j3 j5 j6 j7 s1 s2 hjx hDB2 d1 d2 d3 hne
   gi_wp2
   refine⟨by simp,.inl ⟨_,_,rfl,run_takeDeferred HD2.out,?_⟩⟩;refine⟨by simp,.inl ⟨_,_,rfl,run_takeDeferred HD1.out,?_⟩⟩;exact⟨_,results_none rfl _ _ _,⟨_,rfl⟩,HF.out⟩
 case stop=>
  rintro D c k G B hD hDB hGD hgdB hk⟨rfl,hI⟩;obtain⟨⟨Gs,⟨k',hk',hjx⟩,j2,j3,-⟩,-⟩:=hI;have stepD:StepG Gs B Gs (B.putObj D (.deferred none)):=StepG.same (Turns.putObj (j3 D hGD) _) (fun i hi=>(j2.mem i hi).2)
  have HF:=Hd (show ∃G,Gd N0 G (B.putObj D (.deferred none))∧(J (zA t node).length G (B.putObj D (.deferred none))∨∃k,k≤(zA t node).length∧Jx k G (B.putObj D (.deferred none)))from
   ⟨Gs,j2.step stepD,.inr ⟨k',hk',HJx.out _ _ _ _ _ hjx stepD⟩⟩)
  have HDB:=Hd hDB;clear hjx j2 j3 stepD hDB hGD hgdB
  gi_wp2
  refine⟨by simp,.inl ⟨_,_,rfl,run_takeDeferred HDB.out,?_⟩⟩;exact⟨_,results_none rfl _ _ _,⟨_,rfl⟩,HF.out⟩
end
section
open Go Go.RowKit
attribute [local go_sem] Oper.semAt_some
theorem iK{t:Tr}(wf:WF t){node:Nat}{x:Int}(h:x∈zA t node):0≤x∧x<t.nodes.length:=by
 unfold zA at h;rcases List.mem_append.1 h with h|h
 ·exact jJ wf (List.mem_append_left _ h)
 ·exact wf.item x (List.mem_filter.1 (List.mem_reverse.1 h)).1
structure MeantI (w:World) (p:ProgV) (D:Nd) (G:Nat→Prop) (X:World):Prop where
 below:Below w.heap.size w X
 c0:X.cell? ⟨w.heap.size,0,none⟩=some p.ptr
 cr:∃v:Int,X.cell? ⟨w.heap.size+1,0,none⟩=some (intV v)
 fr:X.frozen? ⟨w.heap.size+1,0,none⟩=false
 d0:X.cell? ⟨w.heap.size+1+1,0,none⟩=some (.int .u8 D.kind)
 d1:X.cell? ⟨w.heap.size+1+1,1,none⟩=some (strV D.text)
 g:¬G w.heap.size∧¬G (w.heap.size+1)∧¬G (w.heap.size+1+1)
 low:∀i,G i→w.heap.size≤i
theorem MeantI.lt{w X:World}{p:ProgV}{D:Nd}{G:Nat→Prop}(h:MeantI w p D G X):w.heap.size+1+1<X.heap.size:=World.block_lt_of_cell? X _ h.d0
theorem MeantI.step{w X Y:World}{p:ProgV}{D:Nd}{G G':Nat→Prop}(h:MeantI w p D G X)(s:StepG G X G' Y):MeantI w p D G' Y:=by
 have hl:=h.lt;obtain⟨h1,h2,⟨v,h3⟩,h4,h5,h6,⟨g0,g1,g2⟩,h8⟩:=h;have nw:∀i,i<X.heap.size→¬G i→¬G' i:=fun i hi hn hh=>(s.news i hh).elim hn (fun h=>by omega)
 exact⟨h1.trans (s.turns.below h8 (by omega)),(s.turns.cell (by omega) g0).trans h2,⟨v,(s.turns.cell (by omega) g1).trans h3⟩,(s.turns.frozen (by omega) g1).trans h4,(s.turns.cell hl g2).trans h5,(s.turns.cell hl g2).trans h6,⟨nw _ (by omega) g0,nw _ (by omega) g1,nw _ hl g2⟩,
  fun i hi=>(s.news i hi).elim (h8 i) (fun h=>by omega)⟩
theorem MeantI.grow{w X Y:World}{p:ProgV}{D:Nd}{G:Nat→Prop}(h:MeantI w p D G X)(hb:Below X.heap.size X Y)(hg:∀i,G i→i<X.heap.size):MeantI w p D G Y:=h.step (StepG.of_below hb hg)
theorem MeantI.set{w X:World}{p:ProgV}{D:Nd}{G:Nat→Prop}(h:MeantI w p D G X)(v:Int):MeantI w p D G (X.setCell ⟨w.heap.size+1,0,none⟩ (intV v))∧(X.setCell ⟨w.heap.size+1,0,none⟩ (intV v)).cell? ⟨w.heap.size+1,0,none⟩=some (intV v) ∧
 Keeps (w.heap.size ≤ ·) G X (X.setCell ⟨w.heap.size+1,0,none⟩ (intV v)):=by
 obtain⟨h1,h2,⟨v',h3⟩,h4,h5,h6,⟨g0,g1,g2⟩,h8⟩:=h;have hc:=World.cell?_setCell_same X ⟨w.heap.size+1,0,none⟩ (intV v) h3;refine⟨⟨h1.setCell (by simp) _,?_,⟨v,hc⟩,by rw[World.frozen?_setCell];exact h4,?_,?_,⟨g0,g1,g2⟩,h8⟩,hc,Turns.setCell (a:=⟨w.heap.size+1,0,none⟩) ⟨g1,by simp⟩ _⟩
 ·rw[World.cell?_setCell_other _ _ _ _ (by simp)];exact h2
 ·rw[World.cell?_setCell_other _ _ _ _ (by simp)];exact h5
 ·rw[World.cell?_setCell_other _ _ _ _ (by simp)];exact h6
theorem box5(w:World)(s:Nat)(D:Nd)(ka:Option Addr)(kc:Nat)(node:Int):∃Wa,dI (boxD ((w.alloc (.cells #[.pointer (some ⟨s,0,none⟩)] 117)).alloc (.cells #[.int .i64 0] 3)) ka kc D) (.pointer (some ⟨s,0,none⟩)) node=Wa ∧
 Wa.heap.size=w.heap.size+1+1+1+1+1∧Below w.heap.size w Wa∧(Wa.cell? ⟨w.heap.size,0,none⟩=some (.pointer (some ⟨s,0,none⟩))∧Wa.cell? ⟨w.heap.size+1,0,none⟩=some (intV 0)∧Wa.frozen? ⟨w.heap.size+1,0,none⟩=false) ∧
 (Wa.cell? ⟨w.heap.size+1+1,0,none⟩=some (.int .u8 D.kind)∧Wa.cell? ⟨w.heap.size+1+1,1,none⟩=some (strV D.text)) ∧
 Wa.cell? ⟨w.heap.size+1+1+1,0,none⟩=some (.pointer (some ⟨s,0,none⟩))∧Wa.cell? ⟨w.heap.size+1+1+1+1,0,none⟩=some (intV node):=by
 refine⟨_,rfl,by simp,(((((Below.refl _ w).alloc nlr _).alloc (by simp) _).alloc (by simp;omega) _).alloc (by simp;omega) _).alloc (by simp;omega) _,⟨?_,?_,?_⟩,⟨?_,?_⟩,?_,?_⟩;all_goals (unfold dI boxD;go_simp)
theorem AH(p:ProgV)(t:Tr)(ups decl:List Int)(node:Nat)(w:World)(wf:WF t)(hn:node<t.nodes.length)(hu:IsUps t ups)(hp:IsProg w p t ups decl) :
 Calls prog 185 #[p.ptr,intV node] w (dL w (aU t node)):=by
 obtain⟨b,o,ka,kc,ea,hb,n0,n1,n2,n3,n4,-⟩:=hp.tree.nodes.at hn;have hn3:=wf.bd.n;have hcp:=hp.c0;have hpl:=hp.lt;have hnd:=t.nd_at hn;obtain⟨D,hD⟩:∃D,t.nodes[node]=D:=⟨_,rfl⟩
 rw[hD]at n0 n1 n2 n3 n4 hnd;have HP:=Hd hp;have HU:=Hd hu;have WFF:=Hd wf;have HND:=Hd hnd;have hbx:=fun(s:Nat)=>box5 w s D ka kc node;have HBX:=Hd hbx;clear hp hu wf hD hnd hbx;obtain⟨s,⟨na,nc,ia,ic⟩,aa,ac,da,dc⟩:=p;simp only at ea hcp hpl;subst ea;have HSC:Hid (∀(w2:World),Calls prog 147 #[.pointer (some ⟨s,0,none⟩),intV node] w2 fun e w'=>e=.returned (.func (.func 202) #[] #[.pointer (some ⟨w2.heap.size,0,none⟩),.pointer (some ⟨w2.heap.size+1,0,none⟩)])∧dI w2 (.pointer (some ⟨s,0,none⟩)) node=w'):=Hd (fun w2=>oA s node w2);refine callsIn_wide.1 (?_:CallsIn Fence.wide 0 _ _ _ _ _);refine callsIn_of_wp_marks (n:=0) func185 rfl trivial ?_ rfl;simp only[ntmps185,List.size_toArray,List.length_cons,List.length_nil,Nat.reduceAdd,Nat.reduceSub,Array.replicate_succ,Array.replicate_zero,List.push_toArray,List.append_toArray,List.nil_append,List.cons_append];refine wpIn_wide.2 ?_
 go_wp2_with (go_at_call 147;refine(HSC.out _).mono ?_;rintro e w' ⟨rfl,rfl⟩)
 obtain⟨Wa,hWa,hsa,hba,⟨ca0,ca1,fa1⟩,⟨cd0,cd1⟩,cg0,cg1⟩:=HBX.out s;rw[hWa];clear hWa HBX HSC;have HM0:Hid (MeantI w ⟨s,⟨some ⟨b,o,none⟩,nc,ia,ic⟩,aa,ac,da,dc⟩ D (fun i=>i=w.heap.size+1+1+1∨i=w.heap.size+1+1+1+1) Wa):=Hd ⟨hba,ca0,⟨0,ca1⟩,fa1,cd0,cd1,⟨by omega,by omega,by omega⟩,fun i h=>by omega⟩;have HGD:Hid (Gd (w.heap.size ≤ ·) (fun i=>i=w.heap.size+1+1+1∨i=w.heap.size+1+1+1+1) Wa):=Hd ⟨fun i h=>by omega,fun i h=>by omega⟩;have HBA:=Hd hba;clear ca0 ca1 fa1 cd0 cd1 hba;refine(wpIn_wide (n:=0)).1 ?_
 refine gT (gf:=202) (lb:=#[.pointer (some ⟨w.heap.size+1+1+1,0,none⟩),.pointer (some ⟨w.heap.size+1+1+1+1,0,none⟩)]) rfl (enters_of func202 (by kernel_rfl) rfl)
  (qN ⟨s,⟨some ⟨b,o,none⟩,nc,ia,ic⟩,aa,ac,da,dc⟩ t ups decl node w Wa (w.heap.size ≤ ·) (w.heap.size+1+1+1) WFF.out hn HU.out HP.out (Apart.ge nlr) (Kept.of_below HBA.out nlr) cg0 cg1) (Turns.refl _ _) HGD.out (fun _=>rfl)
  (fun k G X=>MeantI w ⟨s,⟨some ⟨b,o,none⟩,nc,ia,ic⟩,aa,ac,da,dc⟩ D G X∧(zA t node).find? (fun d=>(t.nd d).text==D.text)=((zA t node).drop k).find? (fun d=>(t.nd d).text==D.text))
  (fun c _ G X=>MeantI w ⟨s,⟨some ⟨b,o,none⟩,nc,ia,ic⟩,aa,ac,da,dc⟩ D G X∧(c=.ret∧X.cell? ⟨w.heap.size+1,0,none⟩=some (intV (aU t node))∨c=.exit 0∧aU t node = -1))
  (fun k G X G' Y h st=>⟨h.1.step st,h.2⟩) (fun c k G X G' Y h st=>⟨h.1.step st,h.2.imp (fun e=>⟨e.1,(st.turns.cell (by have:=h.1.lt;omega) h.1.g.2.1).trans e.2⟩) id⟩) ⟨HM0.out,rfl⟩
  (fun d=>{ tmps:=#[.pointer (some ⟨s,0,none⟩),intV node,.pointer (some ⟨w.heap.size,0,none⟩),undef,.pointer (some ⟨w.heap.size+1,0,none⟩),.pointer (some ⟨w.heap.size+1+1,0,none⟩),intV d,undef,.pointer (some ⟨s,0,none⟩),.pointer (some ⟨s,0,none⟩),.pointer (some ⟨s,0,none⟩),.pointer (some ⟨s,0,none⟩),.slice (some ⟨b,o,none⟩) t.nodes.length nc,intV node,.pointer (some ⟨b,o+node*5,none⟩),.agg #[.int .u8 D.kind,strV D.text,intV D.n,.slice ka D.kids.length kc,intV D.pos],.pointer (some ⟨s,0,none⟩),intV node,.func (.func 202) #[] #[.pointer (some ⟨w.heap.size+1+1+1,0,none⟩),.pointer (some ⟨w.heap.size+1+1+1+1,0,none⟩)],intV d,undef,undef,undef,undef,undef,undef,undef,undef,undef,undef,undef,undef,undef,undef,undef,undef,undef,undef,undef],defers:=[] }) ?assign ?body ?done ?stop
 case assign=>
  intro l x W9 K hK
  gi_wp2
  exact hK
 case body=>
  rintro l k d G A hx hGl⟨r,hr⟩ hgdA⟨hM,hF⟩;obtain⟨hk,hxe⟩:=List.getElem?_eq_some_iff.1 hx;obtain⟨hd0,hd1⟩:=iK WFF.out (List.mem_of_getElem? hx);obtain⟨m,rfl⟩:=Int.eq_ofNat_of_zero_le hd0;have hm:m<t.nodes.length:=by omega
  have hpA:=HP.out.mono hM.below nlr;have hcpA:=hpA.c0;obtain⟨b',o',ka',kc',ea',hb',m0,m1,m2,m3,m4,-⟩:=hpA.tree.nodes.at hm;simp only[Option.some.injEq,Addr.mk.injEq,and_true]at ea';obtain⟨rfl,rfl⟩:=ea';have hndm:=t.nd_at hm;obtain⟨D2,hD2⟩:∃D2,t.nodes[m]=D2:=⟨_,rfl⟩
  rw[hD2]at m0 m1 m2 m3 m4 hndm;have hc0:A.cell? ⟨w.heap.size,0,none⟩=some (.pointer (some ⟨s,0,none⟩)):=hM.c0;obtain⟨rv,hcr⟩:=hM.cr;have hfr:=hM.fr;have hk0:=hM.d0;have hk1:=hM.d1;have hMl:=hM.lt;have hbw:=hM.below.size;have hsA:s<A.heap.size:=by omega
  have HMM:=Hd hM;have HGA:=Hd hgdA;have HXE:=Hd hxe;have HNM:=Hd hndm;have HFF:=Hd hF;have HSF:Hid (∀W,Calls prog 148 #[.int .u8 D.kind,.int .u8 D2.kind] W (zq W (suits D.kind D2.kind))):=Hd (fun W=>tC _ _ W);clear hM hgdA hx hd0 hr hpA hD2 hndm hxe hF
  cases he:D2.text==D.text with
  | false=>
    have HE:=Hd he
    gi_wp2
    have hb9:=(Below.refl A.heap.size A).alloc nlr (.cells #[.int .u8 D2.kind,strV D2.text,intV D2.n,.slice ka' D2.kids.length kc',intV D2.pos] 57)
    exact⟨Keeps.of_below hb9,HMM.out.grow hb9 (fun i hi=>(HGA.out.mem i hi).2),by
     rw[HFF.out,uB hk (by rw[HXE.out,HNM.out];exact HE.out)]⟩
  | true=>
    have hfd:(zA t node).find? (fun d=>(t.nd d).text==D.text)=some (m:Int):=by
     rw[HFF.out,yI hk (by rw[HXE.out,HNM.out];exact he),HXE.out]
    have hmu:aU t node=if suits D.kind D2.kind then (m:Int)else -1:=by
     unfold aU;rw[HND.out,hfd];simp only[HNM.out]
    have HMU:=Hd hmu;clear hfd hmu
    cases hs:suits D.kind D2.kind with
    | true=>
      have HS:=Hd hs;clear hs
      gi_wp2_with (refine⟨trivial,rfl,?_⟩;refine(CallsIn.inRound l (callsIn_wide.2 (HSF.out _))).mono ?_;rw[HS.out];rintro e w9 ⟨rfl,hb8⟩;have hb9:=((Below.refl A.heap.size A).alloc nlr _).trans (hb8.mono (by simp));have HM9:=Hd (HMM.out.grow hb9 (fun i hi=>(HGA.out.mem i hi).2));obtain⟨rv9,hcr9⟩:=HM9.out.cr;have hfr9:=HM9.out.fr;have HB9:=Hd hb9;clear hb8 hb9)
      obtain⟨z1,z2,z3⟩:=HM9.out.set (m:Int);exact⟨(Keeps.of_below HB9.out).trans z3,z1,.inl ⟨rfl,by rw[HMU.out,HS.out,if_pos rfl];exact z2⟩⟩
    | false=>
      have HS:=Hd hs;clear hs
      gi_wp2_with (refine⟨trivial,rfl,?_⟩;refine(CallsIn.inRound l (callsIn_wide.2 (HSF.out _))).mono ?_;rw[HS.out];rintro e w9 ⟨rfl,hb8⟩;have hb9:=((Below.refl A.heap.size A).alloc nlr _).trans (hb8.mono (by simp));have HM9:=Hd (HMM.out.grow hb9 (fun i hi=>(HGA.out.mem i hi).2));have HB9:=Hd hb9;clear hb8 hb9)
      exact⟨Keeps.of_below HB9.out,HM9.out,.inr ⟨rfl,by rw[HMU.out,HS.out];rfl⟩⟩
 case done=>
  rintro D9 G B hD hDB hGD hgdB⟨hM,hF⟩
  have hmu:aU t node = -1:=by
   unfold aU;rw[HND.out,hF,List.drop_length];rfl
  have HMU:=Hd hmu;have HMM:=Hd hM;have HDB:=Hd hDB;have hne:D9≠w.heap.size+1:=fun e=>hM.g.2.1 (e▸hGD);obtain⟨rv,hcr⟩:=hM.cr;have hfr:=hM.fr;have HLT:=Hd (zB hDB);obtain⟨z1,z2,z3⟩:=hM.set (-1);have hDW:w.heap.size≤D9:=by omega
  have hl9:=z1.lt;have hc9:((B.setCell ⟨w.heap.size+1,0,none⟩ (intV (-1))).putObj D9 (.deferred none)).cell? ⟨w.heap.size+1,0,none⟩=some (intV (-1)):=((Turns.putObj (M:=fun i=>i=D9) (X:=(B.setCell ⟨w.heap.size+1,0,none⟩ (intV (-1)))) rfl (.deferred none)).cell (by omega) (Ne.symm hne)).trans (z2);have hb9:Below w.heap.size w ((B.setCell ⟨w.heap.size+1,0,none⟩ (intV (-1))).putObj D9 (.deferred none)):=(z1.below).trans (Turns.below (Turns.putObj (M:=fun i=>i=D9) rfl _) (fun k h=>by omega) (z1.below.size));have HC9:=Hd hc9;have HB9:=Hd hb9;have HDS:=Hd ((Below.heap_setCell B ⟨w.heap.size+1,0,none⟩ (intV (-1)) D9 hne).trans hDB);clear hM hF hDB hmu z1 z2 z3 hc9 hb9;go_wp2;refine⟨by simp,.inl ⟨_,_,rfl,run_takeDeferred HDS.out,?_⟩⟩;refine⟨intV (-1),?_,by rw[HMU.out],HB9.out⟩;have hc9:=HC9.out;simp[results,results185,go_sem,loadVar,hc9,Result.andThen]
 case stop=>
  rintro D9 c k G B hD hDB hGD hgdB hk⟨hM,hc⟩;have hne:D9≠w.heap.size+1:=fun e=>hM.g.2.1 (e▸hGD);have hDW:w.heap.size≤D9:=by omega
  rcases hc with⟨rfl,hc⟩|⟨rfl,hmu⟩
  ·have hl9:=hM.lt
   have hc9:(B.putObj D9 (.deferred none)).cell? ⟨w.heap.size+1,0,none⟩=some (intV (aU t node)):=((Turns.putObj (M:=fun i=>i=D9) (X:=B) rfl (.deferred none)).cell (by omega) (Ne.symm hne)).trans (hc);have hb9:Below w.heap.size w (B.putObj D9 (.deferred none)):=(hM.below).trans (Turns.below (Turns.putObj (M:=fun i=>i=D9) rfl _) (fun k h=>by omega) (hM.below.size));have HC9:=Hd hc9;have HB9:=Hd hb9;have HDB:=Hd hDB;clear hM hc hDB hc9 hb9
   gi_wp2
   refine⟨by simp,.inl ⟨_,_,rfl,run_takeDeferred HDB.out,?_⟩⟩;refine⟨intV (aU t node),?_,rfl,HB9.out⟩;have hc9:=HC9.out;simp[results,results185,go_sem,loadVar,hc9,Result.andThen]
  ·have HMU:=Hd hmu
   obtain⟨z1,z2,z3⟩:=hM.set (-1);have hl9:=z1.lt;have hc9:((B.setCell ⟨w.heap.size+1,0,none⟩ (intV (-1))).putObj D9 (.deferred none)).cell? ⟨w.heap.size+1,0,none⟩=some (intV (-1)):=((Turns.putObj (M:=fun i=>i=D9) (X:=(B.setCell ⟨w.heap.size+1,0,none⟩ (intV (-1)))) rfl (.deferred none)).cell (by omega) (Ne.symm hne)).trans (z2);have hb9:Below w.heap.size w ((B.setCell ⟨w.heap.size+1,0,none⟩ (intV (-1))).putObj D9 (.deferred none)):=(z1.below).trans (Turns.below (Turns.putObj (M:=fun i=>i=D9) rfl _) (fun k h=>by omega) (z1.below.size));have HC9:=Hd hc9;have HB9:=Hd hb9;have HDS:=Hd ((Below.heap_setCell B ⟨w.heap.size+1,0,none⟩ (intV (-1)) D9 hne).trans hDB);obtain⟨rv,hcr⟩:=hM.cr;have hfr:=hM.fr;clear hM hDB hmu z1 z2 z3 hc9 hb9
   repeat (first|(refine(wpIn_wide (n:=0)).1 ?_;gi_wp2)|gi_step|go_step)
   refine⟨by simp,.inl ⟨_,_,rfl,run_takeDeferred HDS.out,?_⟩⟩;refine⟨intV (-1),?_,by rw[HMU.out],HB9.out⟩;have hc9:=HC9.out;simp[results,results185,go_sem,loadVar,hc9,Result.andThen]
end
section
open Go Go.RowKit
attribute [local go_sem] Oper.semAt_some
def ownL(t:Tr)(d:Int)(l:List (Int×Int)):Bool:=match l.find? (fun x=>x.2==d)with
 |some x=>(t.nd d).kids[(t.nd d).kids.length-1]?==some x.1
 |none=>false
theorem EV(t:Tr)(d:Int):∀(f:Nat) (kid up:Int),ownF t d f kid up=ownL t d (gP t f kid up)
 |0,kid,up=>rfl
 | f+1,kid,up=>by
   rw[ownF,gP];by_cases h:up<0
   ·rw[if_pos h,if_pos h];rfl
   ·rw[if_neg h,if_neg h]
    unfold ownL;by_cases e:up=d
    ·rw[if_pos e,List.find?_cons,show((kid,up).2==d)=true by simpa using e]
    ·rw[if_neg e,List.find?_cons,show((kid,up).2==d)=false by simpa using e]
     exact EV t d f _ _
theorem EH(t:Tr)(node d:Int):eW t node d=ownL t d (bH t node):=EV _ _ _ _ _
structure OwnW (w:World) (p:ProgV) (d:Int) (G:Nat→Prop) (X:World):Prop where
 below:Below w.heap.size w X
 c0:X.cell? ⟨w.heap.size,0,none⟩=some p.ptr
 c1:X.cell? ⟨w.heap.size+1,0,none⟩=some (intV d)
 cr:∃v:Bool,X.cell? ⟨w.heap.size+1+1,0,none⟩=some (.bool v)
 fr:X.frozen? ⟨w.heap.size+1+1,0,none⟩=false
 g:¬G w.heap.size∧¬G (w.heap.size+1)∧¬G (w.heap.size+1+1)
 low:∀i,G i→w.heap.size≤i
theorem OwnW.lt{w X:World}{p:ProgV}{d:Int}{G:Nat→Prop}(h:OwnW w p d G X):w.heap.size+1+1<X.heap.size:=by
 obtain⟨v,h3⟩:=h.cr;exact World.block_lt_of_cell? X _ h3
theorem OwnW.step{w X Y:World}{p:ProgV}{d:Int}{G G':Nat→Prop}(h:OwnW w p d G X)(s:StepG G X G' Y):OwnW w p d G' Y:=by
 have hl:=h.lt;obtain⟨h1,h2,h5,⟨v,h3⟩,h4,⟨g0,g1,g2⟩,h8⟩:=h;have nw:∀i,i<X.heap.size→¬G i→¬G' i:=fun i hi hn hh=>(s.news i hh).elim hn (fun h=>by omega)
 exact⟨h1.trans (s.turns.below h8 (by omega)),(s.turns.cell (by omega) g0).trans h2,(s.turns.cell (by omega) g1).trans h5,⟨v,(s.turns.cell (by omega) g2).trans h3⟩,(s.turns.frozen (by omega) g2).trans h4,⟨nw _ (by omega) g0,nw _ (by omega) g1,nw _ hl g2⟩,
  fun i hi=>(s.news i hi).elim (h8 i) (fun h=>by omega)⟩
theorem OwnW.set{w X:World}{p:ProgV}{d:Int}{G:Nat→Prop}(h:OwnW w p d G X)(v:Bool):OwnW w p d G (X.setCell ⟨w.heap.size+1+1,0,none⟩ (.bool v))∧(X.setCell ⟨w.heap.size+1+1,0,none⟩ (.bool v)).cell? ⟨w.heap.size+1+1,0,none⟩=some (.bool v) ∧
 Keeps (w.heap.size ≤ ·) G X (X.setCell ⟨w.heap.size+1+1,0,none⟩ (.bool v)):=by
 obtain⟨h1,h2,h5,⟨v',h3⟩,h4,⟨g0,g1,g2⟩,h8⟩:=h;have hc:=World.cell?_setCell_same X ⟨w.heap.size+1+1,0,none⟩ (.bool v) h3;refine⟨⟨h1.setCell (by simp;omega) _,?_,?_,⟨v,hc⟩,by rw[World.frozen?_setCell];exact h4,⟨g0,g1,g2⟩,h8⟩,hc,Turns.setCell (a:=⟨w.heap.size+1+1,0,none⟩) ⟨g2,by simp;omega⟩ _⟩
 ·rw[World.cell?_setCell_other _ _ _ _ (by simp)];exact h2
 ·rw[World.cell?_setCell_other _ _ _ _ (by simp)];exact h5
theorem box4(w:World)(s:Nat)(node d:Int):∃Wa,dI (((w.alloc (.cells #[.pointer (some ⟨s,0,none⟩)] 117)).alloc (.cells #[intV d] 3)).alloc (.cells #[.bool false] 4)) (.pointer (some ⟨s,0,none⟩)) node=Wa ∧
 Wa.heap.size=w.heap.size+1+1+1+1+1∧Below w.heap.size w Wa∧(Wa.cell? ⟨w.heap.size,0,none⟩=some (.pointer (some ⟨s,0,none⟩))∧Wa.cell? ⟨w.heap.size+1,0,none⟩=some (intV d)∧Wa.cell? ⟨w.heap.size+1+1,0,none⟩=some (.bool false)∧Wa.frozen? ⟨w.heap.size+1+1,0,none⟩=false) ∧
 Wa.cell? ⟨w.heap.size+1+1+1,0,none⟩=some (.pointer (some ⟨s,0,none⟩))∧Wa.cell? ⟨w.heap.size+1+1+1+1,0,none⟩=some (intV node)∧Wa.frozen? ⟨w.heap.size+1+1+1+1,0,none⟩=false:=by
 refine⟨_,rfl,by simp,(((((Below.refl _ w).alloc nlr _).alloc (by simp) _).alloc (by simp;omega) _).alloc (by simp;omega) _).alloc (by simp;omega) _,⟨?_,?_,?_,?_⟩,?_,?_,?_⟩;all_goals (unfold dI;go_simp)
theorem AG(p:ProgV)(t:Tr)(ups decl:List Int)(node d:Nat)(w:World)(wf:WF t)(hn:node<t.nodes.length)(hd:d<t.nodes.length)(h42:(t.nd d).kind=42)(hu:IsUps t ups)(hp:IsProg w p t ups decl) :
 Calls prog 186 #[p.ptr,intV node,intV d] w (zq w (eW t node d)):=by
 have hmo:prog.follows .mixedOrders=true:=by kernel_rfl
 have hn3:=wf.bd.n;have hpl:=hp.lt;have HP:=Hd hp;have HU:=Hd hu;have WFF:=Hd wf;have H42:=Hd h42;have HBX:=Hd (fun(s:Nat)=>box4 w s node d);have HE:=Hd (EH t node d);clear hp hu wf h42;obtain⟨s,v,aa,ac,da,dc⟩:=p;simp only at hpl;have HSC:Hid (∀(w2:World),Calls prog 203 #[.pointer (some ⟨s,0,none⟩),intV node] w2 fun e w'=>e=.returned (.func (.func 266) #[] #[.pointer (some ⟨w2.heap.size,0,none⟩),.pointer (some ⟨w2.heap.size+1,0,none⟩)])∧dI w2 (.pointer (some ⟨s,0,none⟩)) node=w'):=Hd (fun w2=>qI s node w2);refine callsIn_wide.1 (?_:CallsIn Fence.wide 0 _ _ _ _ _);refine callsIn_of_wp_marks (n:=0) func186 rfl trivial ?_ rfl;simp only[ntmps186,List.size_toArray,List.length_cons,List.length_nil,Nat.reduceAdd,Nat.reduceSub,Array.replicate_succ,Array.replicate_zero,List.push_toArray,List.append_toArray,List.nil_append,List.cons_append];refine wpIn_wide.2 ?_
 go_wp2_with (go_at_call 203;refine(HSC.out _).mono ?_;rintro e w' ⟨rfl,rfl⟩)
 obtain⟨Wa,hWa,hsa,hba,⟨ca0,ca1,ca2,fa2⟩,cg0,cg1,cgf⟩:=HBX.out s;rw[hWa];clear hWa HBX HSC;have HM0:Hid (OwnW w ⟨s,v,aa,ac,da,dc⟩ d (fun i=>i=w.heap.size+1+1+1∨i=w.heap.size+1+1+1+1) Wa):=Hd ⟨hba,ca0,ca1,⟨false,ca2⟩,fa2,⟨by omega,by omega,by omega⟩,fun i h=>by omega⟩;have HGD:Hid (Gd (w.heap.size ≤ ·) (fun i=>i=w.heap.size+1+1+1∨i=w.heap.size+1+1+1+1) Wa):=Hd ⟨fun i h=>by omega,fun i h=>by omega⟩;have HCW:Hid (ClimbW w (w.heap.size+1+1+1) ⟨s,v,aa,ac,da,dc⟩ node (fun i=>i=w.heap.size+1+1+1∨i=w.heap.size+1+1+1+1) Wa):=Hd ⟨Kept.of_below hba nlr,cg0,cg1,cgf,.inl rfl,.inr rfl⟩;clear ca0 ca1 ca2 fa2 cg0 cg1 cgf hba;refine(wpIn_wide (n:=0)).1 ?_
 refine gT (gf:=266) (lb:=#[.pointer (some ⟨w.heap.size+1+1+1,0,none⟩),.pointer (some ⟨w.heap.size+1+1+1+1,0,none⟩)]) rfl (enters_of func266 (by kernel_rfl) rfl)
  (tB ⟨s,v,aa,ac,da,dc⟩ t ups decl node w Wa (w.heap.size ≤ ·) (w.heap.size+1+1+1) WFF.out.bd hn HU.out HP.out (Apart.ge nlr) (fun i h=>by omega) HCW.out) (Turns.refl _ _) HGD.out (fun _=>rfl)
  (fun k G X=>OwnW w ⟨s,v,aa,ac,da,dc⟩ d G X∧eW t node d=ownL t d ((bH t node).drop k))
  (fun c _ G X=>OwnW w ⟨s,v,aa,ac,da,dc⟩ d G X∧c=.ret∧X.cell? ⟨w.heap.size+1+1,0,none⟩=some (.bool (eW t node d)))
  (fun k G X G' Y h st=>⟨h.1.step st,h.2⟩) (fun c k G X G' Y h st=>⟨h.1.step st,h.2.1,(st.turns.cell h.1.lt h.1.g.2.2).trans h.2.2⟩) ⟨HM0.out,HE.out⟩
  (fun x=>{ tmps:=#[.pointer (some ⟨s,0,none⟩),intV node,intV d,.pointer (some ⟨w.heap.size,0,none⟩),undef,.pointer (some ⟨w.heap.size+1,0,none⟩),.pointer (some ⟨w.heap.size+1+1,0,none⟩),intV x.1,intV x.2,.pointer (some ⟨s,0,none⟩),intV node,.func (.func 266) #[] #[.pointer (some ⟨w.heap.size+1+1+1,0,none⟩),.pointer (some ⟨w.heap.size+1+1+1+1,0,none⟩)],intV x.1,intV x.2,undef,undef,undef,undef,undef,undef,undef,undef,undef,undef,undef,undef,undef,undef,undef,undef,undef,undef,undef,undef,undef,undef,undef,undef,undef,undef,undef],defers:=[] }) ?assign ?body ?done ?stop
 case assign=>
  intro l x W9 K hK
  gi_wp2
  exact hK
 case body=>
  rintro l k⟨kid,up⟩ G A hx hGl⟨r,hr⟩ hgdA⟨hM,hF⟩;obtain⟨hk,hxe⟩:=List.getElem?_eq_some_iff.1 hx;have hpA:=HP.out.mono hM.below nlr;have hcpA:=hpA.c0;obtain⟨b,o,ka,kc,ea,hb,n0,n1,n2,n3,n4,hkr⟩:=hpA.tree.nodes.at hd;obtain⟨na,nc,ia,ic⟩:=v;simp only at ea hcpA;subst ea;have hfun:=WFF.out.funK d hd;have hnd:=t.nd_at hd;have hkl:=WFF.out.bd.k _ (List.getElem_mem hd);have h42:=H42.out;rw[hnd]at h42;obtain⟨D,hD⟩:∃D,t.nodes[d]=D:=⟨_,rfl⟩
  rw[hD]at n0 n1 n2 n3 n4 hkr hfun hnd hkl h42;have h2:=hfun h42;obtain⟨bk,ok,rfl,hbk,hck⟩:=Ints.at hkr (i:=D.kids.length-1) (by omega);obtain⟨last,hlast⟩:∃x,D.kids[D.kids.length-1]=x:=⟨_,rfl⟩
  rw[hlast]at hck;have HLAST:=Hd (show D.kids[D.kids.length-1]?=some last by rw[List.getElem?_eq_getElem (show D.kids.length-1<D.kids.length by omega),hlast]);obtain⟨m,hm⟩:∃m,D.kids.length-1=m:=⟨_,rfl⟩
  rw[hm]at hck;have hmlt:m<D.kids.length:=by omega
  have hwr:IntKind.i64.wrap ((D.kids.length:Int)-1)=(m:Int):=by rw[IntKind.wrap_i64];omega
  have hc0:A.cell? ⟨w.heap.size,0,none⟩=some (.pointer (some ⟨s,0,none⟩)):=hM.c0;have hc1:=hM.c1;obtain⟨rv,hcr⟩:=hM.cr;have hfr:=hM.fr;have hMl:=hM.lt;have hbw:=hM.below.size;have hsA:s<A.heap.size:=by omega
  have HMM:=Hd hM;have HGA:=Hd hgdA;have HXE:=Hd hxe;have HND:=Hd hnd;have HFF:=Hd hF;have hss:¬s=w.heap.size+1+1:=by omega
  have hdrop:=HFF.out;rw[List.drop_eq_getElem_cons hk,hxe]at hdrop;have HDR:=Hd hdrop;clear hM hgdA hx hr hpA hD hnd hxe hF hm hlast hkr hdrop;cases he:up==(d:Int)with
  | false=>
    have HEQ:=Hd he
    gi_wp2
    exact⟨Turns.refl _ _,HMM.out,by
     rw[HDR.out];unfold ownL;rw[List.find?_cons,show((kid,up).2==(d:Int))=false from HEQ.out]⟩
  | true=>
    obtain rfl:=eq_of_beq he
    have HRES:=Hd (show eW t node d=(last==kid) by
     rw[HDR.out];unfold ownL;rw[List.find?_cons,show((kid,(d:Int)).2==(d:Int))=true by simp];simp only;rw[HND.out,HLAST.out]
     rfl)
    clear he;have hw0:w.heap.size<A.heap.size:=by omega
    have hw1:w.heap.size+1<A.heap.size:=by omega
    gi_wp2
    refine N.regionIn_M 24 hmo (by kernel_rfl) (by kernel_rfl) (by kernel_rfl) rfl (by kernel_rfl) (by kernel_rfl) (fun _ _=>False) N.Pans.no (fun Wz=>Below (A).heap.size (A) Wz) (fun Wy Wz=>Below Wy.heap.size Wy Wz) (brf.drew) [.fix ?vG1_0,.fix ?vG1_1,.fix ?vG1_2,.fix ?vG1_3,.fix ?vG1_4,.fix ?vG1_5,.fix ?vG1_6,.fix ?vG1_7,.fix ?vG1_8,.fix ?vG1_9,.fix ?vG1_10,.fix ?vG1_11,.fix ?vG1_12,.fix ?vG1_13,.fix ?vG1_14,.fix ?vG1_15,.fix ?vG1_16,.fix ?vG1_17,.fix ?vG1_18,.fix ?vG1_19,.fix ?vG1_20,.fix ?vG1_21,.fix ?vG1_22,.fix ?vG1_23] [[],[],[],[],[],[],[],[],[],[],[],[],[],[],[],[],[],[],[],[],[],[],[],[]] rfl (by kernel_rfl) (N.sts_kd ⟨trivial,trivial,trivial,trivial,trivial,trivial,trivial,trivial,trivial,trivial,trivial,trivial,trivial,trivial,trivial,trivial,trivial,trivial,trivial,trivial,trivial,trivial,trivial,trivial,trivial⟩) fun x=>?_;rotate_left 24
    iterate 24 (refine N.WalkMIn.fix ?_ ?_;refine N.StepSIn.known (by intro _ h;cases h) rfl (fun _=>rfl) (fun _=>brf) ?_;intro W hJ hP;obtain⟨hcJ,hfJ⟩:=bcell hJ;go_simp;rfl;simp only[N.pz])
    refine N.WalkMIn.nil fun W hJ hH=>?_;have hM9:=HMM.out.step (StepG.of_below hJ (fun i hi=>(HGA.out.mem i hi).2));obtain⟨rv9,hcr9⟩:=hM9.cr;have hfr9:=hM9.fr;have HM9:=Hd hM9;have HB9:=Hd hJ;clear hM9 hJ hH;simp only[List.drop_succ_cons,List.drop_zero]
    gi_wp2
    obtain⟨z1,z2,z3⟩:=HM9.out.set (last==kid);exact⟨(Keeps.of_below HB9.out).trans z3,z1,rfl,by rw[HRES.out];exact z2⟩
 case done=>
  rintro D9 G B hD hDB hGD hgdB⟨hM,hF⟩
  have hmu:eW t node d=false:=by
   rw[hF,List.drop_length];rfl
  have HMU:=Hd hmu;have hne:D9≠w.heap.size+1+1:=fun e=>hM.g.2.2 (e▸hGD);obtain⟨rv,hcr⟩:=hM.cr;have hfr:=hM.fr;obtain⟨z1,z2,z3⟩:=hM.set false;have hDW:w.heap.size≤D9:=by omega
  have hl9:=z1.lt;have hc9:((B.setCell ⟨w.heap.size+1+1,0,none⟩ (.bool false)).putObj D9 (.deferred none)).cell? ⟨w.heap.size+1+1,0,none⟩=some (.bool (false)):=((Turns.putObj (M:=fun i=>i=D9) (X:=(B.setCell ⟨w.heap.size+1+1,0,none⟩ (.bool false))) rfl (.deferred none)).cell (by omega) (Ne.symm hne)).trans (z2);have hb9:Below w.heap.size w ((B.setCell ⟨w.heap.size+1+1,0,none⟩ (.bool false)).putObj D9 (.deferred none)):=(z1.below).trans (Turns.below (Turns.putObj (M:=fun i=>i=D9) rfl _) (fun k h=>by omega) (z1.below.size));have HC9:=Hd hc9;have HB9:=Hd hb9;have HDS:=Hd ((Below.heap_setCell B ⟨w.heap.size+1+1,0,none⟩ (.bool false) D9 hne).trans hDB);clear hM hF hDB hmu z1 z2 z3 hc9 hb9;go_wp2;refine⟨by simp,.inl ⟨_,_,rfl,run_takeDeferred HDS.out,?_⟩⟩;refine⟨.bool (false),?_,by rw[HMU.out],HB9.out⟩;have hc9:=HC9.out;simp[results,results186,go_sem,loadVar,hc9,Result.andThen]
 case stop=>
  rintro D9 c k G B hD hDB hGD hgdB hk⟨hM,rfl,hc⟩;have hne:D9≠w.heap.size+1+1:=fun e=>hM.g.2.2 (e▸hGD);have hDW:w.heap.size≤D9:=by omega
  have hl9:=hM.lt;have hc9:(B.putObj D9 (.deferred none)).cell? ⟨w.heap.size+1+1,0,none⟩=some (.bool (eW t node d)):=((Turns.putObj (M:=fun i=>i=D9) (X:=B) rfl (.deferred none)).cell (by omega) (Ne.symm hne)).trans (hc);have hb9:Below w.heap.size w (B.putObj D9 (.deferred none)):=(hM.below).trans (Turns.below (Turns.putObj (M:=fun i=>i=D9) rfl _) (fun k h=>by omega) (hM.below.size));have HC9:=Hd hc9;have HB9:=Hd hb9;have HDB:=Hd hDB;clear hM hc hDB hc9 hb9
  gi_wp2
  refine⟨by simp,.inl ⟨_,_,rfl,run_takeDeferred HDB.out,?_⟩⟩;refine⟨.bool (eW t node d),?_,rfl,HB9.out⟩;have hc9:=HC9.out;simp[results,results186,go_sem,loadVar,hc9,Result.andThen]
end
end Go.Proofs.YtokdgiphdnjeoaaGreatDoor
