/- Part of a proof. -/
import Derived.Test.YtcdkdiedphhdhaaGreatDoorK13
import Derived.Test.YtcdkdiedphhdhaaGreatDoorK23
import Derived.Shelf.RegionOpen
import Derived.TacticsInMore
import Derived.LoopNIn
import Derived.LoopIn
set_option maxRecDepth 100000
set_option maxHeartbeats 8000000
set_option linter.unusedVariables false
set_option linter.unusedSimpArgs false
open Go.Proofs.Tryz
namespace Go.Proofs.YtcdkdiedphhdhaaGreatDoor
section
open Go Go.RowKit
attribute [local go_sem] Oper.semAt_some
structure ClimbW (w0:World) (g:Nat) (p:ProgV) (kid:Int) (G:Nat->Prop) (W:World):Prop where
 below:Kept w0 W
 c0:W.cell? ⟨g,0,none⟩=some p.ptr
 c1:W.cell? ⟨g+1,0,none⟩=some (intV kid)
 f1:W.frozen? ⟨g+1,0,none⟩=false
 g0:G g
 g1:G (g+1)
theorem ClimbW.lt{w0 W:World}{g:Nat}{p:ProgV}{kid:Int}{G:Nat->Prop}(h:ClimbW w0 g p kid G W):g<W.heap.size/\g+1<W.heap.size:=⟨World.block_lt_of_cell? W _ h.c0,World.block_lt_of_cell? W _ h.c1⟩
theorem ClimbW.keeps{w0 W W':World}{N0:Nat->Prop}{g:Nat}{p:ProgV}{kid:Int}{G:Nat->Prop}(ha:Apart N0 w0)(h:ClimbW w0 g p kid G W)(hk:Keeps N0 G W W'):ClimbW w0 g p kid G W':=by
 obtain⟨l0,l1⟩:=h.lt;obtain⟨h1,h2,h3,h4,h5,h6⟩:=h;exact⟨h1.turns ha hk (fun _ h=>h.2),(hk.cell l0 (fun e=>e.1 h5)).trans h2,(hk.cell l1 (fun e=>e.1 h6)).trans h3,(hk.frozen l1 (fun e=>e.1 h6)).trans h4,h5,h6⟩
theorem ClimbW.set{w0 W:World}{N0:Nat->Prop}{g:Nat}{p:ProgV}{kid:Int}{G:Nat->Prop}(ha:Apart N0 w0)(h:ClimbW w0 g p kid G W)(hg:N0 (g+1))(m:Int):ClimbW w0 g p m G (W.setCell ⟨g+1,0,none⟩ (intV m)):=by
 obtain⟨h1,h2,h3,h4,h5,h6⟩:=h;refine⟨h1.turns ha (Turns.setCell (M:=N0) (a:=⟨g+1,0,none⟩) hg _) (fun _ h=>h),?_,World.cell?_setCell_same _ _ _ h3,by rw[World.frozen?_setCell];exact h4,h5,h6⟩;rw[World.cell?_setCell_other _ _ _ _ (by simp)];exact h2
theorem ClimbW.grow{w0 W W':World}{g:Nat}{p:ProgV}{kid:Int}{G:Nat->Prop}(h:ClimbW w0 g p kid G W)(hk:Below W.heap.size W W'):ClimbW w0 g p kid G W':=by
 obtain⟨l0,l1⟩:=h.lt;obtain⟨h1,h2,h3,h4,h5,h6⟩:=h;exact⟨⟨Nat.le_trans h1.size hk.size,fun b i v hv=>(hk.cell (p:=⟨b,i,none⟩) (World.block_lt_of_cell? W _ (h1.cell b i v hv))).trans (h1.cell b i v hv)⟩,(hk.cell (p:=⟨g,0,none⟩) l0).trans h2,(hk.cell (p:=⟨g+1,0,none⟩) l1).trans h3,(hk.frozen (p:=⟨g+1,0,none⟩) l1).trans h4,h5,h6⟩
theorem IsProg.kept{w w':World}{p:ProgV}{t:Tr}{ups decl:List Int}(h:IsProg w p t ups decl)(hb:Kept w w'):IsProg w' p t ups decl:=
 ⟨hb.cell _ _ _ h.c0,hb.cell _ _ _ h.c1,hb.cell _ _ _ h.c2,hb.cell _ _ _ h.c3,hb.tree h.tree,hb.row h.ups,hb.row h.decl⟩
theorem PJ{α:Type}{l r:List α}{k:Nat}{x:α}(h:l.drop k=x::r):l[k]?=some x/\l.drop (k+1)=r/\k<l.length:=by
 have hk:k<l.length:=by
  apply Classical.byContradiction;intro hn;rw[List.drop_of_length_le (by omega)]at h;cases h
 rw[List.drop_eq_getElem_cons hk]at h;injection h with h1 h2;exact⟨by rw[List.getElem?_eq_getElem hk,h1],h2,hk⟩
theorem uL(p:ProgV)(t:Tr)(ups decl:List Int)(node:Nat)(w0 W0:World)(N0:Nat->Prop)(g:Nat)(bd:Bd t)(hn:node<t.nodes.length)(hu:IsUps t ups)(hp:IsProg w0 p t ups decl)(ha:Apart N0 w0)(hg:∀i,g<=i->N0 i)
 (h0:ClimbW w0 g p node (fun i=>i=g\/i=g+1) W0) :
 SeqG prog 164 #[.pointer (some ⟨g,0,none⟩),.pointer (some ⟨g+1,0,none⟩)] (fun x:Int×Int=>#[intV x.1,intV x.2]) (bB t node) N0 (fun i=>i=g\/i=g+1) W0:=by
 intro l J Jx W hK hw hJ hA hY ht;have hC:=h0.keeps ha hK;have HC:=Hd hC;have hb:=hw;have HG:=Hd hb;have HJ:=Hd hJ;have HY:=Hd hY;have HP:=Hd hp;have HU:=Hd hu;have Hh:=Hd ht;have h1:=bd.n;have hl:=hp.kept hC.below;have c2:=hl.c2;obtain⟨bu,ou,eu,hV,cu⟩:=hl.upAt hn;have hF:=hC.c0;have hH:=hC.c1;rw[hu node hn]at cu;have h2:=hC.lt;clear hC hb hJ hA hY hp hu ht hK hw h0 hl;obtain⟨s,v,aa,ac,da,dc⟩:=p;simp only at c2 eu;subst eu;have hx:=zH t (n:=(node:Int)) (by omega);obtain⟨q,hq⟩:∃q,parent t node=q:=⟨_,rfl⟩
 rw[hq]at cu hx;have HQ:=Hd hq;clear hq;refine callsIn_of_wp func164 rfl trivial ?_ rfl;simp only[ntmps164,List.size_toArray,List.length_cons,List.length_nil,Nat.reduceAdd,Nat.reduceSub,Array.replicate_succ,Array.replicate_zero,List.push_toArray,List.append_toArray,List.nil_append,List.cons_append];refine wpIn_wide.2 ?_;go_wp2
 go_quiet (fail)
 go_wp2
 go_loopw [4] (fun t4 wr=>∃(k:Nat) (kid u:Int) (G:Nat->Prop),t4=.int .i64 u/\k<=(bB t node).length/\u<(t.nodes.length:Int) /\ -1<=u/\0<=kid/\Hid ((bB t node).drop k=kT t kid u)/\Hid (ClimbW w0 g ⟨s,v,some ⟨bu,ou,none⟩,ac,da,dc⟩ kid G wr)/\Hid (Gd N0 G wr)/\Hid (J k G wr)) (fun t4 _=>mUp t.nodes.length t4)
 case atStart=>
  have hj:=below_drewN (Below.refl W.heap.size W) nq
  exact⟨0,node,q,fun i=>i=g\/i=g+1,rfl,Nat.zero_le _,hx,by have:=cY t node;have:=HQ.o;omega,by omega,Hd (by rw[<-HQ.o];rfl),Hd (HC.o.grow hj),Hd (HG.o.keeps hj.size),
   Hd (HJ.o _ _ _ _ _ Hh.o (StepG.of_below hj fun i hi=>(HG.o.mem i hi).2))⟩
 case round=>
  obtain⟨k,kid,u,G,rfl,hX,hO,h4,hM,HD,Hb,Hc,Hf⟩:=hrel;have hF:=Hb.o.c0;have hH:=Hb.o.c1;have hW:=Hb.o.f1;by_cases hneg:u = -1
  .subst hneg
   have hE:(bB t node).length<=k:=by
    have:=HD.o;rw[EA _ _ (by omega)]at this;simpa using this
   have HE:=Hd (show(bB t node).length=k by omega);clear hE;go_wp2
   go_end0
   exact⟨⟨_,rfl⟩,G,Hc.o,.inl (HE.o▸Hf.o)⟩
  .have hf:0<=u:=by omega
   have hD:=HD.o;rw[EB _ _ hf hO]at hD;obtain⟨ho,hs,hQ⟩:=PJ hD;obtain⟨fn,tmps,assign,body,hy,hR⟩:=HY.o k (kid,u) G wr ho Hc.o Hf.o;dsimp only at hy;have HR:=Hd hR;have Hg:=Hd hs;have hP:(u == -1)=false:=by simpa using hneg
   clear hR hD ho hs;refine(wpIn_wide (n:=0)).1 ?_
   gi_wp2
   refine⟨rfl,HR.o.mono ?_⟩;rintro e W3 (⟨rfl,hc,hh⟩|⟨rfl,hc,hh⟩)
   .
    obtain⟨m,rfl⟩:=Int.eq_ofNat_of_zero_le hf;have hm:m<t.nodes.length:=by omega
    have Ha:=Hd (Hb.o.keeps ha hc);have He:=Hd (Hc.o.keeps hc.size);have Hi:=Hd hh;have hk:=HP.o.kept Ha.o.below;obtain⟨bu',ou',eu',hB,cu'⟩:=hk.upAt hm;simp only[Option.some.injEq,Addr.mk.injEq,and_true]at eu';obtain⟨rfl,rfl⟩:=eu';rw[HU.o m hm]at cu';have hN:=hk.c2;have hG:=Ha.o.c0;have hI:=Ha.o.c1;have hL:=Ha.o.f1;have hd:=zH t (n:=(m:Int)) (by omega);have he:=cY t m;have hz:=eU t (n:=(m:Int)) (by omega);obtain⟨r,hr⟩:∃r,parent t m=r:=⟨_,rfl⟩
    rw[hr]at cu' hd he hz;have Hj:=Hd hr;simp only at hN;have hZ:=Ha.o.lt;obtain⟨b4,o4,e4,hS,hv⟩:=HP.o.upAt hm;simp only[Option.some.injEq,Addr.mk.injEq,and_true]at e4;obtain⟨rfl,rfl⟩:=e4;have hU:¬bu=g+1:=fun e=>ha _ _ _ hv (hg _ (by omega));have h3:¬s=g+1:=fun e=>ha _ _ _ HP.o.c0 (hg _ (by simp only;omega));clear hv;clear hh hk hc hr
    gi_wp2
    refine wpIn_wide.2 ?_;go_region;have hT:Turns G W3 (W3.setCell ⟨g+1,0,none⟩ (.int .i64 m)).drew:=(Turns.setCell (a:=⟨g+1,0,none⟩) Ha.o.g1 _).trans (Turns.drew _ _);have HT:=Hd hT;clear hT
    go_roundw
    case rel=>
     exact⟨_,_,_,_,_,_,_,_,_,_,_,_,_,_,_,_,⟨k+1,m,r,G,rfl,by omega,hd,he,by omega,Hd (by rw[Hg.o,Hj.o]),Hd ((Ha.o.set ha (hg _ (by omega)) m).grow brf.drew),Hd (He.o.keeps HT.o.size),Hd (HJ.o _ _ _ _ _ Hi.o (StepG.same HT.o fun i hi=>(He.o.mem i hi).2))⟩,rfl⟩
    case measure=>exact RH (by omega) (by omega) hz
   .gi_wp2
    refine bodyPost_ret (results_none rfl _ _ _) rfl ?_;exact⟨⟨_,rfl⟩,G,Hc.o.keeps hc.size,.inr ⟨k+1,by omega,hh⟩⟩
end
section
open Go Go.RowKit
attribute [local go_sem] Oper.semAt_some
structure WithinW (w0:World) (g:Nat) (p:ProgV) (kid up:Int) (G:Nat->Prop) (W:World):Prop where
 below:Kept w0 W
 c0:W.cell? ⟨g,0,none⟩=some p.ptr
 c1:W.cell? ⟨g+1,0,none⟩=some (intV kid)
 c2:W.cell? ⟨g+1+1,0,none⟩=some (intV up)
 g0:G g
 g1:G (g+1)
 g2:G (g+1+1)
theorem WithinW.lt{w0 W:World}{g:Nat}{p:ProgV}{kid up:Int}{G:Nat->Prop}(h:WithinW w0 g p kid up G W):g<W.heap.size/\g+1<W.heap.size/\g+1+1<W.heap.size:=
 ⟨World.block_lt_of_cell? W _ h.c0,World.block_lt_of_cell? W _ h.c1,World.block_lt_of_cell? W _ h.c2⟩
theorem WithinW.keeps{w0 W W':World}{N0:Nat->Prop}{g:Nat}{p:ProgV}{kid up:Int}{G:Nat->Prop}(ha:Apart N0 w0)(h:WithinW w0 g p kid up G W)(hk:Keeps N0 G W W'):WithinW w0 g p kid up G W':=by
 obtain⟨l0,l1,l2⟩:=h.lt;obtain⟨h1,h2,h3,h4,h5,h6,h7⟩:=h;exact⟨h1.turns ha hk (fun _ h=>h.2),(hk.cell l0 (fun e=>e.1 h5)).trans h2,(hk.cell l1 (fun e=>e.1 h6)).trans h3,(hk.cell l2 (fun e=>e.1 h7)).trans h4,h5,h6,h7⟩
theorem Kept.grow{w W W':World}(h1:Kept w W)(hk:Below W.heap.size W W'):Kept w W':=⟨Nat.le_trans h1.size hk.size,fun b i v hv=>(hk.cell (p:=⟨b,i,none⟩) (World.block_lt_of_cell? W _ (h1.cell b i v hv))).trans (h1.cell b i v hv)⟩
theorem WithinW.grow{w0 W W':World}{g:Nat}{p:ProgV}{kid up:Int}{G:Nat->Prop}(h:WithinW w0 g p kid up G W)(hk:Below W.heap.size W W'):WithinW w0 g p kid up G W':=by
 obtain⟨l0,l1,l2⟩:=h.lt;obtain⟨h1,h2,h3,h4,h5,h6,h7⟩:=h;exact⟨h1.grow hk,(hk.cell (p:=⟨g,0,none⟩) l0).trans h2,(hk.cell (p:=⟨g+1,0,none⟩) l1).trans h3,(hk.cell (p:=⟨g+1+1,0,none⟩) l2).trans h4,h5,h6,h7⟩
theorem DN(p:ProgV)(t:Tr)(ups decl:List Int)(kid:Int)(up:Nat)(w0 W0:World)(N0:Nat->Prop)(g:Nat)(bd:Bd t)(wf:WF t)(hn:up<t.nodes.length)(hp:IsProg w0 p t ups decl)(ha:Apart N0 w0)
 (h0:WithinW w0 g p kid up (fun i=>i=g\/i=g+1\/i=g+1+1) W0) :
 SeqG prog 194 #[.pointer (some ⟨g,0,none⟩),.pointer (some ⟨g+1+1,0,none⟩),.pointer (some ⟨g+1,0,none⟩)] (fun d:Int=>#[intV d]) (zY t kid up) N0 (fun i=>i=g\/i=g+1\/i=g+1+1) W0:=by
 intro l J Jx W hK hw hJ hN hY ht;have hC:=h0.keeps ha hK;obtain⟨G,hg⟩:∃G:Nat->Prop,(fun i=>i=g\/i=g+1\/i=g+1+1)=G:=⟨_,rfl⟩
 rw[hg]at hC ht hw;have HC:=Hd hC;have HG:=Hd hw;have HJ:=Hd hJ;have HY:=Hd hY;have HP:=Hd hp;have Hm:=Hd ht;have h6:=bd.n;have ho:=wf.funK up hn;have hr:=hp.kept hC.below;have c0:=hr.c0;obtain⟨b,o,ka,kc,ea,hb,n0,n1,n2,n3,n4,hz⟩:=hr.tree.nodes.at hn;have hV:=bd.k _ (List.getElem_mem hn);have hG:=hr.lt;have hF:=t.nd_at hn;have hP:=hC.c0;have hQ:=hC.c1;have hS:=hC.c2;have h7:=hC.lt
 have Hp:Hid (∃W1,Row 1 w0 ka t.nodes[up].kids.length kc (zq t.nodes[up].kids)/\W1=W):=Hd (by
  obtain⟨b',o',ka',kc',ea',h3,m0,m1,m2,m3,m4,hA⟩:=hp.tree.nodes.at hn;rw[ea]at ea';simp only[Option.some.injEq,Addr.mk.injEq,and_true]at ea';obtain⟨rfl,rfl⟩:=ea';have e3:=hC.below.cell _ _ _ m3;rw[n3]at e3;simp only[Option.some.injEq,Value.slice.injEq,true_and]at e3;obtain⟨rfl,rfl⟩:=e3
  exact⟨W,hA,rfl⟩)
 obtain⟨D,hD⟩:∃D,t.nodes[up]=D:=⟨_,rfl⟩
 rw[hD]at n0 n1 n2 n3 n4 hz hV hF ho Hp
 have hH:zY t kid up=if D.kids[D.kids.length-1]?==some kid then (if D.kind==20 then [(up:Int)]else if D.kind==42 then D.kids.take (D.kids.length-2)++[(up:Int)]else [])else []:=by
  unfold zY;rw[hF]
 have Hg:=Hd hH;clear hC hw hJ hN hY hp ht hK h0 hr hD hF hH hg;obtain⟨s,v,aa,ac,da,dc⟩:=p;obtain⟨na,nc,ia,ic⟩:=v;simp only at c0 ea hG;subst ea;have h8:s<W.heap.size:=by omega
 have hl:∀W1,Below W.heap.size W W1->zY t kid up=[]->∃G,Gd N0 G W1/\(J (zY t kid up).length G W1\/∃k,k<=(zY t kid up).length/\Jx k G W1):=fun W1 hb1 e=>by
  rw[e];exact⟨G,HG.o.keeps hb1.size,.inl (HJ.o _ _ _ _ _ Hm.o (StepG.of_below hb1 fun i hi=>(HG.o.mem i hi).2))⟩
 have Hb:=Hd hl;clear hl;by_cases hk0:D.kids.length=0
 .have hM:((D.kids.length:Int)==0)=true:=by rw[hk0];rfl
  have He:=Hd (show zY t kid up=[] by rw[Hg.o,List.eq_nil_of_length_eq_zero hk0];rfl);clear hk0;refine callsIn_of_wp func194 rfl trivial ?_ rfl;simp only[ntmps194,List.size_toArray,List.length_cons,List.length_nil,Nat.reduceAdd,Nat.reduceSub,Array.replicate_succ,Array.replicate_zero,List.push_toArray,List.append_toArray,List.nil_append,List.cons_append];refine wpIn_wide.2 ?_;go_wp2;go_region;go_wp2
  go_quiet (fail)
  go_wp2;refine bodyPost_ret (results_none rfl _ _ _) rfl ?_;exact⟨⟨_,rfl⟩,Hb.o _ (below_drewN ((Below.refl _ W).alloc nlr _).drew _) He.o⟩
 .obtain⟨bk,ok,rfl,h4,hu⟩:=Ints.at hz (i:=D.kids.length-1) (by omega)
  obtain⟨last,he⟩:∃x,D.kids[D.kids.length-1]=x:=⟨_,rfl⟩
  rw[he]at hu;have Ha:=Hd (show D.kids[D.kids.length-1]?=some last by rw[List.getElem?_eq_getElem (show D.kids.length-1<D.kids.length by omega),he]);obtain⟨m,hm⟩:∃m,D.kids.length-1=m:=⟨_,rfl⟩
  rw[hm]at hu;have hZ:m<D.kids.length:=by omega
  have h9:IntKind.i64.wrap ((D.kids.length:Int)-1)=(m:Int):=by rw[IntKind.wrap_i64];omega
  have hM:((D.kids.length:Int)==0)=false:=beq_false_of_ne (by omega);clear he hk0 hm;cases hlk:(last==kid)with
  | false=>
    have He:=Hd (show zY t kid up=[] by
     rw[Hg.o,Ha.o,if_neg];intro e;rw[beq_iff_eq,Option.some.injEq]at e;rw[e]at hlk
     simp at hlk)
    refine callsIn_of_wp func194 rfl trivial ?_ rfl;simp only[ntmps194,List.size_toArray,List.length_cons,List.length_nil,Nat.reduceAdd,Nat.reduceSub,Array.replicate_succ,Array.replicate_zero,List.push_toArray,List.append_toArray,List.nil_append,List.cons_append];refine wpIn_wide.2 ?_;go_wp2;go_region;go_wp2
    go_quiet (fail)
    go_wp2;refine bodyPost_ret (results_none rfl _ _ _) rfl ?_;exact⟨⟨_,rfl⟩,Hb.o _ (below_drewN ((Below.refl _ W).alloc nlr _).drew _) He.o⟩
  | true=>
    obtain rfl:=eq_of_beq hlk;have Hi:=Hd (show zY t last up=(if D.kind==20 then [(up:Int)]else if D.kind==42 then D.kids.take (D.kids.length-2)++[(up:Int)]else []) by rw[Hg.o,Ha.o];simp);clear hlk Hg Ha;refine callsIn_of_wp func194 rfl trivial ?_ rfl;simp only[ntmps194,List.size_toArray,List.length_cons,List.length_nil,Nat.reduceAdd,Nat.reduceSub,Array.replicate_succ,Array.replicate_zero,List.push_toArray,List.append_toArray,List.nil_append,List.cons_append];refine wpIn_wide.2 ?_;go_wp2;go_region;go_wp2
    go_quiet (fail)
    generalize hWW:World.drewN _ _=W1;have hf:Below W.heap.size W W1:=by rw[<-hWW];exact below_drewN ((Below.refl _ W).alloc nlr _).drew _
    have hI:W1.cell? ⟨W.heap.size,0,none⟩=some (.int .u8 D.kind):=by rw[<-hWW];simp
    have h5:W1.cell? ⟨W.heap.size,3,none⟩=some (.slice (some ⟨bk,ok,none⟩) D.kids.length kc):=by rw[<-hWW];simp
    have Hl:=Hd (HC.o.grow hf);have Hf:=Hd (HG.o.keeps hf.size);have Hn:=Hd (HJ.o _ _ _ _ _ Hm.o (StepG.of_below hf fun i hi=>(HG.o.mem i hi).2));have hT:=Hl.o.c2;clear hWW hP hQ hS c0 n0 n1 n2 n3 n4 hu
    go_step
    by_cases h20:D.kind=20
    .have HX:=Hd (show zY t last up=[(up:Int)] by rw[Hi.o,if_pos (by rw[h20];rfl)])
     rw[h20]at hI;obtain⟨fn,tmps,assign,body,hy,hR⟩:=HY.o 0 up G W1 (by rw[HX.o];rfl) (Hf.o) (Hn.o);try dsimp only at hy
     have HR:=Hd hR;clear hR
     repeat (first|(refine(wpIn_wide (n:=0)).1 ?_;gi_wp2)|gi_step|go_step)
     refine⟨rfl,HR.o.mono ?_⟩;rintro e W3 (⟨rfl,hc,hd⟩|⟨rfl,hc,hd⟩)
     .try dsimp only
      repeat (first|(refine(wpIn_wide (n:=0)).1 ?_;gi_wp2)|gi_step|go_step)
      go_end0
      exact⟨⟨_,rfl⟩,G,Hf.o.keeps hc.size,.inl (by rw[HX.o];exact hd)⟩
     .try dsimp only
      repeat (first|(refine(wpIn_wide (n:=0)).1 ?_;gi_wp2)|gi_step|go_step)
      go_end0
      exact⟨⟨_,rfl⟩,G,Hf.o.keeps hc.size,.inr ⟨1,by rw[HX.o];exact nlr,hd⟩⟩
    .have hh:(D.kind==20)=false:=beq_false_of_ne h20
     by_cases h42:D.kind=42
     .have h2:=ho h42
      have hX:zY t last up=D.kids.take (D.kids.length-2)++[(up:Int)]:=by rw[Hi.o,hh,if_neg Bool.false_ne_true,if_pos (by rw[h42];rfl)]
      obtain⟨m2,hB⟩:∃m2,D.kids.length-2=m2:=⟨_,rfl⟩
      rw[hB]at hX;have h1:IntKind.i64.wrap ((D.kids.length:Int)-2)=(m2:Int):=by rw[IntKind.wrap_i64];omega
      have hE:m2<=D.kids.length:=by omega
      have hW:m2<=kc:=by have:=hz.2.1;omega
      have hL:(zY t last up).length=m2+1:=by rw[hX,List.length_append,List.length_take];simp;omega
      have HX:=Hd hX;have Hk:=Hd hL;have Hq:=Hd hB;rw[h42]at hI;clear hX hh h20 hB hL h2;go_wp2
      go_loopw [49] (fun t49 wr=>∃k:Nat,t49=.int .i64 k/\k<=m2/\Hid (WithinW w0 g ⟨s,⟨some ⟨b,o,none⟩,nc,ia,ic⟩,aa,ac,da,dc⟩ last up G wr)/\Hid (Gd N0 G wr)/\Hid (J k G wr)) (fun t49 _=>m2-(intOf t49).toNat)
      case atStart=>exact⟨0,rfl,Nat.zero_le _,Hl,Hf,Hn⟩
      case round=>
       obtain⟨k,rfl,hk,Hh,Hc,Ho⟩:=hrel;by_cases hlt:k<m2
       .obtain⟨W9,hq,-⟩:=Hp.o
        obtain⟨bk',ok',ek',hO,hj⟩:=Ints.at hq (i:=k) (by omega);simp only[Option.some.injEq,Addr.mk.injEq,and_true]at ek';obtain⟨rfl,rfl⟩:=ek';have hv:=Hh.o.below.cell _ _ _ hj;obtain⟨x,hx⟩:∃x,D.kids[k]=x:=⟨_,rfl⟩
        rw[hx]at hv
        have Hj:=Hd (show(zY t last up)[k]?=some x by
         rw[HX.o,List.getElem?_append_left (by rw[List.length_take];omega),List.getElem?_take_of_lt hlt,List.getElem?_eq_getElem (by omega),hx])
        clear hx hj hq;obtain⟨fn,tmps,assign,body,hy,hR⟩:=HY.o k x G wr (Hj.o) (Hc.o) (Ho.o);try dsimp only at hy
        have HR:=Hd hR;clear hR
        repeat (first|(refine(wpIn_wide (n:=0)).1 ?_;gi_wp2)|gi_step|go_step)
        refine⟨rfl,HR.o.mono ?_⟩;rintro e W3 (⟨rfl,hc,hd⟩|⟨rfl,hc,hd⟩)
        .try dsimp only
         repeat (first|(refine(wpIn_wide (n:=0)).1 ?_;gi_wp2)|gi_step|go_step)
         exact⟨⟨k+1,by simp,by omega,Hd (Hh.o.keeps ha hc),Hd (Hc.o.keeps hc.size),Hd hd⟩,by simp[intOf];omega⟩
        .try dsimp only
         repeat (first|(refine(wpIn_wide (n:=0)).1 ?_;gi_wp2)|gi_step|go_step)
         refine bodyPost_ret (results_none rfl _ _ _) rfl ?_;exact⟨⟨_,rfl⟩,G,Hc.o.keeps hc.size,.inr ⟨k+1,by rw[Hk.o];omega,hd⟩⟩
       .obtain rfl:k=m2:=by omega
        have hU:=Hh.o.c2
        have Hj:=Hd (show(zY t last up)[k]?=some (up:Int) by
         rw[HX.o,List.getElem?_append_right (by rw[List.length_take];omega),List.length_take,Nat.min_eq_left hE,Nat.sub_self];rfl)
        obtain⟨fn,tmps,assign,body,hy,hR⟩:=HY.o k up G wr (Hj.o) (Hc.o) (Ho.o);try dsimp only at hy
        have HR:=Hd hR;clear hR
        repeat (first|(refine(wpIn_wide (n:=0)).1 ?_;gi_wp2)|gi_step|go_step)
        refine⟨rfl,HR.o.mono ?_⟩;rintro e W3 (⟨rfl,hc,hd⟩|⟨rfl,hc,hd⟩)
        .try dsimp only
         repeat (first|(refine(wpIn_wide (n:=0)).1 ?_;gi_wp2)|gi_step|go_step)
         go_end0
         exact⟨⟨_,rfl⟩,G,Hc.o.keeps hc.size,.inl (by rw[Hk.o];exact hd)⟩
        .try dsimp only
         repeat (first|(refine(wpIn_wide (n:=0)).1 ?_;gi_wp2)|gi_step|go_step)
         go_end0
         exact⟨⟨_,rfl⟩,G,Hc.o.keeps hc.size,.inr ⟨k+1,by rw[Hk.o];exact nlr,hd⟩⟩
     .have hs:(D.kind==42)=false:=beq_false_of_ne h42
      have He:=Hd (show zY t last up=[] by rw[Hi.o,hh,hs];rfl);clear h20 h42;go_wp2
      go_end0
      exact⟨⟨_,rfl⟩,Hb.o _ hf He.o⟩
end
section
open Go Go.RowKit
attribute [local go_sem] Oper.semAt_some
theorem FH(a:Option Addr)(n c:Nat)(w:World) :
 Calls prog 162 #[.slice a n c] w fun e w'=>e=.returned (.func (.func 195) #[] #[.pointer (some ⟨w.heap.size,0,none⟩)])/\w.alloc (.cells #[.slice a n c] 23)=w':=by
 go_enter func162,ntmps162;go_wp2;go_ret;exact⟨rfl,rfl⟩
def rI(l:List Int):List (Int×Int):=(List.range l.length).map fun k=>(((l.length-1-k:Nat):Int),l.getD (l.length-1-k) 0)
theorem nV(l:List Int):(rI l).length=l.length:=by simp[rI]
theorem LY{l:List Int}{i:Nat}(h:i<l.length):(rI l)[l.length-1-i]?=some ((i:Int),l[i]):=by
 unfold rI;rw[List.getElem?_map,List.getElem?_range (by omega)];simp only[Option.map_some,Option.some.injEq,Prod.mk.injEq];have e:l.length-1-(l.length-1-i)=i:=by omega
 rw[e,List.getD_eq_getElem?_getD,List.getElem?_eq_getElem h];exact⟨rfl,rfl⟩
theorem GX(l:List Int):(rI l).map (·.2)=l.reverse:=by
 apply List.ext_getElem
 .simp[rI]
 .intro k h1 h2
  simp only[rI,List.getElem_map,List.getElem_range,List.getElem_reverse];rw[List.getD_eq_getElem?_getD,List.getElem?_eq_getElem (by simp[rI]at h1;omega)];rfl
theorem LE(a:Option Addr)(c:Nat)(l:List Int)(w0 W0:World)(N0:Nat->Prop)(g:Nat)(hm:l.length<=1000000)(hr:Ints w0 a c l)(ha:Apart N0 w0)(hb0:Kept w0 W0)
 (h0:W0.cell? ⟨g,0,none⟩=some (.slice a l.length c)) :
 SeqG prog 195 #[.pointer (some ⟨g,0,none⟩)] (fun x:Int×Int=>#[intV x.1,intV x.2]) (rI l) N0 (fun i=>i=g) W0:=by
 intro ly J Jx W hK hh hJ hq hY hf;have he:=World.block_lt_of_cell? W0 _ h0;obtain⟨G,hb⟩:∃G:Nat->Prop,(fun i=>i=g)=G:=⟨_,rfl⟩
 have hj:G g:=by rw[<-hb]
 rw[hb]at hf hh hK;have hs:W.cell? ⟨g,0,none⟩=some (.slice a l.length c):=(hK.cell (b:=g) he (fun e=>e.1 hj)).trans h0;have hl:Kept w0 W:=hb0.turns ha hK (fun _ h=>h.2);have HB:=Hd hl;have HG:=Hd hh;have HJ:=Hd hJ;have HY:=Hd hY;have Hf:=Hd hf;have Hg:=Hd hr;have hz:IntKind.i64.wrap ((l.length:Int)-1)=(l.length:Int)-1:=by rw[IntKind.wrap_i64];omega
 have HL:=Hd (nV l);clear hJ hq hY hf hK hh hb h0 he hb0 hl hr;refine callsIn_of_wp func195 rfl trivial ?_ rfl;simp only[ntmps195,List.size_toArray,List.length_cons,List.length_nil,Nat.reduceAdd,Nat.reduceSub,Array.replicate_succ,Array.replicate_zero,List.push_toArray,List.append_toArray,List.nil_append,List.cons_append];refine wpIn_wide.2 ?_;go_wp2
 go_loopw [3] (fun t3 wr=>∃i:Int,t3=.int .i64 i /\ -1<=i/\i<l.length/\Hid (Kept w0 wr)/\Hid (wr.cell? ⟨g,0,none⟩=some (.slice a l.length c))/\Hid (Gd N0 G wr)/\Hid (J (l.length-(i+1).toNat) G wr)) (fun t3 _=>(intOf t3+1).toNat)
 case atStart=>exact⟨(l.length:Int)-1,rfl,by omega,by omega,HB,Hd hs,HG,Hd (by rw[show l.length-((l.length:Int)-1+1).toNat=0 by omega];exact Hf.o)⟩
 case round=>
  obtain⟨i,rfl,hv,hw,Hb,He,Ha,Hc⟩:=hrel;by_cases hneg:i = -1
  .subst hneg
   go_wp2
   go_end0
   exact⟨⟨_,rfl⟩,G,Ha.o,.inl (by rw[HL.o];exact Hc.o)⟩
  .obtain⟨m,rfl⟩:=Int.eq_ofNat_of_zero_le (show 0<=i by omega)
   have hp:m<l.length:=by omega
   obtain⟨bk,ok,rfl,ht,hn⟩:=Ints.at Hg.o hp;have hg:=Hb.o.cell _ _ _ hn;have hX:=LY hp;obtain⟨x,hx⟩:∃x,l[m]=x:=⟨_,rfl⟩
   rw[hx]at hg hX;have hc:=He.o;have hu:(decide ((m:Int) ≥ 0))=true:=by simp
   have hk:J (l.length-1-m) G wr:=by have:=Hc.o;rwa[show l.length-((m:Int)+1).toNat=l.length-1-m by omega]at this
   have ho:=World.block_lt_of_cell? wr _ hc;simp only at ho;obtain⟨fn,tmps,assign,body,hy,hR⟩:=HY.o (l.length-1-m) ((m:Int),x) G wr hX Ha.o hk;dsimp only at hy;have HR:=Hd hR;clear hR hx hn hX hk
   repeat (first|(refine(wpIn_wide (n:=0)).1 ?_;gi_wp2)|gi_step|go_step)
   refine⟨rfl,HR.o.mono ?_⟩;rintro e W3 (⟨rfl,hd,hi⟩|⟨rfl,hd,hi⟩)
   .try dsimp only
    repeat (first|(refine(wpIn_wide (n:=0)).1 ?_;gi_wp2)|gi_step|go_step)
    exact⟨⟨(m:Int)-1,rfl,by omega,by omega,Hd (Hb.o.turns ha hd (fun _ h=>h.2)),Hd ((hd.cell (b:=g) ho (fun e=>e.1 hj)).trans hc),Hd (Ha.o.keeps hd.size),Hd (by rw[show l.length-((m:Int)-1+1).toNat=l.length-1-m+1 by omega];exact hi)⟩,by simp[intOf]⟩
   .try dsimp only
    repeat (first|(refine(wpIn_wide (n:=0)).1 ?_;gi_wp2)|gi_step|go_step)
    refine bodyPost_ret (results_none rfl _ _ _) rfl ?_;exact⟨⟨_,rfl⟩,G,Ha.o.keeps hd.size,.inr ⟨_,by rw[HL.o];omega,hi⟩⟩
end
section
open Go Go.RowKit
attribute [local go_sem] Oper.semAt_some
structure SightW (w0:World) (g y:Nat) (p:ProgV) (node:Int) (ly:Nat) (G:Nat->Prop) (W:World):Prop where
 below:Kept w0 W
 c0:W.cell? ⟨g,0,none⟩=some p.ptr
 c1:W.cell? ⟨g+1,0,none⟩=some (intV node)
 cy:W.cell? ⟨y,0,none⟩=some (.func (.yield ly) #[] #[])
 g0:G g
 g1:G (g+1)
 gy:G y
theorem SightW.lt{w0 W:World}{g y:Nat}{p:ProgV}{node:Int}{ly:Nat}{G:Nat->Prop}(h:SightW w0 g y p node ly G W):g<W.heap.size/\g+1<W.heap.size/\y<W.heap.size:=
 ⟨World.block_lt_of_cell? W _ h.c0,World.block_lt_of_cell? W _ h.c1,World.block_lt_of_cell? W _ h.cy⟩
theorem SightW.turns{w0 W W':World}{N0:Nat->Prop}{g y:Nat}{p:ProgV}{node:Int}{ly:Nat}{G M:Nat->Prop}(ha:Apart N0 w0)(h:SightW w0 g y p node ly G W)(hk:Turns M W W')(hM:∀i,M i->N0 i)(m0:¬M g)(m1:¬M (g+1))(my:¬M y):SightW w0 g y p node ly G W':=by
 obtain⟨l0,l1,l2⟩:=h.lt;obtain⟨h1,h2,h3,h4,h5,h6,h7⟩:=h;exact⟨h1.turns ha hk hM,(hk.cell l0 m0).trans h2,(hk.cell l1 m1).trans h3,(hk.cell l2 my).trans h4,h5,h6,h7⟩
theorem SightW.more{w0 W:World}{g y:Nat}{p:ProgV}{node:Int}{ly:Nat}{G G':Nat->Prop}(h:SightW w0 g y p node ly G W)(hG:∀i,G i->G' i):SightW w0 g y p node ly G' W:=
 ⟨h.below,h.c0,h.c1,h.cy,hG _ h.g0,hG _ h.g1,hG _ h.gy⟩
structure SightI (w0:World) (N0:Nat->Prop) (g y:Nat) (p:ProgV) (node:Int) (ly:Nat) (ds:List Nat) (J:(Nat->Prop)->World->Prop) (H:Nat->Prop) (A:World) (G:Nat->Prop) (X:World):Prop where
 ex:∃Gs:Nat->Prop,J Gs X/\Gd N0 Gs X/\(∀i,G i->Gs i)/\(∀i,H i->Gs i)/\SightW w0 g y p node ly Gs X/\(¬G g/\¬G (g+1)/\¬G y)/\∀d∈ds,X.heap[d]?=some (.deferred (some []))/\¬G d/\Gs d
 apart:∀i,H i->¬G i
 low:∀i,H i->i<X.heap.size
 keeps:Keeps N0 H A X
theorem SightI.step{w0:World}{N0:Nat->Prop}{g y:Nat}(ha:Apart N0 w0){p:ProgV}{node:Int}{ly:Nat}{ds:List Nat}{J:(Nat->Prop)->World->Prop}{H:Nat->Prop}{A:World}(hJ:∀G X G' Y,J G X->StepG G X G' Y->J G' Y){G G':Nat->Prop}{X Y:World}
 (h:SightI w0 N0 g y p node ly ds J H A G X)(s:StepG G X G' Y):SightI w0 N0 g y p node ly ds J H A G' Y:=by
 obtain⟨⟨Gs,h1,h2,h3,h4,h5,⟨h6,h7,h8⟩,hd⟩,h9,hc,hf⟩:=h;have hs:=s.turns.size;obtain⟨l0,l1,l2⟩:=h5.lt
 have he:StepG Gs X (fun i=>Gs i\/G' i) Y:=⟨s.turns.mono fun i _ hi=>h3 i hi,fun i hi=>.inl hi,fun i hi=>by
  rcases hi with hi|hi
  .exact .inl hi
  .exact(s.news i hi).elim (fun h=>.inl (h3 i h)) .inr,fun i hi=>by
  rcases hi with hi|hi
  .have:=(h2.mem i hi).2;omega
  .exact s.lt i hi⟩
 have hb:∀i,G i->N0 i:=fun i hi=>(h2.mem i (h3 i hi)).1;have nw:∀i,i<X.heap.size->¬G i->¬G' i:=fun i hi hn hh=>(s.news i hh).elim hn (fun h=>by omega)
 refine⟨⟨_,hJ _ _ _ _ h1 he,h2.step he,fun i hi=>.inr hi,fun i hi=>.inl (h4 i hi),(h5.turns ha s.turns hb h6 h7 h8).more (fun i hi=>.inl hi),⟨nw _ l0 h6,nw _ l1 h7,nw _ l2 h8⟩,fun d hdd=>?_⟩,
  fun i hi=>nw i (hc i hi) (h9 i hi),fun i hi=>Nat.lt_of_lt_of_le (hc i hi) hs,?_⟩
 .obtain⟨e1,e2,e3⟩:=hd d hdd
  exact⟨(s.turns.block d (zB e1) e2).trans e1,nw d (zB e1) e2,.inl e3⟩
 .exact hf.trans (s.turns.mono fun i hi hgi=>⟨fun hh=>h9 i hh hgi,hb i hgi⟩)
theorem SightI.yielded{w0:World}{N0:Nat->Prop}{g y:Nat}(ha:Apart N0 w0){p:ProgV}{node:Int}{ly:Nat}{ds:List Nat}{J':(Nat->Prop)->World->Prop}{H:Nat->Prop}{A:World}{G Gs:Nat->Prop}{X Y:World}
 (h2:Gd N0 Gs X)(h3:∀i,G i->Gs i)(h4:∀i,H i->Gs i)(h5:SightW w0 g y p node ly Gs X)(h6:¬G g/\¬G (g+1)/\¬G y)(hd:∀d∈ds,X.heap[d]?=some (.deferred (some []))/\¬G d/\Gs d)
 (h9:∀i,H i->¬G i)(h11:Keeps N0 H A X)(hk:Keeps N0 Gs X Y)(hj:J' Gs Y):Keeps N0 G X Y/\SightI w0 N0 g y p node ly ds J' H A G Y:=by
 refine⟨hk.mono fun i _ h=>⟨fun e=>h.1 (h3 i e),h.2⟩,⟨Gs,hj,h2.keeps hk.size,h3,h4,h5.turns ha hk (fun _ h=>h.2) (fun e=>e.1 h5.g0) (fun e=>e.1 h5.g1) (fun e=>e.1 h5.gy),h6,fun d hdd=>?_⟩,h9,fun i hi=>?_,?_⟩
 .obtain⟨e1,e2,e3⟩:=hd d hdd
  exact⟨(hk.block d (zB e1) (fun e=>e.1 e3)).trans e1,e2,e3⟩
 .exact Nat.lt_of_lt_of_le (h2.mem i (h4 i hi)).2 hk.size
 .exact h11.trans (hk.mono fun i _ h=>⟨fun e=>h.1 (h4 i e),h.2⟩)
theorem SightI.grow{w0:World}{N0:Nat->Prop}{g y:Nat}(ha:Apart N0 w0){p:ProgV}{node:Int}{ly:Nat}{ds:List Nat}{J:(Nat->Prop)->World->Prop}{H:Nat->Prop}{A:World}(hJ:∀G X G' Y,J G X->StepG G X G' Y->J G' Y){G:Nat->Prop}{X Y:World}
 (h:SightI w0 N0 g y p node ly ds J H A G X)(hb:Below X.heap.size X Y):SightI w0 N0 g y p node ly ds J H A G Y:=by
 refine h.step ha hJ (StepG.of_below hb fun i hi=>?_);obtain⟨⟨Gs,h1,h2,h3,_⟩,_⟩:=h;exact(h2.mem i (h3 i hi)).2
def cntU(t:Tr)(node:Int)(k:Nat):Nat:=(((bB t node).take k).flatMap (fun p=>zY t p.1 p.2)).length
theorem ID{t:Tr}{node:Int}{k:Nat}{kid up:Int}(h:(bB t node)[k]?=some (kid,up)):cntU t node (k+1)=cntU t node k+(zY t kid up).length:=by
 unfold cntU;obtain⟨hk,e⟩:=List.getElem?_eq_some_iff.1 h;rw[List.take_succ_eq_append_getElem hk,e,List.flatMap_append,List.length_append];simp
theorem PI{t:Tr}{node:Int}{k j:Nat}{kid up d:Int}{r:List Int}(h:(bB t node)[k]?=some (kid,up))(hj:(zY t kid up)[j]?=some d) :
 ((bB t node).flatMap (fun p=>zY t p.1 p.2)++r)[cntU t node k+j]?=some d:=by
 obtain⟨hk,e⟩:=List.getElem?_eq_some_iff.1 h;obtain⟨hb,_⟩:=List.getElem?_eq_some_iff.1 hj
 have ha:(bB t node).flatMap (fun p=>zY t p.1 p.2)=((bB t node).take k).flatMap (fun p=>zY t p.1 p.2)++(zY t kid up++((bB t node).drop (k+1)).flatMap (fun p=>zY t p.1 p.2)):=by
  conv=>lhs;rw[<-List.take_append_drop k (bB t node),List.flatMap_append,List.drop_eq_getElem_cons hk,e,List.flatMap_cons]
 rw[ha,List.append_assoc,List.append_assoc];unfold cntU;rw[List.getElem?_append_right (by omega),Nat.add_sub_cancel_left,List.getElem?_append_left hb];exact hj
def gP(t:Tr)(node:Int)(k:Nat):List Int:=((t.items.reverse.take k).filter fun it=>decide (it<node)&&zn t it)
theorem EK{t:Tr}{node:Int}{k:Nat}{x:Int}(h:t.items.reverse[k]?=some x):gP t node (k+1)=gP t node k++(if decide (x<node)&&zn t x then [x]else []):=by
 unfold gP;obtain⟨hk,e⟩:=List.getElem?_eq_some_iff.1 h;rw[List.take_succ_eq_append_getElem hk,e,List.filter_append];cases hx:(decide (x<node)&&zn t x)<;>simp[List.filter_cons,hx]
theorem vQ{t:Tr}{node:Int}:gP t node t.items.length=(t.items.filter fun it=>decide (it<node)&&zn t it).reverse:=by
 unfold gP;rw[List.take_of_length_le (by simp),List.filter_reverse]
theorem ML{t:Tr}{node:Int}{k:Nat}{x:Int}(h:t.items.reverse[k]?=some x)(hx:(decide (x<node)&&zn t x)=true):(t.items.filter fun it=>decide (it<node)&&zn t it).reverse[(gP t node k).length]?=some x:=by
 rw[<-vQ];obtain⟨hk,e⟩:=List.getElem?_eq_some_iff.1 h
 have ha:gP t node t.items.length=gP t node k++(x::(t.items.reverse.drop (k+1)).filter fun it=>decide (it<node)&&zn t it):=by
  unfold gP;rw[List.take_of_length_le (by simp)]
  conv=>lhs;rw[<-List.take_append_drop k t.items.reverse,List.filter_append,List.drop_eq_getElem_cons hk,e,List.filter_cons,if_pos hx]
 rw[ha,List.getElem?_append_right nlr,Nat.sub_self];rfl
end
section
open Go Go.RowKit
attribute [local go_sem] Oper.semAt_some
theorem SightI.out{w0:World}{N0:Nat->Prop}{g y:Nat}{p:ProgV}{node:Int}{ly:Nat}{J:(Nat->Prop)->World->Prop}{G G2:Nat->Prop}{W A B:World}(h:SightI w0 N0 g y p node ly [] J G A G2 B)
 (h6:¬G g/\¬G (g+1)/\¬G y)(h4:Keeps N0 (fun _=>False) W A):SightI w0 N0 g y p node ly [] J (fun _=>False) W G B:=by
 obtain⟨⟨Gs,a1,a2,a3,a4,a5,a6,a7⟩,b1,b2,b3⟩:=h;exact⟨⟨Gs,a1,a2,a4,fun _ h=>h.elim,a5,h6,fun _ h=>by cases h⟩,fun _ h=>h.elim,fun _ h=>h.elim,h4.trans (b3.mono fun i _ hi=>⟨fun e=>e,hi.2⟩)⟩
theorem box3(W:World)(ly s:Nat)(node:Int):∃Wa,fC (W.alloc (.cells #[.func (.yield ly) #[] #[]] 86)) (.pointer (some ⟨s,0,none⟩)) node=Wa/\Wa.heap.size=W.heap.size+1+1+1/\Below W.heap.size W Wa /\
 Wa.cell? ⟨W.heap.size,0,none⟩=some (.func (.yield ly) #[] #[])/\Wa.cell? ⟨W.heap.size+1,0,none⟩=some (.pointer (some ⟨s,0,none⟩))/\Wa.cell? ⟨W.heap.size+1+1,0,none⟩=some (intV node)/\Wa.frozen? ⟨W.heap.size+1+1,0,none⟩=false:=by
 refine⟨_,rfl,by simp,(((Below.refl _ W).alloc nlr _).alloc (by simp) _).alloc (by simp;omega) _,?_,?_,?_,?_⟩
 .unfold fC;go_simp
 .unfold fC;go_simp
 .unfold fC;go_simp
 .unfold fC;go_simp
theorem SF{A X2:World}{s m:Nat}{kid:Int}(h:(fC A (.pointer (some ⟨s,0,none⟩)) kid).alloc (.cells #[intV m] 3)=X2):X2.heap.size=A.heap.size+1+1+1/\Below A.heap.size A X2 /\
 X2.cell? ⟨A.heap.size,0,none⟩=some (.pointer (some ⟨s,0,none⟩))/\X2.cell? ⟨A.heap.size+1,0,none⟩=some (intV kid)/\X2.cell? ⟨A.heap.size+1+1,0,none⟩=some (intV m):=by
 subst h;refine⟨by simp,(((Below.refl _ A).alloc nlr _).alloc (by simp) _).alloc (by simp;omega) _,?_,?_,?_⟩
 .unfold fC;go_simp
 .unfold fC;go_simp
 .unfold fC;go_simp
theorem DM(p:ProgV)(t:Tr)(ups decl:List Int)(node:Nat)(w0 W0:World)(N0:Nat->Prop)(g:Nat)(wf:WF t)(hn:node<t.nodes.length)(hu:IsUps t ups)(hp:IsProg w0 p t ups decl)(ha:Apart N0 w0)
 (hb0:Kept w0 W0)(h0:W0.cell? ⟨g,0,none⟩=some p.ptr)(h1:W0.cell? ⟨g+1,0,none⟩=some (intV node)) :
 SeqG prog 160 #[.pointer (some ⟨g,0,none⟩),.pointer (some ⟨g+1,0,none⟩)] (fun d:Int=>#[intV d]) (zE t node) N0 (fun i=>i=g\/i=g+1) W0:=by
 intro ly J Jx W hK hgd hJ h5 hY h3;have hl0:=World.block_lt_of_cell? W0 _ h0;have hl1:=World.block_lt_of_cell? W0 _ h1;simp only at hl0 hl1;have h8:Kept w0 W:=hb0.turns ha hK (fun _ h=>h.2);have hQ:W.cell? ⟨g,0,none⟩=some p.ptr:=(hK.cell hl0 (fun e=>e.1 (.inl rfl))).trans h0;have hU:W.cell? ⟨g+1,0,none⟩=some (intV node):=(hK.cell hl1 (fun e=>e.1 (.inr rfl))).trans h1;have hgW:=World.block_lt_of_cell? W _ hQ;have hB:=World.block_lt_of_cell? W _ hU;simp only at hgW hB;have Hg:∀(s2:Nat) (w2:World),Calls prog 125 #[.pointer (some ⟨s2,0,none⟩),intV node] w2 fun e w'=>e=.returned (.func (.func 164) #[] #[.pointer (some ⟨w2.heap.size,0,none⟩),.pointer (some ⟨w2.heap.size+1,0,none⟩)])/\fC w2 (.pointer (some ⟨s2,0,none⟩)) node=w':=fun s2 w2=>rQ s2 node w2;have Hg:=Hd Hg;have HJ:=Hd hJ;have Hf:=Hd h5;have HY:=Hd hY;have HL:=Hd h3;have HP:=Hd hp;have HG:=Hd hgd;have HB:=Hd h8;have HU:=Hd hu;have WFF:=Hd wf;clear hJ h5 hY h3 hp hgd hK h0 h1 hb0 h8 hu wf;obtain⟨s,v,aa,ac,da,dc⟩:=p;refine callsIn_of_wp_marks (n:=0) func160 rfl trivial ?_ rfl;simp only[ntmps160,List.size_toArray,List.length_cons,List.length_nil,Nat.reduceAdd,Nat.reduceSub,Array.replicate_succ,Array.replicate_zero,List.push_toArray,List.append_toArray,List.nil_append,List.cons_append];refine wpIn_wide.2 ?_
 go_wp2_with (go_at_call 125;refine(Hg.o _ _).mono ?_;rintro e w' ⟨rfl,rfl⟩)
 obtain⟨Wa,h7,hsa,hz,ca0,ca1,ca2,fa2⟩:=box3 W ly s node;rw[h7];have hL:=HG.o.size;clear h7;obtain⟨hP,-⟩:=bcell hz
 have HN:Hid (SightW w0 g W.heap.size ⟨s,v,aa,ac,da,dc⟩ node ly (fun i=>(i=g\/i=g+1)\/W.heap.size<=i/\i<Wa.heap.size) Wa):=Lib.hid
  ⟨HB.o.grow hz,(hP g 0 hgW).trans hQ,(hP (g+1) 0 hB).trans hU,ca0,.inl (.inl rfl),.inl (.inr rfl),.inr ⟨nlr,by omega⟩⟩
 have Hu:Hid (StepG (fun i=>i=g\/i=g+1) W (fun i=>(i=g\/i=g+1)\/W.heap.size<=i/\i<Wa.heap.size) Wa):=Lib.hid
  ⟨Turns.of_below hz (fun k hk hn=>by omega),fun i h=>.inl h,fun i h=>h.elim .inl (fun h=>.inr h.1),fun i h=>by
   rcases h with(rfl|rfl) | h
   .omega
   .omega
   .exact h.2⟩
 have HE:Hid (SightI w0 N0 g W.heap.size ⟨s,v,aa,ac,da,dc⟩ node ly [] (J (cntU t node 0)) (fun _=>False) W (fun i=>i=W.heap.size+1\/i=W.heap.size+1+1) Wa):=Lib.hid
  ⟨⟨_,HJ.o _ _ _ _ _ (show J (cntU t node 0) _ W from HL.o) Hu.o,HG.o.step Hu.o,fun i h=>by
   rcases h with rfl|rfl
   .exact .inr ⟨by omega,by omega⟩
   .exact .inr ⟨by omega,by omega⟩,fun _ h=>h.elim,HN.o,⟨by omega,by omega,by omega⟩,fun _ h=>by cases h⟩,fun _ h=>h.elim,fun _ h=>h.elim,Turns.of_below hz (fun k hk hn=>by omega)⟩
 have Hy:Hid (ClimbW w0 (W.heap.size+1) ⟨s,v,aa,ac,da,dc⟩ node (fun i=>i=W.heap.size+1\/i=W.heap.size+1+1) Wa):=Hd ⟨HB.o.grow hz,ca1,ca2,fa2,.inl rfl,.inr rfl⟩
 have HA:Hid (Gd N0 (fun i=>i=W.heap.size+1\/i=W.heap.size+1+1) Wa):=Hd ⟨fun i h=>hL i (by omega),fun i h=>by
  rcases h with rfl|rfl
  .exact⟨hL _ (by omega),by omega⟩
  .exact⟨hL _ (by omega),by omega⟩⟩
 have Hr:=Hd (wO WFF.out (t:=t) (node:=(node:Int)) (by omega))
 have Hp:Hid (∀G X G' Y,(∃k,k<=(zE t node).length/\Jx k G X)->StepG G X G' Y->∃k,k<=(zE t node).length/\Jx k G' Y):=Hd (by
  rintro G X G' Y⟨k,hk,h⟩ st
  exact⟨k,hk,Hf.o _ _ _ _ _ h st⟩)
 clear hP ca0 ca1 ca2 fa2 hQ hU;refine(wpIn_wide (n:=0)).1 ?_
 refine kM (gf:=164) (lb:=#[.pointer (some ⟨W.heap.size+1,0,none⟩),.pointer (some ⟨W.heap.size+1+1,0,none⟩)]) rfl (enters_of func164 (by kernel_rfl) rfl)
  (uL ⟨s,v,aa,ac,da,dc⟩ t ups decl node w0 Wa N0 (W.heap.size+1) WFF.out.bd hn HU.o HP.o ha (fun i h=>hL i (by omega)) Hy.o) (Turns.refl _ _) HA.o (fun _=>rfl)
  (fun k G X=>SightI w0 N0 g W.heap.size ⟨s,v,aa,ac,da,dc⟩ node ly [] (J (cntU t node k)) (fun _=>False) W G X)
  (fun c _ G X=>c=.ret/\SightI w0 N0 g W.heap.size ⟨s,v,aa,ac,da,dc⟩ node ly [] (fun Gs X=>∃k,k<=(zE t node).length/\Jx k Gs X) (fun _=>False) W G X)
  (fun k G X G' Y h st=>h.step ha (fun _ _ _ _=>HJ.o _ _ _ _ _) st) (fun c k G X G' Y h st=>⟨h.1,h.2.step ha Hp.o st⟩) HE.o
  (fun x=>{ tmps:=#[.func (.yield ly) #[] #[],.pointer (some ⟨g,0,none⟩),.pointer (some ⟨g+1,0,none⟩),.pointer (some ⟨W.heap.size,0,none⟩),intV x.1,intV x.2,undef,undef,undef,.pointer (some ⟨s,0,none⟩),intV node,.func (.func 164) #[] #[.pointer (some ⟨W.heap.size+1,0,none⟩),.pointer (some ⟨W.heap.size+1+1,0,none⟩)],intV x.1,intV x.2,undef,undef,undef,undef,undef,undef,undef,undef,undef,undef,undef,undef,undef,undef,undef,undef,undef,undef,undef,undef,undef,undef,undef,undef,undef,undef,undef,undef,undef,undef,undef],defers:=[] }) ?assign ?body ?done ?stop
 case assign=>
  intro l x W9 K hK
  gi_wp2
  exact hK
 case body=>
  rintro l k⟨kid,up⟩ G A hx hN⟨r,hr⟩ hf hI;obtain⟨⟨Gs,j1,j2,j3,j4,j5,j6,j7⟩,i2,i3,i4⟩:=id hI;have hZ:=mV _ _ _ _ (List.mem_of_getElem? hx) (zH t (n:=(node:Int)) (by omega));obtain⟨hG,h2,-⟩:=hZ;simp only at hG h2;obtain⟨m,rfl⟩:=Int.eq_ofNat_of_zero_le hG;have hm:m<t.nodes.length:=by omega
  have hS:A.cell? ⟨g,0,none⟩=some (.pointer (some ⟨s,0,none⟩)):=j5.c0;have hV:=j5.cy;have Hv:=Hd hx;have HI:=Hd hI;have Ht:=Hd hf;have hlA:=zB hr;have HM:=Hd hr;have HV:=Hd hN;have hH:=j2.size;have Hm:=Hd j1;have Hb:=Hd j2;have Hn:=Hd j3;have Ha:=Hd j5;have Ho:=Hd j6;have He:=Hd i4;have hC5:Hid (Calls prog 161 #[.pointer (some ⟨s,0,none⟩),intV kid,intV m] A fun e w'=>e=.returned (.func (.func 194) #[] #[.pointer (some ⟨A.heap.size,0,none⟩),.pointer (some ⟨A.heap.size+1+1,0,none⟩),.pointer (some ⟨A.heap.size+1,0,none⟩)])/\(fC A (.pointer (some ⟨s,0,none⟩)) kid).alloc (.cells #[intV m] 3)=w'):=Hd (xU s kid m A);clear j1 j2 j3 j4 j5 j6 j7 i2 i3 i4 hI hf hx hN hr
  gi_wp2_with (refine⟨trivial,rfl,?_⟩;refine(CallsIn.inRound l (callsIn_wide.2 hC5.out)).mono ?_;rintro e w' ⟨rfl,rfl⟩)
  obtain⟨X2,hO⟩:∃X2,(fC A (.pointer (some ⟨s,0,none⟩)) kid).alloc (.cells #[intV m] 3)=X2:=⟨_,rfl⟩
  obtain⟨hs2,hs,e0,e1,e2⟩:=SF hO;rw[hO];clear hO;obtain⟨hc2,-⟩:=bcell hs;have hr2:X2.heap[l]?=some (.loop r):=(hs.block l hlA).trans HM.o;have HQ:Hid (WithinW w0 A.heap.size ⟨s,v,aa,ac,da,dc⟩ kid m (fun i=>i=A.heap.size\/i=A.heap.size+1\/i=A.heap.size+1+1) X2):=Hd ⟨Ha.o.below.grow hs,e0,e1,e2,.inl rfl,.inr (.inl rfl),.inr (.inr rfl)⟩;have ho:StepG Gs A (fun i=>Gs i\/A.heap.size<=i/\i<X2.heap.size) X2:=⟨Turns.of_below hs (fun k hk hn=>by omega),fun i h=>.inl h,fun i h=>h.elim .inl (fun h=>.inr h.1),fun i h=>h.elim (fun h=>by have:=(Hb.o.mem i h).2;omega) (fun h=>h.2)⟩
  have hgw:Gd N0 (fun i=>i=A.heap.size\/i=A.heap.size+1\/i=A.heap.size+1+1) X2:=⟨fun i h=>hH i (by omega),fun i h=>by
   rcases h with rfl|rfl|rfl
   .exact⟨hH _ (by omega),by omega⟩
   .exact⟨hH _ (by omega),by omega⟩
   .exact⟨hH _ (by omega),by omega⟩⟩
  obtain⟨q0,q1,q2⟩:=Ha.o.lt
  have HH:Hid (SightI w0 N0 g W.heap.size ⟨s,v,aa,ac,da,dc⟩ node ly [] (J (cntU t node k+0)) G A (fun i=>i=A.heap.size\/i=A.heap.size+1\/i=A.heap.size+1+1) X2):=Lib.hid
   ⟨⟨_,HJ.o _ _ _ _ _ Hm.o ho,Hb.o.step ho,fun i h=>by
    rcases h with rfl|rfl|rfl
    .exact .inr ⟨by omega,by omega⟩
    .exact .inr ⟨by omega,by omega⟩
    .exact .inr ⟨by omega,by omega⟩,fun i h=>.inl (Hn.o i h),(Ha.o.turns ha (M:=fun _=>False) (Turns.of_below hs (fun k hk hn=>by omega)) (fun _ h=>h.elim) (fun h=>h) (fun h=>h) (fun h=>h)).more (fun i h=>.inl h),⟨by omega,by omega,by omega⟩,fun _ h=>by cases h⟩,
    fun i h=>by have:=(Ht.o.mem i h).2;omega,fun i h=>by have:=(Ht.o.mem i h).2;omega,Turns.of_below hs (fun k hk hn=>by omega)⟩
  have HD:=Hd hgw;clear ho hgw e0 e1 e2 hc2 hS hV
  refine JQ (l₀:=l) (r₀:=r) (gf:=194) (lb:=#[.pointer (some ⟨A.heap.size,0,none⟩),.pointer (some ⟨A.heap.size+1+1,0,none⟩),.pointer (some ⟨A.heap.size+1,0,none⟩)]) hr2 rfl (enters_of func194 (by kernel_rfl) rfl)
   (DN ⟨s,v,aa,ac,da,dc⟩ t ups decl kid m w0 X2 N0 A.heap.size WFF.out.bd WFF.out hm HP.o ha HQ.o) (Turns.refl _ _) HD.o (fun _=>rfl)
   (fun k2 G2 X=>SightI w0 N0 g W.heap.size ⟨s,v,aa,ac,da,dc⟩ node ly [] (J (cntU t node k+k2)) G A G2 X)
   (fun c _ G2 X=>c=.ret/\SightI w0 N0 g W.heap.size ⟨s,v,aa,ac,da,dc⟩ node ly [] (fun Gs X=>∃k,k<=(zE t node).length/\Jx k Gs X) G A G2 X)
   (fun k G X G' Y h st=>h.step ha (fun _ _ _ _=>HJ.o _ _ _ _ _) st) (fun c k G X G' Y h st=>⟨h.1,h.2.step ha Hp.o st⟩) HH.o
   (fun d=>{ tmps:=#[.func (.yield ly) #[] #[],.pointer (some ⟨g,0,none⟩),.pointer (some ⟨g+1,0,none⟩),.pointer (some ⟨W.heap.size,0,none⟩),intV kid,intV m,intV d,undef,undef,.pointer (some ⟨s,0,none⟩),intV node,.func (.func 164) #[] #[.pointer (some ⟨W.heap.size+1,0,none⟩),.pointer (some ⟨W.heap.size+1+1,0,none⟩)],intV kid,intV m,.pointer (some ⟨s,0,none⟩),intV kid,intV m,.func (.func 194) #[] #[.pointer (some ⟨A.heap.size,0,none⟩),.pointer (some ⟨A.heap.size+1+1,0,none⟩),.pointer (some ⟨A.heap.size+1,0,none⟩)],intV d,undef,undef,undef,undef,undef,undef,undef,undef,undef,undef,undef,undef,undef,undef,undef,undef,undef,undef,undef,undef,undef,undef,undef,undef,undef,undef],defers:=[] }) ?assign2 ?body2 ?done2 ?stop2
  case assign2=>
   intro l x W9 K hK
   gi_wp2
   exact hK
  case body2=>
   rintro l2 k2 d G2 X hx2 hGl2-hgdX hh;obtain⟨⟨Gs2,j1,j2,j3,j4,j5,j6,j7⟩,i2,i3,i4⟩:=hh;have hq:(zE t node)[cntU t node k+k2]?=some d:=by rw[Hr.o];exact PI Hv.o hx2
   obtain⟨fn,tmps,assign,body,hy,hR⟩:=HY.o _ d Gs2 X hq j2 j1;have Hq:=Hd (show cntU t node k+k2+1<=(zE t node).length from(List.getElem?_eq_some_iff.1 hq).1);try dsimp only at hy
   have HR:=Hd hR;have hcy:=j5.cy;clear hR hq hx2
   gi_wp2
   refine⟨rfl,RoundIn.mono HR.o ?_⟩;rintro e W3 (⟨rfl,hl,hj⟩|⟨rfl,hl,hj⟩)
   .obtain⟨z1,z2⟩:=SightI.yielded ha (J':=J (cntU t node k+(k2+1))) j2 j3 j4 j5 j6 j7 i2 i4 hl hj
    have Z1:=Hd z1;have Z2:=Hd z2;clear z1 z2
    gi_wp2
    exact⟨Z1.out,Z2.out⟩
   .obtain⟨z1,z2⟩:=SightI.yielded ha (J':=fun Gs X=>∃k,k<=(zE t node).length/\Jx k Gs X) j2 j3 j4 j5 j6 j7 i2 i4 hl ⟨_,Hq.o,hj⟩
    have Z1:=Hd z1;have Z2:=Hd z2;clear z1 z2
    gi_wp2
    exact⟨Z1.out,rfl,Z2.out⟩
  case done2=>
   rintro G2 B he hh;refine⟨hh.keeps,?_⟩;have:=ID Hv.o;show SightI w0 N0 g W.heap.size ⟨s,v,aa,ac,da,dc⟩ node ly [] (J (cntU t node (k+1))) (fun _=>False) W G B
   rw[this];exact hh.out Ho.o He.o
  case stop2=>
   rintro c k2 G2 B he hk2⟨rfl,hh⟩;have Hl:=Hd hh;clear hh
   gi_wp2
   exact⟨Hl.o.keeps,rfl,Hl.o.out Ho.o He.o⟩
 case done=>
  rintro D G B hD hv hw he hI;have Hl:=Hd hI;have Hc:=Hd hv;have HC:=Hd hw;obtain⟨⟨Gs,j1,j2,j3,-,j5,j6,-⟩,-,-,i4⟩:=id hI;clear hI;have hpB:=HP.o.kept j5.below;have cB1:=hpB.c1;have hT:B.cell? ⟨g,0,none⟩=some (.pointer (some ⟨s,0,none⟩)):=j5.c0;have Hm:=Hd j1;have Hb:=Hd j2;have Hn:=Hd j3;have Ha:=Hd j5;have Ho:=Hd j6;have He:=Hd i4;clear j1 j2 j3 j5 j6 i4 he hv hw hpB;obtain⟨na,nc,ia,ic⟩:=v;simp only at cB1
  go_wp2_with (go_at_call 162;refine(FH _ _ _ _).mono ?_;rintro e w' ⟨rfl,rfl⟩)
  obtain⟨Bb,ht⟩:∃Bb,B.alloc (.cells #[.slice ia t.items.length ic] 23)=Bb:=⟨_,rfl⟩
  have hsb:Bb.heap.size=B.heap.size+1:=by rw[<-ht];simp
  have hA:Below B.heap.size B Bb:=by rw[<-ht];exact(Below.refl _ B).alloc nlr _
  have cb0:Bb.cell? ⟨B.heap.size,0,none⟩=some (.slice ia t.items.length ic):=by rw[<-ht];simp
  rw[ht];clear ht;have h6:=Hb.o.size;have hDl:=zB Hc.o;obtain⟨q0,q1,q2⟩:=Ha.o.lt;have ho:StepG Gs B (fun i=>Gs i\/B.heap.size<=i/\i<Bb.heap.size) Bb:=⟨Turns.of_below hA (fun k hk hn=>by omega),fun i h=>.inl h,fun i h=>h.elim .inl (fun h=>.inr h.1),fun i h=>h.elim (fun h=>by have:=(Hb.o.mem i h).2;omega) (fun h=>h.2)⟩
  have Hj:=Hd ((hA.block D hDl).trans Hc.o);have h9:cntU t node (bB t node).length=((bB t node).flatMap (fun p=>zY t p.1 p.2)).length:=by unfold cntU;rw[List.take_length]
  have Hs:=Hd h9
  have HK:Hid (SightI w0 N0 g W.heap.size ⟨s,⟨na,nc,ia,ic⟩,aa,ac,da,dc⟩ node ly [D] (J (cntU t node (bB t node).length+(gP t node 0).length)) (fun _=>False) W (fun i=>i=B.heap.size) Bb):=Lib.hid
   ⟨⟨_,HJ.o _ _ _ _ _ (show J (cntU t node (bB t node).length+(gP t node 0).length) Gs B from Hm.o) ho,Hb.o.step ho,fun i h=>.inr (by subst h;exact⟨nlr,by omega⟩),fun _ h=>h.elim,
    (Ha.o.turns ha (M:=fun _=>False) (Turns.of_below hA (fun k hk hn=>by omega)) (fun _ h=>h.elim) (fun h=>h) (fun h=>h) (fun h=>h)).more (fun i h=>.inl h),⟨by omega,by omega,by omega⟩,fun d h=>by
     obtain rfl:=List.mem_singleton.1 h
     exact⟨Hj.o,by omega,.inl (Hn.o _ HC.o)⟩⟩,fun _ h=>h.elim,fun _ h=>h.elim,He.o.trans (Turns.of_below hA (fun k hk hn=>by omega))⟩
  have Hz:Hid (Gd N0 (fun i=>i=B.heap.size) Bb):=Hd ⟨fun i h=>h6 i (by omega),fun i h=>by subst h;exact⟨h6 _ nlr,by omega⟩⟩;have Hw:=Hd (nV t.items);have Hx:=Hd (GX t.items);have HO:=Hd (Ha.o.below.grow hA);clear ho hT cB1 h9;refine(wpIn_wide (n:=0)).1 ?_
  refine kM (gf:=195) (lb:=#[.pointer (some ⟨B.heap.size,0,none⟩)]) rfl (enters_of func195 (by kernel_rfl) rfl)
   (LE ia ic t.items w0 Bb N0 B.heap.size WFF.out.bd.i HP.o.tree.items ha HO.o cb0) (Turns.refl _ _) Hz.o (fun _=>rfl)
   (fun k G X=>SightI w0 N0 g W.heap.size ⟨s,⟨na,nc,ia,ic⟩,aa,ac,da,dc⟩ node ly [D] (J (cntU t node (bB t node).length+(gP t node k).length)) (fun _=>False) W G X)
   (fun c _ G X=>c=.ret/\SightI w0 N0 g W.heap.size ⟨s,⟨na,nc,ia,ic⟩,aa,ac,da,dc⟩ node ly [D] (fun Gs X=>∃k,k<=(zE t node).length/\Jx k Gs X) (fun _=>False) W G X)
   (fun k G X G' Y h st=>h.step ha (fun _ _ _ _=>HJ.o _ _ _ _ _) st) (fun c k G X G' Y h st=>⟨h.1,h.2.step ha Hp.o st⟩) HK.o
   (fun x=>{ tmps:=#[.func (.yield ly) #[] #[],.pointer (some ⟨g,0,none⟩),.pointer (some ⟨g+1,0,none⟩),.pointer (some ⟨W.heap.size,0,none⟩),undef,undef,undef,undef,intV x.2,.pointer (some ⟨s,0,none⟩),intV node,.func (.func 164) #[] #[.pointer (some ⟨W.heap.size+1,0,none⟩),.pointer (some ⟨W.heap.size+1+1,0,none⟩)],undef,undef,undef,undef,undef,undef,undef,undef,undef,undef,undef,.pointer (some ⟨s,0,none⟩),.pointer (some ⟨s,0,none⟩),.pointer (some ⟨s,0,none⟩),.pointer (some ⟨s,1,none⟩),.slice ia t.items.length ic,.func (.func 195) #[] #[.pointer (some ⟨B.heap.size,0,none⟩)],intV x.1,intV x.2,undef,undef,undef,undef,undef,undef,undef,undef,undef,undef,undef,undef,undef,undef],defers:=[] }) ?assign3 ?body3 ?done3 ?stop3
  case assign3=>
   intro l x W9 K hK
   gi_wp2
   exact hK
  case body3=>
   rintro l k⟨i,x⟩ G A hx hN⟨r,hr⟩ hf hI
   have hM:t.items.reverse[k]?=some x:=by
    rw[<-Hx.o,List.getElem?_map,hx];rfl
   obtain⟨hx0,hx1⟩:=WFF.out.item x (List.mem_reverse.1 (List.mem_of_getElem? hM));obtain⟨m,rfl⟩:=Int.eq_ofNat_of_zero_le hx0;have hm:m<t.nodes.length:=by omega
   obtain⟨⟨Gs3,j1,j2,j3,j4,j5,j6,j7⟩,i2,i3,i4⟩:=id hI;have hcgA:A.cell? ⟨g,0,none⟩=some (.pointer (some ⟨s,0,none⟩)):=j5.c0;have hcnA:=j5.c1;have hcyA:=j5.cy;have hpA:=HP.o.kept j5.below;have hg:=iD ⟨s,⟨na,nc,ia,ic⟩,aa,ac,da,dc⟩ t ups decl m A WFF.out.bd hm (HU.o.within m hm) hpA;rw[lW WFF.out HU.o hm]at hg;have HT:=Hd hM;have hb:=EK (node:=(node:Int)) hM;have HI:=Hd hI;clear hI hx hM hr hf hx0 hx1 hpA;cases hlt:decide ((m:Int)<(node:Int))with
   | false=>
     have hX:decide (m<node)=false:=by rw[decide_eq_false_iff_not]at hlt|-;omega
     rw[hlt,Bool.false_and,if_neg Bool.false_ne_true,List.append_nil]at hb;have HS:=Hd hb;clear hb j1 j2 j3 j4 j5 j6 j7 i2 i3 i4 hg
     gi_wp2
     repeat (first|(refine⟨trivial,?_⟩;gi_wp2)|(refine⟨fun _ _=>trivial,?_⟩;gi_wp2))
     refine⟨Turns.refl _ _,?_⟩;show SightI w0 N0 g W.heap.size ⟨s,⟨na,nc,ia,ic⟩,aa,ac,da,dc⟩ node ly [D] (J (cntU t node (bB t node).length+(gP t node (k+1)).length)) (fun _=>False) W G A
     rw[HS.o];exact HI.o
   | true=>
     have hX:decide (m<node)=true:=by rw[decide_eq_true_iff]at hlt|-;omega
     cases hdl:zn t m with
     | false=>
       rw[hlt,hdl,Bool.and_false,if_neg Bool.false_ne_true,List.append_nil]at hb;rw[hdl]at hg;have HS:=Hd hb;have Hk:=Hd hg;clear hb j1 j2 j3 j4 j5 j6 j7 i2 i3 i4 hg hdl
       gi_wp2_with (refine⟨trivial,rfl,?_⟩;refine(CallsIn.inRound l (callsIn_wide.2 Hk.o)).mono ?_;rintro e w' ⟨rfl,rfl⟩)
       repeat (first|(refine⟨trivial,?_⟩;gi_wp2)|(refine⟨fun _ _=>trivial,?_⟩;gi_wp2))
       refine⟨Turns.refl _ _,?_⟩;show SightI w0 N0 g W.heap.size ⟨s,⟨na,nc,ia,ic⟩,aa,ac,da,dc⟩ node ly [D] (J (cntU t node (bB t node).length+(gP t node (k+1)).length)) (fun _=>False) W G A
       rw[HS.o];exact HI.o
     | true=>
       have hq:(zE t node)[cntU t node (bB t node).length+(gP t node k).length]?=some (m:Int):=by
        rw[Hr.o,Hs.o,List.getElem?_append_right (by omega),Nat.add_sub_cancel_left];exact ML HT.o (by rw[hlt,hdl];rfl)
       rw[hlt,hdl,Bool.and_true,if_pos rfl]at hb;rw[hdl]at hg;have HS:=Hd (show(gP t node (k+1)).length=(gP t node k).length+1 by rw[hb,List.length_append];rfl);have Hk:=Hd hg;obtain⟨fn,tmps,assign,body,hy,hR⟩:=HY.o _ (m:Int) Gs3 A hq j2 j1;have Hq:=Hd (show cntU t node (bB t node).length+(gP t node k).length+1<=(zE t node).length from(List.getElem?_eq_some_iff.1 hq).1);try dsimp only at hy
       have HR:=Hd hR;clear hR hq hb hg hdl HI
       gi_wp2_with (refine⟨trivial,rfl,?_⟩;refine(CallsIn.inRound l (callsIn_wide.2 Hk.o)).mono ?_;rintro e w' ⟨rfl,rfl⟩)
       refine⟨rfl,RoundIn.mono HR.o ?_⟩;rintro e W3 (⟨rfl,hl,hj⟩|⟨rfl,hl,hj⟩)
       .obtain⟨z1,z2⟩:=SightI.yielded ha (J':=J (cntU t node (bB t node).length+(gP t node k).length+1)) j2 j3 j4 j5 j6 j7 i2 i4 hl hj
        have Z1:=Hd z1;have Z2:=Hd z2;clear z1 z2 j1 j2 j3 j4 j5 j6 j7 i2 i3 i4
        gi_wp2
        refine⟨Z1.out,?_⟩;show SightI w0 N0 g W.heap.size ⟨s,⟨na,nc,ia,ic⟩,aa,ac,da,dc⟩ node ly [D] (J (cntU t node (bB t node).length+(gP t node (k+1)).length)) (fun _=>False) W G W3
        rw[HS.o];exact Z2.out
       .obtain⟨z1,z2⟩:=SightI.yielded ha (J':=fun Gs X=>∃k,k<=(zE t node).length/\Jx k Gs X) j2 j3 j4 j5 j6 j7 i2 i4 hl ⟨_,Hq.o,hj⟩
        have Z1:=Hd z1;have Z2:=Hd z2;clear z1 z2 j1 j2 j3 j4 j5 j6 j7 i2 i3 i4
        gi_wp2
        exact⟨Z1.out,rfl,Z2.out⟩
  case done3=>
   rintro D2 G2 B2 hD2 hc hd hC hI;obtain⟨⟨Gs2,j1,j2,j3,-,j5,j6,j7⟩,-,-,i4⟩:=id hI;clear hI;obtain⟨d1,d2,d3⟩:=j7 D (by simp);have hF:D2≠D:=fun e=>d2 (e▸hd);have s1:StepG Gs2 B2 Gs2 (B2.putObj D2 (.deferred none)):=StepG.same (Turns.putObj (j3 D2 hd) _) (fun i hi=>(j2.mem i hi).2);have s2:StepG Gs2 (B2.putObj D2 (.deferred none)) Gs2 ((B2.putObj D2 (.deferred none)).putObj D (.deferred none)):=StepG.same (Turns.putObj d3 _) (fun i hi=>by simpa using(j2.mem i hi).2)
   have h4:J (zE t node).length Gs2 B2:=by
    have e:(zE t node).length=cntU t node (bB t node).length+(gP t node (rI t.items).length).length:=by
     rw[Hr.o,Hw.o,vQ,Hs.o,List.length_append]
    rw[e];exact j1
   have HF:=Hd (show ∃G,Gd N0 G ((B2.putObj D2 (.deferred none)).putObj D (.deferred none))/\(J (zE t node).length G ((B2.putObj D2 (.deferred none)).putObj D (.deferred none))\/∃k,k<=(zE t node).length/\Jx k G ((B2.putObj D2 (.deferred none)).putObj D (.deferred none)))from
    ⟨Gs2,(j2.step s1).step s2,.inl (HJ.o _ _ _ _ _ (HJ.o _ _ _ _ _ h4 s1) s2)⟩)
   have Hi:=Hd hc;have Hh:=Hd ((World.putObj_heap_other (w:=B2) (r:=D2) (o:=.deferred none) (Ne.symm hF)).trans d1);clear j1 j2 j3 j5 j6 j7 s1 s2 h4 hc d1 d2 d3 hF;go_wp2;refine⟨by simp,.inl ⟨_,_,rfl,run_takeDeferred Hi.o,?_⟩⟩;refine⟨by simp,.inl ⟨_,_,rfl,run_takeDeferred Hh.o,?_⟩⟩;exact⟨_,results_none rfl _ _ _,⟨_,rfl⟩,HF.o⟩
  case stop3=>
   rintro D2 c k G2 B2 hD2 hc hd hC hk⟨rfl,hI⟩;obtain⟨⟨Gs2,⟨k',hW,hE⟩,j2,j3,-,j5,j6,j7⟩,-,-,i4⟩:=id hI;clear hI;obtain⟨d1,d2,d3⟩:=j7 D (by simp);have hF:D2≠D:=fun e=>d2 (e▸hd);have s1:StepG Gs2 B2 Gs2 (B2.putObj D2 (.deferred none)):=StepG.same (Turns.putObj (j3 D2 hd) _) (fun i hi=>(j2.mem i hi).2);have s2:StepG Gs2 (B2.putObj D2 (.deferred none)) Gs2 ((B2.putObj D2 (.deferred none)).putObj D (.deferred none)):=StepG.same (Turns.putObj d3 _) (fun i hi=>by simpa using(j2.mem i hi).2)
   have HF:=Hd (show ∃G,Gd N0 G ((B2.putObj D2 (.deferred none)).putObj D (.deferred none))/\(J (zE t node).length G ((B2.putObj D2 (.deferred none)).putObj D (.deferred none))\/∃k,k<=(zE t node).length/\Jx k G ((B2.putObj D2 (.deferred none)).putObj D (.deferred none)))from
    ⟨Gs2,(j2.step s1).step s2,.inr ⟨k',hW,Hf.o _ _ _ _ _ (Hf.o _ _ _ _ _ hE s1) s2⟩⟩)
   have Hi:=Hd hc;have Hh:=Hd ((World.putObj_heap_other (w:=B2) (r:=D2) (o:=.deferred none) (Ne.symm hF)).trans d1);clear j2 j3 j5 j6 j7 s1 s2 hE hc d1 d2 d3 hF
   gi_wp2
   refine⟨by simp,.inl ⟨_,_,rfl,run_takeDeferred Hi.o,?_⟩⟩;refine⟨by simp,.inl ⟨_,_,rfl,run_takeDeferred Hh.o,?_⟩⟩;exact⟨_,results_none rfl _ _ _,⟨_,rfl⟩,HF.o⟩
 case stop=>
  rintro D c k G B hD hv hw he hk⟨rfl,hI⟩;obtain⟨⟨Gs,⟨k',hW,hE⟩,j2,j3,-⟩,-⟩:=hI;have stepD:StepG Gs B Gs (B.putObj D (.deferred none)):=StepG.same (Turns.putObj (j3 D hw) _) (fun i hi=>(j2.mem i hi).2)
  have HF:=Hd (show ∃G,Gd N0 G (B.putObj D (.deferred none))/\(J (zE t node).length G (B.putObj D (.deferred none))\/∃k,k<=(zE t node).length/\Jx k G (B.putObj D (.deferred none)))from
   ⟨Gs,j2.step stepD,.inr ⟨k',hW,Hf.o _ _ _ _ _ hE stepD⟩⟩)
  have Hc:=Hd hv;clear hE j2 j3 stepD hv hw he
  gi_wp2
  refine⟨by simp,.inl ⟨_,_,rfl,run_takeDeferred Hc.o,?_⟩⟩;exact⟨_,results_none rfl _ _ _,⟨_,rfl⟩,HF.o⟩
end
section
open Go Go.RowKit
attribute [local go_sem] Oper.semAt_some
theorem lI{t:Tr}(wf:WF t){node:Nat}{x:Int}(h:x∈zE t node):0<=x/\x<t.nodes.length:=by
 unfold zE at h;rcases List.mem_append.1 h with h|h
 .exact mK wf (List.mem_append_left _ h)
 .exact wf.item x (List.mem_filter.1 (List.mem_reverse.1 h)).1
structure MeantI (w:World) (p:ProgV) (D:Nd) (G:Nat->Prop) (X:World):Prop where
 below:Below w.heap.size w X
 c0:X.cell? ⟨w.heap.size,0,none⟩=some p.ptr
 cr:∃v:Int,X.cell? ⟨w.heap.size+1,0,none⟩=some (intV v)
 fr:X.frozen? ⟨w.heap.size+1,0,none⟩=false
 d0:X.cell? ⟨w.heap.size+1+1,0,none⟩=some (.int .u8 D.kind)
 d1:X.cell? ⟨w.heap.size+1+1,1,none⟩=some (strV D.text)
 g:¬G w.heap.size/\¬G (w.heap.size+1)/\¬G (w.heap.size+1+1)
 low:∀i,G i->w.heap.size<=i
theorem MeantI.lt{w X:World}{p:ProgV}{D:Nd}{G:Nat->Prop}(h:MeantI w p D G X):w.heap.size+1+1<X.heap.size:=World.block_lt_of_cell? X _ h.d0
theorem MeantI.step{w X Y:World}{p:ProgV}{D:Nd}{G G':Nat->Prop}(h:MeantI w p D G X)(s:StepG G X G' Y):MeantI w p D G' Y:=by
 have hl:=h.lt;obtain⟨h1,h2,⟨v,h3⟩,h4,h5,h6,⟨g0,g1,g2⟩,h8⟩:=h;have nw:∀i,i<X.heap.size->¬G i->¬G' i:=fun i hi hn hh=>(s.news i hh).elim hn (fun h=>by omega)
 exact⟨h1.trans (s.turns.below h8 (by omega)),(s.turns.cell (by omega) g0).trans h2,⟨v,(s.turns.cell (by omega) g1).trans h3⟩,(s.turns.frozen (by omega) g1).trans h4,(s.turns.cell hl g2).trans h5,(s.turns.cell hl g2).trans h6,⟨nw _ (by omega) g0,nw _ (by omega) g1,nw _ hl g2⟩,
  fun i hi=>(s.news i hi).elim (h8 i) (fun h=>by omega)⟩
theorem MeantI.grow{w X Y:World}{p:ProgV}{D:Nd}{G:Nat->Prop}(h:MeantI w p D G X)(hb:Below X.heap.size X Y)(hg:∀i,G i->i<X.heap.size):MeantI w p D G Y:=h.step (StepG.of_below hb hg)
theorem MeantI.set{w X:World}{p:ProgV}{D:Nd}{G:Nat->Prop}(h:MeantI w p D G X)(v:Int):MeantI w p D G (X.setCell ⟨w.heap.size+1,0,none⟩ (intV v))/\(X.setCell ⟨w.heap.size+1,0,none⟩ (intV v)).cell? ⟨w.heap.size+1,0,none⟩=some (intV v) /\
 Keeps (w.heap.size <= ·) G X (X.setCell ⟨w.heap.size+1,0,none⟩ (intV v)):=by
 obtain⟨h1,h2,⟨v',h3⟩,h4,h5,h6,⟨g0,g1,g2⟩,h8⟩:=h;have hc:=World.cell?_setCell_same X ⟨w.heap.size+1,0,none⟩ (intV v) h3;refine⟨⟨h1.setCell (by simp) _,?_,⟨v,hc⟩,by rw[World.frozen?_setCell];exact h4,?_,?_,⟨g0,g1,g2⟩,h8⟩,hc,Turns.setCell (a:=⟨w.heap.size+1,0,none⟩) ⟨g1,by simp⟩ _⟩
 .rw[World.cell?_setCell_other _ _ _ _ (by simp)];exact h2
 .rw[World.cell?_setCell_other _ _ _ _ (by simp)];exact h5
 .rw[World.cell?_setCell_other _ _ _ _ (by simp)];exact h6
theorem box5(w:World)(s:Nat)(D:Nd)(ka:Option Addr)(kc:Nat)(node:Int):∃Wa,fC (boxD ((w.alloc (.cells #[.pointer (some ⟨s,0,none⟩)] 82)).alloc (.cells #[.int .i64 0] 3)) ka kc D) (.pointer (some ⟨s,0,none⟩)) node=Wa /\
 Wa.heap.size=w.heap.size+1+1+1+1+1/\Below w.heap.size w Wa/\(Wa.cell? ⟨w.heap.size,0,none⟩=some (.pointer (some ⟨s,0,none⟩))/\Wa.cell? ⟨w.heap.size+1,0,none⟩=some (intV 0)/\Wa.frozen? ⟨w.heap.size+1,0,none⟩=false) /\
 (Wa.cell? ⟨w.heap.size+1+1,0,none⟩=some (.int .u8 D.kind)/\Wa.cell? ⟨w.heap.size+1+1,1,none⟩=some (strV D.text)) /\
 Wa.cell? ⟨w.heap.size+1+1+1,0,none⟩=some (.pointer (some ⟨s,0,none⟩))/\Wa.cell? ⟨w.heap.size+1+1+1+1,0,none⟩=some (intV node):=by
 refine⟨_,rfl,by simp,(((((Below.refl _ w).alloc nlr _).alloc (by simp) _).alloc (by simp;omega) _).alloc (by simp;omega) _).alloc (by simp;omega) _,⟨?_,?_,?_⟩,⟨?_,?_⟩,?_,?_⟩;all_goals (unfold fC boxD;go_simp)
theorem DL(p:ProgV)(t:Tr)(ups decl:List Int)(node:Nat)(w:World)(wf:WF t)(hn:node<t.nodes.length)(hu:IsUps t ups)(hp:IsProg w p t ups decl) :
 Calls prog 82 #[p.ptr,intV node] w (kS w (aL t node)):=by
 obtain⟨b,o,ka,kc,ea,hb,n0,n1,n2,n3,n4,-⟩:=hp.tree.nodes.at hn;have h0:=wf.bd.n;have hN:=hp.c0;have hR:=hp.lt;have hw:=t.nd_at hn;obtain⟨D,hD⟩:∃D,t.nodes[node]=D:=⟨_,rfl⟩
 rw[hD]at n0 n1 n2 n3 n4 hw;have HP:=Hd hp;have HU:=Hd hu;have WFF:=Hd wf;have Hn:=Hd hw;have hB:=fun(s:Nat)=>box5 w s D ka kc node;have Hk:=Hd hB;clear hp hu wf hD hw hB;obtain⟨s,⟨na,nc,ia,ic⟩,aa,ac,da,dc⟩:=p;simp only at ea hN hR;subst ea;have Ho:Hid (∀(w2:World),Calls prog 123 #[.pointer (some ⟨s,0,none⟩),intV node] w2 fun e w'=>e=.returned (.func (.func 160) #[] #[.pointer (some ⟨w2.heap.size,0,none⟩),.pointer (some ⟨w2.heap.size+1,0,none⟩)])/\fC w2 (.pointer (some ⟨s,0,none⟩)) node=w'):=Hd (fun w2=>xS s node w2);refine callsIn_wide.1 (?_:CallsIn Fence.wide 0 _ _ _ _ _);refine callsIn_of_wp_marks (n:=0) func82 rfl trivial ?_ rfl;simp only[ntmps82,List.size_toArray,List.length_cons,List.length_nil,Nat.reduceAdd,Nat.reduceSub,Array.replicate_succ,Array.replicate_zero,List.push_toArray,List.append_toArray,List.nil_append,List.cons_append];refine wpIn_wide.2 ?_
 go_wp2_with (go_at_call 123;refine(Ho.o _).mono ?_;rintro e w' ⟨rfl,rfl⟩)
 obtain⟨Wa,hA,h2,ht,⟨ca0,ca1,fa1⟩,⟨cd0,cd1⟩,cg0,cg1⟩:=Hk.o s;rw[hA];clear hA Hk Ho;have Hs:Hid (MeantI w ⟨s,⟨some ⟨b,o,none⟩,nc,ia,ic⟩,aa,ac,da,dc⟩ D (fun i=>i=w.heap.size+1+1+1\/i=w.heap.size+1+1+1+1) Wa):=Hd ⟨ht,ca0,⟨0,ca1⟩,fa1,cd0,cd1,⟨by omega,by omega,by omega⟩,fun i h=>by omega⟩;have Hr:Hid (Gd (w.heap.size <= ·) (fun i=>i=w.heap.size+1+1+1\/i=w.heap.size+1+1+1+1) Wa):=Hd ⟨fun i h=>by omega,fun i h=>by omega⟩;have Hq:=Hd ht;clear ca0 ca1 fa1 cd0 cd1 ht;refine(wpIn_wide (n:=0)).1 ?_
 refine kM (gf:=160) (lb:=#[.pointer (some ⟨w.heap.size+1+1+1,0,none⟩),.pointer (some ⟨w.heap.size+1+1+1+1,0,none⟩)]) rfl (enters_of func160 (by kernel_rfl) rfl)
  (DM ⟨s,⟨some ⟨b,o,none⟩,nc,ia,ic⟩,aa,ac,da,dc⟩ t ups decl node w Wa (w.heap.size <= ·) (w.heap.size+1+1+1) WFF.out hn HU.o HP.o (Apart.ge nlr) (Kept.of_below Hq.o nlr) cg0 cg1) (Turns.refl _ _) Hr.o (fun _=>rfl)
  (fun k G X=>MeantI w ⟨s,⟨some ⟨b,o,none⟩,nc,ia,ic⟩,aa,ac,da,dc⟩ D G X/\(zE t node).find? (fun d=>(t.nd d).text==D.text)=((zE t node).drop k).find? (fun d=>(t.nd d).text==D.text))
  (fun c _ G X=>MeantI w ⟨s,⟨some ⟨b,o,none⟩,nc,ia,ic⟩,aa,ac,da,dc⟩ D G X/\(c=.ret/\X.cell? ⟨w.heap.size+1,0,none⟩=some (intV (aL t node))\/c=.exit 0/\aL t node = -1))
  (fun k G X G' Y h st=>⟨h.1.step st,h.2⟩) (fun c k G X G' Y h st=>⟨h.1.step st,h.2.imp (fun e=>⟨e.1,(st.turns.cell (by have:=h.1.lt;omega) h.1.g.2.1).trans e.2⟩) id⟩) ⟨Hs.o,rfl⟩
  (fun d=>{ tmps:=#[.pointer (some ⟨s,0,none⟩),intV node,.pointer (some ⟨w.heap.size,0,none⟩),undef,.pointer (some ⟨w.heap.size+1,0,none⟩),.pointer (some ⟨w.heap.size+1+1,0,none⟩),intV d,undef,.pointer (some ⟨s,0,none⟩),.pointer (some ⟨s,0,none⟩),.pointer (some ⟨s,0,none⟩),.pointer (some ⟨s,0,none⟩),.slice (some ⟨b,o,none⟩) t.nodes.length nc,intV node,.pointer (some ⟨b,o+node*5,none⟩),.agg #[.int .u8 D.kind,strV D.text,intV D.n,.slice ka D.kids.length kc,intV D.pos],.pointer (some ⟨s,0,none⟩),intV node,.func (.func 160) #[] #[.pointer (some ⟨w.heap.size+1+1+1,0,none⟩),.pointer (some ⟨w.heap.size+1+1+1+1,0,none⟩)],intV d,undef,undef,undef,undef,undef,undef,undef,undef,undef,undef,undef,undef,undef,undef,undef,undef,undef,undef,undef],defers:=[] }) ?assign ?body ?done ?stop
 case assign=>
  intro l x W9 K hK
  gi_wp2
  exact hK
 case body=>
  rintro l k d G A hx hS⟨r,hr⟩ ho⟨hM,hF⟩;obtain⟨hk,hJ⟩:=List.getElem?_eq_some_iff.1 hx;obtain⟨hE,hX⟩:=lI WFF.out (List.mem_of_getElem? hx);obtain⟨m,rfl⟩:=Int.eq_ofNat_of_zero_le hE;have hm:m<t.nodes.length:=by omega
  have hy:=HP.o.mono hM.below nlr;have hO:=hy.c0;obtain⟨b',o',ka',kc',ea',hU,m0,m1,m2,m3,m4,-⟩:=hy.tree.nodes.at hm;simp only[Option.some.injEq,Addr.mk.injEq,and_true]at ea';obtain⟨rfl,rfl⟩:=ea';have hh:=t.nd_at hm;obtain⟨D2,hz⟩:∃D2,t.nodes[m]=D2:=⟨_,rfl⟩
  rw[hz]at m0 m1 m2 m3 m4 hh;have hW:A.cell? ⟨w.heap.size,0,none⟩=some (.pointer (some ⟨s,0,none⟩)):=hM.c0;obtain⟨rv,hC⟩:=hM.cr;have hH:=hM.fr;have hY:=hM.d0;have hZ:=hM.d1;have hT:=hM.lt;have hV:=hM.below.size;have h1:s<A.heap.size:=by omega
  have Hf:=Hd hM;have Hh:=Hd ho;have Hj:=Hd hJ;have Hi:=Hd hh;have Hm:=Hd hF;have Hp:Hid (∀W,Calls prog 124 #[.int .u8 D.kind,.int .u8 D2.kind] W (zD W (suits D.kind D2.kind))):=Hd (fun W=>FJ _ _ W);clear hM ho hx hE hr hy hz hh hJ hF
  cases he:D2.text==D.text with
  | false=>
    have HE:=Hd he
    gi_wp2
    have ha:=(Below.refl A.heap.size A).alloc nlr (.cells #[.int .u8 D2.kind,strV D2.text,intV D2.n,.slice ka' D2.kids.length kc',intV D2.pos] 31)
    exact⟨Keeps.of_below ha,Hf.o.grow ha (fun i hi=>(Hh.o.mem i hi).2),by
     rw[Hm.o,IQ hk (by rw[Hj.o,Hi.o];exact HE.o)]⟩
  | true=>
    have hG:(zE t node).find? (fun d=>(t.nd d).text==D.text)=some (m:Int):=by
     rw[Hm.o,MH hk (by rw[Hj.o,Hi.o];exact he),Hj.o]
    have hg:aL t node=if suits D.kind D2.kind then (m:Int)else -1:=by
     unfold aL;rw[Hn.o,hG];simp only[Hi.o]
    have Hb:=Hd hg;clear hG hg
    cases hs:suits D.kind D2.kind with
    | true=>
      have HS:=Hd hs;clear hs
      gi_wp2_with (refine⟨trivial,rfl,?_⟩;refine(CallsIn.inRound l (callsIn_wide.2 (Hp.o _))).mono ?_;rw[HS.o];rintro e w9 ⟨rfl,hl⟩;have ha:=((Below.refl A.heap.size A).alloc nlr _).trans (hl.mono (by simp));have He:=Hd (Hf.o.grow ha (fun i hi=>(Hh.o.mem i hi).2));obtain⟨rv9,hP⟩:=He.o.cr;have hQ:=He.o.fr;have Ha:=Hd ha;clear hl ha)
      obtain⟨z1,z2,z3⟩:=He.o.set (m:Int);exact⟨(Keeps.of_below Ha.o).trans z3,z1,.inl ⟨rfl,by rw[Hb.o,HS.o,if_pos rfl];exact z2⟩⟩
    | false=>
      have HS:=Hd hs;clear hs
      gi_wp2_with (refine⟨trivial,rfl,?_⟩;refine(CallsIn.inRound l (callsIn_wide.2 (Hp.o _))).mono ?_;rw[HS.o];rintro e w9 ⟨rfl,hl⟩;have ha:=((Below.refl A.heap.size A).alloc nlr _).trans (hl.mono (by simp));have He:=Hd (Hf.o.grow ha (fun i hi=>(Hh.o.mem i hi).2));have Ha:=Hd ha;clear hl ha)
      exact⟨Keeps.of_below Ha.o,He.o,.inr ⟨rfl,by rw[Hb.o,HS.o];rfl⟩⟩
 case done=>
  rintro D9 G B hD hf hq hv⟨hM,hF⟩
  have hg:aL t node = -1:=by
   unfold aL;rw[Hn.o,hF,List.drop_length];rfl
  have Hb:=Hd hg;have Hf:=Hd hM;have Hl:=Hd hf;have hj:D9≠w.heap.size+1:=fun e=>hM.g.2.1 (e▸hq);obtain⟨rv,hC⟩:=hM.cr;have hH:=hM.fr;have Ht:=Hd (zB hf);obtain⟨z1,z2,z3⟩:=hM.set (-1);have hL:w.heap.size<=D9:=by omega
  have hI:=z1.lt;have hd:((B.setCell ⟨w.heap.size+1,0,none⟩ (intV (-1))).putObj D9 (.deferred none)).cell? ⟨w.heap.size+1,0,none⟩=some (intV (-1)):=((Turns.putObj (M:=fun i=>i=D9) (X:=(B.setCell ⟨w.heap.size+1,0,none⟩ (intV (-1)))) rfl (.deferred none)).cell (by omega) (Ne.symm hj)).trans (z2);have ha:Below w.heap.size w ((B.setCell ⟨w.heap.size+1,0,none⟩ (intV (-1))).putObj D9 (.deferred none)):=(z1.below).trans (Turns.below (Turns.putObj (M:=fun i=>i=D9) rfl _) (fun k h=>by omega) (z1.below.size));have Hc:=Hd hd;have Ha:=Hd ha;have Hg:=Hd ((Below.heap_setCell B ⟨w.heap.size+1,0,none⟩ (intV (-1)) D9 hj).trans hf);clear hM hF hf hg z1 z2 z3 hd ha;go_wp2;refine⟨by simp,.inl ⟨_,_,rfl,run_takeDeferred Hg.o,?_⟩⟩;refine⟨intV (-1),?_,by rw[Hb.o],Ha.o⟩;have hd:=Hc.o;simp[results,results82,go_sem,loadVar,hd,Result.andThen]
 case stop=>
  rintro D9 c k G B hD hf hq hv hk⟨hM,hc⟩;have hj:D9≠w.heap.size+1:=fun e=>hM.g.2.1 (e▸hq);have hL:w.heap.size<=D9:=by omega
  rcases hc with⟨rfl,hc⟩|⟨rfl,hg⟩
  .have hI:=hM.lt
   have hd:(B.putObj D9 (.deferred none)).cell? ⟨w.heap.size+1,0,none⟩=some (intV (aL t node)):=((Turns.putObj (M:=fun i=>i=D9) (X:=B) rfl (.deferred none)).cell (by omega) (Ne.symm hj)).trans (hc);have ha:Below w.heap.size w (B.putObj D9 (.deferred none)):=(hM.below).trans (Turns.below (Turns.putObj (M:=fun i=>i=D9) rfl _) (fun k h=>by omega) (hM.below.size));have Hc:=Hd hd;have Ha:=Hd ha;have Hl:=Hd hf;clear hM hc hf hd ha
   gi_wp2
   refine⟨by simp,.inl ⟨_,_,rfl,run_takeDeferred Hl.o,?_⟩⟩;refine⟨intV (aL t node),?_,rfl,Ha.o⟩;have hd:=Hc.o;simp[results,results82,go_sem,loadVar,hd,Result.andThen]
  .have Hb:=Hd hg
   obtain⟨z1,z2,z3⟩:=hM.set (-1);have hI:=z1.lt;have hd:((B.setCell ⟨w.heap.size+1,0,none⟩ (intV (-1))).putObj D9 (.deferred none)).cell? ⟨w.heap.size+1,0,none⟩=some (intV (-1)):=((Turns.putObj (M:=fun i=>i=D9) (X:=(B.setCell ⟨w.heap.size+1,0,none⟩ (intV (-1)))) rfl (.deferred none)).cell (by omega) (Ne.symm hj)).trans (z2);have ha:Below w.heap.size w ((B.setCell ⟨w.heap.size+1,0,none⟩ (intV (-1))).putObj D9 (.deferred none)):=(z1.below).trans (Turns.below (Turns.putObj (M:=fun i=>i=D9) rfl _) (fun k h=>by omega) (z1.below.size));have Hc:=Hd hd;have Ha:=Hd ha;have Hg:=Hd ((Below.heap_setCell B ⟨w.heap.size+1,0,none⟩ (intV (-1)) D9 hj).trans hf);obtain⟨rv,hC⟩:=hM.cr;have hH:=hM.fr;clear hM hf hg z1 z2 z3 hd ha
   repeat (first|(refine(wpIn_wide (n:=0)).1 ?_;gi_wp2)|gi_step|go_step)
   refine⟨by simp,.inl ⟨_,_,rfl,run_takeDeferred Hg.o,?_⟩⟩;refine⟨intV (-1),?_,by rw[Hb.o],Ha.o⟩;have hd:=Hc.o;simp[results,results82,go_sem,loadVar,hd,Result.andThen]
end
section
open Go Go.RowKit
attribute [local go_sem] Oper.semAt_some
def ownL(t:Tr)(d:Int)(l:List (Int×Int)):Bool:=match l.find? (fun x=>x.2==d)with
 |some x=>(t.nd d).kids[(t.nd d).kids.length-1]?==some x.1
 |none=>false
theorem JJ(t:Tr)(d:Int):∀(f:Nat) (kid up:Int),ownF t d f kid up=ownL t d (gX t f kid up)
 |0,kid,up=>rfl
 | f+1,kid,up=>by
   rw[ownF,gX];by_cases h:up<0
   .rw[if_pos h,if_pos h];rfl
   .rw[if_neg h,if_neg h]
    unfold ownL;by_cases e:up=d
    .rw[if_pos e,List.find?_cons,show((kid,up).2==d)=true by simpa using e]
    .rw[if_neg e,List.find?_cons,show((kid,up).2==d)=false by simpa using e]
     exact JJ t d f _ _
theorem IV(t:Tr)(node d:Int):fA t node d=ownL t d (bB t node):=JJ _ _ _ _ _
structure OwnW (w:World) (p:ProgV) (d:Int) (G:Nat->Prop) (X:World):Prop where
 below:Below w.heap.size w X
 c0:X.cell? ⟨w.heap.size,0,none⟩=some p.ptr
 c1:X.cell? ⟨w.heap.size+1,0,none⟩=some (intV d)
 cr:∃v:Bool,X.cell? ⟨w.heap.size+1+1,0,none⟩=some (.bool v)
 fr:X.frozen? ⟨w.heap.size+1+1,0,none⟩=false
 g:¬G w.heap.size/\¬G (w.heap.size+1)/\¬G (w.heap.size+1+1)
 low:∀i,G i->w.heap.size<=i
theorem OwnW.lt{w X:World}{p:ProgV}{d:Int}{G:Nat->Prop}(h:OwnW w p d G X):w.heap.size+1+1<X.heap.size:=by
 obtain⟨v,h3⟩:=h.cr;exact World.block_lt_of_cell? X _ h3
theorem OwnW.step{w X Y:World}{p:ProgV}{d:Int}{G G':Nat->Prop}(h:OwnW w p d G X)(s:StepG G X G' Y):OwnW w p d G' Y:=by
 have hl:=h.lt;obtain⟨h1,h2,h5,⟨v,h3⟩,h4,⟨g0,g1,g2⟩,h8⟩:=h;have nw:∀i,i<X.heap.size->¬G i->¬G' i:=fun i hi hn hh=>(s.news i hh).elim hn (fun h=>by omega)
 exact⟨h1.trans (s.turns.below h8 (by omega)),(s.turns.cell (by omega) g0).trans h2,(s.turns.cell (by omega) g1).trans h5,⟨v,(s.turns.cell (by omega) g2).trans h3⟩,(s.turns.frozen (by omega) g2).trans h4,⟨nw _ (by omega) g0,nw _ (by omega) g1,nw _ hl g2⟩,
  fun i hi=>(s.news i hi).elim (h8 i) (fun h=>by omega)⟩
theorem OwnW.set{w X:World}{p:ProgV}{d:Int}{G:Nat->Prop}(h:OwnW w p d G X)(v:Bool):OwnW w p d G (X.setCell ⟨w.heap.size+1+1,0,none⟩ (.bool v))/\(X.setCell ⟨w.heap.size+1+1,0,none⟩ (.bool v)).cell? ⟨w.heap.size+1+1,0,none⟩=some (.bool v) /\
 Keeps (w.heap.size <= ·) G X (X.setCell ⟨w.heap.size+1+1,0,none⟩ (.bool v)):=by
 obtain⟨h1,h2,h5,⟨v',h3⟩,h4,⟨g0,g1,g2⟩,h8⟩:=h;have hc:=World.cell?_setCell_same X ⟨w.heap.size+1+1,0,none⟩ (.bool v) h3;refine⟨⟨h1.setCell (by simp;omega) _,?_,?_,⟨v,hc⟩,by rw[World.frozen?_setCell];exact h4,⟨g0,g1,g2⟩,h8⟩,hc,Turns.setCell (a:=⟨w.heap.size+1+1,0,none⟩) ⟨g2,by simp;omega⟩ _⟩
 .rw[World.cell?_setCell_other _ _ _ _ (by simp)];exact h2
 .rw[World.cell?_setCell_other _ _ _ _ (by simp)];exact h5
theorem box4(w:World)(s:Nat)(node d:Int):∃Wa,fC (((w.alloc (.cells #[.pointer (some ⟨s,0,none⟩)] 82)).alloc (.cells #[intV d] 3)).alloc (.cells #[.bool false] 4)) (.pointer (some ⟨s,0,none⟩)) node=Wa /\
 Wa.heap.size=w.heap.size+1+1+1+1+1/\Below w.heap.size w Wa/\(Wa.cell? ⟨w.heap.size,0,none⟩=some (.pointer (some ⟨s,0,none⟩))/\Wa.cell? ⟨w.heap.size+1,0,none⟩=some (intV d)/\Wa.cell? ⟨w.heap.size+1+1,0,none⟩=some (.bool false)/\Wa.frozen? ⟨w.heap.size+1+1,0,none⟩=false) /\
 Wa.cell? ⟨w.heap.size+1+1+1,0,none⟩=some (.pointer (some ⟨s,0,none⟩))/\Wa.cell? ⟨w.heap.size+1+1+1+1,0,none⟩=some (intV node)/\Wa.frozen? ⟨w.heap.size+1+1+1+1,0,none⟩=false:=by
 refine⟨_,rfl,by simp,(((((Below.refl _ w).alloc nlr _).alloc (by simp) _).alloc (by simp;omega) _).alloc (by simp;omega) _).alloc (by simp;omega) _,⟨?_,?_,?_,?_⟩,?_,?_,?_⟩;all_goals (unfold fC;go_simp)
theorem DK(p:ProgV)(t:Tr)(ups decl:List Int)(node d:Nat)(w:World)(wf:WF t)(hn:node<t.nodes.length)(hd:d<t.nodes.length)(h42:(t.nd d).kind=42)(hu:IsUps t ups)(hp:IsProg w p t ups decl) :
 Calls prog 83 #[p.ptr,intV node,intV d] w (zD w (fA t node d)):=by
 have hV:prog.follows .mixedOrders=true:=by kernel_rfl
 have h6:=wf.bd.n;have hW:=hp.lt;have HP:=Hd hp;have HU:=Hd hu;have WFF:=Hd wf;have Hj:=Hd h42;have Hf:=Hd (fun(s:Nat)=>box4 w s node d);have HE:=Hd (IV t node d);clear hp hu wf h42;obtain⟨s,v,aa,ac,da,dc⟩:=p;simp only at hW;have Hi:Hid (∀(w2:World),Calls prog 125 #[.pointer (some ⟨s,0,none⟩),intV node] w2 fun e w'=>e=.returned (.func (.func 164) #[] #[.pointer (some ⟨w2.heap.size,0,none⟩),.pointer (some ⟨w2.heap.size+1,0,none⟩)])/\fC w2 (.pointer (some ⟨s,0,none⟩)) node=w'):=Hd (fun w2=>rQ s node w2);refine callsIn_wide.1 (?_:CallsIn Fence.wide 0 _ _ _ _ _);refine callsIn_of_wp_marks (n:=0) func83 rfl trivial ?_ rfl;simp only[ntmps83,List.size_toArray,List.length_cons,List.length_nil,Nat.reduceAdd,Nat.reduceSub,Array.replicate_succ,Array.replicate_zero,List.push_toArray,List.append_toArray,List.nil_append,List.cons_append];refine wpIn_wide.2 ?_
 go_wp2_with (go_at_call 125;refine(Hi.o _).mono ?_;rintro e w' ⟨rfl,rfl⟩)
 obtain⟨Wa,hE,h8,hw,⟨ca0,ca1,ca2,fa2⟩,cg0,cg1,cgf⟩:=Hf.o s;rw[hE];clear hE Hf Hi;have Hr:Hid (OwnW w ⟨s,v,aa,ac,da,dc⟩ d (fun i=>i=w.heap.size+1+1+1\/i=w.heap.size+1+1+1+1) Wa):=Hd ⟨hw,ca0,ca1,⟨false,ca2⟩,fa2,⟨by omega,by omega,by omega⟩,fun i h=>by omega⟩;have Hq:Hid (Gd (w.heap.size <= ·) (fun i=>i=w.heap.size+1+1+1\/i=w.heap.size+1+1+1+1) Wa):=Hd ⟨fun i h=>by omega,fun i h=>by omega⟩;have Hk:Hid (ClimbW w (w.heap.size+1+1+1) ⟨s,v,aa,ac,da,dc⟩ node (fun i=>i=w.heap.size+1+1+1\/i=w.heap.size+1+1+1+1) Wa):=Hd ⟨Kept.of_below hw nlr,cg0,cg1,cgf,.inl rfl,.inr rfl⟩;clear ca0 ca1 ca2 fa2 cg0 cg1 cgf hw;refine(wpIn_wide (n:=0)).1 ?_
 refine kM (gf:=164) (lb:=#[.pointer (some ⟨w.heap.size+1+1+1,0,none⟩),.pointer (some ⟨w.heap.size+1+1+1+1,0,none⟩)]) rfl (enters_of func164 (by kernel_rfl) rfl)
  (uL ⟨s,v,aa,ac,da,dc⟩ t ups decl node w Wa (w.heap.size <= ·) (w.heap.size+1+1+1) WFF.out.bd hn HU.o HP.o (Apart.ge nlr) (fun i h=>by omega) Hk.o) (Turns.refl _ _) Hq.o (fun _=>rfl)
  (fun k G X=>OwnW w ⟨s,v,aa,ac,da,dc⟩ d G X/\fA t node d=ownL t d ((bB t node).drop k))
  (fun c _ G X=>OwnW w ⟨s,v,aa,ac,da,dc⟩ d G X/\c=.ret/\X.cell? ⟨w.heap.size+1+1,0,none⟩=some (.bool (fA t node d)))
  (fun k G X G' Y h st=>⟨h.1.step st,h.2⟩) (fun c k G X G' Y h st=>⟨h.1.step st,h.2.1,(st.turns.cell h.1.lt h.1.g.2.2).trans h.2.2⟩) ⟨Hr.o,HE.o⟩
  (fun x=>{ tmps:=#[.pointer (some ⟨s,0,none⟩),intV node,intV d,.pointer (some ⟨w.heap.size,0,none⟩),undef,.pointer (some ⟨w.heap.size+1,0,none⟩),.pointer (some ⟨w.heap.size+1+1,0,none⟩),intV x.1,intV x.2,.pointer (some ⟨s,0,none⟩),intV node,.func (.func 164) #[] #[.pointer (some ⟨w.heap.size+1+1+1,0,none⟩),.pointer (some ⟨w.heap.size+1+1+1+1,0,none⟩)],intV x.1,intV x.2,undef,undef,undef,undef,undef,undef,undef,undef,undef,undef,undef,undef,undef,undef,undef,undef,undef,undef,undef,undef,undef,undef,undef,undef,undef,undef,undef],defers:=[] }) ?assign ?body ?done ?stop
 case assign=>
  intro l x W9 K hK
  gi_wp2
  exact hK
 case body=>
  rintro l k⟨kid,up⟩ G A hx hX⟨r,hr⟩ ho⟨hM,hF⟩;obtain⟨hk,hC⟩:=List.getElem?_eq_some_iff.1 hx;have hB:=HP.o.mono hM.below nlr;have hy:=hB.c0;obtain⟨b,o,ka,kc,ea,hb,n0,n1,n2,n3,n4,hA⟩:=hB.tree.nodes.at hd;obtain⟨na,nc,ia,ic⟩:=v;simp only at ea hy;subst ea;have hl:=WFF.out.funK d hd;have hs:=t.nd_at hd;have hS:=WFF.out.bd.k _ (List.getElem_mem hd);have h42:=Hj.o;rw[hs]at h42;obtain⟨D,hD⟩:∃D,t.nodes[d]=D:=⟨_,rfl⟩
  rw[hD]at n0 n1 n2 n3 n4 hA hl hs hS h42;have h2:=hl h42;obtain⟨bk,ok,rfl,hZ,hG⟩:=Ints.at hA (i:=D.kids.length-1) (by omega);obtain⟨last,hf⟩:∃x,D.kids[D.kids.length-1]=x:=⟨_,rfl⟩
  rw[hf]at hG;have Hb:=Hd (show D.kids[D.kids.length-1]?=some last by rw[List.getElem?_eq_getElem (show D.kids.length-1<D.kids.length by omega),hf]);obtain⟨m,hm⟩:∃m,D.kids.length-1=m:=⟨_,rfl⟩
  rw[hm]at hG;have hU:m<D.kids.length:=by omega
  have hwr:IntKind.i64.wrap ((D.kids.length:Int)-1)=(m:Int):=by rw[IntKind.wrap_i64];omega
  have h1:A.cell? ⟨w.heap.size,0,none⟩=some (.pointer (some ⟨s,0,none⟩)):=hM.c0;have h3:=hM.c1;obtain⟨rv,hN⟩:=hM.cr;have hQ:=hM.fr;have hY:=hM.lt;have h0:=hM.below.size;have h7:s<A.heap.size:=by omega
  have Hh:=Hd hM;have Hp:=Hd ho;have Hv:=Hd hC;have Hu:=Hd hs;have Ho:=Hd hF;have h9:¬s=w.heap.size+1+1:=by omega
  have ha:=Ho.o;rw[List.drop_eq_getElem_cons hk,hC]at ha;have Hg:=Hd ha;clear hM ho hx hr hB hD hs hC hF hm hf hA ha;cases he:up==(d:Int)with
  | false=>
    have Hn:=Hd he
    gi_wp2
    exact⟨Turns.refl _ _,Hh.o,by
     rw[Hg.o];unfold ownL;rw[List.find?_cons,show((kid,up).2==(d:Int))=false from Hn.o]⟩
  | true=>
    obtain rfl:=eq_of_beq he
    have He:=Hd (show fA t node d=(last==kid) by
     rw[Hg.o];unfold ownL;rw[List.find?_cons,show((kid,(d:Int)).2==(d:Int))=true by simp];simp only;rw[Hu.o,Hb.o]
     rfl)
    clear he;have hw0:w.heap.size<A.heap.size:=by omega
    have hw1:w.heap.size+1<A.heap.size:=by omega
    gi_wp2
    refine N.regionIn_M 24 hV (by kernel_rfl) (by kernel_rfl) (by kernel_rfl) rfl (by kernel_rfl) (by kernel_rfl) (fun _ _=>False) N.Pans.no (fun Wz=>Below (A).heap.size (A) Wz) (fun Wy Wz=>Below Wy.heap.size Wy Wz) (brf.drew) [.fix ?vG1_0,.fix ?vG1_1,.fix ?vG1_2,.fix ?vG1_3,.fix ?vG1_4,.fix ?vG1_5,.fix ?vG1_6,.fix ?vG1_7,.fix ?vG1_8,.fix ?vG1_9,.fix ?vG1_10,.fix ?vG1_11,.fix ?vG1_12,.fix ?vG1_13,.fix ?vG1_14,.fix ?vG1_15,.fix ?vG1_16,.fix ?vG1_17,.fix ?vG1_18,.fix ?vG1_19,.fix ?vG1_20,.fix ?vG1_21,.fix ?vG1_22,.fix ?vG1_23] [[],[],[],[],[],[],[],[],[],[],[],[],[],[],[],[],[],[],[],[],[],[],[],[]] rfl (by kernel_rfl) (N.sts_kd ⟨trivial,trivial,trivial,trivial,trivial,trivial,trivial,trivial,trivial,trivial,trivial,trivial,trivial,trivial,trivial,trivial,trivial,trivial,trivial,trivial,trivial,trivial,trivial,trivial,trivial⟩) fun x=>?_;rotate_left 24
    iterate 24 (refine N.WalkMIn.fix ?_ ?_;refine N.StepSIn.known (by intro _ h;cases h) rfl (fun _=>rfl) (fun _=>brf) ?_;intro W hJ hP;obtain⟨h4,h5⟩:=bcell hJ;go_simp;rfl;simp only[N.pz])
    refine N.WalkMIn.nil fun W hJ hH=>?_;have hq:=Hh.o.step (StepG.of_below hJ (fun i hi=>(Hp.o.mem i hi).2));obtain⟨rv9,hO⟩:=hq.cr;have hR:=hq.fr;have Hs:=Hd hq;have Ha:=Hd hJ;clear hq hJ hH;simp only[List.drop_succ_cons,List.drop_zero]
    gi_wp2
    obtain⟨z1,z2,z3⟩:=Hs.o.set (last==kid);exact⟨(Keeps.of_below Ha.o).trans z3,z1,rfl,by rw[He.o];exact z2⟩
 case done=>
  rintro D9 G B hD hh hv hz⟨hM,hF⟩
  have hI:fA t node d=false:=by
   rw[hF,List.drop_length];rfl
  have Ht:=Hd hI;have ht:D9≠w.heap.size+1+1:=fun e=>hM.g.2.2 (e▸hv);obtain⟨rv,hN⟩:=hM.cr;have hQ:=hM.fr;obtain⟨z1,z2,z3⟩:=hM.set false;have hL:w.heap.size<=D9:=by omega
  have hT:=z1.lt;have hg:((B.setCell ⟨w.heap.size+1+1,0,none⟩ (.bool false)).putObj D9 (.deferred none)).cell? ⟨w.heap.size+1+1,0,none⟩=some (.bool (false)):=((Turns.putObj (M:=fun i=>i=D9) (X:=(B.setCell ⟨w.heap.size+1+1,0,none⟩ (.bool false))) rfl (.deferred none)).cell (by omega) (Ne.symm ht)).trans (z2);have hj:Below w.heap.size w ((B.setCell ⟨w.heap.size+1+1,0,none⟩ (.bool false)).putObj D9 (.deferred none)):=(z1.below).trans (Turns.below (Turns.putObj (M:=fun i=>i=D9) rfl _) (fun k h=>by omega) (z1.below.size));have Hc:=Hd hg;have Ha:=Hd hj;have Hm:=Hd ((Below.heap_setCell B ⟨w.heap.size+1+1,0,none⟩ (.bool false) D9 ht).trans hh);clear hM hF hh hI z1 z2 z3 hg hj;go_wp2;refine⟨by simp,.inl ⟨_,_,rfl,run_takeDeferred Hm.o,?_⟩⟩;refine⟨.bool (false),?_,by rw[Ht.o],Ha.o⟩;have hg:=Hc.o;simp[results,results83,go_sem,loadVar,hg,Result.andThen]
 case stop=>
  rintro D9 c k G B hD hh hv hz hk⟨hM,rfl,hc⟩;have ht:D9≠w.heap.size+1+1:=fun e=>hM.g.2.2 (e▸hv);have hL:w.heap.size<=D9:=by omega
  have hT:=hM.lt;have hg:(B.putObj D9 (.deferred none)).cell? ⟨w.heap.size+1+1,0,none⟩=some (.bool (fA t node d)):=((Turns.putObj (M:=fun i=>i=D9) (X:=B) rfl (.deferred none)).cell (by omega) (Ne.symm ht)).trans (hc);have hj:Below w.heap.size w (B.putObj D9 (.deferred none)):=(hM.below).trans (Turns.below (Turns.putObj (M:=fun i=>i=D9) rfl _) (fun k h=>by omega) (hM.below.size));have Hc:=Hd hg;have Ha:=Hd hj;have Hl:=Hd hh;clear hM hc hh hg hj
  gi_wp2
  refine⟨by simp,.inl ⟨_,_,rfl,run_takeDeferred Hl.o,?_⟩⟩;refine⟨.bool (fA t node d),?_,rfl,Ha.o⟩;have hg:=Hc.o;simp[results,results83,go_sem,loadVar,hg,Result.andThen]
end
section
open Go Go.RowKit
structure OpenW (w0:World) (p:ProgV) (t:Tr) (ups decl:List Int) (w:World):Prop where
 tree:IsTree w0 p.v t
 below:Below w0.heap.size w0 w
 prog:IsProg w p t ups decl
 own:w.ownsRow w0.heap.size 3 1 (.slice p.da t.nodes.length p.dc) t.nodes.length (zq decl)
 ps:w0.heap.size<=p.s
 ne:∀x,p.da=some x->x.block≠p.s/\∀y,p.aa=some y->y.block≠x.block
theorem OpenW.grow{w0 w w':World}{p:ProgV}{t:Tr}{ups decl:List Int}(h:OpenW w0 p t ups decl w)(hb:Below w.heap.size w w'):OpenW w0 p t ups decl w':=
 ⟨h.tree,h.below.trans (hb.mono h.below.size),h.prog.mono hb nlr,zL h.own hb,h.ps,h.ne⟩
theorem OpenW.set{w0 w:World}{p:ProgV}{t:Tr}{ups decl:List Int}(h:OpenW w0 p t ups decl w){i:Nat}(hi:i<t.nodes.length)(x:Int) :
 ∃g,p.da=some ⟨g,0,none⟩/\(∃y,w.cell? ⟨g,i,none⟩=some (intV y))/\w.frozen? ⟨g,i,none⟩=false/\OpenW w0 p t ups (decl.set i x) (w.setCell ⟨g,i,none⟩ (intV x))/\w0.heap.size<=g:=by
 obtain⟨g,hg,hB,hd,hl,hc,hf⟩:=iB h.own (by omega);obtain⟨tr,below,prog,own,ps,ne⟩:=h;obtain⟨s,v,aa,ac,da,dc⟩:=p;simp only at hg;subst hg;obtain⟨n1,n2⟩:=ne _ rfl;simp only at n1 n2 own ps tr;have hb:=below.setCell (p:=⟨g,i,none⟩) hB (intV x);have ha:∀j,(w.setCell ⟨g,i,none⟩ (intV x)).cell? ⟨s,j,none⟩=w.cell? ⟨s,j,none⟩:=fun j=>World.cell?_setCell_other _ _ _ _ (fun e=>n1 (congrArg Addr.block e));have own2:=qP own i x;obtain⟨c0,c1,c2,c3,ct,cu,cd⟩:=prog;refine⟨g,rfl,⟨_,hc i hi⟩,hf i,⟨tr,hb,⟨(ha 0).trans c0,(ha 1).trans c1,(ha 2).trans c2,(ha 3).trans c3,tr.mono hb nlr,bA cu _ (fun _ y e=>n2 y e),?_⟩,own2,ps,ne⟩,hB⟩;obtain⟨a',c',e,hr⟩:=aZ own2;simp at e;obtain⟨rfl,rfl⟩:=e;exact hr
def iW(t:Tr)(ups decl:List Int)(node:Nat):Int:=
 if eI t ups node then 6
 else if !bD (t.nd node).kind then 0
 else if aL t node == -1 then 10
 else if (t.nd node).kind==21&&((t.nd (aL t node)).n==0&&fA t node (aL t node))then 9
 else if (t.nd node).kind==45&&decl.contains (aL t node)then 9
 else 0
def IF(t:Tr)(decl:List Int)(node:Nat):List Int:=if bD (t.nd node).kind then decl.set node (aL t node)else decl
def BF(w0:World)(p:ProgV)(t:Tr)(ups decl:List Int)(node:Nat)(e:Ending)(w':World):Prop:=
 e=.returned (intV (iW t ups decl node))/\Below w0.heap.size w0 w'/\(iW t ups decl node=0->OpenW w0 p t ups (IF t decl node) w')
theorem vX{t:Tr}(wf:WF t){node:Nat}(h:aL t node ≠ -1):0<=aL t node/\aL t node<t.nodes.length/\suits (t.nd node).kind (t.nd (aL t node)).kind=true:=by
 unfold aL at *;cases hf:(zE t node).find? (fun d=>(t.nd d).text==(t.nd node).text)with
 |none=>rw[hf]at h;exact absurd rfl h
 | some d=>
   rw[hf]at h;have:=lI wf (List.mem_of_find?_eq_some hf)
   cases hs:suits (t.nd node).kind (t.nd d).kind with
   |false=>simp only[hs]at h;exact absurd rfl h
   |true=>simp only[hs];exact⟨this.1,this.2,hs⟩
theorem DJ(w0:World)(p:ProgV)(t:Tr)(ups decl:List Int)(node:Nat)(w:World)(wf:WF t)(hkid:∀i,i<t.nodes.length->nR t (t.nd i).kids)(hit:nR t t.items)(hn:node<t.nodes.length)(hu:IsUps t ups)(h:OpenW w0 p t ups decl w) :
 Calls prog 58 #[p.ptr,intV node] w (BF w0 p t ups decl node):=by
 have hX:=wf.bd.n;obtain⟨b,o,ka,kc,ea,hb,n0,n1,n2,n3,n4,-⟩:=h.prog.tree.nodes.at hn;have c0:=h.prog.c0;have c3:=h.prog.c3;have hB:=h.prog.lt;have hy:=t.nd_at hn;have hK:=h.prog.declLen;obtain⟨D,hD⟩:∃D,t.nodes[node]=D:=⟨_,rfl⟩
 rw[hD]at n0 n1 n2 n3 n4 hy;have HO:=Hd h;have Hu:=Hd hy;have WFF:=Hd wf;have HU:=Hd hu;have Ht:=Hd hK;have Hm:Hid (∀W,Below w.heap.size w W->Calls prog 80 #[p.ptr,intV node] W (zD W (eI t ups node))):=Hd fun W hW=>uN p t ups decl node W wf.bd hn hu.within hkid hit (h.prog.mono hW nlr);have Hl:Hid (∀W,Below w.heap.size w W->Calls prog 82 #[p.ptr,intV node] W (kS W (aL t node))):=Hd fun W hW=>DL p t ups decl node W wf hn hu (h.prog.mono hW nlr)
 have hL:iW t ups decl node=if eI t ups node then 6 else if !bD D.kind then 0 else if aL t node == -1 then 10 else if D.kind==21&&((t.nd (aL t node)).n==0&&fA t node (aL t node))then 9 else if D.kind==45&&decl.contains (aL t node)then 9 else 0:=by
  unfold iW;rw[hy]
 have hJ:IF t decl node=if bD D.kind then decl.set node (aL t node)else decl:=by unfold IF;rw[hy]
 have He:=Hd hL;have Hi:=Hd hJ;have Hg:=Hd ((Below.refl w.heap.size w).alloc nlr (.cells #[.int .u8 D.kind,strV D.text,intV D.n,.slice ka D.kids.length kc,intV D.pos] 31));have hw:=h.below.size;clear h hD hy wf hu hL hJ hK hkid hit
 cases htw:eI t ups node with
 | true=>
   rw[htw]at Hm He;obtain⟨s,⟨na,nc,ia,ic⟩,aa,ac,da,dc⟩:=p;simp only at ea c0 hB;subst ea;have Hc:=Hd (Hm.o _ Hg.o);go_enter func58,ntmps58
   go_wp2_with (go_at_call 80;refine Hc.o.mono ?_;rintro e w9 ⟨rfl,he⟩;have Hb:=Hd (Hg.o.trans (he.mono (by simp)));clear he)
   go_ret;refine⟨by rw[He.o];rfl,HO.o.below.trans (Hb.o.mono hw),fun hz=>?_⟩;rw[He.o]at hz;simp at hz
 | false=>
   rw[htw]at Hm He;rw[if_neg Bool.false_ne_true]at He;clear htw
   cases hnk:bD D.kind with
   | false=>
     have Hj:=Hd hnk;rw[hnk]at He Hi;have HZ:Hid (iW t ups decl node=0):=Hd (by rw[He.o];rfl);clear hnk;obtain⟨s,⟨na,nc,ia,ic⟩,aa,ac,da,dc⟩:=p;simp only at ea c0 hB;subst ea;have Hc:=Hd (Hm.o _ Hg.o);go_enter func58,ntmps58
     go_wp2_with (first
      | (go_at_call 80;go_loud (refine Hc.o.mono ?_;rintro e w9 ⟨rfl,he⟩;have hd:=Hg.o.trans (he.mono (by simp));have hl:w9.cell? ⟨w.heap.size,0,none⟩=some (.int .u8 D.kind):=(he.cell (p:=⟨w.heap.size,0,none⟩) (by simp)).trans (by simp);have hf:w.heap.size<w9.heap.size:=Nat.lt_of_lt_of_le (by simp) he.size;obtain⟨hs,ht⟩:=bcell hd;have Hb:=Hd hd;clear he hd))
      | (go_at_call 81;refine(cH _ _).mono ?_;rw[Hj.o];rintro e w' ⟨rfl,rfl⟩))
     go_ret;refine⟨by rw[HZ.o];rfl,HO.o.below.trans (Hb.o.mono hw),fun _=>?_⟩;rw[Hi.o,if_neg Bool.false_ne_true];exact HO.o.grow Hb.o
   | true=>
     have Hj:=Hd hnk;rw[hnk]at He Hi;rw[if_neg (by decide)]at He;rw[if_pos rfl]at Hi;clear hnk;obtain⟨x,hx⟩:∃x,aL t node=x:=⟨_,rfl⟩
     have Hk:=Hd hx;rw[hx]at He Hi;cases hx1:(x == -1)with
     | true=>
       have hN:=eq_of_beq hx1;rw[hx1,if_pos rfl]at He;rw[hN]at Hk;obtain⟨s,⟨na,nc,ia,ic⟩,aa,ac,da,dc⟩:=p;simp only at ea c0 hB;subst ea;have Hc:=Hd (Hm.o _ Hg.o);clear hx hx1 hN;go_enter func58,ntmps58
       go_wp2_with (first
        | (go_at_call 80;go_loud (refine Hc.o.mono ?_;rintro e w9 ⟨rfl,he⟩;have hd:=Hg.o.trans (he.mono (by simp));have hl:w9.cell? ⟨w.heap.size,0,none⟩=some (.int .u8 D.kind):=(he.cell (p:=⟨w.heap.size,0,none⟩) (by simp)).trans (by simp);have hf:w.heap.size<w9.heap.size:=Nat.lt_of_lt_of_le (by simp) he.size;obtain⟨hs,ht⟩:=bcell hd;have Hb:=Hd hd;clear he hd))
        | (go_at_call 81;refine(cH _ _).mono ?_;rw[Hj.o];rintro e w' ⟨rfl,rfl⟩)
        | (go_at_call 82;have hz:=Hb;refine(Hl.o _ Hb.o).mono ?_;rw[Hk.o];rintro e w10 ⟨rfl,hc⟩;have ha:=Hb.o.trans (hc.mono (Nat.le_of_lt hf));have hk:w10.cell? ⟨w.heap.size,0,none⟩=some (.int .u8 D.kind):=(hc.cell (p:=⟨w.heap.size,0,none⟩) hf).trans hl;have hh:w.heap.size<w10.heap.size:=Nat.lt_of_lt_of_le hf hc.size;obtain⟨ho,hp⟩:=bcell ha;have Ha:=Hd ha;clear hc ha))
       go_ret;refine⟨by rw[He.o];rfl,HO.o.below.trans (Ha.o.mono hw),fun hz=>?_⟩;rw[He.o]at hz;exact absurd hz (by decide)
     | false=>
       rw[hx1,if_neg Bool.false_ne_true]at He;obtain⟨hM,hR,hA⟩:=vX WFF.out (t:=t) (node:=node) (by rw[hx];intro e;rw[e]at hx1;simp at hx1);rw[hx]at hM hR hA;obtain⟨m,rfl⟩:=Int.eq_ofNat_of_zero_le hM;have hm:m<t.nodes.length:=by omega
       have hQ:((m:Int) == -1)=false:=hx1;obtain⟨b',o',ka',kc',ea',hT,m0,m1,m2,m3,m4,-⟩:=HO.o.prog.tree.nodes.at hm;rw[ea]at ea';simp only[Option.some.injEq,Addr.mk.injEq,and_true]at ea';obtain⟨rfl,rfl⟩:=ea';have hq:=t.nd_at hm;obtain⟨D2,hI⟩:∃D2,t.nodes[m]=D2:=⟨_,rfl⟩
       rw[hI]at m0 m1 m2 m3 m4 hq;rw[hq]at He;rw[Hu.o,hq]at hA;have Hv:=Hd hq;obtain⟨g,hg,⟨y0,hS⟩,hU,-,-⟩:=HO.o.set hn (m:Int);have Hs:=Hd hg;have hV:g<w.heap.size:=World.block_lt_of_cell? w _ hS
       have Hn:Hid (D.kind=21->∀W,Below w.heap.size w W->Calls prog 83 #[p.ptr,intV node,intV m] W (zD W (fA t node m))):=Hd fun h21 W hW=>
        DK p t ups decl node m W WFF.out hn hm (by rw[h21]at hA;rw[hq];simpa[suits]using hA) HU.o (HO.o.prog.mono hW nlr)
       have Hp:Hid (∀W,Below w.heap.size w W->Calls prog 84 #[.slice p.da t.nodes.length p.dc,intV m] W fun e w'=>e=.returned (.bool (decl.contains (m:Int)))/\W=w'):=Hd fun W hW=>by
        have hr:=(HO.o.prog.mono hW nlr).decl;have e:=Ht.o;rw[<-e]at hr|-;exact rD p.da p.dc decl m W (by omega) hr
       have Hf:Hid (∀W,Below w.heap.size w W->OpenW w0 p t ups (decl.set node (m:Int)) (W.setCell ⟨g,node,none⟩ (intV m))):=Hd fun W hW=>by
        obtain⟨g',hF,-,-,hO,-⟩:=(HO.o.grow hW).set hn (m:Int);rw[hg]at hF;simp only[Option.some.injEq,Addr.mk.injEq,and_true]at hF;subst hF;exact hO
       clear hx hx1 hA hI hq hg;obtain⟨s,⟨na,nc,ia,ic⟩,aa,ac,da,dc⟩:=p;simp only at ea c0 c3 hB Hs Hp;subst ea;have hP:=Hs.o;subst hP;have Hc:=Hd (Hm.o _ Hg.o);cases h21:(D.kind==21)with
       | true=>
         have Ho:=Hd (eq_of_beq h21);have hv:(D.kind==45)=false:=by rw[Ho.o];rfl
         cases hn0:(D2.n==0)with
         | true=>
           cases hov:fA t node m with
           | true=>
             have Hr:=Hd hov;have HR:Hid (iW t ups decl node=9):=Hd (by rw[He.o,h21,hn0,hov];rfl);clear hov;go_enter func58,ntmps58
             go_wp2_with (first
              | (go_at_call 80;refine Hc.o.mono ?_;rintro e w9 ⟨rfl,he⟩;have hd:=Hg.o.trans (he.mono (by simp));have hl:w9.cell? ⟨w.heap.size,0,none⟩=some (.int .u8 D.kind):=(he.cell (p:=⟨w.heap.size,0,none⟩) (by simp)).trans (by simp);have hf:w.heap.size<w9.heap.size:=Nat.lt_of_lt_of_le (by simp) he.size;obtain⟨hs,ht⟩:=bcell hd;have Hb:=Hd hd;clear he hd)
              | (go_at_call 81;refine(cH _ _).mono ?_;rw[Hj.o];rintro e w' ⟨rfl,rfl⟩)
              | (go_at_call 82;have hz:=Hb;refine(Hl.o _ Hb.o).mono ?_;rw[Hk.o];rintro e w10 ⟨rfl,hc⟩;have ha:=Hb.o.trans (hc.mono (Nat.le_of_lt hf));have hk:w10.cell? ⟨w.heap.size,0,none⟩=some (.int .u8 D.kind):=(hc.cell (p:=⟨w.heap.size,0,none⟩) hf).trans hl;have hh:w.heap.size<w10.heap.size:=Nat.lt_of_lt_of_le hf hc.size;obtain⟨ho,hp⟩:=bcell ha;have Ha:=Hd ha;clear hc ha)
              | (go_at_call 83;refine(Hn.o Ho.o _ Ha.o).mono ?_;rw[Hr.o];rintro e w11 ⟨rfl,hj⟩;have hi:=Ha.o.trans (hj.mono (Nat.le_of_lt hh));have hG:w11.cell? ⟨w.heap.size,0,none⟩=some (.int .u8 D.kind):=(hj.cell (p:=⟨w.heap.size,0,none⟩) hh).trans hk;have hH:w.heap.size<w11.heap.size:=Nat.lt_of_lt_of_le hh hj.size;obtain⟨hC,hE⟩:=bcell hi;have Hh:=Hd hi;clear hj hi))
             go_ret;refine⟨by rw[HR.o];rfl,HO.o.below.trans (Hh.o.mono hw),fun hz=>?_⟩;rw[HR.o]at hz;exact absurd hz (by decide)
           | false=>
             have Hr:=Hd hov;have HR:Hid (iW t ups decl node=0):=Hd (by rw[He.o,h21,hn0,hov,hv];rfl);clear hov;go_enter func58,ntmps58
             go_wp2_with (first
              | (go_at_call 80;refine Hc.o.mono ?_;rintro e w9 ⟨rfl,he⟩;have hd:=Hg.o.trans (he.mono (by simp));have hl:w9.cell? ⟨w.heap.size,0,none⟩=some (.int .u8 D.kind):=(he.cell (p:=⟨w.heap.size,0,none⟩) (by simp)).trans (by simp);have hf:w.heap.size<w9.heap.size:=Nat.lt_of_lt_of_le (by simp) he.size;obtain⟨hs,ht⟩:=bcell hd;have Hb:=Hd hd;clear he hd)
              | (go_at_call 81;refine(cH _ _).mono ?_;rw[Hj.o];rintro e w' ⟨rfl,rfl⟩)
              | (go_at_call 82;have hz:=Hb;refine(Hl.o _ Hb.o).mono ?_;rw[Hk.o];rintro e w10 ⟨rfl,hc⟩;have ha:=Hb.o.trans (hc.mono (Nat.le_of_lt hf));have hk:w10.cell? ⟨w.heap.size,0,none⟩=some (.int .u8 D.kind):=(hc.cell (p:=⟨w.heap.size,0,none⟩) hf).trans hl;have hh:w.heap.size<w10.heap.size:=Nat.lt_of_lt_of_le hf hc.size;obtain⟨ho,hp⟩:=bcell ha;have Ha:=Hd ha;clear hc ha)
              | (go_at_call 83;refine(Hn.o Ho.o _ Ha.o).mono ?_;rw[Hr.o];rintro e w11 ⟨rfl,hj⟩;have hi:=Ha.o.trans (hj.mono (Nat.le_of_lt hh));have hG:w11.cell? ⟨w.heap.size,0,none⟩=some (.int .u8 D.kind):=(hj.cell (p:=⟨w.heap.size,0,none⟩) hh).trans hk;have hH:w.heap.size<w11.heap.size:=Nat.lt_of_lt_of_le hh hj.size;obtain⟨hC,hE⟩:=bcell hi;have Hh:=Hd hi;clear hj hi))
             go_ret;exact⟨by rw[HR.o];rfl,(Hf.o _ Hh.o).below,fun _=>by rw[Hi.o];exact Hf.o _ Hh.o⟩
         | false=>
           have HR:Hid (iW t ups decl node=0):=Hd (by rw[He.o,h21,hn0,hv];rfl);go_enter func58,ntmps58
           go_wp2_with (first
            | (go_at_call 80;refine Hc.o.mono ?_;rintro e w9 ⟨rfl,he⟩;have hd:=Hg.o.trans (he.mono (by simp));have hl:w9.cell? ⟨w.heap.size,0,none⟩=some (.int .u8 D.kind):=(he.cell (p:=⟨w.heap.size,0,none⟩) (by simp)).trans (by simp);have hf:w.heap.size<w9.heap.size:=Nat.lt_of_lt_of_le (by simp) he.size;obtain⟨hs,ht⟩:=bcell hd;have Hb:=Hd hd;clear he hd)
            | (go_at_call 81;refine(cH _ _).mono ?_;rw[Hj.o];rintro e w' ⟨rfl,rfl⟩)
            | (go_at_call 82;have hz:=Hb;refine(Hl.o _ Hb.o).mono ?_;rw[Hk.o];rintro e w10 ⟨rfl,hc⟩;have ha:=Hb.o.trans (hc.mono (Nat.le_of_lt hf));have hk:w10.cell? ⟨w.heap.size,0,none⟩=some (.int .u8 D.kind):=(hc.cell (p:=⟨w.heap.size,0,none⟩) hf).trans hl;have hh:w.heap.size<w10.heap.size:=Nat.lt_of_lt_of_le hf hc.size;obtain⟨ho,hp⟩:=bcell ha;have Ha:=Hd ha;clear hc ha))
           go_ret;exact⟨by rw[HR.o];rfl,(Hf.o _ Ha.o).below,fun _=>by rw[Hi.o];exact Hf.o _ Ha.o⟩
       | false=>
         cases hv:(D.kind==45)with
         | true=>
           cases hcv:decl.contains (m:Int)with
           | true=>
             have Hq:=Hd hcv;have HR:Hid (iW t ups decl node=9):=Hd (by rw[He.o,h21,hv,hcv];rfl);clear hcv;go_enter func58,ntmps58
             go_wp2_with (first
              | (go_at_call 80;refine Hc.o.mono ?_;rintro e w9 ⟨rfl,he⟩;have hd:=Hg.o.trans (he.mono (by simp));have hl:w9.cell? ⟨w.heap.size,0,none⟩=some (.int .u8 D.kind):=(he.cell (p:=⟨w.heap.size,0,none⟩) (by simp)).trans (by simp);have hf:w.heap.size<w9.heap.size:=Nat.lt_of_lt_of_le (by simp) he.size;obtain⟨hs,ht⟩:=bcell hd;have Hb:=Hd hd;clear he hd)
              | (go_at_call 81;refine(cH _ _).mono ?_;rw[Hj.o];rintro e w' ⟨rfl,rfl⟩)
              | (go_at_call 82;have hz:=Hb;refine(Hl.o _ Hb.o).mono ?_;rw[Hk.o];rintro e w10 ⟨rfl,hc⟩;have ha:=Hb.o.trans (hc.mono (Nat.le_of_lt hf));have hk:w10.cell? ⟨w.heap.size,0,none⟩=some (.int .u8 D.kind):=(hc.cell (p:=⟨w.heap.size,0,none⟩) hf).trans hl;have hh:w.heap.size<w10.heap.size:=Nat.lt_of_lt_of_le hf hc.size;obtain⟨ho,hp⟩:=bcell ha;have Ha:=Hd ha;clear hc ha)
              | (go_at_call 84;refine(Hp.o _ Ha.o).mono ?_;rw[Hq.o];rintro e w' ⟨rfl,rfl⟩))
             go_ret;refine⟨by rw[HR.o];rfl,HO.o.below.trans (Ha.o.mono hw),fun hz=>?_⟩;rw[HR.o]at hz;exact absurd hz (by decide)
           | false=>
             have Hq:=Hd hcv;have HR:Hid (iW t ups decl node=0):=Hd (by rw[He.o,h21,hv,hcv];rfl);clear hcv;go_enter func58,ntmps58
             go_wp2_with (first
              | (go_at_call 80;refine Hc.o.mono ?_;rintro e w9 ⟨rfl,he⟩;have hd:=Hg.o.trans (he.mono (by simp));have hl:w9.cell? ⟨w.heap.size,0,none⟩=some (.int .u8 D.kind):=(he.cell (p:=⟨w.heap.size,0,none⟩) (by simp)).trans (by simp);have hf:w.heap.size<w9.heap.size:=Nat.lt_of_lt_of_le (by simp) he.size;obtain⟨hs,ht⟩:=bcell hd;have Hb:=Hd hd;clear he hd)
              | (go_at_call 81;refine(cH _ _).mono ?_;rw[Hj.o];rintro e w' ⟨rfl,rfl⟩)
              | (go_at_call 82;have hz:=Hb;refine(Hl.o _ Hb.o).mono ?_;rw[Hk.o];rintro e w10 ⟨rfl,hc⟩;have ha:=Hb.o.trans (hc.mono (Nat.le_of_lt hf));have hk:w10.cell? ⟨w.heap.size,0,none⟩=some (.int .u8 D.kind):=(hc.cell (p:=⟨w.heap.size,0,none⟩) hf).trans hl;have hh:w.heap.size<w10.heap.size:=Nat.lt_of_lt_of_le hf hc.size;obtain⟨ho,hp⟩:=bcell ha;have Ha:=Hd ha;clear hc ha)
              | (go_at_call 84;refine(Hp.o _ Ha.o).mono ?_;rw[Hq.o];rintro e w' ⟨rfl,rfl⟩))
             go_ret;exact⟨by rw[HR.o];rfl,(Hf.o _ Ha.o).below,fun _=>by rw[Hi.o];exact Hf.o _ Ha.o⟩
         | false=>
           have HR:Hid (iW t ups decl node=0):=Hd (by rw[He.o,h21,hv];rfl);go_enter func58,ntmps58
           go_wp2_with (first
            | (go_at_call 80;refine Hc.o.mono ?_;rintro e w9 ⟨rfl,he⟩;have hd:=Hg.o.trans (he.mono (by simp));have hl:w9.cell? ⟨w.heap.size,0,none⟩=some (.int .u8 D.kind):=(he.cell (p:=⟨w.heap.size,0,none⟩) (by simp)).trans (by simp);have hf:w.heap.size<w9.heap.size:=Nat.lt_of_lt_of_le (by simp) he.size;obtain⟨hs,ht⟩:=bcell hd;have Hb:=Hd hd;clear he hd)
            | (go_at_call 81;refine(cH _ _).mono ?_;rw[Hj.o];rintro e w' ⟨rfl,rfl⟩)
            | (go_at_call 82;have hz:=Hb;refine(Hl.o _ Hb.o).mono ?_;rw[Hk.o];rintro e w10 ⟨rfl,hc⟩;have ha:=Hb.o.trans (hc.mono (Nat.le_of_lt hf));have hk:w10.cell? ⟨w.heap.size,0,none⟩=some (.int .u8 D.kind):=(hc.cell (p:=⟨w.heap.size,0,none⟩) hf).trans hl;have hh:w.heap.size<w10.heap.size:=Nat.lt_of_lt_of_le hf hc.size;obtain⟨ho,hp⟩:=bcell ha;have Ha:=Hd ha;clear hc ha))
           go_ret;exact⟨by rw[HR.o];rfl,(Hf.o _ Ha.o).below,fun _=>by rw[Hi.o];exact Hf.o _ Ha.o⟩
end
end Go.Proofs.YtcdkdiedphhdhaaGreatDoor
