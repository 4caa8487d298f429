/- Part of a proof. -/
import Derived.Test.YtcdkdiedphhdhaaGreatDoorK35
import Derived.Test.YtcdkdiedphhdhaaGreatDoorK36
import Derived.Test.YtcdkdiedphhdhaaGreatDoorRK03
set_option maxRecDepth 100000
set_option maxHeartbeats 8000000
set_option linter.unusedVariables false
set_option linter.unusedSimpArgs false
open Go.Proofs.Tryz
namespace Go.Proofs.YtcdkdiedphhdhaaGreatDoor
section
open Go Go.RowKit
def UH(w:World)(T:TypeId)(k n:Nat)(xs:List Value)(e:Ending)(w':World):Prop:=
 ∃a c,e=.returned (.slice a n c)/\w'.ownsRow w.heap.size T k (.slice a n c) n xs/\Below w.heap.size w w'
theorem VB{k:Nat}{w:World}{n c:Nat}{xs:List Value}(h:Row k w none n c xs):n=0:=by
 rcases h.2.2.2 with h|⟨b,o,e,-⟩
 .exact h
 cases e
theorem TM(a:Option Addr)(n c:Nat)(l:List Int)(w:World)(hn:n<=1000000)(hr:Row 1 w a n c (zq l)) :
 Calls prog 56 #[.slice a n c] w (UH w 3 1 n (zq l)):=by
 cases a with
 | none=>
   obtain rfl:=VB hr;have hl:l=[]:=by have:=hr.1;simp at this;exact this
   subst hl;have he:=fun W=>Lib.run_eql_slice_nil (P:=prog) W 23 3 none 0 c 0 0 bI;go_enter func56,ntmps56;go_wp2;go_ret;exact⟨none,0,rfl,⟨rfl,.inl ⟨rfl,rfl⟩⟩,brf⟩
 | some x=>
   have hl:l.length=n:=by have:=hr.1;simpa using this
   subst hl;have hc:Row 1 (w.alloc (.cells #[] 3)) (some x) l.length c (zq l):=hr.mono ((Below.refl _ w).alloc nlr _) nlr;have HR:=Hd hc;have he:=fun W=>Lib.run_eql_slice_nil (P:=prog) W 23 3 (some x) l.length c 0 0 bI;clear hr hc;go_enter func56,ntmps56
   go_wp2_with (at_builtin;refine iJ (news:=l) (l:=[]) (B:=w.heap.size) rfl (.tmp 5) (.tmp 6) rfl rfl (tO _ _ _ (by simp) nlr) rfl HR.o (by simp;omega) (by simp) ?_;intro a9 c9 w9 l9 Ha hd hb ha)
   go_ret;have e9:l9=l:=Ha.o;subst e9;exact⟨a9,c9,rfl,hb,ha _ _ nlr ((Below.refl _ w).alloc nlr _)⟩
theorem UL(a:Option Addr)(n c:Nat)(xs:List Value)(w:World)(hn:n<=1000000)(hr:Row 5 w a n c xs)(h1:∀u∈xs,u.oneCell'=true) :
 Calls prog 55 #[.slice a n c] w (UH w 31 5 n xs):=by
 cases a with
 | none=>
   obtain rfl:=VB hr;have hl:xs=[]:=by have:=hr.1;simp at this;exact this
   subst hl;have hc:=fun W=>Lib.run_eql_slice_nil (P:=prog) W 22 31 none 0 c 0 0 dK;go_enter func55,ntmps55;go_wp2;go_ret;exact⟨none,0,rfl,⟨rfl,.inl ⟨rfl,rfl⟩⟩,brf⟩
 | some x=>
   have hc:=fun W=>Lib.run_eql_slice_nil (P:=prog) W 22 31 (some x) n c 0 0 dK;have hb:Row 5 (w.alloc (.cells #[] 31)) (some x) n c xs:=hr.mono ((Below.refl _ w).alloc nlr _) nlr;have HR:=Hd hb;have H1:=Hd h1;have ha:(w.alloc (.cells #[] 31)).ownsRow w.heap.size 31 5 (.slice (some ⟨w.heap.size,0,none⟩) 0 0) 0 []:=tO _ _ _ rfl nlr;have HO:=Hd ha;clear hr hb h1 ha;go_enter func55,ntmps55
   go_wp2_with (at_builtin;refine eF (news:=xs) rfl (.tmp 5) (.tmp 6) 22 31 _ 5 64 rfl dK mA rfl (by decide) rfl HO.o rfl HR.o H1.o (by unfold maxLen;omega) (by omega) (by simp) ?_;intro a6 c6 w6 h1 h2 h3;rw[Nat.zero_add,List.nil_append]at h1;have HB:=Hd (VR ((Below.refl _ w).alloc nlr _) HO.o h2 (by simp));clear h2 h3;rw[Nat.zero_add])
   go_ret;exact⟨a6,c6,rfl,h1,HB.o⟩
theorem TO:∀(ns:List Nd) (ks:List (Option Addr×Nat)),∀u∈zN ns ks,u.oneCell'=true
 | [],_,u,h=>by simp[zN]at h
 |_::_,[],u,h=>by simp[zN]at h
 | d::ns,a::ks,u,h=>by
   rw[zN]at h;rcases List.mem_append.1 h with h|h
   .exact gW d a u h
   exact TO ns ks u h
theorem TP:∀(ns:List Nd) (ks:List (Option Addr×Nat)) (k:Nat) (hk:k<ns.length) (a:Option Addr×Nat),ks.length=ns.length->zN ns (ks.set k a)=(zN ns ks).set (k*5+3) (.slice a.1 ns[k].kids.length a.2)
 |d::ns,b::ks,0,_,a,_=>by simp[zN,Nd.cells]
 | d::ns,b::ks,k+1,hk,a,h=>by
   simp only[List.set_cons_succ,zN,List.getElem_cons_succ];rw[TP ns ks k (by simpa using hk) a (by simpa using h)];have e:(k+1)*5+3=(d.cells b).length+(k*5+3):=by simp[Nd.cells];omega
   rw[e,List.set_append_right _ _ (by omega)];simp
 | [],_,_,hk,_,_=>by simp at hk
 |_::_,[],_,_,_,h=>by simp at h
def RowX(B:Nat)(T:TypeId)(k n:Nat)(xs:List Value)(v:Value)(W:World):Prop:=∃a c,v=.slice a n c/\W.ownsRow B T k (.slice a n c) n xs
theorem RowX.below{B:Nat}{T:TypeId}{k n:Nat}{xs:List Value}{v:Value}{W W':World}(h:RowX B T k n xs v W)(hb:Below W.heap.size W W'):RowX B T k n xs v W':=by
 obtain⟨a,c,e,ho⟩:=h;exact⟨a,c,e,zL ho hb⟩
structure CopyI (w W:World) (B g:Nat) (t:Tr) (an ai:Option Addr) (cn ci:Nat) (k:Nat) (ks:List (Option Addr×Nat)):Prop where
 len:ks.length=t.nodes.length
 own:W.ownsRow B 31 5 (.slice an t.nodes.length cn) t.nodes.length (zN t.nodes ks)
 kids:∀i (h:i<t.nodes.length) (h':i<ks.length),Row 1 W ks[i].1 t.nodes[i].kids.length ks[i].2 (zq t.nodes[i].kids)/\(0<t.nodes[i].kids.length->∀x,ks[i].1=some x->(i<k->B<=x.block/\∀y,an=some y->x.block≠y.block)/\(k<=i->x.block<B))
 items:W.ownsRow B 3 1 (.slice ai t.items.length ci) t.items.length (zq t.items)
 ne:∀x y,ai=some x->an=some y->x.block≠y.block
 g0:W.cell? ⟨g,0,none⟩=some (.slice an t.nodes.length cn)
 g1:W.cell? ⟨g,1,none⟩=some (.slice ai t.items.length ci)
 gne:∀y,an=some y->y.block≠g
 res:∀j,j<2->W.cell? ⟨w.heap.size+1,j,none⟩=some (.slice none 0 0)/\W.frozen? ⟨w.heap.size+1,j,none⟩=false
 below:Below w.heap.size w W
theorem CopyI.nodes{w W:World}{B g:Nat}{t:Tr}{an ai:Option Addr}{cn ci k:Nat}{ks:List (Option Addr×Nat)}(h:CopyI w W B g t an ai cn ci k ks):Nodes W an cn t.nodes:=by
 obtain⟨a',c',e,hr⟩:=aZ h.own;cases e
 exact⟨ks,h.len,hr,fun i hi hi'=>(h.kids i hi hi').1⟩
theorem CopyI.grow{w W W':World}{B g:Nat}{t:Tr}{an ai:Option Addr}{cn ci k:Nat}{ks:List (Option Addr×Nat)}(h:CopyI w W B g t an ai cn ci k ks)(hb:Below W.heap.size W W'):CopyI w W' B g t an ai cn ci k ks:=by
 have hc:∀b j v,W.cell? ⟨b,j,none⟩=some v->W'.cell? ⟨b,j,none⟩=some v:=fun b j v e=>(hb.cell (p:=⟨b,j,none⟩) (World.block_lt_of_cell? W _ e)).trans e;exact⟨h.len,zL h.own hb,fun i hi hi'=>⟨(h.kids i hi hi').1.mono hb nlr,(h.kids i hi hi').2⟩,zL h.items hb,h.ne,hc _ _ _ h.g0,hc _ _ _ h.g1,h.gne,fun j hj=>⟨hc _ _ _ (h.res j hj).1,(hb.frozen (p:=⟨w.heap.size+1,j,none⟩) (World.block_lt_of_cell? W _ (h.res j hj).1)).trans (h.res j hj).2⟩,h.below.trans (hb.mono h.below.size)⟩
theorem CopyI.set{w W:World}{B g nb:Nat}{t:Tr}{an ai:Option Addr}{cn ci k:Nat}{ks:List (Option Addr×Nat)}(h:CopyI w W B g t an ai cn ci k ks)(hwB:w.heap.size+1<B)(ha:an=some ⟨nb,0,none⟩)(hB:B<=nb)(hk:k<t.nodes.length){a':Option Addr}{c':Nat}
 (hown:W.ownsRow B 3 1 (.slice a' t.nodes[k].kids.length c') t.nodes[k].kids.length (zq t.nodes[k].kids))(hne:∀x,a'=some x->x.block≠nb) :
 CopyI w (W.setCell ⟨nb,k*5+3,none⟩ (.slice a' t.nodes[k].kids.length c')) B g t an ai cn ci (k+1) (ks.set k (a',c')):=by
 subst ha;have hT:Turns (fun i=>i=nb) W (W.setCell ⟨nb,k*5+3,none⟩ (.slice a' t.nodes[k].kids.length c')):=(Turns.setCell (a:=⟨nb,k*5+3,none⟩) rfl _).mono fun _ _ e=>e.symm;have hc:∀b j v,b≠nb->W.cell? ⟨b,j,none⟩=some v->(W.setCell ⟨nb,k*5+3,none⟩ (.slice a' t.nodes[k].kids.length c')).cell? ⟨b,j,none⟩=some v:=fun b j v hb e=>(hT.cell (World.block_lt_of_cell? W _ e) hb).trans e;have hf:g≠nb:=fun e=>h.gne _ rfl e.symm;have hd:∀{kids:List Int}{q:Option Addr×Nat},Row 1 W q.1 kids.length q.2 (zq kids)->(0<kids.length->∀x,q.1=some x->x.block≠nb)->Row 1 (W.setCell ⟨nb,k*5+3,none⟩ (.slice a' t.nodes[k].kids.length c')) q.1 kids.length q.2 (zq kids):=fun hr hn=>bA hr _ hn;refine⟨by simp[h.len],?_,fun i hi hi'=>?_,zW h.items hT (fun i ⟨x,e,e2⟩ e3=>h.ne x _ e rfl (e2.trans e3)),h.ne,hc _ _ _ hf h.g0,hc _ _ _ hf h.g1,h.gne,fun j hj=>⟨hc _ _ _ (by omega) (h.res j hj).1,by rw[World.frozen?_setCell];exact(h.res j hj).2⟩,h.below.setCell (by simp only;omega) _⟩
 .rw[TP t.nodes ks k hk (a',c') h.len]
  have:=(h.own.stored (k*5+3) (.slice a' t.nodes[k].kids.length c')).1;simpa using this
 have hg:i<ks.length:=by simpa using hi'
 by_cases e:i=k
 .subst e
  have hr:Row 1 W a' t.nodes[i].kids.length c' (zq t.nodes[i].kids):=by obtain⟨a9,c9,e9,hr⟩:=aZ hown;cases e9;exact hr
  have he:(ks.set i (a',c'))[i]'hi'=(a',c'):=by simp
  rw[he];refine⟨hd (q:=(a',c')) hr (fun _ x e=>hne x e),fun _ x e=>⟨fun _=>⟨(hown.lt x.block (by rw[show a'=some x from e];rfl)).1,fun y ey=>by cases ey;exact hne x e⟩,fun hh=>by omega⟩⟩
 have he:(ks.set k (a',c'))[i]'hi'=ks[i]:=by rw[List.getElem_set_ne (fun h=>e h.symm)]
 rw[he];obtain⟨h1,h2⟩:=h.kids i hi hg;refine⟨hd h1 (fun h0 x ex=>?_),fun h0 x ex=>⟨fun hl=>(h2 h0 x ex).1 (by omega),fun hl=>(h2 h0 x ex).2 (by omega)⟩⟩;by_cases hlt:i<k
 .exact((h2 h0 x ex).1 hlt).2 _ rfl
 have:=(h2 h0 x ex).2 (by omega)
 omega
theorem CopyI.init{w W:World}{B g:Nat}{t:Tr}{an ai:Option Addr}{cn ci:Nat}{ks:List (Option Addr×Nat)}(hw:Below w.heap.size w W)(hB:B=w.heap.size+1+1)(hgB:B<=g)(hg:W.heap[g]?=some (.cells #[.slice none 0 0,.slice none 0 0] 25))
 (hl:ks.length=t.nodes.length)(hk:∀i (h:i<t.nodes.length) (k:i<ks.length),Row 1 w ks[i].1 t.nodes[i].kids.length ks[i].2 (zq t.nodes[i].kids))
 (h2:W.ownsRow B 31 5 (.slice an t.nodes.length cn) t.nodes.length (zN t.nodes ks))(h5:W.ownsRow B 3 1 (.slice ai t.items.length ci) t.items.length (zq t.items))(hne:∀x y,ai=some x->an=some y->x.block≠y.block)
 (hr:∀j,j<2->W.cell? ⟨w.heap.size+1,j,none⟩=some (.slice none 0 0)/\W.frozen? ⟨w.heap.size+1,j,none⟩=false) :
 CopyI w ((W.setCell ⟨g,0,none⟩ (.slice an t.nodes.length cn)).setCell ⟨g,1,none⟩ (.slice ai t.items.length ci)) B g t an ai cn ci 0 ks:=by
 have hT:Turns (fun i=>i=g) W ((W.setCell ⟨g,0,none⟩ (.slice an t.nodes.length cn)).setCell ⟨g,1,none⟩ (.slice ai t.items.length ci)):=(Turns.setCell (M:=fun i=>i=g) (a:=⟨g,0,none⟩) rfl _).trans (Turns.setCell (M:=fun i=>i=g) (a:=⟨g,1,none⟩) rfl _);have n2:=tP h2 hg (by decide);have n5:=tP h5 hg (by decide);have hd:=zB hg;have hc:w.heap.size<=g:=by omega
 refine⟨hl,zW h2 hT (fun i ⟨x,e,e2⟩ e3=>n2 x e (e2.trans e3)),fun i hi hi'=>?_,zW h5 hT (fun i ⟨x,e,e2⟩ e3=>n5 x e (e2.trans e3)),hne,?_,?_,n2,fun j hj=>?_,(hw.setCell hc _).setCell hc _⟩
 .have hb:=hk i hi hi'
  refine⟨hb.mono ((hw.setCell hc _).setCell hc _) nlr,fun h0 x e=>⟨fun h=>by omega,fun _=>?_⟩⟩;rcases hb.2.2.2 with h|⟨b,o,e2,hd,-⟩
  .omega
  rw[e]at e2
  cases e2
  simp only;omega
 .rw[World.cell?_setCell_other _ _ _ _ (by simp)];exact World.cell?_setCell_same _ _ _ (za hg rfl)
 .exact World.cell?_setCell_same _ _ _ (by rw[World.cell?_setCell_other _ _ _ _ (by simp)];exact za hg rfl)
 have ha:=World.block_lt_of_cell? W _ (hr j hj).1
 have hn:¬(w.heap.size+1=g):=by omega
 exact⟨(hT.cell ha hn).trans (hr j hj).1,(hT.frozen ha hn).trans (hr j hj).2⟩
def WL(w:World)(t:Tr)(e:Ending)(w':World):Prop:=
 ∃(v:TreeV) (B:Nat) (ks:List (Option Addr×Nat)),e=.returned (v.val t)/\w.heap.size<=B/\OwnN w' B v.na v.nc t.nodes ks/\Ints w' v.ia v.ic t.items/\(∀x y,v.ia=some x->v.na=some y->x.block≠y.block)/\(∀x,v.ia=some x->w.heap.size<=x.block)/\Below w.heap.size w w'
theorem CopyI.done{w W:World}{B g:Nat}{t:Tr}{an ai:Option Addr}{cn ci:Nat}{ks:List (Option Addr×Nat)}(h:CopyI w W B g t an ai cn ci t.nodes.length ks):OwnN W B an cn t.nodes ks:=
 ⟨h.len,h.own,fun i hi hi'=>⟨(h.kids i hi hi').1,fun h0 x e=>((h.kids i hi hi').2 h0 x e).1 hi⟩⟩
theorem UM(v:TreeV)(t:Tr)(w:World)(bd:Bd t)(h:IsTree w v t) :
 Calls prog 36 #[v.val t] w (WL w t):=by
 have hC:prog.follows .mixedOrders=true:=by kernel_rfl
 have HT:=Hd h;have BD:=Hd bd;have hL:=bd.n;have hK:=bd.i;clear h bd;obtain⟨na,nc,ia,ic⟩:=v;obtain⟨ks,ho,hF,hA⟩:=HT.o.nodes;have hE:=HT.o.items;have hx:Below w.heap.size w ((boxT w ⟨na,nc,ia,ic⟩ t).alloc (.cells #[.slice none 0 0,.slice none 0 0] 25)):=((Below.refl _ w).alloc nlr _).alloc (by simp) _;have Hh:=Hd (show ∀W,Below w.heap.size w W->Calls prog 55 #[.slice na t.nodes.length nc] W (UH W 31 5 t.nodes.length (zN t.nodes ks))from fun W hW=>UL na _ nc _ W hL (hF.mono hW nlr) (TO t.nodes ks));have He:=Hd (show ∀W,Below w.heap.size w W->Calls prog 56 #[.slice ia t.items.length ic] W (UH W 3 1 t.items.length (zq t.items))from fun W hW=>TM ia _ ic _ W hK (hE.mono hW nlr));unfold TreeV.val;go_enter func36,ntmps36;go_wp2;obtain⟨W0,he⟩:∃W0,(w.alloc (.cells #[.slice na t.nodes.length nc,.slice ia t.items.length ic] 25)).alloc (.cells #[.slice none 0 0,.slice none 0 0] 25)=W0:=⟨_,rfl⟩
 rw[he];have hG:W0.heap.size=w.heap.size+1+1:=by rw[<-he];simp
 have hn:Below w.heap.size w W0:=by rw[<-he];exact hx
 have b0:W0.cell? ⟨w.heap.size,0,none⟩=some (.slice na t.nodes.length nc):=by rw[<-he];simp
 have b1:W0.cell? ⟨w.heap.size,1,none⟩=some (.slice ia t.items.length ic):=by rw[<-he];simp
 have br:∀j,j<2->W0.cell? ⟨w.heap.size+1,j,none⟩=some (.slice none 0 0)/\W0.frozen? ⟨w.heap.size+1,j,none⟩=false:=by
  intro j hj
  have hh:W0.heap[w.heap.size+1]?=some (.cells #[.slice none 0 0,.slice none 0 0] 25):=by
   rw[<-he];have:=World.alloc_heap_new (w.alloc (.cells #[.slice na t.nodes.length nc,.slice ia t.items.length ic] 25)) (.cells #[.slice none 0 0,.slice none 0 0] 25);rwa[World.size_alloc]at this
  refine⟨?_,zr hh⟩;have:j=0\/j=1:=by omega
  rcases this with rfl|rfl
  .exact za hh rfl
  exact za hh rfl
 have hM:w.heap.size<W0.heap.size:=by omega
 have Hg:=Hd br;have Ha:=Hd hn;clear br hn hx he;refine N.region_M 8 hC (by kernel_rfl) (by kernel_rfl) rfl (by kernel_rfl) (by kernel_rfl) (fun _ _=>False) N.Pans.no (fun Wz=>Below (W0).heap.size (W0) Wz) (fun Wy Wz=>Below Wy.heap.size Wy Wz) (brf.drew) [.fix ?vG1_0,.fix ?vG1_1,.dep [] (fun _ v W=>RowX W0.heap.size 31 5 t.nodes.length (zN t.nodes ks) v W),.fix ?vG1_3,.fix ?vG1_4,.dep [2] (fun l v W=>RowX W0.heap.size 3 1 t.items.length (zq t.items) v W/\∀i,(l.getD 0 undef).ownBlock=some i->v.ownBlock≠some i),.dep [2,5] (fun l v _=>v=.agg #[l.getD 0 undef,l.getD 1 undef]),.dep [] (N.NewB (W0).heap.size #[.slice none 0 0,.slice none 0 0] 25)] [[],[],[],[],[],[2],[2,5],[]] rfl (by kernel_rfl) (N.sts_kd ⟨trivial,trivial,(fun _ _ _ _ hk h=>h.below hk),trivial,trivial,(fun _ _ _ _ hk h=>⟨h.1.below hk,h.2⟩),(fun _ _ _ _ _ h=>h),N.NewB.st,trivial⟩) fun x=>?_;rotate_left 4
 iterate 2 (refine N.WalkM.fix ?_ ?_;refine N.StepS.known rfl (fun _=>brf) ?_;intro W hJ hP;obtain⟨hg,hl⟩:=bcell hJ;go_simp;rfl;simp only[N.pz])
 refine N.WalkM.dep ?sG1_2 ?rG1_2;case sG1_2=>(refine N.StepS.call' (f:=55) (args:=#[.slice na t.nodes.length nc]) rfl ?_ ?_;(intro W hJ hP;obtain⟨hg,hl⟩:=bcell hJ;(go_simp;try rfl));(intro W hJ hP;refine(Hh.o W (Ha.o.trans (hJ.mono Ha.o.size))).mono ?_;rintro e w' ⟨a,c,rfl,hc,hb⟩;exact⟨_,rfl,hJ.trans (hb.mono hJ.size),hb,⟨a,c,rfl,cA hc hJ.size⟩⟩))
 simp only[N.pz]
 iterate 2 (refine N.WalkM.fix ?_ ?_;refine N.StepS.known rfl (fun _=>brf) ?_;intro W hJ hP;obtain⟨hg,hl⟩:=bcell hJ;go_simp;rfl;simp only[N.pz])
 refine N.WalkM.dep ?sG1_5 ?rG1_5;case sG1_5=>(refine N.StepS.call' (f:=56) (args:=#[.slice ia t.items.length ic]) rfl ?_ ?_;(intro W hJ hP;obtain⟨hg,hl⟩:=bcell hJ;(go_simp;try rfl));(intro W hJ hP;refine(He.o W (Ha.o.trans (hJ.mono Ha.o.size))).mono ?_;rintro e w' ⟨a,c,rfl,hc,hb⟩;refine⟨_,rfl,hJ.trans (hb.mono hJ.size),hb,⟨⟨a,c,rfl,cA hc hJ.size⟩,fun i hi hh=>by obtain⟨a5,c5,h5,own5⟩:RowX W0.heap.size 31 5 t.nodes.length (zN t.nodes ks) (x 2) W:=hP 2 (by kernel_rfl);simp only[List.map_cons,List.getD_cons_zero]at hi;rw[h5]at hi;have h1:=(own5.lt i hi).2;have h2:=(hc.lt i hh).1;omega⟩⟩))
 simp only[N.pz];refine N.WalkM.dep ?sG1_6 ?rG1_6;case sG1_6=>exact N.StepS.runs rfl (fun W hJ hP=>⟨_,W,(by(obtain⟨a2,c2,h2,-⟩:RowX W0.heap.size 31 5 t.nodes.length (zN t.nodes ks) (x 2) W:=hP 2 (by kernel_rfl);obtain⟨⟨a5,c5,h5,-⟩,-⟩:RowX W0.heap.size 3 1 t.items.length (zq t.items) (x 5) W/\∀i,(([2]:List Nat).map x|>.getD 0 undef).ownBlock=some i->(x 5).ownBlock≠some i:=hP 5 (by kernel_rfl);simp only[List.map_cons,List.map_nil,List.getD_cons_zero,List.getD_cons_succ];generalize x 2=y2 at *;generalize x 5=y5 at *;subst h2 h5;go_simp;try rfl)),hJ,brf,rfl⟩)
 simp only[N.pz];refine N.WalkM.dep ?sG1_7 ?rG1_7;case sG1_7=>exact N.StepS.runs rfl (fun W hJ _=>⟨_,_,(by(go_simp;try rfl)),hJ.alloc hJ.size _,brf.alloc nlr _,⟨W.heap.size,rfl,hJ.size,heap_alloc_new _ _⟩⟩)
 simp only[N.pz];refine N.WalkM.nil fun W hJ hH=>?_;obtain⟨g7,hN,hz,hm⟩:N.NewB (W0).heap.size #[.slice none 0 0,.slice none 0 0] 25 [] (x 7) W:=hH 7;generalize x 7=y7 at *;subst hN;obtain⟨a2,c2,h2,own2⟩:RowX W0.heap.size 31 5 t.nodes.length (zN t.nodes ks) (x 2) W:=hH 2;obtain⟨⟨a5,c5,h5,own5⟩,hs⟩:RowX W0.heap.size 3 1 t.items.length (zq t.items) (x 5) W/\∀i,(([2]:List Nat).map x |>.getD 0 undef).ownBlock=some i->(x 5).ownBlock≠some i:=hH 5;have h6:x 6=.agg #[x 2,x 5]:=hH 6;simp only[List.map_cons,List.getD_cons_zero]at hs;rw[h2,h5]at hs;have hp:∀x y,a5=some x->a2=some y->x.block≠y.block:=fun x y ex ey e=>hs y.block (by rw[ey];rfl) (by rw[ex,<-e];rfl);have Hi:=Hd hp;have O5:=Hd own5;have O2:=Hd own2;have Hf:=Hd hJ;rw[h2,h5]at h6;generalize x 2=y2 at *;generalize x 5=y5 at *;generalize x 6=y6 at *;subst h2 h5 h6;clear hs hp own5 own2 hJ hH;have hy:∀j,j<2->W.cell? ⟨w.heap.size+1,j,none⟩=some (.slice none 0 0)/\W.frozen? ⟨w.heap.size+1,j,none⟩=false:=fun j hj=>⟨(Hf.o.cell (p:=⟨w.heap.size+1,j,none⟩) (by show w.heap.size+1<_;omega)).trans (Hg.o j hj).1,(Hf.o.frozen (p:=⟨w.heap.size+1,j,none⟩) (by show w.heap.size+1<_;omega)).trans (Hg.o j hj).2⟩
 have HI:=Hd (CopyI.init (Ha.o.trans (Hf.o.mono Ha.o.size)) hG hz hm ho hA O2.out O5.out Hi.o hy);have hR:=za (i:=0) (v:=.slice none 0 0) hm rfl;have hS:=za (i:=1) (v:=.slice none 0 0) hm rfl;have hO:=zr (i:=0) hm;have hQ:=zr (i:=1) hm;obtain⟨B,hB⟩:∃B,W0.heap.size=B:=⟨_,rfl⟩
 rw[hB]at HI hz hG;clear Hh He ho hF hA hE b0 b1 hM Hg Ha hm Hi O5 O2 Hf hy hB;simp only[List.drop_succ_cons,List.drop_zero];go_wp2
 go_loopw [16] (fun t16 wr=>∃(k:Nat) (ks:List (Option Addr×Nat)),t16=.int .i64 k/\k<=t.nodes.length/\Hid (CopyI w wr B g7 t a2 a5 c2 c5 k ks)) (fun t16 _=>t.nodes.length-(intOf t16).toNat)
 case atStart=>exact⟨0,_,rfl,Nat.zero_le _,HI⟩
 case round=>
  obtain⟨k,ks,rfl,hk,HC⟩:=hrel;have y0:=HC.o.g0;have y1:=HC.o.g1;have hu:=World.block_lt_of_cell? wr _ y0;simp only at hu;by_cases hlt:k<t.nodes.length
  .obtain⟨nb,ha,hD,hq,hI⟩:=JL HC.o.own (by omega)
   obtain⟨b,o,ka,kc,ea,hb,m0,m1,m2,m3,m4,hv⟩:=HC.o.nodes.at hlt;rw[ha]at ea;simp only[Option.some.injEq,Addr.mk.injEq,and_true]at ea;obtain⟨rfl,rfl⟩:=ea;simp only[Nat.zero_add]at m0 m1 m2 m3 m4;have ho:t.nodes[k].kids.length<=1000000:=BD.out.k _ (List.getElem_mem _);have hf:∀(W:World) (a':Option Addr) (c':Nat),CopyI w W B g7 t a2 a5 c2 c5 k ks->W.ownsRow B 3 1 (.slice a' t.nodes[k].kids.length c') t.nodes[k].kids.length (zq t.nodes[k].kids)->(∀x,a'=some x->x.block≠nb)->CopyI w (W.setCell ⟨nb,k*5+3,none⟩ (.slice a' t.nodes[k].kids.length c')) B g7 t a2 a5 c2 c5 (k+1) (ks.set k (a',c')):=fun W a' c' h h1 h2=>h.set (by omega) ha hD hlt h1 h2;obtain⟨d,hd⟩:∃d,t.nodes[k]=d:=⟨_,rfl⟩
   rw[hd]at m0 m1 m2 m3 m4 hv ho hf;have Hc:=Hd hf;clear hf hd;subst ha;have hr:Below wr.heap.size wr (boxD wr ka kc d):=brf.alloc nlr _;have ht:=HC.o.grow hr;have He:=Hd (show ∀W,Below wr.heap.size wr W->Calls prog 56 #[.slice ka d.kids.length kc] W (UH W 3 1 d.kids.length (zq d.kids))from fun W hW=>TM ka _ kc _ W ho (hv.mono hW nlr));have z0:(boxD wr ka kc d).cell? ⟨g7,0,none⟩=some (.slice (some ⟨nb,0,none⟩) t.nodes.length c2):=ht.g0;have z3:(boxD wr ka kc d).cell? ⟨wr.heap.size,3,none⟩=some (.slice ka d.kids.length kc):=by simp
   have hU:(boxD wr ka kc d).heap.size=wr.heap.size+1:=by simp
   have hT:g7<(boxD wr ka kc d).heap.size:=by omega
   have hV:wr.heap.size<(boxD wr ka kc d).heap.size:=by omega
   have Hk:=Hd ht;have Hb:=Hd hr;have q3:=(hr.cell (p:=⟨nb,k*5+3,none⟩) hq).trans m3;clear hv ht hr;go_wp2;refine N.region_M 8 hC (by kernel_rfl) (by kernel_rfl) rfl (by kernel_rfl) (by kernel_rfl) (fun _ _=>False) N.Pans.no (fun Wz=>Below (boxD wr ka kc d).heap.size (boxD wr ka kc d) Wz) (fun Wy Wz=>Below Wy.heap.size Wy Wz) (brf.drew) [.fix ?vG2_0,.fix ?vG2_1,.fix ?vG2_2,.fix ?vG2_3,.fix ?vG2_4,.dep [] (fun _ v W=>RowX wr.heap.size 3 1 d.kids.length (zq d.kids) v W),.fix ?vG2_6,.fix ?vG2_7] [[],[],[],[],[],[],[],[]] rfl (by kernel_rfl) (N.sts_kd ⟨trivial,trivial,trivial,trivial,trivial,(fun _ _ _ _ hk h=>h.below hk),trivial,trivial,trivial⟩) fun x=>?_;rotate_left 7
   iterate 5 (refine N.WalkM.fix ?_ ?_;refine N.StepS.known rfl (fun _=>brf) ?_;intro W hJ hP;obtain⟨hg,hl⟩:=bcell hJ;go_simp;rfl;simp only[N.pz])
   refine N.WalkM.dep ?sG2_5 ?rG2_5;case sG2_5=>(refine N.StepS.call' (f:=56) (args:=#[.slice ka d.kids.length kc]) rfl ?_ ?_;(intro W hJ hP;obtain⟨hg,hl⟩:=bcell hJ;(go_simp;try rfl));(intro W hJ hP;refine(He.o W (Hb.o.trans (hJ.mono Hb.o.size))).mono ?_;rintro e w' ⟨a,c,rfl,hc,hb⟩;exact⟨_,rfl,hJ.trans (hb.mono hJ.size),hb,⟨a,c,rfl,cA hc (Nat.le_trans Hb.o.size hJ.size)⟩⟩))
   simp only[N.pz]
   iterate 2 (refine N.WalkM.fix ?_ ?_;refine N.StepS.known rfl (fun _=>brf) ?_;intro W hJ hP;obtain⟨hg,hl⟩:=bcell hJ;go_simp;rfl;simp only[N.pz])
   refine N.WalkM.nil fun W hJ hH=>?_;obtain⟨a6,c6,h6,own6⟩:RowX wr.heap.size 3 1 d.kids.length (zq d.kids) (x 5) W:=hH 5;have hw:=Hk.o.grow hJ;have q3':=(hJ.cell (p:=⟨nb,k*5+3,none⟩) (Nat.lt_of_lt_of_le hq Hb.o.size)).trans q3;have qf:=(hJ.frozen (p:=⟨nb,k*5+3,none⟩) (Nat.lt_of_lt_of_le hq Hb.o.size)).trans ((Hb.o.frozen (p:=⟨nb,k*5+3,none⟩) hq).trans (hI (k*5+3)));have n6:∀x,a6=some x->x.block≠nb:=fun y e e2=>by have:=(own6.lt y.block (by rw[e];rfl)).1;omega
   have Hj:=Hd (Hc.o W a6 c6 hw (cA own6 (Nat.le_trans (Nat.le_of_lt (Nat.lt_of_le_of_lt hD hq)) nlr)) n6);generalize x 5=y5 at *;subst h6;clear Hc hw own6 n6 hH hJ;simp only[List.drop_succ_cons,List.drop_zero];go_wp2
   go_roundw
   case rel=>exact⟨k+1,_,by go_num,by omega,Hj⟩
   case measure=>simp[intOf];omega
  obtain rfl:k=t.nodes.length:=by omega
  obtain⟨r0,f0⟩:=HC.o.res 0 (by decide);obtain⟨r1,f1⟩:=HC.o.res 1 (by decide);go_wp2
  have c2':((wr.setCell ⟨w.heap.size+1,0,none⟩ (.slice a2 t.nodes.length c2)).setCell ⟨w.heap.size+1,1,none⟩ (.slice a5 t.items.length c5)).cell? ⟨w.heap.size+1,0,none⟩=some (.slice a2 t.nodes.length c2):=by
   rw[World.cell?_setCell_other _ _ _ _ (by simp)];exact World.cell?_setCell_same _ _ _ r0
  have c3':((wr.setCell ⟨w.heap.size+1,0,none⟩ (.slice a2 t.nodes.length c2)).setCell ⟨w.heap.size+1,1,none⟩ (.slice a5 t.items.length c5)).cell? ⟨w.heap.size+1,1,none⟩=some (.slice a5 t.items.length c5):=
   World.cell?_setCell_same _ _ _ ((World.cell?_setCell_other _ _ _ _ (by simp)).trans r1)
  refine bodyPost_ret (v:=.agg #[.slice a2 t.nodes.length c2,.slice a5 t.items.length c5]) (by simp[results,results36,go_sem,loadVar,c2',c3',Result.andThen]) rfl ⟨⟨a2,c2,a5,c5⟩,B,ks,rfl,by omega,?_,?_,HC.o.ne,?_,?_⟩
  .exact(HC.o.done.setCell (p:=⟨w.heap.size+1,0,none⟩) (by simp;omega) _).setCell (by simp;omega) _
  .exact dX (ownsRow_setCell_below (ownsRow_setCell_below HC.o.items (by simp;omega) _) (by simp;omega) _)
  .intro x e
   have:=(HC.o.items.lt x.block (by rw[show a5=some x from e];rfl)).1;omega
  exact(HC.o.below.setCell (by simp) _).setCell (by simp) _
theorem TL{t:Tr}{k:Nat}(h:(zb t).2.2=0)(hk:k<t.nodes.length)(q:Int->Bool):zk t k q=if q k then 0 else 7:=by
 unfold zk;rw[h,show decide ((k:Int)<0)=false from decide_eq_false (by omega),show decide ((t.nodes.length:Int)<=k)=false from decide_eq_false (by omega)];cases q k<;>rfl
end
section
open Go Go.RowKit
structure SameForm (t t':Tr):Prop where
 len:t'.nodes.length=t.nodes.length
 items:t'.items=t.items
 kind:∀i:Int,(t'.nd i).kind=(t.nd i).kind
 n:∀i:Int,(t'.nd i).n=(t.nd i).n
 kids:∀i:Int,(t'.nd i).kids=(t.nd i).kids
 pos:∀i:Int,(t'.nd i).pos=(t.nd i).pos
section
variable {t t' : Tr} (F : SameForm t t')
include F
theorem SameForm.isKid(n:Int):dR t'.nodes n=dR t.nodes n:=by
 funext i;unfold dR;by_cases hi:i<t.nodes.length
 .have h:=F.kids i
  have ha:i<t'.nodes.length:=by rw[F.len];exact hi
  rw[t'.nd_at ha,t.nd_at hi]at h;rw[List.getElem?_eq_getElem ha,List.getElem?_eq_getElem hi,Option.map_some,Option.map_some,h]
 rw[List.getElem?_eq_none (by rw[F.len];omega),List.getElem?_eq_none (by omega)]
theorem SameForm.par(n:Int):parent t' n=parent t n:=by unfold parent;rw[F.isKid,F.len]
theorem SameForm.isD(i:Int):zn t' i=zn t i:=by unfold zn;rw[F.kind,F.par,F.kind]
theorem SameForm.insF(o:Int):∀(f:Nat) (n:Int),bX t' o f n=bX t o f n
 |0,n=>rfl
 |f+1,n=>by rw[bX,bX,F.par,SameForm.insF o f]
theorem SameForm.ins(n o:Int):inside t' n o=inside t n o:=by unfold inside;rw[F.len,F.insF]
theorem SameForm.sAt(n last:Int):zK (t'.nd n) last n=zK (t.nd n) last n:=by unfold zK;rw[F.kind,F.kids]
theorem SameForm.upS:∀(f:Nat) (last n:Int) (acc:List Int),upF t' (fun last n acc=>acc++zK (t'.nd n) last n) f last n acc=upF t (fun last n acc=>acc++zK (t.nd n) last n) f last n acc
 |0,last,n,acc=>rfl
 |f+1,last,n,acc=>by rw[upF,upF,F.par,F.sAt,SameForm.upS f]
theorem SameForm.sUp(i:Int):zX t' i=zX t i:=by unfold zX upw;rw[F.par,F.len,F.upS]
theorem SameForm.sg(i:Int):sight t' i=sight t i:=by unfold sight;rw[F.sUp,F.items];simp only[F.isD]
theorem SameForm.sizesTo':∀m,zI t' m=zI t m
 |0=>rfl
 |m+1=>by rw[zI,zI,SameForm.sizesTo' m,F.kids]
theorem SameForm.sizes:dN t'=dN t:=by unfold dN;rw[F.len,F.sizesTo']
theorem SameForm.depTo':∀m,eK t' m=eK t m
 |0=>by rw[eK,eK,F.len]
 |m+1=>by rw[eK,eK,SameForm.depTo' m,F.len];unfold jH;rw[F.kids]
theorem SameForm.deep:aM t'=aM t:=by unfold aM dQ;rw[F.len,F.depTo']
theorem SameForm.sized(i:Nat):eX t' i=eX t i:=by simp only[eX,F.kind,F.kids,F.n]
theorem SameForm.kidsO(i:Int):iA t' (t'.nd i)=iA t (t.nd i):=by simp only[iA,qM,F.kind,F.kids,F.n]
theorem SameForm.eatI'(S:List Int):∀(l:List Int) (p:Int),eatI t' S l p=eatI t S l p
 | [],p=>rfl
 |k::r,p=>by rw[eatI,eatI,F.kind,SameForm.eatI' S r]
theorem SameForm.right{i:Nat}(h:cM t i=true)(ht:(t'.nd i).text=(t.nd i).text\/eQ (t.nd i).kind=true/\zG (t'.nd i).text=true):cM t' i=true:=by
 unfold cM at h|-;rw[F.kind,F.n,F.kids,F.pos,F.kidsO];rcases ht with e|⟨e1,e2⟩
 .rw[e];exact h
 rw[e1,e2]
 rw[e1]at h;simp only[Bool.and_eq_true]at h|-;obtain⟨⟨⟨⟨⟨⟨⟨h1,_⟩,_⟩,h2⟩,h3⟩,h4⟩,h5⟩,h6⟩:=h;exact⟨⟨⟨⟨⟨⟨⟨h1,by rfl⟩,by rfl⟩,h2⟩,h3⟩,h4⟩,h5⟩,h6⟩
theorem SameForm.check(h:aD t=0)(ht:∀i:Nat,i<t.nodes.length->(t'.nd i).text=(t.nd i).text\/eQ (t.nd i).kind=true/\zG (t'.nd i).text=true):aD t'=0:=by
 have hf:gO t=true:=fE h
 have ha:gO t'=true:=by
  have h2:=hf;simp only[gO,Bool.and_eq_true,beq_iff_eq]at h2|-;rw[F.sizes,F.len,F.items,F.eatI'];refine⟨h2.1,List.all_eq_true.2 fun i hi=>?_,h2.2.2⟩;rw[F.len,List.mem_range]at hi;exact F.right (List.all_eq_true.1 h2.2.1 i (List.mem_range.2 hi)) (ht i hi)
 have hs:jU t'=jU t:=by
  unfold jU;rw[F.len];simp only[F.sized]
 unfold aD at h|-;rw[F.len,F.items,ha,F.deep,hs];rw[hf]at h;exact h
theorem SameForm.bd(h:Bd t)(ht:∀i:Nat,i<t.nodes.length->(t'.nd i).text.length<=1000000000):Bd t':=by
 refine⟨by rw[F.len];exact h.n,by rw[F.items];exact h.i,fun d hd=>?_,fun d hd=>?_⟩
 .obtain⟨i,hi,rfl⟩:=List.getElem_of_mem hd
  have ha:i<t.nodes.length:=by rw[<-F.len];exact hi
  have e:=F.kids i;rw[t'.nd_at hi,t.nd_at ha]at e;rw[e];exact h.k _ (List.getElem_mem ha)
 obtain⟨i,hi,rfl⟩:=List.getElem_of_mem hd
 have:=ht i (by rw[<-F.len];exact hi);rwa[t'.nd_at hi]at this
end
end
section
open Go Go.RowKit
theorem VG{W:World}{a1 a2:Option Addr}{c1 c2:Nat}{xs ys:List Int}(h1:Ints W a1 c1 xs)(h2:Ints W a2 c2 ys)(hx:xs.length<=1000000000)(hy:ys.length<=1000000000) :
 Calls prog 38 #[.slice a1 xs.length c1,.slice a2 ys.length c2] W (zD W (xs==ys)):=by
 by_cases h0:xs.length=0
 .rw[h0]
  refine(Tryz.slices_Equal_int_empty a1 a2 c1 ys.length c2 W (by omega)).mono ?_;rintro e w'⟨rfl,rfl⟩;refine⟨zc ?_,brf⟩;have ha:xs=[]:=List.eq_nil_of_length_eq_zero h0;subst ha
  cases ys with
  |nil=>rfl
  |cons y ys=>simp
 by_cases hnm:xs.length=ys.length
 .obtain⟨b1,o1,rfl,-,-⟩:=h1.at (i:=0) (by omega)
  obtain⟨b2,o2,rfl,-,-⟩:=h2.at (i:=0) (by omega);refine(Tryz.slices_Equal_int b1 o1 xs.length c1 b2 o2 ys.length c2 xs ys W nlr nlr (by omega) (by omega) (fun j hj=>?_) (fun j hj=>?_)).mono ?_
  .obtain⟨b,o,e,-,hc⟩:=h1.at hj
   simp only[Option.some.injEq,Addr.mk.injEq,and_true]at e;obtain⟨rfl,rfl⟩:=e;rw[hc];simp[hj,intV]
  .obtain⟨b,o,e,-,hc⟩:=h2.at hj
   simp only[Option.some.injEq,Addr.mk.injEq,and_true]at e;obtain⟨rfl,rfl⟩:=e;rw[hc];simp[hj,intV]
  rintro e w'⟨rfl,q,rfl⟩
  exact⟨zc (by rw[List.take_length,List.take_length]),below_drewN brf _⟩
 refine(Tryz.slices_Equal_int_lens a1 a2 xs.length c1 ys.length c2 W hnm).mono ?_
 rintro e w'⟨rfl,rfl⟩;refine⟨zc ?_,brf⟩;rw[eq_comm,Bool.eq_false_iff];intro h;have:=eq_of_beq h;exact hnm (by rw[this])
def renM(ns:List Nd)(S:Int->Bool)(name:List UInt8):List Nd:=ns.mapIdx fun i d=>if S (i:Int)then { d with text:=name } else d
theorem SV(ns:List Nd)(S:Int->Bool)(name:List UInt8):(renM ns S name).length=ns.length:=by simp[renM]
theorem WB(ns:List Nd)(S:Int->Bool)(name:List UInt8){i:Nat}(h:i<ns.length):(renM ns S name)[i]'(by rw[SV];exact h)=if S (i:Int)then { ns[i]with text:=name } else ns[i]:=by
 simp[renM]
theorem VU(ns:List Nd)(L:List Int)(name:List UInt8):renM ns (fun i=>(L.take 0).contains i) name=ns:=by
 apply List.ext_getElem (by simp[renM]);intro i h1 h2;simp[renM]
theorem VT(ns:List Nd)(L:List Int)(name:List UInt8){k m:Nat}(hk:k<L.length)(hm:L[k]=(m:Int))(hmn:m<ns.length):renM ns (fun i=>(L.take (k+1)).contains i) name =
 (renM ns (fun i=>(L.take k).contains i) name).set m { (renM ns (fun i=>(L.take k).contains i) name)[m]'(by rw[SV];exact hmn)with text:=name }:=by
 apply List.ext_getElem (by simp[renM]);intro i h1 h2;have hi:i<ns.length:=by simpa[renM]using h1
 rw[List.getElem_set];simp only[renM,List.getElem_mapIdx]
 have hc:(L.take (k+1)).contains (i:Int)=((L.take k).contains (i:Int)||decide (i=m)):=by
  rw[List.take_succ_eq_append_getElem hk,hm,Bool.eq_iff_iff,Bool.or_eq_true,List.contains_iff_mem,List.contains_iff_mem,List.mem_append,List.mem_singleton,decide_eq_true_eq];constructor
  .rintro(h|h)
   .exact .inl h
   exact .inr (by omega)
  rintro(h|h)
  .exact .inl h
  exact .inr (by omega)
 simp only[hc];by_cases e:m=i
 .subst e
  simp;split<;>simp
 simp only[if_neg e,show decide (i=m)=false from decide_eq_false fun h=>e h.symm,Bool.or_false]
theorem WA{ns:List Nd}{decl:List Int}{node:Int}{name:List UInt8}(hl:decl.length=ns.length):renM ns (fun i=>((uses decl node++[node]).take (uses decl node++[node]).length).contains i) name=renK ns decl node name ns.length:=by
 rw[List.take_length];apply List.ext_getElem (by simp[renM,renK]);intro i h1 h2;have hi:i<ns.length:=by simpa[renM]using h1
 rw[WB _ _ _ hi,TC _ _ _ _ _ hi]
 have hc:(uses decl node++[node]).contains (i:Int)=(decide (i<ns.length)&&renB decl node i):=by
  rw[show decide (i<ns.length)=true from decide_eq_true hi,Bool.true_and];unfold renB;rw[Bool.eq_iff_iff,List.contains_iff_mem,List.mem_append,List.mem_singleton,Bool.or_eq_true,beq_iff_eq,beq_iff_eq]
  have hg:decl.getD i 0=node↔(i:Int)∈uses decl node:=by
   unfold uses idxs;rw[List.mem_map];constructor
   .intro h
    refine⟨i,List.mem_filter.2 ⟨List.mem_range.2 (by omega),?_⟩,rfl⟩;rw[List.getElem?_eq_getElem (by omega)];rw[List.getD_eq_getElem?_getD,List.getElem?_eq_getElem (by omega)]at h;simpa using h
   rintro⟨j,hj,e⟩
   obtain⟨hb,ha⟩:=List.mem_filter.1 hj;obtain rfl:j=i:=by have e:(j:Int)=i:=e;omega
   rw[List.getElem?_eq_getElem (by omega)]at ha;rw[List.getD_eq_getElem?_getD,List.getElem?_eq_getElem (by omega)];simpa using ha
  rw[<-hg];constructor
  .rintro(h|h)
   .exact .inr h
   exact .inl h
  rintro(h|h)
  .exact .inr h
  exact .inl h
 rw[hc]
theorem WQ{t:Tr}{l:List Int}{node:Int}{name:List UInt8}(rg:Rg t):Rg (renT t l node name):=fun i hi=>by
 have ha:i<t.nodes.length:=by rw[SR]at hi;exact hi
 have h:=rg i ha
 have e:((renT t l node name).nd (i:Int)).n=(t.nd (i:Int)).n:=by
  rw[Tr.nd_at _ hi,t.nd_at ha];refine(congrArg Nd.n (TC t.nodes l node name t.nodes.length ha)).trans ?_;split<;>rfl
 rw[e];exact h
def renO:Option Tr->Except Int Tr
 |none=>.error 9
 |some t'=>.ok t'
def renU(t:Tr)(node:Int)(name:List UInt8):Except Int Tr:=
 if zk t node (zn t)=0 then
  (if zG name then renO (SY t (zg t t.nodes.length) node name)else .error 4)
 else .error (zk t node (zn t))
def TN(w:World)(r:Except Int Tr)(e:Ending)(w':World):Prop:=
 match r with
 |.error x=>e=.returned (.tuple #[.agg #[.slice none 0 0,.slice none 0 0],intV x])/\Below w.heap.size w w'
 |.ok t'=>∃v:TreeV,e=.returned (.tuple #[v.val t',intV 0])/\IsTree w' v t'/\Below w.heap.size w w'
theorem UC{w w':World}{r:Except Int Tr}{A:Act}{y0 y1:Value}{err:Int}(k0:w'.cell? ⟨w.heap.size+1,0,none⟩=some y0)(k1:w'.cell? ⟨w.heap.size+1,1,none⟩=some y1)
 (h6:A.tmps.getD 6 undef=.pointer (some ⟨w.heap.size+1,0,none⟩))(h7:A.tmps.getD 7 undef=intV err)(hd:A.defers=[])(hR:TN w r (.returned (.tuple #[.agg #[y0,y1],intV err])) w') :
 bodyPost prog Tryz.f16 (TN w r) Exit.ret A w':=by
 refine bodyPost_ret (v:=.tuple #[.agg #[y0,y1],intV err]) ?_ hd hR;simp only[Array.getD_eq_getD_getElem?]at h6 h7;simp[results,results16,go_sem,loadVar,h6,h7,k0,k1,Result.andThen]
theorem SW{W:World}{g:Nat}{x0 x1:Value}(h0:W.cell? ⟨g,0,none⟩=some x0)(h1:W.cell? ⟨g,1,none⟩=some x1)(y0 y1:Value):((W.setCell ⟨g,0,none⟩ y0).setCell ⟨g,1,none⟩ y1).cell? ⟨g,0,none⟩=some y0/\((W.setCell ⟨g,0,none⟩ y0).setCell ⟨g,1,none⟩ y1).cell? ⟨g,1,none⟩=some y1:=by
 refine⟨?_,?_⟩
 .rw[World.cell?_setCell_other _ _ _ _ (by simp)];exact World.cell?_setCell_same _ _ _ h0
 exact World.cell?_setCell_same _ _ _ ((World.cell?_setCell_other _ _ _ _ (by simp)).trans h1)
theorem VV{w:World}{r:Except Int Tr}{A:Act}{W:World}{x0 x1 y0 y1:Value}{err:Int}(h0:W.cell? ⟨w.heap.size+1,0,none⟩=some x0)(h1:W.cell? ⟨w.heap.size+1,1,none⟩=some x1)
 (h6:A.tmps.getD 6 undef=.pointer (some ⟨w.heap.size+1,0,none⟩))(h7:A.tmps.getD 7 undef=intV err)(hd:A.defers=[])(hR:TN w r (.returned (.tuple #[.agg #[y0,y1],intV err])) ((W.setCell ⟨w.heap.size+1,0,none⟩ y0).setCell ⟨w.heap.size+1,1,none⟩ y1)) :
 bodyPost prog Tryz.f16 (TN w r) Exit.ret A ((W.setCell ⟨w.heap.size+1,0,none⟩ y0).setCell ⟨w.heap.size+1,1,none⟩ y1):=by
 refine bodyPost_ret (v:=.tuple #[.agg #[y0,y1],intV err]) ?_ hd hR
 have k0:((W.setCell ⟨w.heap.size+1,0,none⟩ y0).setCell ⟨w.heap.size+1,1,none⟩ y1).cell? ⟨w.heap.size+1,0,none⟩=some y0:=by
  rw[World.cell?_setCell_other _ _ _ _ (by simp)];exact World.cell?_setCell_same _ _ _ h0
 have k1:((W.setCell ⟨w.heap.size+1,0,none⟩ y0).setCell ⟨w.heap.size+1,1,none⟩ y1).cell? ⟨w.heap.size+1,1,none⟩=some y1:=World.cell?_setCell_same _ _ _ ((World.cell?_setCell_other _ _ _ _ (by simp)).trans h1);simp only[Array.getD_eq_getD_getElem?]at h6 h7;simp[results,results16,go_sem,loadVar,h6,h7,k0,k1,Result.andThen]
end
end Go.Proofs.YtcdkdiedphhdhaaGreatDoor
