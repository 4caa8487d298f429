/- Part of a proof. -/
import Derived.Test.YtokdgiphdnjeoaaGreatDoorQ23
import Derived.Test.YtokdgiphdnjeoaaGreatDoorQ35
import Derived.Lib.SliceRun
set_option maxRecDepth 100000
set_option maxHeartbeats 8000000
set_option linter.unusedVariables false
set_option linter.unusedSimpArgs false
open Go.Proofs.Tryz
namespace Go.Proofs.YtokdgiphdnjeoaaGreatDoor
section
open Go Go.RowKit
def tT(w:World)(T:TypeId)(k n:Nat)(xs:List Value)(e:Ending)(w':World):Prop:=
 ∃a c,e=.returned (.slice a n c)∧w'.ownsRow w.heap.size T k (.slice a n c) n xs∧Below w.heap.size w w'
theorem yR{k:Nat}{w:World}{n c:Nat}{xs:List Value}(h:Row k w none n c xs):n=0:=by
 rcases h.2.2.2 with h|⟨b,o,e,-⟩
 ·exact h
 ·cases e
theorem nT(a:Option Addr)(n c:Nat)(l:List Int)(w:World)(hn:n≤1000000)(hr:Row 1 w a n c (zm l)) :
 Calls prog 136 #[.slice a n c] w (tT w 3 1 n (zm l)):=by
 cases a with
 | none=>
   obtain rfl:=yR hr;have hl:l=[]:=by have:=hr.1;simp at this;exact this
   subst hl;have hsn:=fun W=>Lib.run_eql_slice_nil (P:=prog) W 23 3 none 0 c 0 0 bM;go_enter func136,ntmps136;go_wp2;go_ret;exact⟨none,0,rfl,⟨rfl,.inl ⟨rfl,rfl⟩⟩,brf⟩
 | some x=>
   have hl:l.length=n:=by have:=hr.1;simpa using this
   subst hl;have hr2:Row 1 (w.alloc (.cells #[] 3)) (some x) l.length c (zm l):=hr.mono ((Below.refl _ w).alloc nlr _) nlr;have HR:=Hd hr2;have hsn:=fun W=>Lib.run_eql_slice_nil (P:=prog) W 23 3 (some x) l.length c 0 0 bM;clear hr hr2;go_enter func136,ntmps136
   go_wp2_with (at_builtin;refine zV (news:=l) (l:=[]) (B:=w.heap.size) rfl (.tmp 5) (.tmp 6) rfl rfl (iG _ _ _ (by simp) nlr) rfl HR.out (by simp;omega) (by simp) ?_;intro a9 c9 w9 l9 HL9 hle9 hown9 hkeep9)
   go_ret;have e9:l9=l:=HL9.out;subst e9;exact⟨a9,c9,rfl,hown9,hkeep9 _ _ nlr ((Below.refl _ w).alloc nlr _)⟩
theorem vU(a:Option Addr)(n c:Nat)(xs:List Value)(w:World)(hn:n≤1000000)(hr:Row 5 w a n c xs)(h1:∀u∈xs,u.oneCell'=true) :
 Calls prog 135 #[.slice a n c] w (tT w 57 5 n xs):=by
 cases a with
 | none=>
   obtain rfl:=yR hr;have hl:xs=[]:=by have:=hr.1;simp at this;exact this
   subst hl;have hsn:=fun W=>Lib.run_eql_slice_nil (P:=prog) W 22 57 none 0 c 0 0 cZ;go_enter func135,ntmps135;go_wp2;go_ret;exact⟨none,0,rfl,⟨rfl,.inl ⟨rfl,rfl⟩⟩,brf⟩
 | some x=>
   have hsn:=fun W=>Lib.run_eql_slice_nil (P:=prog) W 22 57 (some x) n c 0 0 cZ;have hr2:Row 5 (w.alloc (.cells #[] 57)) (some x) n c xs:=hr.mono ((Below.refl _ w).alloc nlr _) nlr;have HR:=Hd hr2;have H1:=Hd h1;have hown0:(w.alloc (.cells #[] 57)).ownsRow w.heap.size 57 5 (.slice (some ⟨w.heap.size,0,none⟩) 0 0) 0 []:=iG _ _ _ rfl nlr;have HO:=Hd hown0;clear hr hr2 h1 hown0;go_enter func135,ntmps135
   go_wp2_with (at_builtin;refine eA (news:=xs) rfl (.tmp 5) (.tmp 6) 22 57 _ 5 64 rfl cZ iZ rfl (by decide) rfl HO.out rfl HR.out H1.out (by unfold maxLen;omega) (by omega) (by simp) ?_;intro a6 c6 w6 h1 h2 h3;rw[Nat.zero_add,List.nil_append]at h1;have HB:=Hd (EW ((Below.refl _ w).alloc nlr _) HO.out h2 (by simp));clear h2 h3;rw[Nat.zero_add])
   go_ret;exact⟨a6,c6,rfl,h1,HB.out⟩
theorem oM:∀(ns:List Nd) (ks:List (Option Addr×Nat)),∀u∈zI ns ks,u.oneCell'=true
 | [],_,u,h=>by simp[zI]at h
 |_::_,[],u,h=>by simp[zI]at h
 | d::ns,a::ks,u,h=>by
   rw[zI]at h;rcases List.mem_append.1 h with h|h
   ·exact fI d a u h
   ·exact oM ns ks u h
theorem oN:∀(ns:List Nd) (ks:List (Option Addr×Nat)) (k:Nat) (hk:k<ns.length) (a:Option Addr×Nat),ks.length=ns.length→zI ns (ks.set k a)=(zI ns ks).set (k*5+3) (.slice a.1 ns[k].kids.length a.2)
 |d::ns,b::ks,0,_,a,_=>by simp[zI,Nd.cells]
 | d::ns,b::ks,k+1,hk,a,h=>by
   simp only[List.set_cons_succ,zI,List.getElem_cons_succ];rw[oN ns ks k (by simpa using hk) a (by simpa using h)];have e:(k+1)*5+3=(d.cells b).length+(k*5+3):=by simp[Nd.cells];omega
   rw[e,List.set_append_right _ _ (by omega)];simp
 | [],_,_,hk,_,_=>by simp at hk
 |_::_,[],_,_,_,h=>by simp at h
def RowX(B:Nat)(T:TypeId)(k n:Nat)(xs:List Value)(v:Value)(W:World):Prop:=∃a c,v=.slice a n c∧W.ownsRow B T k (.slice a n c) n xs
theorem RowX.below{B:Nat}{T:TypeId}{k n:Nat}{xs:List Value}{v:Value}{W W':World}(h:RowX B T k n xs v W)(hb:Below W.heap.size W W'):RowX B T k n xs v W':=by
 obtain⟨a,c,e,ho⟩:=h;exact⟨a,c,e,zy ho hb⟩
structure CopyI (w W:World) (B g:Nat) (t:Tr) (an ai:Option Addr) (cn ci:Nat) (k:Nat) (ks:List (Option Addr×Nat)):Prop where
 len:ks.length=t.nodes.length
 own:W.ownsRow B 57 5 (.slice an t.nodes.length cn) t.nodes.length (zI t.nodes ks)
 kids:∀i (h:i<t.nodes.length) (h':i<ks.length),Row 1 W ks[i].1 t.nodes[i].kids.length ks[i].2 (zm t.nodes[i].kids)∧(0<t.nodes[i].kids.length→∀x,ks[i].1=some x→(i<k→B≤x.block∧∀y,an=some y→x.block≠y.block)∧(k≤i→x.block<B))
 items:W.ownsRow B 3 1 (.slice ai t.items.length ci) t.items.length (zm t.items)
 ne:∀x y,ai=some x→an=some y→x.block≠y.block
 g0:W.cell? ⟨g,0,none⟩=some (.slice an t.nodes.length cn)
 g1:W.cell? ⟨g,1,none⟩=some (.slice ai t.items.length ci)
 gne:∀y,an=some y→y.block≠g
 res:∀j,j<2→W.cell? ⟨w.heap.size+1,j,none⟩=some (.slice none 0 0)∧W.frozen? ⟨w.heap.size+1,j,none⟩=false
 below:Below w.heap.size w W
theorem CopyI.nodes{w W:World}{B g:Nat}{t:Tr}{an ai:Option Addr}{cn ci k:Nat}{ks:List (Option Addr×Nat)}(h:CopyI w W B g t an ai cn ci k ks):Nodes W an cn t.nodes:=by
 obtain⟨a',c',e,hr⟩:=bK h.own;cases e
 exact⟨ks,h.len,hr,fun i hi hi'=>(h.kids i hi hi').1⟩
theorem CopyI.grow{w W W':World}{B g:Nat}{t:Tr}{an ai:Option Addr}{cn ci k:Nat}{ks:List (Option Addr×Nat)}(h:CopyI w W B g t an ai cn ci k ks)(hb:Below W.heap.size W W'):CopyI w W' B g t an ai cn ci k ks:=by
 have hc:∀b j v,W.cell? ⟨b,j,none⟩=some v→W'.cell? ⟨b,j,none⟩=some v:=fun b j v e=>(hb.cell (p:=⟨b,j,none⟩) (World.block_lt_of_cell? W _ e)).trans e;exact⟨h.len,zy h.own hb,fun i hi hi'=>⟨(h.kids i hi hi').1.mono hb nlr,(h.kids i hi hi').2⟩,zy h.items hb,h.ne,hc _ _ _ h.g0,hc _ _ _ h.g1,h.gne,fun j hj=>⟨hc _ _ _ (h.res j hj).1,(hb.frozen (p:=⟨w.heap.size+1,j,none⟩) (World.block_lt_of_cell? W _ (h.res j hj).1)).trans (h.res j hj).2⟩,h.below.trans (hb.mono h.below.size)⟩
theorem CopyI.set{w W:World}{B g nb:Nat}{t:Tr}{an ai:Option Addr}{cn ci k:Nat}{ks:List (Option Addr×Nat)}(h:CopyI w W B g t an ai cn ci k ks)(hwB:w.heap.size+1<B)(ha:an=some ⟨nb,0,none⟩)(hB:B≤nb)(hk:k<t.nodes.length){a':Option Addr}{c':Nat}
 (hown:W.ownsRow B 3 1 (.slice a' t.nodes[k].kids.length c') t.nodes[k].kids.length (zm t.nodes[k].kids))(hne:∀x,a'=some x→x.block≠nb) :
 CopyI w (W.setCell ⟨nb,k*5+3,none⟩ (.slice a' t.nodes[k].kids.length c')) B g t an ai cn ci (k+1) (ks.set k (a',c')):=by
 subst ha;have hT:Turns (fun i=>i=nb) W (W.setCell ⟨nb,k*5+3,none⟩ (.slice a' t.nodes[k].kids.length c')):=(Turns.setCell (a:=⟨nb,k*5+3,none⟩) rfl _).mono fun _ _ e=>e.symm;have hc:∀b j v,b≠nb→W.cell? ⟨b,j,none⟩=some v→(W.setCell ⟨nb,k*5+3,none⟩ (.slice a' t.nodes[k].kids.length c')).cell? ⟨b,j,none⟩=some v:=fun b j v hb e=>(hT.cell (World.block_lt_of_cell? W _ e) hb).trans e;have hgn:g≠nb:=fun e=>h.gne _ rfl e.symm;have hrow:∀{kids:List Int}{q:Option Addr×Nat},Row 1 W q.1 kids.length q.2 (zm kids)→(0<kids.length→∀x,q.1=some x→x.block≠nb)→Row 1 (W.setCell ⟨nb,k*5+3,none⟩ (.slice a' t.nodes[k].kids.length c')) q.1 kids.length q.2 (zm kids):=fun hr hn=>aA hr _ hn;refine⟨by simp[h.len],?_,fun i hi hi'=>?_,bR h.items hT (fun i ⟨x,e,e2⟩ e3=>h.ne x _ e rfl (e2.trans e3)),h.ne,hc _ _ _ hgn h.g0,hc _ _ _ hgn h.g1,h.gne,fun j hj=>⟨hc _ _ _ (by omega) (h.res j hj).1,by rw[World.frozen?_setCell];exact(h.res j hj).2⟩,h.below.setCell (by simp only;omega) _⟩
 ·rw[oN t.nodes ks k hk (a',c') h.len]
  have:=(h.own.stored (k*5+3) (.slice a' t.nodes[k].kids.length c')).1;simpa using this
 ·have hi2:i<ks.length:=by simpa using hi'
  by_cases e:i=k
  ·subst e
   have hr:Row 1 W a' t.nodes[i].kids.length c' (zm t.nodes[i].kids):=by obtain⟨a9,c9,e9,hr⟩:=bK hown;cases e9;exact hr
   have hgt:(ks.set i (a',c'))[i]'hi'=(a',c'):=by simp
   rw[hgt];refine⟨hrow (q:=(a',c')) hr (fun _ x e=>hne x e),fun _ x e=>⟨fun _=>⟨(hown.lt x.block (by rw[show a'=some x from e];rfl)).1,fun y ey=>by cases ey;exact hne x e⟩,fun hh=>by omega⟩⟩
  ·have hgt:(ks.set k (a',c'))[i]'hi'=ks[i]:=by rw[List.getElem_set_ne (fun h=>e h.symm)]
   rw[hgt];obtain⟨h1,h2⟩:=h.kids i hi hi2;refine⟨hrow h1 (fun h0 x ex=>?_),fun h0 x ex=>⟨fun hl=>(h2 h0 x ex).1 (by omega),fun hl=>(h2 h0 x ex).2 (by omega)⟩⟩;by_cases hlt:i<k
   ·exact((h2 h0 x ex).1 hlt).2 _ rfl
   ·have:=(h2 h0 x ex).2 (by omega)
    omega
theorem NX{W:World}{B:Nat}{e:TypeId}{k n c:Nat}{a:Option Addr}{xs:List Value}(h:W.ownsRow B e k (.slice a n c) n xs)(h0:0<n):∃nb,a=some ⟨nb,0,none⟩∧B≤nb∧nb<W.heap.size∧∀j,W.frozen? ⟨nb,j,none⟩=false:=by
 rcases h.2 with⟨h',h1⟩|⟨g,cap,cur,h',hb,hg,_⟩
 ·omega
 ·simp only[Value.slice.injEq,true_and]at h'
  obtain⟨rfl,rfl⟩:=h';exact⟨g,rfl,hb,(Array.getElem?_eq_some_iff.1 hg).1,fun i=>h.frozenAt i⟩
theorem yN{W:World}{B:Nat}{e:TypeId}{k n c:Nat}{a:Option Addr}{xs:List Value}(h:W.ownsRow B e k (.slice a n c) n xs){g:Nat}{cs:Array Value}{T:TypeId}(hg:W.heap[g]?=some (.cells cs T))(hT:(T==e)=false):∀y,a=some y→y.block≠g:=by
 rintro y rfl rfl;rcases h.2 with⟨h',h1⟩|⟨g2,cap,cur,h',hb,hg2,_⟩
 ·cases h'
 ·simp only[Value.slice.injEq]at h'
  obtain⟨h',-⟩:=h';simp only[Option.some.injEq]at h';subst h';simp only at hg;rw[hg]at hg2;simp only[Option.some.injEq,Obj.cells.injEq]at hg2;rw[hg2.2.1]at hT;simp at hT
theorem CopyI.init{w W:World}{B g:Nat}{t:Tr}{an ai:Option Addr}{cn ci:Nat}{ks:List (Option Addr×Nat)}(hw:Below w.heap.size w W)(hB:B=w.heap.size+1+1)(hgB:B≤g)(hg:W.heap[g]?=some (.cells #[.slice none 0 0,.slice none 0 0] 25))
 (hl:ks.length=t.nodes.length)(hk:∀i (h:i<t.nodes.length) (k:i<ks.length),Row 1 w ks[i].1 t.nodes[i].kids.length ks[i].2 (zm t.nodes[i].kids))
 (h2:W.ownsRow B 57 5 (.slice an t.nodes.length cn) t.nodes.length (zI t.nodes ks))(h5:W.ownsRow B 3 1 (.slice ai t.items.length ci) t.items.length (zm t.items))(hne:∀x y,ai=some x→an=some y→x.block≠y.block)
 (hr:∀j,j<2→W.cell? ⟨w.heap.size+1,j,none⟩=some (.slice none 0 0)∧W.frozen? ⟨w.heap.size+1,j,none⟩=false) :
 CopyI w ((W.setCell ⟨g,0,none⟩ (.slice an t.nodes.length cn)).setCell ⟨g,1,none⟩ (.slice ai t.items.length ci)) B g t an ai cn ci 0 ks:=by
 have hT:Turns (fun i=>i=g) W ((W.setCell ⟨g,0,none⟩ (.slice an t.nodes.length cn)).setCell ⟨g,1,none⟩ (.slice ai t.items.length ci)):=(Turns.setCell (M:=fun i=>i=g) (a:=⟨g,0,none⟩) rfl _).trans (Turns.setCell (M:=fun i=>i=g) (a:=⟨g,1,none⟩) rfl _);have n2:=yN h2 hg (by decide);have n5:=yN h5 hg (by decide);have hlt:=zB hg;have hgw:w.heap.size≤g:=by omega
 refine⟨hl,bR h2 hT (fun i ⟨x,e,e2⟩ e3=>n2 x e (e2.trans e3)),fun i hi hi'=>?_,bR h5 hT (fun i ⟨x,e,e2⟩ e3=>n5 x e (e2.trans e3)),hne,?_,?_,n2,fun j hj=>?_,(hw.setCell hgw _).setCell hgw _⟩
 ·have hrow:=hk i hi hi'
  refine⟨hrow.mono ((hw.setCell hgw _).setCell hgw _) nlr,fun h0 x e=>⟨fun h=>by omega,fun _=>?_⟩⟩;rcases hrow.2.2.2 with h|⟨b,o,e2,hlt,-⟩
  ·omega
  ·rw[e]at e2
   cases e2
   simp only;omega
 ·rw[World.cell?_setCell_other _ _ _ _ (by simp)];exact World.cell?_setCell_same _ _ _ (za hg rfl)
 ·exact World.cell?_setCell_same _ _ _ (by rw[World.cell?_setCell_other _ _ _ _ (by simp)];exact za hg rfl)
 ·have hlt2:=World.block_lt_of_cell? W _ (hr j hj).1
  have hn:¬(w.heap.size+1=g):=by omega
  exact⟨(hT.cell hlt2 hn).trans (hr j hj).1,(hT.frozen hlt2 hn).trans (hr j hj).2⟩
def LS(w:World)(t:Tr)(e:Ending)(w':World):Prop:=
 ∃(v:TreeV) (B:Nat) (ks:List (Option Addr×Nat)),e=.returned (v.val t)∧w.heap.size≤B∧OwnN w' B v.na v.nc t.nodes ks∧Ints w' v.ia v.ic t.items∧(∀x y,v.ia=some x→v.na=some y→x.block≠y.block)∧(∀x,v.ia=some x→w.heap.size≤x.block)∧Below w.heap.size w w'
theorem CopyI.done{w W:World}{B g:Nat}{t:Tr}{an ai:Option Addr}{cn ci:Nat}{ks:List (Option Addr×Nat)}(h:CopyI w W B g t an ai cn ci t.nodes.length ks):OwnN W B an cn t.nodes ks:=
 ⟨h.len,h.own,fun i hi hi'=>⟨(h.kids i hi hi').1,fun h0 x e=>((h.kids i hi hi').2 h0 x e).1 hi⟩⟩
theorem wA(v:TreeV)(t:Tr)(w:World)(bd:Bd t)(h:IsTree w v t) :
 Calls prog 87 #[v.val t] w (LS w t):=by
 have hmo:prog.follows .mixedOrders=true:=by kernel_rfl
 have HT:=Hd h;have BD:=Hd bd;have hn3:=bd.n;have hi3:=bd.i;clear h bd;obtain⟨na,nc,ia,ic⟩:=v;obtain⟨ks,hkl,hrn,hkk⟩:=HT.out.nodes;have hri:=HT.out.items;have hbx:Below w.heap.size w ((boxT w ⟨na,nc,ia,ic⟩ t).alloc (.cells #[.slice none 0 0,.slice none 0 0] 25)):=((Below.refl _ w).alloc nlr _).alloc (by simp) _;have HCN:=Hd (show ∀W,Below w.heap.size w W→Calls prog 135 #[.slice na t.nodes.length nc] W (tT W 57 5 t.nodes.length (zI t.nodes ks))from fun W hW=>vU na _ nc _ W hn3 (hrn.mono hW nlr) (oM t.nodes ks));have HCI:=Hd (show ∀W,Below w.heap.size w W→Calls prog 136 #[.slice ia t.items.length ic] W (tT W 3 1 t.items.length (zm t.items))from fun W hW=>nT ia _ ic _ W hi3 (hri.mono hW nlr));unfold TreeV.val;go_enter func87,ntmps87;go_wp2;obtain⟨W0,hW0⟩:∃W0,(w.alloc (.cells #[.slice na t.nodes.length nc,.slice ia t.items.length ic] 25)).alloc (.cells #[.slice none 0 0,.slice none 0 0] 25)=W0:=⟨_,rfl⟩
 rw[hW0];have hs0:W0.heap.size=w.heap.size+1+1:=by rw[←hW0];simp
 have hbw0:Below w.heap.size w W0:=by rw[←hW0];exact hbx
 have b0:W0.cell? ⟨w.heap.size,0,none⟩=some (.slice na t.nodes.length nc):=by rw[←hW0];simp
 have b1:W0.cell? ⟨w.heap.size,1,none⟩=some (.slice ia t.items.length ic):=by rw[←hW0];simp
 have br:∀j,j<2→W0.cell? ⟨w.heap.size+1,j,none⟩=some (.slice none 0 0)∧W0.frozen? ⟨w.heap.size+1,j,none⟩=false:=by
  intro j hj
  have hh:W0.heap[w.heap.size+1]?=some (.cells #[.slice none 0 0,.slice none 0 0] 25):=by
   rw[←hW0];have:=World.alloc_heap_new (w.alloc (.cells #[.slice na t.nodes.length nc,.slice ia t.items.length ic] 25)) (.cells #[.slice none 0 0,.slice none 0 0] 25);rwa[World.size_alloc]at this
  refine⟨?_,zl hh⟩;have:j=0∨j=1:=by omega
  rcases this with rfl|rfl
  ·exact za hh rfl
  ·exact za hh rfl
 have hs3:w.heap.size<W0.heap.size:=by omega
 have HBR:=Hd br;have HW0:=Hd hbw0;clear br hbw0 hbx hW0;refine N.region_M 8 hmo (by kernel_rfl) (by kernel_rfl) rfl (by kernel_rfl) (by kernel_rfl) (fun _ _=>False) N.Pans.no (fun Wz=>Below (W0).heap.size (W0) Wz) (fun Wy Wz=>Below Wy.heap.size Wy Wz) (brf.drew) [.fix ?vG1_0,.fix ?vG1_1,.dep [] (fun _ v W=>RowX W0.heap.size 57 5 t.nodes.length (zI t.nodes ks) v W),.fix ?vG1_3,.fix ?vG1_4,.dep [2] (fun l v W=>RowX W0.heap.size 3 1 t.items.length (zm t.items) v W∧∀i,(l.getD 0 undef).ownBlock=some i→v.ownBlock≠some i),.dep [2,5] (fun l v _=>v=.agg #[l.getD 0 undef,l.getD 1 undef]),.dep [] (N.NewB (W0).heap.size #[.slice none 0 0,.slice none 0 0] 25)] [[],[],[],[],[],[2],[2,5],[]] rfl (by kernel_rfl) (N.sts_kd ⟨trivial,trivial,(fun _ _ _ _ hk h=>h.below hk),trivial,trivial,(fun _ _ _ _ hk h=>⟨h.1.below hk,h.2⟩),(fun _ _ _ _ _ h=>h),N.NewB.st,trivial⟩) fun x=>?_;rotate_left 4
 iterate 2 (refine N.WalkM.fix ?_ ?_;refine N.StepS.known rfl (fun _=>brf) ?_;intro W hJ hP;obtain⟨hcJ,hfJ⟩:=bcell hJ;go_simp;rfl;simp only[N.pz])
 refine N.WalkM.dep ?sG1_2 ?rG1_2;case sG1_2=>(refine N.StepS.call' (f:=135) (args:=#[.slice na t.nodes.length nc]) rfl ?_ ?_;(intro W hJ hP;obtain⟨hcJ,hfJ⟩:=bcell hJ;(go_simp;try rfl));(intro W hJ hP;refine(HCN.out W (HW0.out.trans (hJ.mono HW0.out.size))).mono ?_;rintro e w' ⟨a,c,rfl,hown,hb⟩;exact⟨_,rfl,hJ.trans (hb.mono hJ.size),hb,⟨a,c,rfl,aY hown hJ.size⟩⟩))
 simp only[N.pz]
 iterate 2 (refine N.WalkM.fix ?_ ?_;refine N.StepS.known rfl (fun _=>brf) ?_;intro W hJ hP;obtain⟨hcJ,hfJ⟩:=bcell hJ;go_simp;rfl;simp only[N.pz])
 refine N.WalkM.dep ?sG1_5 ?rG1_5;case sG1_5=>(refine N.StepS.call' (f:=136) (args:=#[.slice ia t.items.length ic]) rfl ?_ ?_;(intro W hJ hP;obtain⟨hcJ,hfJ⟩:=bcell hJ;(go_simp;try rfl));(intro W hJ hP;refine(HCI.out W (HW0.out.trans (hJ.mono HW0.out.size))).mono ?_;rintro e w' ⟨a,c,rfl,hown,hb⟩;refine⟨_,rfl,hJ.trans (hb.mono hJ.size),hb,⟨⟨a,c,rfl,aY hown hJ.size⟩,fun i hi hh=>by obtain⟨a5,c5,h5,own5⟩:RowX W0.heap.size 57 5 t.nodes.length (zI t.nodes ks) (x 2) W:=hP 2 (by kernel_rfl);simp only[List.map_cons,List.getD_cons_zero]at hi;rw[h5]at hi;have h1:=(own5.lt i hi).2;have h2:=(hown.lt i hh).1;omega⟩⟩))
 simp only[N.pz];refine N.WalkM.dep ?sG1_6 ?rG1_6;case sG1_6=>exact N.StepS.runs rfl (fun W hJ hP=>⟨_,W,(by(obtain⟨a2,c2,h2,-⟩:RowX W0.heap.size 57 5 t.nodes.length (zI t.nodes ks) (x 2) W:=hP 2 (by kernel_rfl);obtain⟨⟨a5,c5,h5,-⟩,-⟩:RowX W0.heap.size 3 1 t.items.length (zm t.items) (x 5) W∧∀i,(([2]:List Nat).map x|>.getD 0 undef).ownBlock=some i→(x 5).ownBlock≠some i:=hP 5 (by kernel_rfl);simp only[List.map_cons,List.map_nil,List.getD_cons_zero,List.getD_cons_succ];generalize x 2=y2 at *;generalize x 5=y5 at *;subst h2 h5;go_simp;try rfl)),hJ,brf,rfl⟩)
 simp only[N.pz];refine N.WalkM.dep ?sG1_7 ?rG1_7;case sG1_7=>exact N.StepS.runs rfl (fun W hJ _=>⟨_,_,(by(go_simp;try rfl)),hJ.alloc hJ.size _,brf.alloc nlr _,⟨W.heap.size,rfl,hJ.size,heap_alloc_new _ _⟩⟩)
 simp only[N.pz];refine N.WalkM.nil fun W hJ hH=>?_;obtain⟨g7,hx7,hg7,hn7⟩:N.NewB (W0).heap.size #[.slice none 0 0,.slice none 0 0] 25 [] (x 7) W:=hH 7;generalize x 7=y7 at *;subst hx7;obtain⟨a2,c2,h2,own2⟩:RowX W0.heap.size 57 5 t.nodes.length (zI t.nodes ks) (x 2) W:=hH 2;obtain⟨⟨a5,c5,h5,own5⟩,hne⟩:RowX W0.heap.size 3 1 t.items.length (zm t.items) (x 5) W∧∀i,(([2]:List Nat).map x |>.getD 0 undef).ownBlock=some i→(x 5).ownBlock≠some i:=hH 5;have h6:x 6=.agg #[x 2,x 5]:=hH 6;simp only[List.map_cons,List.getD_cons_zero]at hne;rw[h2,h5]at hne;have hne2:∀x y,a5=some x→a2=some y→x.block≠y.block:=fun x y ex ey e=>hne y.block (by rw[ey];rfl) (by rw[ex,←e];rfl);have HN2:=Hd hne2;have O5:=Hd own5;have O2:=Hd own2;have HJW:=Hd hJ;rw[h2,h5]at h6;generalize x 2=y2 at *;generalize x 5=y5 at *;generalize x 6=y6 at *;subst h2 h5 h6;clear hne hne2 own5 own2 hJ hH;have hcr:∀j,j<2→W.cell? ⟨w.heap.size+1,j,none⟩=some (.slice none 0 0)∧W.frozen? ⟨w.heap.size+1,j,none⟩=false:=fun j hj=>⟨(HJW.out.cell (p:=⟨w.heap.size+1,j,none⟩) (by show w.heap.size+1<_;omega)).trans (HBR.out j hj).1,(HJW.out.frozen (p:=⟨w.heap.size+1,j,none⟩) (by show w.heap.size+1<_;omega)).trans (HBR.out j hj).2⟩
 have HI:=Hd (CopyI.init (HW0.out.trans (HJW.out.mono HW0.out.size)) hs0 hg7 hn7 hkl hkk O2.out O5.out HN2.out hcr);have hx0:=za (i:=0) (v:=.slice none 0 0) hn7 rfl;have hx1:=za (i:=1) (v:=.slice none 0 0) hn7 rfl;have hf0:=zl (i:=0) hn7;have hf1:=zl (i:=1) hn7;obtain⟨B,hB⟩:∃B,W0.heap.size=B:=⟨_,rfl⟩
 rw[hB]at HI hg7 hs0;clear HCN HCI hkl hrn hkk hri b0 b1 hs3 HBR HW0 hn7 HN2 O5 O2 HJW hcr hB;simp only[List.drop_succ_cons,List.drop_zero];go_wp2
 go_loopw [16] (fun t16 wr=>∃(k:Nat) (ks:List (Option Addr×Nat)),t16=.int .i64 k∧k≤t.nodes.length∧Hid (CopyI w wr B g7 t a2 a5 c2 c5 k ks)) (fun t16 _=>t.nodes.length-(intOf t16).toNat)
 case atStart=>exact⟨0,_,rfl,Nat.zero_le _,HI⟩
 case round=>
  obtain⟨k,ks,rfl,hk,HC⟩:=hrel;have y0:=HC.out.g0;have y1:=HC.out.g1;have hg7l:=World.block_lt_of_cell? wr _ y0;simp only at hg7l;by_cases hlt:k<t.nodes.length
  ·obtain⟨nb,ha,hnB,hnl,hfn⟩:=NX HC.out.own (by omega)
   obtain⟨b,o,ka,kc,ea,hb,m0,m1,m2,m3,m4,hkr⟩:=HC.out.nodes.at hlt;rw[ha]at ea;simp only[Option.some.injEq,Addr.mk.injEq,and_true]at ea;obtain⟨rfl,rfl⟩:=ea;simp only[Nat.zero_add]at m0 m1 m2 m3 m4;have hkl:t.nodes[k].kids.length≤1000000:=BD.out.k _ (List.getElem_mem _);have hset:∀(W:World) (a':Option Addr) (c':Nat),CopyI w W B g7 t a2 a5 c2 c5 k ks→W.ownsRow B 3 1 (.slice a' t.nodes[k].kids.length c') t.nodes[k].kids.length (zm t.nodes[k].kids)→(∀x,a'=some x→x.block≠nb)→CopyI w (W.setCell ⟨nb,k*5+3,none⟩ (.slice a' t.nodes[k].kids.length c')) B g7 t a2 a5 c2 c5 (k+1) (ks.set k (a',c')):=fun W a' c' h h1 h2=>h.set (by omega) ha hnB hlt h1 h2;obtain⟨d,hd⟩:∃d,t.nodes[k]=d:=⟨_,rfl⟩
   rw[hd]at m0 m1 m2 m3 m4 hkr hkl hset;have HSET:=Hd hset;clear hset hd;subst ha;have hbD:Below wr.heap.size wr (boxD wr ka kc d):=brf.alloc nlr _;have hCD:=HC.out.grow hbD;have HCI:=Hd (show ∀W,Below wr.heap.size wr W→Calls prog 136 #[.slice ka d.kids.length kc] W (tT W 3 1 d.kids.length (zm d.kids))from fun W hW=>nT ka _ kc _ W hkl (hkr.mono hW nlr));have z0:(boxD wr ka kc d).cell? ⟨g7,0,none⟩=some (.slice (some ⟨nb,0,none⟩) t.nodes.length c2):=hCD.g0;have z3:(boxD wr ka kc d).cell? ⟨wr.heap.size,3,none⟩=some (.slice ka d.kids.length kc):=by simp
   have hzs:(boxD wr ka kc d).heap.size=wr.heap.size+1:=by simp
   have hzl:g7<(boxD wr ka kc d).heap.size:=by omega
   have hzw:wr.heap.size<(boxD wr ka kc d).heap.size:=by omega
   have HZC:=Hd hCD;have HBD:=Hd hbD;have q3:=(hbD.cell (p:=⟨nb,k*5+3,none⟩) hnl).trans m3;clear hkr hCD hbD;go_wp2;refine N.region_M 8 hmo (by kernel_rfl) (by kernel_rfl) rfl (by kernel_rfl) (by kernel_rfl) (fun _ _=>False) N.Pans.no (fun Wz=>Below (boxD wr ka kc d).heap.size (boxD wr ka kc d) Wz) (fun Wy Wz=>Below Wy.heap.size Wy Wz) (brf.drew) [.fix ?vG2_0,.fix ?vG2_1,.fix ?vG2_2,.fix ?vG2_3,.fix ?vG2_4,.dep [] (fun _ v W=>RowX wr.heap.size 3 1 d.kids.length (zm d.kids) v W),.fix ?vG2_6,.fix ?vG2_7] [[],[],[],[],[],[],[],[]] rfl (by kernel_rfl) (N.sts_kd ⟨trivial,trivial,trivial,trivial,trivial,(fun _ _ _ _ hk h=>h.below hk),trivial,trivial,trivial⟩) fun x=>?_;rotate_left 7
   iterate 5 (refine N.WalkM.fix ?_ ?_;refine N.StepS.known rfl (fun _=>brf) ?_;intro W hJ hP;obtain⟨hcJ,hfJ⟩:=bcell hJ;go_simp;rfl;simp only[N.pz])
   refine N.WalkM.dep ?sG2_5 ?rG2_5;case sG2_5=>(refine N.StepS.call' (f:=136) (args:=#[.slice ka d.kids.length kc]) rfl ?_ ?_;(intro W hJ hP;obtain⟨hcJ,hfJ⟩:=bcell hJ;(go_simp;try rfl));(intro W hJ hP;refine(HCI.out W (HBD.out.trans (hJ.mono HBD.out.size))).mono ?_;rintro e w' ⟨a,c,rfl,hown,hb⟩;exact⟨_,rfl,hJ.trans (hb.mono hJ.size),hb,⟨a,c,rfl,aY hown (Nat.le_trans HBD.out.size hJ.size)⟩⟩))
   simp only[N.pz]
   iterate 2 (refine N.WalkM.fix ?_ ?_;refine N.StepS.known rfl (fun _=>brf) ?_;intro W hJ hP;obtain⟨hcJ,hfJ⟩:=bcell hJ;go_simp;rfl;simp only[N.pz])
   refine N.WalkM.nil fun W hJ hH=>?_;obtain⟨a6,c6,h6,own6⟩:RowX wr.heap.size 3 1 d.kids.length (zm d.kids) (x 5) W:=hH 5;have hCW:=HZC.out.grow hJ;have q3':=(hJ.cell (p:=⟨nb,k*5+3,none⟩) (Nat.lt_of_lt_of_le hnl HBD.out.size)).trans q3;have qf:=(hJ.frozen (p:=⟨nb,k*5+3,none⟩) (Nat.lt_of_lt_of_le hnl HBD.out.size)).trans ((HBD.out.frozen (p:=⟨nb,k*5+3,none⟩) hnl).trans (hfn (k*5+3)));have n6:∀x,a6=some x→x.block≠nb:=fun y e e2=>by have:=(own6.lt y.block (by rw[e];rfl)).1;omega
   have HCX:=Hd (HSET.out W a6 c6 hCW (aY own6 (Nat.le_trans (Nat.le_of_lt (Nat.lt_of_le_of_lt hnB hnl)) nlr)) n6);generalize x 5=y5 at *;subst h6;clear HSET hCW own6 n6 hH hJ;simp only[List.drop_succ_cons,List.drop_zero];go_wp2
   go_roundw
   case rel=>exact⟨k+1,_,by go_num,by omega,HCX⟩
   case measure=>simp[intOf];omega
  ·obtain rfl:k=t.nodes.length:=by omega
   obtain⟨r0,f0⟩:=HC.out.res 0 (by decide);obtain⟨r1,f1⟩:=HC.out.res 1 (by decide);go_wp2
   have c2':((wr.setCell ⟨w.heap.size+1,0,none⟩ (.slice a2 t.nodes.length c2)).setCell ⟨w.heap.size+1,1,none⟩ (.slice a5 t.items.length c5)).cell? ⟨w.heap.size+1,0,none⟩=some (.slice a2 t.nodes.length c2):=by
    rw[World.cell?_setCell_other _ _ _ _ (by simp)];exact World.cell?_setCell_same _ _ _ r0
   have c3':((wr.setCell ⟨w.heap.size+1,0,none⟩ (.slice a2 t.nodes.length c2)).setCell ⟨w.heap.size+1,1,none⟩ (.slice a5 t.items.length c5)).cell? ⟨w.heap.size+1,1,none⟩=some (.slice a5 t.items.length c5):=
    World.cell?_setCell_same _ _ _ ((World.cell?_setCell_other _ _ _ _ (by simp)).trans r1)
   refine bodyPost_ret (v:=.agg #[.slice a2 t.nodes.length c2,.slice a5 t.items.length c5]) (by simp[results,results87,go_sem,loadVar,c2',c3',Result.andThen]) rfl ⟨⟨a2,c2,a5,c5⟩,B,ks,rfl,by omega,?_,?_,HC.out.ne,?_,?_⟩
   ·exact(HC.out.done.setCell (p:=⟨w.heap.size+1,0,none⟩) (by simp;omega) _).setCell (by simp;omega) _
   ·exact zU (ownsRow_setCell_below (ownsRow_setCell_below HC.out.items (by simp;omega) _) (by simp;omega) _)
   ·intro x e
    have:=(HC.out.items.lt x.block (by rw[show a5=some x from e];rfl)).1;omega
   ·exact(HC.out.below.setCell (by simp) _).setCell (by simp) _
end
end Go.Proofs.YtokdgiphdnjeoaaGreatDoor
