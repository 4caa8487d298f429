/- Part of a proof. -/
import Derived.Test.YtokdgiphdnjeoaaGreatDoorQ08
import Derived.Test.YtokdgiphdnjeoaaGreatDoorQ36
set_option maxRecDepth 100000
set_option maxHeartbeats 8000000
set_option linter.unusedVariables false
set_option linter.unusedSimpArgs false
open Go.Proofs.Tryz
namespace Go.Proofs.YtokdgiphdnjeoaaGreatDoor
section
open Go Go.RowKit
theorem AD{W:World}{a1 a2:Option Addr}{c1 c2:Nat}{xs ys:List Int}(h1:Ints W a1 c1 xs)(h2:Ints W a2 c2 ys)(hx:xs.length≤1000000000)(hy:ys.length≤1000000000) :
 Calls prog 89 #[.slice a1 xs.length c1,.slice a2 ys.length c2] W (zq W (xs==ys)):=by
 by_cases h0:xs.length=0
 ·rw[h0]
  refine(Tryz.slices_Equal_int_empty a1 a2 c1 ys.length c2 W (by omega)).mono ?_;rintro e w'⟨rfl,rfl⟩;refine⟨zb ?_,brf⟩;have hx0:xs=[]:=List.eq_nil_of_length_eq_zero h0;subst hx0
  cases ys with
  |nil=>rfl
  |cons y ys=>simp
 ·by_cases hnm:xs.length=ys.length
  ·obtain⟨b1,o1,rfl,-,-⟩:=h1.at (i:=0) (by omega)
   obtain⟨b2,o2,rfl,-,-⟩:=h2.at (i:=0) (by omega);refine(Tryz.slices_Equal_int b1 o1 xs.length c1 b2 o2 ys.length c2 xs ys W nlr nlr (by omega) (by omega) (fun j hj=>?_) (fun j hj=>?_)).mono ?_
   ·obtain⟨b,o,e,-,hc⟩:=h1.at hj
    simp only[Option.some.injEq,Addr.mk.injEq,and_true]at e;obtain⟨rfl,rfl⟩:=e;rw[hc];simp[hj,intV]
   ·obtain⟨b,o,e,-,hc⟩:=h2.at hj
    simp only[Option.some.injEq,Addr.mk.injEq,and_true]at e;obtain⟨rfl,rfl⟩:=e;rw[hc];simp[hj,intV]
   ·rintro e w'⟨rfl,q,rfl⟩
    exact⟨zb (by rw[List.take_length,List.take_length]),below_drewN brf _⟩
  ·refine(Tryz.slices_Equal_int_lens a1 a2 xs.length c1 ys.length c2 W hnm).mono ?_
   rintro e w'⟨rfl,rfl⟩;refine⟨zb ?_,brf⟩;rw[eq_comm,Bool.eq_false_iff];intro h;have:=eq_of_beq h;exact hnm (by rw[this])
def renM(ns:List Nd)(S:Int→Bool)(name:List UInt8):List Nd:=ns.mapIdx fun i d=>if S (i:Int)then { d with text:=name } else d
theorem fP(ns:List Nd)(S:Int→Bool)(name:List UInt8):(renM ns S name).length=ns.length:=by simp[renM]
theorem KP(ns:List Nd)(S:Int→Bool)(name:List UInt8){i:Nat}(h:i<ns.length):(renM ns S name)[i]'(by rw[fP];exact h)=if S (i:Int)then { ns[i]with text:=name } else ns[i]:=by
 simp[renM]
theorem FI(ns:List Nd)(L:List Int)(name:List UInt8):renM ns (fun i=>(L.take 0).contains i) name=ns:=by
 apply List.ext_getElem (by simp[renM]);intro i h1 h2;simp[renM]
theorem FH(ns:List Nd)(L:List Int)(name:List UInt8){k m:Nat}(hk:k<L.length)(hm:L[k]=(m:Int))(hmn:m<ns.length):renM ns (fun i=>(L.take (k+1)).contains i) name =
 (renM ns (fun i=>(L.take k).contains i) name).set m { (renM ns (fun i=>(L.take k).contains i) name)[m]'(by rw[fP];exact hmn)with text:=name }:=by
 apply List.ext_getElem (by simp[renM]);intro i h1 h2;have hi:i<ns.length:=by simpa[renM]using h1
 rw[List.getElem_set];simp only[renM,List.getElem_mapIdx]
 have hc:(L.take (k+1)).contains (i:Int)=((L.take k).contains (i:Int)||decide (i=m)):=by
  rw[List.take_succ_eq_append_getElem hk,hm,Bool.eq_iff_iff,Bool.or_eq_true,List.contains_iff_mem,List.contains_iff_mem,List.mem_append,List.mem_singleton,decide_eq_true_eq];constructor
  ·rintro(h|h)
   ·exact .inl h
   ·exact .inr (by omega)
  ·rintro(h|h)
   ·exact .inl h
   ·exact .inr (by omega)
 simp only[hc];by_cases e:m=i
 ·subst e
  simp;split<;>simp
 ·simp only[if_neg e,show decide (i=m)=false from decide_eq_false fun h=>e h.symm,Bool.or_false]
theorem KO{ns:List Nd}{decl:List Int}{node:Int}{name:List UInt8}(hl:decl.length=ns.length):renM ns (fun i=>((uses decl node++[node]).take (uses decl node++[node]).length).contains i) name=renK ns decl node name ns.length:=by
 rw[List.take_length];apply List.ext_getElem (by simp[renM,renK]);intro i h1 h2;have hi:i<ns.length:=by simpa[renM]using h1
 rw[KP _ _ _ hi,jW _ _ _ _ _ hi]
 have hc:(uses decl node++[node]).contains (i:Int)=(decide (i<ns.length)&&renB decl node i):=by
  rw[show decide (i<ns.length)=true from decide_eq_true hi,Bool.true_and];unfold renB;rw[Bool.eq_iff_iff,List.contains_iff_mem,List.mem_append,List.mem_singleton,Bool.or_eq_true,beq_iff_eq,beq_iff_eq]
  have hg:decl.getD i 0=node↔(i:Int)∈uses decl node:=by
   unfold uses idxs;rw[List.mem_map];constructor
   ·intro h
    refine⟨i,List.mem_filter.2 ⟨List.mem_range.2 (by omega),?_⟩,rfl⟩;rw[List.getElem?_eq_getElem (by omega)];rw[List.getD_eq_getElem?_getD,List.getElem?_eq_getElem (by omega)]at h;simpa using h
   ·rintro⟨j,hj,e⟩
    obtain⟨hj1,hj2⟩:=List.mem_filter.1 hj;obtain rfl:j=i:=by have e:(j:Int)=i:=e;omega
    rw[List.getElem?_eq_getElem (by omega)]at hj2;rw[List.getD_eq_getElem?_getD,List.getElem?_eq_getElem (by omega)];simpa using hj2
  rw[←hg];constructor
  ·rintro(h|h)
   ·exact .inr h
   ·exact .inl h
  ·rintro(h|h)
   ·exact .inr h
   ·exact .inl h
 rw[hc]
theorem MR{t:Tr}{l:List Int}{node:Int}{name:List UInt8}(rg:Rg t):Rg (renT t l node name):=fun i hi=>by
 have hi':i<t.nodes.length:=by rw[dA]at hi;exact hi
 have h:=rg i hi'
 have e:((renT t l node name).nd (i:Int)).n=(t.nd (i:Int)).n:=by
  rw[Tr.nd_at _ hi,t.nd_at hi'];refine(congrArg Nd.n (jW t.nodes l node name t.nodes.length hi')).trans ?_;split<;>rfl
 rw[e];exact h
def renO:Option Tr→Except Int Tr
 |none=>.error 9
 |some t'=>.ok t'
def renU(t:Tr)(node:Int)(name:List UInt8):Except Int Tr:=
 if aR t node (zh t)=0 then
  (if zX name then renO (iH t (zg t t.nodes.length) node name)else .error 4)
 else .error (aR t node (zh t))
def oG(w:World)(r:Except Int Tr)(e:Ending)(w':World):Prop:=
 match r with
 |.error x=>e=.returned (.tuple #[.agg #[.slice none 0 0,.slice none 0 0],intV x])∧Below w.heap.size w w'
 |.ok t'=>∃v:TreeV,e=.returned (.tuple #[v.val t',intV 0])∧IsTree w' v t'∧Below w.heap.size w w'
theorem sP{w w':World}{r:Except Int Tr}{A:Act}{y0 y1:Value}{err:Int}(k0:w'.cell? ⟨w.heap.size+1,0,none⟩=some y0)(k1:w'.cell? ⟨w.heap.size+1,1,none⟩=some y1)
 (h6:A.tmps.getD 6 undef=.pointer (some ⟨w.heap.size+1,0,none⟩))(h7:A.tmps.getD 7 undef=intV err)(hd:A.defers=[])(hR:oG w r (.returned (.tuple #[.agg #[y0,y1],intV err])) w') :
 bodyPost prog Tryz.f45 (oG w r) Exit.ret A w':=by
 refine bodyPost_ret (v:=.tuple #[.agg #[y0,y1],intV err]) ?_ hd hR;simp only[Array.getD_eq_getD_getElem?]at h6 h7;simp[results,results45,go_sem,loadVar,h6,h7,k0,k1,Result.andThen]
theorem gY{W:World}{g:Nat}{x0 x1:Value}(h0:W.cell? ⟨g,0,none⟩=some x0)(h1:W.cell? ⟨g,1,none⟩=some x1)(y0 y1:Value):((W.setCell ⟨g,0,none⟩ y0).setCell ⟨g,1,none⟩ y1).cell? ⟨g,0,none⟩=some y0∧((W.setCell ⟨g,0,none⟩ y0).setCell ⟨g,1,none⟩ y1).cell? ⟨g,1,none⟩=some y1:=by
 refine⟨?_,?_⟩
 ·rw[World.cell?_setCell_other _ _ _ _ (by simp)];exact World.cell?_setCell_same _ _ _ h0
 ·exact World.cell?_setCell_same _ _ _ ((World.cell?_setCell_other _ _ _ _ (by simp)).trans h1)
theorem FK{w:World}{r:Except Int Tr}{A:Act}{W:World}{x0 x1 y0 y1:Value}{err:Int}(h0:W.cell? ⟨w.heap.size+1,0,none⟩=some x0)(h1:W.cell? ⟨w.heap.size+1,1,none⟩=some x1)
 (h6:A.tmps.getD 6 undef=.pointer (some ⟨w.heap.size+1,0,none⟩))(h7:A.tmps.getD 7 undef=intV err)(hd:A.defers=[])(hR:oG w r (.returned (.tuple #[.agg #[y0,y1],intV err])) ((W.setCell ⟨w.heap.size+1,0,none⟩ y0).setCell ⟨w.heap.size+1,1,none⟩ y1)) :
 bodyPost prog Tryz.f45 (oG w r) Exit.ret A ((W.setCell ⟨w.heap.size+1,0,none⟩ y0).setCell ⟨w.heap.size+1,1,none⟩ y1):=by
 refine bodyPost_ret (v:=.tuple #[.agg #[y0,y1],intV err]) ?_ hd hR
 have k0:((W.setCell ⟨w.heap.size+1,0,none⟩ y0).setCell ⟨w.heap.size+1,1,none⟩ y1).cell? ⟨w.heap.size+1,0,none⟩=some y0:=by
  rw[World.cell?_setCell_other _ _ _ _ (by simp)];exact World.cell?_setCell_same _ _ _ h0
 have k1:((W.setCell ⟨w.heap.size+1,0,none⟩ y0).setCell ⟨w.heap.size+1,1,none⟩ y1).cell? ⟨w.heap.size+1,1,none⟩=some y1:=World.cell?_setCell_same _ _ _ ((World.cell?_setCell_other _ _ _ _ (by simp)).trans h1);simp only[Array.getD_eq_getD_getElem?]at h6 h7;simp[results,results45,go_sem,loadVar,h6,h7,k0,k1,Result.andThen]
structure RenI (w2 w3 W:World) (B3:Nat) (t:Tr) (na ia:Option Addr) (nc ic:Nat) (ks:List (Option Addr×Nat)) (L:List Int) (a9:Option Addr) (c9:Nat) (name:List UInt8) (k:Nat):Prop where
 own:OwnN W B3 na nc (renM t.nodes (fun i=>(L.take k).contains i) name) ks
 list:OwnI W (w3.heap.size+1) a9 c9 L
 g0:W.cell? ⟨w3.heap.size,0,none⟩=some (.slice na t.nodes.length nc)
 g1:W.cell? ⟨w3.heap.size,1,none⟩=some (.slice ia t.items.length ic)
 items:Ints W ia ic t.items
 below:Below w2.heap.size w2 W
theorem RenI.step{w2 w3 W:World}{B3:Nat}{t:Tr}{ia:Option Addr}{nc ic nb:Nat}{ks:List (Option Addr×Nat)}{L:List Int}{a9:Option Addr}{c9:Nat}{name:List UInt8}{k m:Nat}(h:RenI w2 w3 W B3 t (some ⟨nb,0,none⟩) ia nc ic ks L a9 c9 name k)
 (hk:k<L.length)(hm:L[k]=(m:Int))(hmn:m<t.nodes.length)(hne:∀x,ia=some x→x.block≠nb)(hn3:nb<w3.heap.size)(h2:w2.heap.size≤nb) :
 RenI w2 w3 (W.setCell ⟨nb,m*5+1,none⟩ (strV name)) B3 t (some ⟨nb,0,none⟩) ia nc ic ks L a9 c9 name (k+1):=by
 refine⟨?_,ownsRow_setCell_below h.list (by simp only;omega) _,(World.cell?_setCell_other _ _ _ _ (by intro e;have:=congrArg Addr.block e;simp only at this;omega)).trans h.g0,(World.cell?_setCell_other _ _ _ _ (by intro e;have:=congrArg Addr.block e;simp only at this;omega)).trans h.g1,
  aA h.items _ fun _ x e=>hne x e,h.below.setCell h2 _⟩
 rw[FH t.nodes L name hk hm hmn];exact h.own.setText (by rw[fP];exact hmn) name
theorem RenI.tree{w2 w3 W:World}{B3:Nat}{t:Tr}{na ia:Option Addr}{nc ic:Nat}{ks:List (Option Addr×Nat)}{decl:List Int}{node:Int}{a9:Option Addr}{c9:Nat}{name:List UInt8}(h:RenI w2 w3 W B3 t na ia nc ic ks (uses decl node++[node]) a9 c9 name (uses decl node++[node]).length)(hl:decl.length=t.nodes.length) :
 OwnN W B3 na nc (renT t decl node name).nodes ks:=by
 have:=h.own;rw[KO hl]at this;exact this
theorem mT(v:TreeV)(t:Tr)(node:Int)(name:List UInt8)(w:World)(bd:Bd t)(rg:Rg t)(hg:GV w)(hnm:name.length≤1000000000)(h:IsTree w v t) :
 Calls prog 45 #[v.val t,intV node,strV name] w (oG w (renU t node name)):=by
 have hmo:prog.follows .mixedOrders=true:=by kernel_rfl
 have hb1:Below w.heap.size w ((boxT w v t).alloc (.cells #[.slice none 0 0,.slice none 0 0] 25)):=boxT_below.alloc (by simp) _;have HC:=Hd (qK v t node _ bd rg (hg.mono hb1 nlr) (h.mono hb1 nlr))
 have hw1:((boxT w v t).alloc (.cells #[.slice none 0 0,.slice none 0 0] 25)).heap[w.heap.size+1]?=some (.cells #[.slice none 0 0,.slice none 0 0] 25):=by
  have:=World.alloc_heap_new (boxT w v t) (.cells #[.slice none 0 0,.slice none 0 0] 25);rwa[show(boxT w v t).heap.size=w.heap.size+1 by simp]at this
 have hw0:∀X:World,Below (w.heap.size+1+1) ((boxT w v t).alloc (.cells #[.slice none 0 0,.slice none 0 0] 25)) X→X.cell? ⟨w.heap.size,0,none⟩=some (.slice v.na t.nodes.length v.nc)∧X.cell? ⟨w.heap.size,1,none⟩=some (.slice v.ia t.items.length v.ic):=fun X hb=>
  ⟨(hb.cell (p:=⟨w.heap.size,0,none⟩) (by show w.heap.size<_;omega)).trans (by simp),(hb.cell (p:=⟨w.heap.size,1,none⟩) (by show w.heap.size<_;omega)).trans (by simp)⟩
 have hsz:((boxT w v t).alloc (.cells #[.slice none 0 0,.slice none 0 0] 25)).heap.size=w.heap.size+1+1:=by simp
 have HRES:Hid (∀X,Below (w.heap.size+1+1) ((boxT w v t).alloc (.cells #[.slice none 0 0,.slice none 0 0] 25)) X→X.heap[w.heap.size+1]?=some (.cells #[.slice none 0 0,.slice none 0 0] 25)):=Hd fun X hb=>(hb.block (w.heap.size+1) (by omega)).trans hw1;have BD:=Hd bd;have RG:=Hd rg;have HG:=Hd hg;have HT:=Hd h;have HB1:=Hd hb1;have HSZ:=Hd hsz;have HW0:=Hd hw0;have hn3:=bd.n;have hi3:=bd.i;clear h hg bd rg hb1 hw1 hsz hw0;obtain⟨na,nc,ia,ic⟩:=v;by_cases hz:aR t node (zh t)=0
 ·have HZ:=Hd hz
  cases hb:zX name with
  | false=>
    have HNB:=Hd hb;have HU:Hid (renU t node name=.error 4):=Hd (by unfold renU;rw[if_pos hz,if_neg (by rw[hb];exact Bool.false_ne_true)]);rw[HU.out];clear hz hb;unfold TreeV.val;go_enter func45,ntmps45
    go_wp2_with (first
     | (go_at_call 83;refine HC.out.mono ?_;rintro e w2 (⟨-,-,-,-,-,p,rfl,-,hop⟩|⟨hne,-⟩);rotate_left;(exact absurd HZ.out hne);have hbx:Below (w.heap.size+1+1) _ w2:=(by have:=hop.below;rwa[HSZ.out]at this);have HBX:=Hd hbx;have HBW:=Hd (HB1.out.trans (hbx.mono (by omega)):Below w.heap.size w w2);clear hop hbx)
     | (go_at_call 86;refine(cO name _ hnm (HG.out.mono HBW.out nlr)).mono ?_;rw[HNB.out];rintro e w3 ⟨rfl,hb3⟩;have hbx3:=HBX.out.trans (hb3.mono (by have:=HBX.out.size;rw[HSZ.out]at this;exact this));have hh3:=HRES.out _ hbx3;have r0:=za (i:=0) (v:=.slice none 0 0) hh3 rfl;have r1:=za (i:=1) (v:=.slice none 0 0) hh3 rfl;have rf0:=zl (i:=0) hh3;have rf1:=zl (i:=1) hh3;have HBW3:=Hd (HBW.out.trans (hb3.mono HBW.out.size));clear hb3 hbx3 hh3))
    exact FK r0 r1 rfl rfl rfl ⟨rfl,(HBW3.out.setCell (by simp) _).setCell (by simp) _⟩
  | true=>
    have HNB:=Hd hb;have HU:Hid (renU t node name=renO (iH t (zg t t.nodes.length) node name)):=Hd (by unfold renU;rw[if_pos hz,if_pos hb]);clear hz hb;unfold TreeV.val;go_enter func45,ntmps45
    go_wp2_with (first
     | (go_at_call 83;refine HC.out.mono ?_;rintro e w2 (⟨-,-,hn0,hn1,-,p,rfl,hpv,hop⟩|⟨hne,-⟩);rotate_left;(exact absurd HZ.out hne);obtain⟨s,v',aa,ac,da,dc⟩:=p;simp only at hpv;subst hpv;have HN01:=Hd (And.intro hn0 hn1);have hbx:Below (w.heap.size+1+1) _ w2:=(by have:=hop.below;rwa[HSZ.out]at this);have HBX:=Hd hbx;have HBW:=Hd (HB1.out.trans (hbx.mono (by omega)):Below w.heap.size w w2);have HOP:=Hd hop;clear hop hbx hn0 hn1)
     | (go_at_call 86;refine(cO name _ hnm (HG.out.mono HBW.out nlr)).mono ?_;rw[HNB.out];rintro e w3 ⟨rfl,hb3⟩;have hbx3:=HBX.out.trans (hb3.mono (by have:=HBX.out.size;rw[HSZ.out]at this;exact this));obtain⟨b0,b1⟩:=HW0.out _ hbx3;have HBX3:=Hd hbx3;have HBW3:=Hd (HBW.out.trans (hb3.mono HBW.out.size));have HOP3:=Hd (HOP.out.grow hb3);clear hb3 hbx3)
     | (go_at_call 87;refine(wA ⟨na,nc,ia,ic⟩ t _ BD.out (HT.out.mono HBW3.out nlr)).mono ?_;rintro e w4 ⟨⟨na3,nc3,ia3,ic3⟩,B3,ks,rfl,hB3,hO3,hI3,hne3,hia3,hb4⟩;unfold TreeV.val;have HB4:=Hd hb4;have HO3:=Hd hO3;have HI3:=Hd hI3;have HNE3:=Hd hne3;clear hb4 hO3 hI3 hne3)
     | (go_at_call 85;have hb5:=HB4.out.alloc HB4.out.size (.cells #[.slice na3 t.nodes.length nc3,.slice ia3 t.items.length ic3] 25);have hop5:=HOP3.out.grow hb5;refine(tH _ t _ _ node _ BD.out hop5.prog).mono ?_;rintro e w5 ⟨a5,c5,rfl,hown5,hbb5⟩;have HO5:=Hd hown5;have HB5:=Hd hbb5;clear hb5 hop5 hown5 hbb5)
     | (at_builtin;have hul:(uses (zg t t.nodes.length) node).length≤t.nodes.length:=(by have:=NA (zg t t.nodes.length) node;rwa[zP]at this);refine zV (news:=[node]) rfl (.tmp 36) (.tmp 38) rfl rfl (HO5.out.alloc _) rfl (aK _ _ _) (by omega) (by have:=HB5.out.size;simp at this⊢;omega) ?_;intro a9 c9 w9 l9 HL9 hle9 hown9 hkeep9))
    have hb49:Below w4.heap.size w4 w9:=hkeep9 _ _ (by simp) ((((Below.refl _ w4).alloc nlr _).trans (HB5.out.mono (by simp))).alloc (by have:=HB5.out.size;simp at this;omega) _);have hb9:Below (w4.heap.size+1) (boxW w4 na3 t.nodes.length nc3 ia3 t.items.length ic3) w9:=hkeep9 _ _ (by simp) ((HB5.out.mono (by simp)).alloc (by have:=HB5.out.size;simpa using this) _);obtain⟨n0,n1,-⟩:=yC w4 na3 t.nodes.length nc3 ia3 t.items.length ic3 (k:=w4.heap.size) rfl;have HI0:Hid (RenI w3 w4 w9 B3 t na3 ia3 nc3 ic3 ks l9 a9 c9 name 0):=Hd ⟨by rw[FI];exact HO3.out.below hb49,aY hown9 (by simp),(hb9.cell (p:=⟨w4.heap.size,0,none⟩) (by simp)).trans n0,(hb9.cell (p:=⟨w4.heap.size,1,none⟩) (by simp)).trans n1,Row.mono HI3.out hb49 nlr,HB4.out.trans (hb49.mono HB4.out.size)⟩
    have hlr:∀x∈l9,0≤x∧x<(t.nodes.length:Int):=by
     rw[HL9.out];intro x hx;rcases List.mem_append.1 hx with hx|hx
     ·have:=yK hx
      rw[zP]at this;exact this
     ·rw[List.mem_singleton.1 hx];exact HN01.out
    have HLR:=Hd hlr;have hz3:=HB4.out.size;have HNBH:=Hd (show 0<t.nodes.length→∃nb,na3=some ⟨nb,0,none⟩∧B3≤nb∧nb<w4.heap.size from fun h0=>by obtain⟨nb,e,h1,h2,-⟩:=HO3.out.at h0;exact⟨nb,e,h1,h2⟩);have hB3:w3.heap.size≤B3:=hB3;have HIA3:Hid (∀x,ia3=some x→w3.heap.size≤x.block):=Hd hia3;clear hb49 hb9 n0 n1 hlr hown9 hkeep9 b0 b1 HO3 HI3 HO5 HB5 HC hia3
    go_loopw [41] (fun t41 wr=>∃k:Nat,t41=.int .i64 k∧k≤l9.length∧Hid (RenI w3 w4 wr B3 t na3 ia3 nc3 ic3 ks l9 a9 c9 name k)) (fun t41 _=>l9.length-(intOf t41).toNat)
    case atStart=>exact⟨0,rfl,Nat.zero_le _,HI0⟩
    case round=>
     obtain⟨k,rfl,hk,HI⟩:=hrel;have y0:=HI.out.g0;have y1:=HI.out.g1;by_cases hlt:k<l9.length
     ·obtain⟨bl,ol,ela,hbl,hcl⟩:=(zU HI.out.list).at hlt
      obtain⟨hm0,hm1⟩:=HLR.out _ (List.getElem_mem hlt);obtain⟨m,hm⟩:=Int.eq_ofNat_of_zero_le hm0;rw[hm]at hm1 hcl;have hmn:m<t.nodes.length:=by omega
      obtain⟨nb,ena,hnb1,hnb2⟩:=HNBH.out (by omega);subst ela;subst ena;obtain⟨nb',en,-,-,hfz⟩:=HI.out.own.at (by rw[fP];omega);obtain rfl:nb=nb':=by simpa using en
      have hfz:=hfz (m*5+1)
      obtain⟨x1,hx1⟩:∃x1,wr.cell? ⟨nb,m*5+1,none⟩=some x1:=by
       obtain⟨b',o',ka',kc',e',_,_,c1',_⟩:=HI.out.own.nodes.at (i:=m) (by rw[fP];exact hmn);simp only[Option.some.injEq,Addr.mk.injEq,and_true]at e';obtain⟨rfl,rfl⟩:=e';exact⟨_,by simpa using c1'⟩
      have HST:=Hd (HI.out.step hlt hm hmn (fun x e=>HNE3.out x _ e rfl) hnb2 (by omega));clear hm hm0;go_wp2
      go_roundw
      case rel=>exact⟨k+1,by go_num,by omega,HST⟩
      case measure=>simp[intOf];omega
     ·obtain rfl:k=l9.length:=by omega
      have hI:=HI.out;rw[HL9.out]at hI;have HON:=Hd (hI.tree (zP t t.nodes.length));have bdT:=MQ (l:=zg t t.nodes.length) (node:=node) BD.out hnm;have hIT:IsTree wr ⟨na3,nc3,ia3,ic3⟩ (renT t (zg t t.nodes.length) node name):=⟨HON.out.nodes,hI.items⟩
      have hR:=cX ⟨na3,nc3,ia3,ic3⟩ (renT t (zg t t.nodes.length) node name) wr bdT (MR RG.out) (HG.out.mono (HBW3.out.trans (hI.below.mono HBW3.out.size)) nlr) hIT;unfold TreeV.val at hR;rw[dA]at hR;have hR:Calls prog 88 #[.agg #[.slice na3 t.nodes.length nc3,.slice ia3 t.items.length ic3]] wr (LG wr ⟨na3,nc3,ia3,ic3⟩ (renT t (zg t t.nodes.length) node name)):=hR;have HR:=Hd hR;have HIT:=Hd hIT;have HII:=Hd hI;have hbx9:Below (w.heap.size+1+1) ((boxT w ⟨na,nc,ia,ic⟩ t).alloc (.cells #[.slice none 0 0,.slice none 0 0] 25)) wr:=HBX3.out.trans (hI.below.mono (by have:=HBX3.out.size;rw[HSZ.out]at this;exact this));have HBX9:=Hd hbx9;clear hR hIT bdT hI hbx9;by_cases he0:(zc (renT t (zg t t.nodes.length) node name)).2.2=0
      ·have HE0:=Hd he0
       have HRN:Hid (iH t (zg t t.nodes.length) node name=if (zc (renT t (zg t t.nodes.length) node name)).1==zg t t.nodes.length then some (renT t (zg t t.nodes.length) node name)else none):=Hd (by
        unfold iH;rw[he0]
        cases (zc (renT t (zg t t.nodes.length) node name)).1==zg t t.nodes.length<;>rfl)
       clear he0;obtain⟨D1,hD1⟩:∃D1,(zc (renT t (zg t t.nodes.length) node name)).1=D1:=⟨_,rfl⟩
       rw[hD1]at HRN;have HD1:=Hd hD1;clear hD1;obtain⟨bq,hbq⟩:∃bq,(D1==zg t t.nodes.length)=bq:=⟨_,rfl⟩
       rw[hbq]at HRN;have HBQ:=Hd hbq;clear hbq
       go_wp2_with (go_at_call 88;refine HR.out.mono ?_;rintro e w6 (⟨-,-,p6,rfl,hpv,hop⟩|⟨h0,-⟩);rotate_left;(exact absurd HE0.out h0);obtain⟨s6,v6,aa6,ac6,da6,dc6⟩:=p6;simp only at hpv;subst hpv;rw[HD1.out]at hop;have hb6:=hop.below;have hop6:=HOP3.out.grow (HII.out.below.trans (hb6.mono HII.out.below.size));have hc3:=hop6.prog.c3;have hc36:=hop.prog.c3;rw[dA]at hc36;have hd6:=hop.prog.decl;rw[dA]at hd6;have hdl:=hop.prog.declLen;rw[dA]at hdl;have HDL:=Hd hdl;have HEQ:Hid (∀W,Below w6.heap.size w6 W→Calls prog 89 #[.slice da t.nodes.length dc,.slice da6 t.nodes.length dc6] W (zq W bq)):=Hd (fun W hW=>by
        have h1:Ints W da dc (zg t t.nodes.length):=by rw[Ints,zP];exact hop6.prog.decl.mono hW nlr
        have h2:Ints W da6 dc6 D1:=by rw[Ints,HDL.out];exact hd6.mono hW nlr
        have:=AD h1 h2 (by rw[zP];omega) (by rw[HDL.out];omega);rw[zP,HDL.out,show(zg t t.nodes.length==D1)=bq from BEq.comm.trans HBQ.out]at this
        exact this);have hs6:=hop6.prog.lt;have hs66:=hop.prog.lt;simp only at hs6 hs66 hc3 hc36;have hbx6:=HBX9.out.trans (hb6.mono (by have:=HBX9.out.size;rw[HSZ.out]at this;exact this));have HBX6:=Hd hbx6;have HB6:=Hd hb6;clear hop hop6 hb6 hd6 hdl hbx6)
       refine N.region_JTm 13 hmo (by kernel_rfl) (by kernel_rfl) rfl (by kernel_rfl) (by kernel_rfl) (fun Wz=>Below (w6).heap.size (w6) Wz) (brf.drew) ?_
       iterate 11 (refine N.WalkT.cons ?_ (N.StepP.pure rfl ?_) ?_;rotate_left;(intro W hJ;obtain⟨hcJ,hfJ⟩:=bcell hJ;go_simp;rfl);simp only[N.pz])
       refine N.WalkT.cons (.bool bq) (N.StepP.call (f:=89) (args:=#[.slice da t.nodes.length dc,.slice da6 t.nodes.length dc6]) rfl ?hG1_11 ?cG1_11) ?rG1_11;case hG1_11=>intro W hJ;obtain⟨hcJ,hfJ⟩:=bcell hJ;go_simp;try rfl
       case cG1_11=>intro W hJ;(refine(HEQ.out W hJ).mono ?_;rintro e w' ⟨rfl,hb⟩;exact⟨rfl,hJ.trans (hb.mono hJ.size)⟩)
       simp only[N.pz];refine N.WalkT.cons ?_ (N.StepP.pure rfl ?_) ?_;rotate_left;(intro W hJ;obtain⟨hcJ,hfJ⟩:=bcell hJ;go_simp;rfl);simp only[N.pz];refine N.WalkT.nil fun W hJ=>?_;have hbxW:=HBX6.out.trans (hJ.mono (by have:=HBX6.out.size;rw[HSZ.out]at this;exact this));have hhW:=HRES.out _ hbxW;have r0:=za (i:=0) (v:=.slice none 0 0) hhW rfl;have r1:=za (i:=1) (v:=.slice none 0 0) hhW rfl;have rf0:=zl (i:=0) hhW;have rf1:=zl (i:=1) hhW;have HBW6:Hid (Below w.heap.size w W):=Hd (HB1.out.trans (hbxW.mono (by omega)));have hbr:Below wr.heap.size wr W:=HB6.out.trans (hJ.mono HB6.out.size);have yW0:=(hbr.cell (p:=⟨w4.heap.size,0,none⟩) (World.block_lt_of_cell? wr _ HII.out.g0)).trans HII.out.g0;have yW1:=(hbr.cell (p:=⟨w4.heap.size,1,none⟩) (World.block_lt_of_cell? wr _ HII.out.g1)).trans HII.out.g1;have HBR:=Hd hbr;clear hbxW hhW hbr hJ HEQ hc3 hc36
       cases bq with
       | false=>
         rw[if_neg Bool.false_ne_true]at HRN;go_wp2;rw[HU.out,HRN.out];exact sP (gY r0 r1 _ _).1 (gY r0 r1 _ _).2 rfl rfl rfl ⟨rfl,(HBW6.out.setCell (by simp) _).setCell (by simp) _⟩
       | true=>
         rw[if_pos rfl]at HRN;go_wp2;rw[HU.out,HRN.out];refine sP (gY r0 r1 _ _).1 (gY r0 r1 _ _).2 rfl rfl rfl ⟨⟨na3,nc3,ia3,ic3⟩,?_,?_,(HBW6.out.setCell (by simp) _).setCell (by simp) _⟩
         ·unfold TreeV.val
          rw[dA];rfl
         ·have hwB:w.heap.size+1<B3:=by have:=HBX3.out.size;rw[HSZ.out]at this;omega
          refine⟨(((HON.out.below HBR.out).setCell (p:=⟨w.heap.size+1,0,none⟩) hwB _).setCell (p:=⟨w.heap.size+1,1,none⟩) hwB _).nodes,?_⟩;have hi:Ints W ia3 ic3 t.items:=Row.mono HII.out.items HBR.out nlr;have hw3:w.heap.size+1<w3.heap.size:=by have:=HBX3.out.size;rw[HSZ.out]at this;omega
          exact aA (aA hi _ fun _ x e=>by have:=HIA3.out x e;simp only;omega) _ fun _ x e=>by have:=HIA3.out x e;simp only;omega
      ·have HE0:=Hd he0
       have hne:((zc (renT t (zg t t.nodes.length) node name)).2.2 != 0)=true:=by simpa using he0
       have HRN:Hid (iH t (zg t t.nodes.length) node name=none):=Hd (by unfold iH;rw[hne];rfl);obtain⟨A1,hA1⟩:∃A1,(zc (renT t (zg t t.nodes.length) node name)).2.1=A1:=⟨_,rfl⟩
       obtain⟨E1,hE1⟩:∃E1,(zc (renT t (zg t t.nodes.length) node name)).2.2=E1:=⟨_,rfl⟩
       have HA1:=Hd hA1;have HE1:=Hd hE1;rw[hE1]at hne;clear he0 hA1 hE1
       go_wp2_with (go_at_call 88;refine HR.out.mono ?_;rintro e w6 (⟨h0,-⟩|⟨-,rfl,hb6⟩);(exact absurd h0 HE0.out);rw[HA1.out,HE1.out];have hbx6:=HBX9.out.trans (hb6.mono (by have:=HBX9.out.size;rw[HSZ.out]at this;exact this));have hh6:=HRES.out _ hbx6;have r0:=za (i:=0) (v:=.slice none 0 0) hh6 rfl;have r1:=za (i:=1) (v:=.slice none 0 0) hh6 rfl;have rf0:=zl (i:=0) hh6;have rf1:=zl (i:=1) hh6;have HBW6:=Hd (HB1.out.trans (hbx6.mono (by omega)):Below w.heap.size w w6);clear hb6 hbx6 hh6)
       go_region;go_wp2;rw[HU.out,HRN.out];exact sP (gY r0 r1 _ _).1 (gY r0 r1 _ _).2 rfl rfl rfl ⟨rfl,((HBW6.out.setCell (by simp) _).setCell (by simp) _).drew⟩
 ·have hne:(aR t node (zh t) != 0)=true:=by simpa using hz
  have hu:renU t node name=.error (aR t node (zh t)):=by unfold renU;rw[if_neg hz]
  obtain⟨E1,hE1⟩:∃E1,aR t node (zh t)=E1:=⟨_,rfl⟩
  rw[hE1]at hne hu;rw[hu];have HE1:=Hd hE1;have HZ:=Hd hz;clear hE1 hz hu;unfold TreeV.val;go_enter func45,ntmps45
  go_wp2_with (go_at_call 83;refine HC.out.mono ?_;rintro e w2 (⟨h0,-⟩|⟨-,rfl,hb2⟩);(exact absurd h0 HZ.out);rw[HE1.out];rw[HSZ.out]at hb2;have hh3:=HRES.out _ hb2;have r0:=za (i:=0) (v:=.slice none 0 0) hh3 rfl;have r1:=za (i:=1) (v:=.slice none 0 0) hh3 rfl;have rf0:=zl (i:=0) hh3;have rf1:=zl (i:=1) hh3;have HBW:=Hd (HB1.out.trans (hb2.mono (by omega)):Below w.heap.size w w2);clear hb2 hh3)
  exact FK r0 r1 rfl rfl rfl ⟨rfl,(HBW.out.setCell (by simp) _).setCell (by simp) _⟩
end
end Go.Proofs.YtokdgiphdnjeoaaGreatDoor
