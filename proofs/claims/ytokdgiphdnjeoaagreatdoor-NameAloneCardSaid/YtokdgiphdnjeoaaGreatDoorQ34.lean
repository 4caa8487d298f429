/- Part of a proof. -/
import Derived.Test.YtokdgiphdnjeoaaGreatDoorQ14
import Derived.Test.YtokdgiphdnjeoaaGreatDoorQ25
import Derived.Test.YtokdgiphdnjeoaaGreatDoorQ33
set_option maxRecDepth 100000
set_option maxHeartbeats 8000000
set_option linter.unusedVariables false
set_option linter.unusedSimpArgs false
open Go.Proofs.Tryz
namespace Go.Proofs.YtokdgiphdnjeoaaGreatDoor
section
open Go Go.RowKit
structure NewW (w0:World) (p:ProgV) (t:Tr) (ups decl:List Int) (w:World):Prop where
 op:OpenW w0 p t ups decl w
 own:w.ownsRow w0.heap.size 3 1 (.slice p.aa t.nodes.length p.ac) t.nodes.length (zm ups)
 ne:∀x,p.aa=some x→x.block≠p.s
theorem NewW.grow{w0 w w':World}{p:ProgV}{t:Tr}{ups decl:List Int}(h:NewW w0 p t ups decl w)(hb:Below w.heap.size w w'):NewW w0 p t ups decl w':=
 ⟨h.op.grow hb,zy h.own hb,h.ne⟩
theorem NewW.set{w0 w:World}{p:ProgV}{t:Tr}{ups decl:List Int}(h:NewW w0 p t ups decl w){i:Nat}(hi:i<t.nodes.length)(x:Int) :
 ∃g,p.aa=some ⟨g,0,none⟩∧(∃y,w.cell? ⟨g,i,none⟩=some (intV y))∧w.frozen? ⟨g,i,none⟩=false∧NewW w0 p t (ups.set i x) decl (w.setCell ⟨g,i,none⟩ (intV x))∧w0.heap.size≤g∧g<w.heap.size∧g≠p.s:=by
 obtain⟨g,hg,hB,hlt,hl,hc,hf⟩:=dG h.own (by omega);obtain⟨⟨tr,below,prog,own,ps,ne⟩,ownA,neA⟩:=h;obtain⟨s,v,aa,ac,da,dc⟩:=p;simp only at hg;subst hg;have n1:=neA _ rfl;simp only at n1 own ps tr ne;have hb2:=below.setCell (p:=⟨g,i,none⟩) hB (intV x);have hne:∀j,(w.setCell ⟨g,i,none⟩ (intV x)).cell? ⟨s,j,none⟩=w.cell? ⟨s,j,none⟩:=fun j=>World.cell?_setCell_other _ _ _ _ (fun e=>n1 (congrArg Addr.block e));have own2:=gJ ownA i x;obtain⟨c0,c1,c2,c3,ct,cu,cd⟩:=prog;have hd:∀y,da=some y→y.block≠g:=fun y e=>((ne y e).2 ⟨g,0,none⟩ rfl).symm
 have rowA:Row 1 (w.setCell ⟨g,i,none⟩ (intV x)) (some ⟨g,0,none⟩) t.nodes.length ac (zm (ups.set i x)):=by
  obtain⟨a',c',e,hr⟩:=bK own2;simp at e;obtain⟨rfl,rfl⟩:=e;exact hr
 have ownD:(w.setCell ⟨g,i,none⟩ (intV x)).ownsRow w0.heap.size 3 1 (.slice da t.nodes.length dc) t.nodes.length (zm decl):=by
  refine own.kept (row:=some g) ⟨rfl,rfl,rfl,by simp[World.setCell],fun k _ hk=>Below.heap_setCell _ _ _ k (fun e=>hk (by rw[e]))⟩ ?_
  cases da with
  | none=>
    left;rcases own.2 with⟨e,_⟩|⟨g',cap,cur,e,_⟩
    ·rw[e];rfl
    ·cases e
  |some y=>exact .inr (by simp[Value.ownBlock];exact hd y rfl)
 exact⟨g,rfl,⟨_,hc i hi⟩,hf i,⟨⟨tr,hb2,⟨(hne 0).trans c0,(hne 1).trans c1,(hne 2).trans c2,(hne 3).trans c3,tr.mono hb2 nlr,rowA,aA cd _ (fun _ y e=>hd y e)⟩,ownD,ps,ne⟩,own2,neA⟩,hB,hlt,n1⟩
theorem vD{W:World}{g:Nat}{v:Value}{T:TypeId}(h:W.heap[g]?=some (.cells #[v] T (0,0))):Row 1 W (some ⟨g,0,none⟩) 1 1 [v]:=by
 refine⟨rfl,nlr,fun h=>(by cases h),.inr ⟨g,0,rfl,(Array.getElem?_eq_some_iff.1 h).1,fun i hi=>?_⟩⟩;have:i=0:=by simpa using hi
 subst this;simp[World.cell?,h]
def RowB(B n:Nat)(L:List Int)(v:Value)(W:World):Prop:=∃a c,v=.slice a n c∧W.ownsRow B 3 1 (.slice a n c) n (zm L)
theorem RowB.below{B n:Nat}{L:List Int}{v:Value}{W W':World}(h:RowB B n L v W)(hb:Below W.heap.size W W'):RowB B n L v W':=by
 obtain⟨a,c,h1,h2⟩:=h;exact⟨a,c,h1,zy h2 hb⟩
def NL(w:World)(v:TreeV)(t:Tr)(e:Ending)(w':World):Prop:=
 (zJ t=0∧∃p:ProgV,e=.returned (.tuple #[p.ptr,intV 0])∧p.v=v∧OpenW w p t (dS t t.nodes.length) (zg t 0) w')∨(zJ t≠0∧e=.returned (.tuple #[.pointer none,intV (zJ t)])∧Below w.heap.size w w')
theorem BG{o l:List Int}{d:Int}{j:Nat}(h:j<l.length):aH o d (l.drop j)=aH (o.set l[j].toNat d) d (l.drop (j+1)):=by
 rw[List.drop_eq_getElem_cons h];rfl
theorem GU(v:TreeV)(t:Tr)(w:World)(bd:Bd t)(rg:Rg t)(hg:GV w)(h:IsTree w v t) :
 Calls prog 137 #[v.val t] w (NL w v t):=by
 have hmo:prog.follows .mixedOrders=true:=by kernel_rfl
 have hn3:=bd.n;have hgx:GV (boxT w v t):=hg.mono boxT_below nlr;have HCK:=Hd (jO v t (boxT w v t) bd rg hgx (h.mono boxT_below nlr));have HT:=Hd h;have BD:=Hd bd;clear h hg hgx bd rg;by_cases hc:zJ t=0
 ·have HC:=Hd hc
  have WFF:=Hd (aT BD.out hc);rw[hc]at HCK;clear hc;obtain⟨na,nc,ia,ic⟩:=v;unfold TreeV.val;go_enter func137,ntmps137
  go_wp2_with (go_at_call 93;refine HCK.out.mono ?_;rintro e w2 ⟨rfl,hb2⟩;have hb2':Below (w.heap.size+1) (boxT w ⟨na,nc,ia,ic⟩ t) w2:=hb2.mono (by simp);obtain⟨b0,b1,ht2,⟨hs2,hs3,hs4⟩,hbw⟩:=boxed hb2' HT.out;have HB2:=Hd hb2';have HBW:=Hd hbw;have HT2:=Hd ht2;clear hb2 hb2' hbw ht2)
  refine N.region_M 11 hmo (by kernel_rfl) (by kernel_rfl) rfl (by kernel_rfl) (by kernel_rfl) (fun _ _=>False) N.Pans.no (fun Wz=>Below (w2).heap.size (w2) Wz) (fun Wy Wz=>Below Wy.heap.size Wy Wz) (brf.drew) [.fix ?vG1_0,.dep [] (N.NewS (w2).heap.size #[intV (-1)] 3 1),.fix ?vG1_2,.fix ?vG1_3,.fix ?vG1_4,.dep [1] (fun _ v W=>RowB w.heap.size t.nodes.length (List.replicate t.nodes.length (-1)) v W),.dep [] (N.NewS (w2).heap.size #[intV (-1)] 3 1),.fix ?vG1_7,.fix ?vG1_8,.fix ?vG1_9,.dep [5,6] (fun l v W=>RowB w.heap.size t.nodes.length (List.replicate t.nodes.length (-1)) v W∧∀i,(l.getD 0 undef).ownBlock=some i→v.ownBlock≠some i)] [[],[],[],[],[],[1],[],[],[],[],[5,6]] rfl (by kernel_rfl) (N.sts_kd ⟨trivial,N.NewS.st,trivial,trivial,trivial,(fun _ _ _ _ hk h=>h.below hk),N.NewS.st,trivial,trivial,trivial,(fun _ _ _ _ hk h=>⟨h.1.below hk,h.2⟩),trivial⟩) fun x=>?_;rotate_left 7;refine N.WalkM.fix ?_ ?_;refine N.StepS.known rfl (fun _=>brf) ?_;intro W hJ hP;obtain⟨hcJ,hfJ⟩:=bcell hJ;go_simp;rfl;simp only[N.pz];refine N.WalkM.dep ?sG1_1 ?rG1_1;case sG1_1=>exact N.StepS.runs rfl (fun W hJ _=>⟨_,_,(by(go_simp;try rfl)),hJ.alloc hJ.size _,brf.alloc nlr _,⟨W.heap.size,rfl,hJ.size,heap_alloc_new _ _⟩⟩)
  simp only[N.pz]
  iterate 3 (refine N.WalkM.fix ?_ ?_;refine N.StepS.known rfl (fun _=>brf) ?_;intro W hJ hP;obtain⟨hcJ,hfJ⟩:=bcell hJ;go_simp;rfl;simp only[N.pz])
  refine N.WalkM.dep ?sG1_5 ?rG1_5;case sG1_5=>(refine N.StepS.call' (f:=182) (args:=#[x 1,intV t.nodes.length]) rfl ?_ ?_;(intro W hJ hP;obtain⟨hcJ,hfJ⟩:=bcell hJ;(go_simp;try rfl));(intro W hJ hP;obtain⟨g,hg,hgB,hgn⟩:N.NewS w2.heap.size #[intV (-1)] 3 1 [] (x 1) W:=hP 1 (by kernel_rfl);rw[hg];refine(nX t.nodes.length (-1) g 0 1 W hn3 (vD hgn)).mono ?_;rintro e w' ⟨a,c,rfl,hown,hb⟩;refine⟨_,rfl,hJ.trans (hb.mono hJ.size),hb,⟨a,c,by rw[List.length_replicate],by have:=aY hown (Nat.le_trans hs4 hJ.size);rwa[List.length_replicate]at this⟩⟩))
  simp only[N.pz];refine N.WalkM.dep ?sG1_6 ?rG1_6;case sG1_6=>exact N.StepS.runs rfl (fun W hJ _=>⟨_,_,(by(go_simp;try rfl)),hJ.alloc hJ.size _,brf.alloc nlr _,⟨W.heap.size,rfl,hJ.size,heap_alloc_new _ _⟩⟩)
  simp only[N.pz]
  iterate 3 (refine N.WalkM.fix ?_ ?_;refine N.StepS.known rfl (fun _=>brf) ?_;intro W hJ hP;obtain⟨hcJ,hfJ⟩:=bcell hJ;go_simp;rfl;simp only[N.pz])
  refine N.WalkM.dep ?sG1_10 ?rG1_10;case sG1_10=>(refine N.StepS.call' (f:=182) (args:=#[x 6,intV t.nodes.length]) rfl ?_ ?_;(intro W hJ hP;obtain⟨hcJ,hfJ⟩:=bcell hJ;(go_simp;try rfl));(intro W hJ hP;obtain⟨g,hg,hgB,hgn⟩:N.NewS w2.heap.size #[intV (-1)] 3 1 [] (x 6) W:=hP 6 (by kernel_rfl);rw[hg];refine(nX t.nodes.length (-1) g 0 1 W hn3 (vD hgn)).mono ?_;rintro e w' ⟨a,c,rfl,hown,hb⟩;refine⟨_,rfl,hJ.trans (hb.mono hJ.size),hb,⟨⟨a,c,by rw[List.length_replicate],by have:=aY hown (Nat.le_trans hs4 hJ.size);rwa[List.length_replicate]at this⟩,fun i hi hh=>by obtain⟨a5,c5,h5,own5⟩:RowB w.heap.size t.nodes.length (List.replicate t.nodes.length (-1)) (x 5) W:=hP 5 (by kernel_rfl);simp only[List.map_cons,List.getD_cons_zero]at hi;rw[h5]at hi;have l5:=(own5.lt i hi).2;have l10:=(hown.lt i hh).1;omega⟩⟩))
  simp only[N.pz];refine N.WalkM.nil fun W hJ hH=>?_;obtain⟨g1,hx1,hg1,hn1⟩:N.NewS (w2).heap.size #[intV (-1)] 3 1 [] (x 1) W:=hH 1;generalize x 1=y1 at *;subst hx1;obtain⟨g6,hx6,hg6,hn6⟩:N.NewS (w2).heap.size #[intV (-1)] 3 1 [] (x 6) W:=hH 6;generalize x 6=y6 at *;subst hx6;obtain⟨a5,c5,h5,own5⟩:RowB w.heap.size t.nodes.length (List.replicate t.nodes.length (-1)) (x 5) W:=hH 5;obtain⟨⟨a10,c10,h10,own10⟩,hne⟩:RowB w.heap.size t.nodes.length (List.replicate t.nodes.length (-1)) (x 10) W∧∀i,(([5,6]:List Nat).map x |>.getD 0 undef).ownBlock=some i→(x 10).ownBlock≠some i:=hH 10;simp only[List.map_cons,List.getD_cons_zero]at hne;rw[h5,h10]at hne;have hne2:∀y,a10=some y→∀z,a5=some z→z.block≠y.block:=fun y ey z ez e=>hne z.block (by rw[ez];rfl) (by rw[ey,e];rfl);have HN2:=Hd hne2;have O5:=Hd own5;have O10:=Hd own10;have HJW:=Hd hJ;generalize x 5=y5 at *;generalize x 10=y10 at *;subst h5 h10;clear hne hne2 own5 own10 hJ hH;have hsW:=HJW.out.size;have hwW:w.heap.size<W.heap.size:=by omega
  have cW0:W.cell? ⟨w.heap.size,0,none⟩=some (.slice na t.nodes.length nc):=(HJW.out.cell (p:=⟨w.heap.size,0,none⟩) hs3).trans b0;have HBW3:Hid (Below w.heap.size w (W.alloc (.cells #[.slice na t.nodes.length nc,.slice ia t.items.length ic,.slice a5 t.nodes.length c5,.slice a10 t.nodes.length c10] 126))):=Hd ((HBW.out.trans (HJW.out.mono hs4)).alloc (by omega) _);have hb3:Below W.heap.size W (W.alloc (.cells #[.slice na t.nodes.length nc,.slice ia t.items.length ic,.slice a5 t.nodes.length c5,.slice a10 t.nodes.length c10] 126)):=(Below.refl _ W).alloc nlr _
  have hrow:∀{a:Option Addr}{c:Nat}{L:List Int},W.ownsRow w.heap.size 3 1 (.slice a t.nodes.length c) t.nodes.length (zm L)→Row 1 (W.alloc (.cells #[.slice na t.nodes.length nc,.slice ia t.items.length ic,.slice a5 t.nodes.length c5,.slice a10 t.nodes.length c10] 126)) a t.nodes.length c (zm L):=by
   intro a c L hh;obtain⟨a',c',e,hr⟩:=bK (zy hh hb3);simp at e;obtain⟨rfl,rfl⟩:=e;exact hr
  have HNW:Hid (NewW w ⟨W.heap.size,⟨na,nc,ia,ic⟩,a5,c5,a10,c10⟩ t (dS t 0) (zg t 0) (W.alloc (.cells #[.slice na t.nodes.length nc,.slice ia t.items.length ic,.slice a5 t.nodes.length c5,.slice a10 t.nodes.length c10] 126))):=Hd (by
   have hlt:∀{a:Option Addr}{c:Nat}{L:List Int},W.ownsRow w.heap.size 3 1 (.slice a t.nodes.length c) t.nodes.length (zm L)→∀y,a=some y→y.block≠W.heap.size:=by
    intro a c L hh y e;subst e;have:=(hh.lt y.block rfl).2;omega
   rw[wY]
   exact⟨⟨HT.out,HBW3.out,⟨by simp,by simp,by simp,by simp,HT.out.mono HBW3.out nlr,hrow O5.out,hrow O10.out⟩,zy O10.out hb3,by show w.heap.size≤W.heap.size;omega,fun y e=>⟨hlt O10.out y e,fun z ez=>HN2.out y e z ez⟩⟩,zy O5.out hb3,fun y e=>hlt O5.out y e⟩)
  clear hb3 hrow b0 b1 hg1 hg6;simp only[List.drop_succ_cons,List.drop_zero];go_wp2
  go_loopw [31] (fun t31 wr=>∃k:Nat,t31=.int .i64 k∧k≤t.nodes.length∧Hid (NewW w ⟨W.heap.size,⟨na,nc,ia,ic⟩,a5,c5,a10,c10⟩ t (dS t k) (zg t 0) wr)) (fun t31 _=>t.nodes.length-(intOf t31).toNat)
  case atStart=>exact⟨0,rfl,Nat.zero_le _,HNW⟩
  case round=>
   obtain⟨k,rfl,hk,HN⟩:=hrel;by_cases hlt:k<t.nodes.length
   ·obtain⟨b,o,ka,kc,ea,hb,n0,n1,n2,n3,n4,-⟩:=HN.out.op.prog.tree.nodes.at hlt
    obtain⟨b',o',ka',kc',ea',hb',-,-,-,m3,-,hkr'⟩:=HT.out.nodes.at hlt;simp only at ea ea';rw[ea]at ea';simp only[Option.some.injEq,Addr.mk.injEq,and_true]at ea';obtain⟨rfl,rfl⟩:=ea';have e3:=(HN.out.op.below.cell (p:=⟨b,o+k*5+3,none⟩) hb').trans m3;rw[n3]at e3;simp only[Option.some.injEq,Value.slice.injEq,true_and]at e3;obtain⟨rfl,rfl⟩:=e3;have hkid:=WFF.out.kid k hlt;have hkl:=BD.out.k _ (List.getElem_mem hlt);have hnd:=t.nd_at hlt;obtain⟨D,hD⟩:∃D,t.nodes[k]=D:=⟨_,rfl⟩
    rw[hD]at n0 n1 n2 n3 n4 hkr' hkid hkl hnd;have HKID:=Hd hkid;have HND:=Hd hnd;have HKR:=Hd hkr';subst ea;have hgr:=HN.out.grow ((Below.refl wr.heap.size wr).alloc nlr (.cells #[.int .u8 D.kind,strV D.text,intV D.n,.slice ka D.kids.length kc,intV D.pos] 57));have HGR:=Hd hgr;clear hkid hnd hkr' hD m3 hgr;go_wp2;rename World=>wk
    go_loopw [39] (fun t39 wz=>∃(j:Nat) (ups:List Int),t39=.int .i64 j∧j≤D.kids.length∧Hid (aH (dS t k) k D.kids=aH ups k (D.kids.drop j))∧Hid (NewW w ⟨W.heap.size,⟨some ⟨b,o,none⟩,nc,ia,ic⟩,a5,c5,a10,c10⟩ t ups (zg t 0) wz)) (fun t39 _=>D.kids.length-(intOf t39).toNat)
    case atStart=>exact⟨0,dS t k,rfl,Nat.zero_le _,Hd rfl,HGR⟩
    case round=>
     obtain⟨j,ups,rfl,hj,HDK,HNZ⟩:=hrel;by_cases hjl:j<D.kids.length
     ·obtain⟨bk,ok,rfl,hbk,hck⟩:=Ints.at HKR.out hjl
      have hx:=HKID.out _ (List.getElem_mem hjl);have HDA:=Hd (BG (o:=ups) (d:=(k:Int)) hjl);obtain⟨x,hxe⟩:∃x,D.kids[j]=x:=⟨_,rfl⟩
      rw[hxe]at hck hx HDA;obtain⟨hx0,hx1⟩:=hx;obtain⟨m,rfl⟩:=Int.eq_ofNat_of_zero_le hx0;have hm:m<t.nodes.length:=by omega
      have hck2:=(HNZ.out.op.below.cell (p:=⟨bk,ok+j,none⟩) hbk).trans hck;obtain⟨g,hg,⟨y,hy⟩,hf,hnw,-,hgl,hgs⟩:=HNZ.out.set hm (k:Int);simp only at hg hgs;subst hg;have hc1:=HNZ.out.op.prog.c2;simp only at hc1;have HNW2:=Hd hnw;clear hnw hxe hck;go_wp2
      go_roundw
      case rel=>exact⟨j+1,ups.set m k,by go_num,by omega,Hd (by rw[HDK.out,HDA.out];rfl),HNW2⟩
      case measure=>simp[intOf];omega
     ·have HE:=Hd (show aH (dS t k) k D.kids=ups by rw[HDK.out,List.drop_of_length_le (by omega)];rfl)
      go_wp2
      go_roundw
      case rel=>exact⟨k+1,by go_num,by omega,Hd (by rw[dS,HND.out,HE.out];exact HNZ.out)⟩
      case measure=>simp[intOf];omega
   ·obtain rfl:k=t.nodes.length:=by omega
    have HC0:=Hd HC.out;go_wp2
    go_ret2
    exact .inl ⟨HC.out,⟨W.heap.size,⟨na,nc,ia,ic⟩,a5,c5,a10,c10⟩,rfl,rfl,HN.out.op⟩
 ·have HC:=Hd hc
  have hne:(zJ t != 0)=true:=by simpa using hc
  obtain⟨E,hE⟩:∃E,zJ t=E:=⟨_,rfl⟩
  rw[hE]at HCK hne;have HE:=Hd hE;clear hc hE;obtain⟨na,nc,ia,ic⟩:=v;unfold TreeV.val;go_enter func137,ntmps137
  go_wp2_with (go_at_call 93;refine HCK.out.mono ?_;rintro e w2 ⟨rfl,hb2⟩;have HB2:=Hd (boxT_below.trans (hb2.mono (by simp)):Below w.heap.size w w2);clear hb2)
  go_ret2
  exact .inr ⟨HC.out,by rw[HE.out];rfl,HB2.out⟩
theorem aW{t:Tr}(h:zJ t=0):dR t=true:=by
 cases hf:dR t with
 |true=>rfl
 |false=>unfold zJ at h;rw[hf]at h;revert h;split<;>simp
theorem dB{t:Tr}(h0:zJ t=0)(h:∀m:Nat,m<t.nodes.length→aQ t m=0):zc t=(zg t t.nodes.length,0,0):=by
 have key:∀(f k:Nat),f+k=t.nodes.length→dV t f k=none:=by
  intro f
  induction f with
  |zero=>intro k _;rfl
  | succ f ih=>
    intro k hk;rw[dV,h k (by omega),if_neg (by decide)];exact ih (k+1) (by omega)
 unfold zc;rw[h0,if_neg (by decide),key _ 0 (by omega),bL]
theorem pU{t:Tr}(h0:zJ t=0){k:Nat}(hk:k<t.nodes.length)(h:∀m:Nat,m<k→aQ t m=0)(he:aQ t k≠0):zc t=([],(k:Int),aQ t k):=by
 have key:∀(f j:Nat),f+j=t.nodes.length→j≤k→dV t f j=some (k,aQ t k):=by
  intro f
  induction f with
  |zero=>intro j _ _;omega
  | succ f ih=>
    intro j hj hjk;rw[dV];by_cases e:j=k
    ·subst e;rw[if_pos (by simpa using he)]
    ·rw[h j (by omega),if_neg (by decide)]
     exact ih (j+1) (by omega) (by omega)
 unfold zc;rw[h0,if_neg (by decide),key _ 0 (by omega) (Nat.zero_le _)]
structure Resolved (t:Tr):Prop where
 check:zJ t=0
 err:∀m:Nat,m<t.nodes.length→aQ t m=0
theorem OpenW.base{w0 w1 w:World}{p:ProgV}{t:Tr}{ups decl:List Int}(h:OpenW w1 p t ups decl w)(ht:IsTree w0 p.v t)(hb:Below w0.heap.size w0 w1):OpenW w0 p t ups decl w:=
 ⟨ht,hb.trans (h.below.mono hb.size),h.prog,aY h.own hb.size,Nat.le_trans hb.size h.ps,h.ne⟩
def LG(w:World)(v:TreeV)(t:Tr)(e:Ending)(w':World):Prop:=
 ((zc t).2.2=0∧Resolved t∧∃p:ProgV,e=.returned (.tuple #[p.ptr,intV 0,intV 0])∧p.v=v∧OpenW w p t (dS t t.nodes.length) (zc t).1 w') ∨
 ((zc t).2.2≠0∧e=.returned (.tuple #[.pointer none,intV (zc t).2.1,intV (zc t).2.2])∧Below w.heap.size w w')
theorem cX(v:TreeV)(t:Tr)(w:World)(bd:Bd t)(rg:Rg t)(hg:GV w)(h:IsTree w v t) :
 Calls prog 88 #[v.val t] w (LG w v t):=by
 have hn3:=bd.n;have hgx:GV (boxT w v t):=hg.mono boxT_below nlr;have HNW:=Hd (GU v t (boxT w v t) bd rg hgx (h.mono boxT_below nlr));have HT:=Hd h;have BD:=Hd bd;clear h hg hgx bd rg;by_cases hc:zJ t=0
 ·have HC:=Hd hc
  have WFF:=Hd (aT BD.out hc);have GG:=Hd (gH (aW hc));have HU:=Hd (eS GG.out);clear hc;obtain⟨na,nc,ia,ic⟩:=v;unfold TreeV.val;go_enter func88,ntmps88
  go_wp2_with (go_at_call 137;refine HNW.out.mono ?_;rintro e w2 (⟨-,p,rfl,hpv,hop⟩|⟨hne,-⟩);rotate_left;(exact absurd HC.out hne);obtain⟨s,v',aa,ac,da,dc⟩:=p;simp only at hpv;subst hpv;have hc0:=hop.prog.c0;simp only at hc0;have HOP:=Hd hop;clear hop)
  have hkid:∀i,i<t.nodes.length→mS t (t.nd i).kids:=fun i hi x hx=>by
   rw[t.nd_at hi]at hx;have:=WFF.out.kid i hi x hx;omega
  have HKID:=Hd hkid;clear hkid
  go_loopw [2,21] (fun t2 t21 wr=>∃k:Nat,t2=.pointer (some ⟨s,0,none⟩)∧t21=.int .i64 k∧k≤t.nodes.length∧Hid (∀m:Nat,m<k→aQ t m=0)∧Hid (OpenW (boxT w ⟨na,nc,ia,ic⟩ t) ⟨s,⟨na,nc,ia,ic⟩,aa,ac,da,dc⟩ t (dS t t.nodes.length) (zg t k) wr)) (fun _ t21 _=>t.nodes.length-(intOf t21).toNat)
  case atStart=>exact⟨0,rfl,rfl,Nat.zero_le _,Hd (fun m h=>by omega),HOP⟩
  case round=>
   obtain⟨k,rfl,rfl,hk,HER,HOK⟩:=hrel;by_cases hlt:k<t.nodes.length
   ·have hfe:iQ t (dS t t.nodes.length) (zg t k) k=aQ t k:=IX WFF.out GG.out HU.out hlt HER.out
    have HFC:Hid (Calls prog 138 #[.pointer (some ⟨s,0,none⟩),intV k] wr (yB (boxT w ⟨na,nc,ia,ic⟩ t) ⟨s,⟨na,nc,ia,ic⟩,aa,ac,da,dc⟩ t (dS t t.nodes.length) (zg t k) k)):=Lib.hid
     (AE _ ⟨s,⟨na,nc,ia,ic⟩,aa,ac,da,dc⟩ t _ _ k wr WFF.out HKID.out WFF.out.item hlt HU.out HOK.out)
    obtain⟨x,hx⟩:∃x,aQ t k=x:=⟨_,rfl⟩
    rw[hx]at hfe;have HFE:=Hd hfe;have HX:=Hd hx;clear hfe hx;cases hx0:(x != 0)with
    | true=>
      have hres:=pU HC.out hlt HER.out (by rw[HX.out];simpa using hx0);rw[HX.out]at hres;have HRES:=Hd hres;clear hres
      go_wp2_with (go_at_call 138;refine HFC.out.mono ?_;rintro e w3 ⟨rfl,hb3,-⟩;rw[HFE.out];have HB3:=Hd (boxT_below.trans (hb3.mono (by simp)):Below w.heap.size w w3);clear hb3)
      go_ret3
      refine .inr ⟨by rw[HRES.out];simpa using hx0,by rw[HRES.out];rfl,HB3.out⟩
    | false=>
      have hxz:x=0:=by simpa using hx0
      have hex:aQ t k=0:=by rw[HX.out,hxz]
      have hd:DX t (zg t k) k=zg t (k+1):=by
       unfold DX
       cases hnk:aV (t.nd k).kind with
       |false=>rw[if_neg Bool.false_ne_true,DY hnk]
       |true=>rw[if_pos rfl,BF hlt hnk,pO WFF.out GG.out hlt (ET GG.out HER.out) hnk]
      have HD:=Hd hd;have HEX:=Hd hex;subst hxz;clear hd hex
      go_wp2_with (go_at_call 138;refine HFC.out.mono ?_;rintro e w3 ⟨rfl,-,ho3⟩;have ho4:=ho3 HFE.out;rw[HD.out]at ho4;rw[HFE.out];have HO4:=Hd ho4;clear ho3 ho4)
      go_roundw
      case rel=>exact⟨k+1,rfl,by go_num,by omega,Hd (fun m hm=>by
       by_cases e:m=k
       ·rw[e];exact HEX.out
       ·exact HER.out m (by omega)),HO4⟩
      case measure=>simp[intOf];omega
   ·obtain rfl:k=t.nodes.length:=by omega
    have HRES:=Hd (dB HC.out HER.out);go_wp2
    go_ret3
    refine .inl ⟨by rw[HRES.out],⟨HC.out,HER.out⟩,⟨s,⟨na,nc,ia,ic⟩,aa,ac,da,dc⟩,rfl,rfl,?_⟩;rw[HRES.out];exact HOK.out.base HT.out boxT_below
 ·have hres:zc t=([],0,zJ t):=by unfold zc;rw[if_pos (by simpa using hc)]
  obtain⟨E,hE⟩:∃E,zJ t=E:=⟨_,rfl⟩
  have hne:(E != 0)=true:=by rw[←hE];simpa using hc
  rw[hE]at hres;have HE:=Hd hE;have HC:=Hd hc;have HRES:=Hd hres;clear hres hE hc;obtain⟨na,nc,ia,ic⟩:=v;unfold TreeV.val;go_enter func88,ntmps88
  go_wp2_with (go_at_call 137;refine HNW.out.mono ?_;rintro e w2 (⟨h0,-⟩|⟨-,rfl,hb2⟩);(exact absurd h0 HC.out);rw[HE.out];have HB2:=Hd (boxT_below.trans (hb2.mono (by simp)):Below w.heap.size w w2);clear hb2)
  go_ret3
  refine .inr ⟨by rw[HRES.out];simpa using hne,by rw[HRES.out];rfl,HB2.out⟩
theorem rN{w w':World}{p:List Int×Int×Int}{g:Nat}{a:Option Addr}{c:Nat}{A:Act}(hc:w'.cell? ⟨g,0,none⟩=some (.slice a p.1.length c))(h2:A.tmps.getD 2 undef=.pointer (some ⟨g,0,none⟩))
 (h3:A.tmps.getD 3 undef=intV p.2.1)(h4:A.tmps.getD 4 undef=intV p.2.2)(hd:A.defers=[])(ho:w'.ownsRow w.heap.size 3 1 (.slice a p.1.length c) p.1.length (zm p.1))(hb:Below w.heap.size w w') :
 bodyPost prog Tryz.f55 (nH w p) Exit.ret A w':=by
 refine bodyPost_ret (v:=.tuple #[.agg #[.slice a p.1.length c],intV p.2.1,intV p.2.2]) ?_ hd ⟨a,c,rfl,ho,hb⟩;simp only[Array.getD_eq_getD_getElem?]at h2 h3 h4;simp[results,results55,go_sem,loadVar,h2,h3,h4,hc,Result.andThen]
theorem EP(W:World){k:Nat}(hk:W.heap.size=k):(W.alloc (.cells #[.slice none 0 0] 52)).cell? ⟨k,0,none⟩=some (.slice none 0 0)∧(W.alloc (.cells #[.slice none 0 0] 52)).frozen? ⟨k,0,none⟩=false:=by
 subst hk;exact⟨by simp,by simp⟩
theorem iU(v:TreeV)(t:Tr)(w:World)(bd:Bd t)(rg:Rg t)(hg:GV w)(h:IsTree w v t) :
 Calls prog 55 #[v.val t] w (nH w (zc t)):=by
 have hb1:Below w.heap.size w ((boxT w v t).alloc (.cells #[.slice none 0 0] 52)):=boxT_below.alloc (by simp) _;have HC:=Hd (cX v t _ bd rg (hg.mono hb1 nlr) (h.mono hb1 nlr));have hnew:=EP (boxT w v t) (k:=w.heap.size+1) (by simp);have HNEW:=Hd hnew;have HB1:=Hd hb1;have hsz:((boxT w v t).alloc (.cells #[.slice none 0 0] 52)).heap.size=w.heap.size+1+1:=by simp
 have HSZ:=Hd hsz;clear h hg bd rg hb1 hnew hsz;obtain⟨na,nc,ia,ic⟩:=v;by_cases hz:(zc t).2.2=0
 ·have HZ:=Hd hz
  clear hz;unfold TreeV.val;go_enter func55,ntmps55
  go_wp2_with (go_at_call 88;refine HC.out.mono ?_;rintro e w2 (⟨-,hrs,p,rfl,hpv,hop⟩|⟨hne,-⟩);rotate_left;(exact absurd HZ.out hne);have HRS:=Hd (dB hrs.check hrs.err);clear hrs;obtain⟨s,v',aa,ac,da,dc⟩:=p;simp only at hpv;subst hpv;have hc3:=hop.prog.c3;simp only at hc3;have HOP:=Hd hop;have hcr:=(hop.below.cell (p:=⟨w.heap.size+1,0,none⟩) (by rw[HSZ.out];show w.heap.size+1<_;omega)).trans HNEW.out.1;have hfr:=(hop.below.frozen (p:=⟨w.heap.size+1,0,none⟩) (by rw[HSZ.out];show w.heap.size+1<_;omega)).trans HNEW.out.2;clear hop)
  have hop:=HOP.out;rw[HRS.out]at hop⊢;have hl:(zg t t.nodes.length).length=t.nodes.length:=zP _ _
  exact rN (w:=w) (p:=(zg t t.nodes.length,0,0)) (g:=w.heap.size+1) (a:=da) (c:=dc) (by rw[hl];exact World.cell?_setCell_same _ _ _ hcr) rfl rfl rfl rfl (by
   rw[hl]
   exact aY (ownsRow_setCell_below hop.own (by simp) _) (by simp;omega)) ((HB1.out.trans (hop.below.mono (by simp;omega))).setCell (by simp) _)
 ·have hne:((zc t).2.2 != 0)=true:=by simpa using hz
  obtain⟨A1,hA1⟩:∃A1,(zc t).2.1=A1:=⟨_,rfl⟩
  obtain⟨E1,hE1⟩:∃E1,(zc t).2.2=E1:=⟨_,rfl⟩
  rw[hE1]at hne;have HA1:=Hd hA1;have HE1:=Hd hE1;have HZ:=Hd hz;clear hA1 hE1 hz;unfold TreeV.val;go_enter func55,ntmps55
  go_wp2_with (go_at_call 88;refine HC.out.mono ?_;rintro e w2 (⟨h0,-⟩|⟨-,rfl,hb2⟩);(exact absurd h0 HZ.out);rw[HA1.out,HE1.out];have hb3:Below w.heap.size w w2:=HB1.out.trans (hb2.mono (by simp;omega));have hcr:=(hb2.cell (p:=⟨w.heap.size+1,0,none⟩) (by rw[HSZ.out];show w.heap.size+1<_;omega)).trans HNEW.out.1;have hfr:=(hb2.frozen (p:=⟨w.heap.size+1,0,none⟩) (by rw[HSZ.out];show w.heap.size+1<_;omega)).trans HNEW.out.2;have HB3:=Hd hb3;clear hb2 hb3)
  obtain⟨L,hL⟩:∃L,zc t=(L,A1,E1):=⟨(zc t).1,by rw[←HA1.out,←HE1.out]⟩
  have hL0:L=[]:=by
   have h1:(zc t).2.2≠0:=HZ.out;have h2:(zc t).1=L:=by rw[hL]
   rw[←h2];revert h1;unfold zc;split
   ·intro _;rfl
   ·split
    ·intro _;rfl
    ·intro h;exact absurd rfl h
  rw[hL,hL0];exact rN (w:=w) (p:=([],A1,E1)) (g:=w.heap.size+1) (a:=none) (c:=0) (World.cell?_setCell_same _ _ _ hcr) rfl rfl rfl rfl ⟨rfl,.inl ⟨rfl,rfl⟩⟩ (HB3.out.setCell (by simp) _)
def aR(t:Tr)(node:Int)(q:Int→Bool):Int:=if (zc t).2.2 != 0 then (zc t).2.2 else if decide (node<0)||(decide ((t.nodes.length:Int)≤node) || !q node)then 7 else 0
def DK(w:World)(v:TreeV)(t:Tr)(node:Int)(q:Int→Bool)(e:Ending)(w':World):Prop:=
 (aR t node q=0∧Resolved t∧0≤node∧node<t.nodes.length∧q node=true∧∃p:ProgV,e=.returned (.tuple #[p.ptr,intV 0])∧p.v=v∧OpenW w p t (dS t t.nodes.length) (zg t t.nodes.length) w') ∨
 (aR t node q≠0∧e=.returned (.tuple #[.pointer none,intV (aR t node q)])∧Below w.heap.size w w')
theorem dC{t:Tr}(h:Resolved t):zc t=(zg t t.nodes.length,0,0):=dB h.check h.err
def fA(t:Tr)(i:Int):Bool:=decide ((t.nd i).kind≤26)&&(t.nd i).kind != 25
theorem qK(v:TreeV)(t:Tr)(node:Int)(w:World)(bd:Bd t)(rg:Rg t)(hg:GV w)(h:IsTree w v t) :
 Calls prog 83 #[v.val t,intV node,.func (.func 84) #[] #[]] w (DK w v t node (zh t)):=by
 have hn3:=bd.n;have HC:=Hd (cX v t (boxT w v t) bd rg (hg.mono boxT_below nlr) (h.mono boxT_below nlr));have HT:=Hd h;have BD:=Hd bd;clear h hg bd rg;obtain⟨na,nc,ia,ic⟩:=v;by_cases hz:(zc t).2.2=0
 ·have HZ:=Hd hz
  have HOE:Hid (aR t node (zh t)=if decide (node<0)||(decide ((t.nodes.length:Int)≤node) || !(zh t) node)then 7 else 0):=Hd (by unfold aR;rw[hz,if_neg (by decide)]);clear hz;have ARM:True:=trivial;by_cases hlo:node<0
  ·have hlo2:(decide (node<0))=true:=by simpa using hlo
   have HOZ:Hid (aR t node (zh t)=7):=Hd (by rw[HOE.out,hlo2];rfl);unfold TreeV.val;go_enter func83,ntmps83
   go_wp2_with (go_at_call 88;refine HC.out.mono ?_;rintro e w2 (⟨-,hrs,p,rfl,hpv,hop⟩|⟨hne,-⟩);rotate_left;(exact absurd HZ.out hne);have HB2:=Hd (boxT_below.trans (hop.below.mono (by simp)):Below w.heap.size w w2);clear hop hrs)
   go_ret2
   exact .inr ⟨by rw[HOZ.out];decide,by rw[HOZ.out];rfl,HB2.out⟩
  ·have hlo2:(decide (node<0))=false:=by simpa using hlo
   by_cases hhi:(t.nodes.length:Int)≤node
   ·have hhi2:(decide ((t.nodes.length:Int)≤node))=true:=by simpa using hhi
    have hhi3:(decide (node ≥ (t.nodes.length:Int)))=true:=by simpa using hhi
    have HOZ:Hid (aR t node (zh t)=7):=Hd (by rw[HOE.out,hlo2,hhi2];rfl);unfold TreeV.val;go_enter func83,ntmps83
    go_wp2_with (go_at_call 88;refine HC.out.mono ?_;rintro e w2 (⟨-,hrs,p,rfl,hpv,hop⟩|⟨hne,-⟩);rotate_left;(exact absurd HZ.out hne);obtain⟨s,v',aa,ac,da,dc⟩:=p;simp only at hpv;subst hpv;have hc0:=hop.prog.c0;simp only at hc0;have HB2:=Hd (boxT_below.trans (hop.below.mono (by simp)):Below w.heap.size w w2);clear hop hrs)
    go_ret2
    exact .inr ⟨by rw[HOZ.out];decide,by rw[HOZ.out];rfl,HB2.out⟩
   ·have hhi2:(decide ((t.nodes.length:Int)≤node))=false:=by simpa using hhi
    have hhi3:(decide (node ≥ (t.nodes.length:Int)))=false:=by simpa using hhi
    obtain⟨m,rfl⟩:=Int.eq_ofNat_of_zero_le (show 0≤node by omega);have hm:m<t.nodes.length:=by omega
    have HQ:Hid (∀(p:ProgV) (W:World),Resolved t→OpenW (boxT w ⟨na,nc,ia,ic⟩ t) p t (dS t t.nodes.length) (zg t t.nodes.length) W→Calls prog 84 #[p.ptr,intV m] W fun e w'=>e=.returned (.bool ((zh t) (m:Int)))∧W=w'):=Hd fun p W hrs hop=>by
     have wf:=aT BD.out hrs.check;have hu:=eS (gH (aW hrs.check));have:=fH p t _ _ m W BD.out hm (hu.within m hm) hop.prog;rwa[lJ wf hu hm]at this
    cases hq:(zh t) (m:Int)with
    | true=>
      have HOZ:Hid (aR t m (zh t)=0):=Hd (by rw[HOE.out,hlo2,hhi2,hq];rfl);have HQV:=Hd hq;rw[hq]at HQ;clear hq;unfold TreeV.val;go_enter func83,ntmps83
      go_wp2_with (first
       | (go_at_call 88;refine HC.out.mono ?_;rintro e w2 (⟨-,hrs,p,rfl,hpv,hop⟩|⟨hne,-⟩);rotate_left;(exact absurd HZ.out hne);rw[dC hrs]at hop;have HRS:=Hd hrs;have HQC:=Hd (HQ.out p w2 hrs hop);obtain⟨s,v',aa,ac,da,dc⟩:=p;simp only at hpv;subst hpv;have hc0:=hop.prog.c0;simp only at hc0;have HOP:=Hd hop;clear hop hrs)
       | (go_at_call 84;refine HQC.out.mono ?_;rintro e w' ⟨rfl,rfl⟩))
      go_ret2
      exact .inl ⟨HOZ.out,HRS.out,by omega,by omega,HQV.out,⟨s,⟨na,nc,ia,ic⟩,aa,ac,da,dc⟩,rfl,rfl,HOP.out.base HT.out boxT_below⟩
    | false=>
      have HOZ:Hid (aR t m (zh t)=7):=Hd (by rw[HOE.out,hlo2,hhi2,hq];rfl);rw[hq]at HQ;clear hq;unfold TreeV.val;go_enter func83,ntmps83
      go_wp2_with (first
       | (go_at_call 88;refine HC.out.mono ?_;rintro e w2 (⟨-,hrs,p,rfl,hpv,hop⟩|⟨hne,-⟩);rotate_left;(exact absurd HZ.out hne);rw[dC hrs]at hop;have HRS:=Hd hrs;have HQC:=Hd (HQ.out p w2 hrs hop);obtain⟨s,v',aa,ac,da,dc⟩:=p;simp only at hpv;subst hpv;have hc0:=hop.prog.c0;simp only at hc0;have HB2:=Hd (boxT_below.trans (hop.below.mono (by simp)):Below w.heap.size w w2);clear hop hrs)
       | (go_at_call 84;refine HQC.out.mono ?_;rintro e w' ⟨rfl,rfl⟩))
      go_ret2
      exact .inr ⟨by rw[HOZ.out];decide,by rw[HOZ.out];rfl,HB2.out⟩
 ·have hne:((zc t).2.2 != 0)=true:=by simpa using hz
  have hoe:aR t node (zh t)=(zc t).2.2:=by unfold aR;rw[if_pos hne]
  obtain⟨E1,hE1⟩:∃E1,(zc t).2.2=E1:=⟨_,rfl⟩
  rw[hE1]at hne hoe;have HOE:=Hd hoe;have HE1:=Hd hE1;have HZ:=Hd hz;clear hE1 hz hoe;unfold TreeV.val;go_enter func83,ntmps83
  go_wp2_with (go_at_call 88;refine HC.out.mono ?_;rintro e w2 (⟨h0,-⟩|⟨-,rfl,hb2⟩);(exact absurd h0 HZ.out);rw[HE1.out];have HB2:=Hd (boxT_below.trans (hb2.mono (by simp)):Below w.heap.size w w2);clear hb2)
  go_ret2
  exact .inr ⟨by rw[HOE.out];simpa using hne,by rw[HOE.out];rfl,HB2.out⟩
theorem qM(v:TreeV)(t:Tr)(node:Int)(w:World)(bd:Bd t)(rg:Rg t)(hg:GV w)(h:IsTree w v t) :
 Calls prog 83 #[v.val t,intV node,.func (.func 146) #[] #[]] w (DK w v t node (fA t)):=by
 have hn3:=bd.n;have HC:=Hd (cX v t (boxT w v t) bd rg (hg.mono boxT_below nlr) (h.mono boxT_below nlr));have HT:=Hd h;have BD:=Hd bd;clear h hg bd rg;obtain⟨na,nc,ia,ic⟩:=v;by_cases hz:(zc t).2.2=0
 ·have HZ:=Hd hz
  have HOE:Hid (aR t node (fA t)=if decide (node<0)||(decide ((t.nodes.length:Int)≤node) || !(fA t) node)then 7 else 0):=Hd (by unfold aR;rw[hz,if_neg (by decide)]);clear hz;have ARM:True:=trivial;by_cases hlo:node<0
  ·have hlo2:(decide (node<0))=true:=by simpa using hlo
   have HOZ:Hid (aR t node (fA t)=7):=Hd (by rw[HOE.out,hlo2];rfl);unfold TreeV.val;go_enter func83,ntmps83
   go_wp2_with (go_at_call 88;refine HC.out.mono ?_;rintro e w2 (⟨-,hrs,p,rfl,hpv,hop⟩|⟨hne,-⟩);rotate_left;(exact absurd HZ.out hne);have HB2:=Hd (boxT_below.trans (hop.below.mono (by simp)):Below w.heap.size w w2);clear hop hrs)
   go_ret2
   exact .inr ⟨by rw[HOZ.out];decide,by rw[HOZ.out];rfl,HB2.out⟩
  ·have hlo2:(decide (node<0))=false:=by simpa using hlo
   by_cases hhi:(t.nodes.length:Int)≤node
   ·have hhi2:(decide ((t.nodes.length:Int)≤node))=true:=by simpa using hhi
    have hhi3:(decide (node ≥ (t.nodes.length:Int)))=true:=by simpa using hhi
    have HOZ:Hid (aR t node (fA t)=7):=Hd (by rw[HOE.out,hlo2,hhi2];rfl);unfold TreeV.val;go_enter func83,ntmps83
    go_wp2_with (go_at_call 88;refine HC.out.mono ?_;rintro e w2 (⟨-,hrs,p,rfl,hpv,hop⟩|⟨hne,-⟩);rotate_left;(exact absurd HZ.out hne);obtain⟨s,v',aa,ac,da,dc⟩:=p;simp only at hpv;subst hpv;have hc0:=hop.prog.c0;simp only at hc0;have HB2:=Hd (boxT_below.trans (hop.below.mono (by simp)):Below w.heap.size w w2);clear hop hrs)
    go_ret2
    exact .inr ⟨by rw[HOZ.out];decide,by rw[HOZ.out];rfl,HB2.out⟩
   ·have hhi2:(decide ((t.nodes.length:Int)≤node))=false:=by simpa using hhi
    have hhi3:(decide (node ≥ (t.nodes.length:Int)))=false:=by simpa using hhi
    obtain⟨m,rfl⟩:=Int.eq_ofNat_of_zero_le (show 0≤node by omega);have hm:m<t.nodes.length:=by omega
    have HQ:Hid (∀(p:ProgV) (W:World),Resolved t→OpenW (boxT w ⟨na,nc,ia,ic⟩ t) p t (dS t t.nodes.length) (zg t t.nodes.length) W→Calls prog 146 #[p.ptr,intV m] W fun e w'=>e=.returned (.bool ((fA t) (m:Int)))∧W=w'):=Hd fun p W hrs hop=>wB p t _ _ m W BD.out hm hop.prog;cases hq:(fA t) (m:Int)with
    | true=>
      have HOZ:Hid (aR t m (fA t)=0):=Hd (by rw[HOE.out,hlo2,hhi2,hq];rfl);have HQV:=Hd hq;rw[hq]at HQ;clear hq;unfold TreeV.val;go_enter func83,ntmps83
      go_wp2_with (first
       | (go_at_call 88;refine HC.out.mono ?_;rintro e w2 (⟨-,hrs,p,rfl,hpv,hop⟩|⟨hne,-⟩);rotate_left;(exact absurd HZ.out hne);rw[dC hrs]at hop;have HRS:=Hd hrs;have HQC:=Hd (HQ.out p w2 hrs hop);obtain⟨s,v',aa,ac,da,dc⟩:=p;simp only at hpv;subst hpv;have hc0:=hop.prog.c0;simp only at hc0;have HOP:=Hd hop;clear hop hrs)
       | (go_at_call 146;refine HQC.out.mono ?_;rintro e w' ⟨rfl,rfl⟩))
      go_ret2
      exact .inl ⟨HOZ.out,HRS.out,by omega,by omega,HQV.out,⟨s,⟨na,nc,ia,ic⟩,aa,ac,da,dc⟩,rfl,rfl,HOP.out.base HT.out boxT_below⟩
    | false=>
      have HOZ:Hid (aR t m (fA t)=7):=Hd (by rw[HOE.out,hlo2,hhi2,hq];rfl);rw[hq]at HQ;clear hq;unfold TreeV.val;go_enter func83,ntmps83
      go_wp2_with (first
       | (go_at_call 88;refine HC.out.mono ?_;rintro e w2 (⟨-,hrs,p,rfl,hpv,hop⟩|⟨hne,-⟩);rotate_left;(exact absurd HZ.out hne);rw[dC hrs]at hop;have HRS:=Hd hrs;have HQC:=Hd (HQ.out p w2 hrs hop);obtain⟨s,v',aa,ac,da,dc⟩:=p;simp only at hpv;subst hpv;have hc0:=hop.prog.c0;simp only at hc0;have HB2:=Hd (boxT_below.trans (hop.below.mono (by simp)):Below w.heap.size w w2);clear hop hrs)
       | (go_at_call 146;refine HQC.out.mono ?_;rintro e w' ⟨rfl,rfl⟩))
      go_ret2
      exact .inr ⟨by rw[HOZ.out];decide,by rw[HOZ.out];rfl,HB2.out⟩
 ·have hne:((zc t).2.2 != 0)=true:=by simpa using hz
  have hoe:aR t node (fA t)=(zc t).2.2:=by unfold aR;rw[if_pos hne]
  obtain⟨E1,hE1⟩:∃E1,(zc t).2.2=E1:=⟨_,rfl⟩
  rw[hE1]at hne hoe;have HOE:=Hd hoe;have HE1:=Hd hE1;have HZ:=Hd hz;clear hE1 hz hoe;unfold TreeV.val;go_enter func83,ntmps83
  go_wp2_with (go_at_call 88;refine HC.out.mono ?_;rintro e w2 (⟨h0,-⟩|⟨-,rfl,hb2⟩);(exact absurd h0 HZ.out);rw[HE1.out];have HB2:=Hd (boxT_below.trans (hb2.mono (by simp)):Below w.heap.size w w2);clear hb2)
  go_ret2
  exact .inr ⟨by rw[HOE.out];simpa using hne,by rw[HOE.out];rfl,HB2.out⟩
def RetIntsE(w:World)(l:List Int)(err:Int)(e:Ending)(w':World):Prop:=
 ∃a c,e=.returned (.tuple #[.slice a l.length c,intV err])∧w'.ownsRow w.heap.size 3 1 (.slice a l.length c) l.length (zm l)∧Below w.heap.size w w'
theorem RetIntsE.nil{w w':World}{err:Int}(hb:Below w.heap.size w w'):RetIntsE w [] err (.returned (.tuple #[.slice none 0 0,intV err])) w':=⟨none,0,rfl,⟨rfl,.inl ⟨rfl,rfl⟩⟩,hb⟩
def qH(t:Tr)(node:Int):List Int×Int:=if aR t node (zh t)=0 then (uses (zg t t.nodes.length) node,0)else ([],aR t node (zh t))
theorem AJ(v:TreeV)(t:Tr)(node:Int)(w:World)(bd:Bd t)(rg:Rg t)(hg:GV w)(h:IsTree w v t) :
 Calls prog 44 #[v.val t,intV node] w (RetIntsE w (qH t node).1 (qH t node).2):=by
 have HC:=Hd (qK v t node (boxT w v t) bd rg (hg.mono boxT_below nlr) (h.mono boxT_below nlr));have BD:=Hd bd;clear h hg bd rg;obtain⟨na,nc,ia,ic⟩:=v;by_cases hz:aR t node (zh t)=0
 ·have HZ:=Hd hz
  have HU:Hid (qH t node=(uses (zg t t.nodes.length) node,0)):=Hd (by unfold qH;rw[if_pos hz]);clear hz;unfold TreeV.val;go_enter func44,ntmps44
  go_wp2_with (first
   | (go_at_call 83;refine HC.out.mono ?_;rintro e w2 (⟨-,hrs,hn0,hn1,-,p,rfl,hpv,hop⟩|⟨hne,-⟩);rotate_left;(exact absurd HZ.out hne);have HQC:=Hd (tH p t _ _ node w2 BD.out hop.prog);have HB2:=Hd (boxT_below.trans (hop.below.mono (by simp)):Below w.heap.size w w2);obtain⟨s,v',aa,ac,da,dc⟩:=p;clear hop hrs hpv)
   | (go_at_call 85;refine HQC.out.mono ?_;rintro e w3 ⟨a,c,rfl,hown,hb3⟩;have HO:=Hd hown;have HB3:=Hd (HB2.out.trans (hb3.mono HB2.out.size));clear hown hb3))
  go_ret2
  rw[HU.out];exact⟨a,c,rfl,aY HO.out HB2.out.size,HB3.out⟩
 ·have hne:(aR t node (zh t) != 0)=true:=by simpa using hz
  have hu:qH t node=([],aR t node (zh t)):=by unfold qH;rw[if_neg hz]
  obtain⟨E1,hE1⟩:∃E1,aR t node (zh t)=E1:=⟨_,rfl⟩
  rw[hE1]at hne hu;have HE1:=Hd hE1;have HZ:=Hd hz;have HU:=Hd hu;clear hE1 hz hu;unfold TreeV.val;go_enter func44,ntmps44
  go_wp2_with (go_at_call 83;refine HC.out.mono ?_;rintro e w2 (⟨h0,-⟩|⟨-,rfl,hb2⟩);(exact absurd h0 HZ.out);rw[HE1.out];have HB2:=Hd (boxT_below.trans (hb2.mono (by simp)):Below w.heap.size w w2);clear hb2)
  go_ret2
  rw[HU.out];exact .nil HB2.out
def eV(t:Tr):List Int×Int:=if (zc t).2.2=0 then (unused t (zg t t.nodes.length),0)else ([],(zc t).2.2)
theorem IQ(W:World)(s:Nat):(W.alloc (.cells #[.pointer (some ⟨s,0,none⟩)] 117)).cell? ⟨W.heap.size,0,none⟩=some (.pointer (some ⟨s,0,none⟩)):=by simp
theorem tG(v:TreeV)(t:Tr)(w:World)(bd:Bd t)(rg:Rg t)(hg:GV w)(h:IsTree w v t) :
 Calls prog 102 #[v.val t] w (RetIntsE w (eV t).1 (eV t).2):=by
 have HC:=Hd (cX v t (boxT w v t) bd rg (hg.mono boxT_below nlr) (h.mono boxT_below nlr));have BD:=Hd bd;clear h hg bd rg;obtain⟨na,nc,ia,ic⟩:=v;by_cases hz:(zc t).2.2=0
 ·have HZ:=Hd hz
  have HU:Hid (eV t=(unused t (zg t t.nodes.length),0)):=Hd (by unfold eV;rw[if_pos hz]);clear hz;unfold TreeV.val;go_enter func102,ntmps102
  go_wp2_with (first
   | (go_at_call 88;refine HC.out.mono ?_;rintro e w2 (⟨-,hrs,p,rfl,hpv,hop⟩|⟨hne,-⟩);rotate_left;(exact absurd HZ.out hne);rw[dC hrs]at hop;have hgr:=(Below.refl w2.heap.size w2).alloc nlr (.cells #[p.ptr] 117);have hop3:=hop.grow hgr;have HQC:=Hd (rV p t _ _ (kY t (dS t t.nodes.length) (zg t t.nodes.length)) w2.heap.size 0 _ BD.out hop3.prog (fun k W hk hW=>tF p t _ _ k w2.heap.size W BD.out hk ((eS (gH (aW hrs.check))).within k hk) (hop3.prog.mono hW nlr) ((hW.cell (p:=⟨w2.heap.size,0,none⟩) (by simp)).trans (IQ w2 p.s))));have HUE:=Hd (GF (decl:=zg t t.nodes.length) (aT BD.out hrs.check) (eS (gH (aW hrs.check))));have HB2:=Hd (boxT_below.trans (hop3.below.mono (by simp)):Below w.heap.size w _);obtain⟨s,v',aa,ac,da,dc⟩:=p;clear hop hop3 hrs hpv hgr)
   | (go_at_call 132;refine HQC.out.mono ?_;rintro e w3 ⟨a,c,rfl,hown,hb3⟩;have HO:=Hd hown;have HB3:=Hd (HB2.out.trans (hb3.mono HB2.out.size));clear hown hb3))
  go_ret2
  rw[HU.out,←HUE.out];exact⟨a,c,rfl,aY HO.out HB2.out.size,HB3.out⟩
 ·have hne:((zc t).2.2 != 0)=true:=by simpa using hz
  have hu:eV t=([],(zc t).2.2):=by unfold eV;rw[if_neg hz]
  obtain⟨E1,hE1⟩:∃E1,(zc t).2.2=E1:=⟨_,rfl⟩
  rw[hE1]at hne hu;have HE1:=Hd hE1;have HZ:=Hd hz;have HU:=Hd hu;clear hE1 hz hu;unfold TreeV.val;go_enter func102,ntmps102
  go_wp2_with (go_at_call 88;refine HC.out.mono ?_;rintro e w2 (⟨h0,-⟩|⟨-,rfl,hb2⟩);(exact absurd h0 HZ.out);rw[HE1.out];have HB2:=Hd (boxT_below.trans (hb2.mono (by simp)):Below w.heap.size w w2);clear hb2)
  go_ret2
  rw[HU.out];exact .nil (HB2.out.alloc HB2.out.size _)
end
end Go.Proofs.YtokdgiphdnjeoaaGreatDoor
