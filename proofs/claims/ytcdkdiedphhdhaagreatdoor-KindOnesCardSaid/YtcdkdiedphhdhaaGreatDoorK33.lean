/- Part of a proof. -/
import Derived.Test.YtcdkdiedphhdhaaGreatDoorK14
import Derived.Test.YtcdkdiedphhdhaaGreatDoorK26
import Derived.Test.YtcdkdiedphhdhaaGreatDoorK32
set_option maxRecDepth 100000
set_option maxHeartbeats 8000000
set_option linter.unusedVariables false
set_option linter.unusedSimpArgs false
open Go.Proofs.Tryz
namespace Go.Proofs.YtcdkdiedphhdhaaGreatDoor
section
open Go Go.RowKit
structure NewW (w0:World) (p:ProgV) (t:Tr) (ups decl:List Int) (w:World):Prop where
 op:OpenW w0 p t ups decl w
 own:w.ownsRow w0.heap.size 3 1 (.slice p.aa t.nodes.length p.ac) t.nodes.length (zq ups)
 ne:∀x,p.aa=some x->x.block≠p.s
theorem NewW.grow{w0 w w':World}{p:ProgV}{t:Tr}{ups decl:List Int}(h:NewW w0 p t ups decl w)(hb:Below w.heap.size w w'):NewW w0 p t ups decl w':=
 ⟨h.op.grow hb,zL h.own hb,h.ne⟩
theorem NewW.set{w0 w:World}{p:ProgV}{t:Tr}{ups decl:List Int}(h:NewW w0 p t ups decl w){i:Nat}(hi:i<t.nodes.length)(x:Int) :
 ∃g,p.aa=some ⟨g,0,none⟩/\(∃y,w.cell? ⟨g,i,none⟩=some (intV y))/\w.frozen? ⟨g,i,none⟩=false/\NewW w0 p t (ups.set i x) decl (w.setCell ⟨g,i,none⟩ (intV x))/\w0.heap.size<=g/\g<w.heap.size/\g≠p.s:=by
 obtain⟨g,hg,hB,he,hl,hc,hf⟩:=iB h.own (by omega);obtain⟨⟨tr,below,prog,own,ps,ne⟩,ownA,neA⟩:=h;obtain⟨s,v,aa,ac,da,dc⟩:=p;simp only at hg;subst hg;have n1:=neA _ rfl;simp only at n1 own ps tr ne;have hb:=below.setCell (p:=⟨g,i,none⟩) hB (intV x);have ha:∀j,(w.setCell ⟨g,i,none⟩ (intV x)).cell? ⟨s,j,none⟩=w.cell? ⟨s,j,none⟩:=fun j=>World.cell?_setCell_other _ _ _ _ (fun e=>n1 (congrArg Addr.block e));have own2:=qP ownA i x;obtain⟨c0,c1,c2,c3,ct,cu,cd⟩:=prog;have hd:∀y,da=some y->y.block≠g:=fun y e=>((ne y e).2 ⟨g,0,none⟩ rfl).symm
 have rowA:Row 1 (w.setCell ⟨g,i,none⟩ (intV x)) (some ⟨g,0,none⟩) t.nodes.length ac (zq (ups.set i x)):=by
  obtain⟨a',c',e,hr⟩:=aZ own2;simp at e;obtain⟨rfl,rfl⟩:=e;exact hr
 have ownD:(w.setCell ⟨g,i,none⟩ (intV x)).ownsRow w0.heap.size 3 1 (.slice da t.nodes.length dc) t.nodes.length (zq decl):=by
  refine own.kept (row:=some g) ⟨rfl,rfl,rfl,by simp[World.setCell],fun k _ hk=>Below.heap_setCell _ _ _ k (fun e=>hk (by rw[e]))⟩ ?_
  cases da with
  | none=>
    left;rcases own.2 with⟨e,_⟩|⟨g',cap,cur,e,_⟩
    .rw[e];rfl
    .cases e
  |some y=>exact .inr (by simp[Value.ownBlock];exact hd y rfl)
 exact⟨g,rfl,⟨_,hc i hi⟩,hf i,⟨⟨tr,hb,⟨(ha 0).trans c0,(ha 1).trans c1,(ha 2).trans c2,(ha 3).trans c3,tr.mono hb nlr,rowA,bA cd _ (fun _ y e=>hd y e)⟩,ownD,ps,ne⟩,own2,neA⟩,hB,he,n1⟩
theorem qX{W:World}{g:Nat}{v:Value}{T:TypeId}(h:W.heap[g]?=some (.cells #[v] T (0,0))):Row 1 W (some ⟨g,0,none⟩) 1 1 [v]:=by
 refine⟨rfl,nlr,fun h=>(by cases h),.inr ⟨g,0,rfl,(Array.getElem?_eq_some_iff.1 h).1,fun i hi=>?_⟩⟩;have:i=0:=by simpa using hi
 subst this;simp[World.cell?,h]
def RowB(B n:Nat)(L:List Int)(v:Value)(W:World):Prop:=∃a c,v=.slice a n c/\W.ownsRow B 3 1 (.slice a n c) n (zq L)
theorem RowB.below{B n:Nat}{L:List Int}{v:Value}{W W':World}(h:RowB B n L v W)(hb:Below W.heap.size W W'):RowB B n L v W':=by
 obtain⟨a,c,h1,h2⟩:=h;exact⟨a,c,h1,zL h2 hb⟩
def QW(w:World)(v:TreeV)(t:Tr)(e:Ending)(w':World):Prop:=
 (aD t=0/\∃p:ProgV,e=.returned (.tuple #[p.ptr,intV 0])/\p.v=v/\OpenW w p t (eC t t.nodes.length) (zg t 0) w')\/(aD t≠0/\e=.returned (.tuple #[.pointer none,intV (aD t)])/\Below w.heap.size w w')
theorem EE{o l:List Int}{d:Int}{j:Nat}(h:j<l.length):aH o d (l.drop j)=aH (o.set l[j].toNat d) d (l.drop (j+1)):=by
 rw[List.drop_eq_getElem_cons h];rfl
theorem LG(v:TreeV)(t:Tr)(w:World)(bd:Bd t)(rg:Rg t)(hg:GV w)(h:IsTree w v t) :
 Calls prog 57 #[v.val t] w (QW w v t):=by
 have hZ:prog.follows .mixedOrders=true:=by kernel_rfl
 have hK:=bd.n;have hI:GV (boxT w v t):=hg.mono boxT_below nlr;have Hb:=Hd (DO v t (boxT w v t) bd rg hI (h.mono boxT_below nlr));have HT:=Hd h;have BD:=Hd bd;clear h hg hI bd rg;by_cases hc:aD t=0
 .have HC:=Hd hc
  have WFF:=Hd (iV BD.out hc);rw[hc]at Hb;clear hc;obtain⟨na,nc,ia,ic⟩:=v;unfold TreeV.val;go_enter func57,ntmps57
  go_wp2_with (go_at_call 78;refine Hb.o.mono ?_;rintro e w2 ⟨rfl,hq⟩;have he:Below (w.heap.size+1) (boxT w ⟨na,nc,ia,ic⟩ t) w2:=hq.mono (by simp);obtain⟨b0,b1,hM,⟨h7,h0,hB⟩,hF⟩:=boxed he HT.o;have Hh:=Hd he;have Hk:=Hd hF;have Hr:=Hd hM;clear hq he hF hM)
  refine N.region_M 11 hZ (by kernel_rfl) (by kernel_rfl) rfl (by kernel_rfl) (by kernel_rfl) (fun _ _=>False) N.Pans.no (fun Wz=>Below (w2).heap.size (w2) Wz) (fun Wy Wz=>Below Wy.heap.size Wy Wz) (brf.drew) [.fix ?vG1_0,.dep [] (N.NewS (w2).heap.size #[intV (-1)] 3 1),.fix ?vG1_2,.fix ?vG1_3,.fix ?vG1_4,.dep [1] (fun _ v W=>RowB w.heap.size t.nodes.length (List.replicate t.nodes.length (-1)) v W),.dep [] (N.NewS (w2).heap.size #[intV (-1)] 3 1),.fix ?vG1_7,.fix ?vG1_8,.fix ?vG1_9,.dep [5,6] (fun l v W=>RowB w.heap.size t.nodes.length (List.replicate t.nodes.length (-1)) v W/\∀i,(l.getD 0 undef).ownBlock=some i->v.ownBlock≠some i)] [[],[],[],[],[],[1],[],[],[],[],[5,6]] rfl (by kernel_rfl) (N.sts_kd ⟨trivial,N.NewS.st,trivial,trivial,trivial,(fun _ _ _ _ hk h=>h.below hk),N.NewS.st,trivial,trivial,trivial,(fun _ _ _ _ hk h=>⟨h.1.below hk,h.2⟩),trivial⟩) fun x=>?_;rotate_left 7;refine N.WalkM.fix ?_ ?_;refine N.StepS.known rfl (fun _=>brf) ?_;intro W hJ hP;obtain⟨hu,hv⟩:=bcell hJ;go_simp;rfl;simp only[N.pz];refine N.WalkM.dep ?sG1_1 ?rG1_1;case sG1_1=>exact N.StepS.runs rfl (fun W hJ _=>⟨_,_,(by(go_simp;try rfl)),hJ.alloc hJ.size _,brf.alloc nlr _,⟨W.heap.size,rfl,hJ.size,heap_alloc_new _ _⟩⟩)
  simp only[N.pz]
  iterate 3 (refine N.WalkM.fix ?_ ?_;refine N.StepS.known rfl (fun _=>brf) ?_;intro W hJ hP;obtain⟨hu,hv⟩:=bcell hJ;go_simp;rfl;simp only[N.pz])
  refine N.WalkM.dep ?sG1_5 ?rG1_5;case sG1_5=>(refine N.StepS.call' (f:=79) (args:=#[x 1,intV t.nodes.length]) rfl ?_ ?_;(intro W hJ hP;obtain⟨hu,hv⟩:=bcell hJ;(go_simp;try rfl));(intro W hJ hP;obtain⟨g,hg,hW,hz⟩:N.NewS w2.heap.size #[intV (-1)] 3 1 [] (x 1) W:=hP 1 (by kernel_rfl);rw[hg];refine(pG t.nodes.length (-1) g 0 1 W hK (qX hz)).mono ?_;rintro e w' ⟨a,c,rfl,ha,hb⟩;refine⟨_,rfl,hJ.trans (hb.mono hJ.size),hb,⟨a,c,by rw[List.length_replicate],by have:=cA ha (Nat.le_trans hB hJ.size);rwa[List.length_replicate]at this⟩⟩))
  simp only[N.pz];refine N.WalkM.dep ?sG1_6 ?rG1_6;case sG1_6=>exact N.StepS.runs rfl (fun W hJ _=>⟨_,_,(by(go_simp;try rfl)),hJ.alloc hJ.size _,brf.alloc nlr _,⟨W.heap.size,rfl,hJ.size,heap_alloc_new _ _⟩⟩)
  simp only[N.pz]
  iterate 3 (refine N.WalkM.fix ?_ ?_;refine N.StepS.known rfl (fun _=>brf) ?_;intro W hJ hP;obtain⟨hu,hv⟩:=bcell hJ;go_simp;rfl;simp only[N.pz])
  refine N.WalkM.dep ?sG1_10 ?rG1_10;case sG1_10=>(refine N.StepS.call' (f:=79) (args:=#[x 6,intV t.nodes.length]) rfl ?_ ?_;(intro W hJ hP;obtain⟨hu,hv⟩:=bcell hJ;(go_simp;try rfl));(intro W hJ hP;obtain⟨g,hg,hW,hz⟩:N.NewS w2.heap.size #[intV (-1)] 3 1 [] (x 6) W:=hP 6 (by kernel_rfl);rw[hg];refine(pG t.nodes.length (-1) g 0 1 W hK (qX hz)).mono ?_;rintro e w' ⟨a,c,rfl,ha,hb⟩;refine⟨_,rfl,hJ.trans (hb.mono hJ.size),hb,⟨⟨a,c,by rw[List.length_replicate],by have:=cA ha (Nat.le_trans hB hJ.size);rwa[List.length_replicate]at this⟩,fun i hi hh=>by obtain⟨a5,c5,h5,own5⟩:RowB w.heap.size t.nodes.length (List.replicate t.nodes.length (-1)) (x 5) W:=hP 5 (by kernel_rfl);simp only[List.map_cons,List.getD_cons_zero]at hi;rw[h5]at hi;have l5:=(own5.lt i hi).2;have l10:=(ha.lt i hh).1;omega⟩⟩))
  simp only[N.pz];refine N.WalkM.nil fun W hJ hH=>?_;obtain⟨g1,hN,hU,h4⟩:N.NewS (w2).heap.size #[intV (-1)] 3 1 [] (x 1) W:=hH 1;generalize x 1=y1 at *;subst hN;obtain⟨g6,h2,hV,h6⟩:N.NewS (w2).heap.size #[intV (-1)] 3 1 [] (x 6) W:=hH 6;generalize x 6=y6 at *;subst h2;obtain⟨a5,c5,h5,own5⟩:RowB w.heap.size t.nodes.length (List.replicate t.nodes.length (-1)) (x 5) W:=hH 5;obtain⟨⟨a10,c10,hC,own10⟩,hp⟩:RowB w.heap.size t.nodes.length (List.replicate t.nodes.length (-1)) (x 10) W/\∀i,(([5,6]:List Nat).map x |>.getD 0 undef).ownBlock=some i->(x 10).ownBlock≠some i:=hH 10;simp only[List.map_cons,List.getD_cons_zero]at hp;rw[h5,hC]at hp;have hs:∀y,a10=some y->∀z,a5=some z->z.block≠y.block:=fun y ey z ez e=>hp z.block (by rw[ez];rfl) (by rw[ey,e];rfl);have Hn:=Hd hs;have O5:=Hd own5;have O10:=Hd own10;have He:=Hd hJ;generalize x 5=y5 at *;generalize x 10=y10 at *;subst h5 hC;clear hp hs own5 own10 hJ hH;have h8:=He.o.size;have h9:w.heap.size<W.heap.size:=by omega
  have cW0:W.cell? ⟨w.heap.size,0,none⟩=some (.slice na t.nodes.length nc):=(He.o.cell (p:=⟨w.heap.size,0,none⟩) h0).trans b0;have Ha:Hid (Below w.heap.size w (W.alloc (.cells #[.slice na t.nodes.length nc,.slice ia t.items.length ic,.slice a5 t.nodes.length c5,.slice a10 t.nodes.length c10] 92))):=Hd ((Hk.o.trans (He.o.mono hB)).alloc (by omega) _);have ht:Below W.heap.size W (W.alloc (.cells #[.slice na t.nodes.length nc,.slice ia t.items.length ic,.slice a5 t.nodes.length c5,.slice a10 t.nodes.length c10] 92)):=(Below.refl _ W).alloc nlr _
  have ho:∀{a:Option Addr}{c:Nat}{L:List Int},W.ownsRow w.heap.size 3 1 (.slice a t.nodes.length c) t.nodes.length (zq L)->Row 1 (W.alloc (.cells #[.slice na t.nodes.length nc,.slice ia t.items.length ic,.slice a5 t.nodes.length c5,.slice a10 t.nodes.length c10] 92)) a t.nodes.length c (zq L):=by
   intro a c L hh;obtain⟨a',c',e,hr⟩:=aZ (zL hh ht);simp at e;obtain⟨rfl,rfl⟩:=e;exact hr
  have Hp:Hid (NewW w ⟨W.heap.size,⟨na,nc,ia,ic⟩,a5,c5,a10,c10⟩ t (eC t 0) (zg t 0) (W.alloc (.cells #[.slice na t.nodes.length nc,.slice ia t.items.length ic,.slice a5 t.nodes.length c5,.slice a10 t.nodes.length c10] 92))):=Hd (by
   have hd:∀{a:Option Addr}{c:Nat}{L:List Int},W.ownsRow w.heap.size 3 1 (.slice a t.nodes.length c) t.nodes.length (zq L)->∀y,a=some y->y.block≠W.heap.size:=by
    intro a c L hh y e;subst e;have:=(hh.lt y.block rfl).2;omega
   rw[yR]
   exact⟨⟨HT.o,Ha.o,⟨by simp,by simp,by simp,by simp,HT.o.mono Ha.o nlr,ho O5.out,ho O10.out⟩,zL O10.out ht,by show w.heap.size<=W.heap.size;omega,fun y e=>⟨hd O10.out y e,fun z ez=>Hn.o y e z ez⟩⟩,zL O5.out ht,fun y e=>hd O5.out y e⟩)
  clear ht ho b0 b1 hU hV;simp only[List.drop_succ_cons,List.drop_zero];go_wp2
  go_loopw [31] (fun t31 wr=>∃k:Nat,t31=.int .i64 k/\k<=t.nodes.length/\Hid (NewW w ⟨W.heap.size,⟨na,nc,ia,ic⟩,a5,c5,a10,c10⟩ t (eC t k) (zg t 0) wr)) (fun t31 _=>t.nodes.length-(intOf t31).toNat)
  case atStart=>exact⟨0,rfl,Nat.zero_le _,Hp⟩
  case round=>
   obtain⟨k,rfl,hk,HN⟩:=hrel;by_cases hd:k<t.nodes.length
   .obtain⟨b,o,ka,kc,ea,hb,n0,n1,n2,n3,n4,-⟩:=HN.o.op.prog.tree.nodes.at hd
    obtain⟨b',o',ka',kc',ea',hQ,-,-,-,m3,-,hn⟩:=HT.o.nodes.at hd;simp only at ea ea';rw[ea]at ea';simp only[Option.some.injEq,Addr.mk.injEq,and_true]at ea';obtain⟨rfl,rfl⟩:=ea';have e3:=(HN.o.op.below.cell (p:=⟨b,o+k*5+3,none⟩) hQ).trans m3;rw[n3]at e3;simp only[Option.some.injEq,Value.slice.injEq,true_and]at e3;obtain⟨rfl,rfl⟩:=e3;have hl:=WFF.out.kid k hd;have hY:=BD.out.k _ (List.getElem_mem hd);have hA:=t.nd_at hd;obtain⟨D,hD⟩:∃D,t.nodes[k]=D:=⟨_,rfl⟩
    rw[hD]at n0 n1 n2 n3 n4 hn hl hY hA;have Hf:=Hd hl;have Ho:=Hd hA;have Hm:=Hd hn;subst ea;have hG:=HN.o.grow ((Below.refl wr.heap.size wr).alloc nlr (.cells #[.int .u8 D.kind,strV D.text,intV D.n,.slice ka D.kids.length kc,intV D.pos] 31));have Hl:=Hd hG;clear hl hA hn hD m3 hG;go_wp2;rename World=>wk
    go_loopw [39] (fun t39 wz=>∃(j:Nat) (ups:List Int),t39=.int .i64 j/\j<=D.kids.length/\Hid (aH (eC t k) k D.kids=aH ups k (D.kids.drop j))/\Hid (NewW w ⟨W.heap.size,⟨some ⟨b,o,none⟩,nc,ia,ic⟩,a5,c5,a10,c10⟩ t ups (zg t 0) wz)) (fun t39 _=>D.kids.length-(intOf t39).toNat)
    case atStart=>exact⟨0,eC t k,rfl,Nat.zero_le _,Hd rfl,Hl⟩
    case round=>
     obtain⟨j,ups,rfl,hj,Hj,Hc⟩:=hrel;by_cases hjl:j<D.kids.length
     .obtain⟨bk,ok,rfl,hR,hw⟩:=Ints.at Hm.o hjl
      have hx:=Hf.o _ (List.getElem_mem hjl);have Hi:=Hd (EE (o:=ups) (d:=(k:Int)) hjl);obtain⟨x,hO⟩:∃x,D.kids[j]=x:=⟨_,rfl⟩
      rw[hO]at hw hx Hi;obtain⟨h1,hN⟩:=hx;obtain⟨m,rfl⟩:=Int.eq_ofNat_of_zero_le h1;have hm:m<t.nodes.length:=by omega
      have hT:=(Hc.o.op.below.cell (p:=⟨bk,ok+j,none⟩) hR).trans hw;obtain⟨g,hg,⟨y,hy⟩,hf,hL,-,h3,hX⟩:=Hc.o.set hm (k:Int);simp only at hg hX;subst hg;have hS:=Hc.o.op.prog.c2;simp only at hS;have Hg:=Hd hL;clear hL hO hw;go_wp2
      go_roundw
      case rel=>exact⟨j+1,ups.set m k,by go_num,by omega,Hd (by rw[Hj.o,Hi.o];rfl),Hg⟩
      case measure=>simp[intOf];omega
     .have HE:=Hd (show aH (eC t k) k D.kids=ups by rw[Hj.o,List.drop_of_length_le (by omega)];rfl)
      go_wp2
      go_roundw
      case rel=>exact⟨k+1,by go_num,by omega,Hd (by rw[eC,Ho.o,HE.o];exact Hc.o)⟩
      case measure=>simp[intOf];omega
   .obtain rfl:k=t.nodes.length:=by omega
    have Hq:=Hd HC.o;go_wp2
    go_ret2
    exact .inl ⟨HC.o,⟨W.heap.size,⟨na,nc,ia,ic⟩,a5,c5,a10,c10⟩,rfl,rfl,HN.o.op⟩
 .have HC:=Hd hc
  have hp:(aD t != 0)=true:=by simpa using hc
  obtain⟨E,hE⟩:∃E,aD t=E:=⟨_,rfl⟩
  rw[hE]at Hb hp;have HE:=Hd hE;clear hc hE;obtain⟨na,nc,ia,ic⟩:=v;unfold TreeV.val;go_enter func57,ntmps57
  go_wp2_with (go_at_call 78;refine Hb.o.mono ?_;rintro e w2 ⟨rfl,hq⟩;have Hh:=Hd (boxT_below.trans (hq.mono (by simp)):Below w.heap.size w w2);clear hq)
  go_ret2
  exact .inr ⟨HC.o,by rw[HE.o];rfl,Hh.o⟩
theorem fE{t:Tr}(h:aD t=0):gO t=true:=by
 cases hf:gO t with
 |true=>rfl
 |false=>unfold aD at h;rw[hf]at h;revert h;split<;>simp
theorem cR{t:Tr}(h0:aD t=0)(h:∀m:Nat,m<t.nodes.length->bV t m=0):zb t=(zg t t.nodes.length,0,0):=by
 have key:∀(f k:Nat),f+k=t.nodes.length->jI t f k=none:=by
  intro f
  induction f with
  |zero=>intro k _;rfl
  | succ f ih=>
    intro k hk;rw[jI,h k (by omega),if_neg (by decide)];exact ih (k+1) (by omega)
 unfold zb;rw[h0,if_neg (by decide),key _ 0 (by omega),bE]
theorem qW{t:Tr}(h0:aD t=0){k:Nat}(hk:k<t.nodes.length)(h:∀m:Nat,m<k->bV t m=0)(he:bV t k≠0):zb t=([],(k:Int),bV t k):=by
 have key:∀(f j:Nat),f+j=t.nodes.length->j<=k->jI t f j=some (k,bV t k):=by
  intro f
  induction f with
  |zero=>intro j _ _;omega
  | succ f ih=>
    intro j hj ha;rw[jI];by_cases e:j=k
    .subst e;rw[if_pos (by simpa using he)]
    .rw[h j (by omega),if_neg (by decide)]
     exact ih (j+1) (by omega) (by omega)
 unfold zb;rw[h0,if_neg (by decide),key _ 0 (by omega) (Nat.zero_le _)]
structure Resolved (t:Tr):Prop where
 check:aD t=0
 err:∀m:Nat,m<t.nodes.length->bV t m=0
theorem OpenW.base{w0 w1 w:World}{p:ProgV}{t:Tr}{ups decl:List Int}(h:OpenW w1 p t ups decl w)(ht:IsTree w0 p.v t)(hb:Below w0.heap.size w0 w1):OpenW w0 p t ups decl w:=
 ⟨ht,hb.trans (h.below.mono hb.size),h.prog,cA h.own hb.size,Nat.le_trans hb.size h.ps,h.ne⟩
def OI(w:World)(v:TreeV)(t:Tr)(e:Ending)(w':World):Prop:=
 ((zb t).2.2=0/\Resolved t/\∃p:ProgV,e=.returned (.tuple #[p.ptr,intV 0,intV 0])/\p.v=v/\OpenW w p t (eC t t.nodes.length) (zb t).1 w') \/
 ((zb t).2.2≠0/\e=.returned (.tuple #[.pointer none,intV (zb t).2.1,intV (zb t).2.2])/\Below w.heap.size w w')
theorem iE(v:TreeV)(t:Tr)(w:World)(bd:Bd t)(rg:Rg t)(hg:GV w)(h:IsTree w v t) :
 Calls prog 37 #[v.val t] w (OI w v t):=by
 have hu:=bd.n;have hp:GV (boxT w v t):=hg.mono boxT_below nlr;have Hg:=Hd (LG v t (boxT w v t) bd rg hp (h.mono boxT_below nlr));have HT:=Hd h;have BD:=Hd bd;clear h hg hp bd rg;by_cases hc:aD t=0
 .have HC:=Hd hc
  have WFF:=Hd (iV BD.out hc);have GG:=Hd (pY (fE hc));have HU:=Hd (jX GG.out);clear hc;obtain⟨na,nc,ia,ic⟩:=v;unfold TreeV.val;go_enter func37,ntmps37
  go_wp2_with (go_at_call 57;refine Hg.o.mono ?_;rintro e w2 (⟨-,p,rfl,hr,hj⟩|⟨hf,-⟩);rotate_left;(exact absurd HC.o hf);obtain⟨s,v',aa,ac,da,dc⟩:=p;simp only at hr;subst hr;have ht:=hj.prog.c0;simp only at ht;have Hm:=Hd hj;clear hj)
  have hb:∀i,i<t.nodes.length->nR t (t.nd i).kids:=fun i hi x hx=>by
   rw[t.nd_at hi]at hx;have:=WFF.out.kid i hi x hx;omega
  have He:=Hd hb;clear hb
  go_loopw [2,21] (fun t2 t21 wr=>∃k:Nat,t2=.pointer (some ⟨s,0,none⟩)/\t21=.int .i64 k/\k<=t.nodes.length/\Hid (∀m:Nat,m<k->bV t m=0)/\Hid (OpenW (boxT w ⟨na,nc,ia,ic⟩ t) ⟨s,⟨na,nc,ia,ic⟩,aa,ac,da,dc⟩ t (eC t t.nodes.length) (zg t k) wr)) (fun _ t21 _=>t.nodes.length-(intOf t21).toNat)
  case atStart=>exact⟨0,rfl,rfl,Nat.zero_le _,Hd (fun m h=>by omega),Hm⟩
  case round=>
   obtain⟨k,rfl,rfl,hk,Hb,Hh⟩:=hrel;by_cases hlt:k<t.nodes.length
   .have he:iW t (eC t t.nodes.length) (zg t k) k=bV t k:=MF WFF.out GG.out HU.o hlt Hb.o
    have Hf:Hid (Calls prog 58 #[.pointer (some ⟨s,0,none⟩),intV k] wr (BF (boxT w ⟨na,nc,ia,ic⟩ t) ⟨s,⟨na,nc,ia,ic⟩,aa,ac,da,dc⟩ t (eC t t.nodes.length) (zg t k) k)):=Lib.hid
     (DJ _ ⟨s,⟨na,nc,ia,ic⟩,aa,ac,da,dc⟩ t _ _ k wr WFF.out He.o WFF.out.item hlt HU.o Hh.o)
    obtain⟨x,hx⟩:∃x,bV t k=x:=⟨_,rfl⟩
    rw[hx]at he;have Hc:=Hd he;have HX:=Hd hx;clear he hx;cases hx0:(x != 0)with
    | true=>
      have ha:=qW HC.o hlt Hb.o (by rw[HX.o];simpa using hx0);rw[HX.o]at ha;have Ha:=Hd ha;clear ha
      go_wp2_with (go_at_call 58;refine Hf.o.mono ?_;rintro e w3 ⟨rfl,hn,-⟩;rw[Hc.o];have Hj:=Hd (boxT_below.trans (hn.mono (by simp)):Below w.heap.size w w3);clear hn)
      go_ret3
      refine .inr ⟨by rw[Ha.o];simpa using hx0,by rw[Ha.o];rfl,Hj.o⟩
    | false=>
      have hs:x=0:=by simpa using hx0
      have ho:bV t k=0:=by rw[HX.o,hs]
      have hd:IF t (zg t k) k=zg t (k+1):=by
       unfold IF
       cases hnk:bD (t.nd k).kind with
       |false=>rw[if_neg Bool.false_ne_true,IG hnk]
       |true=>rw[if_pos rfl,ED hlt hnk,qL WFF.out GG.out hlt (JG GG.out Hb.o) hnk]
      have HD:=Hd hd;have Hk:=Hd ho;subst hs;clear hd ho
      go_wp2_with (go_at_call 58;refine Hf.o.mono ?_;rintro e w3 ⟨rfl,-,hq⟩;have hh:=hq Hc.o;rw[HD.o]at hh;rw[Hc.o];have Hl:=Hd hh;clear hq hh)
      go_roundw
      case rel=>exact⟨k+1,rfl,by go_num,by omega,Hd (fun m hm=>by
       by_cases e:m=k
       .rw[e];exact Hk.o
       .exact Hb.o m (by omega)),Hl⟩
      case measure=>simp[intOf];omega
   .obtain rfl:k=t.nodes.length:=by omega
    have Ha:=Hd (cR HC.o Hb.o);go_wp2
    go_ret3
    refine .inl ⟨by rw[Ha.o],⟨HC.o,Hb.o⟩,⟨s,⟨na,nc,ia,ic⟩,aa,ac,da,dc⟩,rfl,rfl,?_⟩;rw[Ha.o];exact Hh.o.base HT.o boxT_below
 .have ha:zb t=([],0,aD t):=by unfold zb;rw[if_pos (by simpa using hc)]
  obtain⟨E,hE⟩:∃E,aD t=E:=⟨_,rfl⟩
  have hf:(E != 0)=true:=by rw[<-hE];simpa using hc
  rw[hE]at ha;have HE:=Hd hE;have HC:=Hd hc;have Ha:=Hd ha;clear ha hE hc;obtain⟨na,nc,ia,ic⟩:=v;unfold TreeV.val;go_enter func37,ntmps37
  go_wp2_with (go_at_call 57;refine Hg.o.mono ?_;rintro e w2 (⟨h0,-⟩|⟨-,rfl,hl⟩);(exact absurd h0 HC.o);rw[HE.o];have Hi:=Hd (boxT_below.trans (hl.mono (by simp)):Below w.heap.size w w2);clear hl)
  go_ret3
  refine .inr ⟨by rw[Ha.o];simpa using hf,by rw[Ha.o];rfl,Hi.o⟩
theorem sK{w w':World}{p:List Int×Int×Int}{g:Nat}{a:Option Addr}{c:Nat}{A:Act}(hc:w'.cell? ⟨g,0,none⟩=some (.slice a p.1.length c))(h2:A.tmps.getD 2 undef=.pointer (some ⟨g,0,none⟩))
 (h3:A.tmps.getD 3 undef=intV p.2.1)(h4:A.tmps.getD 4 undef=intV p.2.2)(hd:A.defers=[])(ho:w'.ownsRow w.heap.size 3 1 (.slice a p.1.length c) p.1.length (zq p.1))(hb:Below w.heap.size w w') :
 bodyPost prog Tryz.f22 (BG w p) Exit.ret A w':=by
 refine bodyPost_ret (v:=.tuple #[.agg #[.slice a p.1.length c],intV p.2.1,intV p.2.2]) ?_ hd ⟨a,c,rfl,ho,hb⟩;simp only[Array.getD_eq_getD_getElem?]at h2 h3 h4;simp[results,results22,go_sem,loadVar,h2,h3,h4,hc,Result.andThen]
theorem JD(W:World){k:Nat}(hk:W.heap.size=k):(W.alloc (.cells #[.slice none 0 0] 62)).cell? ⟨k,0,none⟩=some (.slice none 0 0)/\(W.alloc (.cells #[.slice none 0 0] 62)).frozen? ⟨k,0,none⟩=false:=by
 subst hk;exact⟨by simp,by simp⟩
theorem jC(v:TreeV)(t:Tr)(w:World)(bd:Bd t)(rg:Rg t)(hg:GV w)(h:IsTree w v t) :
 Calls prog 22 #[v.val t] w (BG w (zb t)):=by
 have hc:Below w.heap.size w ((boxT w v t).alloc (.cells #[.slice none 0 0] 62)):=boxT_below.alloc (by simp) _;have HC:=Hd (iE v t _ bd rg (hg.mono hc nlr) (h.mono hc nlr));have hb:=JD (boxT w v t) (k:=w.heap.size+1) (by simp);have Ha:=Hd hb;have He:=Hd hc;have hn:((boxT w v t).alloc (.cells #[.slice none 0 0] 62)).heap.size=w.heap.size+1+1:=by simp
 have Hb:=Hd hn;clear h hg bd rg hc hb hn;obtain⟨na,nc,ia,ic⟩:=v;by_cases hz:(zb t).2.2=0
 .have HZ:=Hd hz
  clear hz;unfold TreeV.val;go_enter func22,ntmps22
  go_wp2_with (go_at_call 37;refine HC.o.mono ?_;rintro e w2 (⟨-,hi,p,rfl,hm,ha⟩|⟨hh,-⟩);rotate_left;(exact absurd HZ.o hh);have Hi:=Hd (cR hi.check hi.err);clear hi;obtain⟨s,v',aa,ac,da,dc⟩:=p;simp only at hm;subst hm;have hp:=ha.prog.c3;simp only at hp;have Hh:=Hd ha;have hf:=(ha.below.cell (p:=⟨w.heap.size+1,0,none⟩) (by rw[Hb.o];show w.heap.size+1<_;omega)).trans Ha.o.1;have hq:=(ha.below.frozen (p:=⟨w.heap.size+1,0,none⟩) (by rw[Hb.o];show w.heap.size+1<_;omega)).trans Ha.o.2;clear ha)
  have ha:=Hh.o;rw[Hi.o]at ha|-;have hl:(zg t t.nodes.length).length=t.nodes.length:=zP _ _
  exact sK (w:=w) (p:=(zg t t.nodes.length,0,0)) (g:=w.heap.size+1) (a:=da) (c:=dc) (by rw[hl];exact World.cell?_setCell_same _ _ _ hf) rfl rfl rfl rfl (by
   rw[hl]
   exact cA (ownsRow_setCell_below ha.own (by simp) _) (by simp;omega)) ((He.o.trans (ha.below.mono (by simp;omega))).setCell (by simp) _)
 .have hh:((zb t).2.2 != 0)=true:=by simpa using hz
  obtain⟨A1,hj⟩:∃A1,(zb t).2.1=A1:=⟨_,rfl⟩
  obtain⟨E1,he⟩:∃E1,(zb t).2.2=E1:=⟨_,rfl⟩
  rw[he]at hh;have Hc:=Hd hj;have Hf:=Hd he;have HZ:=Hd hz;clear hj he hz;unfold TreeV.val;go_enter func22,ntmps22
  go_wp2_with (go_at_call 37;refine HC.o.mono ?_;rintro e w2 (⟨h0,-⟩|⟨-,rfl,hd⟩);(exact absurd h0 HZ.o);rw[Hc.o,Hf.o];have hk:Below w.heap.size w w2:=He.o.trans (hd.mono (by simp;omega));have hf:=(hd.cell (p:=⟨w.heap.size+1,0,none⟩) (by rw[Hb.o];show w.heap.size+1<_;omega)).trans Ha.o.1;have hq:=(hd.frozen (p:=⟨w.heap.size+1,0,none⟩) (by rw[Hb.o];show w.heap.size+1<_;omega)).trans Ha.o.2;have Hg:=Hd hk;clear hd hk)
  obtain⟨L,hL⟩:∃L,zb t=(L,A1,E1):=⟨(zb t).1,by rw[<-Hc.o,<-Hf.o]⟩
  have ho:L=[]:=by
   have h1:(zb t).2.2≠0:=HZ.o;have h2:(zb t).1=L:=by rw[hL]
   rw[<-h2];revert h1;unfold zb;split
   .intro _;rfl
   .split
    .intro _;rfl
    .intro h;exact absurd rfl h
  rw[hL,ho];exact sK (w:=w) (p:=([],A1,E1)) (g:=w.heap.size+1) (a:=none) (c:=0) (World.cell?_setCell_same _ _ _ hf) rfl rfl rfl rfl ⟨rfl,.inl ⟨rfl,rfl⟩⟩ (Hg.o.setCell (by simp) _)
end
end Go.Proofs.YtcdkdiedphhdhaaGreatDoor
