/- Part of a proof. -/
import Derived.Test.YtcdkdiedphhdhaaGreatDoorK38
import Derived.Test.YtcdkdiedphhdhaaGreatDoorK39
import Derived.Test.YtcdkdiedphhdhaaGreatDoorRK04
set_option maxRecDepth 100000
set_option maxHeartbeats 8000000
set_option linter.unusedVariables false
set_option linter.unusedSimpArgs false
open Go.Proofs.Tryz
namespace Go.Proofs.YtcdkdiedphhdhaaGreatDoor
section
open Go Go.RowKit
structure RenI (w2 w3 W:World) (B3:Nat) (t:Tr) (na ia:Option Addr) (nc ic:Nat) (ks:List (Option Addr×Nat)) (L:List Int) (a9:Option Addr) (c9:Nat) (name:List UInt8) (k:Nat):Prop where
 own:OwnN W B3 na nc (renM t.nodes (fun i=>(L.take k).contains i) name) ks
 list:OwnI W (w3.heap.size+1) a9 c9 L
 g0:W.cell? ⟨w3.heap.size,0,none⟩=some (.slice na t.nodes.length nc)
 g1:W.cell? ⟨w3.heap.size,1,none⟩=some (.slice ia t.items.length ic)
 items:Ints W ia ic t.items
 below:Below w2.heap.size w2 W
theorem RenI.step{w2 w3 W:World}{B3:Nat}{t:Tr}{ia:Option Addr}{nc ic nb:Nat}{ks:List (Option Addr×Nat)}{L:List Int}{a9:Option Addr}{c9:Nat}{name:List UInt8}{k m:Nat}(h:RenI w2 w3 W B3 t (some ⟨nb,0,none⟩) ia nc ic ks L a9 c9 name k)
 (hk:k<L.length)(hm:L[k]=(m:Int))(hmn:m<t.nodes.length)(hne:∀x,ia=some x->x.block≠nb)(hn3:nb<w3.heap.size)(h2:w2.heap.size<=nb) :
 RenI w2 w3 (W.setCell ⟨nb,m*5+1,none⟩ (strV name)) B3 t (some ⟨nb,0,none⟩) ia nc ic ks L a9 c9 name (k+1):=by
 refine⟨?_,ownsRow_setCell_below h.list (by simp only;omega) _,(World.cell?_setCell_other _ _ _ _ (by intro e;have:=congrArg Addr.block e;simp only at this;omega)).trans h.g0,(World.cell?_setCell_other _ _ _ _ (by intro e;have:=congrArg Addr.block e;simp only at this;omega)).trans h.g1,
  bA h.items _ fun _ x e=>hne x e,h.below.setCell h2 _⟩
 rw[VT t.nodes L name hk hm hmn];exact h.own.setText (by rw[SV];exact hmn) name
theorem RenI.tree{w2 w3 W:World}{B3:Nat}{t:Tr}{na ia:Option Addr}{nc ic:Nat}{ks:List (Option Addr×Nat)}{decl:List Int}{node:Int}{a9:Option Addr}{c9:Nat}{name:List UInt8}(h:RenI w2 w3 W B3 t na ia nc ic ks (uses decl node++[node]) a9 c9 name (uses decl node++[node]).length)(hl:decl.length=t.nodes.length) :
 OwnN W B3 na nc (renT t decl node name).nodes ks:=by
 have:=h.own;rw[WA hl]at this;exact this
theorem UF(v:TreeV)(t:Tr)(node:Int)(name:List UInt8)(w:World)(bd:Bd t)(rg:Rg t)(hg:GV w)(hnm:name.length<=1000000000)(h:IsTree w v t) :
 Calls prog 16 #[v.val t,intV node,strV name] w (TN w (renU t node name)):=by
 have hmo:prog.follows .mixedOrders=true:=by kernel_rfl
 have hG:Below w.heap.size w ((boxT w v t).alloc (.cells #[.slice none 0 0,.slice none 0 0] 25)):=boxT_below.alloc (by simp) _;have HC:=Hd (TW v t node _ bd rg (hg.mono hG nlr) (h.mono hG nlr))
 have hw1:((boxT w v t).alloc (.cells #[.slice none 0 0,.slice none 0 0] 25)).heap[w.heap.size+1]?=some (.cells #[.slice none 0 0,.slice none 0 0] 25):=by
  have:=World.alloc_heap_new (boxT w v t) (.cells #[.slice none 0 0,.slice none 0 0] 25);rwa[show(boxT w v t).heap.size=w.heap.size+1 by simp]at this
 have hw0:∀X:World,Below (w.heap.size+1+1) ((boxT w v t).alloc (.cells #[.slice none 0 0,.slice none 0 0] 25)) X->X.cell? ⟨w.heap.size,0,none⟩=some (.slice v.na t.nodes.length v.nc)/\X.cell? ⟨w.heap.size,1,none⟩=some (.slice v.ia t.items.length v.ic):=fun X hb=>
  ⟨(hb.cell (p:=⟨w.heap.size,0,none⟩) (by show w.heap.size<_;omega)).trans (by simp),(hb.cell (p:=⟨w.heap.size,1,none⟩) (by show w.heap.size<_;omega)).trans (by simp)⟩
 have hsz:((boxT w v t).alloc (.cells #[.slice none 0 0,.slice none 0 0] 25)).heap.size=w.heap.size+1+1:=by simp
 have Hh:Hid (∀X,Below (w.heap.size+1+1) ((boxT w v t).alloc (.cells #[.slice none 0 0,.slice none 0 0] 25)) X->X.heap[w.heap.size+1]?=some (.cells #[.slice none 0 0,.slice none 0 0] 25)):=Hd fun X hb=>(hb.block (w.heap.size+1) (by omega)).trans hw1;have BD:=Hd bd;have RG:=Hd rg;have HG:=Hd hg;have HT:=Hd h;have Hl:=Hd hG;have Hb:=Hd hsz;have HQ:=Hd hw0;have hn3:=bd.n;have hi3:=bd.i;clear h hg bd rg hG hw1 hsz hw0;obtain⟨na,nc,ia,ic⟩:=v;by_cases hz:zk t node (zn t)=0
 .have HZ:=Hd hz
  cases hb:zG name with
  | false=>
    have Hv:=Hd hb;have HU:Hid (renU t node name=.error 4):=Hd (by unfold renU;rw[if_pos hz,if_neg (by rw[hb];exact Bool.false_ne_true)]);rw[HU.o];clear hz hb;unfold TreeV.val;go_enter func16,ntmps16
    go_wp2_with (first
     | (go_at_call 32;refine HC.o.mono ?_;rintro e w2 (⟨-,-,-,-,-,p,rfl,-,hc⟩|⟨hn,-⟩);rotate_left;(exact absurd HZ.o hn);have hs:Below (w.heap.size+1+1) _ w2:=(by have:=hc.below;rwa[Hb.o]at this);have Hn:=Hd hs;have Hc:=Hd (Hl.o.trans (hs.mono (by omega)):Below w.heap.size w w2);clear hc hs)
     | (go_at_call 35;refine(bO name _ hnm (HG.o.mono Hc.o nlr)).mono ?_;rw[Hv.o];rintro e w3 ⟨rfl,hl⟩;have hd:=Hn.o.trans (hl.mono (by have:=Hn.o.size;rw[Hb.o]at this;exact this));have hf:=Hh.o _ hd;have r0:=za (i:=0) (v:=.slice none 0 0) hf rfl;have r1:=za (i:=1) (v:=.slice none 0 0) hf rfl;have rf0:=zr (i:=0) hf;have rf1:=zr (i:=1) hf;have Ha:=Hd (Hc.o.trans (hl.mono Hc.o.size));clear hl hd hf))
    exact VV r0 r1 rfl rfl rfl ⟨rfl,(Ha.o.setCell (by simp) _).setCell (by simp) _⟩
  | true=>
    have Hv:=Hd hb;have HU:Hid (renU t node name=renO (SY t (zg t t.nodes.length) node name)):=Hd (by unfold renU;rw[if_pos hz,if_pos hb]);clear hz hb;unfold TreeV.val;go_enter func16,ntmps16
    go_wp2_with (first
     | (go_at_call 32;refine HC.o.mono ?_;rintro e w2 (⟨-,-,hn0,hn1,-,p,rfl,hF,hc⟩|⟨hn,-⟩);rotate_left;(exact absurd HZ.o hn);obtain⟨s,v',aa,ac,da,dc⟩:=p;simp only at hF;subst hF;have Hu:=Hd (And.intro hn0 hn1);have hs:Below (w.heap.size+1+1) _ w2:=(by have:=hc.below;rwa[Hb.o]at this);have Hn:=Hd hs;have Hc:=Hd (Hl.o.trans (hs.mono (by omega)):Below w.heap.size w w2);have HO:=Hd hc;clear hc hs hn0 hn1)
     | (go_at_call 35;refine(bO name _ hnm (HG.o.mono Hc.o nlr)).mono ?_;rw[Hv.o];rintro e w3 ⟨rfl,hl⟩;have hd:=Hn.o.trans (hl.mono (by have:=Hn.o.size;rw[Hb.o]at this;exact this));obtain⟨b0,b1⟩:=HQ.o _ hd;have Hf:=Hd hd;have Ha:=Hd (Hc.o.trans (hl.mono Hc.o.size));have Hq:=Hd (HO.o.grow hl);clear hl hd)
     | (go_at_call 36;refine(UM ⟨na,nc,ia,ic⟩ t _ BD.out (HT.o.mono Ha.o nlr)).mono ?_;rintro e w4 ⟨⟨na3,nc3,ia3,ic3⟩,B3,ks,rfl,hV,hY,hX,hD,hC,hZ⟩;unfold TreeV.val;have Hm:=Hd hZ;have Hy:=Hd hY;have HD:=Hd hX;have Hx:=Hd hD;clear hZ hY hX hD)
     | (go_at_call 34;have h3:=Hm.o.alloc Hm.o.size (.cells #[.slice na3 t.nodes.length nc3,.slice ia3 t.items.length ic3] 25);have hE:=Hq.o.grow h3;refine(UG _ t _ _ node _ BD.out hE.prog).mono ?_;rintro e w5 ⟨a5,c5,rfl,ho,hw⟩;have HF:=Hd ho;have Hk:=Hd hw;clear h3 hE ho hw)
     | (at_builtin;have hul:(uses (zg t t.nodes.length) node).length<=t.nodes.length:=(by have:=WS (zg t t.nodes.length) node;rwa[zP]at this);refine iJ (news:=[node]) rfl (.tmp 36) (.tmp 38) rfl rfl (HF.o.alloc _) rfl (cN _ _ _) (by omega) (by have:=Hk.o.size;simp at this|-;omega) ?_;intro a9 c9 w9 l9 HE hle9 hp ha))
    have hh:Below w4.heap.size w4 w9:=ha _ _ (by simp) ((((Below.refl _ w4).alloc nlr _).trans (Hk.o.mono (by simp))).alloc (by have:=Hk.o.size;simp at this;omega) _);have hN:Below (w4.heap.size+1) (boxW w4 na3 t.nodes.length nc3 ia3 t.items.length ic3) w9:=ha _ _ (by simp) ((Hk.o.mono (by simp)).alloc (by have:=Hk.o.size;simpa using this) _);obtain⟨n0,n1,-⟩:=UT w4 na3 t.nodes.length nc3 ia3 t.items.length ic3 (k:=w4.heap.size) rfl;have HM:Hid (RenI w3 w4 w9 B3 t na3 ia3 nc3 ic3 ks l9 a9 c9 name 0):=Hd ⟨by rw[VU];exact Hy.o.below hh,cA hp (by simp),(hN.cell (p:=⟨w4.heap.size,0,none⟩) (by simp)).trans n0,(hN.cell (p:=⟨w4.heap.size,1,none⟩) (by simp)).trans n1,Row.mono HD.o hh nlr,Hm.o.trans (hh.mono Hm.o.size)⟩
    have h8:∀x∈l9,0<=x/\x<(t.nodes.length:Int):=by
     rw[HE.o];intro x hx;rcases List.mem_append.1 hx with hx|hx
     .have:=UX hx
      rw[zP]at this;exact this
     rw[List.mem_singleton.1 hx];exact Hu.o
    have HN:=Hd h8;have hz3:=Hm.o.size;have Hw:=Hd (show 0<t.nodes.length->∃nb,na3=some ⟨nb,0,none⟩/\B3<=nb/\nb<w4.heap.size from fun h0=>by obtain⟨nb,e,h1,h2,-⟩:=Hy.o.at h0;exact⟨nb,e,h1,h2⟩);have hV:w3.heap.size<=B3:=hV;have Hp:Hid (∀x,ia3=some x->w3.heap.size<=x.block):=Hd hC;clear hh hN n0 n1 h8 hp ha b0 b1 Hy HD HF Hk HC hC
    go_loopw [41] (fun t41 wr=>∃k:Nat,t41=.int .i64 k/\k<=l9.length/\Hid (RenI w3 w4 wr B3 t na3 ia3 nc3 ic3 ks l9 a9 c9 name k)) (fun t41 _=>l9.length-(intOf t41).toNat)
    case atStart=>exact⟨0,rfl,Nat.zero_le _,HM⟩
    case round=>
     obtain⟨k,rfl,hk,HI⟩:=hrel;have y0:=HI.o.g0;have y1:=HI.o.g1;by_cases hlt:k<l9.length
     .obtain⟨bl,ol,ela,hbl,hcl⟩:=(dX HI.o.list).at hlt
      obtain⟨h9,hm1⟩:=HN.o _ (List.getElem_mem hlt);obtain⟨m,hm⟩:=Int.eq_ofNat_of_zero_le h9;rw[hm]at hm1 hcl;have hmn:m<t.nodes.length:=by omega
      obtain⟨nb,ena,hnb1,hS⟩:=Hw.o (by omega);subst ela;subst ena;obtain⟨nb',en,-,-,h7⟩:=HI.o.own.at (by rw[SV];omega);obtain rfl:nb=nb':=by simpa using en
      have h7:=h7 (m*5+1)
      obtain⟨x1,hx1⟩:∃x1,wr.cell? ⟨nb,m*5+1,none⟩=some x1:=by
       obtain⟨b',o',ka',kc',e',_,_,c1',_⟩:=HI.o.own.nodes.at (i:=m) (by rw[SV];exact hmn);simp only[Option.some.injEq,Addr.mk.injEq,and_true]at e';obtain⟨rfl,rfl⟩:=e';exact⟨_,by simpa using c1'⟩
      have HP:=Hd (HI.o.step hlt hm hmn (fun x e=>Hx.o x _ e rfl) hS (by omega));clear hm h9;go_wp2
      go_roundw
      case rel=>exact⟨k+1,by go_num,by omega,HP⟩
      case measure=>simp[intOf];omega
     obtain rfl:k=l9.length:=by omega
     have hI:=HI.o;rw[HE.o]at hI;have HH:=Hd (hI.tree (zP t t.nodes.length));have bdT:=WP (l:=zg t t.nodes.length) (node:=node) BD.out hnm;have hM:IsTree wr ⟨na3,nc3,ia3,ic3⟩ (renT t (zg t t.nodes.length) node name):=⟨HH.o.nodes,hI.items⟩
     have hR:=iE ⟨na3,nc3,ia3,ic3⟩ (renT t (zg t t.nodes.length) node name) wr bdT (WQ RG.out) (HG.o.mono (Ha.o.trans (hI.below.mono Ha.o.size)) nlr) hM;unfold TreeV.val at hR;rw[SR]at hR;have hR:Calls prog 37 #[.agg #[.slice na3 t.nodes.length nc3,.slice ia3 t.items.length ic3]] wr (OI wr ⟨na3,nc3,ia3,ic3⟩ (renT t (zg t t.nodes.length) node name)):=hR;have HR:=Hd hR;have HS:=Hd hM;have Hj:=Hd hI;have hy:Below (w.heap.size+1+1) ((boxT w ⟨na,nc,ia,ic⟩ t).alloc (.cells #[.slice none 0 0,.slice none 0 0] 25)) wr:=Hf.o.trans (hI.below.mono (by have:=Hf.o.size;rw[Hb.o]at this;exact this));have Hg:=Hd hy;clear hR hM bdT hI hy;by_cases he0:(zb (renT t (zg t t.nodes.length) node name)).2.2=0
     .have Hs:=Hd he0
      have Hi:Hid (SY t (zg t t.nodes.length) node name=if (zb (renT t (zg t t.nodes.length) node name)).1==zg t t.nodes.length then some (renT t (zg t t.nodes.length) node name)else none):=Hd (by
       unfold SY;rw[he0]
       cases (zb (renT t (zg t t.nodes.length) node name)).1==zg t t.nodes.length<;>rfl)
      clear he0;obtain⟨D1,hL⟩:∃D1,(zb (renT t (zg t t.nodes.length) node name)).1=D1:=⟨_,rfl⟩
      rw[hL]at Hi;have HL:=Hd hL;clear hL;obtain⟨bq,hO⟩:∃bq,(D1==zg t t.nodes.length)=bq:=⟨_,rfl⟩
      rw[hO]at Hi;have HK:=Hd hO;clear hO
      go_wp2_with (go_at_call 37;refine HR.o.mono ?_;rintro e w6 (⟨-,-,p6,rfl,hF,hc⟩|⟨h0,-⟩);rotate_left;(exact absurd Hs.o h0);obtain⟨s6,v6,aa6,ac6,da6,dc6⟩:=p6;simp only at hF;subst hF;rw[HL.o]at hc;have hr:=hc.below;have hj:=Hq.o.grow (Hj.o.below.trans (hr.mono Hj.o.below.size));have h4:=hj.prog.c3;have hv:=hc.prog.c3;rw[SR]at hv;have hP:=hc.prog.decl;rw[SR]at hP;have hQ:=hc.prog.declLen;rw[SR]at hQ;have Hr:=Hd hQ;have HB:Hid (∀W,Below w6.heap.size w6 W->Calls prog 38 #[.slice da t.nodes.length dc,.slice da6 t.nodes.length dc6] W (zD W bq)):=Hd (fun W hW=>by
       have h1:Ints W da dc (zg t t.nodes.length):=by rw[Ints,zP];exact hj.prog.decl.mono hW nlr
       have h2:Ints W da6 dc6 D1:=by rw[Ints,Hr.o];exact hP.mono hW nlr
       have:=VG h1 h2 (by rw[zP];omega) (by rw[Hr.o];omega);rw[zP,Hr.o,show(zg t t.nodes.length==D1)=bq from BEq.comm.trans HK.o]at this
       exact this);have hs6:=hj.prog.lt;have hT:=hc.prog.lt;simp only at hs6 hT h4 hv;have he:=Hg.o.trans (hr.mono (by have:=Hg.o.size;rw[Hb.o]at this;exact this));have Ho:=Hd he;have Hz:=Hd hr;clear hc hj hr hP hQ he)
      refine N.region_JTm 13 hmo (by kernel_rfl) (by kernel_rfl) rfl (by kernel_rfl) (by kernel_rfl) (fun Wz=>Below (w6).heap.size (w6) Wz) (brf.drew) ?_
      iterate 11 (refine N.WalkT.cons ?_ (N.StepP.pure rfl ?_) ?_;rotate_left;(intro W hJ;obtain⟨h5,h6⟩:=bcell hJ;go_simp;rfl);simp only[N.pz])
      refine N.WalkT.cons (.bool bq) (N.StepP.call (f:=38) (args:=#[.slice da t.nodes.length dc,.slice da6 t.nodes.length dc6]) rfl ?hG1_11 ?cG1_11) ?rG1_11;case hG1_11=>intro W hJ;obtain⟨h5,h6⟩:=bcell hJ;go_simp;try rfl
      case cG1_11=>intro W hJ;(refine(HB.o W hJ).mono ?_;rintro e w' ⟨rfl,hb⟩;exact⟨rfl,hJ.trans (hb.mono hJ.size)⟩)
      simp only[N.pz];refine N.WalkT.cons ?_ (N.StepP.pure rfl ?_) ?_;rotate_left;(intro W hJ;obtain⟨h5,h6⟩:=bcell hJ;go_simp;rfl);simp only[N.pz];refine N.WalkT.nil fun W hJ=>?_;have ht:=Ho.o.trans (hJ.mono (by have:=Ho.o.size;rw[Hb.o]at this;exact this));have hB:=Hh.o _ ht;have r0:=za (i:=0) (v:=.slice none 0 0) hB rfl;have r1:=za (i:=1) (v:=.slice none 0 0) hB rfl;have rf0:=zr (i:=0) hB;have rf1:=zr (i:=1) hB;have He:Hid (Below w.heap.size w W):=Hd (Hl.o.trans (ht.mono (by omega)));have hK:Below wr.heap.size wr W:=Hz.o.trans (hJ.mono Hz.o.size);have yW0:=(hK.cell (p:=⟨w4.heap.size,0,none⟩) (World.block_lt_of_cell? wr _ Hj.o.g0)).trans Hj.o.g0;have yW1:=(hK.cell (p:=⟨w4.heap.size,1,none⟩) (World.block_lt_of_cell? wr _ Hj.o.g1)).trans Hj.o.g1;have HA:=Hd hK;clear ht hB hK hJ HB h4 hv
      cases bq with
      | false=>
        rw[if_neg Bool.false_ne_true]at Hi;go_wp2;rw[HU.o,Hi.o];exact UC (SW r0 r1 _ _).1 (SW r0 r1 _ _).2 rfl rfl rfl ⟨rfl,(He.o.setCell (by simp) _).setCell (by simp) _⟩
      | true=>
        rw[if_pos rfl]at Hi;go_wp2;rw[HU.o,Hi.o];refine UC (SW r0 r1 _ _).1 (SW r0 r1 _ _).2 rfl rfl rfl ⟨⟨na3,nc3,ia3,ic3⟩,?_,?_,(He.o.setCell (by simp) _).setCell (by simp) _⟩
        .unfold TreeV.val
         rw[SR];rfl
        have hwB:w.heap.size+1<B3:=by have:=Hf.o.size;rw[Hb.o]at this;omega
        refine⟨(((HH.o.below HA.o).setCell (p:=⟨w.heap.size+1,0,none⟩) hwB _).setCell (p:=⟨w.heap.size+1,1,none⟩) hwB _).nodes,?_⟩;have hi:Ints W ia3 ic3 t.items:=Row.mono Hj.o.items HA.o nlr;have hw3:w.heap.size+1<w3.heap.size:=by have:=Hf.o.size;rw[Hb.o]at this;omega
        exact bA (bA hi _ fun _ x e=>by have:=Hp.o x e;simp only;omega) _ fun _ x e=>by have:=Hp.o x e;simp only;omega
     have Hs:=Hd he0
     have hn:((zb (renT t (zg t t.nodes.length) node name)).2.2 != 0)=true:=by simpa using he0
     have Hi:Hid (SY t (zg t t.nodes.length) node name=none):=Hd (by unfold SY;rw[hn];rfl);obtain⟨A1,hU⟩:∃A1,(zb (renT t (zg t t.nodes.length) node name)).2.1=A1:=⟨_,rfl⟩
     obtain⟨E1,hq⟩:∃E1,(zb (renT t (zg t t.nodes.length) node name)).2.2=E1:=⟨_,rfl⟩
     have HJ:=Hd hU;have Ht:=Hd hq;rw[hq]at hn;clear he0 hU hq
     go_wp2_with (go_at_call 37;refine HR.o.mono ?_;rintro e w6 (⟨h0,-⟩|⟨-,rfl,hr⟩);(exact absurd h0 Hs.o);rw[HJ.o,Ht.o];have he:=Hg.o.trans (hr.mono (by have:=Hg.o.size;rw[Hb.o]at this;exact this));have hA:=Hh.o _ he;have r0:=za (i:=0) (v:=.slice none 0 0) hA rfl;have r1:=za (i:=1) (v:=.slice none 0 0) hA rfl;have rf0:=zr (i:=0) hA;have rf1:=zr (i:=1) hA;have He:=Hd (Hl.o.trans (he.mono (by omega)):Below w.heap.size w w6);clear hr he hA)
     go_region;go_wp2;rw[HU.o,Hi.o];exact UC (SW r0 r1 _ _).1 (SW r0 r1 _ _).2 rfl rfl rfl ⟨rfl,((He.o.setCell (by simp) _).setCell (by simp) _).drew⟩
 have hn:(zk t node (zn t) != 0)=true:=by simpa using hz
 have hu:renU t node name=.error (zk t node (zn t)):=by unfold renU;rw[if_neg hz]
 obtain⟨E1,hq⟩:∃E1,zk t node (zn t)=E1:=⟨_,rfl⟩
 rw[hq]at hn hu;rw[hu];have Ht:=Hd hq;have HZ:=Hd hz;clear hq hz hu;unfold TreeV.val;go_enter func16,ntmps16
 go_wp2_with (go_at_call 32;refine HC.o.mono ?_;rintro e w2 (⟨h0,-⟩|⟨-,rfl,hH⟩);(exact absurd h0 HZ.o);rw[Ht.o];rw[Hb.o]at hH;have hf:=Hh.o _ hH;have r0:=za (i:=0) (v:=.slice none 0 0) hf rfl;have r1:=za (i:=1) (v:=.slice none 0 0) hf rfl;have rf0:=zr (i:=0) hf;have rf1:=zr (i:=1) hf;have Hc:=Hd (Hl.o.trans (hH.mono (by omega)):Below w.heap.size w w2);clear hH hf)
 exact VV r0 r1 rfl rfl rfl ⟨rfl,(Hc.o.setCell (by simp) _).setCell (by simp) _⟩
end
section
open Go Go.RowKit
theorem VW{p:Int->Bool}{x:Int}:∀{l:List Int},x∈l.takeWhile p->p x=true
 | [],h=>by cases h
 | y::l,h=>by
   rw[List.takeWhile_cons]at h;split at h
   .rename_i hy
    rcases List.mem_cons.1 h with rfl|h
    .exact hy
    exact VW h
   cases h
theorem SU{t:Tr}{x:Int}(h:zn t x=true):bD (t.nd x).kind=false:=by
 unfold zn tB at h;unfold bD;generalize (t.nd x).kind=k at h|-;simp only[Bool.or_eq_true,Bool.and_eq_true,beq_iff_eq]at h;rcases h with(((((rfl|rfl) | rfl) | rfl) | rfl) | rfl) | ⟨rfl,_⟩<;>rfl
theorem UA{t:Tr}{x:Int}(h:zn t x=true):eQ (t.nd x).kind=true:=by
 unfold zn tB at h;unfold eQ;generalize (t.nd x).kind=k at h|-;simp only[Bool.or_eq_true,Bool.and_eq_true,beq_iff_eq]at h;rcases h with(((((rfl|rfl) | rfl) | rfl) | rfl) | rfl) | ⟨rfl,_⟩<;>rfl
theorem VJ{k:Int}(h:bD k=true):eQ k=true:=by
 unfold bD at h;unfold eQ;simp only[Bool.or_eq_true,beq_iff_eq]at h;rcases h with(((rfl|rfl) | rfl) | rfl) | rfl<;>rfl
structure Renamed (t t':Tr) (d:Nat) (new:List UInt8):Prop where
 form:SameForm t t'
 bd:Bd t
 res:(zb t).2.2=0
 lt:d<t.nodes.length
 decl:zn t d=true
 text:∀i:Nat,i<t.nodes.length->(t'.nd i).text=if i=d\/means t i=d then new else (t.nd i).text
 fresh:∀i:Nat,i<t.nodes.length->(t.nd i).text≠new
 name:zG new=true
section
variable {t t' : Tr} {d : Nat} {new : List UInt8} (R : Renamed t t' d new)
include R
theorem Renamed.noName{i:Nat}(hi:i<t.nodes.length)(h:bD (t.nd i).kind=false):(t'.nd i).text=if i=d then new else (t.nd i).text:=by
 rw[R.text i hi,iQ h];simp only[show ¬((-1:Int)=(d:Int)) by omega,or_false]
theorem Renamed.same{x y:Nat}(hx:x<t.nodes.length)(hy:y<t.nodes.length)(h1:bD (t.nd x).kind=false)(h2:bD (t.nd y).kind=false)(hne:x≠y)(h:(t'.nd x).text=(t'.nd y).text):(t.nd x).text=(t.nd y).text:=by
 rw[R.noName hx h1,R.noName hy h2]at h;by_cases e1:x=d
 .rw[if_pos e1,if_neg (by omega)]at h
  exact absurd h.symm (R.fresh y hy)
 rw[if_neg e1]at h
 by_cases e2:y=d
 .rw[if_pos e2]at h
  exact absurd h (R.fresh x hx)
 rw[if_neg e2]at h
 exact h
theorem Renamed.means{i:Nat}(hi:i<t.nodes.length):Go.Proofs.YtcdkdiedphhdhaaGreatDoor.means t' i=Go.Proofs.YtcdkdiedphhdhaaGreatDoor.means t i:=by
 obtain⟨wf,G⟩:=zi R.bd R.res;have F:=R.form
 cases hk:bD (t.nd i).kind with
 |false=>rw[iQ hk,iQ (by rw[F.kind];exact hk)]
 | true=>
   obtain⟨e,he,ho,hn,hg,_,_⟩:=cX R.bd R.res hi hk;have hu:Go.Proofs.YtcdkdiedphhdhaaGreatDoor.means t i ≠ -1:=by omega
   have hd:nearest t i (t.nd i).text=e/\suits (t.nd i).kind (t.nd e).kind=true:=by
    have h2:=he;unfold Go.Proofs.YtcdkdiedphhdhaaGreatDoor.means at h2;rw[if_pos hk]at h2;split at h2
    .omega
    rename_i hc
    simp only[Bool.or_eq_true,decide_eq_true_eq,Bool.not_eq_true',not_or,Bool.not_eq_false]at hc;rw[h2]at hc;exact⟨h2,hc.2⟩
   have ht:i≠d:=by
    rintro rfl;have:=SU R.decl;rw[hk]at this;cases this
   have hb:nearest t' i (t'.nd i).text=e:=by
    have h1:=hd.1;unfold nearest at h1|-;rw[F.sg];cases hf:(sight t i).find? (fun d=>(t.nd d).text==(t.nd i).text)with
    |none=>rw[hf]at h1;simp at h1
    | some z=>
      rw[hf,Option.getD_some]at h1;subst h1;obtain⟨_,as1,bs,hl,hm⟩:=List.find?_eq_some_iff_append.1 hf;have hp:∀x∈sight t i,zn t x=true/\0<=x/\x<t.nodes.length:=fun x hx=>⟨sO G hi hx,(lH G hi hx).2⟩
      have ha:(sight t i).find? (fun d=>(t'.nd d).text==(t'.nd i).text)=some (e:Int):=by
       refine List.find?_eq_some_iff_append.2 ⟨?_,as1,bs,hl,fun x hx=>?_⟩
       .rw[beq_iff_eq,R.noName ho (SU hn),R.text i hi,he]
        by_cases hc:e=d
        .rw[if_pos hc,if_pos (.inr (by rw[hc]))]
        rw[if_neg hc,if_neg (by omega)];exact hg
       have hs:x∈sight t i:=by rw[hl];simp[hx]
       obtain⟨q1,q2,q3⟩:=hp x hs;obtain⟨x,rfl⟩:=Int.eq_ofNat_of_zero_le q2;have hj:x<t.nodes.length:=by omega
       have hh:¬(t.nd x).text=(t.nd i).text:=by simpa using hm x hx
       have hq:¬(t'.nd x).text=(t'.nd i).text:=by
        rw[R.noName hj (SU q1),R.text i hi,he];by_cases hc:e=d
        .have hr:¬x=d:=fun h=>hh (by rw[h,<-hc];exact hg)
         rw[if_neg hr,if_pos (show i=d\/(e:Int)=(d:Int)from .inr (by rw[hc]))];exact R.fresh x hj
        rw[if_neg (show ¬(i=d\/(e:Int)=(d:Int)) by omega)]
        by_cases hc2:x=d
        .rw[if_pos hc2]
         exact fun h=>R.fresh i hi h.symm
        rw[if_neg hc2];exact hh
       simpa using hq
      rw[ha];rfl
   rw[he];unfold Go.Proofs.YtcdkdiedphhdhaaGreatDoor.means;rw[F.kind,hk,if_pos rfl,hb,F.kind,hd.2,if_neg (by simp)]
theorem Renamed.err{i:Nat}(hi:i<t.nodes.length):bV t' i=0:=by
 obtain⟨wf,G⟩:=zi R.bd R.res;have F:=R.form;have h:=(zt R.res).err i hi
 have ha:∀x∈t.items,∃y:Nat,x=y/\y<t.nodes.length:=fun x hx=>by
  obtain⟨_,_,h2,h3,_⟩:=G.item x hx;obtain⟨y,rfl⟩:=Int.eq_ofNat_of_zero_le h3;exact⟨y,rfl,by omega⟩
 have hA:¬(bT t i&&zn t i&&aE t i)=true:=fun hc=>by unfold bV at h;rw[if_pos hc]at h;cases h
 have hB:¬((t.nd i).kind==34&&aU t i)=true:=fun hc=>by unfold bV at h;rw[if_neg hA,if_pos hc]at h;cases h
 have hf:¬(bT t' i&&zn t' i&&aE t' i)=true:=fun hc=>by
  rw[Bool.and_eq_true,Bool.and_eq_true,F.isD]at hc;obtain⟨⟨h1,h2⟩,h3⟩:=hc;refine hA ?_;rw[Bool.and_eq_true,Bool.and_eq_true];refine⟨⟨by unfold bT at h1|-;rwa[F.items]at h1,h2⟩,?_⟩;unfold aE fW at h3|-;rw[F.items]at h3;obtain⟨x,hx,hp⟩:=List.any_eq_true.1 h3;refine List.any_eq_true.2 ⟨x,hx,?_⟩;have hd:x∈t.items:=(List.takeWhile_sublist _).subset hx;have he:x<(i:Int):=by simpa using VW hx
  obtain⟨x,rfl,hj⟩:=ha x hd;rw[Bool.and_eq_true,F.isD,beq_iff_eq]at hp;rw[Bool.and_eq_true,beq_iff_eq];exact⟨hp.1,R.same hj hi (SU hp.1) (SU h2) (by omega) hp.2⟩
 have hg:¬((t'.nd i).kind==34&&aU t' i)=true:=fun hc=>by
  rw[Bool.and_eq_true,F.kind,beq_iff_eq]at hc;obtain⟨h1,h2⟩:=hc;refine hB ?_;rw[Bool.and_eq_true,beq_iff_eq];refine⟨h1,?_⟩;have hp:=wf.par i hi (by rw[<-t.nd_at hi];exact h1);obtain⟨q,hq,hh,_⟩:=zy hp;unfold aU fW at h2|-;rw[F.par,F.kids]at h2;obtain⟨x,hx,hb⟩:=List.any_eq_true.1 h2;refine List.any_eq_true.2 ⟨x,hx,?_⟩;have hd:x∈(t.nd (parent t i)).kids:=(List.takeWhile_sublist _).subset hx;rw[hq]at hd;obtain⟨_,_,k3,k4⟩:=G.kid hh x hd;have he:x<(i:Int):=by simpa using VW hx
  obtain⟨x,rfl⟩:=Int.eq_ofNat_of_zero_le k4;rw[Bool.and_eq_true,F.kind,beq_iff_eq,beq_iff_eq]at hb;rw[Bool.and_eq_true,beq_iff_eq,beq_iff_eq];exact⟨hb.1,R.same (by omega) hi (by rw[hb.1];rfl) (by rw[h1];rfl) (by omega) hb.2⟩
 unfold bV at h|-;rw[if_neg hf];rw[if_neg hg];rw[if_neg hA,if_neg hB]at h;rw[R.means hi,F.kind,F.n,F.ins]
 have hr:aS t' i=aS t i:=by
  unfold aS fW;rw[F.items,R.means hi];rw[Bool.eq_iff_iff,List.any_eq_true,List.any_eq_true]
  have key:∀x∈t.items.takeWhile (fun x=>decide (x<(i:Int))),Go.Proofs.YtcdkdiedphhdhaaGreatDoor.means t' x=Go.Proofs.YtcdkdiedphhdhaaGreatDoor.means t x:=fun x hx=>by
   obtain⟨y,rfl,hy⟩:=ha x ((List.takeWhile_sublist _).subset hx);exact R.means hy
  constructor<;>rintro⟨x,hx,hp⟩<;>refine⟨x,hx,?_⟩
  .rwa[F.kind,key x hx]at hp
  rwa[F.kind,key x hx]
 rw[hr];exact h
theorem Renamed.check:aD t'=0:=by
 refine R.form.check (zt R.res).check fun i hi=>?_;rw[R.text i hi];by_cases hc:i=d\/Go.Proofs.YtcdkdiedphhdhaaGreatDoor.means t i=d
 .rw[if_pos hc]
  refine .inr ⟨?_,R.name⟩;rcases hc with rfl|hc
  .exact UA R.decl
  refine VJ ?_
  cases hk:bD (t.nd i).kind with
  |true=>rfl
  |false=>rw[iQ hk]at hc;omega
 rw[if_neg hc];exact .inl rfl
theorem Renamed.resolve:zb t'=(zg t t.nodes.length,0,0):=by
 rw[cR R.check fun m hm=>R.err (by rw[R.form.len]at hm;exact hm)];rw[bE,bE,R.form.len];congr 1;exact List.map_congr_left fun i hi=>R.means (List.mem_range.1 hi)
end
theorem VP(t:Tr)(l:List Int)(node:Int)(name:List UInt8)(i:Int):(renT t l node name).nd i=if renB l node i.toNat&&decide (i.toNat<t.nodes.length)then { t.nd i with text:=name } else t.nd i:=by
 unfold Tr.nd renT;simp only;by_cases hi:i.toNat<t.nodes.length
 .rw[List.getD_eq_getElem?_getD,List.getElem?_eq_getElem (by rw[SS];exact hi),Option.getD_some,TC _ _ _ _ _ hi,List.getD_eq_getElem?_getD,List.getElem?_eq_getElem hi,Option.getD_some,Bool.and_comm]
 rw[List.getD_eq_getElem?_getD,List.getElem?_eq_none (by rw[SS];omega),List.getD_eq_getElem?_getD,List.getElem?_eq_none (by omega)]
 simp[hi]
theorem TU(t:Tr)(l:List Int)(node:Int)(name:List UInt8):SameForm t (renT t l node name):=by
 refine⟨by simp[renT,SS],rfl,fun i=>?_,fun i=>?_,fun i=>?_,fun i=>?_⟩<;>rw[VP]<;>split<;>rfl
theorem VA{t:Tr}{d i:Nat}(hi:i<t.nodes.length):renB (zg t t.nodes.length) d i=true↔i=d\/means t i=d:=by
 unfold renB;rw[ST hi];simp only[Bool.or_eq_true,beq_iff_eq];omega
theorem TV{t:Tr}{d i:Nat}(hi:i<t.nodes.length)(name:List UInt8):((renT t (zg t t.nodes.length) d name).nd i).text=if i=d\/means t i=d then name else (t.nd i).text:=by
 rw[VP];simp only[Int.toNat_natCast,hi,decide_true,Bool.and_true];by_cases h:i=d\/means t i=d
 .rw[if_pos h,if_pos ((VA hi).2 h)]
 rw[if_neg h,if_neg fun hc=>h ((VA hi).1 hc)]
theorem VM{t:Tr}(bd:Bd t)(h:(zb t).2.2=0){d:Nat}(hd:d<t.nodes.length)(hdd:zn t d=true){new:List UInt8}(hn:zG new=true)(hf:∀i:Nat,i<t.nodes.length->(t.nd i).text≠new) :
 ∃t',renU t d new=.ok t'/\Renamed t t' d new:=by
 have R:Renamed t (renT t (zg t t.nodes.length) d new) d new:=⟨TU _ _ _ _,bd,h,hd,hdd,fun i hi=>TV hi new,hf,hn⟩
 refine⟨_,?_,R⟩;unfold renU;rw[TL h hd,hdd,if_pos rfl,if_pos rfl,if_pos hn];unfold SY;rw[R.resolve];simp[renO]
theorem SZ{t:Tr}{S:List Int}(G:Good t S){d:Nat}(hd:d<t.nodes.length)(hdd:zn t d=true):zG (t.nd d).text=true:=by
 have hr:=G.right d hd;unfold cM at hr;simp only[Bool.and_eq_true,beq_iff_eq]at hr;rw[<-hr.1.1.1.1.1.1.2];exact UA hdd
end
section
open Go Go.RowKit
def quite:List UInt8:=[113,117,105,116,101,48,110,101,119]
theorem VL:zG quite=true:=by decide +kernel
theorem Renamed.rg{t t':Tr}{d:Nat}{new:List UInt8}(R:Renamed t t' d new)(rg:Rg t):Rg t':=fun i hi=>by
 rw[R.form.n];exact rg i (by rw[<-R.form.len];exact hi)
theorem Renamed.bd'{t t':Tr}{d:Nat}{new:List UInt8}(R:Renamed t t' d new)(hn:new.length<=1000000000):Bd t':=
 R.form.bd R.bd fun i hi=>by
  rw[R.text i hi];split
  .exact hn
  rw[t.nd_at hi];exact R.bd.s _ (List.getElem_mem hi)
end
section
open Go Go.RowKit
theorem UP{t:Tr}{i:Nat}(hi:i<t.nodes.length):(exT t)[i]'(by rw[cP];exact hi)=if zl (t.nd (i:Int)).kind then tyP t i else []:=by
 simp[exT]
theorem TI{t:Tr}{i:Nat}(hi:i<t.nodes.length):ofK (exT t) (i:Int)=if zl (t.nd (i:Int)).kind then tyP t i else []:=by
 unfold ofK;rw[Int.toNat_natCast,List.getD_eq_getElem?_getD,List.getElem?_eq_getElem (by rw[cP];exact hi),Option.getD_some,UP hi]
section
variable {t : Tr} {S : List Int}
theorem SQ{i:Nat}(hx:zl (t.nd (i:Int)).kind=true):tyP t i=aJ t (tysP t i) i i:=by unfold tyP typP;simp only[hx,if_true]
end
end
section
open Go Go.RowKit
def tyN(t:Tr)(x:Int):List UInt8:=tyP t x.toNat
section
variable {t : Tr} {S : List Int}
theorem TE{i:Nat}{x:Int}(h0:0<=x)(hx:x<i)(hi:i<=t.nodes.length):ofK (tysP t i) x=tyN t x:=by
 obtain⟨a,rfl⟩:=Int.eq_ofNat_of_zero_le h0;exact eS (by omega) (by omega)
theorem SX(G:Good t S){i:Nat}(hi:i<t.nodes.length):(t.nd (i:Int)).kids.map (ofK (tysP t i))=(t.nd (i:Int)).kids.map (tyN t):=List.map_congr_left fun x hx=>by
 obtain⟨a,rfl,ha⟩:=aN G hi hx;exact TE (by omega) (by omega) (by omega)
theorem UZ(bd:Bd t)(hr:(zb t).2.2=0){i:Nat}(hi:i<t.nodes.length)(k:(t.nd (i:Int)).kind=3) :
 ∃d:Nat,means t i=d/\d<t.nodes.length/\(((t.nd (d:Int)).kind=40/\tyP t i=intT)\/(((t.nd (d:Int)).kind=43\/(t.nd (d:Int)).kind=20)/\∃a:Nat,(t.nd (d:Int)).kids[0]?=some (a:Int)/\a<i/\tyP t i=tyP t a)\/((t.nd (d:Int)).kind=34/\d<i/\tyP t i=tyP t d)):=by
 obtain⟨wf,G⟩:=zi bd hr;obtain⟨d,hd,he,-,hl,hc,-⟩:=cX bd hr hi (by rw[k];rfl);have hb:=eO G hi (by omega);rw[hd]at hb;rw[k]at hc;have e3:tyP t i=eP t (tysP t i) d:=by rw[SQ (by rw[k];rfl)];simp[aJ,k,hd]
 have hj:=G.many he;have hc:(t.nd (d:Int)).kind=40\/((t.nd (d:Int)).kind=43\/(t.nd (d:Int)).kind=20)\/(t.nd (d:Int)).kind=34:=by simp[mM]at hc;omega
 refine⟨d,hd,he,?_⟩;rcases hc with q|q|q
 .refine .inl ⟨q,?_⟩
  rw[e3];simp only[eP,q];rfl
 .have h0:0<(t.nd (d:Int)).kids.length:=by
   rcases q with q|q<;>rw[q]at hj<;>simp[zC]at hj<;>omega
  obtain⟨a,ha,hk⟩:=aN G he (List.getElem_mem h0);have hg:(t.nd (d:Int)).kids[0]?=some (a:Int):=by rw[List.getElem?_eq_getElem h0,ha]
  have hf:a<i:=by
   rcases hb with⟨_,h1⟩|⟨h1,_⟩|h1
   .have:=h1 _ hg;omega
   .rcases q with q|q<;>(rw[q]at h1;cases h1)
   omega
  refine .inr (.inl ⟨q,a,hg,hf,?_⟩);rw[e3]
  have:eP t (tysP t i) d=ofK (tysP t i) a:=by
   unfold eP;rw[List.getD_eq_getElem?_getD,hg];rcases q with q|q<;>rw[q]<;>rfl
  rw[this,eS hf (by omega)]
 have hh:d<i:=by
  rcases hb with⟨h1,_⟩|⟨h1,_⟩|h1
  .rw[q]at h1;cases h1
  .rw[q]at h1;cases h1
  omega
 refine .inr (.inr ⟨q,hh,?_⟩);rw[e3];have:eP t (tysP t i) d=ofK (tysP t i) d:=by unfold eP;rw[q];rfl
 rw[this,eS hh (by omega)]
theorem UU(bd:Bd t)(hr:(zb t).2.2=0){i:Nat}(hi:i<t.nodes.length)(k:(t.nd (i:Int)).kind=21) :
 ∃ d:Nat,means t i=d/\d<t.nodes.length/\2<=(t.nd (d:Int)).kids.length/\(∀x∈(t.nd (d:Int)).kids.take ((t.nd (d:Int)).kids.length-1),0<=x/\x<(i:Int)) /\
   tyP t i=if ((t.nd (d:Int)).kids.take ((t.nd (d:Int)).kids.length-2)).map (tyN t)==(t.nd (i:Int)).kids.map (tyN t)then tyN t ((t.nd (d:Int)).kids.getD ((t.nd (d:Int)).kids.length-2) 0)else []:=by
 obtain⟨wf,G⟩:=zi bd hr;obtain⟨d,hd,hc,-,hl,hh,-⟩:=cX bd hr hi (by rw[k];rfl);have hb:=eO G hi (by omega);rw[hd]at hb;rw[k]at hh;have q:(t.nd (d:Int)).kind=42:=by simpa[mM]using hh
 have hg:=G.many hc;rw[q]at hg
 have h2:2<=(t.nd (d:Int)).kids.length:=by
  have:(2:Int)<=((t.nd (d:Int)).kids.length:Int):=by simpa[zC]using hg
  omega
 have hf:∀x∈(t.nd (d:Int)).kids.take ((t.nd (d:Int)).kids.length-1),0<=x/\x<(i:Int):=fun x hx=>by
  obtain⟨j,hj,rfl⟩:=List.getElem_of_mem hx;have he:j<(t.nd (d:Int)).kids.length-1/\j<(t.nd (d:Int)).kids.length:=by simp at hj;omega
  rw[List.getElem_take];obtain⟨a,ha,hk⟩:=aN G hc (List.getElem_mem he.2);rw[ha];refine⟨by omega,?_⟩;rcases hb with⟨h1,_⟩|⟨_,h1⟩|h1
  .rw[q]at h1;cases h1
  .exact h1 j a (by omega) (by rw[List.getElem?_eq_getElem he.2,ha])
  omega
 refine⟨d,hd,hc,h2,hf,?_⟩
 have e1:dY t (tysP t i) d=((t.nd (d:Int)).kids.take ((t.nd (d:Int)).kids.length-2)).map (tyN t):=by
  unfold dY;refine List.map_congr_left fun x hx=>?_
  have:=hf x (by
   obtain⟨j,hj,rfl⟩:=List.getElem_of_mem hx;have he:j<(t.nd (d:Int)).kids.length-2:=by simp at hj;omega
   rw[List.getElem_take]
   exact List.mem_take_iff_getElem.2 ⟨j,by omega,rfl⟩)
  exact TE this.1 this.2 (by omega)
 have e2:fB t (tysP t i) d=tyN t ((t.nd (d:Int)).kids.getD ((t.nd (d:Int)).kids.length-2) 0):=by
  unfold fB;rw[List.getD_eq_getElem?_getD,List.getElem?_eq_getElem (by omega),Option.getD_some];have:=hf ((t.nd (d:Int)).kids[(t.nd (d:Int)).kids.length-2]) (List.mem_take_iff_getElem.2 ⟨_,by omega,rfl⟩);exact TE this.1 this.2 (by omega)
 rw[SQ (by rw[k];rfl)];simp only[aJ,zS,k,hd,e1,e2,SX G hi];rfl
theorem TR(bd:Bd t)(hr:(zb t).2.2=0){i:Nat}(hi:i<t.nodes.length)(k:(t.nd (i:Int)).kind=22){k0:List UInt8}(hk0:((t.nd (i:Int)).kids.map (tyN t)).getD 0 []=k0) :
 (∃r:Nat,r<i/\(t.nd (r:Int)).kind=41/\(t.nd (r:Int)).text=k0/\tyP t i=((t.nd (r:Int)).kids.find? fun x=>(t.nd x).text==(t.nd (i:Int)).text).elim [] (tyN t)) \/
 ((∀r:Nat,r<t.nodes.length->(t.nd (r:Int)).kind=41->(t.nd (r:Int)).text≠k0)/\tyP t i=[]):=by
 obtain⟨wf,G⟩:=zi bd hr;have h0:=(zt hr).err
 have e3:tyP t i=gZ t (tysP t i) i k0 (t.nd (i:Int)).text:=by
  rw[SQ (by rw[k];rfl),<-hk0,<-SX G hi];simp only[aJ,zS,k];rfl
 have hd:TyG (fun _=>True) t i k0:=by
  have hm:=G.many hi;rw[k]at hm;obtain⟨a,ha,he,-⟩:=G.kid1 hi (by simpa[zC]using hm);rw[ha]at hk0;rw[<-hk0];exact(fO bd hr a (by omega)).2.mono (by omega)
 rw[e3];unfold gZ
 cases hc:recT t i k0 with
 | none=>
   refine .inr ⟨fun r hrn k41 e=>?_,rfl⟩;obtain⟨-,hb,-⟩:=G.ok hrn;rw[k41,e]at hb;have:=hd.ok r hrn k41 (by rw[e,oI (jE hb.symm)]);exact JV hc this k41 e
 | some r=>
   obtain⟨h1,h2,h3⟩:=jQ hc;refine .inl ⟨r,h1,h2,h3,?_⟩;show(List.find? _ _).elim [] (ofK (tysP t i))=_
   cases hf:(t.nd (r:Int)).kids.find? fun x=>(t.nd x).text==(t.nd (i:Int)).text with
   |none=>rfl
   | some x=>
     obtain⟨a,rfl,hg⟩:=aN G (show r<t.nodes.length by omega) (List.mem_of_find?_eq_some hf);exact TE (by omega) (by omega) (by omega)
theorem UI{p q:Int->Int->Bool}:∀(l m:List Int),(∀a∈l,∀b∈m,p a b=q a b)->eqF p l m=eqF q l m
 | [],[],_=>rfl
 | [],_::_,_=>rfl
 |_::_,[],_=>rfl
 | a::l,b::m,h=>by
   rw[eqF,eqF,h a (by simp) b (by simp),UI l m fun x hx y hy=>h x (by simp[hx]) y (by simp[hy])]
theorem VS(bd:Bd t)(hr:(zb t).2.2=0){i:Nat}(hi:i<t.nodes.length)(k:(t.nd (i:Int)).kind=24) :
 ∃d:Nat,means t i=d/\d<i/\(t.nd (d:Int)).kind=41/\tyP t i=if eqF (fun p f=>(t.nd p).text==(t.nd f).text&&tyN t p==tyN t f) (t.nd (i:Int)).kids (t.nd (d:Int)).kids then (t.nd (i:Int)).text else []:=by
 obtain⟨wf,G⟩:=zi bd hr;obtain⟨d,hd,hf,-,hg,hc,-⟩:=cX bd hr hi (by rw[k];rfl);have hb:=eO G hi (by omega);rw[hd]at hb;rw[k]at hc;have q:(t.nd (d:Int)).kind=41:=by simpa[mM]using hc
 have he:d<i:=by
  rcases hb with⟨h1,_⟩|⟨h1,_⟩|h1
  .rw[q]at h1;cases h1
  .rw[q]at h1;cases h1
  omega
 refine⟨d,hd,he,q,?_⟩
 have e1:eqF (cW t (tysP t i)) (t.nd (i:Int)).kids (t.nd (d:Int)).kids=eqF (fun p f=>(t.nd p).text==(t.nd f).text&&tyN t p==tyN t f) (t.nd (i:Int)).kids (t.nd (d:Int)).kids:=UI _ _ fun a ha b hb=>by
  obtain⟨a,rfl,h1⟩:=aN G hi ha;obtain⟨b,rfl,h2⟩:=aN G hf hb;unfold cW;rw[TE (by omega) (by omega) (by omega),TE (by omega) (by omega) (by omega)]
 rw[SQ (by rw[k];rfl),<-e1];simp only[aJ,zS,k,hd];rfl
theorem VD{i:Nat}(h:zl (t.nd (i:Int)).kind=false)(h2:cG (t.nd (i:Int)).kind=false)(h3:¬((t.nd (i:Int)).kind=25\/(t.nd (i:Int)).kind=34)):tyP t i=[]:=by
 have q:¬(t.nd (i:Int)).kind=30/\¬(t.nd (i:Int)).kind=31/\¬(t.nd (i:Int)).kind=32/\¬(t.nd (i:Int)).kind=33:=by simp[cG]at h2;omega
 simp only[not_or]at h3;unfold tyP typP;simp[h,q,h3]
end
end
section
open Go Go.RowKit
structure TyMap (u t:Tr) (f:Nat->Nat) (s:List UInt8->List UInt8) (P:List UInt8->Prop):Prop where
 bdU:Bd u
 bdT:Bd t
 rU:(zb u).2.2=0
 rT:(zb t).2.2=0
 cl:∀m,m<u.nodes.length->P (tyP u m)
 pNil:P []
 pInt:P intT
 pBool:P zz
 pEl:∀{k of:List UInt8}{n:Nat},P k->aW k=some (of,n)->P of
 pRec:∀r:Nat,r<u.nodes.length->(u.nd r).kind=41->P (u.nd r).text
 fLt:∀m,m<u.nodes.length->f m<t.nodes.length
 fInj:∀a b,a<u.nodes.length->b<u.nodes.length->f a=f b->a=b
 kind:∀m:Nat,m<u.nodes.length->(t.nd (f m:Nat)).kind=(u.nd m).kind
 num:∀m:Nat,m<u.nodes.length->(t.nd (f m:Nat)).n=(u.nd m).n
 kids:∀m:Nat,m<u.nodes.length->(t.nd (f m:Nat)).kids=(u.nd m).kids.map (mvI f)
 mean:∀m:Nat,m<u.nodes.length->bD (u.nd m).kind=true->means t (f m:Nat)=mvI f (means u m)
 txF:∀m:Nat,m<u.nodes.length->(u.nd m).kind=22\/(u.nd m).kind=25->(t.nd (f m:Nat)).text=(u.nd m).text
 txK:∀m r:Nat,r<u.nodes.length->(u.nd r).kind=41->(m:Int)∈(u.nd r).kids->(t.nd (f m:Nat)).text=(u.nd m).text
 txR:∀m:Nat,m<u.nodes.length->(u.nd m).kind=24\/(u.nd m).kind=32\/(u.nd m).kind=41->(t.nd (f m:Nat)).text=s (u.nd m).text
 sInt:s intT=intT
 sBool:s zz=zz
 sNil:s []=[]
 sList:∀(k:List UInt8) (n:Nat),1<=n->n<=6->s (bC k n)=bC (s k) n
 sEl:∀k,P k->aW (s k)=(aW k).map fun p=>(s p.1,p.2)
 sInj:∀a b,P a->P b->s a=s b->a=b
 hasRec:∀k,P k->∀r:Nat,r<t.nodes.length->(t.nd r).kind=41->(t.nd r).text=s k->∃q:Nat,q<u.nodes.length/\(u.nd q).kind=41/\(u.nd q).text=k
theorem WE{u t:Tr}{f:Nat->Nat}{s:List UInt8->List UInt8}{x:Int}(h0:0<=x)(h:tyP t (f x.toNat)=s (tyP u x.toNat)):tyN t (mvI f x)=s (tyN u x):=by
 obtain⟨a,rfl⟩:=Int.eq_ofNat_of_zero_le h0;rw[zj];exact h
theorem UW{f:Nat->Nat}{p:Int->Int->Bool}{q:Int->Int->Bool}:∀(l m:List Int),(∀a∈l,∀b∈m,q (mvI f a) (mvI f b)=p a b)->eqF q (l.map (mvI f)) (m.map (mvI f))=eqF p l m
 | [],[],_=>rfl
 | [],_::_,_=>rfl
 |_::_,[],_=>rfl
 | a::l,b::m,h=>by
   rw[List.map_cons,List.map_cons,eqF,eqF,h a (by simp) b (by simp),UW l m fun x hx y hy=>h x (by simp[hx]) y (by simp[hy])]
section
variable {t : Tr} {S : List Int}
theorem WV(G:Good t S){i:Nat}(hi:i<t.nodes.length)(k:(t.nd (i:Int)).kind=19){l:List (List UInt8)}(hl:(t.nd (i:Int)).kids.map (tyN t)=l):tyP t i=if l.getD 0 []==zz&&l.getD 1 []==l.getD 2 []then l.getD 1 []else []:=by
 rw[SQ (by rw[k];rfl),<-hl,<-SX G hi];simp only[aJ,k];rfl
theorem WW(G:Good t S){i:Nat}(hi:i<t.nodes.length)(k:(t.nd (i:Int)).kind=20){l:List (List UInt8)}(hl:(t.nd (i:Int)).kids.map (tyN t)=l):tyP t i=l.getD 1 []:=by
 rw[SQ (by rw[k];rfl),<-hl,<-SX G hi];simp only[aJ,k];rfl
theorem WX(G:Good t S){i:Nat}(hi:i<t.nodes.length)(k:(t.nd (i:Int)).kind=23){l:List (List UInt8)}(hl:(t.nd (i:Int)).kids.map (tyN t)=l):tyP t i=match aW (l.getD 0 [])with|some (of,_)=>if l.getD 1 []==intT then of else []|none=>[]:=by
 rw[SQ (by rw[k];rfl),<-hl,<-SX G hi];simp only[aJ,zS,k];rfl
theorem WY(G:Good t S){i:Nat}(hi:i<t.nodes.length)(k:(t.nd (i:Int)).kind=26){l:List (List UInt8)}(hl:(t.nd (i:Int)).kids.map (tyN t)=l):tyP t i=if areB (l.getD 0 []) l then bC (l.getD 0 []) l.length else []:=by
 rw[SQ (by rw[k];rfl),<-hl,<-SX G hi];simp only[aJ,zS,k];rfl
theorem UK(G:Good t S){i:Nat}(hi:i<t.nodes.length)(hs:(t.nd (i:Int)).kind=1\/(t.nd (i:Int)).kind=2\/4<=(t.nd (i:Int)).kind/\(t.nd (i:Int)).kind<=18){l:List (List UInt8)}(hl:(t.nd (i:Int)).kids.map (tyN t)=l):tyP t i=EU (t.nd (i:Int)).kind l:=by
 rw[SQ (by simp[zl];omega),wM hs,<-hl,<-SX G hi]
end
section
variable {u t : Tr} {f : Nat -> Nat} {s : List UInt8 -> List UInt8} {P : List UInt8 -> Prop} (M : TyMap u t f s P)
include M
theorem TyMap.mBeq{a b:List UInt8}(ha:P a)(hb:P b):(s a==s b)=(a==b):=by
 by_cases h:a=b
 .subst h;simp
 have h2:¬s a=s b:=fun e=>h (M.sInj a b ha hb e)
 rw[show(s a==s b)=false by simpa using h2,show(a==b)=false by simpa using h]
theorem TyMap.mAre{a:List UInt8}(ha:P a):∀(l:List (List UInt8)),(∀x∈l,P x)->areB (s a) (l.map s)=areB a l
 | [],_=>rfl
 | x::l,h=>by
   have ih:=TyMap.mAre ha l fun y hy=>h y (by simp[hy]);unfold areB at ih|-;rw[List.map_cons,List.all_cons,List.all_cons,ih,M.mBeq (h x (by simp)) ha]
theorem TyMap.mLists:∀(l m:List (List UInt8)),(∀x∈l,P x)->(∀x∈m,P x)->(l.map s==m.map s)=(l==m)
 | [],[],_,_=>rfl
 | [],_::_,_,_=>rfl
 |_::_,[],_,_=>rfl
 | a::l,b::m,h,h'=>by
   have ih:=TyMap.mLists l m (fun y hy=>h y (by simp[hy])) fun y hy=>h' y (by simp[hy]);rw[List.map_cons,List.map_cons,List.cons_beq_cons,List.cons_beq_cons,ih,M.mBeq (h a (by simp)) (h' b (by simp))]
theorem TyMap.mGetD(l:List (List UInt8))(j:Nat):(l.map s).getD j []=s (l.getD j []):=by
 rw[List.getD_eq_getElem?_getD,List.getD_eq_getElem?_getD,List.getElem?_map]
 cases l[j]? with
 |none=>exact M.sNil.symm
 |some x=>rfl
theorem TyMap.mGet{l:List (List UInt8)}(h:∀x∈l,P x)(j:Nat):P (l.getD j []):=by
 rw[List.getD_eq_getElem?_getD]
 cases hj:l[j]? with
 |none=>exact M.pNil
 |some x=>exact h x (List.mem_of_getElem? hj)
theorem TyMap.mRule{l:List (List UInt8)}(h:∀x∈l,P x)(k:Int):EU k (l.map s)=s (EU k l):=by
 have h1:=M.mAre M.pInt l h;have h2:=M.mAre M.pBool l h;rw[M.sInt]at h1;rw[M.sBool]at h2;unfold EU;rw[h1,h2]
 repeat' split
 all_goals first|exact M.sInt.symm|exact M.sBool.symm|exact M.sNil.symm
theorem TyMap.mTy:∀m,m<u.nodes.length->tyP t (f m)=s (tyP u m):=by
 obtain⟨wfU,GU⟩:=zi M.bdU M.rU;obtain⟨wfT,GT⟩:=zi M.bdT M.rT;intro m
 induction m using Nat.strongRecOn with
 |ind m ih=>
 intro hm;have hf:=M.fLt m hm;have hg:=M.kind m hm;have one:∀x:Int,0<=x->x<(m:Int)->tyN t (mvI f x)=s (tyN u x):=fun x h0 h1=>WE h0 (ih x.toNat (by omega) (by omega))
 have hk:(t.nd (f m:Nat)).kids.map (tyN t)=((u.nd (m:Int)).kids.map (tyN u)).map s:=by
  rw[M.kids m hm,List.map_map,List.map_map];refine List.map_congr_left fun x hx=>?_;obtain⟨a,rfl,ha⟩:=aN GU hm hx;exact one a (by omega) (by omega)
 have hP:∀x∈(u.nd (m:Int)).kids.map (tyN u),P x:=fun x hx=>by
  obtain⟨y,hy,rfl⟩:=List.mem_map.1 hx;obtain⟨a,rfl,ha⟩:=aN GU hm hy;exact M.cl a (by omega)
 obtain⟨l,hl⟩:∃l,(u.nd (m:Int)).kids.map (tyN u)=l:=⟨_,rfl⟩
 rw[hl]at hk hP;by_cases hx:zl (u.nd (m:Int)).kind=true
 .by_cases hs:(u.nd (m:Int)).kind=1\/(u.nd (m:Int)).kind=2\/4<=(u.nd (m:Int)).kind/\(u.nd (m:Int)).kind<=18
  .rw[UK GU hm hs hl,UK GT hf (by rw[hg];exact hs) hk,hg]
   exact M.mRule hP _
  have hc:(u.nd (m:Int)).kind=3\/(u.nd (m:Int)).kind=19\/(u.nd (m:Int)).kind=20\/(u.nd (m:Int)).kind=21\/(u.nd (m:Int)).kind=22\/(u.nd (m:Int)).kind=23\/(u.nd (m:Int)).kind=24\/(u.nd (m:Int)).kind=26:=by
   simp[zl]at hx;omega
  clear hs;rcases hc with k|k|k|k|k|k|k|k
  .obtain⟨d,hd,hn,h1⟩:=UZ M.bdU M.rU hm k
   obtain⟨e,he,hO,h2⟩:=UZ M.bdT M.rT hf (hg.trans k);have hr:=M.mean m hm (by rw[k];rfl);rw[hd,he,zj]at hr;obtain rfl:e=f d:=by omega
   have hh:=M.kind d hn;rcases h1 with⟨q,h1⟩|⟨q,a,ha,hp,h1⟩|⟨q,hH,h1⟩
   .rw[q]at hh
    rcases h2 with⟨_,h2⟩|⟨q2|q2,_⟩|⟨q2,_⟩
    .rw[h1,h2,M.sInt]
    .rw[hh]at q2;cases q2
    .rw[hh]at q2;cases q2
    rw[hh]at q2;cases q2
   .rcases h2 with⟨q2,_⟩|⟨_,b,hb,hz,h2⟩|⟨q2,_⟩
    .rw[hh]at q2;rcases q with q|q<;>(rw[q]at q2;cases q2)
    .rw[M.kids d hn,List.getElem?_map,ha,Option.map_some,zj]at hb
     obtain rfl:f a=b:=by have:=Option.some.inj hb;omega
     rw[h1,h2];exact ih a hp (by omega)
    rw[hh]at q2;rcases q with q|q<;>(rw[q]at q2;cases q2)
   rw[q]at hh
   rcases h2 with⟨q2,_⟩|⟨q2|q2,_⟩|⟨_,_,h2⟩
   .rw[hh]at q2;cases q2
   .rw[hh]at q2;cases q2
   .rw[hh]at q2;cases q2
   rw[h1,h2]
   exact ih d hH hn
  .rw[WV GU hm k hl,WV GT hf (hg.trans k) hk,M.mGetD,M.mGetD,M.mGetD,M.mBeq (M.mGet hP 1) (M.mGet hP 2)]
   have:=M.mBeq (M.mGet hP 0) M.pBool;rw[M.sBool]at this;rw[this];split
   .rfl
   exact M.sNil.symm
  .rw[WW GU hm k hl,WW GT hf (hg.trans k) hk,M.mGetD]
  .obtain⟨d,hd,hn,hU,hM,h1⟩:=UU M.bdU M.rU hm k
   obtain⟨e,he,hO,hV,hW,h2⟩:=UU M.bdT M.rT hf (hg.trans k);have hr:=M.mean m hm (by rw[k];rfl);rw[hd,he,zj]at hr;obtain rfl:e=f d:=by omega
   have hB:∀{j:Nat},j<=(u.nd (d:Int)).kids.length-1->∀x∈(u.nd (d:Int)).kids.take j,0<=x/\x<(m:Int):=fun {j} hj x hx=>hM x (by
    obtain⟨i,hi,rfl⟩:=List.mem_take_iff_getElem.1 hx
    exact List.mem_take_iff_getElem.2 ⟨i,by omega,rfl⟩)
   have e1:((t.nd (f d:Nat)).kids.take ((t.nd (f d:Nat)).kids.length-2)).map (tyN t)=(((u.nd (d:Int)).kids.take ((u.nd (d:Int)).kids.length-2)).map (tyN u)).map s:=by
    rw[M.kids d hn,List.length_map,<-List.map_take,List.map_map,List.map_map];refine List.map_congr_left fun x hx=>?_;have:=hB (by omega) x hx;exact one x this.1 this.2
   have e2:tyN t ((t.nd (f d:Nat)).kids.getD ((t.nd (f d:Nat)).kids.length-2) 0)=s (tyN u ((u.nd (d:Int)).kids.getD ((u.nd (d:Int)).kids.length-2) 0)):=by
    rw[M.kids d hn,List.length_map,List.getD_eq_getElem?_getD,List.getElem?_map,List.getElem?_eq_getElem (by omega),List.getD_eq_getElem?_getD,List.getElem?_eq_getElem (by omega)];have:=hB nlr _ (List.mem_take_iff_getElem.2 ⟨(u.nd (d:Int)).kids.length-2,by omega,rfl⟩);exact one _ this.1 this.2
   rw[h1,h2,e1,e2,hk,hl,M.mLists _ _ (fun x hx=>by
    obtain⟨y,hy,rfl⟩:=List.mem_map.1 hx;have:=hB (by omega) y hy
    exact M.cl _ (by omega)) hP]
   split
   .rfl
   exact M.sNil.symm
  .have hG:=M.txF m hm (.inl k)
   rcases TR M.bdU M.rU hm k (show _=l.getD 0 [] by rw[hl])with⟨r,hZ,hw,hJ,h1⟩|⟨hD,h1⟩
   .have ho:r<u.nodes.length:=by omega
    have hu:=(M.kind r ho).trans hw;have hv:=M.txR r ho (.inr (.inr hw));rcases TR M.bdT M.rT hf (hg.trans k) (show _=s (l.getD 0 []) by rw[hk,M.mGetD])with⟨q,hT,g41,hE,h2⟩|⟨hD,h2⟩
    .have hq:q=f r:=nJ GT (zt M.rT).err (by omega) (M.fLt r ho) g41 hu (by rw[hE,hv,hJ])
     rw[h1,h2,hq,M.kids r ho,hG]
     have key:∀ks:List Int,(∀x∈ks,x∈(u.nd (r:Int)).kids)->((ks.map (mvI f)).find? fun x=>(t.nd x).text==(u.nd (m:Int)).text).elim [] (tyN t)=s ((ks.find? fun x=>(u.nd x).text==(u.nd (m:Int)).text).elim [] (tyN u)):=by
      intro ks
      induction ks with
      |nil=>intro _;exact M.sNil.symm
      | cons x ks ihk=>
        intro hC;obtain⟨a,rfl,ha⟩:=aN GU ho (hC x (by simp));have hG:=M.txK a r ho hw (hC a (by simp));rw[List.map_cons,List.find?_cons,List.find?_cons,zj,hG]
        cases (u.nd (a:Int)).text==(u.nd (m:Int)).text with
        |true=>exact ih a (by omega) (by omega)
        |false=>exact ihk fun y hy=>hC y (by simp[hy])
     exact key _ fun _ h=>h
    exact absurd (by rw[hv,hJ]) (hD (f r) (M.fLt r ho) hu)
   rw[h1,M.sNil]
   rcases TR M.bdT M.rT hf (hg.trans k) (show _=s (l.getD 0 []) by rw[hk,M.mGetD])with⟨q,hT,g41,hE,h2⟩|⟨_,h2⟩
   .obtain⟨r,h3,h4,h5⟩:=M.hasRec _ (M.mGet hP 0) q (by omega) g41 hE
    exact absurd h5 (hD r h3 h4)
   exact h2
  .rw[WX GU hm k hl,WX GT hf (hg.trans k) hk,M.mGetD,M.mGetD,M.sEl _ (M.mGet hP 0)]
   have hb:=M.mBeq (M.mGet hP 1) M.pInt;rw[M.sInt]at hb;cases aW (l.getD 0 [])with
   |none=>exact M.sNil.symm
   | some p=>
     obtain⟨of,n⟩:=p;show(if s (l.getD 1 [])==intT then s of else [])=s (if l.getD 1 []==intT then of else [])
     rw[hb];split
     .rfl
     exact M.sNil.symm
  .obtain⟨d,hd,hH,hA,h1⟩:=VS M.bdU M.rU hm k
   obtain⟨e,he,hX,hN,h2⟩:=VS M.bdT M.rT hf (hg.trans k);have hr:=M.mean m hm (by rw[k];rfl);rw[hd,he,zj]at hr;obtain rfl:e=f d:=by omega
   have hn:d<u.nodes.length:=by omega
   rw[h1,h2,M.kids m hm,M.kids d hn,M.txR m hm (.inl k),UW (p:=fun p f=>(u.nd p).text==(u.nd f).text&&tyN u p==tyN u f) _ _ fun a ha b hb=>?_]
   .split
    .rfl
    exact M.sNil.symm
   obtain⟨j,hj,hQ⟩:=List.getElem_of_mem ha
   have h3:=GU.kidOk hm hj;obtain⟨a,rfl,hp⟩:=aN GU hm ha;obtain⟨b,rfl,hz⟩:=aN GU hn hb;rw[k,hQ]at h3;rw[one a (by omega) (by omega),one b (by omega) (by omega),zj,zj,M.txF a (by omega) (.inr (by simpa[kidK]using h3)),M.txK b d hn hA hb,show(s (tyN u (a:Int))==s (tyN u (b:Int)))=(tyN u (a:Int)==tyN u (b:Int))from M.mBeq (M.cl a (by omega)) (M.cl b (by omega))]
  have hF:=Good.sizedOk (zt M.rU).check hm
  have hI:=GU.many hm;rw[k]at hI;have hY:l.length=(u.nd (m:Int)).kids.length:=by rw[<-hl,List.length_map]
  have h6:1<=l.length/\l.length<=6:=by
   simp[eX,k]at hF;have:(1:Int)<=((u.nd (m:Int)).kids.length:Int):=by simpa[zC]using hI
   omega
  rw[WY GU hm k hl,WY GT hf (hg.trans k) hk,M.mGetD,M.mAre (M.mGet hP 0) l hP,List.length_map];split
  .exact(M.sList _ _ h6.1 h6.2).symm
  exact M.sNil.symm
 have hL:zl (u.nd (m:Int)).kind=false:=by simpa using hx
 by_cases ht:cG (u.nd (m:Int)).kind=true
 .rw[fU GU m hm ht,fU GT (f m) hf (by rw[hg];exact ht)]
  have hc:(u.nd (m:Int)).kind=30\/(u.nd (m:Int)).kind=31\/(u.nd (m:Int)).kind=32\/(u.nd (m:Int)).kind=33:=by simp[cG]at ht;omega
  rcases hc with e|e|e|e
  .simp only[eZ,kQ,e,hg];exact M.sInt.symm
  .simp only[eZ,kQ,e,hg];exact M.sBool.symm
  .simp only[eZ,kQ,e,hg];exact M.txR m hm (.inr (.inl e))
  obtain⟨a,ha,hp,hR,h1⟩:=nM GU hm e
  obtain⟨b,hb,hz,hS,h2⟩:=nM GT hf (hg.trans e);rw[M.kids m hm,ha,List.map_cons,List.map_nil,zj]at hb;obtain rfl:f a=b:=by simp at hb;omega
  have hF:=Good.sizedOk (zt M.rU).check hm;have h6:1<=(u.nd (m:Int)).n.toNat/\(u.nd (m:Int)).n.toNat<=6:=by simp[eX,e]at hF;omega
  rw[h1,h2,M.num m hm,M.sList _ _ h6.1 h6.2,<-fU GU a (by omega) hR,<-fU GT (f a) (by omega) hS,ih a hp (by omega)]
 have hK:cG (u.nd (m:Int)).kind=false:=by simpa using ht
 by_cases h3:(u.nd (m:Int)).kind=25\/(u.nd (m:Int)).kind=34
 .obtain⟨a,ha,hp,-,h1⟩:=mE GU hm h3
  obtain⟨b,hb,hz,-,h2⟩:=mE GT hf (by rw[hg];exact h3);rw[M.kids m hm,ha,List.map_cons,List.map_nil,zj]at hb;obtain rfl:f a=b:=by simp at hb;omega
  rw[h1,h2,ih a hp (by omega)]
 rw[VD hL hK h3,VD (by rw[hg];exact hL) (by rw[hg];exact hK) (by rw[hg];exact h3)]
 exact M.sNil.symm
end
end
end Go.Proofs.YtcdkdiedphhdhaaGreatDoor
