/- Part of a proof. -/
import Derived.Test.YtipjhljnkocioaaGreatDoorC15
import Derived.Test.YtipjhljnkocioaaGreatDoorDR01
set_option maxRecDepth 100000
set_option maxHeartbeats 8000000
set_option linter.unusedVariables false
set_option linter.unusedSimpArgs false
open Go.Proofs.Tryz
namespace Go.Proofs.YtipjhljnkocioaaGreatDoor
section
open Go.RowKit
theorem PD(ns:List Nd)(l:List Int)(node:Int)(name:List UInt8):renK ns l node name 0=ns:=by
 apply List.ext_getElem (by simp[renK]);intro i h1 h2;simp[renK]
theorem PJ{ns:List Nd}{l:List Int}{node:Int}{name:List UInt8}{k:Nat}(h:renB l node k=false):renK ns l node name (k+1)=renK ns l node name k:=by
 apply List.ext_getElem (by simp[renK]);intro i h1 h2;simp only[renK,List.getElem_mapIdx];by_cases e:i=k
 ·subst e;simp[h]
 ·have:decide (i<k+1)=decide (i<k):=by rw[Bool.eq_iff_iff];simp;omega
  rw[this]
theorem PH{ns:List Nd}{l:List Int}{node:Int}{name:List UInt8}{k:Nat}(hk:k<ns.length)(h:renB l node k=true):renK ns l node name (k+1)=(renK ns l node name k).set k { ns[k]with text:=name }:=by
 apply List.ext_getElem (by simp[renK]);intro i h1 h2;rw[List.getElem_set];simp only[renK,List.getElem_mapIdx];by_cases e:i=k
 ·subst e;simp[h]
 ·have:decide (i<k+1)=decide (i<k):=by rw[Bool.eq_iff_iff];simp;omega
  rw[this,if_neg (show ¬k=i from fun h=>e h.symm)]
theorem PI{ns:List Nd}{l:List Int}{node:Int}{name:List UInt8}{k:Nat}(hk:k<ns.length):(renK ns l node name k)[k]'(by rw[dO];exact hk)=ns[k]:=by
 rw[lK _ _ _ _ _ hk];simp
def PL(w:World)(o:Option Tr)(err:Int)(e:Ending)(w':World):Prop:=
 match o with
 |none=>e=.returned (.tuple #[.agg #[.slice none 0 0,.slice none 0 0],intV err])∧Below w.heap.size w w'
 |some t'=>∃v:TreeV,e=.returned (.tuple #[v.val t',intV 0])∧IsTree w' v t'∧Below w.heap.size w w'
abbrev boxR(w:World)(v:TreeV)(t:Tr)(a:Option Addr)(c:Nat)(l:List Int):World:=boxW (boxN (boxT w v t) a c l) none 0 0 none 0 0
theorem ON{w wr:World}{v:TreeV}{t:Tr}{a:Option Addr}{c:Nat}{l:List Int}(hb:Below (w.heap.size+1+1+1) (boxR w v t a c l) wr)(h:IsTree w v t)(h2:Ints w a c l) :
 (wr.cell? ⟨w.heap.size,0,none⟩=some (.slice v.na t.nodes.length v.nc)∧wr.cell? ⟨w.heap.size,1,none⟩=some (.slice v.ia t.items.length v.ic)∧wr.cell? ⟨w.heap.size+1,0,none⟩=some (.slice a l.length c)) ∧
 (wr.cell? ⟨w.heap.size+1+1,0,none⟩=some (.slice none 0 0)∧wr.cell? ⟨w.heap.size+1+1,1,none⟩=some (.slice none 0 0))∧(wr.frozen? ⟨w.heap.size+1+1,0,none⟩=false∧wr.frozen? ⟨w.heap.size+1+1,1,none⟩=false) ∧
 Below w.heap.size w wr∧w.heap.size+1+1+1≤wr.heap.size:=by
 have hs:=hb.size;simp only[World.size_alloc]at hs;have hb':Below (boxR w v t a c l).heap.size (boxR w v t a c l) wr:=by simpa using hb
 obtain⟨hc,hf⟩:=bcell hb';have h1:Below (w.heap.size+1+1) (boxN (boxT w v t) a c l) wr:=(brf.alloc (by simp) _).trans (hb.mono (by omega));obtain⟨b0,b1,b2,-,-,-,hw⟩:=cQ h1 h h2;obtain⟨e3,e4,e5⟩:=sA (boxN (boxT w v t) a c l) none 0 0 none 0 0 (k:=w.heap.size+1+1) (by simp);exact⟨⟨b0,b1,b2⟩,⟨(hc _ _ (by simp)).trans e3,(hc _ _ (by simp)).trans e4⟩,⟨(hf _ _ (by simp)).trans (e5 0),(hf _ _ (by simp)).trans (e5 1)⟩,hw,hs⟩
theorem OR{w':World}{R:Ending→World→Prop}{A:Act}{g:Nat}{x0 x1:Value}{err:Int}(h0:w'.cell? ⟨g,0,none⟩=some x0)(h1:w'.cell? ⟨g,1,none⟩=some x1)
 (h8:A.tmps.getD 8 undef=.pointer (some ⟨g,0,none⟩))(h9:A.tmps.getD 9 undef=intV err)(hd:A.defers=[])(hR:R (.returned (.tuple #[.agg #[x0,x1],intV err])) w') :
 bodyPost prog Tryz.f30 R Exit.ret A w':=by
 refine bodyPost_ret (v:=.tuple #[.agg #[x0,x1],intV err]) ?_ hd hR;simp only[Array.getD_eq_getD_getElem?]at h8 h9;simp[results,results30,go_sem,loadVar,h8,h9,h0,h1,Result.andThen]
theorem OS(v:TreeV)(t:Tr)(a:Option Addr)(c:Nat)(l:List Int)(node:Int)(name:List UInt8)(w:World)(bd:Bd t)(hl:l.length=t.nodes.length)(hnm:name.length≤1000000000)(h:IsTree w v t)(h2:Ints w a c l) :
 Calls prog 30 #[v.val t,.agg #[.slice a l.length c],intV node,strV name] w (PL w (if zQ name then cA t l node name else none) (if zQ name then 9 else 4)):=by
 have HT:=Hd h;have HL:=Hd h2;have BD:=Hd bd;have hn3:=bd.n;have hi3:=bd.i;have HLL:=Hd hl;have hll:l.length≤1000000:=by omega
 clear h bd h2 hl;obtain⟨na,nc,ia,ic⟩:=v;unfold TreeV.val
 cases hb:zQ name with
 | false=>
   have HB:=Hd hb;rw[if_neg Bool.false_ne_true,if_neg Bool.false_ne_true];clear hb;go_enter func30,ntmps30
   go_wp2_with (go_at_call 74;refine(oJ name _ hnm).mono ?_;rw[HB.out];rintro e w2 ⟨rfl,hb2⟩;obtain⟨⟨b0,b1,b2⟩,⟨r0,r1⟩,⟨rf0,rf1⟩,hbw,hs⟩:=ON (w:=w) (v:=⟨na,nc,ia,ic⟩) (t:=t) (a:=a) (c:=c) (l:=l) (hb2.mono (by simp)) HT.out HL.out)
   refine OR (g:=w.heap.size+1+1) (x0:=.slice none 0 0) (x1:=.slice none 0 0) (err:=4) ?_ ?_ rfl rfl rfl ?_
   ·rw[World.cell?_setCell_other _ _ _ _ (by simp)];exact World.cell?_setCell_same _ _ _ r0
   ·exact World.cell?_setCell_same _ _ _ ((World.cell?_setCell_other _ _ _ _ (by simp)).trans r1)
   ·exact⟨rfl,(hbw.setCell (by simp;omega) _).setCell (by simp;omega) _⟩
 | true=>
   have HB:=Hd hb;rw[if_pos rfl,if_pos rfl];clear hb;go_enter func30,ntmps30
   go_wp2_with (first
    | (go_at_call 74;refine(oJ name _ hnm).mono ?_;rw[HB.out];rintro e w2 ⟨rfl,hb2⟩;have HB2:=Hd (show Below (w.heap.size+1+1+1) (boxR w ⟨na,nc,ia,ic⟩ t a c l) w2 from hb2.mono (by simp));obtain⟨⟨b0,b1,b2⟩,⟨r0,r1⟩,⟨rf0,rf1⟩,hbw,hs⟩:=ON HB2.out HT.out HL.out;have HW2:=Hd hbw;clear hb2 hbw)
    | (go_at_call 15;refine(iG ⟨na,nc,ia,ic⟩ t _ BD.out (HT.out.mono HW2.out nlr)).mono ?_;rintro e w3 ⟨⟨na3,nc3,ia3,ic3⟩,B3,ks,he3,hB3,hO3,hI3,hia3,hb3⟩;have HB3:=Hd (HB2.out.trans (hb3.mono hs));have HO3:=Hd hO3;have HI3:=Hd hI3;have HIA3:=Hd hia3;have hz3:=hb3.size;clear hO3 hI3 hia3 hb3;have he3:e=.returned (.agg #[.slice na3 t.nodes.length nc3,.slice ia3 t.items.length ic3]):=he3;subst he3))
   have HW3:=Hd (ON HB3.out HT.out HL.out).2.2.2.1;have hz2:=HW2.out.size;have hs3:w.heap.size+1+1+1≤w3.heap.size:=(ON HB3.out HT.out HL.out).2.2.2.2;have hB2:w.heap.size+1+1+1≤B3:=Nat.le_trans hs hB3;clear b0 b1 b2 r0 r1 rf0 rf1;obtain⟨n0,n1,n2⟩:=sA w3 na3 t.nodes.length nc3 ia3 t.items.length ic3 (k:=w3.heap.size) rfl
   go_loopw [11] (fun t11 wr=>∃k:Nat,t11=.int .i64 k∧k≤t.nodes.length∧Hid (OwnN wr B3 na3 nc3 (renK t.nodes l node name k) ks)∧Hid (wr.cell? ⟨w3.heap.size,0,none⟩=some (.slice na3 t.nodes.length nc3))∧Hid (wr.cell? ⟨w3.heap.size,1,none⟩=some (.slice ia3 t.items.length ic3)) ∧
    Hid (Below B3 (boxW w3 na3 t.nodes.length nc3 ia3 t.items.length ic3) wr)∧Hid (w3.heap.size+1≤wr.heap.size)) (fun i _=>t.nodes.length-(intOf i).toNat)
   case atStart=>
    refine⟨0,rfl,Nat.zero_le _,Hd ?_,Hd n0,Hd n1,Hd brf,Hd (by simp)⟩;rw[PD];exact HO3.out.below (brf.alloc nlr _)
   case round=>
    obtain⟨k,rfl,hk,HO,HC0,HC1,HBW,HSZ⟩:=hrel;have hg0:=HC0.out;have hg1:=HC1.out;have hsz:=HSZ.out;have hbR:Below (w.heap.size+1+1+1) (boxR w ⟨na,nc,ia,ic⟩ t a c l) wr:=(HB3.out.alloc hs3 _).trans (HBW.out.mono hB2);obtain⟨⟨b0,b1,b2⟩,⟨r0,r1⟩,⟨rf0,rf1⟩,hbw,hs4⟩:=ON hbR HT.out HL.out;have HBR:=Hd hbR;have HW4:=Hd hbw;clear hbR;by_cases hlt:k<t.nodes.length
    ·have hlk:k<l.length:=by have:=HLL.out;omega
     obtain⟨bl,ol,ela,hbl,hcl⟩:=Ints.at (HL.out.mono hbw nlr) hlk;obtain⟨nb,ena,hnb1,hnb2,hnbf⟩:=HO3.out.at (by omega);subst ela;subst ena;have hf1:=(HO.out.at (by rw[dO];omega))
     obtain⟨nb',en,_,hnb4,hnbf'⟩:=hf1;obtain rfl:nb=nb':=by simpa using en
     have hfz:=hnbf' (k*5+1)
     obtain⟨x1,hx1⟩:∃x1,wr.cell? ⟨nb,k*5+1,none⟩=some x1:=by
      obtain⟨b',o',ka',kc',e',_,_,c1',_⟩:=HO.out.nodes.at (i:=k) (by rw[dO];exact hlt);simp only[Option.some.injEq,Addr.mk.injEq,and_true]at e';obtain⟨rfl,rfl⟩:=e';exact⟨_,by simpa using c1'⟩
     obtain⟨y,hy⟩:∃y,l[k]=y:=⟨_,rfl⟩
     rw[hy]at hcl;have hgd:l.getD k 0=y:=by simp[hlk,hy]
     have HGD:=Hd hgd;have hkB:=PI (l:=l) (node:=node) (name:=name) hlt;have HKB:=Hd hkB
     have hset:∀_:renB l node k=true,OwnN (wr.setCell ⟨nb,k*5+1,none⟩ (strV name)) B3 (some ⟨nb,0,none⟩) nc3 (renK t.nodes l node name (k+1)) ks:=fun hr=>by
      have:=HO.out.setText (k:=k) (by rw[dO];exact hlt) name;rw[PH hlt hr,←HKB.out];exact this
     have HSET:=Hd hset;clear hy hgd hkB hnbf hnbf' hset hbl;have hne:nb≠w3.heap.size:=by omega
     cases e1:((k:Int)==node)with
     | true=>
       have HRB:=Hd (show renB l node k=true by unfold renB;rw[e1];rfl);go_wp2
       go_roundw
       case rel=>exact⟨k+1,by go_num,by omega,Hd (HSET.out HRB.out),Hd ((World.cell?_setCell_other _ _ _ _ (by intro e;have:=congrArg Addr.block e;simp only at this;omega)).trans HC0.out),Hd ((World.cell?_setCell_other _ _ _ _ (by intro e;have:=congrArg Addr.block e;simp only at this;omega)).trans HC1.out),Hd (HBW.out.setCell (by simpa using hnb1) _),Hd (by simpa using HSZ.out)⟩
       case measure=>simp[intOf];omega
     | false=>
       cases e2:(y==node)with
       | true=>
         have HRB:=Hd (show renB l node k=true by unfold renB;rw[HGD.out,e2,Bool.or_true]);go_wp2
         go_roundw
         case rel=>exact⟨k+1,by go_num,by omega,Hd (HSET.out HRB.out),Hd ((World.cell?_setCell_other _ _ _ _ (by intro e;have:=congrArg Addr.block e;simp only at this;omega)).trans HC0.out),Hd ((World.cell?_setCell_other _ _ _ _ (by intro e;have:=congrArg Addr.block e;simp only at this;omega)).trans HC1.out),Hd (HBW.out.setCell (by simpa using hnb1) _),Hd (by simpa using HSZ.out)⟩
         case measure=>simp[intOf];omega
       | false=>
         have HRB:=Hd (show renB l node k=false by unfold renB;rw[HGD.out,e1,e2];rfl);go_wp2
         go_roundw
         case rel=>exact⟨k+1,by go_num,by omega,Hd (by rw[PJ HRB.out];exact HO.out),HC0,HC1,HBW,HSZ⟩
         case measure=>simp[intOf];omega
    ·obtain rfl:k=t.nodes.length:=by omega
     have bdT:=xN (l:=l) (node:=node) BD.out hnm;have hIT:IsTree wr ⟨na3,nc3,ia3,ic3⟩ (renT t l node name):=⟨HO.out.nodes,PF (Row.mono HI3.out (brf.alloc nlr _) nlr) (fun x e=>(HIA3.out x e).2) HBW.out⟩
     have hR:=dR ⟨na3,nc3,ia3,ic3⟩ (renT t l node name) wr bdT (fun h=>zT bdT h) hIT;unfold TreeV.val at hR;rw[aT]at hR;have hR:Calls prog 17 #[.agg #[.slice na3 t.nodes.length nc3,.slice ia3 t.items.length ic3]] wr (kO wr (zc (renT t l node name))):=hR;have HIT:=Hd hIT;obtain⟨p,hp⟩:∃p,zc (renT t l node name)=p:=⟨_,rfl⟩
     obtain⟨q,at1,err⟩:=p;have HP:=Hd hp;rw[hp]at hR;have HR:=Hd hR
     have hlen:(zc (renT t l node name)).1.length≤t.nodes.length:=by
      rw[←aT t l node name];exact dK _
     rw[hp]at hlen;have hlen:q.length≤t.nodes.length:=hlen;clear hp hR hIT bdT;have hren:cA t l node name=if err != 0 || !(q==l)then none else some (renT t l node name):=by unfold cA;rw[HP.out]
     cases he:(err != 0)with
     | true=>
       rw[he]at hren;have hren:cA t l node name=none:=by rw[hren];rfl
       have HREN:=Hd hren;clear hren
       go_wp2_with (go_at_call 17;refine HR.out.mono ?_;rintro e w5 ⟨a5,c5,rfl,hown5,hb5⟩;obtain⟨⟨b50,b51,b52⟩,⟨r50,r51⟩,⟨rf50,rf51⟩,hbw5,hs5⟩:=ON (HBR.out.trans (hb5.mono hs4)) HT.out HL.out;have HW5:=Hd hbw5;have hz5:=hb5.size;have hs51:w.heap.size+1<w5.heap.size:=(by omega);have hs52:w.heap.size+1+1<w5.heap.size:=(by omega);have hs53:w3.heap.size<w5.heap.size:=(by omega);have m0:w5.cell? ⟨w3.heap.size,0,none⟩=some (.slice na3 t.nodes.length nc3):=(hb5.cell (p:=⟨w3.heap.size,0,none⟩) hsz).trans hg0;have m1:w5.cell? ⟨w3.heap.size,1,none⟩=some (.slice ia3 t.items.length ic3):=(hb5.cell (p:=⟨w3.heap.size,1,none⟩) hsz).trans hg1;have HB5:=Hd hb5;clear hbw5)
       refine OR (g:=w.heap.size+1+1) (x0:=.slice none 0 0) (x1:=.slice none 0 0) (err:=9) ?_ ?_ rfl rfl rfl ?_
       ·rw[World.cell?_alloc_past _ _ _ (by simpa using hs52),World.cell?_setCell_other _ _ _ _ (by simp)];exact World.cell?_setCell_same _ _ _ r50
       ·rw[World.cell?_alloc_past _ _ _ (by simpa using hs52)];exact World.cell?_setCell_same _ _ _ ((World.cell?_setCell_other _ _ _ _ (by simp)).trans r51)
       ·rw[HREN.out];exact⟨rfl,((HW5.out.setCell (by simp;omega) _).setCell (by simp;omega) _).alloc (by simp;omega) _⟩
     | false=>
       cases hq:(q==l)with
       | false=>
         rw[he,hq]at hren;have hren:cA t l node name=none:=by rw[hren];rfl
         have HREN:=Hd hren;clear hren;have HQ:=Hd hq;clear hq
         go_wp2_with (first
          | (go_at_call 17;refine HR.out.mono ?_;rintro e w5 ⟨a5,c5,rfl,hown5,hb5⟩;obtain⟨⟨b50,b51,b52⟩,⟨r50,r51⟩,⟨rf50,rf51⟩,hbw5,hs5⟩:=ON (HBR.out.trans (hb5.mono hs4)) HT.out HL.out;have HW5:=Hd hbw5;have hz5:=hb5.size;have hs51:w.heap.size+1<w5.heap.size:=(by omega);have hs52:w.heap.size+1+1<w5.heap.size:=(by omega);have hs53:w3.heap.size<w5.heap.size:=(by omega);have m0:w5.cell? ⟨w3.heap.size,0,none⟩=some (.slice na3 t.nodes.length nc3):=(hb5.cell (p:=⟨w3.heap.size,0,none⟩) hsz).trans hg0;have m1:w5.cell? ⟨w3.heap.size,1,none⟩=some (.slice ia3 t.items.length ic3):=(hb5.cell (p:=⟨w3.heap.size,1,none⟩) hsz).trans hg1;have HB5:=Hd hb5;have HO5:=Hd (zq hown5);clear hbw5 hown5)
          | (go_at_call 19;refine(zX a5 a c5 c q l _ (by omega) (by omega) (Row.mono HO5.out (brf.alloc nlr _) nlr) (Row.mono (Row.mono HL.out HW5.out nlr) (brf.alloc nlr _) nlr)).mono ?_;rw[HQ.out];rintro e w6 ⟨rfl,hb6⟩;obtain⟨⟨b60,b61,b62⟩,⟨r60,r61⟩,⟨rf60,rf61⟩,hbw6,hs6⟩:=ON (((HBR.out.trans (HB5.out.mono hs4)).alloc hs5 _).trans (hb6.mono (by simp;omega))) HT.out HL.out;have hz6:=hb6.size;have m60:w6.cell? ⟨w3.heap.size,0,none⟩=some (.slice na3 t.nodes.length nc3):=(hb6.cell (p:=⟨w3.heap.size,0,none⟩) (by simp;omega)).trans ((((Below.refl w5.heap.size w5).alloc nlr _).cell (p:=⟨w3.heap.size,0,none⟩) hs53).trans m0);have m61:w6.cell? ⟨w3.heap.size,1,none⟩=some (.slice ia3 t.items.length ic3):=(hb6.cell (p:=⟨w3.heap.size,1,none⟩) (by simp;omega)).trans ((((Below.refl w5.heap.size w5).alloc nlr _).cell (p:=⟨w3.heap.size,1,none⟩) hs53).trans m1);have HW6:=Hd hbw6;have HB6:=Hd hb6;clear hbw6 hb6))
         refine OR (g:=w.heap.size+1+1) (x0:=.slice none 0 0) (x1:=.slice none 0 0) (err:=9) ?_ ?_ rfl rfl rfl ?_
         ·rw[World.cell?_setCell_other _ _ _ _ (by simp)];exact World.cell?_setCell_same _ _ _ r60
         ·exact World.cell?_setCell_same _ _ _ ((World.cell?_setCell_other _ _ _ _ (by simp)).trans r61)
         ·rw[HREN.out];exact⟨rfl,((HW6.out.setCell (by simp;omega) _).setCell (by simp;omega) _)⟩
       | true=>
         rw[he,hq]at hren;have hren:cA t l node name=some (renT t l node name):=by rw[hren];rfl
         have HREN:=Hd hren;clear hren;have HQ:=Hd hq;clear hq
         go_wp2_with (first
          | (go_at_call 17;refine HR.out.mono ?_;rintro e w5 ⟨a5,c5,rfl,hown5,hb5⟩;obtain⟨⟨b50,b51,b52⟩,⟨r50,r51⟩,⟨rf50,rf51⟩,hbw5,hs5⟩:=ON (HBR.out.trans (hb5.mono hs4)) HT.out HL.out;have HW5:=Hd hbw5;have hz5:=hb5.size;have hs51:w.heap.size+1<w5.heap.size:=(by omega);have hs52:w.heap.size+1+1<w5.heap.size:=(by omega);have hs53:w3.heap.size<w5.heap.size:=(by omega);have m0:w5.cell? ⟨w3.heap.size,0,none⟩=some (.slice na3 t.nodes.length nc3):=(hb5.cell (p:=⟨w3.heap.size,0,none⟩) hsz).trans hg0;have m1:w5.cell? ⟨w3.heap.size,1,none⟩=some (.slice ia3 t.items.length ic3):=(hb5.cell (p:=⟨w3.heap.size,1,none⟩) hsz).trans hg1;have HB5:=Hd hb5;have HO5:=Hd (zq hown5);clear hbw5 hown5)
          | (go_at_call 19;refine(zX a5 a c5 c q l _ (by omega) (by omega) (Row.mono HO5.out (brf.alloc nlr _) nlr) (Row.mono (Row.mono HL.out HW5.out nlr) (brf.alloc nlr _) nlr)).mono ?_;rw[HQ.out];rintro e w6 ⟨rfl,hb6⟩;obtain⟨⟨b60,b61,b62⟩,⟨r60,r61⟩,⟨rf60,rf61⟩,hbw6,hs6⟩:=ON (((HBR.out.trans (HB5.out.mono hs4)).alloc hs5 _).trans (hb6.mono (by simp;omega))) HT.out HL.out;have hz6:=hb6.size;have m60:w6.cell? ⟨w3.heap.size,0,none⟩=some (.slice na3 t.nodes.length nc3):=(hb6.cell (p:=⟨w3.heap.size,0,none⟩) (by simp;omega)).trans ((((Below.refl w5.heap.size w5).alloc nlr _).cell (p:=⟨w3.heap.size,0,none⟩) hs53).trans m0);have m61:w6.cell? ⟨w3.heap.size,1,none⟩=some (.slice ia3 t.items.length ic3):=(hb6.cell (p:=⟨w3.heap.size,1,none⟩) (by simp;omega)).trans ((((Below.refl w5.heap.size w5).alloc nlr _).cell (p:=⟨w3.heap.size,1,none⟩) hs53).trans m1);have HW6:=Hd hbw6;have HB6:=Hd hb6;clear hbw6 hb6))
         refine OR (g:=w.heap.size+1+1) (x0:=.slice na3 t.nodes.length nc3) (x1:=.slice ia3 t.items.length ic3) (err:=0) ?_ ?_ rfl rfl rfl ?_
         ·rw[World.cell?_setCell_other _ _ _ _ (by simp)];exact World.cell?_setCell_same _ _ _ r60
         ·exact World.cell?_setCell_same _ _ _ ((World.cell?_setCell_other _ _ _ _ (by simp)).trans r61)
         ·rw[HREN.out];refine⟨⟨na3,nc3,ia3,ic3⟩,by unfold TreeV.val;rw[aT];rfl,?_,((HW6.out.setCell (by simp;omega) _).setCell (by simp;omega) _)⟩
          have hb6:Below wr.heap.size wr w6:=(HB5.out.alloc hz5 _).trans (HB6.out.mono (by simp;omega));refine⟨(((HO.out.below hb6).setCell (p:=⟨w.heap.size+1+1,0,none⟩) (by simp;omega) _).setCell (p:=⟨w.heap.size+1+1,1,none⟩) (by simp;omega) _).nodes,?_⟩;have hi6:Ints w6 ia3 ic3 t.items:=Row.mono HIT.out.items hb6 nlr;exact aA (aA hi6 _ fun _ x e=>by have:=(HIA3.out x e).1;simp only;omega) _ fun _ x e=>by have:=(HIA3.out x e).1;simp only;omega
end
end Go.Proofs.YtipjhljnkocioaaGreatDoor
