/- Part of a proof. -/
import Derived.Test.YtokdgiphdnjeoaaGreatDoorQ32
set_option maxRecDepth 100000
set_option maxHeartbeats 8000000
set_option linter.unusedVariables false
set_option linter.unusedSimpArgs false
open Go.Proofs.Tryz
namespace Go.Proofs.YtokdgiphdnjeoaaGreatDoor
section
open Go Go.RowKit
structure OpenW (w0:World) (p:ProgV) (t:Tr) (ups decl:List Int) (w:World):Prop where
 tree:IsTree w0 p.v t
 below:Below w0.heap.size w0 w
 prog:IsProg w p t ups decl
 own:w.ownsRow w0.heap.size 3 1 (.slice p.da t.nodes.length p.dc) t.nodes.length (zm decl)
 ps:w0.heap.size≤p.s
 ne:∀x,p.da=some x→x.block≠p.s∧∀y,p.aa=some y→y.block≠x.block
theorem OpenW.grow{w0 w w':World}{p:ProgV}{t:Tr}{ups decl:List Int}(h:OpenW w0 p t ups decl w)(hb:Below w.heap.size w w'):OpenW w0 p t ups decl w':=
 ⟨h.tree,h.below.trans (hb.mono h.below.size),h.prog.mono hb nlr,zy h.own hb,h.ps,h.ne⟩
theorem OpenW.set{w0 w:World}{p:ProgV}{t:Tr}{ups decl:List Int}(h:OpenW w0 p t ups decl w){i:Nat}(hi:i<t.nodes.length)(x:Int) :
 ∃g,p.da=some ⟨g,0,none⟩∧(∃y,w.cell? ⟨g,i,none⟩=some (intV y))∧w.frozen? ⟨g,i,none⟩=false∧OpenW w0 p t ups (decl.set i x) (w.setCell ⟨g,i,none⟩ (intV x))∧w0.heap.size≤g:=by
 obtain⟨g,hg,hB,hlt,hl,hc,hf⟩:=dG h.own (by omega);obtain⟨tr,below,prog,own,ps,ne⟩:=h;obtain⟨s,v,aa,ac,da,dc⟩:=p;simp only at hg;subst hg;obtain⟨n1,n2⟩:=ne _ rfl;simp only at n1 n2 own ps tr;have hb2:=below.setCell (p:=⟨g,i,none⟩) hB (intV x);have hne:∀j,(w.setCell ⟨g,i,none⟩ (intV x)).cell? ⟨s,j,none⟩=w.cell? ⟨s,j,none⟩:=fun j=>World.cell?_setCell_other _ _ _ _ (fun e=>n1 (congrArg Addr.block e));have own2:=gJ own i x;obtain⟨c0,c1,c2,c3,ct,cu,cd⟩:=prog;refine⟨g,rfl,⟨_,hc i hi⟩,hf i,⟨tr,hb2,⟨(hne 0).trans c0,(hne 1).trans c1,(hne 2).trans c2,(hne 3).trans c3,tr.mono hb2 nlr,aA cu _ (fun _ y e=>n2 y e),?_⟩,own2,ps,ne⟩,hB⟩;obtain⟨a',c',e,hr⟩:=bK own2;simp at e;obtain⟨rfl,rfl⟩:=e;exact hr
def iQ(t:Tr)(ups decl:List Int)(node:Nat):Int:=
 if eI t ups node then 6
 else if !aV (t.nd node).kind then 0
 else if aU t node == -1 then 10
 else if (t.nd node).kind==21&&((t.nd (aU t node)).n==0&&eW t node (aU t node))then 9
 else if (t.nd node).kind==45&&decl.contains (aU t node)then 9
 else 0
def DX(t:Tr)(decl:List Int)(node:Nat):List Int:=if aV (t.nd node).kind then decl.set node (aU t node)else decl
def yB(w0:World)(p:ProgV)(t:Tr)(ups decl:List Int)(node:Nat)(e:Ending)(w':World):Prop:=
 e=.returned (intV (iQ t ups decl node))∧Below w0.heap.size w0 w'∧(iQ t ups decl node=0→OpenW w0 p t ups (DX t decl node) w')
theorem uO{t:Tr}(wf:WF t){node:Nat}(h:aU t node ≠ -1):0≤aU t node∧aU t node<t.nodes.length∧suits (t.nd node).kind (t.nd (aU t node)).kind=true:=by
 unfold aU at *;cases hf:(zA t node).find? (fun d=>(t.nd d).text==(t.nd node).text)with
 |none=>rw[hf]at h;exact absurd rfl h
 | some d=>
   rw[hf]at h;have:=iK wf (List.mem_of_find?_eq_some hf)
   cases hs:suits (t.nd node).kind (t.nd d).kind with
   |false=>simp only[hs]at h;exact absurd rfl h
   |true=>simp only[hs];exact⟨this.1,this.2,hs⟩
theorem AE(w0:World)(p:ProgV)(t:Tr)(ups decl:List Int)(node:Nat)(w:World)(wf:WF t)(hkid:∀i,i<t.nodes.length→mS t (t.nd i).kids)(hit:mS t t.items)(hn:node<t.nodes.length)(hu:IsUps t ups)(h:OpenW w0 p t ups decl w) :
 Calls prog 138 #[p.ptr,intV node] w (yB w0 p t ups decl node):=by
 have hn3:=wf.bd.n;obtain⟨b,o,ka,kc,ea,hb,n0,n1,n2,n3,n4,-⟩:=h.prog.tree.nodes.at hn;have c0:=h.prog.c0;have c3:=h.prog.c3;have hpl:=h.prog.lt;have hnd:=t.nd_at hn;have hdl:=h.prog.declLen;obtain⟨D,hD⟩:∃D,t.nodes[node]=D:=⟨_,rfl⟩
 rw[hD]at n0 n1 n2 n3 n4 hnd;have HO:=Hd h;have HND:=Hd hnd;have WFF:=Hd wf;have HU:=Hd hu;have HDL:=Hd hdl;have HTW:Hid (∀W,Below w.heap.size w W→Calls prog 183 #[p.ptr,intV node] W (zq W (eI t ups node))):=Hd fun W hW=>tE p t ups decl node W wf.bd hn hu.within hkid hit (h.prog.mono hW nlr);have HME:Hid (∀W,Below w.heap.size w W→Calls prog 185 #[p.ptr,intV node] W (dL W (aU t node))):=Hd fun W hW=>AH p t ups decl node W wf hn hu (h.prog.mono hW nlr)
 have hfd:iQ t ups decl node=if eI t ups node then 6 else if !aV D.kind then 0 else if aU t node == -1 then 10 else if D.kind==21&&((t.nd (aU t node)).n==0&&eW t node (aU t node))then 9 else if D.kind==45&&decl.contains (aU t node)then 9 else 0:=by
  unfold iQ;rw[hnd]
 have hdd:DX t decl node=if aV D.kind then decl.set node (aU t node)else decl:=by unfold DX;rw[hnd]
 have HFD:=Hd hfd;have HDD:=Hd hdd;have HBX:=Hd ((Below.refl w.heap.size w).alloc nlr (.cells #[.int .u8 D.kind,strV D.text,intV D.n,.slice ka D.kids.length kc,intV D.pos] 57));have hbw:=h.below.size;clear h hD hnd wf hu hfd hdd hdl hkid hit
 cases htw:eI t ups node with
 | true=>
   rw[htw]at HTW HFD;obtain⟨s,⟨na,nc,ia,ic⟩,aa,ac,da,dc⟩:=p;simp only at ea c0 hpl;subst ea;have HTWC:=Hd (HTW.out _ HBX.out);go_enter func138,ntmps138
   go_wp2_with (go_at_call 183;refine HTWC.out.mono ?_;rintro e w9 ⟨rfl,hb9⟩;have HB9:=Hd (HBX.out.trans (hb9.mono (by simp)));clear hb9)
   go_ret;refine⟨by rw[HFD.out];rfl,HO.out.below.trans (HB9.out.mono hbw),fun hz=>?_⟩;rw[HFD.out]at hz;simp at hz
 | false=>
   rw[htw]at HTW HFD;rw[if_neg Bool.false_ne_true]at HFD;clear htw
   cases hnk:aV D.kind with
   | false=>
     have HNK:=Hd hnk;rw[hnk]at HFD HDD;have HZ:Hid (iQ t ups decl node=0):=Hd (by rw[HFD.out];rfl);clear hnk;obtain⟨s,⟨na,nc,ia,ic⟩,aa,ac,da,dc⟩:=p;simp only at ea c0 hpl;subst ea;have HTWC:=Hd (HTW.out _ HBX.out);go_enter func138,ntmps138
     go_wp2_with (first
      | (go_at_call 183;go_loud (refine HTWC.out.mono ?_;rintro e w9 ⟨rfl,hb9⟩;have hb9':=HBX.out.trans (hb9.mono (by simp));have hk9:w9.cell? ⟨w.heap.size,0,none⟩=some (.int .u8 D.kind):=(hb9.cell (p:=⟨w.heap.size,0,none⟩) (by simp)).trans (by simp);have hs9:w.heap.size<w9.heap.size:=Nat.lt_of_lt_of_le (by simp) hb9.size;obtain⟨hc9,hf9⟩:=bcell hb9';have HB9:=Hd hb9';clear hb9 hb9'))
      | (go_at_call 184;refine(cN _ _).mono ?_;rw[HNK.out];rintro e w' ⟨rfl,rfl⟩))
     go_ret;refine⟨by rw[HZ.out];rfl,HO.out.below.trans (HB9.out.mono hbw),fun _=>?_⟩;rw[HDD.out,if_neg Bool.false_ne_true];exact HO.out.grow HB9.out
   | true=>
     have HNK:=Hd hnk;rw[hnk]at HFD HDD;rw[if_neg (by decide)]at HFD;rw[if_pos rfl]at HDD;clear hnk;obtain⟨x,hx⟩:∃x,aU t node=x:=⟨_,rfl⟩
     have HMU:=Hd hx;rw[hx]at HFD HDD;cases hx1:(x == -1)with
     | true=>
       have hxe:=eq_of_beq hx1;rw[hx1,if_pos rfl]at HFD;rw[hxe]at HMU;obtain⟨s,⟨na,nc,ia,ic⟩,aa,ac,da,dc⟩:=p;simp only at ea c0 hpl;subst ea;have HTWC:=Hd (HTW.out _ HBX.out);clear hx hx1 hxe;go_enter func138,ntmps138
       go_wp2_with (first
        | (go_at_call 183;go_loud (refine HTWC.out.mono ?_;rintro e w9 ⟨rfl,hb9⟩;have hb9':=HBX.out.trans (hb9.mono (by simp));have hk9:w9.cell? ⟨w.heap.size,0,none⟩=some (.int .u8 D.kind):=(hb9.cell (p:=⟨w.heap.size,0,none⟩) (by simp)).trans (by simp);have hs9:w.heap.size<w9.heap.size:=Nat.lt_of_lt_of_le (by simp) hb9.size;obtain⟨hc9,hf9⟩:=bcell hb9';have HB9:=Hd hb9';clear hb9 hb9'))
        | (go_at_call 184;refine(cN _ _).mono ?_;rw[HNK.out];rintro e w' ⟨rfl,rfl⟩)
        | (go_at_call 185;have hz:=HB9;refine(HME.out _ HB9.out).mono ?_;rw[HMU.out];rintro e w10 ⟨rfl,hb10⟩;have hb10':=HB9.out.trans (hb10.mono (Nat.le_of_lt hs9));have hk10:w10.cell? ⟨w.heap.size,0,none⟩=some (.int .u8 D.kind):=(hb10.cell (p:=⟨w.heap.size,0,none⟩) hs9).trans hk9;have hs10:w.heap.size<w10.heap.size:=Nat.lt_of_lt_of_le hs9 hb10.size;obtain⟨hc10,hf10⟩:=bcell hb10';have HB10:=Hd hb10';clear hb10 hb10'))
       go_ret;refine⟨by rw[HFD.out];rfl,HO.out.below.trans (HB10.out.mono hbw),fun hz=>?_⟩;rw[HFD.out]at hz;exact absurd hz (by decide)
     | false=>
       rw[hx1,if_neg Bool.false_ne_true]at HFD;obtain⟨hx0,hxn,hxs⟩:=uO WFF.out (t:=t) (node:=node) (by rw[hx];intro e;rw[e]at hx1;simp at hx1);rw[hx]at hx0 hxn hxs;obtain⟨m,rfl⟩:=Int.eq_ofNat_of_zero_le hx0;have hm:m<t.nodes.length:=by omega
       have hne1:((m:Int) == -1)=false:=hx1;obtain⟨b',o',ka',kc',ea',hb',m0,m1,m2,m3,m4,-⟩:=HO.out.prog.tree.nodes.at hm;rw[ea]at ea';simp only[Option.some.injEq,Addr.mk.injEq,and_true]at ea';obtain⟨rfl,rfl⟩:=ea';have hndm:=t.nd_at hm;obtain⟨D2,hD2⟩:∃D2,t.nodes[m]=D2:=⟨_,rfl⟩
       rw[hD2]at m0 m1 m2 m3 m4 hndm;rw[hndm]at HFD;rw[HND.out,hndm]at hxs;have HNM:=Hd hndm;obtain⟨g,hg,⟨y0,hy0⟩,hfz,-,-⟩:=HO.out.set hn (m:Int);have HGG:=Hd hg;have hgl:g<w.heap.size:=World.block_lt_of_cell? w _ hy0
       have HOWN:Hid (D.kind=21→∀W,Below w.heap.size w W→Calls prog 186 #[p.ptr,intV node,intV m] W (zq W (eW t node m))):=Hd fun h21 W hW=>
        AG p t ups decl node m W WFF.out hn hm (by rw[h21]at hxs;rw[hndm];simpa[suits]using hxs) HU.out (HO.out.prog.mono hW nlr)
       have HCT:Hid (∀W,Below w.heap.size w W→Calls prog 151 #[.slice p.da t.nodes.length p.dc,intV m] W fun e w'=>e=.returned (.bool (decl.contains (m:Int)))∧W=w'):=Hd fun W hW=>by
        have hr:=(HO.out.prog.mono hW nlr).decl;have e:=HDL.out;rw[←e]at hr⊢;exact kD p.da p.dc decl m W (by omega) hr
       have HSET:Hid (∀W,Below w.heap.size w W→OpenW w0 p t ups (decl.set node (m:Int)) (W.setCell ⟨g,node,none⟩ (intV m))):=Hd fun W hW=>by
        obtain⟨g',hg',-,-,hO,-⟩:=(HO.out.grow hW).set hn (m:Int);rw[hg]at hg';simp only[Option.some.injEq,Addr.mk.injEq,and_true]at hg';subst hg';exact hO
       clear hx hx1 hxs hD2 hndm hg;obtain⟨s,⟨na,nc,ia,ic⟩,aa,ac,da,dc⟩:=p;simp only at ea c0 c3 hpl HGG HCT;subst ea;have hga:=HGG.out;subst hga;have HTWC:=Hd (HTW.out _ HBX.out);cases h21:(D.kind==21)with
       | true=>
         have H21:=Hd (eq_of_beq h21);have h45:(D.kind==45)=false:=by rw[H21.out];rfl
         cases hn0:(D2.n==0)with
         | true=>
           cases hov:eW t node m with
           | true=>
             have HOV:=Hd hov;have HR:Hid (iQ t ups decl node=9):=Hd (by rw[HFD.out,h21,hn0,hov];rfl);clear hov;go_enter func138,ntmps138
             go_wp2_with (first
              | (go_at_call 183;refine HTWC.out.mono ?_;rintro e w9 ⟨rfl,hb9⟩;have hb9':=HBX.out.trans (hb9.mono (by simp));have hk9:w9.cell? ⟨w.heap.size,0,none⟩=some (.int .u8 D.kind):=(hb9.cell (p:=⟨w.heap.size,0,none⟩) (by simp)).trans (by simp);have hs9:w.heap.size<w9.heap.size:=Nat.lt_of_lt_of_le (by simp) hb9.size;obtain⟨hc9,hf9⟩:=bcell hb9';have HB9:=Hd hb9';clear hb9 hb9')
              | (go_at_call 184;refine(cN _ _).mono ?_;rw[HNK.out];rintro e w' ⟨rfl,rfl⟩)
              | (go_at_call 185;have hz:=HB9;refine(HME.out _ HB9.out).mono ?_;rw[HMU.out];rintro e w10 ⟨rfl,hb10⟩;have hb10':=HB9.out.trans (hb10.mono (Nat.le_of_lt hs9));have hk10:w10.cell? ⟨w.heap.size,0,none⟩=some (.int .u8 D.kind):=(hb10.cell (p:=⟨w.heap.size,0,none⟩) hs9).trans hk9;have hs10:w.heap.size<w10.heap.size:=Nat.lt_of_lt_of_le hs9 hb10.size;obtain⟨hc10,hf10⟩:=bcell hb10';have HB10:=Hd hb10';clear hb10 hb10')
              | (go_at_call 186;refine(HOWN.out H21.out _ HB10.out).mono ?_;rw[HOV.out];rintro e w11 ⟨rfl,hb11⟩;have hb11':=HB10.out.trans (hb11.mono (Nat.le_of_lt hs10));have hk11:w11.cell? ⟨w.heap.size,0,none⟩=some (.int .u8 D.kind):=(hb11.cell (p:=⟨w.heap.size,0,none⟩) hs10).trans hk10;have hs11:w.heap.size<w11.heap.size:=Nat.lt_of_lt_of_le hs10 hb11.size;obtain⟨hc11,hf11⟩:=bcell hb11';have HB11:=Hd hb11';clear hb11 hb11'))
             go_ret;refine⟨by rw[HR.out];rfl,HO.out.below.trans (HB11.out.mono hbw),fun hz=>?_⟩;rw[HR.out]at hz;exact absurd hz (by decide)
           | false=>
             have HOV:=Hd hov;have HR:Hid (iQ t ups decl node=0):=Hd (by rw[HFD.out,h21,hn0,hov,h45];rfl);clear hov;go_enter func138,ntmps138
             go_wp2_with (first
              | (go_at_call 183;refine HTWC.out.mono ?_;rintro e w9 ⟨rfl,hb9⟩;have hb9':=HBX.out.trans (hb9.mono (by simp));have hk9:w9.cell? ⟨w.heap.size,0,none⟩=some (.int .u8 D.kind):=(hb9.cell (p:=⟨w.heap.size,0,none⟩) (by simp)).trans (by simp);have hs9:w.heap.size<w9.heap.size:=Nat.lt_of_lt_of_le (by simp) hb9.size;obtain⟨hc9,hf9⟩:=bcell hb9';have HB9:=Hd hb9';clear hb9 hb9')
              | (go_at_call 184;refine(cN _ _).mono ?_;rw[HNK.out];rintro e w' ⟨rfl,rfl⟩)
              | (go_at_call 185;have hz:=HB9;refine(HME.out _ HB9.out).mono ?_;rw[HMU.out];rintro e w10 ⟨rfl,hb10⟩;have hb10':=HB9.out.trans (hb10.mono (Nat.le_of_lt hs9));have hk10:w10.cell? ⟨w.heap.size,0,none⟩=some (.int .u8 D.kind):=(hb10.cell (p:=⟨w.heap.size,0,none⟩) hs9).trans hk9;have hs10:w.heap.size<w10.heap.size:=Nat.lt_of_lt_of_le hs9 hb10.size;obtain⟨hc10,hf10⟩:=bcell hb10';have HB10:=Hd hb10';clear hb10 hb10')
              | (go_at_call 186;refine(HOWN.out H21.out _ HB10.out).mono ?_;rw[HOV.out];rintro e w11 ⟨rfl,hb11⟩;have hb11':=HB10.out.trans (hb11.mono (Nat.le_of_lt hs10));have hk11:w11.cell? ⟨w.heap.size,0,none⟩=some (.int .u8 D.kind):=(hb11.cell (p:=⟨w.heap.size,0,none⟩) hs10).trans hk10;have hs11:w.heap.size<w11.heap.size:=Nat.lt_of_lt_of_le hs10 hb11.size;obtain⟨hc11,hf11⟩:=bcell hb11';have HB11:=Hd hb11';clear hb11 hb11'))
             go_ret;exact⟨by rw[HR.out];rfl,(HSET.out _ HB11.out).below,fun _=>by rw[HDD.out];exact HSET.out _ HB11.out⟩
         | false=>
           have HR:Hid (iQ t ups decl node=0):=Hd (by rw[HFD.out,h21,hn0,h45];rfl);go_enter func138,ntmps138
           go_wp2_with (first
            | (go_at_call 183;refine HTWC.out.mono ?_;rintro e w9 ⟨rfl,hb9⟩;have hb9':=HBX.out.trans (hb9.mono (by simp));have hk9:w9.cell? ⟨w.heap.size,0,none⟩=some (.int .u8 D.kind):=(hb9.cell (p:=⟨w.heap.size,0,none⟩) (by simp)).trans (by simp);have hs9:w.heap.size<w9.heap.size:=Nat.lt_of_lt_of_le (by simp) hb9.size;obtain⟨hc9,hf9⟩:=bcell hb9';have HB9:=Hd hb9';clear hb9 hb9')
            | (go_at_call 184;refine(cN _ _).mono ?_;rw[HNK.out];rintro e w' ⟨rfl,rfl⟩)
            | (go_at_call 185;have hz:=HB9;refine(HME.out _ HB9.out).mono ?_;rw[HMU.out];rintro e w10 ⟨rfl,hb10⟩;have hb10':=HB9.out.trans (hb10.mono (Nat.le_of_lt hs9));have hk10:w10.cell? ⟨w.heap.size,0,none⟩=some (.int .u8 D.kind):=(hb10.cell (p:=⟨w.heap.size,0,none⟩) hs9).trans hk9;have hs10:w.heap.size<w10.heap.size:=Nat.lt_of_lt_of_le hs9 hb10.size;obtain⟨hc10,hf10⟩:=bcell hb10';have HB10:=Hd hb10';clear hb10 hb10'))
           go_ret;exact⟨by rw[HR.out];rfl,(HSET.out _ HB10.out).below,fun _=>by rw[HDD.out];exact HSET.out _ HB10.out⟩
       | false=>
         cases h45:(D.kind==45)with
         | true=>
           cases hcv:decl.contains (m:Int)with
           | true=>
             have HCV:=Hd hcv;have HR:Hid (iQ t ups decl node=9):=Hd (by rw[HFD.out,h21,h45,hcv];rfl);clear hcv;go_enter func138,ntmps138
             go_wp2_with (first
              | (go_at_call 183;refine HTWC.out.mono ?_;rintro e w9 ⟨rfl,hb9⟩;have hb9':=HBX.out.trans (hb9.mono (by simp));have hk9:w9.cell? ⟨w.heap.size,0,none⟩=some (.int .u8 D.kind):=(hb9.cell (p:=⟨w.heap.size,0,none⟩) (by simp)).trans (by simp);have hs9:w.heap.size<w9.heap.size:=Nat.lt_of_lt_of_le (by simp) hb9.size;obtain⟨hc9,hf9⟩:=bcell hb9';have HB9:=Hd hb9';clear hb9 hb9')
              | (go_at_call 184;refine(cN _ _).mono ?_;rw[HNK.out];rintro e w' ⟨rfl,rfl⟩)
              | (go_at_call 185;have hz:=HB9;refine(HME.out _ HB9.out).mono ?_;rw[HMU.out];rintro e w10 ⟨rfl,hb10⟩;have hb10':=HB9.out.trans (hb10.mono (Nat.le_of_lt hs9));have hk10:w10.cell? ⟨w.heap.size,0,none⟩=some (.int .u8 D.kind):=(hb10.cell (p:=⟨w.heap.size,0,none⟩) hs9).trans hk9;have hs10:w.heap.size<w10.heap.size:=Nat.lt_of_lt_of_le hs9 hb10.size;obtain⟨hc10,hf10⟩:=bcell hb10';have HB10:=Hd hb10';clear hb10 hb10')
              | (go_at_call 151;refine(HCT.out _ HB10.out).mono ?_;rw[HCV.out];rintro e w' ⟨rfl,rfl⟩))
             go_ret;refine⟨by rw[HR.out];rfl,HO.out.below.trans (HB10.out.mono hbw),fun hz=>?_⟩;rw[HR.out]at hz;exact absurd hz (by decide)
           | false=>
             have HCV:=Hd hcv;have HR:Hid (iQ t ups decl node=0):=Hd (by rw[HFD.out,h21,h45,hcv];rfl);clear hcv;go_enter func138,ntmps138
             go_wp2_with (first
              | (go_at_call 183;refine HTWC.out.mono ?_;rintro e w9 ⟨rfl,hb9⟩;have hb9':=HBX.out.trans (hb9.mono (by simp));have hk9:w9.cell? ⟨w.heap.size,0,none⟩=some (.int .u8 D.kind):=(hb9.cell (p:=⟨w.heap.size,0,none⟩) (by simp)).trans (by simp);have hs9:w.heap.size<w9.heap.size:=Nat.lt_of_lt_of_le (by simp) hb9.size;obtain⟨hc9,hf9⟩:=bcell hb9';have HB9:=Hd hb9';clear hb9 hb9')
              | (go_at_call 184;refine(cN _ _).mono ?_;rw[HNK.out];rintro e w' ⟨rfl,rfl⟩)
              | (go_at_call 185;have hz:=HB9;refine(HME.out _ HB9.out).mono ?_;rw[HMU.out];rintro e w10 ⟨rfl,hb10⟩;have hb10':=HB9.out.trans (hb10.mono (Nat.le_of_lt hs9));have hk10:w10.cell? ⟨w.heap.size,0,none⟩=some (.int .u8 D.kind):=(hb10.cell (p:=⟨w.heap.size,0,none⟩) hs9).trans hk9;have hs10:w.heap.size<w10.heap.size:=Nat.lt_of_lt_of_le hs9 hb10.size;obtain⟨hc10,hf10⟩:=bcell hb10';have HB10:=Hd hb10';clear hb10 hb10')
              | (go_at_call 151;refine(HCT.out _ HB10.out).mono ?_;rw[HCV.out];rintro e w' ⟨rfl,rfl⟩))
             go_ret;exact⟨by rw[HR.out];rfl,(HSET.out _ HB10.out).below,fun _=>by rw[HDD.out];exact HSET.out _ HB10.out⟩
         | false=>
           have HR:Hid (iQ t ups decl node=0):=Hd (by rw[HFD.out,h21,h45];rfl);go_enter func138,ntmps138
           go_wp2_with (first
            | (go_at_call 183;refine HTWC.out.mono ?_;rintro e w9 ⟨rfl,hb9⟩;have hb9':=HBX.out.trans (hb9.mono (by simp));have hk9:w9.cell? ⟨w.heap.size,0,none⟩=some (.int .u8 D.kind):=(hb9.cell (p:=⟨w.heap.size,0,none⟩) (by simp)).trans (by simp);have hs9:w.heap.size<w9.heap.size:=Nat.lt_of_lt_of_le (by simp) hb9.size;obtain⟨hc9,hf9⟩:=bcell hb9';have HB9:=Hd hb9';clear hb9 hb9')
            | (go_at_call 184;refine(cN _ _).mono ?_;rw[HNK.out];rintro e w' ⟨rfl,rfl⟩)
            | (go_at_call 185;have hz:=HB9;refine(HME.out _ HB9.out).mono ?_;rw[HMU.out];rintro e w10 ⟨rfl,hb10⟩;have hb10':=HB9.out.trans (hb10.mono (Nat.le_of_lt hs9));have hk10:w10.cell? ⟨w.heap.size,0,none⟩=some (.int .u8 D.kind):=(hb10.cell (p:=⟨w.heap.size,0,none⟩) hs9).trans hk9;have hs10:w.heap.size<w10.heap.size:=Nat.lt_of_lt_of_le hs9 hb10.size;obtain⟨hc10,hf10⟩:=bcell hb10';have HB10:=Hd hb10';clear hb10 hb10'))
           go_ret;exact⟨by rw[HR.out];rfl,(HSET.out _ HB10.out).below,fun _=>by rw[HDD.out];exact HSET.out _ HB10.out⟩
end
end Go.Proofs.YtokdgiphdnjeoaaGreatDoor
