/- Part of a proof. -/
import Derived.Test.YtipjhljnkocioaaGreatDoorC42
import Derived.Test.YtipjhljnkocioaaGreatDoorDN04
set_option maxRecDepth 100000
set_option maxHeartbeats 8000000
set_option linter.unusedVariables false
set_option linter.unusedSimpArgs false
open Go.Proofs.Tryz
namespace Go.Proofs.YtipjhljnkocioaaGreatDoor
section
open Go Go.RowKit
theorem PN{t:Tr}{l:List Int}{item:Int}(h0 : -1≤item):∀(m:Nat) (j:Int),NS t l item m j → -1≤j
 |0,j,h=>by rw[show j=item from h];exact h0
 | m+1,j,h=>by
   rw[oE]at h;rcases h with h|⟨_,n,_,_,_,rfl⟩
   ·exact PN h0 m j h
   ·exact uG _ _
theorem OS{t:Tr}{S:List Int}(wf:WF t)(G:Good t S){k:Nat}(hk:k<t.items.length)(bd:Bd t){M:List Int}(h1:M.Nodup)(h2:∀x,x∈M↔x≠(k:Int)∧NS t (zh t t.nodes.length) k (k+1) x):(bM M).length≤2000000:=by
 rw[(cK M).length_eq]
 have hsub:∀x∈M,x∈(List.range (k+2)).map fun i:Nat=>(i:Int)-1:=fun x hx=>by
  have hx2:=((h2 x).1 hx).2;have h3:=PN (by omega) _ _ hx2;have h4:=NS.le wf G _ _ hx2;exact List.mem_map.2 ⟨(x+1).toNat,List.mem_range.2 (by omega),by omega⟩
 have:=nL M _ h1 hsub;have h5:=bd.i;simp only[List.length_map,List.length_range]at this;omega
theorem OR{t:Tr}{item:Int}(bd:Bd t){l:List Int}{nd er:Int}(hr:zc t=(l,nd,er)) :
 (er≠0∧eF t=([],er)∧(fI t item=er∧fI t item≠0)) ∨
 (er=0∧(WF t∧Good t (dB t)∧l=zh t t.nodes.length)∧eF t=(unused t l,0) ∧
  ((item<0∧(fI t item=7∧fI t item≠0))∨∃k:Nat,item=k∧((t.items.length≤k∧(fI t k=7∧fI t k≠0))∨(k<t.items.length∧fI t k=0)))):=by
 have he:(zc t).2.2=er:=by rw[hr]
 by_cases her:er=0
 ·have hr0:(zc t).2.2=0:=by rw[he];exact her
  obtain⟨hwf,hgood⟩:=OT bd hr0;have hres:=ON hr0;have hl:l=zh t t.nodes.length:=by have:=eO hres.check hres.err;rw[hr]at this;exact congrArg (·.1) this
  refine .inr ⟨her,⟨hwf,hgood,hl⟩,by unfold eF;rw[if_pos hr0,hl],?_⟩;by_cases hi0:item<0
  ·exact .inl ⟨hi0,by unfold fI;rw[if_neg (fun hh=>hh hr0),if_pos (.inl hi0)];exact⟨rfl,by decide⟩⟩
  ·obtain⟨k,rfl⟩:=Int.eq_ofNat_of_zero_le (Int.not_lt.1 hi0)
   refine .inr ⟨k,rfl,?_⟩;by_cases hk:(t.items.length:Int)≤k
   ·exact .inl ⟨by omega,by unfold fI;rw[if_neg (fun hh=>hh hr0),if_pos (.inr hk)];exact⟨rfl,by decide⟩⟩
   ·exact .inr ⟨by omega,by unfold fI;rw[if_neg (fun hh=>hh hr0),if_neg (by omega)]⟩
 ·have hr0:(zc t).2.2≠0:=by rw[he];exact her
  exact .inl ⟨her,by unfold eF;rw[if_neg hr0,he],by unfold fI;rw[if_pos hr0,he];exact⟨rfl,her⟩⟩
theorem PL{t:Tr}(wf:WF t):∀x∈zh t t.nodes.length,x<(t.nodes.length:Int):=by
 rw[jF];intro x hx;obtain⟨n,-,rfl⟩:=List.mem_map.1 hx;exact(cU wf).2
theorem OU(v:TreeV)(t:Tr)(item:Int)(w:World)(rg:Rg t)(hg:GV w)(hit : -9223372036854775808≤item∧item≤9223372036854775807)(h:IsTree w v t) :
 Calls prog 6 #[v.val t,intV item] w (zn w true):=by
 have HT:Hid (IsTree (boxT w v t) v t):=Hd ((iH w v t).tree h);have HG:=Hd hg;have HIT:=Hd hit;have A0:Hid (Al [boxT w v t,w] (boxT w v t)):=Hd ⟨Ext.refl _,iH w v t,trivial⟩;have C0:Hid ((boxT w v t).cell? ⟨w.heap.size,0,none⟩=some (.slice v.na t.nodes.length v.nc)∧(boxT w v t).cell? ⟨w.heap.size,1,none⟩=some (.slice v.ia t.items.length v.ic)):=Hd ⟨zG rfl,zG rfl⟩;obtain⟨na,nc,ia,ic⟩:=v
 cases hl:fZ t with
 | true=>
   have HL:=Hd hl;clear h hg hl hit;unfold TreeV.val;go_enter func6,ntmps6
   go_wp2_with (first
    | (have:=A1;clear this;go_at_call 14;refine(zW w1 (A1.out.2.1.gv HG.out)).mono ?_;rintro e w30 ⟨rfl,hb⟩;have hx:Ext w1 w30:=hb;have A30:=Hd (A1.out.step hx);clear c0_0;clear c0_1;have c0_0:=A30.out.1.cell C0.out.1;have c0_1:=A30.out.1.cell C0.out.2;have EE:=Hd A30.out.2.1;clear hx hb A1)
    | (have:=A0;clear this;go_at_call 13;refine(cF ⟨na,nc,ia,ic⟩ t (boxT w ⟨na,nc,ia,ic⟩ t) HT.out).mono ?_;rw[HL.out];rintro e w1 ⟨rfl,hb⟩;have hx:Ext (boxT w ⟨na,nc,ia,ic⟩ t) w1:=hb;have A1:=Hd (A0.out.step hx);have c0_0:=A1.out.1.cell C0.out.1;have c0_1:=A1.out.1.cell C0.out.2;clear hx hb A0))
   go_ret;exact⟨rfl,EE.out⟩
 | false=>
   have HL:=Hd hl;obtain⟨bd,-,-⟩:=nK hl;have HBD:=Hd bd;have HRG:=Hd rg;obtain⟨r,hr⟩:∃r,zc t=r:=⟨_,rfl⟩
   have HRL:=Hd (show r.1.length≤1000000 from by rw[←hr];have:=dK t;have:=bd.n;omega);obtain⟨l,nd,er⟩:=r;have HR:=Hd hr;have hc:=OR (item:=item) bd hr;clear h hg hl rg bd hr hit;unfold TreeV.val;rcases hc with⟨her,hU,hN⟩|⟨rfl,hO,hU,⟨hi0,hN⟩|⟨k,rfl,⟨hk2,hN⟩|⟨hk2,hZ⟩⟩⟩
   all_goals
    have HU:=Hd hU;clear hU;try (have HO:=Hd hO;clear hO)
    try (have HNE:=Hd hN;clear hN)
    try (have HZ:=Hd hZ;have HK:=Hd hk2;clear hZ)
    go_enter func6,ntmps6
    go_wp2_with (first
     | (have:=A10;clear this;go_at_call 14;refine(zW w10 (A10.out.2.2.2.2.2.2.2.1.gv HG.out)).mono ?_;rintro e w30 ⟨rfl,hb⟩;have hx:Ext w10 w30:=hb;have A30:=Hd (A10.out.step hx);clear c0_0;clear c0_1;clear c2_0;clear c2_1;clear c6_0;have c0_0:=A30.out.2.2.2.2.2.2.1.cell C0.out.1;have c0_1:=A30.out.2.2.2.2.2.2.1.cell C0.out.2;have c2_0:=A30.out.2.2.2.2.2.1.cell C2.out.1;have c2_1:=A30.out.2.2.2.2.2.1.cell C2.out.2;have c6_0:=A30.out.2.2.1.cell C6.out;have EE:=Hd A30.out.2.2.2.2.2.2.2.1;clear hx hb A10)
     | (have:=A9;clear this;go_at_call 19;refine(zX a4 a9 c4 c9 (bM M) (bM M) w9 (Nat.le_trans (OS HO.out.1 HO.out.2.1 HK.out HBD.out HM1.out HM2.out) (by decide)) (Nat.le_trans (OS HO.out.1 HO.out.2.1 HK.out HBD.out HM1.out HM2.out) (by decide)) (A9.out.2.2.2.1.ints L4.out) (A9.out.1.ints L9.out)).mono ?_;rw[show(bM M==bM M)=true from by simp];rintro e w10 ⟨rfl,hb⟩;have hx:Ext w9 w10:=hb;have A10:=Hd (A9.out.step hx);clear c0_0;clear c0_1;clear c2_0;clear c2_1;clear c6_0;have c0_0:=A10.out.2.2.2.2.2.2.1.cell C0.out.1;have c0_1:=A10.out.2.2.2.2.2.2.1.cell C0.out.2;have c2_0:=A10.out.2.2.2.2.2.1.cell C2.out.1;have c2_1:=A10.out.2.2.2.2.2.1.cell C2.out.2;have c6_0:=A10.out.2.2.1.cell C6.out;clear hx hb A9)
     | (have:=A8;clear this;go_at_call 14;refine(zW w8 (A8.out.2.2.2.2.2.2.1.gv HG.out)).mono ?_;rintro e w30 ⟨rfl,hb⟩;have hx:Ext w8 w30:=hb;have A30:=Hd (A8.out.step hx);clear c0_0;clear c0_1;clear c2_0;clear c2_1;clear c6_0;have c0_0:=A30.out.2.2.2.2.2.1.cell C0.out.1;have c0_1:=A30.out.2.2.2.2.2.1.cell C0.out.2;have c2_0:=A30.out.2.2.2.2.1.cell C2.out.1;have c2_1:=A30.out.2.2.2.2.1.cell C2.out.2;have c6_0:=A30.out.2.1.cell C6.out;have EE:=Hd A30.out.2.2.2.2.2.2.1;clear hx hb A8)
     | (have:=A8;clear this;go_at_call 34;refine(OY ⟨na,nc,ia,ic⟩ t a6 c6 l (k:Int) w8 HBD.out (by rw[HO.out.2.2,zL]) (HO.out.2.2▸PL HO.out.1) (A8.out.2.2.2.2.2.1.tree HT.out) (A8.out.2.1.ints L6.out)).mono ?_;rintro e w9 ⟨L,hL1,hL2,h9⟩;have hEQ:bM M=bM L.tail:=PB HO.out.1 HO.out.2.1 HK.out (HO.out.2.2▸hL1) (HO.out.2.2▸hL2) HM1.out HM2.out;rw[←hEQ]at h9;obtain⟨a9,c9,rfl,ho,hb⟩:=h9;have hx:Ext w8 w9:=hb;have A9:=Hd (A8.out.step hx);clear c0_0;clear c0_1;clear c2_0;clear c2_1;clear c6_0;have c0_0:=A9.out.2.2.2.2.2.1.cell C0.out.1;have c0_1:=A9.out.2.2.2.2.2.1.cell C0.out.2;have c2_0:=A9.out.2.2.2.2.1.cell C2.out.1;have c2_1:=A9.out.2.2.2.2.1.cell C2.out.2;have c6_0:=A9.out.2.1.cell C6.out;have L9:Hid (Ints w9 a9 c9 (bM M)):=Hd (zq ho);clear ho hEQ hL1 hL2;have A9:=Hd A9.out.new;clear hx hb A8)
     | (have:=A7;clear this;go_at_call 19;refine(zX a3 a7 c3 c7 (unused t l) (unused t l) w7 (Nat.le_trans (Nat.le_trans (aP _ _) HBD.out.n) (by decide)) (Nat.le_trans (Nat.le_trans (aP _ _) HBD.out.n) (by decide)) (A7.out.2.2.2.1.ints L3.out) (A7.out.1.ints L7.out)).mono ?_;rw[show(unused t l==unused t l)=true from by simp];rintro e w8 ⟨rfl,hb⟩;have hx:Ext w7 w8:=hb;have A8:=Hd (A7.out.step hx);clear c0_0;clear c0_1;clear c2_0;clear c2_1;clear c6_0;have c0_0:=A8.out.2.2.2.2.2.1.cell C0.out.1;have c0_1:=A8.out.2.2.2.2.2.1.cell C0.out.2;have c2_0:=A8.out.2.2.2.2.1.cell C2.out.1;have c2_1:=A8.out.2.2.2.2.1.cell C2.out.2;have c6_0:=A8.out.2.1.cell C6.out;clear hx hb A7)
     | (have:=A6;clear this;go_at_call 14;refine(zW (w6.alloc (.cells #[.slice a6 l.length c6] 30)) (A6.out.2.2.2.2.2.1.gv HG.out)).mono ?_;rintro e w30 ⟨rfl,hb⟩;have hx:Ext (w6.alloc (.cells #[.slice a6 l.length c6] 30)) w30:=hb;have A30:=Hd (A6.out.step hx);clear c0_0;clear c0_1;clear c2_0;clear c2_1;have c0_0:=A30.out.2.2.2.2.1.cell C0.out.1;have c0_1:=A30.out.2.2.2.2.1.cell C0.out.2;have c2_0:=A30.out.2.2.2.1.cell C2.out.1;have c2_1:=A30.out.2.2.2.1.cell C2.out.2;have c6_0:=A30.out.1.cell C6.out;have EE:=Hd A30.out.2.2.2.2.2.1;clear hx hb A6)
     | (have:=A6;clear this;go_at_call 33;refine(OW ⟨na,nc,ia,ic⟩ t a6 c6 l (w6.alloc (.cells #[.slice a6 l.length c6] 30)) HO.out.1 (by rw[HO.out.2.2,zL]) (A6.out.2.2.2.2.1.tree HT.out) (A6.out.1.ints L6.out)).mono ?_;rintro e w7 ⟨a7,c7,rfl,ho,hb⟩;have hx:Ext (w6.alloc (.cells #[.slice a6 l.length c6] 30)) w7:=hb;have A7:=Hd (A6.out.step hx);clear c0_0;clear c0_1;clear c2_0;clear c2_1;have c0_0:=A7.out.2.2.2.2.1.cell C0.out.1;have c0_1:=A7.out.2.2.2.2.1.cell C0.out.2;have c2_0:=A7.out.2.2.2.1.cell C2.out.1;have c2_1:=A7.out.2.2.2.1.cell C2.out.2;have c6_0:=A7.out.1.cell C6.out;have L7:=Hd (zq ho);clear ho;have A7:=Hd A7.out.new;clear hx hb A6)
     | (have:=A5;clear this;go_at_call 17;refine(dR ⟨na,nc,ia,ic⟩ t w5 HBD.out (zT HBD.out) (A5.out.2.2.2.1.tree HT.out)).mono ?_;rw[HR.out];rintro e w6 ⟨a6,c6,rfl,ho,hb⟩;have hx:Ext w5 w6:=hb;have A6:=Hd ((A5.out.step hx).al (.cells #[.slice a6 l.length c6] 30)).new;clear c0_0;clear c0_1;clear c2_0;clear c2_1;have c0_0:=A6.out.2.2.2.2.1.cell C0.out.1;have c0_1:=A6.out.2.2.2.2.1.cell C0.out.2;have c2_0:=A6.out.2.2.2.1.cell C2.out.1;have c2_1:=A6.out.2.2.2.1.cell C2.out.2;have C6:Hid ((w6.alloc (.cells #[.slice a6 l.length c6] 30)).cell? ⟨w6.heap.size,0,none⟩=_):=Hd (zG rfl);have L6:Hid (Ints (w6.alloc (.cells #[.slice a6 l.length c6] 30)) a6 c6 l):=Hd (((Ext.refl w6).alloc _).ints (zq ho));clear ho;clear hx hb A5)
     | (have:=A4;clear this;go_at_call 18;refine(bN ⟨na2,nc2,ia2,ic2⟩ ⟨na,nc,ia,ic⟩ t t w4 HBD.out HBD.out (A4.out.2.2.1.tree HT2.out) (A4.out.2.2.2.1.tree HT.out)).mono ?_;rw[show decide (t=t)=true from decide_eq_true rfl];rintro e w5 ⟨rfl,hb⟩;have hx:Ext w4 w5:=hb;have A5:=Hd (A4.out.step hx);clear c0_0;clear c0_1;clear c2_0;clear c2_1;have c0_0:=A5.out.2.2.2.1.cell C0.out.1;have c0_1:=A5.out.2.2.2.1.cell C0.out.2;have c2_0:=A5.out.2.2.1.cell C2.out.1;have c2_1:=A5.out.2.2.1.cell C2.out.2;clear hx hb A4)
     | (have:=A3;clear this;go_at_call 32;have:=HK;clear this;refine(jV ⟨na2,nc2,ia2,ic2⟩ t _ w3 HBD.out HRG.out (A3.out.2.2.2.1.gv HG.out) (A3.out.2.1.tree HT2.out) HIT.out).mono ?_;rintro e w4 (⟨-,M,hM1,hM2,h9⟩|⟨h9,-⟩);rotate_left;(exact absurd HZ.out h9);obtain⟨a4,c4,rfl,ho,hb⟩:=h9;have hx:Ext w3 w4:=hb;have A4:=Hd (A3.out.step hx);clear c0_0;clear c0_1;clear c2_0;clear c2_1;have c0_0:=A4.out.2.2.1.cell C0.out.1;have c0_1:=A4.out.2.2.1.cell C0.out.2;have c2_0:=A4.out.2.1.cell C2.out.1;have c2_1:=A4.out.2.1.cell C2.out.2;have HM1:=Hd hM1;have HM2:Hid (∀x,x∈M↔x≠(k:Int)∧NS t (zh t t.nodes.length) k (k+1) x):=Hd hM2;have L4:Hid (Ints w4 a4 c4 (bM M)):=Hd (zq ho);clear ho hM1 hM2;have A4:=Hd A4.out.new;clear hx hb A3)
     | (have:=A3;clear this;go_at_call 32;refine(jV ⟨na2,nc2,ia2,ic2⟩ t _ w3 HBD.out HRG.out (A3.out.2.2.2.1.gv HG.out) (A3.out.2.1.tree HT2.out) HIT.out).mono ?_;rintro e w4 (⟨h9,-⟩|⟨-,h9⟩);(exact absurd h9 HNE.out.2);rw[HNE.out.1]at h9;obtain⟨a4,c4,rfl,ho,hb⟩:=h9;have hx:Ext w3 w4:=hb;have A4:=Hd (A3.out.step hx);clear c0_0;clear c0_1;clear c2_0;clear c2_1;have c0_0:=A4.out.2.2.1.cell C0.out.1;have c0_1:=A4.out.2.2.1.cell C0.out.2;have c2_0:=A4.out.2.1.cell C2.out.1;have c2_1:=A4.out.2.1.cell C2.out.2;clear ho;have A4:=Hd A4.out.new;clear hx hb A3)
     | (have:=A2;clear this;go_at_call 31;refine(mQ ⟨na2,nc2,ia2,ic2⟩ t (w2.alloc (.cells #[.slice na2 t.nodes.length nc2,.slice ia2 t.items.length ic2] 25)) HBD.out HRG.out (A2.out.2.2.1.gv HG.out) (A2.out.1.tree HT2.out)).mono ?_;rw[HU.out];rintro e w3 ⟨a3,c3,rfl,ho,hb⟩;have hx:Ext (w2.alloc (.cells #[.slice na2 t.nodes.length nc2,.slice ia2 t.items.length ic2] 25)) w3:=hb;have A3:=Hd (A2.out.step hx);clear c0_0;clear c0_1;have c0_0:=A3.out.2.1.cell C0.out.1;have c0_1:=A3.out.2.1.cell C0.out.2;have c2_0:=A3.out.1.cell C2.out.1;have c2_1:=A3.out.1.cell C2.out.2;have L3:=Hd (zq ho);clear ho;have A3:=Hd A3.out.new;clear hx hb A2)
     | (have:=A1;clear this;go_at_call 15;refine(iG ⟨na,nc,ia,ic⟩ t w1 HBD.out (A1.out.1.tree HT.out)).mono ?_;rintro e w2 h9;obtain⟨⟨na2,nc2,ia2,ic2⟩,rfl,ht,hb⟩:=kT h9;have hx:Ext w1 w2:=hb;have A2:=Hd ((A1.out.step hx).al (.cells #[.slice na2 t.nodes.length nc2,.slice ia2 t.items.length ic2] 25)).new;clear c0_0;clear c0_1;have c0_0:=A2.out.2.1.cell C0.out.1;have c0_1:=A2.out.2.1.cell C0.out.2;have C2:Hid ((w2.alloc (.cells #[.slice na2 t.nodes.length nc2,.slice ia2 t.items.length ic2] 25)).cell? ⟨w2.heap.size,0,none⟩=_∧(w2.alloc (.cells #[.slice na2 t.nodes.length nc2,.slice ia2 t.items.length ic2] 25)).cell? ⟨w2.heap.size,1,none⟩=_):=Hd ⟨zG rfl,zG rfl⟩;unfold TreeV.val;have HT2:Hid (IsTree (w2.alloc (.cells #[.slice na2 t.nodes.length nc2,.slice ia2 t.items.length ic2] 25)) ⟨na2,nc2,ia2,ic2⟩ t):=Hd (((Ext.refl w2).alloc _).tree ht);clear ht;clear hx hb A1)
     | (have:=A0;clear this;go_at_call 13;refine(cF ⟨na,nc,ia,ic⟩ t (boxT w ⟨na,nc,ia,ic⟩ t) HT.out).mono ?_;rw[HL.out];rintro e w1 ⟨rfl,hb⟩;have hx:Ext (boxT w ⟨na,nc,ia,ic⟩ t) w1:=hb;have A1:=Hd (A0.out.step hx);have c0_0:=A1.out.1.cell C0.out.1;have c0_1:=A1.out.1.cell C0.out.2;clear hx hb A0))
   all_goals
    go_ret;exact⟨rfl,EE.out⟩
end
end Go.Proofs.YtipjhljnkocioaaGreatDoor
