/- Part of a proof. -/
import Derived.Test.YtcdkdiedphhdhaaGreatDoorRows
import Derived.Test.YtcdkdiedphhdhaaGreatDoorRK06
set_option maxRecDepth 100000
set_option maxHeartbeats 8000000
set_option linter.unusedVariables false
set_option linter.unusedSimpArgs false
open Go.Proofs.Tryz
namespace Go.Proofs.YtcdkdiedphhdhaaGreatDoor
section
open Go Go.RowKit
structure RnW (w X:World) (tb:Nat) (v:TreeV) (t:Tr) (oa:Option Addr) (oc:Nat):Prop where
 kn:KnW w X tb v t
 of:Strs X oa oc (exT t)
theorem RnW.step{w X X':World}{tb:Nat}{v:TreeV}{t:Tr}{oa:Option Addr}{oc:Nat}(h:RnW w X tb v t oa oc)(hb:Below X.heap.size X X'):RnW w X' tb v t oa oc:=
 ⟨h.kn.step hb,Row.mono h.of hb nlr⟩
structure RxW (w X:World) (tb xb:Nat) (v u:TreeV) (t t':Tr) (oa:Option Addr) (oc:Nat):Prop where
 rn:RnW w X tb v t oa oc
 x:KnW w X xb u t'
theorem RxW.step{w X X':World}{tb xb:Nat}{v u:TreeV}{t t':Tr}{oa:Option Addr}{oc:Nat}(h:RxW w X tb xb v u t t' oa oc)(hb:Below X.heap.size X X'):RxW w X' tb xb v u t t' oa oc:=
 ⟨h.rn.step hb,h.x.step hb⟩
structure RkW (w X:World) (tb xb kb:Nat) (v u:TreeV) (t t':Tr) (oa:Option Addr) (oc:Nat) (pa:Option Addr) (pc:Nat):Prop where
 rx:RxW w X tb xb v u t t' oa oc
 k0:X.cell? ⟨kb,0,none⟩=some (.slice pa t'.nodes.length pc)
 of:Strs X pa pc (exT t')
theorem RkW.step{w X X':World}{tb xb kb:Nat}{v u:TreeV}{t t':Tr}{oa:Option Addr}{oc:Nat}{pa:Option Addr}{pc:Nat}(h:RkW w X tb xb kb v u t t' oa oc pa pc)(hb:Below X.heap.size X X'):RkW w X' tb xb kb v u t t' oa oc pa pc:=
 ⟨h.rx.step hb,(hb.cell (p:=⟨kb,0,none⟩) (World.block_lt_of_cell? X _ h.k0)).trans h.k0,Row.mono h.of hb nlr⟩
theorem WG{t:Tr}(h:(zb t).2.2=0){k:Nat}(hk:k<t.nodes.length):(TJ t k).2=if zn t k then 0 else 7:=by
 have e:zk t k (zn t)=if zn t k then 0 else 7:=by
  unfold zk;rw[if_neg (by rw[h];simp)];have h1:decide ((k:Int)<0)=false:=by simp
  have h2:decide ((t.nodes.length:Int)<=(k:Int))=false:=by simp;omega
  rw[h1,h2];cases zn t k<;>rfl
 unfold TJ;rw[e];cases zn t k<;>rfl
theorem VX{t:Tr}(bd:Bd t)(hr:(zb t).2.2=0){k:Nat}(hk:k<t.nodes.length):(ofK (exT t) (k:Int)).length<=100000:=by
 rw[TI hk];split
 .have h2:=oC bd hr (k:Int)
  rw[eS (by omega) hk]at h2;exact h2
 simp
theorem UD(s:List UInt8)(vn:Nat)(w:World)(hvn:vn<256)(hs:s.length<=maxLen)(hg:GVK w) :
 Calls prog 5 #[strV s,.int .u8 vn] w (zD w true):=by
 have hmo:prog.follows .mixedOrders=true:=by kernel_rfl
 have HC:=Hd (lL s w hs hg);have hge:∀X,Below w.heap.size w X->GVK X:=fun X h=>hg.mono h nlr;have HG:=Hd hge;clear hg hge;go_enter func5,ntmps5
 go_upto_region 2 with(
  go_at_call 6
  refine HC.o.mono ?_;rintro e w1⟨⟨na,nc,ia,ic⟩,t,oa,oc,L,da,dc,l,ok,rfl,ht,hso,-,h8,hK,hrg,hA⟩;unfold TreeV.val;have HX:=Hd (KnW.box h8 ht);have HA:=Hd hso;have Hb:=Hd hK;have Hk:=Hd hrg;have Hn:=Hd hA;have hn3:=hK.n;have hi3:=hK.i
  clear h8 ht hso hK hrg hA)
 try simp only at HX
 rcases ok with _|_
 .go_wp2_with (go_at_call 7;refine(jY _ (HG.o _ HX.o.base)).mono ?_;rintro e w2 ⟨rfl,hB⟩;have HP:=Hd (HX.o.step hB).base;clear hB)
  go_ret;exact⟨rfl,HP.o⟩
 obtain⟨hA,rfl,-⟩:=Hn.o rfl;have Hj:=Hd hA;obtain⟨wf,G⟩:=zi Hb.o hA.1;have H5:=Hd wf;have HT:=Hd G;have ha:Below w1.heap.size w1 (w1.alloc (.cells #[.slice na t.nodes.length nc,.slice ia t.items.length ic] 25)):=(Below.refl _ w1).alloc nlr _;have Ht:Hid (RnW w (w1.alloc (.cells #[.slice na t.nodes.length nc,.slice ia t.items.length ic] 25)) w1.heap.size ⟨na,nc,ia,ic⟩ t oa oc):=Hd ⟨HX.o,Row.mono HA.o ha nlr⟩;obtain⟨X1,hM⟩:∃X,w1.alloc (.cells #[.slice na t.nodes.length nc,.slice ia t.items.length ic] 25)=X:=⟨_,rfl⟩
 obtain⟨tb,hW⟩:∃g,w1.heap.size=g:=⟨_,rfl⟩
 rw[hM,hW]at Ht;rw[hM,hW];have hS:(exT t).length=t.nodes.length:=cP t;rw[hS];have HR:=Hd hS;clear hM hW HC HX HA hA wf G ha Hn hS;go_wp2
 go_loopw [9,10] (fun t9 t10 wr=>∃(k:Nat) (q:List Int) (al:Option Addr) (cl:Nat),t10=.int .i64 k/\t9=.slice al q.length cl/\k<=t.nodes.length/\q.length<=k/\Hid (q=idxs (fun i=>zn t i) k)/\Hid (Below X1.heap.size X1 wr)/\Hid (OwnI wr X1.heap.size al cl q)/\Hid (∀i:Nat,i<k->(t.nd i).text≠quite)) (fun _ i _=>t.nodes.length-(intOf i).toNat)
 case atStart=>exact⟨0,[],_,_,rfl,rfl,Nat.zero_le _,nlr,Hd rfl,Hd (brf.alloc nlr _),Hd (tO X1 _ _ rfl nlr),Hd (fun i h=>absurd h (Nat.not_lt_zero _))⟩
 case round=>
  obtain⟨k,q,al,cl,rfl,rfl,hk,hqk,HQ,HB,HL,HF⟩:=hrel;have HO:=Hd (Ht.o.step HB.o);have c0:=HO.o.kn.c0;have c1:=HO.o.kn.c1;have he:=World.block_lt_of_cell? wr _ c0;simp only at c0 c1 he;by_cases hlt:k<t.nodes.length
  .as_aux_lemma=>
   obtain⟨b,o,ka,kc,ea,hb,m0,m1,m2,m3,m4,-⟩:=HO.o.kn.tree.nodes.at hlt;simp only at ea;subst ea;have hz:=t.nd_at hlt;obtain⟨D,hD⟩:∃D,t.nodes[k]=D:=⟨_,rfl⟩
   rw[hD]at m0 m1 m2 m3 m4 hz;have HW:=Hd hz;have HK:=Hd hlt;clear hz hD;by_cases hq:D.text=quite
   .have hq1:(D.text==[113,117,105,116,101,48,110,101,119])=true:=by rw[hq];rfl
    clear hq
    go_wp2_with (go_at_call 7;refine(jY _ (HG.o _ HO.o.kn.base)).mono ?_;rintro e w9 ⟨rfl,hf⟩;have Hh:=Hd (HO.o.kn.step hf).base;clear hf)
    go_ret;exact⟨rfl,Hh.o⟩
   have hq1:(D.text==[113,117,105,116,101,48,110,101,119])=false:=by
    rw[beq_eq_false_iff_ne];exact hq
   have Ho:Hid (∀i:Nat,i<k+1->(t.nd i).text≠quite):=Hd fun i hi=>by
    by_cases e:i<k
    .exact HF.o i e
    obtain rfl:i=k:=by omega
    rw[HW.o];exact hq
   have hy:=WG Hj.o.1 hlt;obtain⟨dk,hR⟩:∃dk,zn t k=dk:=⟨_,rfl⟩
   rw[hR]at hy;have Hw:=Hd hR;obtain⟨ul,hul⟩:∃l,(TJ t k).1=l:=⟨_,rfl⟩
   have HI:=Hd hul;have HH:=Hd hy;clear hR hq hy hul;rcases dk with _|_
   .have HZ:Hid (q=idxs (fun i=>zn t i) (k+1)):=Hd (by rw[UR Hw.o];exact HQ.o)
    go_wp2_with (first
     | (go_at_call 15;refine(TX ⟨ma,mc,ja,jc⟩ t k _ Hb.o Hk.o (HG.o _ (HO.o.kn.step Ha.o).base).gv Hl.o).mono ?_;rw[HI.o,HH.o];rintro e w4 ⟨ua,uc,rfl,-,hl⟩;have Hm:=Hd (HB.o.trans ((Ha.o.trans (hl.mono Ha.o.size)).mono HB.o.size));have Hs:=Hd (zL HL.o (Ha.o.trans (hl.mono Ha.o.size)));clear hl)
     | (go_at_call 10;refine(fZ ⟨some ⟨b,o,none⟩,nc,ia,ic⟩ t _ Hb.o HO.o.kn.tree).mono ?_;rintro e w3 ⟨⟨ma,mc,ja,jc⟩,B,ks3,rfl,-,hd,hc,-,ha⟩;unfold TreeV.val;have Hl:=Hd (show IsTree w3 ⟨ma,mc,ja,jc⟩ t from⟨hd.nodes,hc⟩);have Ha:=Hd ha;clear hd hc ha))
    go_roundw
    case rel=>exact⟨k+1,q,al,cl,by go_num,rfl,by omega,by omega,HZ,Hm,Hs,Ho⟩
    case measure=>simp[intOf];omega
   go_wp2_with (first
    | (at_builtin;refine iJ (news:=[(k:Int)]) rfl (.tmp 61) (.tmp 63) rfl rfl (Hs.o.alloc _) rfl (cN _ _ _) (by omega) (by have:=Hm.o.size;simp;omega) ?_;intro a9 c9 w9 l9 HV hle9 hu hh;have Hh:=Hd (hh _ X1 nlr (Hm.o.alloc Hm.o.size _));have HY:=Hd hu;clear hu hh)
    | (go_at_call 15;refine(TX ⟨ma,mc,ja,jc⟩ t k _ Hb.o Hk.o (HG.o _ (HO.o.kn.step Ha.o).base).gv Hl.o).mono ?_;rw[HI.o,HH.o];rintro e w4 ⟨ua,uc,rfl,-,hl⟩;have Hm:=Hd (HB.o.trans ((Ha.o.trans (hl.mono Ha.o.size)).mono HB.o.size));have Hs:=Hd (zL HL.o (Ha.o.trans (hl.mono Ha.o.size)));clear hl)
    | (go_at_call 10;refine(fZ ⟨some ⟨b,o,none⟩,nc,ia,ic⟩ t _ Hb.o HO.o.kn.tree).mono ?_;rintro e w3 ⟨⟨ma,mc,ja,jc⟩,B,ks3,rfl,-,hd,hc,-,ha⟩;unfold TreeV.val;have Hl:=Hd (show IsTree w3 ⟨ma,mc,ja,jc⟩ t from⟨hd.nodes,hc⟩);have Ha:=Hd ha;clear hd hc ha))
   go_roundw
   case rel=>exact⟨k+1,l9,a9,c9,by go_num,rfl,by omega,by omega,Hd (by rw[HV.o,HQ.o,TK Hw.o]),Hh,HY,Ho⟩
   case measure=>simp[intOf];omega
  obtain rfl:k=t.nodes.length:=by omega
  by_cases hq0:q.length=0
  .as_aux_lemma=>
   obtain rfl:q=[]:=List.length_eq_zero_iff.1 hq0
   go_wp2_with (go_at_call 7;refine(jY _ (HG.o _ HO.o.kn.base)).mono ?_;rintro e w9 ⟨rfl,hf⟩;have Hh:=Hd (HO.o.kn.step hf).base;clear hf)
   go_ret;exact⟨rfl,Hh.o⟩
  as_aux_lemma=>
  obtain⟨r,hr⟩:∃r,vn % q.length=r:=⟨_,rfl⟩
  have hU:r<q.length:=by rw[<-hr];exact Nat.mod_lt _ (by omega)
  obtain⟨d,hL,hQ,hde⟩:∃d:Nat,d<t.nodes.length/\zn t d=true/\q[r]=(d:Int):=by
   have hm:q[r]∈q:=List.getElem_mem hU;have hm2:q[r]∈idxs (fun i=>zn t i) t.nodes.length:=HQ.o▸hm;obtain⟨d,h1,h2,h3⟩:=mem_idxs.1 hm2;exact⟨d,h1,h2,h3⟩
  obtain⟨t',hG,R⟩:=VM Hb.o Hj.o.1 hL hQ VL HF.o;have Hg:=Hd (VN R Hj.o);have Hu:=Hd hG;have Hc:=Hd (R.bd' (by decide));have Hi:=Hd (R.rg Hk.o);have Hr:=Hd hL
  have h0:(t.nd (d:Int)).text.length<=1000000:=by
   have:=kJ (SZ HT.o hL hQ);omega
  have Hv:=Hd h0;obtain⟨bl,ol,rfl,hbl,hcl⟩:=Ints.at (dX HL.o) hU;rw[hde]at hcl;have hrm:(vn:Int).tmod (q.length:Int)=(r:Int):=by rw[<-hr];rfl
  have hql:=HQ.o▸TD (fun i=>zn t i) t.nodes.length;clear hG R hde hQ hr HF HQ h0
  go_upto_region 17 with(first
   | (go_at_call 16;refine(UF ⟨ma,mc,ja,jc⟩ t d quite _ Hb.o Hk.o (HG.o _ (HO.o.kn.step Ha.o).base).gv (by decide) Hl.o).mono ?_;rw[Hu.o];rintro e w7 ⟨⟨xa,xc,xia,xic⟩,rfl,hx7,hN⟩;unfold TreeV.val;have Hf:Hid (RxW w (w7.alloc (.cells #[.slice xa t'.nodes.length xc,.slice xia t'.items.length xic] 25)) tb w7.heap.size ⟨na,nc,ia,ic⟩ ⟨xa,xc,xia,xic⟩ t t' oa oc):=Hd ⟨((HO.o.step Ha.o).step hN).step ((Below.refl _ w7).alloc nlr _),KnW.box ((HO.o.step Ha.o).step hN).kn.base hx7⟩;clear hx7 hN)
   | (go_at_call 10;refine(fZ ⟨na,nc,ia,ic⟩ t _ Hb.o HO.o.kn.tree).mono ?_;rintro e w3 ⟨⟨ma,mc,ja,jc⟩,B,ks3,rfl,-,hd,hc,-,ha⟩;unfold TreeV.val;have Hl:=Hd (show IsTree w3 ⟨ma,mc,ja,jc⟩ t from⟨hd.nodes,hc⟩);have Ha:=Hd ha;clear hd hc ha))
  obtain⟨X2,h6⟩:∃X2,w7.alloc (.cells #[.slice xa t'.nodes.length xc,.slice xia t'.items.length xic] 25)=X2:=⟨_,rfl⟩
  rw[h6]at Hf|-;obtain⟨xb,hxb⟩:∃g,w7.heap.size=g:=⟨_,rfl⟩
  rw[hxb]at Hf|-;clear h6 hxb c0 c1 he hbl hcl hrm hU hql hq0 hqk HB HL HO Ht Hl Ha
  as_aux_lemma=>
  have c0:=Hf.o.rn.kn.c0;have c1:=Hf.o.rn.kn.c1;have x0:=Hf.o.x.c0;have x1:=Hf.o.x.c1;have he:=World.block_lt_of_cell? X2 _ c0;have hv:=World.block_lt_of_cell? X2 _ x0;simp only at c0 c1 x0 x1 he hv
  go_upto_region 20 with(first
   | (go_at_call 17;refine(kW ⟨ma,mc,ja,jc⟩ t' _ Hc.o Hi.o (HG.o _ (Hf.o.step Hq.o).x.base) HE.o).mono ?_;intro e w9 hr9;obtain⟨pa,pc,rfl,hI,hf⟩:=RetInfer.val hr9 Hg.o.ok;have Hz:=Hd ((Hf.o.step Hq.o).step hf);have Hy:Hid (Strs w9 pa pc (exT t')):=Hd (by unfold Strs;rw[cP];exact hI);clear hr9 hI hf)
   | (go_at_call 10;refine(fZ ⟨xa,xc,xia,xic⟩ t' _ Hc.o Hf.o.x.tree).mono ?_;rintro e w8 ⟨⟨ma,mc,ja,jc⟩,B,ks3,rfl,-,hd,hc,-,ha⟩;unfold TreeV.val;have HE:=Hd (show IsTree w8 ⟨ma,mc,ja,jc⟩ t' from⟨hd.nodes,hc⟩);have Hq:=Hd ha;clear hd hc ha c0 c1 x0 x1 he hv))
  have hw:Below w9.heap.size w9 (w9.alloc (.cells #[.slice pa t'.nodes.length pc] 53)):=(Below.refl _ w9).alloc nlr _;have HK:Hid (RkW w (w9.alloc (.cells #[.slice pa t'.nodes.length pc] 53)) tb xb w9.heap.size ⟨na,nc,ia,ic⟩ ⟨xa,xc,xia,xic⟩ t t' oa oc pa pc):=Hd ⟨Hz.o.step hw,bZ rfl,Row.mono Hy.o hw nlr⟩;obtain⟨X3,h7⟩:∃X3,w9.alloc (.cells #[.slice pa t'.nodes.length pc] 53)=X3:=⟨_,rfl⟩
  rw[h7]at HK|-;obtain⟨kb,hkb⟩:∃g,w9.heap.size=g:=⟨_,rfl⟩
  rw[hkb]at HK|-;clear h7 hkb hw Hz Hy Hf HE Hq
  as_aux_lemma=>
  obtain⟨fz,cz,hf1,hf2⟩:=Hg.o.chk;have HS:=Hd hf1;have Ho:=Hd hf2;have hx:t'.nodes.length=t.nodes.length:=Hg.o.len;have c0:=HK.o.rx.rn.kn.c0;have c1:=HK.o.rx.rn.kn.c1;have x0:=HK.o.rx.x.c0;have x1:=HK.o.rx.x.c1;have k0:=HK.o.k0;have he:=World.block_lt_of_cell? X3 _ c0;have hv:=World.block_lt_of_cell? X3 _ x0;have hp:=World.block_lt_of_cell? X3 _ k0;simp only at c0 c1 x0 x1 he hv hp;rw[hx]at k0 x0;have He:=Hd hx;clear hf1 hf2 hx;refine N.region_M 18 hmo (by kernel_rfl) (by kernel_rfl) rfl (by kernel_rfl) (by kernel_rfl) (fun _ _=>False) N.Pans.no (fun Wz=>Below (X3).heap.size (X3) Wz) (fun Wy Wz=>Below Wy.heap.size Wy Wz) (brf.drew) [.fix ?vG1_0,.fix ?vG1_1,.fix ?vG1_2,.fix ?vG1_3,.fix ?vG1_4,.fix ?vG1_5,.fix ?vG1_6,.fix ?vG1_7,.fix ?vG1_8,.fix ?vG1_9,.fix ?vG1_10,.fix ?vG1_11,.dep [] (OwR t'),.dep [12] (fun _ v _=>v=intV cz.2),.fix ?vG1_14,.dep [] (OwR t),.dep [15] (fun _ v _=>v=intV cz.2),.dep [13,16] (fun _ v _=>v=.bool false)] [[],[],[],[],[],[],[],[],[],[],[],[],[],[12],[],[],[15],[13,16]] rfl (by kernel_rfl) (N.sts_kd ⟨trivial,trivial,trivial,trivial,trivial,trivial,trivial,trivial,trivial,trivial,trivial,trivial,(fun _ _ _ _ k h=>h.st k),(fun _ _ _ _ _ h=>h),trivial,(fun _ _ _ _ k h=>h.st k),(fun _ _ _ _ _ h=>h),(fun _ _ _ _ _ h=>h),trivial⟩) fun x=>?_;rotate_left 13
  iterate 12 (refine N.WalkM.fix ?_ ?_;refine N.StepS.known rfl (fun _=>brf) ?_;intro W hJ hP;obtain⟨hC,hF⟩:=bcell hJ;go_simp;rfl;simp only[N.pz])
  refine N.WalkM.dep ?sG1_12 ?rG1_12;case sG1_12=>(refine N.StepS.call' (f:=10) (args:=#[.agg #[.slice xa t.nodes.length xc,.slice xia t'.items.length xic]]) rfl ?_ ?_;(intro W hJ hP;obtain⟨hC,hF⟩:=bcell hJ;(go_simp;try rfl));(intro W hJ hP;have h9:=US ⟨xa,xc,xia,xic⟩ t' Hc.o hJ (HK.o.step hJ).rx.x.tree;unfold TreeV.val at h9;simp only[He.o]at h9;exact h9))
  simp only[N.pz];refine N.WalkM.dep ?sG1_13 ?rG1_13;case sG1_13=>(refine N.StepS.call' (f:=18) (args:=#[x 12]) rfl ?_ ?_;(intro W hJ hP;obtain⟨hC,hF⟩:=bcell hJ;(go_simp;try rfl));(intro W hJ hP;obtain⟨u1,h1,hV⟩:OwR t' [] (x 12) W:=hP 12 (by kernel_rfl);rw[h1];refine(xG u1 t' W Hc.o Hi.o (HG.o _ (HK.o.step hJ).rx.x.base) hV).mono ?_;rintro e w' hr;obtain⟨rfl,hb⟩:=RetCheckK.val hr Hg.o.ok Ho.o;exact⟨_,rfl,hJ.trans (hb.mono hJ.size),hb,rfl⟩))
  simp only[N.pz];refine N.WalkM.fix ?_ ?_;refine N.StepS.known rfl (fun _=>brf) ?_;intro W hJ hP;obtain⟨hC,hF⟩:=bcell hJ;go_simp;rfl;simp only[N.pz];refine N.WalkM.dep ?sG1_15 ?rG1_15;case sG1_15=>(refine N.StepS.call' (f:=10) (args:=#[TreeV.val ⟨na,nc,ia,ic⟩ t]) rfl ?_ ?_;(intro W hJ hP;obtain⟨hC,hF⟩:=bcell hJ;(go_simp;try rfl));(intro W hJ hP;exact US _ t Hb.o hJ (HK.o.step hJ).rx.rn.kn.tree))
  simp only[N.pz];refine N.WalkM.dep ?sG1_16 ?rG1_16;case sG1_16=>(refine N.StepS.call' (f:=18) (args:=#[x 15]) rfl ?_ ?_;(intro W hJ hP;obtain⟨hC,hF⟩:=bcell hJ;(go_simp;try rfl));(intro W hJ hP;obtain⟨u1,h1,hV⟩:OwR t [] (x 15) W:=hP 15 (by kernel_rfl);rw[h1];refine(xG u1 t W Hb.o Hk.o (HG.o _ (HK.o.step hJ).rx.x.base) hV).mono ?_;rintro e w' hr;obtain⟨rfl,hb⟩:=RetCheckK.val hr Hj.o HS.o;exact⟨_,rfl,hJ.trans (hb.mono hJ.size),hb,rfl⟩))
  simp only[N.pz];refine N.WalkM.dep ?sG1_17 ?rG1_17;case sG1_17=>exact N.StepS.runs rfl (fun W hJ hP=>by have h4:x 13=intV cz.2:=hP 13 (by kernel_rfl);have h5:x 16=intV cz.2:=hP 16 (by kernel_rfl);generalize x 13=y4 at *;generalize x 16=y5 at *;subst h4 h5;exact⟨.bool false,W,(by(go_simp;try rfl)),hJ,brf,rfl⟩)
  simp only[N.pz];refine N.WalkM.nil fun W hJ hH=>?_;have h13:x 13=intV cz.2:=hH 13;have h16:x 16=intV cz.2:=hH 16;have h17:x 17=.bool false:=hH 17;generalize x 12=y12 at *;generalize x 15=y15 at *;generalize x 13=y13 at *;generalize x 16=y16 at *;generalize x 17=y17 at *;subst h13 h16 h17;rename World=>X4
  have Hx:=Hd (HK.o.step hJ);clear hJ hH c0 c1 x0 x1 k0 he hv hp HK;simp only[List.drop_succ_cons,List.drop_zero]
  go_upto_region 22 with fail
  as_aux_lemma=>
  go_wp2
  go_loopw [19] (fun t19 wr=>∃k:Nat,t19=.int .i64 k/\k<=t.nodes.length/\Hid (RkW w wr tb xb kb ⟨na,nc,ia,ic⟩ ⟨xa,xc,xia,xic⟩ t t' oa oc pa pc)) (fun i _=>t.nodes.length-(intOf i).toNat)
  case atStart=>exact⟨0,rfl,Nat.zero_le _,Hx⟩
  case round=>
   obtain⟨k,rfl,hk,HK⟩:=hrel;clear Hx;have c0:=HK.o.rx.rn.kn.c0;have c1:=HK.o.rx.rn.kn.c1;have k0:=HK.o.k0;have he:=World.block_lt_of_cell? wr _ c0;have hp:=World.block_lt_of_cell? wr _ k0;simp only at c0 c1 he hp;rw[He.o]at k0;by_cases hlt:k<t.nodes.length
   .as_aux_lemma=>
    obtain⟨b,o,ka,kc,ea,hb,m0,m1,m2,m3,m4,-⟩:=HK.o.rx.rn.kn.tree.nodes.at Hr.o;simp only at ea;subst ea;have hz:=t.nd_at Hr.o;rw[<-hz]at m0 m1 m2 m3 m4;have hL:=Hr.o;obtain⟨bo,oo,eo,hbo,hco⟩:=Strs.at HK.o.rx.rn.of (i:=k) (by rw[HR.o];exact hlt);subst eo;obtain⟨bp,op,ep,hO,ho⟩:=Strs.at HK.o.of (i:=k) (by rw[cP,He.o];exact hlt);subst ep;have h1:=TI hlt;have h2:=TI (t:=t') (i:=k) (by rw[He.o];exact hlt);rw[UP hlt,<-h1]at hco;rw[UP (by rw[He.o];exact hlt),<-h2,Hg.o.ty k hlt]at ho;have hxs:=VX Hb.o Hj.o.1 hlt;obtain⟨Z,hZ⟩:∃Z,ofK (exT t) (k:Int)=Z:=⟨_,rfl⟩
    obtain⟨E,hE⟩:∃E,t.nd (d:Int)=E:=⟨_,rfl⟩
    have hX:=Hv.o;rw[hZ]at hco ho hxs;rw[hE]at m0 m1 m2 m3 m4 ho hX;clear h1 h2 hz hZ hE;by_cases k41:E.kind=41
    .rw[if_pos k41]at ho
     rw[k41]at m0;obtain⟨Y,hY⟩:∃Y,swG E.text quite Z=Y:=⟨_,rfl⟩
     have HD:=Hd (UE Z E.text quite wr (by omega) (by decide));rw[hY]at ho HD;clear hY k41
     go_wp2_with (go_at_call 19;refine HD.o.mono ?_;rintro e w5 ⟨rfl,hn⟩;have HU:=Hd (HK.o.step hn);have k5:=(hn.cell (p:=⟨kb,0,none⟩) hp).trans k0;have hcp5:=(hn.cell (p:=⟨bp,op+k,none⟩) hO).trans ho;have hkl5:=Nat.lt_of_lt_of_le hp hn.size;have hbp5:=Nat.lt_of_lt_of_le hO hn.size;clear hn k0 ho hp hO)
     go_roundw
     case rel=>exact⟨k+1,by go_num,by omega,HU⟩
     case measure=>simp[intOf];omega
    rw[if_neg k41]at ho
    have k2:(E.kind==41)=false:=beq_eq_false_iff_ne.2 k41;clear k41;go_wp2
    go_roundw
    case rel=>exact⟨k+1,by go_num,by omega,HK⟩
    case measure=>simp[intOf];omega
   obtain rfl:k=t.nodes.length:=by omega
   as_aux_lemma=>
   go_wp2
   go_loopw [21] (fun t21 wq=>∃k:Nat,t21=.int .i64 k/\k<=t.items.length/\Hid (RxW w wq tb xb ⟨na,nc,ia,ic⟩ ⟨xa,xc,xia,xic⟩ t t' oa oc)) (fun i _=>t.items.length-(intOf i).toNat)
   case atStart=>exact⟨0,rfl,Nat.zero_le _,Hd HK.o.rx⟩
   case round=>
    obtain⟨j,rfl,hj,HX⟩:=hrel;clear HK c0 c1 k0 he hp;have c0:=HX.o.rn.kn.c0;have c1:=HX.o.rn.kn.c1;have x0:=HX.o.x.c0;have x1:=HX.o.x.c1;have he:=World.block_lt_of_cell? _ _ c0;have hv:=World.block_lt_of_cell? _ _ x0;simp only at c0 c1 x0 x1 he hv;by_cases hjl:j<t.items.length
    .as_aux_lemma=>
     obtain⟨fi,wi,hw1,hw2⟩:=Hg.o.wt _ (List.getElem_mem hjl);have hT:t.items.getD j 0=t.items[j]:=by rw[List.getD_eq_getElem?_getD,List.getElem?_eq_getElem hjl];rfl
     have H2:Hid (jL t fi (t.items.getD (j:Int).toNat 0)=some wi):=Hd (by rw[Int.toNat_natCast,hT];exact hw1);have H3:Hid (jL t' fi (t'.items.getD (j:Int).toNat 0)=some wi):=Hd (by rw[Hg.o.items,Int.toNat_natCast,hT];exact hw2);have HJ:=Hd hjl;clear hw1 hw2 hT;have A1:=True.intro
     go_wp2_with (first
      | (have:=A4;clear this;go_at_call 20;refine(pA ⟨pa2,pc2,qa2,qc2⟩ t' j _ Hc.o Hi.o (HG.o _ HN.o.x.base) H1.o).mono ?_;intro e v5 hr5;obtain⟨rfl,hn⟩:=RetWeigh.val hr5 Hg.o.ok (by omega) (by rw[Hg.o.items];have:=HJ.o;omega) H3.o;have H4:=Hd (HN.o.step hn);clear hr5 hn A4)
      | (have:=A3;clear this;go_at_call 10;refine(fZ ⟨xa,xc,xia,xic⟩ t' _ Hc.o Hp.o.x.tree).mono ?_;rintro e v4 ⟨⟨pa2,pc2,qa2,qc2⟩,B,ks3,rfl,-,hd,hc,-,hl⟩;unfold TreeV.val;have H1:=Hd (show IsTree v4 ⟨pa2,pc2,qa2,qc2⟩ t' from⟨hd.nodes,hc⟩);have HN:=Hd (Hp.o.step hl);clear hd hc hl A3 u0 u1 ugl;have A4:=True.intro)
      | (have:=A2;clear this;go_at_call 20;refine(pA ⟨ma,mc,ja,jc⟩ t j _ Hb.o Hk.o (HG.o _ HM.o.x.base) H0.o).mono ?_;intro e v3 hr3;obtain⟨rfl,ha⟩:=RetWeigh.val hr3 Hj.o (by omega) (by have:=HJ.o;omega) H2.o;have Hp:=Hd (HM.o.step ha);have u0:=Hp.o.x.c0;have u1:=Hp.o.x.c1;have ugl:=World.block_lt_of_cell? _ _ u0;simp only at u0 u1 ugl;clear hr3 ha A2;have A3:=True.intro)
      | (have:=A1;clear this;go_at_call 10;refine(fZ ⟨na,nc,ia,ic⟩ t _ Hb.o HX.o.rn.kn.tree).mono ?_;rintro e v2 ⟨⟨ma,mc,ja,jc⟩,B,ks3,rfl,-,hd,hc,-,hB⟩;unfold TreeV.val;have H0:=Hd (show IsTree v2 ⟨ma,mc,ja,jc⟩ t from⟨hd.nodes,hc⟩);have HM:=Hd (HX.o.step hB);clear hd hc hB A1 c0 c1 x0 x1 he hv;have A2:=True.intro))
     go_roundw
     case rel=>exact⟨j+1,by go_num,by omega,H4⟩
     case measure=>simp[intOf];omega
    obtain rfl:j=t.items.length:=by omega
    go_wp2_with (go_at_call 7;refine(jY _ (HG.o _ HX.o.x.base)).mono ?_;rintro e w9 ⟨rfl,hf⟩;have Hh:=Hd (HX.o.step hf).x.base;clear hf)
    go_ret;exact⟨rfl,Hh.o⟩
end
end Go.Proofs.YtcdkdiedphhdhaaGreatDoor
