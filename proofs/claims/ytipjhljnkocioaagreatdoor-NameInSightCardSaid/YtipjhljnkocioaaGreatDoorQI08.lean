/- Part of a proof. -/
import Derived.Test.YtipjhljnkocioaaGreatDoorP40
import Derived.Test.YtipjhljnkocioaaGreatDoorQI04
import Derived.Test.YtipjhljnkocioaaGreatDoorQI07
set_option maxRecDepth 100000
set_option maxHeartbeats 8000000
set_option linter.unusedVariables false
set_option linter.unusedSimpArgs false
open Go.Proofs.Tryz
namespace Go.Proofs.YtipjhljnkocioaaGreatDoor
section
open Go Go.RowKit
theorem LS(s:List UInt8)(w:World)(hs:s.length≤maxLen)(hg:GV w) :
 Calls prog 9 #[strV s] w (zm w true):=by
 have hmo:prog.follows .mixedOrders=true:=by kernel_rfl
 have HC:=Hd (gM s w hs hg);have HG:=Hd hg;clear hg;go_enter func9,ntmps9
 go_wp2_with (first
  | (have:=A1;clear this;go_at_call 36
     refine(lK ⟨na,nc,ia,ic⟩ t _ HBD.out HWF.out HTX.out).mono ?_;rintro e w2⟨ua,uc,rfl,hown,hb2⟩;have hul:(bC t t.nodes.length).length=t.nodes.length:=zS t _;rw[hul]at hown⊢;have hu:=aQ hown
     have HR:Hid (ResW w w2 w1.heap.size ⟨na,nc,ia,ic⟩ t a c ua uc):=Hd (by
      obtain⟨a',c',e,hr⟩:=hu;simp at e;obtain⟨rfl,rfl⟩:=e
      exact⟨(hb2.cell (p:=⟨w1.heap.size,0,none⟩) (by simp)).trans (zX rfl),(hb2.cell (p:=⟨w1.heap.size,1,none⟩) (by simp)).trans (zX rfl),HTX.out.mono hb2 nlr,Row.mono HDX.out hb2 nlr,hr,Nat.lt_of_lt_of_le (by simp) hb2.size,HBX.out.trans (hb2.mono HBX.out.size),(HG.out.mono HBX.out nlr).mono hb2 nlr⟩)
     clear hown hb2 hu A1)
  | (go_at_call 35
     refine HC.out.mono ?_;rintro e w1⟨⟨na,nc,ia,ic⟩,t,a,c,l,ok,rfl,ht,hi,hb1,hbd,hrg,hok,-⟩;unfold TreeV.val;have hbx:=hb1.alloc hb1.size (.cells #[.slice na t.nodes.length nc,.slice ia t.items.length ic] 25);have HBX:=Hd hbx;clear hb1 hbx;rcases ok with _|_
     ·go_wp2_with (go_at_call 14;refine(bG _ (HG.out.mono HBX.out nlr)).mono ?_;rintro e w2 ⟨rfl,hb2⟩)
      go_ret;exact⟨rfl,HBX.out.trans (hb2.mono HBX.out.size)⟩
     obtain⟨hr0,rfl⟩:=hok rfl;obtain⟨wf,G⟩:=zK hbd hr0;have hdl:(ze t t.nodes.length).length=t.nodes.length:=zD t _;rw[hdl];unfold Ints at hi;rw[hdl]at hi;have hn3:=hbd.n;have HBD:=Hd hbd;have HRG:=Hd hrg;have HR0:=Hd hr0;have HWF:=Hd wf;have HGG:=Hd G;have HTX:=Hd (ht.mono ((Below.refl _ w1).alloc nlr (.cells #[.slice na t.nodes.length nc,.slice ia t.items.length ic] 25)) nlr);have HDX:=Hd (Row.mono hi ((Below.refl _ w1).alloc nlr (.cells #[.slice na t.nodes.length nc,.slice ia t.items.length ic] 25)) nlr);clear ht hi hbd hrg hok hr0 wf G hdl
     have A1:=True.intro))
 go_loopw [7] (fun t7 wr=>∃k:Nat,t7=.int .i64 k∧k≤t.nodes.length∧Hid (ResW w wr w1.heap.size ⟨na,nc,ia,ic⟩ t a c ua uc)) (fun i _=>t.nodes.length-(intOf i).toNat)
 case atStart=>exact⟨0,rfl,Nat.zero_le _,HR⟩
 case round=>
  obtain⟨k,rfl,hk,HRW⟩:=hrel;have b0:=HRW.out.c0;have b1:=HRW.out.c1;have hgl:=HRW.out.gl;by_cases hlt:k<t.nodes.length
  ·have HVS:=Hd (MZ HBD.out HR0.out hlt)
   have HK:=Hd hlt;have B1:=Hd True.intro;have hnd:=t.nd_at hlt;obtain⟨D,hD⟩:∃D,D=t.nodes[k]'hlt:=⟨_,rfl⟩
   rw[←hD]at hnd;have HND:=Hd hnd;have HD:=Hd hD;obtain⟨dk,hdk⟩:∃dk,zZ D.kind=dk:=⟨_,rfl⟩
   have HDK:=Hd hdk;clear hdk hD hnd
   go_upto_if 47 with(first
    | (have:=B3;clear this;go_at_call 43
       refine(LX D.kind _).mono ?_;rw[HDK.out];rintro e w5⟨rfl,rfl⟩;clear B3
       have B4:=Hd True.intro)
    | (have:=B2;clear this;go_at_call 21
       refine(kF ⟨ma,mc,ja,jc⟩ t k _ HBD.out HRG.out HR3.out.gv HT3.out).mono ?_;rintro e w4⟨a8,c8,rfl,hown,hb4⟩;have HR4:=Hd (HR3.out.step hb4);have HI4:=Hd (zq hown);have c40:=HR4.out.c0;have c41:=HR4.out.c1;obtain⟨b,o,ka,kc,ea,hb,n0,n1,n2,n3,n4,hkr⟩:=HR4.out.tree.nodes.at HK.out;rw[←HD.out]at n0 n1 n2 n3 n4 hkr;simp only at ea;subst ea;clear hown hb4 B2 hkr
       have B3:=Hd True.intro)
    | (have:=B1;clear this;go_at_call 40
       refine(eW ⟨na,nc,ia,ic⟩ t _ HBD.out HRW.out.tree).mono ?_;rintro e w3⟨⟨ma,mc,ja,jc⟩,B,ks,rfl,-,hon,hin,-,hb3⟩;unfold TreeV.val;have HT3:=Hd (show IsTree w3 ⟨ma,mc,ja,jc⟩ t from⟨hon.nodes,hin⟩);have HR3:=Hd (HRW.out.step hb3);clear hon hin hb3 B1
       have B2:=Hd True.intro))
   rcases dk with _|_
   ·have hv1:visU t k=([],7):=by rw[HVS.out,HND.out,HDK.out];rfl
    rw[hv1];clear hv1;go_wp2
    go_roundw
    case rel=>exact⟨k+1,by go_num,by omega,HR4⟩
    case measure=>simp[intOf];omega
   ·have hv1:visU t k=(visible t k,0):=by rw[HVS.out,HND.out,HDK.out];rfl
    obtain⟨V,hV⟩:∃V,visible t k=V:=⟨_,rfl⟩
    have HVal:Hid (∀x∈V,0≤x∧x<t.nodes.length∧oT 3 (t.nd x).kind=true):=Hd (by rw[←hV];exact fun x hx=>MJ HBD.out HR0.out HK.out hx);have HVasc:Hid (V.Pairwise (· < ·)):=Hd (by rw[←hV];exact MB HBD.out HR0.out HK.out);have HVtx:Hid (∀x∈V,∀y∈V,(t.nd x).text=(t.nd y).text→x=y):=Hd (by rw[←hV];exact fun x hx y hy h=>LW hx hy h);have HVm:Hid (D.kind=3→hasI V (means t k)=true):=Hd (by rw[←hV];exact fun h=>by unfold hasI;rw[List.contains_iff_mem];exact LR HBD.out HR0.out HK.out (by rw[HND.out];exact h));have hVl:V.length≤2000003000000:=by rw[←hV];exact MC HWF.out HK.out
    have HVV:=Hd hV;rw[hV]at hv1;rw[hv1]at HI4;rw[hv1];simp only at HI4;clear hv1 hV
    go_upto_region 12 with fail
    go_cut [74]from 26 to 205 (fun v wd=>v=.bool false∧w4=wd)
    case first=>as_aux_lemma=>
     by_cases h3:D.kind=3
     ·have hm:=HVm.out h3
      rw[h3]at n0;obtain⟨bd,od,ed,hbd,hcd⟩:=HR4.out.declAt HK.out;subst ed;have HM:=Hd hm;clear hm h3
      go_wp2_with (go_at_call 44;refine(MD a8 c8 V (means t k) _ (by omega) HI4.out).mono ?_;rw[HM.out];rintro e w' ⟨rfl,rfl⟩)
      go_meet
      exact⟨rfl,rfl⟩
     ·have h3':(D.kind==3)=false:=by simpa using h3
      clear h3;go_wp2
      go_meet
      exact⟨rfl,rfl⟩
    case rest=>as_aux_lemma=>
     obtain⟨rfl,rfl⟩:=hcut;go_wp2;clear b0 b1 c40 c41 n0 n1 n2 n3 n4 hgl;rename World=>w4z
     go_loopw [10] (fun t10 wr=>∃j:Nat,t10=.int .i64 j∧j≤V.length∧Hid (ResW w wr w1.heap.size ⟨some ⟨b,o,none⟩,nc,ia,ic⟩ t a c ua uc)∧Hid (Ints wr a8 c8 V)) (fun i _=>V.length-(intOf i).toNat)
     case atStart=>exact⟨0,rfl,Nat.zero_le _,HR4,HI4⟩
     case round=>
      obtain⟨j,rfl,hj,HRZ,HIZ⟩:=hrel;rename World=>wz
      have b0:=HRZ.out.c0;have b1:=HRZ.out.c1;have hgl:=HRZ.out.gl;by_cases hjl:j<V.length
      ·obtain⟨bv,ov,rfl,hbv,hcv⟩:=Ints.at HIZ.out hjl
       have hval:=HVal.out _ (List.getElem_mem hjl);obtain⟨x,hx⟩:∃x,V[j]=x:=⟨_,rfl⟩
       rw[hx]at hcv hval;obtain⟨hx0,hx1,hxs⟩:=hval;obtain⟨m,rfl⟩:=Int.eq_ofNat_of_zero_le hx0;have hml:m<t.nodes.length:=by omega
       have HX:=Hd hx;obtain⟨b2,o2,ke,kce,ea2,hb2,e0,e1,e2,e3,e4,hke⟩:=HRZ.out.tree.nodes.at hml;simp only[Option.some.injEq,Addr.mk.injEq,and_true]at ea2;obtain⟨rfl,rfl⟩:=ea2;have hne:=t.nd_at hml;obtain⟨E,hE⟩:∃E,t.nodes[m]=E:=⟨_,rfl⟩
       rw[hE]at e0 e1 e2 e3 e4 hne;rw[hne]at hxs;have HSU:=Hd hxs;have HNE:=Hd hne;have hdn1:decide ((t.nodes.length:Int)≤(m:Int))=false:=by simp;omega
       have hdn2:decide (t.nodes.length≤m)=false:=by simp;omega
       have hdn3:¬t.nodes.length≤m:=by omega
       have HJ2:=Hd hjl;clear hx hx0 hx1 hxs hE hne hke
       go_upto_region 17 with fail
       go_cut [124]from 75 to 148 (fun v wd=>v=.bool false∧Below wz.heap.size wz wd)
       case first=>as_aux_lemma=>
        by_cases hj0:j=0
        ·subst hj0
         rw[Nat.add_zero]at hcv;refine N.region_JTm 43 hmo (by kernel_rfl) (by kernel_rfl) rfl (by kernel_rfl) (by kernel_rfl) (fun Wz=>Below (wz).heap.size (wz) Wz) (brf.drew) ?_
         iterate 25 (refine N.WalkT.cons ?_ (N.StepP.pure rfl ?_) ?_;rotate_left;(intro W hJ;obtain⟨hcJ,hfJ⟩:=bcell hJ;go_simp;rfl);simp only[N.pz])
         refine N.WalkT.cons (.bool true) (N.StepP.call (f:=38) (args:=#[.int .u8 3,.int .u8 E.kind]) rfl ?hG1_25 ?cG1_25) ?rG1_25;case hG1_25=>intro W hJ;obtain⟨hcJ,hfJ⟩:=bcell hJ;go_simp;try rfl
         case cG1_25=>intro W hJ;(refine(LQ _ _ W).mono ?_;rw[HSU.out];rintro e w' ⟨rfl,rfl⟩;exact⟨rfl,hJ⟩)
         simp only[N.pz]
         iterate 17 ((first|(refine N.WalkT.cons undef (N.StepP.skip rfl) ?_)|(refine N.WalkT.cons ?_ (N.StepP.pure rfl ?_) ?_;rotate_left;(intro W hJ;obtain⟨hcJ,hfJ⟩:=bcell hJ;go_simp;rfl)));simp only[N.pz])
         refine N.WalkT.nil fun W hJ=>?_;go_wp2
         go_meet
         exact⟨rfl,hJ⟩
        ·obtain⟨i,rfl⟩:∃i,j=i+1:=⟨j-1,by omega⟩
         have hil:i<V.length:=by omega
         have hbI:(i:Int)+1<(V.length:Int):=by omega
         have hbI2:(i:Int)<(V.length:Int):=by omega
         have hwI:IntKind.i64.wrap (i:Int)=(i:Int):=IntWalk.i64_in _ (by omega);obtain⟨bv2,ov2,ev2,hbv2,hcv2⟩:=Ints.at HIZ.out hil;simp only[Option.some.injEq,Addr.mk.injEq,and_true]at ev2;obtain⟨rfl,rfl⟩:=ev2;have hlt2:V[i]<(m:Int):=by rw[←HX.out];exact List.pairwise_iff_getElem.1 HVasc.out i (i+1) hil HJ2.out (by omega)
         obtain⟨y,hy⟩:∃y,V[i]=y:=⟨_,rfl⟩
         rw[hy]at hcv2 hlt2;have hle:decide ((m:Int)≤y)=false:=by simp;omega
         clear hy;refine N.region_JTm 43 hmo (by kernel_rfl) (by kernel_rfl) rfl (by kernel_rfl) (by kernel_rfl) (fun Wz=>Below (wz).heap.size (wz) Wz) (brf.drew) ?_
         iterate 25 (refine N.WalkT.cons ?_ (N.StepP.pure rfl ?_) ?_;rotate_left;(intro W hJ;obtain⟨hcJ,hfJ⟩:=bcell hJ;go_simp;rfl);simp only[N.pz])
         refine N.WalkT.cons (.bool true) (N.StepP.call (f:=38) (args:=#[.int .u8 3,.int .u8 E.kind]) rfl ?hG2_25 ?cG2_25) ?rG2_25;case hG2_25=>intro W hJ;obtain⟨hcJ,hfJ⟩:=bcell hJ;go_simp;try rfl
         case cG2_25=>intro W hJ;(refine(LQ _ _ W).mono ?_;rw[HSU.out];rintro e w' ⟨rfl,rfl⟩;exact⟨rfl,hJ⟩)
         simp only[N.pz]
         iterate 17 (refine N.WalkT.cons ?_ (N.StepP.pure rfl ?_) ?_;rotate_left;(intro W hJ;obtain⟨hcJ,hfJ⟩:=bcell hJ;go_simp;rfl);simp only[N.pz])
         refine N.WalkT.nil fun W hJ=>?_;go_wp2
         go_meet
         exact⟨rfl,hJ⟩
       case rest=>as_aux_lemma=>
        obtain⟨rfl,hBd⟩:=hcut;have HRY:=Hd (HRZ.out.step hBd);have HIY:=Hd (Row.mono HIZ.out hBd nlr);clear hBd hcv e0 e1 e2 e3 e4 b0 b1 hgl hbv hb2;go_wp2
        go_loopw [11] (fun t11 wy=>∃i:Nat,t11=.int .i64 i∧i≤j∧Hid (ResW w wy w1.heap.size ⟨some ⟨b,o,none⟩,nc,ia,ic⟩ t a c ua uc)∧Hid (Ints wy (some ⟨bv,ov,none⟩) c8 V)) (fun x _=>j-(intOf x).toNat)
        case atStart=>exact⟨0,rfl,Nat.zero_le _,HRY,HIY⟩
        case round=>
         obtain⟨i,rfl,hi,HRX,HIX⟩:=hrel;rename World=>wy
         have b0:=HRX.out.c0;by_cases hil:i<j
         ·have hiV:i<V.length:=by have:=HJ2.out;omega
          obtain⟨bv1,ov1,ev1,hbv1,hcv1⟩:=Ints.at HIX.out HJ2.out;simp only[Option.some.injEq,Addr.mk.injEq,and_true]at ev1;obtain⟨rfl,rfl⟩:=ev1;obtain⟨bv2,ov2,ev2,hbv2,hcv2⟩:=Ints.at HIX.out hiV;simp only[Option.some.injEq,Addr.mk.injEq,and_true]at ev2;obtain⟨rfl,rfl⟩:=ev2;rw[HX.out]at hcv1;have hlt2:V[i]<(m:Int):=by rw[←HX.out];exact List.pairwise_iff_getElem.1 HVasc.out i j hiV HJ2.out hil
          have hval:=HVal.out _ (List.getElem_mem hiV);have hdiff:(t.nd V[i]).text=(t.nd m).text→V[i]=(m:Int):=HVtx.out _ (List.getElem_mem hiV) _ (by rw[←HX.out];exact List.getElem_mem HJ2.out);obtain⟨y,hy⟩:∃y,V[i]=y:=⟨_,rfl⟩
          rw[hy]at hcv2 hlt2 hval hdiff;obtain⟨hy0,hy1,-⟩:=hval;obtain⟨m2,rfl⟩:=Int.eq_ofNat_of_zero_le hy0;have hm2l:m2<t.nodes.length:=by omega
          obtain⟨b3,o3,kf,kcf,ea3,hb3,f0,f1,f2,f3,f4,-⟩:=HRX.out.tree.nodes.at hm2l;simp only[Option.some.injEq,Addr.mk.injEq,and_true]at ea3;obtain⟨rfl,rfl⟩:=ea3;obtain⟨b4,o4,ke,kce,ea4,hb4,e0,e1,e2,e3,e4,-⟩:=HRX.out.tree.nodes.at hml;simp only[Option.some.injEq,Addr.mk.injEq,and_true]at ea4;obtain⟨rfl,rfl⟩:=ea4;have hne2:=t.nd_at hm2l;have hE2:t.nodes[m]=E:=(t.nd_at hml).symm.trans HNE.out;rw[hE2]at e0 e1 e2 e3 e4;obtain⟨F,hF⟩:∃F,t.nodes[m2]=F:=⟨_,rfl⟩
          rw[hF]at f0 f1 f2 f3 f4 hne2;rw[hne2,HNE.out]at hdiff
          have hdf:(F.text==E.text)=false:=by
           rw[beq_eq_false_iff_ne];intro h;have:=hdiff h;omega
          clear hy hdiff hne2 hE2 hF hlt2;go_wp2
          go_quiet (fail)
          go_wp2
          go_roundw
          case rel=>exact⟨i+1,by go_num,by omega,Hd (HRX.out.step (below_drewN brf _)),Hd (Row.mono HIX.out (below_drewN brf _) nlr)⟩
          case measure=>simp[intOf];omega
         ·go_wp2
          go_roundw
          case rel=>exact⟨j+1,by go_num,by omega,HRX,HIX⟩
          case measure=>simp[intOf];omega
      ·go_wp2
       go_loopw [12,13] (fun t12 t13 wy=>∃(n:Nat) (hs:List (List UInt8)) (ah:Option Addr) (ch:Nat),t13=.int .i64 n∧n<t.nodes.length∧t12=.slice ah hs.length ch∧hs.length≤n∧Hid (UpAt t k n hs)∧Hid (MO wy wz.heap.size ah ch hs)∧Hid (Below wz.heap.size wz wy)) (fun _ i _=>t.nodes.length-(intOf i).toNat)
       case atStart=>exact⟨k,[],_,_,rfl,HK.out,rfl,Nat.zero_le _,Hd (UpAt.start t k),Hd (cU wz _ _ rfl nlr),Hd (brf.alloc nlr _)⟩
       case round=>
        obtain⟨n,hs,ah,ch,rfl,hnl,rfl,hhs,HUP,HO,HB⟩:=hrel;rename World=>wy
        have HRX:=Hd (HRZ.out.step HB.out);have HIX:=Hd (Row.mono HIZ.out HB.out nlr);have b0:=HRX.out.c0;have b1:=HRX.out.c1;have hgl:=HRX.out.gl;have hpg:=dS t n;obtain⟨bu,ou,eu,hbu,hcu⟩:=HRZ.out.upAt HGG.out hnl;subst eu;have hcx:=(HB.out.cell (p:=⟨bu,ou+n,none⟩) hbu).trans hcu;have HBU:=Hd hbu;have HCU:=Hd hcu;have HNL:=Hd hnl;have hbuy:bu<wy.heap.size:=Nat.lt_of_lt_of_le hbu HB.out.size;clear hcu;by_cases hp:0≤parent t n
        ·obtain⟨p,hpe,hpl⟩:=aT t n hp
         have hnp:=dD t n hp;rw[hpe]at hcx hnp HCU;have hnp2:n<p:=by omega
         have HST:=Hd (HUP.out.step HWF.out HGG.out hnl hpe hpl);obtain⟨b2,o2,ke,kce,ea2,hb2,e0,e1,e2,e3,e4,hke⟩:=HRX.out.tree.nodes.at hpl;simp only[Option.some.injEq,Addr.mk.injEq,and_true]at ea2;obtain⟨rfl,rfl⟩:=ea2;have hne:=t.nd_at hpl;obtain⟨E,hE⟩:∃E,t.nodes[p]=E:=⟨_,rfl⟩
         have hEk:=HWF.out.letK p hpl;rw[hE]at e0 e1 e2 e3 e4 hne hke hEk;have HNE:=Hd hne;have HKE:=Hd hke;have HEK:=Hd hEk;have HLB:Hid (letB t n p=(E.kind==20&&(E.kids.length==2&&E.kids.getD 1 0==(n:Int)))):=Hd (by unfold letB;rw[hne]);clear hpe hp hE hne hke hEk;go_wp2;go_region
         go_upto_region 29 with fail
         go_cut [188]from 151 to 205 (fun v wd=>v=.bool (!letB t n p)∧Below wy.heap.size wy wd∧wd.cell? ⟨wy.heap.size,1,none⟩=some (strV E.text)∧wy.heap.size<wd.heap.size)
         case first=>as_aux_lemma=>
          by_cases h20:E.kind=20
          ·have hl2:=HEK.out h20
           obtain⟨bk,ok,rfl,hbk,hck⟩:=Ints.at HKE.out (i:=1) (by omega);obtain⟨x,hx⟩:∃x,E.kids.getD 1 0=x:=⟨_,rfl⟩
           have hx2:E.kids[1]'(by omega)=x:=by rw[←hx,List.getD_eq_getElem?_getD,List.getElem?_eq_getElem (by omega),Option.getD_some]
           rw[hx2]at hck;have HX:=Hd hx;have HL2:=Hd hl2;have H20:=Hd h20;have hbk2:¬bk=wy.heap.size:=by omega
           have h1l:(1:Int)<(E.kids.length:Int):=by omega
           have hk20:(E.kind != 20)=false:=by simp[h20]
           have hk2:((E.kids.length:Int) != 2)=false:=by simp[hl2]
           clear hl2 hx hx2 h20;go_wp2;all_goals go_meet
           all_goals refine⟨?_,((Below.refl _ wy).alloc nlr _).drew,by simp,by simp⟩
           all_goals rw[HLB.out,H20.out,HL2.out,HX.out]
           all_goals simp[bne]
          ·have hk20:(E.kind != 20)=true:=by simpa using h20
           have H20:Hid ((E.kind==20)=false):=Hd (by simpa using h20);clear h20;go_wp2;all_goals go_meet
           all_goals refine⟨?_,((Below.refl _ wy).alloc nlr _).drew,by simp,by simp⟩
           all_goals rw[HLB.out,H20.out]
           all_goals simp
         case rest=>as_aux_lemma=>
          obtain⟨rfl,hBd,htx,hgt⟩:=hcut;rename World=>wd
          have HBD2:=Hd (HB.out.trans (hBd.mono HB.out.size));have HRD:=Hd (HRX.out.step hBd);have HID:=Hd (Row.mono HIX.out hBd nlr);have HOD:=Hd (zh HO.out hBd);have hcd:=(HBD2.out.cell (p:=⟨bu,ou+n,none⟩) HBU.out).trans HCU.out;have hbud:bu<wd.heap.size:=Nat.lt_of_lt_of_le HBU.out HBD2.out.size;have hgd:=HRD.out.gl;clear hBd b0 b1 hgl e0 e1 e2 e3 e4 hb2 hcx;have b0:=HRD.out.c0;have b1:=HRD.out.c1;rcases hlb:letB t n p with _|_
          ·have HUN:=Hd (HST.out.2 hlb)
           clear hlb;go_wp2
           go_roundw
           case rel=>exact⟨p,hs,ah,ch,rfl,hpl,rfl,by omega,HUN,HOD,HBD2⟩
           case measure=>simp[intOf];omega
          ·obtain⟨hiff,hun⟩:=HST.out.1 hlb
           have HUN:=Hd hun;obtain⟨q,hq⟩:∃q,hasS hs E.text=q:=⟨_,rfl⟩
           have hQ:hasI V (p:Int) = !q:=by
            rw[←hq];unfold hasI hasS;rw[HVV.out,HNE.out]at hiff
            cases hm:hs.contains E.text with
            |true=>rw[Bool.not_true,Bool.eq_false_iff,ne_eq,List.contains_iff_mem,hiff];exact fun h=>h (by simpa using hm)
            |false=>rw[Bool.not_false,List.contains_iff_mem,hiff];intro h;rw[List.contains_iff_mem.2 h]at hm;cases hm
           have HQ:=Hd hQ;have HS:=Hd hq;have hvl9:V.length≤140737488355328:=by omega
           rw[HNE.out]at HUN;clear hlb hiff hun hq hQ;go_wp2;refine N.region_JTm 10 hmo (by kernel_rfl) (by kernel_rfl) rfl (by kernel_rfl) (by kernel_rfl) (fun Wz=>Below (wd).heap.size (wd) Wz) (brf.drew) ?_
           iterate 5 (refine N.WalkT.cons ?_ (N.StepP.pure rfl ?_) ?_;rotate_left;(intro W hJ;obtain⟨hcJ,hfJ⟩:=bcell hJ;go_simp;rfl);simp only[N.pz])
           refine N.WalkT.cons (.bool (!q)) (N.StepP.call (f:=44) (args:=#[.slice a8 V.length c8,intV p]) rfl ?hG3_5 ?cG3_5) ?rG3_5;case hG3_5=>intro W hJ;obtain⟨hcJ,hfJ⟩:=bcell hJ;go_simp;try rfl
           case cG3_5=>intro W hJ;(refine(MD a8 c8 V p W hvl9 (Row.mono HID.out hJ nlr)).mono ?_;rw[HQ.out];rintro e w' ⟨rfl,rfl⟩;exact⟨rfl,hJ⟩)
           simp only[N.pz]
           iterate 3 (refine N.WalkT.cons ?_ (N.StepP.pure rfl ?_) ?_;rotate_left;(intro W hJ;obtain⟨hcJ,hfJ⟩:=bcell hJ;go_simp;rfl);simp only[N.pz])
           refine N.WalkT.cons (.bool q) (N.StepP.call (f:=45) (args:=#[.slice ah hs.length ch,strV E.text]) rfl ?hG3_9 ?cG3_9) ?rG3_9;case hG3_9=>intro W hJ;obtain⟨hcJ,hfJ⟩:=bcell hJ;go_simp;try rfl
           case cG3_9=>intro W hJ;(refine(MG ah ch hs E.text W (by omega) (Row.mono (MS HOD.out) hJ nlr)).mono ?_;rw[HS.out];rintro e w' ⟨rfl,rfl⟩;exact⟨rfl,hJ⟩)
           simp only[N.pz];refine N.WalkT.nil fun W hJ=>?_;have HJ9:=Hd hJ;have htx9:=(hJ.cell (p:=⟨wy.heap.size,1,none⟩) hgt).trans htx;have HOW:=Hd (zh HOD.out hJ);have hW9:wd.heap.size≤W.heap.size:=hJ.size;have hwz:wz.heap.size≤wd.heap.size:=HBD2.out.size;clear hJ b0 b1 htx hcd
           go_wp2_with (at_builtin;refine LY (tx:=E.text) rfl (.tmp 201) (.tmp 204) rfl rfl (HOW.out.alloc _) rfl (zL _ _ _) (by omega) (by simp;omega) ?_;intro a5 c5 w5 hown5 hkeep5;have hb5:=hkeep5 _ wz nlr ((HBD2.out.trans (HJ9.out.mono hwz)).alloc (by omega) (.cells #[strV E.text] 9));have hcd:=(hb5.cell (p:=⟨bu,ou+n,none⟩) HBU.out).trans HCU.out;have HB5:=Hd hb5;have HOW5:=Hd hown5;have hbu5:bu<w5.heap.size:=Nat.lt_of_lt_of_le HBU.out hb5.size;clear hb5 hown5 hkeep5)
           go_roundw
           case rel=>exact⟨p,hs++[E.text],a5,c5,rfl,hpl,by rw[List.length_append];rfl,by simp;omega,HUN,HOW5,HB5⟩
           case measure=>simp[intOf];omega
        ·have hpe:parent t n = -1:=by omega
         rw[hpe]at hcx;clear hp hpe hpg;go_wp2
         go_roundw
         case rel=>exact⟨k+1,by go_num,by have:=HK.out;omega,HRX⟩
         case measure=>have:=HK.out;simp[intOf];omega
  ·go_wp2_with (go_at_call 14;refine(bG _ HRW.out.gv).mono ?_;rintro e w9 ⟨rfl,hb9⟩)
   go_ret;exact⟨rfl,HRW.out.below.trans (hb9.mono HRW.out.below.size)⟩
end
end Go.Proofs.YtipjhljnkocioaaGreatDoor
