/- Part of a proof. -/
import Derived.Test.YtipjhljnkocioaaGreatDoorP40
import Derived.Test.YtipjhljnkocioaaGreatDoorQF05
set_option maxRecDepth 100000
set_option maxHeartbeats 8000000
set_option linter.unusedVariables false
set_option linter.unusedSimpArgs false
open Go.Proofs.Tryz
namespace Go.Proofs.YtipjhljnkocioaaGreatDoor
section
open Go Go.RowKit
def anyM(t:Tr)(k:Nat)(x:Int)(n:Nat):Bool:=(List.range n).any fun u=>means t u==x&&inside t u k
theorem MQ(t:Tr)(k:Nat)(x:Int)(n:Nat):anyM t k x (n+1)=(anyM t k x n||(means t n==x&&inside t n k)):=by
 unfold anyM;rw[List.range_succ,List.any_append];simp
def frees(t:Tr)(k:Nat):List (List Int):=(List.range k).map fun i:Nat=>(fK t i).1
theorem EE(t:Tr)(k:Nat):(frees t k).length=k:=by simp[frees]
theorem MN(t:Tr)(k:Nat):frees t (k+1)=frees t k++[(fK t k).1]:=by simp[frees,List.range_succ]
theorem LZ(t:Tr)(k:Nat){i:Nat}(h:i<(frees t k).length):(frees t k)[i]=(fK t i).1:=by simp[frees]
theorem MV{t:Tr}(bd:Bd t)(h:(zc t).2.2=0){i:Nat}(hi:i<t.nodes.length):(fK t i).1.length≤t.nodes.length:=by
 rw[LX bd h hi];split
 ·exact MJ t i
 ·exact Nat.zero_le _
theorem MU{t:Tr}(bd:Bd t)(h:(zc t).2.2=0){i:Nat}(hi:i<t.nodes.length)(hx:zZ (t.nd i).kind=true){k:Nat}(hkl:k<t.nodes.length)(hk:(k:Int)∈(t.nd i).kids){y:Int}(hy:y∈(fK t k).1) :
 y∈free t (ze t t.nodes.length) i∨y=i:=by
 rw[LX bd h hkl]at hy;split at hy
 ·exact NB bd h hi hx hk hy
 ·cases hy
theorem MM(s:List UInt8)(w:World)(hs:s.length≤maxLen)(hg:GV w) :
 Calls prog 10 #[strV s] w (zm w true):=by
 have hmo:prog.follows .mixedOrders=true:=by kernel_rfl
 have HC:=Hd (gM s w hs hg);have HG:=Hd hg;clear hg;go_enter func10,ntmps10
 go_wp2_with (first
  | (have:=A1;clear this;go_at_call 36
     refine(lK ⟨na,nc,ia,ic⟩ t _ HBD.out HWF.out HTX.out).mono ?_;rintro e w2⟨ua,uc,rfl,hown,hb2⟩;have hul:(bC t t.nodes.length).length=t.nodes.length:=zS t _;rw[hul]at hown⊢;have hu:=aQ hown
     have HR:Hid (ResW w w2 w1.heap.size ⟨na,nc,ia,ic⟩ t a c ua uc):=Hd (by
      obtain⟨a',c',e,hr⟩:=hu;simp at e;obtain⟨rfl,rfl⟩:=e
      exact⟨(hb2.cell (p:=⟨w1.heap.size,0,none⟩) (by simp)).trans (zX rfl),(hb2.cell (p:=⟨w1.heap.size,1,none⟩) (by simp)).trans (zX rfl),HTX.out.mono hb2 nlr,Row.mono HDX.out hb2 nlr,hr,Nat.lt_of_lt_of_le (by simp) hb2.size,HBX.out.trans (hb2.mono HBX.out.size),(HG.out.mono HBX.out nlr).mono hb2 nlr⟩)
     clear hown hb2 hu A1)
  | (go_at_call 35
     refine HC.out.mono ?_;rintro e w1⟨⟨na,nc,ia,ic⟩,t,a,c,l,ok,rfl,ht,hi,hb1,hbd,hrg,hok,-⟩;unfold TreeV.val;have hbx:=hb1.alloc hb1.size (.cells #[.slice na t.nodes.length nc,.slice ia t.items.length ic] 25);have HBX:=Hd hbx;clear hb1 hbx;rcases ok with _|_
     ·go_wp2_with (go_at_call 14;refine(bG _ (HG.out.mono HBX.out nlr)).mono ?_;rintro e w2 ⟨rfl,hb2⟩)
      go_ret;exact⟨rfl,HBX.out.trans (hb2.mono HBX.out.size)⟩
     obtain⟨hr0,rfl⟩:=hok rfl;obtain⟨wf,G⟩:=zK hbd hr0;have hdl:(ze t t.nodes.length).length=t.nodes.length:=zD t _;rw[hdl];unfold Ints at hi;rw[hdl]at hi;have hn3:=hbd.n;have HBD:=Hd hbd;have HRG:=Hd hrg;have HR0:=Hd hr0;have HWF:=Hd wf;have HGG:=Hd G;have HTX:=Hd (ht.mono ((Below.refl _ w1).alloc nlr (.cells #[.slice na t.nodes.length nc,.slice ia t.items.length ic] 25)) nlr);have HDX:=Hd (Row.mono hi ((Below.refl _ w1).alloc nlr (.cells #[.slice na t.nodes.length nc,.slice ia t.items.length ic] 25)) nlr);clear ht hi hbd hrg hok hr0 wf G hdl
     have A1:=True.intro))
 go_loopw [7,8] (fun t7 t8 wr=>∃(k:Nat) (af:Option Addr) (cf:Nat) (ks:List (Option Addr×Nat)),t8=.int .i64 k∧t7=.slice af k cf∧k≤t.nodes.length∧Hid (Below w2.heap.size w2 wr)∧Hid (OwnL wr w2.heap.size af cf (frees t k) ks)) (fun _ i _=>t.nodes.length-(intOf i).toNat)
 case atStart=>exact⟨0,_,_,[],rfl,rfl,Nat.zero_le _,Hd (brf.alloc nlr _),Hd (OwnL.new w2 rfl)⟩
 case round=>
  obtain⟨k,af,cf,ks,rfl,rfl,hk,HB,HO⟩:=hrel;have HRW:=Hd (HR.out.step HB.out);have b0:=HRW.out.c0;have b1:=HRW.out.c1;have hgl:=HRW.out.gl;by_cases hlt:k<t.nodes.length
  ·have HFU:=Hd (LX HBD.out HR0.out hlt)
   have HK:=Hd hlt;have B1:=Hd True.intro;have hnd:=t.nd_at hlt;obtain⟨D,hD⟩:∃D,D=t.nodes[k]'hlt:=⟨_,rfl⟩
   rw[←hD]at hnd;have HND:=Hd hnd;have HD:=Hd hD;have hkl9:D.kids.length≤1000000:=by rw[hD];exact HBD.out.k _ (List.getElem_mem hlt)
   obtain⟨dk,hdk⟩:∃dk,zZ D.kind=dk:=⟨_,rfl⟩
   have HDK:=Hd hdk;clear hdk hD hnd
   go_upto_if 54 with(first
    | (have:=B4;clear this;go_at_call 43
       refine(MD D.kind _).mono ?_;rw[HDK.out];rintro e w6⟨rfl,rfl⟩;clear B4
       have B5:=Hd True.intro)
    | (have:=B3;clear this;at_builtin
       refine ME (k:=(a9,c9)) (l:=(fK t k).1) (L:=frees t k) (ks:=ks) rfl (.tmp 43) (.tmp 45) rfl rfl (EE t k) (HO4.out.below (brf.alloc nlr _)) rfl (zL _ _ _) (HK4.out.below (brf.alloc nlr _)) (by omega) (by have:=HB.out.size;have:=HB4.out.size;simp;omega) ?_;intro a5 c5 w5 ho5 hkeep5;have hb5:=hkeep5 _ w2 nlr ((HB.out.trans (HB4.out.mono HB.out.size)).alloc (by have:=HB.out.size;have:=HB4.out.size;omega) _);rw[←MN]at ho5;have HB5:=Hd hb5
       have HI5:Hid (Ints w5 a9 c9 (fK t k).1):=Hd (by
        have h1:=ho5.rows k (by rw[EE];omega) (by have:=ho5.len;rw[EE]at this;omega)
        have h2:(ks++[(a9,c9)])[k]'(by have:=ho5.len;rw[EE]at this;omega)=(a9,c9):=by
         have:=HO.out.len;rw[EE]at this;subst this;simp
        rw[h2,LZ]at h1
        exact h1.1)
       have HO5:=Hd ho5;have HR5:=Hd (HR.out.step hb5);have c50:=HR5.out.c0;have c51:=HR5.out.c1;obtain⟨b,o,ka,kc,ea,hb,n0,n1,n2,n3,n4,hkr⟩:=HR5.out.tree.nodes.at HK.out;rw[←HD.out]at n0 n1 n2 n3 n4 hkr;simp only at ea;subst ea;clear hb5 ho5 hkeep5 B3 hkr c40 c41
       have B4:=Hd True.intro)
    | (have:=B2;clear this;go_at_call 22
       refine(pH ⟨ma,mc,ja,jc⟩ t k _ HBD.out HRG.out HR3.out.gv HT3.out).mono ?_;rintro e w4⟨a9,c9,rfl,hown,hb4⟩;have hb14:=HB3.out.trans (hb4.mono HB3.out.size);have HB4:=Hd hb14;have HR4:=Hd (HR3.out.step hb4);have HK4:Hid (KRow w4 w2.heap.size af (a9,c9) (fK t k).1):=Hd (NC hown (by have:=HB.out.size;have:=HB3.out.size;omega) (fun y e=>by have:=(HO.out.lt y e).2;have:=HB3.out.size;omega));have HO4:=Hd (HO.out.below hb14);have c40:=HR4.out.c0;have c41:=HR4.out.c1;clear hown hb4 hb14 B2
       have B3:=Hd True.intro)
    | (have:=B1;clear this;go_at_call 40
       refine(eW ⟨na,nc,ia,ic⟩ t _ HBD.out HRW.out.tree).mono ?_;rintro e w3⟨⟨ma,mc,ja,jc⟩,B,ks3,rfl,-,hon,hin,-,hb3⟩;unfold TreeV.val;have HT3:=Hd (show IsTree w3 ⟨ma,mc,ja,jc⟩ t from⟨hon.nodes,hin⟩);have HR3:=Hd (HRW.out.step hb3);have HB3:=Hd hb3;clear hon hin hb3 B1
       have B2:=Hd True.intro))
   rcases dk with _|_
   ·have hv1:fK t k=([],7):=by rw[HFU.out,HND.out,HDK.out];rfl
    rw[hv1];clear hv1;go_wp2
    go_roundw
    case rel=>exact⟨k+1,a5,c5,_,by go_num,rfl,by omega,HB5,HO5⟩
    case measure=>simp[intOf];omega
   ·have hv1:fK t k=(free t (ze t t.nodes.length) k,0):=by rw[HFU.out,HND.out,HDK.out];rfl
    obtain⟨F,hF⟩:∃F,free t (ze t t.nodes.length) k=F:=⟨_,rfl⟩
    have HFasc:Hid (F.Pairwise (· < ·)):=Hd (by rw[←hF];exact MI t k);have HFat:Hid (∀x∈F,∃m u:Nat,x=m∧m<t.nodes.length∧u≤k∧means t u=m∧inside t u k=true∧inside t m k=false):=Hd (by rw[←hF];exact fun x hx=>NG HBD.out HR0.out HK.out hx);have HFn:Hid (D.kind=3→F=[means t k]):=Hd (by rw[←hF];exact fun h=>MW HBD.out HR0.out HK.out (by rw[HND.out];exact h));have HFk:Hid (∀kd:Nat,kd<t.nodes.length→(kd:Int)∈D.kids→∀y∈(fK t kd).1,y∈F∨y=k):=Hd (by rw[←hF];exact fun kd h1 h2 y hy=>MU HBD.out HR0.out HK.out (by rw[HND.out];exact HDK.out) h1 (by rw[HND.out];exact h2) hy);have hFl:F.length≤t.nodes.length:=by rw[←hF];exact MJ t k
    rw[hF]at hv1;rw[hv1]at HI5;rw[hv1];simp only at HI5;clear hv1 hF
    go_upto_region 13 with fail
    go_cut [82]from 29 to 195 (fun v wc=>v=.bool false∧Below w5.heap.size w5 wc)
    case first=>as_aux_lemma=>
     by_cases h3:D.kind=3
     ·have hm:=HFn.out h3
      rw[h3]at n0;obtain⟨bd,od,ed,hbd,hcd⟩:=HR5.out.declAt HK.out;subst ed;have HE:Hid ((F==[means t k])=true):=Hd (by rw[hm];simp);clear hm h3
      go_wp2_with (go_at_call 42;refine(LR a9 _ c9 _ F [means t k] _ (by omega) (by simp) (Row.mono HI5.out ((Below.refl _ w5).alloc nlr _) nlr) (zL _ _ _)).mono ?_;rw[HE.out];rintro e w' ⟨rfl,hbs⟩)
      go_meet
      exact⟨rfl,((Below.refl _ w5).alloc nlr _).trans (hbs.mono (by simp))⟩
     ·have h3':(D.kind==3)=false:=by simpa using h3
      clear h3;go_wp2
      go_meet
      exact⟨rfl,brf⟩
    case rest=>as_aux_lemma=>
     obtain⟨rfl,hBc⟩:=hcut;have HRC:=Hd (HR5.out.step hBc);have HOC:=Hd (HO5.out.below hBc);have HIC:=Hd (show Ints wc a9 c9 F from Row.mono HI5.out hBc nlr);have HBC:=Hd (HB5.out.trans (hBc.mono HB5.out.size));clear hBc b0 b1 c50 c51 n0 n1 n2 n3 n4 hgl hb;go_wp2
     go_loopw [11] (fun t11 wx=>∃j:Nat,t11=.int .i64 j∧j≤F.length∧Hid (Below wc.heap.size wc wx)) (fun i _=>F.length-(intOf i).toNat)
     case atStart=>exact⟨0,rfl,Nat.zero_le _,Hd brf⟩
     case round=>
      obtain⟨j,rfl,hj,HX⟩:=hrel;rename World=>wx
      by_cases hjl:j<F.length
      ·have HIX:=Hd (show Ints wx a9 c9 F from Row.mono HIC.out HX.out nlr)
       obtain⟨bv,ov,rfl,-,-⟩:=Ints.at HIX.out hjl;have hat:=HFat.out _ (List.getElem_mem hjl);obtain⟨x,hx⟩:∃x,F[j]=x:=⟨_,rfl⟩
       rw[hx]at hat;obtain⟨m,u,rfl,hml,huk,hmu,hiu,him⟩:=hat;have HXE:=Hd hx;have HAll:Hid (anyM t k m (k+1)=true):=Hd (List.any_eq_true.2 ⟨u,List.mem_range.2 (by omega),by rw[hmu,hiu];simp⟩);have HIM:=Hd him;have HJ2:=Hd hjl;have HML:=Hd hml;clear hx hmu hiu him huk hml;go_wp2
       go_loopw [12,13] (fun t12 t13 wy=>∃n:Nat,t13=.int .i64 n∧n≤k+1∧t12=.bool (anyM t k m n)∧Hid (Below wc.heap.size wc wy)) (fun _ i _=>k+1-(intOf i).toNat)
       case atStart=>exact⟨0,rfl,Nat.zero_le _,rfl,HX⟩
       case round=>
        obtain⟨n,rfl,hn,rfl,HY⟩:=hrel;rename World=>wy
        have HRY:=Hd (HRC.out.step HY.out);have HIY:=Hd (show Ints wy _ c9 F from Row.mono HIC.out HY.out nlr);obtain⟨bv2,ov2,ev2,hbv,hcv⟩:=Ints.at HIY.out HJ2.out;simp only[Option.some.injEq,Addr.mk.injEq,and_true]at ev2;obtain⟨rfl,rfl⟩:=ev2;rw[HXE.out]at hcv;by_cases hnk:n≤k
        ·have hnl:n<t.nodes.length:=by have:=HK.out;omega
         have hnl2:(n:Int)<(t.nodes.length:Int):=by omega
         obtain⟨bd,od,ed,hbd,hcd⟩:=HRY.out.declAt hnl;subst ed;have HS:=Hd (MQ t k m n);obtain⟨A,hA⟩:∃A,anyM t k m n=A:=⟨_,rfl⟩
         rw[hA]at HS⊢;clear hA;go_wp2;rcases A with _|_
         ·by_cases he:means t n=(m:Int)
          ·obtain⟨q,hq⟩:∃q,inside t n k=q:=⟨_,rfl⟩
           have hs:anyM t k m (n+1)=q:=by rw[HS.out,he,hq];simp
           have HQ:=Hd hq;have HSS:=Hd hs;rw[he]at hcd;clear hq hs he;refine N.region_JTm 18 hmo (by kernel_rfl) (by kernel_rfl) rfl (by kernel_rfl) (by kernel_rfl) (fun Wz=>Below (wy).heap.size (wy) Wz) (brf.drew) ?_
           iterate 15 (refine N.WalkT.cons ?_ (N.StepP.pure rfl ?_) ?_;rotate_left;(intro W hJ;obtain⟨hcJ,hfJ⟩:=bcell hJ;go_simp;rfl);simp only[N.pz])
           refine N.WalkT.cons (.bool q) (N.StepP.call (f:=39) (args:=#[.slice ua t.nodes.length uc,intV n,intV k]) rfl ?hG1_15 ?cG1_15) ?rG1_15;case hG1_15=>intro W hJ;obtain⟨hcJ,hfJ⟩:=bcell hJ;go_simp;try rfl
           case cG1_15=>intro W hJ;(refine((HRY.out.step hJ).within HBD.out HGG.out (by omega) (by have:=HK.out;omega)).mono ?_;rw[HQ.out];rintro e w' ⟨rfl,rfl⟩;exact⟨rfl,hJ⟩)
           simp only[N.pz]
           iterate 2 (refine N.WalkT.cons ?_ (N.StepP.pure rfl ?_) ?_;rotate_left;(intro W hJ;obtain⟨hcJ,hfJ⟩:=bcell hJ;go_simp;rfl);simp only[N.pz])
           refine N.WalkT.nil fun W hJ=>?_;go_wp2
           go_roundw
           case rel=>exact⟨n+1,by go_num,by omega,(by rw[HSS.out]),Hd (HY.out.trans (hJ.mono HY.out.size))⟩
           case measure=>simp[intOf];omega
          ·have he':(means t n==(m:Int))=false:=by simpa using he
           have hs:anyM t k m (n+1)=false:=by rw[HS.out,he'];rfl
           have HSS:=Hd hs;clear hs;refine N.region_JTm 18 hmo (by kernel_rfl) (by kernel_rfl) rfl (by kernel_rfl) (by kernel_rfl) (fun Wz=>Below (wy).heap.size (wy) Wz) (brf.drew) ?_
           iterate 18 ((first|(refine N.WalkT.cons undef (N.StepP.skip rfl) ?_)|(refine N.WalkT.cons ?_ (N.StepP.pure rfl ?_) ?_;rotate_left;(intro W hJ;obtain⟨hcJ,hfJ⟩:=bcell hJ;go_simp;rfl)));simp only[N.pz])
           refine N.WalkT.nil fun W hJ=>?_;go_wp2
           go_roundw
           case rel=>exact⟨n+1,by go_num,by omega,(by rw[HSS.out]),Hd (HY.out.trans (hJ.mono HY.out.size))⟩
           case measure=>simp[intOf];omega
         ·have hs:anyM t k m (n+1)=true:=by rw[HS.out];rfl
          have HSS:=Hd hs;clear hs;refine N.region_JTm 18 hmo (by kernel_rfl) (by kernel_rfl) rfl (by kernel_rfl) (by kernel_rfl) (fun Wz=>Below (wy).heap.size (wy) Wz) (brf.drew) ?_
          iterate 18 ((first|(refine N.WalkT.cons undef (N.StepP.skip rfl) ?_)|(refine N.WalkT.cons ?_ (N.StepP.pure rfl ?_) ?_;rotate_left;(intro W hJ;obtain⟨hcJ,hfJ⟩:=bcell hJ;go_simp;rfl)));simp only[N.pz])
          refine N.WalkT.nil fun W hJ=>?_;go_wp2
          go_roundw
          case rel=>exact⟨n+1,by go_num,by omega,(by rw[HSS.out]),Hd (HY.out.trans (hJ.mono HY.out.size))⟩
          case measure=>simp[intOf];omega
        ·obtain rfl:n=k+1:=by omega
         rw[HAll.out];go_wp2;by_cases hj0:j=0
         ·subst hj0
          rw[Nat.add_zero]at hcv;refine N.region_JTm 26 hmo (by kernel_rfl) (by kernel_rfl) rfl (by kernel_rfl) (by kernel_rfl) (fun Wz=>Below (wy).heap.size (wy) Wz) (brf.drew) ?_
          iterate 9 (refine N.WalkT.cons ?_ (N.StepP.pure rfl ?_) ?_;rotate_left;(intro W hJ;obtain⟨hcJ,hfJ⟩:=bcell hJ;go_simp;rfl);simp only[N.pz])
          refine N.WalkT.cons (.bool false) (N.StepP.call (f:=39) (args:=#[.slice ua t.nodes.length uc,intV m,intV k]) rfl ?hG4_9 ?cG4_9) ?rG4_9;case hG4_9=>intro W hJ;obtain⟨hcJ,hfJ⟩:=bcell hJ;go_simp;try rfl
          case cG4_9=>intro W hJ;(refine((HRY.out.step hJ).within HBD.out HGG.out (by omega) (by have:=HML.out;omega)).mono ?_;rw[HIM.out];rintro e w' ⟨rfl,rfl⟩;exact⟨rfl,hJ⟩)
          simp only[N.pz]
          iterate 16 ((first|(refine N.WalkT.cons undef (N.StepP.skip rfl) ?_)|(refine N.WalkT.cons ?_ (N.StepP.pure rfl ?_) ?_;rotate_left;(intro W hJ;obtain⟨hcJ,hfJ⟩:=bcell hJ;go_simp;rfl)));simp only[N.pz])
          refine N.WalkT.nil fun W hJ=>?_;go_wp2
          go_roundw
          case rel=>exact⟨1,by go_num,by have:=HJ2.out;omega,Hd (HY.out.trans (hJ.mono HY.out.size))⟩
          case measure=>have:=HJ2.out;simp[intOf];omega
         ·obtain⟨i,rfl⟩:∃i,j=i+1:=⟨j-1,by omega⟩
          have hil:i<F.length:=by omega
          have hbI:(i:Int)+1<(F.length:Int):=by omega
          have hbI2:(i:Int)<(F.length:Int):=by omega
          have hwI:IntKind.i64.wrap (i:Int)=(i:Int):=IntWalk.i64_in _ (by omega);obtain⟨bv2,ov2,ev2,hbv2,hcv2⟩:=Ints.at HIY.out hil;simp only[Option.some.injEq,Addr.mk.injEq,and_true]at ev2;obtain⟨rfl,rfl⟩:=ev2;have hlt2:F[i]<(m:Int):=by rw[←HXE.out];exact List.pairwise_iff_getElem.1 HFasc.out i (i+1) hil HJ2.out (by omega)
          obtain⟨y,hy⟩:∃y,F[i]=y:=⟨_,rfl⟩
          rw[hy]at hcv2 hlt2;have hle:decide ((m:Int)≤y)=false:=by simp;omega
          clear hy;refine N.region_JTm 26 hmo (by kernel_rfl) (by kernel_rfl) rfl (by kernel_rfl) (by kernel_rfl) (fun Wz=>Below (wy).heap.size (wy) Wz) (brf.drew) ?_
          iterate 9 (refine N.WalkT.cons ?_ (N.StepP.pure rfl ?_) ?_;rotate_left;(intro W hJ;obtain⟨hcJ,hfJ⟩:=bcell hJ;go_simp;rfl);simp only[N.pz])
          refine N.WalkT.cons (.bool false) (N.StepP.call (f:=39) (args:=#[.slice ua t.nodes.length uc,intV m,intV k]) rfl ?hG5_9 ?cG5_9) ?rG5_9;case hG5_9=>intro W hJ;obtain⟨hcJ,hfJ⟩:=bcell hJ;go_simp;try rfl
          case cG5_9=>intro W hJ;(refine((HRY.out.step hJ).within HBD.out HGG.out (by omega) (by have:=HML.out;omega)).mono ?_;rw[HIM.out];rintro e w' ⟨rfl,rfl⟩;exact⟨rfl,hJ⟩)
          simp only[N.pz]
          iterate 16 (refine N.WalkT.cons ?_ (N.StepP.pure rfl ?_) ?_;rotate_left;(intro W hJ;obtain⟨hcJ,hfJ⟩:=bcell hJ;go_simp;rfl);simp only[N.pz])
          refine N.WalkT.nil fun W hJ=>?_;go_wp2
          go_roundw
          case rel=>exact⟨i+1+1,by go_num,by have:=HJ2.out;omega,Hd (HY.out.trans (hJ.mono HY.out.size))⟩
          case measure=>have:=HJ2.out;simp[intOf];omega
      ·go_wp2
       go_loopw [14] (fun t14 wy=>∃q:Nat,t14=.int .i64 q∧q≤D.kids.length∧Hid (Below wc.heap.size wc wy)) (fun i _=>D.kids.length-(intOf i).toNat)
       case atStart=>exact⟨0,rfl,Nat.zero_le _,HX⟩
       case round=>
        obtain⟨q,rfl,hq,HY⟩:=hrel;rename World=>wy
        have HRY:=Hd (HRC.out.step HY.out);have b0:=HRY.out.c0;have b1:=HRY.out.c1;have hgl:=HRY.out.gl;obtain⟨b2,o2,ka2,kc2,ea2,hb2,n0,n1,n2,n3,n4,hkr⟩:=HRY.out.tree.nodes.at HK.out;rw[←HD.out]at n0 n1 n2 n3 n4 hkr;simp only[Option.some.injEq,Addr.mk.injEq,and_true]at ea2;obtain⟨rfl,rfl⟩:=ea2;by_cases hql:q<D.kids.length
        ·obtain⟨bk,ok,rfl,hbk,hck⟩:=Ints.at hkr hql
         have hmem:D.kids[q]∈D.kids:=List.getElem_mem hql;obtain⟨y,hy⟩:∃y,D.kids[q]=y:=⟨_,rfl⟩
         rw[hy]at hck hmem;obtain⟨k1,k2,k3,k4⟩:=HGG.out.kid HK.out y (by rw[HND.out];exact hmem);obtain⟨kd,rfl⟩:=Int.eq_ofNat_of_zero_le k4;have hkdk:kd<k:=by omega
         have hkdl:kd<t.nodes.length:=by have:=HK.out;omega
         obtain⟨K,hK⟩:∃K,(fK t kd).1=K:=⟨_,rfl⟩
         have HKK:Hid (∀z∈K,z∈F∨z=k):=Hd (by rw[←hK];exact HFk.out kd hkdl hmem);have hKl:K.length≤t.nodes.length:=by rw[←hK];exact MV HBD.out HR0.out hkdl
         have HKE:=Hd hK;have HQL:=Hd hql;have hkd1:decide ((k:Int)≤(kd:Int))=false:=by simp;omega
         have hkd2:decide (k≤kd)=false:=by simp;omega
         have hkd3:¬k≤kd:=by omega
         have hkd4:kd<k+1:=by omega
         have hkd5:(kd:Int)<(k:Int)+1:=by omega
         clear hy hmem k1 k2 k3 k4 hK hkr;go_wp2;clear b0 b1 hgl n0 n1 n2 n3 n4 hck hbk hb2
         go_loopw [16] (fun t16 wv=>∃p:Nat,t16=.int .i64 p∧p≤K.length∧Hid (Below wc.heap.size wc wv)) (fun i _=>K.length-(intOf i).toNat)
         case atStart=>exact⟨0,rfl,Nat.zero_le _,HY⟩
         case round=>
          obtain⟨p,rfl,hp,HV⟩:=hrel;rename World=>wv
          have HOV:=Hd (HOC.out.below HV.out);have HIV:=Hd (show Ints wv a9 c9 F from Row.mono HIC.out HV.out nlr);obtain⟨bf,of,k6,c6,rfl,hbf,hcf,hif⟩:=HOV.out.at (i:=kd) (by rw[EE];omega);rw[LZ,HKE.out]at hcf hif;have HIF:=Hd hif;clear hif;by_cases hpl:p<K.length
          ·obtain⟨br,or',rfl,hbr,hcr⟩:=Ints.at HIF.out hpl
           have hzz:=HKK.out _ (List.getElem_mem hpl);obtain⟨z,hz⟩:∃z,K[p]=z:=⟨_,rfl⟩
           rw[hz]at hcr hzz;obtain⟨h,hh⟩:∃h,hasI F z=h:=⟨_,rfl⟩
           have HH:=Hd hh;rcases h with _|_
           ·have hzk:z=k:=by
             rcases hzz with hzz|hzz
             ·unfold hasI at hh
              rw[List.contains_iff_mem.2 hzz]at hh;cases hh
             ·exact hzz
            subst hzk;clear hz hh hzz
            go_wp2_with (go_at_call 44;refine(MG a9 c9 F (k:Int) _ (by omega) HIV.out).mono ?_;rw[HH.out];rintro e w' ⟨rfl,rfl⟩)
            go_roundw
            case rel=>exact⟨p+1,by go_num,by omega,HV⟩
            case measure=>simp[intOf];omega
           ·clear hz hh hzz
            go_wp2_with (go_at_call 44;refine(MG a9 c9 F z _ (by omega) HIV.out).mono ?_;rw[HH.out];rintro e w' ⟨rfl,rfl⟩)
            go_roundw
            case rel=>exact⟨p+1,by go_num,by omega,HV⟩
            case measure=>simp[intOf];omega
          ·go_wp2
           go_roundw
           case rel=>exact⟨q+1,by go_num,by have:=HQL.out;omega,HV⟩
           case measure=>have:=HQL.out;simp[intOf];omega
        ·go_wp2
         go_roundw
         case rel=>exact⟨k+1,a5,c5,_,by go_num,rfl,by have:=HK.out;omega,Hd (HBC.out.trans (HY.out.mono HBC.out.size)),Hd (HOC.out.below HY.out)⟩
         case measure=>have:=HK.out;simp[intOf];omega
  ·go_wp2_with (go_at_call 14;refine(bG _ HRW.out.gv).mono ?_;rintro e w9 ⟨rfl,hb9⟩)
   go_ret;exact⟨rfl,HRW.out.below.trans (hb9.mono HRW.out.below.size)⟩
end
end Go.Proofs.YtipjhljnkocioaaGreatDoor
