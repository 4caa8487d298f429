/- Part of a proof. -/
import Derived.Test.YtokdgiphdnjeoaaGreatDoorQ18
set_option maxRecDepth 100000
set_option maxHeartbeats 8000000
set_option linter.unusedVariables false
set_option linter.unusedSimpArgs false
open Go.Proofs.Tryz
namespace Go.Proofs.YtokdgiphdnjeoaaGreatDoor
section
open Go.RowKit
theorem tM(d:Nd)(ka:Option Addr)(kc:Nat)(w:World)(h1:d.kind=23):Calls prog 199 #[ndV d ka kc] w (zG w (some ⟨false,0,0,[(2,2,.expr)]⟩)):=by
 have hmo:prog.follows .mixedOrders=true:=by kernel_rfl
 unfold ndV;obtain⟨k,hk⟩:∃k,d.kind=k:=⟨_,rfl⟩
 rw[hk]at h1⊢;clear hk;subst h1;go_enter func199,ntmps199;go_wp2;refine nQ (Ahead w 23) ⟨by go_simp,⟨by go_simp,by go_simp,by go_simp;rfl⟩,((show Below (w.heap.size+1+1) ((w.alloc (.cells #[.int .u8 23,strV d.text,intV d.n,.slice ka d.kids.length kc,intV d.pos] 57)).alloc (.cells #[.bool false,intV 0,intV 0,.slice none 0 0] 217)) _ from by go_grown).block (w.heap.size+1) (by omega)).trans (by have:=heap_alloc_new (w.alloc (.cells #[.int .u8 23,strV d.text,intV d.n,.slice ka d.kids.length kc,intV d.pos] 57)) (.cells #[.bool false,intV 0,intV 0,.slice none 0 0] 217);rwa[World.size_alloc]at this),by go_grown,by simp⟩ ?_;intro W0 hA;have HA:=Hd hA;obtain⟨_,_,hz0,hbW,hsz⟩:=hA;have hsz1:w.heap.size+1<W0.heap.size:=by omega
 have HBW:=Hd hbW;clear hbW hsz;refine N.region_M 18 hmo (by kernel_rfl) (by kernel_rfl) rfl (by kernel_rfl) (by kernel_rfl) (fun _ _=>False) N.Pans.no (SJs w W0) (SKs w) ⟨N.Off.of_below (brf.drew),.inl hz0⟩ [.fix ?vS0,.fix ?vS1,.dep [] (N.NewS W0.heap.size #[intV 2,intV 2,PK.V .expr] 263 1),.dep [2] (fun l v _=>v=.agg #[.bool false,intV 0,intV 0,l.getD 0 undef]),.fix ?vS4,.fix ?vS5,.fix ?vS6,.fix ?vS7,.fix ?vS8,.fix ?vS9,.fix ?vS10,.fix ?vS11,.fix ?vS12,.fix ?vS13,.fix ?vS14,.fix ?vS15,.fix ?vS16,.dep [] (fun _ _ W=>W.heap[w.heap.size+1]?≠some ZS)] [[],[],[],[2],[],[],[],[],[],[],[],[],[],[],[],[],[],[]] rfl (by kernel_rfl) (N.sts_kd ⟨trivial,trivial,N.NewS.stK hsz1,(fun _ _ _ _ _ h=>h),trivial,trivial,trivial,trivial,trivial,trivial,trivial,trivial,trivial,trivial,trivial,trivial,trivial,(fun _ _ _ _ hk h=>hk.2 h),trivial⟩) fun x=>?_;rotate_left 15;refine N.WalkM.fix ?s0 ?r0;case s0=>refine N.StepS.known rfl (fun _=>N.SK.refl _ _ _) ?_;intro W hJ hP;obtain⟨j0,j1,j2,j3⟩:=zn HA.out hJ;go_simp;try rfl
 simp only[N.pz];refine N.WalkM.fix ?s1 ?r1;case s1=>refine N.StepS.known rfl (fun _=>N.SK.refl _ _ _) ?_;intro W hJ hP;obtain⟨j0,j1,j2,j3⟩:=zn HA.out hJ;go_simp;try rfl
 simp only[N.pz];refine N.WalkM.dep ?s2 ?r2;case s2=>exact N.StepS.runs rfl (fun W hJ _=>⟨_,_,by(go_simp;try rfl),hJ.of_below hsz1 (brf.alloc nlr _),N.SK.of_below (hJ.lt hsz1) (brf.alloc nlr _),⟨W.heap.size,rfl,hJ.1.size,heap_alloc_new _ _⟩⟩)
 simp only[N.pz];refine N.WalkM.dep ?s3 ?r3;case s3=>(refine N.StepS.call' (f:=257) (args:=#[x 2]) rfl ?_ ?_;(intro W hJ hP;(go_simp;try rfl));(intro W hJ hP;obtain⟨g,hg,_,_⟩:N.NewS W0.heap.size #[intV 2,intV 2,PK.V .expr] 263 1 [] (x 2) W:=hP 2 (by kernel_rfl);rw[hg];refine(lC _ _ _ _).mono ?_;rintro e w' ⟨rfl,hb⟩;exact⟨_,rfl,hJ.of_below hsz1 hb,N.SK.of_below (hJ.lt hsz1) hb,by simp[hg]⟩))
 simp only[N.pz];refine N.WalkM.fix ?s4 ?r4;case s4=>refine N.StepS.known rfl (fun _=>N.SK.refl _ _ _) ?_;intro W hJ hP;obtain⟨j0,j1,j2,j3⟩:=zn HA.out hJ;go_simp;try rfl
 simp only[N.pz];refine N.WalkM.fix ?s5 ?r5;case s5=>refine N.StepS.known rfl (fun _=>N.SK.refl _ _ _) ?_;intro W hJ hP;obtain⟨j0,j1,j2,j3⟩:=zn HA.out hJ;go_simp;try rfl
 simp only[N.pz];refine N.WalkM.fix ?s6 ?r6;case s6=>refine N.StepS.known rfl (fun _=>N.SK.refl _ _ _) ?_;intro W hJ hP;obtain⟨j0,j1,j2,j3⟩:=zn HA.out hJ;go_simp;try rfl
 simp only[N.pz];refine N.WalkM.fix ?s7 ?r7;case s7=>refine N.StepS.known rfl (fun _=>N.SK.refl _ _ _) ?_;intro W hJ hP;obtain⟨j0,j1,j2,j3⟩:=zn HA.out hJ;go_simp;try rfl
 simp only[N.pz];refine N.WalkM.fix ?s8 ?r8;case s8=>refine N.StepS.known rfl (fun _=>N.SK.refl _ _ _) ?_;intro W hJ hP;obtain⟨j0,j1,j2,j3⟩:=zn HA.out hJ;go_simp;try rfl
 simp only[N.pz];refine N.WalkM.fix ?s9 ?r9;case s9=>refine N.StepS.known rfl (fun _=>N.SK.refl _ _ _) ?_;intro W hJ hP;obtain⟨j0,j1,j2,j3⟩:=zn HA.out hJ;go_simp;try rfl
 simp only[N.pz];refine N.WalkM.fix ?s10 ?r10;case s10=>refine N.StepS.known rfl (fun _=>N.SK.refl _ _ _) ?_;intro W hJ hP;obtain⟨j0,j1,j2,j3⟩:=zn HA.out hJ;go_simp;try rfl
 simp only[N.pz];refine N.WalkM.fix ?s11 ?r11;case s11=>refine N.StepS.known rfl (fun _=>N.SK.refl _ _ _) ?_;intro W hJ hP;obtain⟨j0,j1,j2,j3⟩:=zn HA.out hJ;go_simp;try rfl
 simp only[N.pz];refine N.WalkM.fix ?s12 ?r12;case s12=>refine N.StepS.known rfl (fun _=>N.SK.refl _ _ _) ?_;intro W hJ hP;obtain⟨j0,j1,j2,j3⟩:=zn HA.out hJ;go_simp;try rfl
 simp only[N.pz];refine N.WalkM.fix ?s13 ?r13;case s13=>refine N.StepS.known rfl (fun _=>N.SK.refl _ _ _) ?_;intro W hJ hP;obtain⟨j0,j1,j2,j3⟩:=zn HA.out hJ;go_simp;try rfl
 simp only[N.pz];refine N.WalkM.fix ?s14 ?r14;case s14=>refine N.StepS.known rfl (fun _=>N.SK.refl _ _ _) ?_;intro W hJ hP;obtain⟨j0,j1,j2,j3⟩:=zn HA.out hJ;go_simp;try rfl
 simp only[N.pz];refine N.WalkM.fix ?s15 ?r15;case s15=>refine N.StepS.known rfl (fun _=>N.SK.refl _ _ _) ?_;intro W hJ hP;obtain⟨j0,j1,j2,j3⟩:=zn HA.out hJ;go_simp;try rfl
 simp only[N.pz];refine N.WalkM.fix ?s16 ?r16;case s16=>refine N.StepS.known rfl (fun _=>N.SK.refl _ _ _) ?_;intro W hJ hP;obtain⟨j0,j1,j2,j3⟩:=zn HA.out hJ;go_simp;try rfl
 simp only[N.pz];refine N.WalkM.dep ?s17 ?r17;case s17=>(refine .inl ⟨rfl,fun W hJ hP=>?_⟩;obtain⟨g,hg,hg2,hg3⟩:N.NewS W0.heap.size #[intV 2,intV 2,PK.V .expr] 263 1 [] (x 2) W:=hP 2 (by kernel_rfl);have h3:x 3=.agg #[.bool false,intV 0,intV 0,[x 2].getD 0 undef]:=hP 3 (by kernel_rfl);refine nO (g:=g) hsz1 hg2 hg3 hJ (.tmp 2) (.tmp 118) rfl rfl rfl ?_;refine Eq.trans (b:=x 3) rfl ?_;rw[h3,hg];rfl)
 simp only[N.pz];refine N.WalkM.nil fun W hJ hH=>?_;have hne:W.heap[w.heap.size+1]?≠some ZS:=hH 17;obtain⟨hoff,hz|⟨g,hg,hx,hp⟩⟩:=hJ
 ·exact(hne hz).elim
 have hb:Below w.heap.size w W:=HBW.out.trans (hoff.below (by omega) HBW.out.size);have u0:W.cell? ⟨w.heap.size+1,0,none⟩=some (.bool false):=by simp[World.cell?,hx]
 have u1:W.cell? ⟨w.heap.size+1,1,none⟩=some (intV 0):=by simp[World.cell?,hx]
 have u2:W.cell? ⟨w.heap.size+1,2,none⟩=some (intV 0):=by simp[World.cell?,hx]
 have u3:W.cell? ⟨w.heap.size+1,3,none⟩=some (.slice (some ⟨g,0,none⟩) 1 1):=by simp[World.cell?,hx]
 clear hne hH hoff hx;go_wp2;refine bodyPost_ret (v:=.tuple #[.agg #[.bool false,intV 0,intV 0,.slice (some ⟨g,0,none⟩) 1 1],.bool true]) (by simp[results,results199,go_sem,loadVar,u0,u1,u2,u3,Result.andThen]) rfl ⟨_,_,rfl,row3 (Array.getElem?_eq_some_iff.1 hp).1 (by simp[World.cell?,hp]) (by simp[World.cell?,hp]) (by simp[World.cell?,hp]),hb⟩
theorem AN(d:Nd)(ka:Option Addr)(kc:Nat)(w:World)(h1:d.kind<1):Calls prog 199 #[ndV d ka kc] w (zG w none):=by
 have hmo:prog.follows .mixedOrders=true:=by kernel_rfl
 unfold ndV;obtain⟨k,hk⟩:∃k,d.kind=k:=⟨_,rfl⟩
 rw[hk]at h1⊢;clear hk;have n1:(k==1)=false:=by simp;omega
 have n2:(k==2)=false:=by simp;omega
 have n3:(k==3)=false:=by simp;omega
 have n32:(k==32)=false:=by simp;omega
 have n45:(k==45)=false:=by simp;omega
 have n4:(k==4)=false:=by simp;omega
 have n5:(k==5)=false:=by simp;omega
 have n19:(k==19)=false:=by simp;omega
 have n20:(k==20)=false:=by simp;omega
 have n21:(k==21)=false:=by simp;omega
 have n22:(k==22)=false:=by simp;omega
 have n25:(k==25)=false:=by simp;omega
 have n43:(k==43)=false:=by simp;omega
 have n44:(k==44)=false:=by simp;omega
 have n24:(k==24)=false:=by simp;omega
 have n26:(k==26)=false:=by simp;omega
 have n30:(k==30)=false:=by simp;omega
 have n31:(k==31)=false:=by simp;omega
 have n33:(k==33)=false:=by simp;omega
 have n34:(k==34)=false:=by simp;omega
 have n40:(k==40)=false:=by simp;omega
 have n41:(k==41)=false:=by simp;omega
 have n42:(k==42)=false:=by simp;omega
 have n46:(k==46)=false:=by simp;omega
 have n23:(k==23)=false:=by simp;omega
 have n6:¬6≤k:=by omega
 have d6:decide (6≤k)=false:=by simp;omega
 go_enter func199,ntmps199;go_wp2;refine nQ (Ahead w k) ⟨by go_simp,⟨by go_simp,by go_simp,by go_simp;rfl⟩,((show Below (w.heap.size+1+1) ((w.alloc (.cells #[.int .u8 k,strV d.text,intV d.n,.slice ka d.kids.length kc,intV d.pos] 57)).alloc (.cells #[.bool false,intV 0,intV 0,.slice none 0 0] 217)) _ from by go_grown).block (w.heap.size+1) (by omega)).trans (by have:=heap_alloc_new (w.alloc (.cells #[.int .u8 k,strV d.text,intV d.n,.slice ka d.kids.length kc,intV d.pos] 57)) (.cells #[.bool false,intV 0,intV 0,.slice none 0 0] 217);rwa[World.size_alloc]at this),by go_grown,by simp⟩ ?_;intro W0 hA;have HA:=Hd hA;obtain⟨_,_,hz0,hbW,hsz⟩:=hA;have hsz1:w.heap.size+1<W0.heap.size:=by omega
 have HBW:=Hd hbW;clear hbW hsz;refine N.region_M 18 hmo (by kernel_rfl) (by kernel_rfl) rfl (by kernel_rfl) (by kernel_rfl) (fun _ _=>False) N.Pans.no (SJs w W0) (SKs w) ⟨N.Off.of_below (brf.drew),.inl hz0⟩ [.fix ?vS0,.fix ?vS1,.dep [] (N.NewS W0.heap.size #[intV 2,intV 2,PK.V .expr] 263 1),.dep [2] (fun l v _=>v=.agg #[.bool false,intV 0,intV 0,l.getD 0 undef]),.fix ?vS4,.fix ?vS5,.fix ?vS6,.fix ?vS7,.fix undef,.fix undef,.fix undef,.fix ?vS11,.fix ?vS12,.fix ?vS13,.fix ?vS14,.fix ?vS15,.fix ?vS16,.dep [] (fun _ _ W=>W.heap[w.heap.size+1]?≠some ZS)] [[],[],[],[2],[],[],[],[],[],[],[],[],[],[],[],[],[],[]] rfl (by kernel_rfl) (N.sts_kd ⟨trivial,trivial,N.NewS.stK hsz1,(fun _ _ _ _ _ h=>h),trivial,trivial,trivial,trivial,trivial,trivial,trivial,trivial,trivial,trivial,trivial,trivial,trivial,(fun _ _ _ _ hk h=>hk.2 h),trivial⟩) fun x=>?_;rotate_left 12;refine N.WalkM.fix ?s0 ?r0;case s0=>refine N.StepS.known rfl (fun _=>N.SK.refl _ _ _) ?_;intro W hJ hP;obtain⟨j0,j1,j2,j3⟩:=zn HA.out hJ;go_simp;try rfl
 simp only[N.pz];refine N.WalkM.fix ?s1 ?r1;case s1=>refine N.StepS.known rfl (fun _=>N.SK.refl _ _ _) ?_;intro W hJ hP;obtain⟨j0,j1,j2,j3⟩:=zn HA.out hJ;go_simp;try rfl
 simp only[N.pz];refine N.WalkM.dep ?s2 ?r2;case s2=>exact N.StepS.runs rfl (fun W hJ _=>⟨_,_,by(go_simp;try rfl),hJ.of_below hsz1 (brf.alloc nlr _),N.SK.of_below (hJ.lt hsz1) (brf.alloc nlr _),⟨W.heap.size,rfl,hJ.1.size,heap_alloc_new _ _⟩⟩)
 simp only[N.pz];refine N.WalkM.dep ?s3 ?r3;case s3=>(refine N.StepS.call' (f:=257) (args:=#[x 2]) rfl ?_ ?_;(intro W hJ hP;(go_simp;try rfl));(intro W hJ hP;obtain⟨g,hg,_,_⟩:N.NewS W0.heap.size #[intV 2,intV 2,PK.V .expr] 263 1 [] (x 2) W:=hP 2 (by kernel_rfl);rw[hg];refine(lC _ _ _ _).mono ?_;rintro e w' ⟨rfl,hb⟩;exact⟨_,rfl,hJ.of_below hsz1 hb,N.SK.of_below (hJ.lt hsz1) hb,by simp[hg]⟩))
 simp only[N.pz];refine N.WalkM.fix ?s4 ?r4;case s4=>refine N.StepS.known rfl (fun _=>N.SK.refl _ _ _) ?_;intro W hJ hP;obtain⟨j0,j1,j2,j3⟩:=zn HA.out hJ;go_simp;try rfl
 simp only[N.pz];refine N.WalkM.fix ?s5 ?r5;case s5=>refine N.StepS.known rfl (fun _=>N.SK.refl _ _ _) ?_;intro W hJ hP;obtain⟨j0,j1,j2,j3⟩:=zn HA.out hJ;go_simp;try rfl
 simp only[N.pz];refine N.WalkM.fix ?s6 ?r6;case s6=>refine N.StepS.known rfl (fun _=>N.SK.refl _ _ _) ?_;intro W hJ hP;obtain⟨j0,j1,j2,j3⟩:=zn HA.out hJ;go_simp;try rfl
 simp only[N.pz];refine N.WalkM.fix ?s7 ?r7;case s7=>refine N.StepS.known rfl (fun _=>N.SK.refl _ _ _) ?_;intro W hJ hP;obtain⟨j0,j1,j2,j3⟩:=zn HA.out hJ;go_simp;try rfl
 simp only[N.pz];refine N.WalkM.fix ?s8 ?r8;case s8=>exact N.StepS.skip rfl (fun _=>N.SK.refl _ _ _) (fun _ _ _=>rfl)
 simp only[N.pz];refine N.WalkM.fix ?s9 ?r9;case s9=>exact N.StepS.skip rfl (fun _=>N.SK.refl _ _ _) (fun _ _ _=>rfl)
 simp only[N.pz];refine N.WalkM.fix ?s10 ?r10;case s10=>exact N.StepS.skip rfl (fun _=>N.SK.refl _ _ _) (fun _ _ _=>rfl)
 simp only[N.pz];refine N.WalkM.fix ?s11 ?r11;case s11=>refine N.StepS.known rfl (fun _=>N.SK.refl _ _ _) ?_;intro W hJ hP;obtain⟨j0,j1,j2,j3⟩:=zn HA.out hJ;go_simp;try rfl
 simp only[N.pz];refine N.WalkM.fix ?s12 ?r12;case s12=>refine N.StepS.known rfl (fun _=>N.SK.refl _ _ _) ?_;intro W hJ hP;obtain⟨j0,j1,j2,j3⟩:=zn HA.out hJ;go_simp;try rfl
 simp only[N.pz];refine N.WalkM.fix ?s13 ?r13;case s13=>refine N.StepS.known rfl (fun _=>N.SK.refl _ _ _) ?_;intro W hJ hP;obtain⟨j0,j1,j2,j3⟩:=zn HA.out hJ;go_simp;try rfl
 simp only[N.pz];refine N.WalkM.fix ?s14 ?r14;case s14=>refine N.StepS.known rfl (fun _=>N.SK.refl _ _ _) ?_;intro W hJ hP;obtain⟨j0,j1,j2,j3⟩:=zn HA.out hJ;go_simp;try rfl
 simp only[N.pz];refine N.WalkM.fix ?s15 ?r15;case s15=>refine N.StepS.known rfl (fun _=>N.SK.refl _ _ _) ?_;intro W hJ hP;obtain⟨j0,j1,j2,j3⟩:=zn HA.out hJ;go_simp;try rfl
 simp only[N.pz];refine N.WalkM.fix ?s16 ?r16;case s16=>refine N.StepS.known rfl (fun _=>N.SK.refl _ _ _) ?_;intro W hJ hP;obtain⟨j0,j1,j2,j3⟩:=zn HA.out hJ;go_simp;try rfl
 simp only[N.pz];refine N.WalkM.dep ?s17 ?r17;case s17=>(refine .inl ⟨rfl,fun W hJ hP=>?_⟩;obtain⟨g,hg,hg2,hg3⟩:N.NewS W0.heap.size #[intV 2,intV 2,PK.V .expr] 263 1 [] (x 2) W:=hP 2 (by kernel_rfl);have h3:x 3=.agg #[.bool false,intV 0,intV 0,[x 2].getD 0 undef]:=hP 3 (by kernel_rfl);refine nO (g:=g) hsz1 hg2 hg3 hJ (.tmp 2) (.tmp 118) rfl rfl rfl ?_;refine Eq.trans (b:=x 3) rfl ?_;rw[h3,hg];rfl)
 simp only[N.pz];refine N.WalkM.nil fun W hJ hH=>?_;have hne:W.heap[w.heap.size+1]?≠some ZS:=hH 17;obtain⟨hoff,hz|⟨g,hg,hx,hp⟩⟩:=hJ
 ·exact(hne hz).elim
 have hb:Below w.heap.size w W:=HBW.out.trans (hoff.below (by omega) HBW.out.size);have u0:W.cell? ⟨w.heap.size+1,0,none⟩=some (.bool false):=by simp[World.cell?,hx]
 have u1:W.cell? ⟨w.heap.size+1,1,none⟩=some (intV 0):=by simp[World.cell?,hx]
 have u2:W.cell? ⟨w.heap.size+1,2,none⟩=some (intV 0):=by simp[World.cell?,hx]
 have u3:W.cell? ⟨w.heap.size+1,3,none⟩=some (.slice (some ⟨g,0,none⟩) 1 1):=by simp[World.cell?,hx]
 clear hne hH hoff hx;go_wp2;refine bodyPost_ret (v:=.tuple #[.agg #[.bool false,intV 0,intV 0,.slice (some ⟨g,0,none⟩) 1 1],.bool false]) (by simp[results,results199,go_sem,loadVar,u0,u1,u2,u3,Result.andThen]) rfl ⟨_,_,_,rfl,hb⟩
theorem wM(d:Nd)(ka:Option Addr)(kc:Nat)(w:World)(h1:26<d.kind)(h2:okK d.kind=false):Calls prog 199 #[ndV d ka kc] w (zG w none):=by
 have hmo:prog.follows .mixedOrders=true:=by kernel_rfl
 unfold ndV;obtain⟨k,hk⟩:∃k,d.kind=k:=⟨_,rfl⟩
 rw[hk]at h1 h2⊢;clear hk;have h3:¬(okK k=true):=by rw[h2];exact Bool.false_ne_true
 simp[okK,bB,fT,cH]at h3;have n1:(k==1)=false:=by simp;omega
 have n2:(k==2)=false:=by simp;omega
 have n3:(k==3)=false:=by simp;omega
 have n32:(k==32)=false:=by simp;omega
 have n45:(k==45)=false:=by simp;omega
 have n4:(k==4)=false:=by simp;omega
 have n5:(k==5)=false:=by simp;omega
 have n19:(k==19)=false:=by simp;omega
 have n20:(k==20)=false:=by simp;omega
 have n21:(k==21)=false:=by simp;omega
 have n22:(k==22)=false:=by simp;omega
 have n25:(k==25)=false:=by simp;omega
 have n43:(k==43)=false:=by simp;omega
 have n44:(k==44)=false:=by simp;omega
 have n24:(k==24)=false:=by simp;omega
 have n26:(k==26)=false:=by simp;omega
 have n30:(k==30)=false:=by simp;omega
 have n31:(k==31)=false:=by simp;omega
 have n33:(k==33)=false:=by simp;omega
 have n34:(k==34)=false:=by simp;omega
 have n40:(k==40)=false:=by simp;omega
 have n41:(k==41)=false:=by simp;omega
 have n42:(k==42)=false:=by simp;omega
 have n46:(k==46)=false:=by simp;omega
 have n18:¬k≤18:=by omega
 have d18:decide (k≤18)=false:=by simp;omega
 have n23:(k==23)=false:=by simp;omega
 have n6:6≤k:=by omega
 clear h2;clear h3;go_enter func199,ntmps199;go_wp2;refine nQ (Ahead w k) ⟨by go_simp,⟨by go_simp,by go_simp,by go_simp;rfl⟩,((show Below (w.heap.size+1+1) ((w.alloc (.cells #[.int .u8 k,strV d.text,intV d.n,.slice ka d.kids.length kc,intV d.pos] 57)).alloc (.cells #[.bool false,intV 0,intV 0,.slice none 0 0] 217)) _ from by go_grown).block (w.heap.size+1) (by omega)).trans (by have:=heap_alloc_new (w.alloc (.cells #[.int .u8 k,strV d.text,intV d.n,.slice ka d.kids.length kc,intV d.pos] 57)) (.cells #[.bool false,intV 0,intV 0,.slice none 0 0] 217);rwa[World.size_alloc]at this),by go_grown,by simp⟩ ?_;intro W0 hA;have HA:=Hd hA;obtain⟨_,_,hz0,hbW,hsz⟩:=hA;have hsz1:w.heap.size+1<W0.heap.size:=by omega
 have HBW:=Hd hbW;clear hbW hsz;refine N.region_M 18 hmo (by kernel_rfl) (by kernel_rfl) rfl (by kernel_rfl) (by kernel_rfl) (fun _ _=>False) N.Pans.no (SJs w W0) (SKs w) ⟨N.Off.of_below (brf.drew),.inl hz0⟩ [.fix ?vS0,.fix ?vS1,.dep [] (N.NewS W0.heap.size #[intV 2,intV 2,PK.V .expr] 263 1),.dep [2] (fun l v _=>v=.agg #[.bool false,intV 0,intV 0,l.getD 0 undef]),.fix ?vS4,.fix ?vS5,.fix ?vS6,.fix ?vS7,.fix ?vS8,.fix ?vS9,.fix ?vS10,.fix ?vS11,.fix ?vS12,.fix ?vS13,.fix ?vS14,.fix ?vS15,.fix ?vS16,.dep [] (fun _ _ W=>W.heap[w.heap.size+1]?≠some ZS)] [[],[],[],[2],[],[],[],[],[],[],[],[],[],[],[],[],[],[]] rfl (by kernel_rfl) (N.sts_kd ⟨trivial,trivial,N.NewS.stK hsz1,(fun _ _ _ _ _ h=>h),trivial,trivial,trivial,trivial,trivial,trivial,trivial,trivial,trivial,trivial,trivial,trivial,trivial,(fun _ _ _ _ hk h=>hk.2 h),trivial⟩) fun x=>?_;rotate_left 15;refine N.WalkM.fix ?s0 ?r0;case s0=>refine N.StepS.known rfl (fun _=>N.SK.refl _ _ _) ?_;intro W hJ hP;obtain⟨j0,j1,j2,j3⟩:=zn HA.out hJ;go_simp;try rfl
 simp only[N.pz];refine N.WalkM.fix ?s1 ?r1;case s1=>refine N.StepS.known rfl (fun _=>N.SK.refl _ _ _) ?_;intro W hJ hP;obtain⟨j0,j1,j2,j3⟩:=zn HA.out hJ;go_simp;try rfl
 simp only[N.pz];refine N.WalkM.dep ?s2 ?r2;case s2=>exact N.StepS.runs rfl (fun W hJ _=>⟨_,_,by(go_simp;try rfl),hJ.of_below hsz1 (brf.alloc nlr _),N.SK.of_below (hJ.lt hsz1) (brf.alloc nlr _),⟨W.heap.size,rfl,hJ.1.size,heap_alloc_new _ _⟩⟩)
 simp only[N.pz];refine N.WalkM.dep ?s3 ?r3;case s3=>(refine N.StepS.call' (f:=257) (args:=#[x 2]) rfl ?_ ?_;(intro W hJ hP;(go_simp;try rfl));(intro W hJ hP;obtain⟨g,hg,_,_⟩:N.NewS W0.heap.size #[intV 2,intV 2,PK.V .expr] 263 1 [] (x 2) W:=hP 2 (by kernel_rfl);rw[hg];refine(lC _ _ _ _).mono ?_;rintro e w' ⟨rfl,hb⟩;exact⟨_,rfl,hJ.of_below hsz1 hb,N.SK.of_below (hJ.lt hsz1) hb,by simp[hg]⟩))
 simp only[N.pz];refine N.WalkM.fix ?s4 ?r4;case s4=>refine N.StepS.known rfl (fun _=>N.SK.refl _ _ _) ?_;intro W hJ hP;obtain⟨j0,j1,j2,j3⟩:=zn HA.out hJ;go_simp;try rfl
 simp only[N.pz];refine N.WalkM.fix ?s5 ?r5;case s5=>refine N.StepS.known rfl (fun _=>N.SK.refl _ _ _) ?_;intro W hJ hP;obtain⟨j0,j1,j2,j3⟩:=zn HA.out hJ;go_simp;try rfl
 simp only[N.pz];refine N.WalkM.fix ?s6 ?r6;case s6=>refine N.StepS.known rfl (fun _=>N.SK.refl _ _ _) ?_;intro W hJ hP;obtain⟨j0,j1,j2,j3⟩:=zn HA.out hJ;go_simp;try rfl
 simp only[N.pz];refine N.WalkM.fix ?s7 ?r7;case s7=>refine N.StepS.known rfl (fun _=>N.SK.refl _ _ _) ?_;intro W hJ hP;obtain⟨j0,j1,j2,j3⟩:=zn HA.out hJ;go_simp;try rfl
 simp only[N.pz];refine N.WalkM.fix ?s8 ?r8;case s8=>refine N.StepS.known rfl (fun _=>N.SK.refl _ _ _) ?_;intro W hJ hP;obtain⟨j0,j1,j2,j3⟩:=zn HA.out hJ;go_simp;try rfl
 simp only[N.pz];refine N.WalkM.fix ?s9 ?r9;case s9=>refine N.StepS.known rfl (fun _=>N.SK.refl _ _ _) ?_;intro W hJ hP;obtain⟨j0,j1,j2,j3⟩:=zn HA.out hJ;go_simp;try rfl
 simp only[N.pz];refine N.WalkM.fix ?s10 ?r10;case s10=>refine N.StepS.known rfl (fun _=>N.SK.refl _ _ _) ?_;intro W hJ hP;obtain⟨j0,j1,j2,j3⟩:=zn HA.out hJ;go_simp;try rfl
 simp only[N.pz];refine N.WalkM.fix ?s11 ?r11;case s11=>refine N.StepS.known rfl (fun _=>N.SK.refl _ _ _) ?_;intro W hJ hP;obtain⟨j0,j1,j2,j3⟩:=zn HA.out hJ;go_simp;try rfl
 simp only[N.pz];refine N.WalkM.fix ?s12 ?r12;case s12=>refine N.StepS.known rfl (fun _=>N.SK.refl _ _ _) ?_;intro W hJ hP;obtain⟨j0,j1,j2,j3⟩:=zn HA.out hJ;go_simp;try rfl
 simp only[N.pz];refine N.WalkM.fix ?s13 ?r13;case s13=>refine N.StepS.known rfl (fun _=>N.SK.refl _ _ _) ?_;intro W hJ hP;obtain⟨j0,j1,j2,j3⟩:=zn HA.out hJ;go_simp;try rfl
 simp only[N.pz];refine N.WalkM.fix ?s14 ?r14;case s14=>refine N.StepS.known rfl (fun _=>N.SK.refl _ _ _) ?_;intro W hJ hP;obtain⟨j0,j1,j2,j3⟩:=zn HA.out hJ;go_simp;try rfl
 simp only[N.pz];refine N.WalkM.fix ?s15 ?r15;case s15=>refine N.StepS.known rfl (fun _=>N.SK.refl _ _ _) ?_;intro W hJ hP;obtain⟨j0,j1,j2,j3⟩:=zn HA.out hJ;go_simp;try rfl
 simp only[N.pz];refine N.WalkM.fix ?s16 ?r16;case s16=>refine N.StepS.known rfl (fun _=>N.SK.refl _ _ _) ?_;intro W hJ hP;obtain⟨j0,j1,j2,j3⟩:=zn HA.out hJ;go_simp;try rfl
 simp only[N.pz];refine N.WalkM.dep ?s17 ?r17;case s17=>(refine .inl ⟨rfl,fun W hJ hP=>?_⟩;obtain⟨g,hg,hg2,hg3⟩:N.NewS W0.heap.size #[intV 2,intV 2,PK.V .expr] 263 1 [] (x 2) W:=hP 2 (by kernel_rfl);have h3:x 3=.agg #[.bool false,intV 0,intV 0,[x 2].getD 0 undef]:=hP 3 (by kernel_rfl);refine nO (g:=g) hsz1 hg2 hg3 hJ (.tmp 2) (.tmp 118) rfl rfl rfl ?_;refine Eq.trans (b:=x 3) rfl ?_;rw[h3,hg];rfl)
 simp only[N.pz];refine N.WalkM.nil fun W hJ hH=>?_;have hne:W.heap[w.heap.size+1]?≠some ZS:=hH 17;obtain⟨hoff,hz|⟨g,hg,hx,hp⟩⟩:=hJ
 ·exact(hne hz).elim
 have hb:Below w.heap.size w W:=HBW.out.trans (hoff.below (by omega) HBW.out.size);have u0:W.cell? ⟨w.heap.size+1,0,none⟩=some (.bool false):=by simp[World.cell?,hx]
 have u1:W.cell? ⟨w.heap.size+1,1,none⟩=some (intV 0):=by simp[World.cell?,hx]
 have u2:W.cell? ⟨w.heap.size+1,2,none⟩=some (intV 0):=by simp[World.cell?,hx]
 have u3:W.cell? ⟨w.heap.size+1,3,none⟩=some (.slice (some ⟨g,0,none⟩) 1 1):=by simp[World.cell?,hx]
 clear hne hH hoff hx;go_wp2;refine bodyPost_ret (v:=.tuple #[.agg #[.bool false,intV 0,intV 0,.slice (some ⟨g,0,none⟩) 1 1],.bool false]) (by simp[results,results199,go_sem,loadVar,u0,u1,u2,u3,Result.andThen]) rfl ⟨_,_,_,rfl,hb⟩
theorem row9{w:World}{b:Nat}{x0 x1 x2 x3 x4 x5 x6 x7 x8:Value}(hb:b<w.heap.size)(h0:w.cell? ⟨b,0,none⟩=some x0)(h1:w.cell? ⟨b,1,none⟩=some x1)(h2:w.cell? ⟨b,2,none⟩=some x2)(h3:w.cell? ⟨b,3,none⟩=some x3)(h4:w.cell? ⟨b,4,none⟩=some x4)(h5:w.cell? ⟨b,5,none⟩=some x5)
 (h6:w.cell? ⟨b,6,none⟩=some x6)(h7:w.cell? ⟨b,7,none⟩=some x7)(h8:w.cell? ⟨b,8,none⟩=some x8):Row 3 w (some ⟨b,0,none⟩) 3 3 [x0,x1,x2,x3,x4,x5,x6,x7,x8]:=
 ⟨rfl,nlr,(fun h=>by cases h),.inr ⟨b,0,rfl,hb,fun i hi=>by
  match i,hi with
  |0,_=>exact h0
  |1,_=>exact h1
  |2,_=>exact h2
  |3,_=>exact h3
  |4,_=>exact h4
  |5,_=>exact h5
  |6,_=>exact h6
  |7,_=>exact h7
  |8,_=>exact h8⟩⟩
theorem GP{c:Code}{P:Program}{Q:Exit→Act→World→Prop}{a:Act}{w:World}(F:World→Prop)(hF:F w)(h:∀W,F W→c.wp P Q a W):c.wp P Q a w:=h w hF
theorem CY(d:Nd)(ka:Option Addr)(kc:Nat)(w:World)(hk:d.kind=42):Calls prog 199 #[ndV d ka kc] w (zG w (some ⟨true,0,9223372036854775807,[(0,801,.param),(1,1,.kind),(1,1,.expr)]⟩)):=by
 have hmo:prog.follows .mixedOrders=true:=by kernel_rfl
 unfold ndV;rw[hk];clear hk;go_enter func199,ntmps199;go_wp2
 refine GP (fun W=>(W.cell? ⟨w.heap.size+1+1+1+1+1,0,none⟩=some (intV 1)∧W.cell? ⟨w.heap.size+1+1+1+1+1,1,none⟩=some (intV 1)∧W.cell? ⟨w.heap.size+1+1+1+1+1,2,none⟩=some (PK.V .expr)) ∧
  (W.cell? ⟨w.heap.size+1,0,none⟩=some (.bool false)∧W.cell? ⟨w.heap.size+1,1,none⟩=some (intV 0)∧W.cell? ⟨w.heap.size+1,2,none⟩=some (intV 0)∧W.cell? ⟨w.heap.size+1,3,none⟩=some (.slice none 0 0))∧(W.frozen? ⟨w.heap.size+1,0,none⟩=false∧W.frozen? ⟨w.heap.size+1,1,none⟩=false∧W.frozen? ⟨w.heap.size+1,2,none⟩=false∧W.frozen? ⟨w.heap.size+1,3,none⟩=false)∧Below w.heap.size w W∧w.heap.size+1+1+1+1+1<W.heap.size)
  ⟨⟨by go_simp,by go_simp,by go_simp;rfl⟩,⟨by go_simp,by go_simp,by go_simp,by go_simp⟩,⟨by go_simp,by go_simp,by go_simp,by go_simp⟩,by go_grown,by simp⟩ ?_
 rintro W0⟨⟨p0,p1,p2⟩,⟨r0,r1,r2,r3⟩,⟨f0,f1,f2,f3⟩,hbW,hsz⟩;have hsz1:w.heap.size+1<W0.heap.size:=by omega
 have HBW:=Hd hbW;clear hbW;refine N.region_JTm 3 hmo (by kernel_rfl) (by kernel_rfl) rfl (by kernel_rfl) (by kernel_rfl) (fun Wz=>Below (W0).heap.size (W0) Wz) (brf.drew) ?_;refine N.WalkT.cons ?_ (N.StepP.pure rfl ?_) ?_;rotate_left;(intro W hJ;obtain⟨hcJ,hfJ⟩:=bcell hJ;go_simp;rfl);simp only[N.pz];refine N.WalkT.cons (.agg #[intV 1,intV 1,PK.V .kind]) (N.StepP.call (f:=255) (args:=#[intV 1,PK.V .kind]) rfl ?hG1_1 ?cG1_1) ?rG1_1;case hG1_1=>intro W hJ;obtain⟨hcJ,hfJ⟩:=bcell hJ;go_simp;try rfl
 case cG1_1=>intro W hJ;(refine(CH 1 (PK.V .kind) W ⟨_,rfl⟩).mono ?_;rintro e w' ⟨rfl,hb⟩;exact⟨rfl,hJ.trans (hb.mono hJ.size)⟩)
 simp only[N.pz];refine N.WalkT.cons ?_ (N.StepP.pure rfl ?_) ?_;rotate_left;(intro W hJ;obtain⟨hcJ,hfJ⟩:=bcell hJ;go_simp;rfl);simp only[N.pz];refine N.WalkT.nil fun W hJ=>?_;obtain⟨hcJ,hfJ⟩:=bcell hJ;have q0:=(hcJ _ 0 hsz1).trans r0;have q1:=(hcJ _ 1 hsz1).trans r1;have q2:=(hcJ _ 2 hsz1).trans r2;have q3:=(hcJ _ 3 hsz1).trans r3;have g0:=(hfJ _ 0 hsz1).trans f0;have g1:=(hfJ _ 1 hsz1).trans f1;have g2:=(hfJ _ 2 hsz1).trans f2;have g3:=(hfJ _ 3 hsz1).trans f3;have HB:=Hd (HBW.out.trans (hJ.mono HBW.out.size));have hzz:=hJ.size;have hsz2:w.heap.size+1<W.heap.size:=by omega
 clear hcJ hfJ hJ r0 r1 r2 r3 f0 f1 f2 f3 p0 p1 p2;go_wp2;refine bodyPost_ret (v:=.tuple #[.agg #[.bool true,intV 0,intV 9223372036854775807,.slice (some ⟨W.heap.size,0,none⟩) 3 3],.bool true]) (by simp[results,results199,go_sem,loadVar,q0,q1,q2,q3,hsz2,Result.andThen]) rfl ⟨_,_,rfl,row9 (by simp) (by go_simp) (by go_simp) (by go_simp;try rfl) (by go_simp) (by go_simp) (by go_simp) (by go_simp) (by go_simp) (by go_simp),?_⟩;exact((((HB.out.setCell (by simp) _).setCell (by simp) _).setCell (by simp) _).setCell (by simp) _).alloc (by simp;omega) _
theorem AM(d:Nd)(ka:Option Addr)(kc:Nat)(w:World):Calls prog 199 #[ndV d ka kc] w (zG w (fQ d.kind d.n)):=by
 cases hok:okK d.kind with
 | false=>
   rw[jX hok];have h':¬(okK d.kind=true):=by rw[hok];exact Bool.false_ne_true
   simp[okK,bB,fT,cH]at h';by_cases h1:d.kind<1
   ·exact AN d ka kc w h1
   ·exact wM d ka kc w (by omega) hok
 | true=>
   rcases nM hok with h|h|h|h|h|h|h|h|h|h|h|h|h|h|h|h|h|h|h|h|h|h|h|h|h|h|h|h|h|h|h|h|h|h|h|h|h|h
   ·have e:=GX d ka kc w h;rw[h];exact e
   ·have e:=GY d ka kc w h;rw[h];exact e
   ·have e:=GZ d ka kc w h;rw[h];exact e
   ·have e:=IA d ka kc w h;rw[h];exact e
   ·have e:=IB d ka kc w h;rw[h];exact e
   ·have e:=bA d ka kc w (by rw[h];decide) (by rw[h];decide);rw[h];exact e
   ·have e:=bA d ka kc w (by rw[h];decide) (by rw[h];decide);rw[h];exact e
   ·have e:=bA d ka kc w (by rw[h];decide) (by rw[h];decide);rw[h];exact e
   ·have e:=bA d ka kc w (by rw[h];decide) (by rw[h];decide);rw[h];exact e
   ·have e:=bA d ka kc w (by rw[h];decide) (by rw[h];decide);rw[h];exact e
   ·have e:=bA d ka kc w (by rw[h];decide) (by rw[h];decide);rw[h];exact e
   ·have e:=bA d ka kc w (by rw[h];decide) (by rw[h];decide);rw[h];exact e
   ·have e:=bA d ka kc w (by rw[h];decide) (by rw[h];decide);rw[h];exact e
   ·have e:=bA d ka kc w (by rw[h];decide) (by rw[h];decide);rw[h];exact e
   ·have e:=bA d ka kc w (by rw[h];decide) (by rw[h];decide);rw[h];exact e
   ·have e:=bA d ka kc w (by rw[h];decide) (by rw[h];decide);rw[h];exact e
   ·have e:=bA d ka kc w (by rw[h];decide) (by rw[h];decide);rw[h];exact e
   ·have e:=bA d ka kc w (by rw[h];decide) (by rw[h];decide);rw[h];exact e
   ·have e:=CK d ka kc w h;rw[h];exact e
   ·have e:=CL d ka kc w h;rw[h];exact e
   ·have e:=CM d ka kc w h;rw[h];exact e
   ·have e:=CN d ka kc w h;rw[h];exact e
   ·have e:=tM d ka kc w h;rw[h];exact e
   ·have e:=CO d ka kc w h;rw[h];exact e
   ·have e:=CP d ka kc w h;rw[h];exact e
   ·have e:=CQ d ka kc w h;rw[h];exact e
   ·have e:=CR d ka kc w h;rw[h];exact e
   ·have e:=CS d ka kc w h;rw[h];exact e
   ·have e:=CT d ka kc w h;rw[h];exact e
   ·have e:=CU d ka kc w h;rw[h];exact e
   ·have e:=CV d ka kc w h;rw[h];exact e
   ·have e:=CW d ka kc w h;rw[h];exact e
   ·have e:=CX d ka kc w h;rw[h];exact e
   ·have e:=CY d ka kc w h;rw[h];exact e
   ·have e:=CZ d ka kc w h;rw[h];exact e
   ·have e:=DA d ka kc w h;rw[h];exact e
   ·have e:=DB d ka kc w h;rw[h];exact e
   ·rw[h]
    by_cases h7:d.n=7
    ·rw[h7];exact wK d ka kc w h h7
    ·by_cases h8:d.n=8
     ·rw[h8];exact wL d ka kc w h h8
     ·have e:fQ 46 d.n=some ⟨false,1,8,[(1,1,.expr)]⟩:=by
       show some (askP d.n)=_
       unfold askP;rw[if_neg (by simpa using h7),if_neg (by simpa using h8)]
      rw[e];exact DC d ka kc w h h7 h8
abbrev u8V(n:Int):Value:=.int .u8 n
abbrev u8sV(l:List Int):List Value:=l.map u8V
abbrev U8s(w:World)(a:Option Addr)(c:Nat)(l:List Int):Prop:=Row 1 w a l.length c (u8sV l)
theorem U8s.at{w:World}{a:Option Addr}{c:Nat}{l:List Int}(h:U8s w a c l){i:Nat}(hi:i<l.length):∃b o,a=some ⟨b,o,none⟩∧b<w.heap.size∧w.cell? ⟨b,o+i,none⟩=some (u8V l[i]):=by
 obtain⟨b,o,rfl,hb,hc⟩:=h.some (by omega);exact⟨b,o,rfl,hb,by rw[hc i (by simpa using hi)];simp⟩
theorem Parts.at{w:World}{a:Option Addr}{c:Nat}{l:List Part}(h:Parts w a c l){i:Nat}(hi:i<l.length) :
 ∃b o,a=some ⟨b,o,none⟩∧b<w.heap.size∧w.cell? ⟨b,o+i*3,none⟩=some (intV l[i].1)∧w.cell? ⟨b,o+i*3+1,none⟩=some (intV l[i].2.1)∧w.cell? ⟨b,o+i*3+2,none⟩=some l[i].2.2.V:=by
 obtain⟨b,o,rfl,hb,hc⟩:=h.some (by omega);have hl:=lV l
 have key:∀(l:List Part) (i:Nat) (hi:i<l.length) (j:Nat),j<3→(iR l)[i*3+j]?=(sN l[i])[j]?:=by
  intro l
  induction l with
  |nil=>intro i hi;simp at hi
  | cons p r ih=>
    intro i hi j hj
    cases i with
    | zero=>
      simp only[iR,Nat.zero_mul,Nat.zero_add,List.getElem_cons_zero];rw[List.getElem?_append_left (by simp[sN];omega)]
    | succ i=>
      simp only[iR,List.getElem_cons_succ];rw[List.getElem?_append_right (by simp[sN];omega),←ih i (by simpa using hi) j hj];congr 1;simp[sN];omega
 have k2:∀j,j<3→w.cell? ⟨b,o+i*3+j,none⟩=(sN l[i])[j]?:=by
  intro j hj;have hlt:i*3+j<(iR l).length:=by omega
  rw[Nat.add_assoc,hc _ hlt,←key l i hi j hj,List.getElem?_eq_getElem hlt]
 exact⟨b,o,rfl,hb,k2 0 (by omega),k2 1 (by omega),k2 2 (by omega)⟩
theorem AL(p:PK)(n:Int)(b:Nat)(w:World)(hc:w.cell? ⟨b,2,none⟩=some p.V) :
 Calls prog 265 #[u8V n,.pointer (some ⟨b,0,none⟩)] w fun e w'=>e=.returned (.bool (!p.B n))∧w=w':=by
 cases p<;>simp only[PK.V,PK.F]at hc<;>simp only[PK.B]
 ·go_enter func265,ntmps265
  go_wp2_with (go_at_call 256;refine(tI _ _).mono ?_;rintro e w' ⟨rfl,rfl⟩)
  go_ret;exact⟨rfl,rfl⟩
 ·go_enter func265,ntmps265
  go_wp2_with (go_at_call 260;refine(tK _ _).mono ?_;rintro e w' ⟨rfl,rfl⟩)
  go_ret;exact⟨rfl,rfl⟩
 ·go_enter func265,ntmps265
  go_wp2_with (go_at_call 262;refine(qO _ _).mono ?_;rintro e w' ⟨rfl,rfl⟩)
  go_ret;exact⟨rfl,rfl⟩
 ·go_enter func265,ntmps265
  go_wp2_with (go_at_call 259;refine(yA _ _).mono ?_;rintro e w' ⟨rfl,rfl⟩)
  go_ret;exact⟨rfl,rfl⟩
 ·go_enter func265,ntmps265
  go_wp2_with (go_at_call 261;refine(xZ _ _).mono ?_;rintro e w' ⟨rfl,rfl⟩)
  go_ret;exact⟨rfl,rfl⟩
def idxP(l:List Int)(p:Int→Bool):Int:=first (fun i=>(l[i]?.map p).getD false) l.length 0
theorem uC(l:List Int)(p:Int→Bool):decide (0≤idxP l p)=l.any p:=by
 rw[Bool.eq_iff_iff,decide_eq_true_eq];unfold idxP;have h:=iY (fun i=>(l[i]?.map p).getD false) l.length;rw[h];constructor
 ·intro h1
  rw[List.any_eq_true];apply Classical.byContradiction;intro hno;rw[Bool.eq_false_iff]at h1;apply h1;rw[List.all_eq_true];intro i hi;have hi:=List.mem_range.1 hi;simp only[List.getElem?_eq_getElem hi,Option.map_some,Option.getD_some,Bool.not_eq_true'];cases hp:p l[i]with
  |false=>rfl
  |true=>exact(hno ⟨_,List.getElem_mem hi,hp⟩).elim
 ·intro h1
  obtain⟨x,hx,hp⟩:=List.any_eq_true.1 h1;obtain⟨i,hi,rfl⟩:=List.getElem_of_mem hx;rw[Bool.eq_false_iff];intro hc;have:=List.all_eq_true.1 hc i (List.mem_range.2 hi);simp[hi,hp]at this
theorem vY(p:PK)(b:Nat)(a:Option Addr)(c:Nat)(l:List Int)(w:World)(hl:l.length≤1000000000)(h:U8s w a c l)(hc:w.cell? ⟨b,2,none⟩=some p.V) :
 Calls prog 299 #[.slice a l.length c,.func (.func 265) #[] #[.pointer (some ⟨b,0,none⟩)]] w fun e w'=>e=.returned (intV (idxP l fun k=>!p.B k))∧w=w':=by
 have HR:=Hd h;have HP:=Hd (fun n=>AL p n b w hc);clear h hc;go_enter func299,ntmps299;go_wp2
 go_loop [8] (fun i=>∃k:Nat,k≤l.length∧i=.int .i64 k∧Hid (idxP l (fun k=>!p.B k)=first (fun i=>(l[i]?.map (fun k=>!p.B k)).getD false) l.length k)) (fun i=>l.length-(intOf i).toNat)
 case atStart=>exact⟨0,Nat.zero_le _,rfl,Hd rfl⟩
 case round=>
  obtain⟨k,hk,rfl,HA⟩:=hrel;by_cases hlt:k<l.length
  ·obtain⟨b1,o1,rfl,hb1,hc1⟩:=U8s.at HR.out hlt
   obtain⟨x,hx⟩:∃x,l[k]=x:=⟨_,rfl⟩
   rw[hx]at hc1;have hgx:(l[k]?.map (fun k=>!p.B k)).getD false = !p.B x:=by simp[hlt,hx]
   obtain⟨y,hy⟩:∃y,(!p.B x)=y:=⟨_,rfl⟩
   have HY:=Hd hy;have HG:=Hd (hgx.trans hy);clear hx hgx hy
   cases y with
   | true=>
     go_wp2_with (go_at_call 265;refine(HP.out x).mono ?_;rw[HY.out];rintro e w' ⟨rfl,rfl⟩)
     go_ret;exact⟨zo (by rw[HA.out];exact(aE hlt HG.out).symm),rfl⟩
   | false=>
     go_wp2_with (go_at_call 265;refine(HP.out x).mono ?_;rw[HY.out];rintro e w' ⟨rfl,rfl⟩)
     go_round
     case rel=>exact⟨k+1,by omega,by go_num,Hd (by rw[HA.out];exact cI hlt HG.out)⟩
     case measure=>simp[intOf];omega
  ·go_wp2
   go_ret;exact⟨zo (by rw[HA.out];exact(cD (by omega)).symm),rfl⟩
theorem qC(p:PK)(b:Nat)(a:Option Addr)(c:Nat)(l:List Int)(w:World)(hl:l.length≤1000000000)(h:U8s w a c l)(hc:w.cell? ⟨b,2,none⟩=some p.V) :
 Calls prog 264 #[.slice a l.length c,.func (.func 265) #[] #[.pointer (some ⟨b,0,none⟩)]] w fun e w'=>e=.returned (.bool (!l.all p.B))∧w=w':=by
 have hx:(!l.all p.B)=decide (0≤idxP l fun k=>!p.B k):=by rw[uC,List.not_all_eq_any_not]
 rw[hx];have HC:=Hd (vY p b a c l w hl h hc);clear h hc hx;go_enter func264,ntmps264
 go_wp2_with (go_at_call 299;refine HC.out.mono ?_;rintro e w' ⟨rfl,rfl⟩)
 go_ret;exact⟨rfl,rfl⟩
theorem GE:prog.underlying 76=some (.slice (prog.elem 76)):=by kernel_rfl
theorem yT(W:World):(sizeOf (prog.elem 76)).run prog W=.ok 1 W:=by kernel_rfl
theorem GD:prog.underlying 215=some (.slice (prog.elem 215)):=by kernel_rfl
theorem BZ(W:World):(sizeOf (prog.elem 215)).run prog W=.ok 3 W:=by kernel_rfl
@[go_sem] theorem run_store_V {w:World}{a:Addr}{m:Mode}(p:PK):(store a p.V m).run prog w=stored prog w a p.V m:=run_store prog w a _ m rfl
def Small(ps:List Part):Prop:=ps.length≤3∧∀p∈ps,0≤p.1∧p.1≤801
theorem xQ{k n:Int}{s:Shape}(h:fQ k n=some s):Small s.parts:=by
 have hok:okK k=true:=by
  cases hk:okK k with
  |true=>rfl
  |false=>rw[jX hk]at h;cases h
 have ha:Small (askP n).parts:=by
  unfold askP;split
  ·exact⟨by decide,by simp⟩
  ·split
   ·exact⟨by decide,by simp⟩
   ·exact⟨by decide,by simp⟩
 rcases nM hok with rfl|rfl|rfl|rfl|rfl|rfl|rfl|rfl|rfl|rfl|rfl|rfl|rfl|rfl|rfl|rfl|rfl|rfl|rfl|rfl|rfl|rfl|rfl|rfl|rfl|rfl|rfl|rfl|rfl|rfl|rfl|rfl|rfl|rfl|rfl|rfl|rfl|rfl
 all_goals (simp[fQ]at h)
 all_goals subst h
 all_goals first
  |exact ha
  |exact⟨by decide,by simp⟩
theorem pR:∀(ps:List Part) (j:Nat),(iR ps).drop (j*3)=iR (ps.drop j)
 | [],j=>by simp[iR]
 |p::r,0=>by simp
 | p::r,j+1=>by
   simp only[iR,List.drop_succ_cons];rw[show(j+1)*3=(sN p).length+j*3 by simp[sN];omega,List.drop_append];simp[pR r j]
theorem xE{ps:List Part}{j:Nat}(h:j<ps.length):leasts (ps.drop j)=ps[j].1+leasts (ps.drop (j+1)):=by
 rw[List.drop_eq_getElem_cons h];rfl
theorem EF{ps:List Part}{j:Nat}(h:j<ps.length)(ks:List Int):eM (ps.drop j) ks=((zv ((ks.length:Int)-leasts (ps.drop (j+1))) ps[j].1 ps[j].2.1&&(ks.take ((ks.length:Int)-leasts (ps.drop (j+1))).toNat).all ps[j].2.2.B)&&eM (ps.drop (j+1)) (ks.drop ((ks.length:Int)-leasts (ps.drop (j+1))).toNat)):=by
 rw[List.drop_eq_getElem_cons h];rfl
abbrev boxS(w:World)(s:Shape)(a:Option Addr)(c:Nat):World:=w.alloc (.cells #[.bool s.named,intV s.lo,intV s.hi,.slice a s.parts.length c] 217)
theorem tJ(s:Shape)(a:Option Addr)(c:Nat)(b:Option Addr)(cb:Nat)(ks:List Int)(w:World)(hs:Small s.parts)(hl:ks.length≤1000000000)(h:Parts w a c s.parts)(h2:U8s w b cb ks) :
 Calls prog 200 #[FP s a c,.slice b ks.length cb] w (zq w (eM s.parts ks)):=by
 have HP:=Hd h;have HU:=Hd h2;obtain⟨hs1,hs2⟩:=hs;have HS2:=Hd hs2;clear h h2 hs2;unfold FP;go_enter func200,ntmps200;go_wp2
 go_loopw [1,14] (fun t1 t14 wr=>∃(k:Nat) (b1:Option Addr) (c1:Nat) (q:List Int),t14=.int .i64 k∧t1=.slice b1 q.length c1∧k≤s.parts.length∧q.length≤1000000000∧Hid (eM s.parts ks=eM (s.parts.drop k) q)∧Hid (U8s wr b1 c1 q)∧Hid (Below (w.heap.size+1) (boxS w s a c) wr)) (fun _ i _=>s.parts.length-(intOf i).toNat)
 case atStart=>exact⟨0,b,cb,ks,rfl,rfl,Nat.zero_le _,hl,Hd rfl,Hd (Row.mono HU.out (brf.alloc nlr _) nlr),Hd brf⟩
 case round=>
  obtain⟨k,b1,c1,q,rfl,rfl,hk,hq,HF,HQ,HB⟩:=hrel;have hbS:Below w.heap.size w wr:=((Below.refl _ w).alloc nlr _).trans (HB.out.mono (by omega));have hz:=HB.out.size;have hz1:w.heap.size<wr.heap.size:=by have:=hz;simp at this;omega
  have hcS:wr.cell? ⟨w.heap.size,3,none⟩=some (.slice a s.parts.length c):=(HB.out.cell (p:=⟨w.heap.size,3,none⟩) (by simp)).trans (by simp);by_cases hlt:k<s.parts.length
  ·obtain⟨bp,op,rfl,hbp,p0,p1,p2⟩:=Parts.at (HP.out.mono hbS nlr) hlt
   obtain⟨sa,sc,hsl,hsr⟩:=FU (P:=prog) (T:=215) (HP.out.mono hbS nlr) GD BZ ((k:Int)+1) (by omega) (by omega);have hk1:((k:Int)+1).toNat=k+1:=by omega
   rw[hk1]at hsl hsr;rw[pR]at hsr;obtain⟨r,hr⟩:∃r,s.parts.drop (k+1)=r:=⟨_,rfl⟩
   have hrl:r.length=s.parts.length-(k+1):=by rw[←hr];simp
   obtain⟨m,hm⟩:∃m,s.parts.length-(k+1)=m:=⟨_,rfl⟩
   rw[hm]at hsl hsr hrl;have hm3:m≤3:=by omega
   have hrb:∀p∈r,0≤p.1∧p.1≤801:=fun p hp=>HS2.out p (List.mem_of_mem_drop (hr▸hp));have hrm:r.length=m:=hrl;rw[hr]at hsr;have HFS:=Hd (EF hlt q);obtain⟨p,hp⟩:∃p,s.parts[k]=p:=⟨_,rfl⟩
   have hpb:=HS2.out p (hp▸List.getElem_mem hlt);rw[hp]at p0 p1 p2;have HP1:=Hd hp;have HSR:=Hd hsr;have HBS:=Hd hbS;have HR:=Hd hr;have HRB:=Hd hrb;have HRM:=Hd hrm;clear hp hsr hz hr hrb hrl hm hrm;go_wp2;rename World=>wk
   go_loopw [7,25] (fun t7 t25 wr=>∃(j:Nat) (x:Int),t25=.int .i64 j∧t7=.int .i64 x∧j≤m∧0≤x∧x≤801*j∧Hid (leasts r=x+leasts (r.drop j))∧Hid (Below (wk.heap.size+1) (wk.alloc (.cells #[intV p.1,intV p.2.1,p.2.2.V] 263)) wr)) (fun _ i _=>m-(intOf i).toNat)
   case atStart=>exact⟨0,0,rfl,rfl,Nat.zero_le _,Int.le_refl _,by omega,Hd (by simp),Hd brf⟩
   case round=>
    obtain⟨j,x,rfl,rfl,hj,hx0,hx1,HX,HBI⟩:=hrel;have hzi:=HBI.out.size;have hzi1:wk.heap.size<wr.heap.size:=by simp at hzi;omega
    have hbi:Below wk.heap.size wk wr:=((Below.refl _ wk).alloc nlr _).trans (HBI.out.mono (by omega));have y0:wr.cell? ⟨wk.heap.size,0,none⟩=some (intV p.1):=(HBI.out.cell (p:=⟨wk.heap.size,0,none⟩) (by simp)).trans (by simp);have y1:wr.cell? ⟨wk.heap.size,1,none⟩=some (intV p.2.1):=(HBI.out.cell (p:=⟨wk.heap.size,1,none⟩) (by simp)).trans (by simp);have y2:wr.cell? ⟨wk.heap.size,2,none⟩=some p.2.2.V:=(HBI.out.cell (p:=⟨wk.heap.size,2,none⟩) (by simp)).trans (by simp);have HBW:=Hd hbi;clear hbi hzi;by_cases hjt:j<m
    ·have hjr:j<r.length:=by rw[HRM.out];exact hjt
     obtain⟨br,or',e1,hbr,z0,z1,z2⟩:=Parts.at (l:=r) (a:=sa) (c:=sc) (w:=wr) (by have:=HSR.out;rw[←HRM.out]at this;exact Row.mono this HBW.out nlr) hjr;subst e1;obtain⟨p',hp'⟩:∃p',r[j]=p':=⟨_,rfl⟩
     have hpb':=HRB.out p' (hp'▸List.getElem_mem hjr);have HL:=Hd (xE hjr);rw[hp']at z0 z1 z2;have HP':=Hd hp';clear hp';go_wp2
     go_roundw
     case rel=>exact⟨j+1,x+p'.1,by go_num,rfl,by omega,by omega,by omega,Hd (by rw[HX.out,HL.out,HP'.out];omega),Hd (HBI.out.alloc (by omega) _)⟩
     case measure=>simp[intOf];omega
    ·have hle:Hid (leasts r=x):=Hd (by rw[HX.out,List.drop_of_length_le (by rw[HRM.out];omega)];simp[leasts])
     have hFq:Hid (eM (s.parts.drop k) q=((zv ((q.length:Int)-x) p.1 p.2.1&&(q.take ((q.length:Int)-x).toNat).all p.2.2.B)&&eM r (q.drop ((q.length:Int)-x).toNat))):=Hd (by rw[HFS.out,HP1.out,HR.out,hle.out])
     cases hin:zv ((q.length:Int)-x) p.1 p.2.1 with
     | false=>
       have HIN:=Hd hin;clear hin
       go_wp2_with (go_at_call 94;refine(zu _ _ _ _).mono ?_;rw[HIN.out];rintro e w' ⟨rfl,rfl⟩)
       go_ret;exact⟨zb (by rw[HF.out,hFq.out,HIN.out];rfl),HBS.out.trans (HBW.out.mono (by omega))⟩
     | true=>
       have hrg:=inRange_iff.1 hin;obtain⟨n,hn⟩:∃n:Nat,(q.length:Int)-x=n:=Int.eq_ofNat_of_zero_le (by omega);rw[hn]at hin;have HIN:=Hd hin;have HN:=Hd hn;have hnq:n≤q.length:=by omega
       obtain⟨ua,uc,usl,usr⟩:=FT (P:=prog) (T:=76) (Row.mono (Row.mono HQ.out HBW.out nlr) brf nlr) GE yT (n:Int) (by omega) (by omega);obtain⟨va,vc,vsl,vsr⟩:=FU (P:=prog) (T:=76) (Row.mono (Row.mono HQ.out HBW.out nlr) brf nlr) GE yT (n:Int) (by omega) (by omega);have hnn:(n:Int).toNat=n:=by omega
       rw[hnn]at usl usr vsl vsr
       have hut:U8s wr ua uc (q.take n):=by
        have:Row 1 wr ua n uc ((u8sV q).take (n*1)):=usr;rw[Nat.mul_one,←List.map_take]at this;have hl:(q.take n).length=n:=by simp;omega
        unfold U8s;rw[hl];exact this
       have hvt:U8s wr va vc (q.drop n):=by
        have:Row 1 wr va (q.length-n) vc ((u8sV q).drop (n*1)):=vsr;rw[Nat.mul_one,←List.map_drop]at this;have hl:(q.drop n).length=q.length-n:=by simp
        unfold U8s;rw[hl];exact this
       have HUT:=Hd hut;have HVT:=Hd hvt;have HNN:=Hd hnn;clear hin hut hvt usr vsr hnn hrg;have hlt1:(q.take n).length=n:=by simp;omega
       have HLT1:=Hd hlt1;have hlt2:(q.drop n).length=q.length-n:=by simp
       have HLT2:=Hd hlt2;clear hlt1 hlt2
       have hcu:Calls prog 264 #[.slice ua n uc,.func (.func 265) #[] #[.pointer (some ⟨wk.heap.size,0,none⟩)]] wr fun e w'=>e=.returned (.bool (!(q.take n).all p.2.2.B))∧wr=w':=by
        have:=qC p.2.2 wk.heap.size ua uc (q.take n) wr (by rw[HLT1.out];omega) HUT.out y2;rwa[HLT1.out]at this
       have hcU:=Hd hcu;clear hcu
       cases hal:(q.take n).all p.2.2.B with
       | false=>
         have HAL:=Hd hal;clear hal
         go_wp2_with (first
          | (go_at_call 94;refine(zu _ _ _ _).mono ?_;rw[HIN.out];rintro e w' ⟨rfl,rfl⟩)
          | (go_at_call 264;refine hcU.out.mono ?_;rw[HAL.out];rintro e w' ⟨rfl,rfl⟩))
         go_ret;exact⟨zb (by rw[HF.out,hFq.out,HN.out,HIN.out,HNN.out,HAL.out];rfl),HBS.out.trans (HBW.out.mono (by omega))⟩
       | true=>
         have HAL:=Hd hal;clear hal
         go_wp2_with (first
          | (go_at_call 94;refine(zu _ _ _ _).mono ?_;rw[HIN.out];rintro e w' ⟨rfl,rfl⟩)
          | (go_at_call 264;refine hcU.out.mono ?_;rw[HAL.out];rintro e w' ⟨rfl,rfl⟩))
         go_roundw
         case rel=>exact⟨k+1,va,vc,q.drop n,by go_num,by rw[HLT2.out],by omega,by rw[HLT2.out];omega,Hd (by rw[HF.out,hFq.out,HN.out,HIN.out,HNN.out,HAL.out,HR.out];rfl),HVT,Hd (HB.out.trans (HBW.out.mono (by omega)))⟩
         case measure=>simp[intOf];omega
  ·go_wp2
   go_ret;refine⟨zb ?_,hbS⟩;rw[HF.out,List.drop_of_length_le (by omega),bN,Bool.eq_iff_iff];simp
abbrev OwnU(W:World)(B:Nat)(a:Option Addr)(c:Nat)(l:List Int):Prop:=W.ownsRow B 5 1 (.slice a l.length c) l.length (u8sV l)
theorem MZ(l:List Int):∀u∈u8sV l,u.oneCell'=true:=by
 intro u hu;obtain⟨c,_,rfl⟩:=List.mem_map.1 hu;rfl
theorem EY{W:World}{B:Nat}{a:Option Addr}{c:Nat}{l:List Int}(h:OwnU W B a c l):U8s W a c l:=by
 obtain⟨a',c',e,hr⟩:=bK h;simp at e;obtain⟨rfl,rfl⟩:=e;exact hr
theorem qQ{W:World}{ops:Array Oper}{rest:List Oper}{o:Oper}{a:Act}{Q:Exit→Act→World→Prop}(hgd:o.guard=none)(s x:Operand)
 (ho:o.op=.call { callee:=.builtin .append,args:=#[s,x],argTypes:=#[76,76] })
 {B:Nat}{av:Option Addr}{cv:Nat}{l:List Int}(hs:a.eval s=.slice av l.length cv)(hown:OwnU W B av cv l)
 {ax:Option Addr}{m c:Nat}{news:List Int}(hx:a.eval x=.slice ax m c)(hr:Row 1 W ax m c (u8sV news))
 (hbytes:l.length+m≤4398046511104)(hB:B≤W.heap.size)
 (h:∀a' c' w' l',Hid (l'=l++news)→l'.length≤l.length+m→OwnU w' B a' c' l'→(∀B' A,B'≤B→Below B' A W→Below B' A w')→wpList prog ops Q rest (a.put o.dst (.slice a' l'.length c')) w'):wpList prog ops Q (o::rest) a W:=by
 have hm:m=news.length:=by have:=hr.1;simpa using this.symm
 subst hm;refine eA hgd s x 76 5 (.int .u8 0) 1 1 ho IV MG rfl (by decide) hs hown hx hr (MZ _) (by unfold maxLen;omega) (by omega) hB ?_;intro a' c' w' h1 h2 h3;have e:l.length+news.length=(l++news).length:=by simp
 have e2:u8sV l++u8sV news=u8sV (l++news):=by simp
 rw[e,e2]at h1;rw[e];exact h a' c' w' _ (Hd rfl) (by simp) h1 (eC hown h2 hB)
theorem oX{t:Tr}{i:Nat}(h:fQ (t.nd i).kind (t.nd i).n=none):dJ t i=false:=by unfold dJ;rw[h]
theorem oY{t:Tr}{i:Nat}{s:Shape}(h:fQ (t.nd i).kind (t.nd i).n=some s):dJ t i=((zv (t.nd i).pos 0 2000&&(s.named==((t.nd i).text != []))&&(!s.named||zX (t.nd i).text))&&((t.nd i).kids.all (fun k=>zv k 0 ((i:Int)-1)) &&
 (eM s.parts (bO t i)&&(zv (t.nd i).n s.lo s.hi||(t.nd i).kind==1&&zv (t.nd i).n (-9999) (-1))))):=by unfold dJ;rw[h]
theorem lF{l:List Int}{k:Nat}(h:k<l.length)(p:Int→Bool):(l.take (k+1)).all p=((l.take k).all p&&p l[k]):=by
 rw[List.take_succ_eq_append_getElem h,List.all_append];simp
theorem LI{l:List Int}{k:Nat}(h:k<l.length){p:Int→Bool}(hp:p l[k]=false):l.all p=false:=by
 rw[Bool.eq_false_iff];intro ha;have:=List.all_eq_true.1 ha _ (List.getElem_mem h);rw[hp]at this;cases this
theorem dN{w w3 wr:World}{v:TreeV}{t:Tr}{ka:Option Addr}{kc:Nat}{d:Nd}{s:Shape}{sa:Option Addr}{sc:Nat}(h3:Below (w.heap.size+1+1) (boxD (boxT w v t) ka kc d) w3)(hb:Below (w3.heap.size+1) (boxS w3 s sa sc) wr)(h:IsTree w v t) :
 (wr.cell? ⟨w.heap.size,0,none⟩=some (.slice v.na t.nodes.length v.nc)) ∧
 (wr.cell? ⟨w.heap.size+1,0,none⟩=some (.int .u8 d.kind)∧wr.cell? ⟨w.heap.size+1,1,none⟩=some (strV d.text)∧wr.cell? ⟨w.heap.size+1,2,none⟩=some (intV d.n)∧wr.cell? ⟨w.heap.size+1,3,none⟩=some (.slice ka d.kids.length kc)∧wr.cell? ⟨w.heap.size+1,4,none⟩=some (intV d.pos)) ∧
 (wr.cell? ⟨w3.heap.size,0,none⟩=some (.bool s.named)∧wr.cell? ⟨w3.heap.size,1,none⟩=some (intV s.lo)∧wr.cell? ⟨w3.heap.size,2,none⟩=some (intV s.hi)∧wr.cell? ⟨w3.heap.size,3,none⟩=some (.slice sa s.parts.length sc)) ∧
 Below w.heap.size w wr∧Below w3.heap.size w3 wr∧(w.heap.size+1+1≤w3.heap.size∧w3.heap.size+1≤wr.heap.size):=by
 have hs3:=h3.size;simp only[World.size_alloc]at hs3;have hs:=hb.size;simp only[World.size_alloc]at hs;have hw3:Below w3.heap.size w3 wr:=((Below.refl _ w3).alloc nlr _).trans (hb.mono (by omega));have h4:Below (w.heap.size+1+1) (boxD (boxT w v t) ka kc d) wr:=h3.trans (hw3.mono hs3);obtain⟨⟨b0,b1⟩,⟨d0,d1,d2,d3⟩,hT,_,hW⟩:=aP h4 h;have d4:=eZ h4;have hb':Below (boxS w3 s sa sc).heap.size (boxS w3 s sa sc) wr:=by simpa using hb
 obtain⟨hc,_⟩:=bcell hb';have e0:(boxS w3 s sa sc).cell? ⟨w3.heap.size,0,none⟩=some (.bool s.named):=by simp
 have e1:(boxS w3 s sa sc).cell? ⟨w3.heap.size,1,none⟩=some (intV s.lo):=by simp
 have e2:(boxS w3 s sa sc).cell? ⟨w3.heap.size,2,none⟩=some (intV s.hi):=by simp
 have e3:(boxS w3 s sa sc).cell? ⟨w3.heap.size,3,none⟩=some (.slice sa s.parts.length sc):=by simp
 exact⟨b0,⟨d0,d1,d2,d3,d4⟩,⟨(hc _ _ (by simp)).trans e0,(hc _ _ (by simp)).trans e1,(hc _ _ (by simp)).trans e2,(hc _ _ (by simp)).trans e3⟩,hW,hw3,⟨hs3,hs⟩⟩
theorem wI(v:TreeV)(t:Tr)(i:Nat)(w:World)(bd:Bd t)(hi:i<t.nodes.length)(hg:GV w)(h:IsTree w v t) :
 Calls prog 142 #[v.val t,intV i] w (zq w (dJ t i)):=by
 have HT:=Hd h;have HG:=Hd hg;have hn3:=bd.n;obtain⟨b,o,ka,kc,ea,hb,c0,c1,c2,c3,c4,hkr⟩:=h.nodes.at hi;have hnd:=t.nd_at hi;have hkl:=bd.k _ (List.getElem_mem hi);have hts:=bd.s _ (List.getElem_mem hi);obtain⟨d,hd⟩:∃d,t.nodes[i]=d:=⟨_,rfl⟩
 rw[hd]at c0 c1 c2 c3 c4 hkr hnd hkl hts;obtain⟨na,nc,ia,ic⟩:=v;simp only at ea;subst ea;have HKR:=Hd hkr;have HND:=Hd hnd;have HBD:=Hd bd;clear h bd hkr hnd hd hg;unfold TreeV.val;have hSh:∀W,Calls prog 199 #[.agg #[.int .u8 d.kind,strV d.text,intV d.n,.slice ka d.kids.length kc,intV d.pos]] W (zG W (fQ d.kind d.n)):=fun W=>AM d ka kc W;have HSh:=Hd hSh;clear hSh
 cases hsp:fQ d.kind d.n with
 | none=>
   have HSP:=Hd hsp;clear hsp;go_enter func142,ntmps142
   go_wp2_with (go_at_call 199;refine(HSh.out _).mono ?_;rw[HSP.out];rintro e w3 ⟨sa,sn,sc,rfl,hb3⟩;have HB3:=Hd hb3;clear hb3)
   go_ret;have h3:=HB3.out.mono (show w.heap.size≤_ by simp;omega);exact⟨zb (oX (by rw[HND.out];exact HSP.out)).symm,((brf.alloc nlr _).alloc (by simp) _).trans h3 |>.alloc (by have:=h3.size;simp at this;omega) _⟩
 | some s=>
   have HSP:=Hd hsp;have hsm:=xQ hsp;have HSM:=Hd hsm;have HF:=Hd (oY (t:=t) (i:=i) (s:=s) (by rw[HND.out];exact hsp));clear hsp hsm
   cases hpo:zv d.pos 0 2000 with
   | false=>
     have HPO:=Hd hpo;have HNB:=HPO;clear hpo;go_enter func142,ntmps142
     go_wp2_with (first
      | (go_at_call 199;refine(HSh.out _).mono ?_;rw[HSP.out];rintro e w3 ⟨sa,sc,he,hpar,hb3⟩;have he:e=.returned (.tuple #[.agg #[.bool s.named,intV s.lo,intV s.hi,.slice sa s.parts.length sc],.bool true]):=he;subst he;have HB3:=Hd (show Below (w.heap.size+1+1) (boxD (boxT w ⟨some ⟨b,o,none⟩,nc,ia,ic⟩ t) ka kc d) w3 from hb3.mono (by simp));have HPAR:=Hd hpar;obtain⟨b0,⟨d0,d1,d2,d3,d4⟩,⟨s0,s1,s2,s3⟩,hbw,hbw3,⟨hs3,hs4⟩⟩:=dN (s:=s) (sa:=sa) (sc:=sc) HB3.out brf HT.out;have HBW:=Hd hbw;obtain⟨⟨q0,q1⟩,⟨e0,e1,e2,e3⟩,-,-,-⟩:=aP HB3.out HT.out;have e4:=eZ HB3.out;have hs5:w.heap.size+1<w3.heap.size:=(by omega);have hs6:w.heap.size<w3.heap.size:=(by omega);clear hb3 hpar hbw hbw3)
      | (go_at_call 94;refine(zu _ _ _ _).mono ?_;rw[HPO.out];rintro e w' ⟨rfl,rfl⟩)
      | (go_at_call 86;refine(cO d.text _ hts (HG.out.mono HBW.out nlr)).mono ?_;rw[HNB.out];rintro e w4 ⟨rfl,hb4⟩;have HB4:=Hd (show Below (w3.heap.size+1) (boxS w3 s sa sc) w4 from hb4.mono (by simp));obtain⟨b0,⟨d0,d1,d2,d3,d4⟩,⟨s0,s1,s2,s3⟩,hbw,hbw3,⟨hs3',hs4'⟩⟩:=dN (s:=s) (sa:=sa) (sc:=sc) HB3.out HB4.out HT.out;have HBW4:=Hd hbw;clear hb4 hbw hbw3))
     go_ret;exact⟨zb (by rw[HF.out,HND.out,HPO.out];simp),HBW.out⟩
   | true=>
     have HPO:=Hd hpo;clear hpo;obtain⟨nm,lo,hi,ps⟩:=s;by_cases htx:d.text=[]
     ·have HTX:=Hd htx
      have htx1:(d.text==[])=true:=by simpa using htx
      have htx2:(d.text != [])=false:=by simpa using htx
      clear htx
      cases nm with
      | true=>
        have HNB:=HPO;go_enter func142,ntmps142
        go_wp2_with (first
         | (go_at_call 199;refine(HSh.out _).mono ?_;rw[HSP.out];rintro e w3 ⟨sa,sc,he,hpar,hb3⟩;have he:e=.returned (.tuple #[.agg #[.bool true,intV lo,intV hi,.slice sa ps.length sc],.bool true]):=he;subst he;have HB3:=Hd (show Below (w.heap.size+1+1) (boxD (boxT w ⟨some ⟨b,o,none⟩,nc,ia,ic⟩ t) ka kc d) w3 from hb3.mono (by simp));have HPAR:=Hd hpar;obtain⟨b0,⟨d0,d1,d2,d3,d4⟩,⟨s0,s1,s2,s3⟩,hbw,hbw3,⟨hs3,hs4⟩⟩:=dN (s:=⟨true,lo,hi,ps⟩) (sa:=sa) (sc:=sc) HB3.out brf HT.out;have HBW:=Hd hbw;obtain⟨⟨q0,q1⟩,⟨e0,e1,e2,e3⟩,-,-,-⟩:=aP HB3.out HT.out;have e4:=eZ HB3.out;have hs5:w.heap.size+1<w3.heap.size:=(by omega);have hs6:w.heap.size<w3.heap.size:=(by omega);clear hb3 hpar hbw hbw3)
         | (go_at_call 94;refine(zu _ _ _ _).mono ?_;rw[HPO.out];rintro e w' ⟨rfl,rfl⟩)
         | (go_at_call 86;refine(cO d.text _ hts (HG.out.mono HBW.out nlr)).mono ?_;rw[HNB.out];rintro e w4 ⟨rfl,hb4⟩;have HB4:=Hd (show Below (w3.heap.size+1) (boxS w3 ⟨true,lo,hi,ps⟩ sa sc) w4 from hb4.mono (by simp));obtain⟨b0,⟨d0,d1,d2,d3,d4⟩,⟨s0,s1,s2,s3⟩,hbw,hbw3,⟨hs3',hs4'⟩⟩:=dN (s:=⟨true,lo,hi,ps⟩) (sa:=sa) (sc:=sc) HB3.out HB4.out HT.out;have HBW4:=Hd hbw;clear hb4 hbw hbw3))
        go_ret;exact⟨zb (by rw[HF.out,HND.out,HPO.out,HTX.out];rfl),HBW.out⟩
      | false=>
        have HNB:=HPO;go_enter func142,ntmps142
        go_wp2_with (first
         | (go_at_call 199;refine(HSh.out _).mono ?_;rw[HSP.out];rintro e w3 ⟨sa,sc,he,hpar,hb3⟩;have he:e=.returned (.tuple #[.agg #[.bool false,intV lo,intV hi,.slice sa ps.length sc],.bool true]):=he;subst he;have HB3:=Hd (show Below (w.heap.size+1+1) (boxD (boxT w ⟨some ⟨b,o,none⟩,nc,ia,ic⟩ t) ka kc d) w3 from hb3.mono (by simp));have HPAR:=Hd hpar;obtain⟨b0,⟨d0,d1,d2,d3,d4⟩,⟨s0,s1,s2,s3⟩,hbw,hbw3,⟨hs3,hs4⟩⟩:=dN (s:=⟨false,lo,hi,ps⟩) (sa:=sa) (sc:=sc) HB3.out brf HT.out;have HBW:=Hd hbw;obtain⟨⟨q0,q1⟩,⟨e0,e1,e2,e3⟩,-,-,-⟩:=aP HB3.out HT.out;have e4:=eZ HB3.out;have hs5:w.heap.size+1<w3.heap.size:=(by omega);have hs6:w.heap.size<w3.heap.size:=(by omega);clear hb3 hpar hbw hbw3)
         | (go_at_call 94;refine(zu _ _ _ _).mono ?_;rw[HPO.out];rintro e w' ⟨rfl,rfl⟩)
         | (go_at_call 86;refine(cO d.text _ hts (HG.out.mono HBW.out nlr)).mono ?_;rw[HNB.out];rintro e w4 ⟨rfl,hb4⟩;have HB4:=Hd (show Below (w3.heap.size+1) (boxS w3 ⟨false,lo,hi,ps⟩ sa sc) w4 from hb4.mono (by simp));obtain⟨b0,⟨d0,d1,d2,d3,d4⟩,⟨s0,s1,s2,s3⟩,hbw,hbw3,⟨hs3',hs4'⟩⟩:=dN (s:=⟨false,lo,hi,ps⟩) (sa:=sa) (sc:=sc) HB3.out HB4.out HT.out;have HBW4:=Hd hbw;clear hb4 hbw hbw3))
        go_loopw [8,50] (fun t8 t50 wr=>∃(j:Nat) (a8:Option Addr) (c8:Nat) (q:List Int),t50=.int .i64 j∧t8=.slice a8 q.length c8∧j≤d.kids.length∧q.length=j∧Hid (q=(d.kids.take j).map fun k=>(t.nd k).kind)∧Hid ((d.kids.take j).all (fun k=>zv k 0 ((i:Int)-1))=true)∧Hid (OwnU wr (w3.heap.size+1) a8 c8 q)∧Hid (Below (w3.heap.size+1) (boxS w3 ⟨false,lo,hi,ps⟩ sa sc) wr)) (fun _ x _=>d.kids.length-(intOf x).toNat)
        case atStart=>exact⟨0,none,0,[],rfl,rfl,Nat.zero_le _,rfl,Hd rfl,Hd rfl,Hd ⟨rfl,.inl ⟨rfl,rfl⟩⟩,Hd brf⟩
        case round=>
         obtain⟨j,a8,c8,q,rfl,rfl,hj,hqj,HQ,HA,HO,HB⟩:=hrel;obtain⟨b0,⟨d0,d1,d2,d3,d4⟩,⟨s0,s1,s2,s3⟩,hbw,hbw3,⟨hs3',hs4'⟩⟩:=dN (s:=⟨false,lo,hi,ps⟩) (sa:=sa) (sc:=sc) HB3.out HB.out HT.out;have HBWR:=Hd hbw;have HBW3:=Hd hbw3;have HLQ:=Hd hqj;have hq6:q.length≤1000000:=by omega
         clear hbw hbw3 hqj;by_cases hlt:j<d.kids.length
         ·obtain⟨bk,ok,ek,hbk,hck⟩:=Ints.at (HKR.out.mono HBWR.out nlr) hlt
          subst ek;obtain⟨k,hk⟩:∃k,d.kids[j]=k:=⟨_,rfl⟩
          rw[hk]at hck;have HK:=Hd hk;have hts2:=List.take_succ_eq_append_getElem hlt;have HTS:=Hd hts2;have HAS:=Hd (lF hlt (fun k=>zv k 0 ((i:Int)-1)));clear hk hts2;cases hin:zv k 0 ((i:Int)-1)with
          | false=>
            have HIN:=Hd hin;have HNO:=Hd (LI hlt (p:=fun k=>zv k 0 ((i:Int)-1)) (by rw[HK.out];exact hin));clear hin
            go_wp2_with (go_at_call 94;refine(zu _ _ _ _).mono ?_;rw[HIN.out];rintro e w' ⟨rfl,rfl⟩)
            go_ret;exact⟨zb (by rw[HF.out,HND.out,HNO.out];simp),HBWR.out⟩
          | true=>
            have HIN:=Hd hin;obtain⟨hk0,hk1⟩:=inRange_iff.1 hin;obtain⟨m,rfl⟩:=Int.eq_ofNat_of_zero_le hk0;have hmn:m<t.nodes.length:=by omega
            obtain⟨b',o',ka',kc',e',hb',k0',-⟩:=(HT.out.mono HBWR.out nlr).nodes.at hmn;simp only[Option.some.injEq,Addr.mk.injEq,and_true]at e';obtain⟨rfl,rfl⟩:=e';obtain⟨x,hx⟩:∃x,t.nodes[m].kind=x:=⟨_,rfl⟩
            rw[hx]at k0';have HX:=Hd (show(t.nd (m:Int)).kind=x by rw[t.nd_at hmn];exact hx);clear hin hx
            go_wp2_with (first
             | (go_at_call 94;refine(zu _ _ _ _).mono ?_;rw[HIN.out];rintro e w' ⟨rfl,rfl⟩)
             | (at_builtin;refine qQ (news:=[x]) rfl (.tmp 59) (.tmp 66) rfl rfl (HO.out.alloc _) rfl (aK _ _ _) (by omega) (by simp;omega) ?_;intro a9 c9 w9 l9 HL9 hle9 hown9 hkeep9))
            have hl9:l9.length=j+1:=by rw[HL9.out];simp;exact HLQ.out
            go_roundw
            case rel=>
             refine⟨j+1,a9,c9,l9,by go_num,rfl,by omega,hl9,Hd ?_,Hd ?_,Hd hown9,Hd (hkeep9 _ _ nlr (HB.out.alloc (by omega) _))⟩
             ·rw[HL9.out,HQ.out,HTS.out,List.map_append,HK.out];simp[HX.out]
             ·rw[HAS.out,HA.out,HK.out];simpa using HIN.out
            case measure=>simp[intOf];omega
         ·have hjn:j=d.kids.length:=by omega
          have hqk:q=bO t i:=by rw[HQ.out,hjn,List.take_length,bO,HND.out]
          have hal:d.kids.all (fun k=>zv k 0 ((i:Int)-1))=true:=by have:=HA.out;rwa[hjn,List.take_length]at this
          have HQK:=Hd hqk;have HAL:=Hd hal;have hFE:dJ t i=(eM ps q&&(zv d.n lo hi||d.kind==1&&zv d.n (-9999) (-1))):=by rw[HF.out,HND.out,HPO.out,HTX.out,HAL.out,HQK.out];simp
          have HFE:=Hd hFE;have hfit:Calls prog 200 #[.agg #[.bool false,intV lo,intV hi,.slice sa ps.length sc],.slice a8 q.length c8] wr (zq wr (eM ps q)):=tJ ⟨false,lo,hi,ps⟩ sa sc a8 c8 q wr HSM.out (by omega) (HPAR.out.mono HBW3.out nlr) (EY HO.out);have HFIT:=Hd hfit;clear hqk hal hFE hfit
          cases hf:eM ps q with
          | false=>
            have HFF:=Hd hf;clear hf
            go_wp2_with (go_at_call 200;refine HFIT.out.mono ?_;rw[HFF.out];rintro e w5 ⟨rfl,hb5⟩)
            go_ret;exact⟨zb (by rw[HFE.out,HFF.out];rfl),HBWR.out.trans (hb5.mono (by omega))⟩
          | true=>
            have HFF:=Hd hf;clear hf;have hfacts:∀w5,Below wr.heap.size wr w5→Below (w3.heap.size+1) (boxS w3 ⟨false,lo,hi,ps⟩ sa sc) w5:=fun w5 h=>HB.out.trans (h.mono hs4');have HFA:=Hd hfacts;clear hfacts
            cases hn1:zv d.n lo hi with
            | true=>
              have HN1:=Hd hn1;clear hn1
              go_wp2_with (first
               | (go_at_call 200;refine HFIT.out.mono ?_;rw[HFF.out];rintro e w5 ⟨rfl,hb5⟩;obtain⟨b0,⟨d0,d1,d2,d3,d4⟩,⟨s0,s1,s2,s3⟩,hbw5,-,-⟩:=dN (s:=⟨false,lo,hi,ps⟩) (sa:=sa) (sc:=sc) HB3.out (HFA.out w5 hb5) HT.out;have HB5:=Hd hbw5;clear hb5 hbw5)
               | (go_at_call 94;refine(zu _ _ _ _).mono ?_;rw[HN1.out];rintro e w' ⟨rfl,rfl⟩))
              go_ret;exact⟨zb (by rw[HFE.out,HFF.out,HN1.out];rfl),HB5.out⟩
            | false=>
              have HN1:=Hd hn1;clear hn1
              cases hk1:d.kind==1 with
              | false=>
                have HK1:=Hd hk1
                go_wp2_with (first
                 | (go_at_call 200;refine HFIT.out.mono ?_;rw[HFF.out];rintro e w5 ⟨rfl,hb5⟩;obtain⟨b0,⟨d0,d1,d2,d3,d4⟩,⟨s0,s1,s2,s3⟩,hbw5,-,-⟩:=dN (s:=⟨false,lo,hi,ps⟩) (sa:=sa) (sc:=sc) HB3.out (HFA.out w5 hb5) HT.out;have HB5:=Hd hbw5;clear hb5 hbw5)
                 | (go_at_call 94;refine(zu _ _ _ _).mono ?_;rw[HN1.out];rintro e w' ⟨rfl,rfl⟩))
                go_ret;exact⟨zb (by rw[HFE.out,HFF.out,HN1.out,HK1.out];rfl),HB5.out⟩
              | true=>
                have HK1:=Hd hk1;obtain⟨y,hy⟩:∃y,zv d.n (-9999) (-1)=y:=⟨_,rfl⟩
                have HY:=Hd hy;clear hy
                go_wp2_with (first
                 | (go_at_call 200;refine HFIT.out.mono ?_;rw[HFF.out];rintro e w5 ⟨rfl,hb5⟩;obtain⟨b0,⟨d0,d1,d2,d3,d4⟩,⟨s0,s1,s2,s3⟩,hbw5,-,-⟩:=dN (s:=⟨false,lo,hi,ps⟩) (sa:=sa) (sc:=sc) HB3.out (HFA.out w5 hb5) HT.out;have HB5:=Hd hbw5;clear hb5 hbw5)
                 | (have hx:=HN1D;go_at_call 94;refine(zu d.n (-9999) (-1) _).mono ?_;rw[HY.out];rintro e w' ⟨rfl,rfl⟩)
                 | (go_at_call 94;refine(zu d.n lo hi _).mono ?_;rw[HN1.out];rintro e w' ⟨rfl,rfl⟩;have HN1D:=HN1))
                go_ret;exact⟨zb (by rw[HFE.out,HFF.out,HN1.out,HK1.out,HY.out];rfl),HB5.out⟩
     ·have HTX:=Hd htx
      have htx1:(d.text==[])=false:=by simpa using htx
      have htx2:(d.text != [])=true:=by simpa using htx
      have HTX2:=Hd htx2;clear htx
      cases nm with
      | false=>
        have HNB:=HPO;go_enter func142,ntmps142
        go_wp2_with (first
         | (go_at_call 199;refine(HSh.out _).mono ?_;rw[HSP.out];rintro e w3 ⟨sa,sc,he,hpar,hb3⟩;have he:e=.returned (.tuple #[.agg #[.bool false,intV lo,intV hi,.slice sa ps.length sc],.bool true]):=he;subst he;have HB3:=Hd (show Below (w.heap.size+1+1) (boxD (boxT w ⟨some ⟨b,o,none⟩,nc,ia,ic⟩ t) ka kc d) w3 from hb3.mono (by simp));have HPAR:=Hd hpar;obtain⟨b0,⟨d0,d1,d2,d3,d4⟩,⟨s0,s1,s2,s3⟩,hbw,hbw3,⟨hs3,hs4⟩⟩:=dN (s:=⟨false,lo,hi,ps⟩) (sa:=sa) (sc:=sc) HB3.out brf HT.out;have HBW:=Hd hbw;obtain⟨⟨q0,q1⟩,⟨e0,e1,e2,e3⟩,-,-,-⟩:=aP HB3.out HT.out;have e4:=eZ HB3.out;have hs5:w.heap.size+1<w3.heap.size:=(by omega);have hs6:w.heap.size<w3.heap.size:=(by omega);clear hb3 hpar hbw hbw3)
         | (go_at_call 94;refine(zu _ _ _ _).mono ?_;rw[HPO.out];rintro e w' ⟨rfl,rfl⟩)
         | (go_at_call 86;refine(cO d.text _ hts (HG.out.mono HBW.out nlr)).mono ?_;rw[HNB.out];rintro e w4 ⟨rfl,hb4⟩;have HB4:=Hd (show Below (w3.heap.size+1) (boxS w3 ⟨false,lo,hi,ps⟩ sa sc) w4 from hb4.mono (by simp));obtain⟨b0,⟨d0,d1,d2,d3,d4⟩,⟨s0,s1,s2,s3⟩,hbw,hbw3,⟨hs3',hs4'⟩⟩:=dN (s:=⟨false,lo,hi,ps⟩) (sa:=sa) (sc:=sc) HB3.out HB4.out HT.out;have HBW4:=Hd hbw;clear hb4 hbw hbw3))
        go_ret;exact⟨zb (by rw[HF.out,HND.out,HPO.out,HTX2.out];rfl),HBW.out⟩
      | true=>
        cases hnb:zX d.text with
        | false=>
          have HNB:=Hd hnb;clear hnb;go_enter func142,ntmps142
          go_wp2_with (first
           | (go_at_call 199;refine(HSh.out _).mono ?_;rw[HSP.out];rintro e w3 ⟨sa,sc,he,hpar,hb3⟩;have he:e=.returned (.tuple #[.agg #[.bool true,intV lo,intV hi,.slice sa ps.length sc],.bool true]):=he;subst he;have HB3:=Hd (show Below (w.heap.size+1+1) (boxD (boxT w ⟨some ⟨b,o,none⟩,nc,ia,ic⟩ t) ka kc d) w3 from hb3.mono (by simp));have HPAR:=Hd hpar;obtain⟨b0,⟨d0,d1,d2,d3,d4⟩,⟨s0,s1,s2,s3⟩,hbw,hbw3,⟨hs3,hs4⟩⟩:=dN (s:=⟨true,lo,hi,ps⟩) (sa:=sa) (sc:=sc) HB3.out brf HT.out;have HBW:=Hd hbw;obtain⟨⟨q0,q1⟩,⟨e0,e1,e2,e3⟩,-,-,-⟩:=aP HB3.out HT.out;have e4:=eZ HB3.out;have hs5:w.heap.size+1<w3.heap.size:=(by omega);have hs6:w.heap.size<w3.heap.size:=(by omega);clear hb3 hpar hbw hbw3)
           | (go_at_call 94;refine(zu _ _ _ _).mono ?_;rw[HPO.out];rintro e w' ⟨rfl,rfl⟩)
           | (go_at_call 86;refine(cO d.text _ hts (HG.out.mono HBW.out nlr)).mono ?_;rw[HNB.out];rintro e w4 ⟨rfl,hb4⟩;have HB4:=Hd (show Below (w3.heap.size+1) (boxS w3 ⟨true,lo,hi,ps⟩ sa sc) w4 from hb4.mono (by simp));obtain⟨b0,⟨d0,d1,d2,d3,d4⟩,⟨s0,s1,s2,s3⟩,hbw,hbw3,⟨hs3',hs4'⟩⟩:=dN (s:=⟨true,lo,hi,ps⟩) (sa:=sa) (sc:=sc) HB3.out HB4.out HT.out;have HBW4:=Hd hbw;clear hb4 hbw hbw3))
          go_ret;exact⟨zb (by rw[HF.out,HND.out,HPO.out,HTX2.out,HNB.out];rfl),HBW4.out⟩
        | true=>
          have HNB:=Hd hnb;clear hnb;go_enter func142,ntmps142
          go_wp2_with (first
           | (go_at_call 199;refine(HSh.out _).mono ?_;rw[HSP.out];rintro e w3 ⟨sa,sc,he,hpar,hb3⟩;have he:e=.returned (.tuple #[.agg #[.bool true,intV lo,intV hi,.slice sa ps.length sc],.bool true]):=he;subst he;have HB3:=Hd (show Below (w.heap.size+1+1) (boxD (boxT w ⟨some ⟨b,o,none⟩,nc,ia,ic⟩ t) ka kc d) w3 from hb3.mono (by simp));have HPAR:=Hd hpar;obtain⟨b0,⟨d0,d1,d2,d3,d4⟩,⟨s0,s1,s2,s3⟩,hbw,hbw3,⟨hs3,hs4⟩⟩:=dN (s:=⟨true,lo,hi,ps⟩) (sa:=sa) (sc:=sc) HB3.out brf HT.out;have HBW:=Hd hbw;obtain⟨⟨q0,q1⟩,⟨e0,e1,e2,e3⟩,-,-,-⟩:=aP HB3.out HT.out;have e4:=eZ HB3.out;have hs5:w.heap.size+1<w3.heap.size:=(by omega);have hs6:w.heap.size<w3.heap.size:=(by omega);clear hb3 hpar hbw hbw3)
           | (go_at_call 94;refine(zu _ _ _ _).mono ?_;rw[HPO.out];rintro e w' ⟨rfl,rfl⟩)
           | (go_at_call 86;refine(cO d.text _ hts (HG.out.mono HBW.out nlr)).mono ?_;rw[HNB.out];rintro e w4 ⟨rfl,hb4⟩;have HB4:=Hd (show Below (w3.heap.size+1) (boxS w3 ⟨true,lo,hi,ps⟩ sa sc) w4 from hb4.mono (by simp));obtain⟨b0,⟨d0,d1,d2,d3,d4⟩,⟨s0,s1,s2,s3⟩,hbw,hbw3,⟨hs3',hs4'⟩⟩:=dN (s:=⟨true,lo,hi,ps⟩) (sa:=sa) (sc:=sc) HB3.out HB4.out HT.out;have HBW4:=Hd hbw;clear hb4 hbw hbw3))
          go_loopw [8,50] (fun t8 t50 wr=>∃(j:Nat) (a8:Option Addr) (c8:Nat) (q:List Int),t50=.int .i64 j∧t8=.slice a8 q.length c8∧j≤d.kids.length∧q.length=j∧Hid (q=(d.kids.take j).map fun k=>(t.nd k).kind)∧Hid ((d.kids.take j).all (fun k=>zv k 0 ((i:Int)-1))=true)∧Hid (OwnU wr (w3.heap.size+1) a8 c8 q)∧Hid (Below (w3.heap.size+1) (boxS w3 ⟨true,lo,hi,ps⟩ sa sc) wr)) (fun _ x _=>d.kids.length-(intOf x).toNat)
          case atStart=>exact⟨0,none,0,[],rfl,rfl,Nat.zero_le _,rfl,Hd rfl,Hd rfl,Hd ⟨rfl,.inl ⟨rfl,rfl⟩⟩,HB4⟩
          case round=>
           obtain⟨j,a8,c8,q,rfl,rfl,hj,hqj,HQ,HA,HO,HB⟩:=hrel;obtain⟨b0,⟨d0,d1,d2,d3,d4⟩,⟨s0,s1,s2,s3⟩,hbw,hbw3,⟨hs3',hs4'⟩⟩:=dN (s:=⟨true,lo,hi,ps⟩) (sa:=sa) (sc:=sc) HB3.out HB.out HT.out;have HBWR:=Hd hbw;have HBW3:=Hd hbw3;have HLQ:=Hd hqj;have hq6:q.length≤1000000:=by omega
           clear hbw hbw3 hqj;by_cases hlt:j<d.kids.length
           ·obtain⟨bk,ok,ek,hbk,hck⟩:=Ints.at (HKR.out.mono HBWR.out nlr) hlt
            subst ek;obtain⟨k,hk⟩:∃k,d.kids[j]=k:=⟨_,rfl⟩
            rw[hk]at hck;have HK:=Hd hk;have hts2:=List.take_succ_eq_append_getElem hlt;have HTS:=Hd hts2;have HAS:=Hd (lF hlt (fun k=>zv k 0 ((i:Int)-1)));clear hk hts2;cases hin:zv k 0 ((i:Int)-1)with
            | false=>
              have HIN:=Hd hin;have HNO:=Hd (LI hlt (p:=fun k=>zv k 0 ((i:Int)-1)) (by rw[HK.out];exact hin));clear hin
              go_wp2_with (go_at_call 94;refine(zu _ _ _ _).mono ?_;rw[HIN.out];rintro e w' ⟨rfl,rfl⟩)
              go_ret;exact⟨zb (by rw[HF.out,HND.out,HNO.out];simp),HBWR.out⟩
            | true=>
              have HIN:=Hd hin;obtain⟨hk0,hk1⟩:=inRange_iff.1 hin;obtain⟨m,rfl⟩:=Int.eq_ofNat_of_zero_le hk0;have hmn:m<t.nodes.length:=by omega
              obtain⟨b',o',ka',kc',e',hb',k0',-⟩:=(HT.out.mono HBWR.out nlr).nodes.at hmn;simp only[Option.some.injEq,Addr.mk.injEq,and_true]at e';obtain⟨rfl,rfl⟩:=e';obtain⟨x,hx⟩:∃x,t.nodes[m].kind=x:=⟨_,rfl⟩
              rw[hx]at k0';have HX:=Hd (show(t.nd (m:Int)).kind=x by rw[t.nd_at hmn];exact hx);clear hin hx
              go_wp2_with (first
               | (go_at_call 94;refine(zu _ _ _ _).mono ?_;rw[HIN.out];rintro e w' ⟨rfl,rfl⟩)
               | (at_builtin;refine qQ (news:=[x]) rfl (.tmp 59) (.tmp 66) rfl rfl (HO.out.alloc _) rfl (aK _ _ _) (by omega) (by simp;omega) ?_;intro a9 c9 w9 l9 HL9 hle9 hown9 hkeep9))
              have hl9:l9.length=j+1:=by rw[HL9.out];simp;exact HLQ.out
              go_roundw
              case rel=>
               refine⟨j+1,a9,c9,l9,by go_num,rfl,by omega,hl9,Hd ?_,Hd ?_,Hd hown9,Hd (hkeep9 _ _ nlr (HB.out.alloc (by omega) _))⟩
               ·rw[HL9.out,HQ.out,HTS.out,List.map_append,HK.out];simp[HX.out]
               ·rw[HAS.out,HA.out,HK.out];simpa using HIN.out
              case measure=>simp[intOf];omega
           ·have hjn:j=d.kids.length:=by omega
            have hqk:q=bO t i:=by rw[HQ.out,hjn,List.take_length,bO,HND.out]
            have hal:d.kids.all (fun k=>zv k 0 ((i:Int)-1))=true:=by have:=HA.out;rwa[hjn,List.take_length]at this
            have HQK:=Hd hqk;have HAL:=Hd hal;have hFE:dJ t i=(eM ps q&&(zv d.n lo hi||d.kind==1&&zv d.n (-9999) (-1))):=by rw[HF.out,HND.out,HPO.out,HTX2.out,HNB.out,HAL.out,HQK.out];simp
            have HFE:=Hd hFE;have hfit:Calls prog 200 #[.agg #[.bool true,intV lo,intV hi,.slice sa ps.length sc],.slice a8 q.length c8] wr (zq wr (eM ps q)):=tJ ⟨true,lo,hi,ps⟩ sa sc a8 c8 q wr HSM.out (by omega) (HPAR.out.mono HBW3.out nlr) (EY HO.out);have HFIT:=Hd hfit;clear hqk hal hFE hfit
            cases hf:eM ps q with
            | false=>
              have HFF:=Hd hf;clear hf
              go_wp2_with (go_at_call 200;refine HFIT.out.mono ?_;rw[HFF.out];rintro e w5 ⟨rfl,hb5⟩)
              go_ret;exact⟨zb (by rw[HFE.out,HFF.out];rfl),HBWR.out.trans (hb5.mono (by omega))⟩
            | true=>
              have HFF:=Hd hf;clear hf;have hfacts:∀w5,Below wr.heap.size wr w5→Below (w3.heap.size+1) (boxS w3 ⟨true,lo,hi,ps⟩ sa sc) w5:=fun w5 h=>HB.out.trans (h.mono hs4');have HFA:=Hd hfacts;clear hfacts
              cases hn1:zv d.n lo hi with
              | true=>
                have HN1:=Hd hn1;clear hn1
                go_wp2_with (first
                 | (go_at_call 200;refine HFIT.out.mono ?_;rw[HFF.out];rintro e w5 ⟨rfl,hb5⟩;obtain⟨b0,⟨d0,d1,d2,d3,d4⟩,⟨s0,s1,s2,s3⟩,hbw5,-,-⟩:=dN (s:=⟨true,lo,hi,ps⟩) (sa:=sa) (sc:=sc) HB3.out (HFA.out w5 hb5) HT.out;have HB5:=Hd hbw5;clear hb5 hbw5)
                 | (go_at_call 94;refine(zu _ _ _ _).mono ?_;rw[HN1.out];rintro e w' ⟨rfl,rfl⟩))
                go_ret;exact⟨zb (by rw[HFE.out,HFF.out,HN1.out];rfl),HB5.out⟩
              | false=>
                have HN1:=Hd hn1;clear hn1
                cases hk1:d.kind==1 with
                | false=>
                  have HK1:=Hd hk1
                  go_wp2_with (first
                   | (go_at_call 200;refine HFIT.out.mono ?_;rw[HFF.out];rintro e w5 ⟨rfl,hb5⟩;obtain⟨b0,⟨d0,d1,d2,d3,d4⟩,⟨s0,s1,s2,s3⟩,hbw5,-,-⟩:=dN (s:=⟨true,lo,hi,ps⟩) (sa:=sa) (sc:=sc) HB3.out (HFA.out w5 hb5) HT.out;have HB5:=Hd hbw5;clear hb5 hbw5)
                   | (go_at_call 94;refine(zu _ _ _ _).mono ?_;rw[HN1.out];rintro e w' ⟨rfl,rfl⟩))
                  go_ret;exact⟨zb (by rw[HFE.out,HFF.out,HN1.out,HK1.out];rfl),HB5.out⟩
                | true=>
                  have HK1:=Hd hk1;obtain⟨y,hy⟩:∃y,zv d.n (-9999) (-1)=y:=⟨_,rfl⟩
                  have HY:=Hd hy;clear hy
                  go_wp2_with (first
                   | (go_at_call 200;refine HFIT.out.mono ?_;rw[HFF.out];rintro e w5 ⟨rfl,hb5⟩;obtain⟨b0,⟨d0,d1,d2,d3,d4⟩,⟨s0,s1,s2,s3⟩,hbw5,-,-⟩:=dN (s:=⟨true,lo,hi,ps⟩) (sa:=sa) (sc:=sc) HB3.out (HFA.out w5 hb5) HT.out;have HB5:=Hd hbw5;clear hb5 hbw5)
                   | (have hx:=HN1D;go_at_call 94;refine(zu d.n (-9999) (-1) _).mono ?_;rw[HY.out];rintro e w' ⟨rfl,rfl⟩)
                   | (go_at_call 94;refine(zu d.n lo hi _).mono ?_;rw[HN1.out];rintro e w' ⟨rfl,rfl⟩;have HN1D:=HN1))
                  go_ret;exact⟨zb (by rw[HFE.out,HFF.out,HN1.out,HK1.out,HY.out];rfl),HB5.out⟩
def wayV(s:Nat):Value:=.func (.func 201) #[] #[.pointer (some ⟨s,0,none⟩),.pointer (some ⟨s+1+1,0,none⟩),.pointer (some ⟨s+1,0,none⟩)]
@[go_sem] theorem run_store_way {w:World}{a:Addr}{m:Mode}(s:Nat):(store a (wayV s) m).run prog w=stored prog w a (wayV s) m:=run_store prog w a _ m rfl
structure OrdW (w:World) (v:TreeV) (t:Tr) (s:Nat) (p:Int) (W:World):Prop where
 below:Below s w W
 size:s+1+1<W.heap.size
 n:W.cell? ⟨s,0,none⟩=some (.slice v.na t.nodes.length v.nc)
 items:W.cell? ⟨s,1,none⟩=some (.slice v.ia t.items.length v.ic)
 next:W.cell? ⟨s+1,0,none⟩=some (intV p)
 way:W.cell? ⟨s+1+1,0,none⟩=some (wayV s)
 open_:W.frozen? ⟨s+1,0,none⟩=false
theorem OrdW.set{w W:World}{v:TreeV}{t:Tr}{s:Nat}{p:Int}(h:OrdW w v t s p W)(m:Int):OrdW w v t s m (W.setCell ⟨s+1,0,none⟩ (intV m)):=by
 obtain⟨h1,h2,h3,h4,h5,h6,h7⟩:=h;refine⟨h1.setCell (by simp) _,by simpa using h2,?_,?_,World.cell?_setCell_same _ _ _ h5,?_,by rw[World.frozen?_setCell];exact h7⟩
 ·rw[World.cell?_setCell_other _ _ _ _ (by simp)];exact h3
 ·rw[World.cell?_setCell_other _ _ _ _ (by simp)];exact h4
 ·rw[World.cell?_setCell_other _ _ _ _ (by simp)];exact h6
def DL(w:World)(v:TreeV)(t:Tr)(s:Nat):Option Int→Ending→World→Prop
 |some m,e,w'=>e=.returned (.bool true)∧OrdW w v t s m w'
 |none,e,w'=>e=.returned (.bool false)∧Below s w w'
theorem GN{t:Tr}{f i:Nat}{d p q:Int}(h:goK (fun k q=>dT t f k (d+1) q) (t.nd i).kids p=some q) :
 dT t (f+1) i d p=if (i:Int) != q then none else if cH (t.nd i).kind==(d==1)then some (q+1)else none:=by
 rw[dT,h];rfl
theorem GO{t:Tr}{f i:Nat}{d p:Int}(h:goK (fun k q=>dT t f k (d+1) q) (t.nd i).kids p=none):dT t (f+1) i d p=none:=by
 rw[dT,h];rfl
theorem NN{g:Int→Int→Option Int}{l:List Int}{k:Nat}(h:k<l.length)(p:Int):goK g (l.drop k) p=(g l[k] p).bind (goK g (l.drop (k+1))):=by
 rw[List.drop_eq_getElem_cons h];rfl
theorem tN(v:TreeV)(t:Tr)(w:World)(bd:Bd t)(hkid:∀i,i<t.nodes.length→∀k∈(t.nd i).kids,0≤k∧k<(i:Int))(h:IsTree w v t)(s:Nat)(hs:s=w.heap.size) :
 ∀(f i:Nat) (d p:Int) (W:World),i<t.nodes.length→i<f→1≤d→d+f≤4000000→OrdW w v t s p W →
 Calls prog 201 #[intV i,intV d,.pointer (some ⟨s,0,none⟩),.pointer (some ⟨s+1+1,0,none⟩),.pointer (some ⟨s+1,0,none⟩)] W (DL w v t s (dT t f i d p))
 |0,i,d,p,W,hi,hf,_,_,ho=>by omega
 | f+1,i,d,p,W,hi,hf,hd,hdf,ho=>by
   have IH:=tN v t w bd hkid h s hs f;have IHH:=Hd IH;clear IH;have HT:=Hd h;have HO:=Hd ho;have HK:=Hd (hkid i hi);have hn3:=bd.n;have hWn:=ho.n;obtain⟨b,o,ka,kc,ea,hb,c0,c1,c2,c3,c4,hkr⟩:=h.nodes.at hi;have hnd:=t.nd_at hi;have hkl:=bd.k _ (List.getElem_mem hi);obtain⟨D,hD⟩:∃D,t.nodes[i]=D:=⟨_,rfl⟩
   rw[hD]at c0 c1 c2 c3 c4 hkr hnd hkl;obtain⟨na,nc,ia,ic⟩:=v;simp only at ea;subst ea;have HKR:=Hd hkr;have C0:=Hd c0;have C3:=Hd c3;have HND:=Hd hnd;have HS:=Hd hs;have hb0:Below w.heap.size w W:=hs▸ho.below;obtain⟨hc,-⟩:=bcell hb0;have d3:=(hc b (o+i*5+3) hb).trans C3.out;rw[hnd]at HK;clear hkid bd h ho hkr hnd hD hs hc hb0 c0 c1 c2 c3 c4;go_enter func201,ntmps201;go_wp2
   go_loopw [17] (fun t17 wr=>∃(k:Nat) (q:Int),t17=.int .i64 k∧k≤D.kids.length∧Hid (goK (fun k q=>dT t f k (d+1) q) D.kids p=goK (fun k q=>dT t f k (d+1) q) (D.kids.drop k) q)∧Hid (OrdW w ⟨some ⟨b,o,none⟩,nc,ia,ic⟩ t s q wr)) (fun t17 _=>D.kids.length-(intOf t17).toNat)
   case atStart=>exact⟨0,p,rfl,Nat.zero_le _,Hd rfl,HO⟩
   case round=>
    obtain⟨k,q,rfl,hk,HG,HQ⟩:=hrel;have hbr:Below w.heap.size w wr:=HS.out▸HQ.out.below;have HBR:=Hd hbr;by_cases hlt:k<D.kids.length
    ·obtain⟨bk,ok,ek,hbk,hck⟩:=Ints.at (HKR.out.mono hbr nlr) hlt
     subst ek;have hx:=HK.out _ (List.getElem_mem hlt);have HA:=Hd (NN (g:=fun k q=>dT t f k (d+1) q) hlt q);obtain⟨x,hxx⟩:∃x,D.kids[k]=x:=⟨_,rfl⟩
     rw[hxx]at hck hx;obtain⟨hx0,hx1⟩:=hx;obtain⟨m,rfl⟩:=Int.eq_ofNat_of_zero_le hx0;have HXX:=Hd hxx;have hway:=HQ.out.way;unfold wayV at hway;have HC:Hid (Calls prog 201 #[intV m,intV (d+1),.pointer (some ⟨s,0,none⟩),.pointer (some ⟨s+1+1,0,none⟩),.pointer (some ⟨s+1,0,none⟩)] wr (DL w ⟨some ⟨b,o,none⟩,nc,ia,ic⟩ t s (dT t f m (d+1) q))):=Hd (IHH.out m (d+1) q wr (by omega) (by omega) (by omega) (by omega) HQ.out);have hwr:IntKind.i64.wrap (d+1)=d+1:=by rw[IntKind.wrap_i64];omega
     clear hxx hbr
     cases hwk:dT t f m (d+1) q with
     | none=>
       have HW:=Hd hwk;clear hwk
       go_wp2_with (go_at_call 201;refine HC.out.mono ?_;rw[HW.out];rintro e w' ⟨rfl,hb'⟩;have HB':=Hd hb';clear hb')
       go_ret;have hno:dT t (f+1) i d p=none:=GO (by rw[HND.out,HG.out,HA.out,HXX.out,HW.out];rfl);rw[hno];exact⟨rfl,HB'.out⟩
     | some m'=>
       have HW:=Hd hwk;clear hwk
       go_wp2_with (go_at_call 201;refine HC.out.mono ?_;rw[HW.out];rintro e w' ⟨rfl,hb'⟩;have HB':=Hd hb';clear hb')
       go_roundw
       case rel=>exact⟨k+1,m',by go_num,by omega,Hd (by rw[HG.out,HA.out,HXX.out,HW.out];rfl),HB'⟩
       case measure=>simp[intOf];omega
    ·have hend:goK (fun k q=>dT t f k (d+1) q) (t.nd i).kids p=some q:=by rw[HND.out,HG.out,List.drop_of_length_le (by omega)];rfl
     have hwf:=GN hend;rw[HND.out]at hwf;have HWF:=Hd hwf;have hq:=HQ.out.next;have hqn:=HQ.out.n;obtain⟨hc,-⟩:=bcell hbr;have e0:=(hc b (o+i*5) hb).trans C0.out;clear hc hbr hend hwf;by_cases hiq:(i:Int)=q
     ·subst hiq
      have hbs:¬b=s+1:=by have:=HS.out;omega
      have hq0:=HQ.out.open_;have HQ2:=Hd (HQ.out.set ((i:Int)+1));rw[if_neg (by simp)]at HWF
      go_wp2_with (go_at_call 145;refine(oB _ _).mono ?_;rintro e w' ⟨rfl,rfl⟩)
      go_ret;rw[HWF.out];cases hy:(cH D.kind==(d==1))with
      |true=>exact⟨rfl,HQ2.out⟩
      |false=>exact⟨rfl,HQ2.out.below⟩
     ·have hiq2:((i:Int) != q)=true:=by simpa using hiq
      rw[if_pos hiq2]at HWF;have HIQ:=Hd hiq;go_wp2;all_goals go_ret
      rw[HWF.out];exact⟨rfl,HQ.out.below⟩
theorem rR{t:Tr}:∀{f:Nat}{i d p m:Int},dT t f i d p=some m→m=i+1
 |0,i,d,p,m,h=>by simp[dT]at h
 | f+1,i,d,p,m,h=>by
   simp only[dT,Option.bind_eq_some_iff]at h;obtain⟨q,_,h⟩:=h;by_cases hq:i=q
   ·subst hq
    rw[if_neg (by simp)]at h;split at h
    ·exact(Option.some.inj h).symm
    ·cases h
   ·rw[if_pos (by simpa using hq)]at h;cases h
theorem MM{t:Tr}{l:List Int}{k:Nat}(h:k<l.length)(p:Int) :
 ordF t (l.drop k) p=if decide (p≤l[k])&&decide (l[k]≤(t.nodes.length:Int)-1)then (dT t (l[k]+1).toNat l[k] 1 p).bind (ordF t (l.drop (k+1)))else none:=by
 rw[List.drop_eq_getElem_cons h];rfl
theorem rK{t:Tr}(h:ordF t t.items 0=none):aL t=false:=by unfold aL;rw[h];rfl
theorem xK{t:Tr}{q:Int}(h:ordF t t.items 0=some q):aL t=(q==(t.nodes.length:Int)):=by unfold aL;rw[h];rfl
theorem tL(v:TreeV)(t:Tr)(w:World)(bd:Bd t)(hkid:∀i,i<t.nodes.length→∀k∈(t.nd i).kids,0≤k∧k<(i:Int))(h:IsTree w v t) :
 Calls prog 143 #[v.val t] w (zq w (aL t)):=by
 have HW:=Hd (tN v t w bd hkid h w.heap.size rfl);have HI:=Hd h.items;have hn3:=bd.n;obtain⟨na,nc,ia,ic⟩:=v;have hi3:=bd.i;clear h bd hkid;simp only at HI;unfold TreeV.val;go_enter func143,ntmps143;go_wp2
 go_loopw [11] (fun t11 wr=>∃(k:Nat) (q:Int),t11=.int .i64 k∧k≤t.items.length∧0≤q∧Hid (ordF t t.items 0=ordF t (t.items.drop k) q)∧Hid (OrdW w ⟨na,nc,ia,ic⟩ t w.heap.size q wr)) (fun t11 _=>t.items.length-(intOf t11).toNat)
 case atStart=>
  refine⟨0,0,rfl,Nat.zero_le _,Int.le_refl _,Hd rfl,Hd ⟨?_,?_,?_,?_,?_,?_,?_⟩⟩
  ·go_grown
  all_goals (try unfold wayV)
  all_goals (try go_simp)
 case round=>
  obtain⟨k,q,rfl,hk,hq0,HG,HQ⟩:=hrel;have HBR:=Hd HQ.out.below;have hqn:=HQ.out.n;have hqx:=HQ.out.next;by_cases hlt:k<t.items.length
  ·obtain⟨bk,ok,ek,hbk,hck⟩:=Ints.at (HI.out.mono HBR.out nlr) hlt
   subst ek;have HA:=Hd (MM (t:=t) hlt q);obtain⟨x,hxx⟩:∃x,t.items[k]=x:=⟨_,rfl⟩
   rw[hxx]at hck HA;have hway:=HQ.out.way;unfold wayV at hway;cases hin:zv x q ((t.nodes.length:Int)-1)with
   | false=>
     have HIN:=Hd hin
     have hno:ordF t t.items 0=none:=by
      rw[HG.out,HA.out,if_neg];intro hh;rw[Bool.and_eq_true,decide_eq_true_iff,decide_eq_true_iff]at hh;rw[inRange_iff.2 hh]at hin;cases hin
     have HNO:=Hd (rK hno);clear hin hxx hno
     go_wp2_with (go_at_call 94;refine(zu _ _ _ _).mono ?_;rw[HIN.out];rintro e w' ⟨rfl,rfl⟩)
     go_ret;exact⟨zb HNO.out.symm,HBR.out⟩
   | true=>
     have HIN:=Hd hin;have hh:=inRange_iff.1 hin;have HA':=Hd (HA.out.trans (if_pos (by rw[Bool.and_eq_true,decide_eq_true_iff,decide_eq_true_iff];exact hh)));obtain⟨hh0,hh1⟩:=hh;obtain⟨m,rfl⟩:=Int.eq_ofNat_of_zero_le (show 0≤x by omega);have hm1:((m:Int)+1).toNat=m+1:=by omega
     rw[hm1]at HA';have HC:=Hd (HW.out (m+1) m 1 q wr (by omega) (by omega) (by omega) (by omega) HQ.out);clear hin hxx hm1 HA
     cases hwk:dT t (m+1) m 1 q with
     | none=>
       have HWK:=Hd hwk;have HNO:=Hd (rK (t:=t) (by rw[HG.out,HA'.out,hwk];rfl));clear hwk
       go_wp2_with (first
        | (go_at_call 94;refine(zu _ _ _ _).mono ?_;rw[HIN.out];rintro e w' ⟨rfl,rfl⟩)
        | (go_at_call 201;refine HC.out.mono ?_;rw[HWK.out];rintro e w' ⟨rfl,hb'⟩;have HB':=Hd hb';clear hb'))
       go_ret;exact⟨zb HNO.out.symm,HB'.out⟩
     | some m'=>
       have HWK:=Hd hwk;have hm':=rR hwk;clear hwk
       go_wp2_with (first
        | (go_at_call 94;refine(zu _ _ _ _).mono ?_;rw[HIN.out];rintro e w' ⟨rfl,rfl⟩)
        | (go_at_call 201;refine HC.out.mono ?_;rw[HWK.out];rintro e w' ⟨rfl,hb'⟩;have HB':=Hd hb';clear hb'))
       go_roundw
       case rel=>exact⟨k+1,m',by go_num,by omega,by omega,Hd (by rw[HG.out,HA'.out,HWK.out];rfl),HB'⟩
       case measure=>simp[intOf];omega
  ·have hend:ordF t t.items 0=some q:=by rw[HG.out,List.drop_of_length_le (by omega)];rfl
   have HE:=Hd (xK hend);clear hend;go_wp2;all_goals go_ret
   exact⟨zb (by rw[HE.out]),HBR.out⟩
end
end Go.Proofs.YtokdgiphdnjeoaaGreatDoor
