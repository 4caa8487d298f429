/- Part of a proof. -/
import Derived.Test.YthjpoaannjgdmaaGreatDoorK17
set_option maxRecDepth 100000
set_option maxHeartbeats 8000000
set_option linter.unusedVariables false
set_option linter.unusedSimpArgs false
open Go.Proofs.Tryz
namespace Go.Proofs.YthjpoaannjgdmaaGreatDoor
section
open Go.RowKit
theorem uV(d:Nd)(ka:Option Addr)(kc:Nat)(w:World)(h1:d.kind=23):Calls prog 148 #[ndV d ka kc] w (zK w (some ⟨false,0,0,[(2,2,.expr)]⟩)):=by
 have hi:prog.follows .mixedOrders=true:=by kernel_rfl
 unfold ndV;obtain⟨k,hk⟩:∃k,d.kind=k:=⟨_,rfl⟩
 rw[hk]at h1|-;clear hk;subst h1;go_enter func148,ntmps148;go_wp2;refine oT (Ahead w 23) ⟨by go_simp,⟨by go_simp,by go_simp,by go_simp;rfl⟩,((show Below (w.heap.size+1+1) ((w.alloc (.cells #[.int .u8 23,strV d.text,intV d.n,.slice ka d.kids.length kc,intV d.pos] 31)).alloc (.cells #[.bool false,intV 0,intV 0,.slice none 0 0] 200)) _ from by go_grown).block (w.heap.size+1) (by omega)).trans (by have:=heap_alloc_new (w.alloc (.cells #[.int .u8 23,strV d.text,intV d.n,.slice ka d.kids.length kc,intV d.pos] 31)) (.cells #[.bool false,intV 0,intV 0,.slice none 0 0] 200);rwa[World.size_alloc]at this),by go_grown,by simp⟩ ?_;intro W0 hA;have HA:=Hd hA;obtain⟨_,_,hl,hd,hj⟩:=hA;have ha:w.heap.size+1<W0.heap.size:=by omega
 have Ha:=Hd hd;clear hd hj;refine N.region_M 18 hi (by kernel_rfl) (by kernel_rfl) rfl (by kernel_rfl) (by kernel_rfl) (fun _ _=>False) N.Pans.no (SJs w W0) (SKs w) ⟨N.Off.of_below (brf.drew),.inl hl⟩ [.fix ?vS0,.fix ?vS1,.dep [] (N.NewS W0.heap.size #[intV 2,intV 2,PK.V .expr] 234 1),.dep [2] (fun l v _=>v=.agg #[.bool false,intV 0,intV 0,l.getD 0 undef]),.fix ?vS4,.fix ?vS5,.fix ?vS6,.fix ?vS7,.fix ?vS8,.fix ?vS9,.fix ?vS10,.fix ?vS11,.fix ?vS12,.fix ?vS13,.fix ?vS14,.fix ?vS15,.fix ?vS16,.dep [] (fun _ _ W=>W.heap[w.heap.size+1]?≠some ZS)] [[],[],[],[2],[],[],[],[],[],[],[],[],[],[],[],[],[],[]] rfl (by kernel_rfl) (N.sts_kd ⟨trivial,trivial,N.NewS.stK ha,(fun _ _ _ _ _ h=>h),trivial,trivial,trivial,trivial,trivial,trivial,trivial,trivial,trivial,trivial,trivial,trivial,trivial,(fun _ _ _ _ hk h=>hk.2 h),trivial⟩) fun x=>?_;rotate_left 15;refine N.WalkM.fix ?s0 ?r0;case s0=>refine N.StepS.known rfl (fun _=>N.SK.refl _ _ _) ?_;intro W hJ hP;obtain⟨j0,j1,j2,j3⟩:=zq HA.o hJ;go_simp;try rfl
 simp only[N.pz];refine N.WalkM.fix ?s1 ?r1;case s1=>refine N.StepS.known rfl (fun _=>N.SK.refl _ _ _) ?_;intro W hJ hP;obtain⟨j0,j1,j2,j3⟩:=zq HA.o hJ;go_simp;try rfl
 simp only[N.pz];refine N.WalkM.dep ?s2 ?r2;case s2=>exact N.StepS.runs rfl (fun W hJ _=>⟨_,_,by(go_simp;try rfl),hJ.of_below ha (brf.alloc nlr _),N.SK.of_below (hJ.lt ha) (brf.alloc nlr _),⟨W.heap.size,rfl,hJ.1.size,heap_alloc_new _ _⟩⟩)
 simp only[N.pz];refine N.WalkM.dep ?s3 ?r3;case s3=>(refine N.StepS.call' (f:=183) (args:=#[x 2]) rfl ?_ ?_;(intro W hJ hP;(go_simp;try rfl));(intro W hJ hP;obtain⟨g,hg,_,_⟩:N.NewS W0.heap.size #[intV 2,intV 2,PK.V .expr] 234 1 [] (x 2) W:=hP 2 (by kernel_rfl);rw[hg];refine(lU _ _ _ _).mono ?_;rintro e w' ⟨rfl,hb⟩;exact⟨_,rfl,hJ.of_below ha hb,N.SK.of_below (hJ.lt ha) hb,by simp[hg]⟩))
 simp only[N.pz];refine N.WalkM.fix ?s4 ?r4;case s4=>refine N.StepS.known rfl (fun _=>N.SK.refl _ _ _) ?_;intro W hJ hP;obtain⟨j0,j1,j2,j3⟩:=zq HA.o hJ;go_simp;try rfl
 simp only[N.pz];refine N.WalkM.fix ?s5 ?r5;case s5=>refine N.StepS.known rfl (fun _=>N.SK.refl _ _ _) ?_;intro W hJ hP;obtain⟨j0,j1,j2,j3⟩:=zq HA.o hJ;go_simp;try rfl
 simp only[N.pz];refine N.WalkM.fix ?s6 ?r6;case s6=>refine N.StepS.known rfl (fun _=>N.SK.refl _ _ _) ?_;intro W hJ hP;obtain⟨j0,j1,j2,j3⟩:=zq HA.o hJ;go_simp;try rfl
 simp only[N.pz];refine N.WalkM.fix ?s7 ?r7;case s7=>refine N.StepS.known rfl (fun _=>N.SK.refl _ _ _) ?_;intro W hJ hP;obtain⟨j0,j1,j2,j3⟩:=zq HA.o hJ;go_simp;try rfl
 simp only[N.pz];refine N.WalkM.fix ?s8 ?r8;case s8=>refine N.StepS.known rfl (fun _=>N.SK.refl _ _ _) ?_;intro W hJ hP;obtain⟨j0,j1,j2,j3⟩:=zq HA.o hJ;go_simp;try rfl
 simp only[N.pz];refine N.WalkM.fix ?s9 ?r9;case s9=>refine N.StepS.known rfl (fun _=>N.SK.refl _ _ _) ?_;intro W hJ hP;obtain⟨j0,j1,j2,j3⟩:=zq HA.o hJ;go_simp;try rfl
 simp only[N.pz];refine N.WalkM.fix ?s10 ?r10;case s10=>refine N.StepS.known rfl (fun _=>N.SK.refl _ _ _) ?_;intro W hJ hP;obtain⟨j0,j1,j2,j3⟩:=zq HA.o hJ;go_simp;try rfl
 simp only[N.pz];refine N.WalkM.fix ?s11 ?r11;case s11=>refine N.StepS.known rfl (fun _=>N.SK.refl _ _ _) ?_;intro W hJ hP;obtain⟨j0,j1,j2,j3⟩:=zq HA.o hJ;go_simp;try rfl
 simp only[N.pz];refine N.WalkM.fix ?s12 ?r12;case s12=>refine N.StepS.known rfl (fun _=>N.SK.refl _ _ _) ?_;intro W hJ hP;obtain⟨j0,j1,j2,j3⟩:=zq HA.o hJ;go_simp;try rfl
 simp only[N.pz];refine N.WalkM.fix ?s13 ?r13;case s13=>refine N.StepS.known rfl (fun _=>N.SK.refl _ _ _) ?_;intro W hJ hP;obtain⟨j0,j1,j2,j3⟩:=zq HA.o hJ;go_simp;try rfl
 simp only[N.pz];refine N.WalkM.fix ?s14 ?r14;case s14=>refine N.StepS.known rfl (fun _=>N.SK.refl _ _ _) ?_;intro W hJ hP;obtain⟨j0,j1,j2,j3⟩:=zq HA.o hJ;go_simp;try rfl
 simp only[N.pz];refine N.WalkM.fix ?s15 ?r15;case s15=>refine N.StepS.known rfl (fun _=>N.SK.refl _ _ _) ?_;intro W hJ hP;obtain⟨j0,j1,j2,j3⟩:=zq HA.o hJ;go_simp;try rfl
 simp only[N.pz];refine N.WalkM.fix ?s16 ?r16;case s16=>refine N.StepS.known rfl (fun _=>N.SK.refl _ _ _) ?_;intro W hJ hP;obtain⟨j0,j1,j2,j3⟩:=zq HA.o hJ;go_simp;try rfl
 simp only[N.pz];refine N.WalkM.dep ?s17 ?r17;case s17=>(refine .inl ⟨rfl,fun W hJ hP=>?_⟩;obtain⟨g,hg,hf,hh⟩:N.NewS W0.heap.size #[intV 2,intV 2,PK.V .expr] 234 1 [] (x 2) W:=hP 2 (by kernel_rfl);have h3:x 3=.agg #[.bool false,intV 0,intV 0,[x 2].getD 0 undef]:=hP 3 (by kernel_rfl);refine oR (g:=g) ha hf hh hJ (.tmp 2) (.tmp 118) rfl rfl rfl ?_;refine Eq.trans (b:=x 3) rfl ?_;rw[h3,hg];rfl)
 simp only[N.pz];refine N.WalkM.nil fun W hJ hH=>?_;have he:W.heap[w.heap.size+1]?≠some ZS:=hH 17;obtain⟨hc,hz|⟨g,hg,hx,hp⟩⟩:=hJ
 .exact(he hz).elim
 have hb:Below w.heap.size w W:=Ha.o.trans (hc.below (by omega) Ha.o.size);have u0:W.cell? ⟨w.heap.size+1,0,none⟩=some (.bool false):=by simp[World.cell?,hx]
 have u1:W.cell? ⟨w.heap.size+1,1,none⟩=some (intV 0):=by simp[World.cell?,hx]
 have u2:W.cell? ⟨w.heap.size+1,2,none⟩=some (intV 0):=by simp[World.cell?,hx]
 have u3:W.cell? ⟨w.heap.size+1,3,none⟩=some (.slice (some ⟨g,0,none⟩) 1 1):=by simp[World.cell?,hx]
 clear he hH hc hx;go_wp2;refine bodyPost_ret (v:=.tuple #[.agg #[.bool false,intV 0,intV 0,.slice (some ⟨g,0,none⟩) 1 1],.bool true]) (by simp[results,results148,go_sem,loadVar,u0,u1,u2,u3,Result.andThen]) rfl ⟨_,_,rfl,row3 (Array.getElem?_eq_some_iff.1 hp).1 (by simp[World.cell?,hp]) (by simp[World.cell?,hp]) (by simp[World.cell?,hp]),hb⟩
theorem DR(d:Nd)(ka:Option Addr)(kc:Nat)(w:World)(h1:d.kind<1):Calls prog 148 #[ndV d ka kc] w (zK w none):=by
 have hi:prog.follows .mixedOrders=true:=by kernel_rfl
 unfold ndV;obtain⟨k,hk⟩:∃k,d.kind=k:=⟨_,rfl⟩
 rw[hk]at h1|-;clear hk;have n1:(k==1)=false:=by simp;omega
 have n2:(k==2)=false:=by simp;omega
 have n3:(k==3)=false:=by simp;omega
 have n32:(k==32)=false:=by simp;omega
 have n45:(k==45)=false:=by simp;omega
 have n4:(k==4)=false:=by simp;omega
 have n5:(k==5)=false:=by simp;omega
 have n19:(k==19)=false:=by simp;omega
 have n20:(k==20)=false:=by simp;omega
 have n21:(k==21)=false:=by simp;omega
 have n22:(k==22)=false:=by simp;omega
 have n25:(k==25)=false:=by simp;omega
 have n43:(k==43)=false:=by simp;omega
 have n44:(k==44)=false:=by simp;omega
 have n24:(k==24)=false:=by simp;omega
 have n26:(k==26)=false:=by simp;omega
 have n30:(k==30)=false:=by simp;omega
 have n31:(k==31)=false:=by simp;omega
 have n33:(k==33)=false:=by simp;omega
 have n34:(k==34)=false:=by simp;omega
 have n40:(k==40)=false:=by simp;omega
 have n41:(k==41)=false:=by simp;omega
 have n42:(k==42)=false:=by simp;omega
 have n46:(k==46)=false:=by simp;omega
 have n23:(k==23)=false:=by simp;omega
 have n6:¬6<=k:=by omega
 have d6:decide (6<=k)=false:=by simp;omega
 go_enter func148,ntmps148;go_wp2;refine oT (Ahead w k) ⟨by go_simp,⟨by go_simp,by go_simp,by go_simp;rfl⟩,((show Below (w.heap.size+1+1) ((w.alloc (.cells #[.int .u8 k,strV d.text,intV d.n,.slice ka d.kids.length kc,intV d.pos] 31)).alloc (.cells #[.bool false,intV 0,intV 0,.slice none 0 0] 200)) _ from by go_grown).block (w.heap.size+1) (by omega)).trans (by have:=heap_alloc_new (w.alloc (.cells #[.int .u8 k,strV d.text,intV d.n,.slice ka d.kids.length kc,intV d.pos] 31)) (.cells #[.bool false,intV 0,intV 0,.slice none 0 0] 200);rwa[World.size_alloc]at this),by go_grown,by simp⟩ ?_;intro W0 hA;have HA:=Hd hA;obtain⟨_,_,hl,hd,hj⟩:=hA;have ha:w.heap.size+1<W0.heap.size:=by omega
 have Ha:=Hd hd;clear hd hj;refine N.region_M 18 hi (by kernel_rfl) (by kernel_rfl) rfl (by kernel_rfl) (by kernel_rfl) (fun _ _=>False) N.Pans.no (SJs w W0) (SKs w) ⟨N.Off.of_below (brf.drew),.inl hl⟩ [.fix ?vS0,.fix ?vS1,.dep [] (N.NewS W0.heap.size #[intV 2,intV 2,PK.V .expr] 234 1),.dep [2] (fun l v _=>v=.agg #[.bool false,intV 0,intV 0,l.getD 0 undef]),.fix ?vS4,.fix ?vS5,.fix ?vS6,.fix ?vS7,.fix undef,.fix undef,.fix undef,.fix ?vS11,.fix ?vS12,.fix ?vS13,.fix ?vS14,.fix ?vS15,.fix ?vS16,.dep [] (fun _ _ W=>W.heap[w.heap.size+1]?≠some ZS)] [[],[],[],[2],[],[],[],[],[],[],[],[],[],[],[],[],[],[]] rfl (by kernel_rfl) (N.sts_kd ⟨trivial,trivial,N.NewS.stK ha,(fun _ _ _ _ _ h=>h),trivial,trivial,trivial,trivial,trivial,trivial,trivial,trivial,trivial,trivial,trivial,trivial,trivial,(fun _ _ _ _ hk h=>hk.2 h),trivial⟩) fun x=>?_;rotate_left 12;refine N.WalkM.fix ?s0 ?r0;case s0=>refine N.StepS.known rfl (fun _=>N.SK.refl _ _ _) ?_;intro W hJ hP;obtain⟨j0,j1,j2,j3⟩:=zq HA.o hJ;go_simp;try rfl
 simp only[N.pz];refine N.WalkM.fix ?s1 ?r1;case s1=>refine N.StepS.known rfl (fun _=>N.SK.refl _ _ _) ?_;intro W hJ hP;obtain⟨j0,j1,j2,j3⟩:=zq HA.o hJ;go_simp;try rfl
 simp only[N.pz];refine N.WalkM.dep ?s2 ?r2;case s2=>exact N.StepS.runs rfl (fun W hJ _=>⟨_,_,by(go_simp;try rfl),hJ.of_below ha (brf.alloc nlr _),N.SK.of_below (hJ.lt ha) (brf.alloc nlr _),⟨W.heap.size,rfl,hJ.1.size,heap_alloc_new _ _⟩⟩)
 simp only[N.pz];refine N.WalkM.dep ?s3 ?r3;case s3=>(refine N.StepS.call' (f:=183) (args:=#[x 2]) rfl ?_ ?_;(intro W hJ hP;(go_simp;try rfl));(intro W hJ hP;obtain⟨g,hg,_,_⟩:N.NewS W0.heap.size #[intV 2,intV 2,PK.V .expr] 234 1 [] (x 2) W:=hP 2 (by kernel_rfl);rw[hg];refine(lU _ _ _ _).mono ?_;rintro e w' ⟨rfl,hb⟩;exact⟨_,rfl,hJ.of_below ha hb,N.SK.of_below (hJ.lt ha) hb,by simp[hg]⟩))
 simp only[N.pz];refine N.WalkM.fix ?s4 ?r4;case s4=>refine N.StepS.known rfl (fun _=>N.SK.refl _ _ _) ?_;intro W hJ hP;obtain⟨j0,j1,j2,j3⟩:=zq HA.o hJ;go_simp;try rfl
 simp only[N.pz];refine N.WalkM.fix ?s5 ?r5;case s5=>refine N.StepS.known rfl (fun _=>N.SK.refl _ _ _) ?_;intro W hJ hP;obtain⟨j0,j1,j2,j3⟩:=zq HA.o hJ;go_simp;try rfl
 simp only[N.pz];refine N.WalkM.fix ?s6 ?r6;case s6=>refine N.StepS.known rfl (fun _=>N.SK.refl _ _ _) ?_;intro W hJ hP;obtain⟨j0,j1,j2,j3⟩:=zq HA.o hJ;go_simp;try rfl
 simp only[N.pz];refine N.WalkM.fix ?s7 ?r7;case s7=>refine N.StepS.known rfl (fun _=>N.SK.refl _ _ _) ?_;intro W hJ hP;obtain⟨j0,j1,j2,j3⟩:=zq HA.o hJ;go_simp;try rfl
 simp only[N.pz];refine N.WalkM.fix ?s8 ?r8;case s8=>exact N.StepS.skip rfl (fun _=>N.SK.refl _ _ _) (fun _ _ _=>rfl)
 simp only[N.pz];refine N.WalkM.fix ?s9 ?r9;case s9=>exact N.StepS.skip rfl (fun _=>N.SK.refl _ _ _) (fun _ _ _=>rfl)
 simp only[N.pz];refine N.WalkM.fix ?s10 ?r10;case s10=>exact N.StepS.skip rfl (fun _=>N.SK.refl _ _ _) (fun _ _ _=>rfl)
 simp only[N.pz];refine N.WalkM.fix ?s11 ?r11;case s11=>refine N.StepS.known rfl (fun _=>N.SK.refl _ _ _) ?_;intro W hJ hP;obtain⟨j0,j1,j2,j3⟩:=zq HA.o hJ;go_simp;try rfl
 simp only[N.pz];refine N.WalkM.fix ?s12 ?r12;case s12=>refine N.StepS.known rfl (fun _=>N.SK.refl _ _ _) ?_;intro W hJ hP;obtain⟨j0,j1,j2,j3⟩:=zq HA.o hJ;go_simp;try rfl
 simp only[N.pz];refine N.WalkM.fix ?s13 ?r13;case s13=>refine N.StepS.known rfl (fun _=>N.SK.refl _ _ _) ?_;intro W hJ hP;obtain⟨j0,j1,j2,j3⟩:=zq HA.o hJ;go_simp;try rfl
 simp only[N.pz];refine N.WalkM.fix ?s14 ?r14;case s14=>refine N.StepS.known rfl (fun _=>N.SK.refl _ _ _) ?_;intro W hJ hP;obtain⟨j0,j1,j2,j3⟩:=zq HA.o hJ;go_simp;try rfl
 simp only[N.pz];refine N.WalkM.fix ?s15 ?r15;case s15=>refine N.StepS.known rfl (fun _=>N.SK.refl _ _ _) ?_;intro W hJ hP;obtain⟨j0,j1,j2,j3⟩:=zq HA.o hJ;go_simp;try rfl
 simp only[N.pz];refine N.WalkM.fix ?s16 ?r16;case s16=>refine N.StepS.known rfl (fun _=>N.SK.refl _ _ _) ?_;intro W hJ hP;obtain⟨j0,j1,j2,j3⟩:=zq HA.o hJ;go_simp;try rfl
 simp only[N.pz];refine N.WalkM.dep ?s17 ?r17;case s17=>(refine .inl ⟨rfl,fun W hJ hP=>?_⟩;obtain⟨g,hg,hf,hh⟩:N.NewS W0.heap.size #[intV 2,intV 2,PK.V .expr] 234 1 [] (x 2) W:=hP 2 (by kernel_rfl);have h3:x 3=.agg #[.bool false,intV 0,intV 0,[x 2].getD 0 undef]:=hP 3 (by kernel_rfl);refine oR (g:=g) ha hf hh hJ (.tmp 2) (.tmp 118) rfl rfl rfl ?_;refine Eq.trans (b:=x 3) rfl ?_;rw[h3,hg];rfl)
 simp only[N.pz];refine N.WalkM.nil fun W hJ hH=>?_;have he:W.heap[w.heap.size+1]?≠some ZS:=hH 17;obtain⟨hc,hz|⟨g,hg,hx,hp⟩⟩:=hJ
 .exact(he hz).elim
 have hb:Below w.heap.size w W:=Ha.o.trans (hc.below (by omega) Ha.o.size);have u0:W.cell? ⟨w.heap.size+1,0,none⟩=some (.bool false):=by simp[World.cell?,hx]
 have u1:W.cell? ⟨w.heap.size+1,1,none⟩=some (intV 0):=by simp[World.cell?,hx]
 have u2:W.cell? ⟨w.heap.size+1,2,none⟩=some (intV 0):=by simp[World.cell?,hx]
 have u3:W.cell? ⟨w.heap.size+1,3,none⟩=some (.slice (some ⟨g,0,none⟩) 1 1):=by simp[World.cell?,hx]
 clear he hH hc hx;go_wp2;refine bodyPost_ret (v:=.tuple #[.agg #[.bool false,intV 0,intV 0,.slice (some ⟨g,0,none⟩) 1 1],.bool false]) (by simp[results,results148,go_sem,loadVar,u0,u1,u2,u3,Result.andThen]) rfl ⟨_,_,_,rfl,hb⟩
theorem yE(d:Nd)(ka:Option Addr)(kc:Nat)(w:World)(h1:26<d.kind)(h2:okK d.kind=false):Calls prog 148 #[ndV d ka kc] w (zK w none):=by
 have hi:prog.follows .mixedOrders=true:=by kernel_rfl
 unfold ndV;obtain⟨k,hk⟩:∃k,d.kind=k:=⟨_,rfl⟩
 rw[hk]at h1 h2|-;clear hk;have h3:¬(okK k=true):=by rw[h2];exact Bool.false_ne_true
 simp[okK,zn,cH,cS]at h3;have n1:(k==1)=false:=by simp;omega
 have n2:(k==2)=false:=by simp;omega
 have n3:(k==3)=false:=by simp;omega
 have n32:(k==32)=false:=by simp;omega
 have n45:(k==45)=false:=by simp;omega
 have n4:(k==4)=false:=by simp;omega
 have n5:(k==5)=false:=by simp;omega
 have n19:(k==19)=false:=by simp;omega
 have n20:(k==20)=false:=by simp;omega
 have n21:(k==21)=false:=by simp;omega
 have n22:(k==22)=false:=by simp;omega
 have n25:(k==25)=false:=by simp;omega
 have n43:(k==43)=false:=by simp;omega
 have n44:(k==44)=false:=by simp;omega
 have n24:(k==24)=false:=by simp;omega
 have n26:(k==26)=false:=by simp;omega
 have n30:(k==30)=false:=by simp;omega
 have n31:(k==31)=false:=by simp;omega
 have n33:(k==33)=false:=by simp;omega
 have n34:(k==34)=false:=by simp;omega
 have n40:(k==40)=false:=by simp;omega
 have n41:(k==41)=false:=by simp;omega
 have n42:(k==42)=false:=by simp;omega
 have n46:(k==46)=false:=by simp;omega
 have n18:¬k<=18:=by omega
 have d18:decide (k<=18)=false:=by simp;omega
 have n23:(k==23)=false:=by simp;omega
 have n6:6<=k:=by omega
 clear h2;clear h3;go_enter func148,ntmps148;go_wp2;refine oT (Ahead w k) ⟨by go_simp,⟨by go_simp,by go_simp,by go_simp;rfl⟩,((show Below (w.heap.size+1+1) ((w.alloc (.cells #[.int .u8 k,strV d.text,intV d.n,.slice ka d.kids.length kc,intV d.pos] 31)).alloc (.cells #[.bool false,intV 0,intV 0,.slice none 0 0] 200)) _ from by go_grown).block (w.heap.size+1) (by omega)).trans (by have:=heap_alloc_new (w.alloc (.cells #[.int .u8 k,strV d.text,intV d.n,.slice ka d.kids.length kc,intV d.pos] 31)) (.cells #[.bool false,intV 0,intV 0,.slice none 0 0] 200);rwa[World.size_alloc]at this),by go_grown,by simp⟩ ?_;intro W0 hA;have HA:=Hd hA;obtain⟨_,_,hl,hd,hj⟩:=hA;have ha:w.heap.size+1<W0.heap.size:=by omega
 have Ha:=Hd hd;clear hd hj;refine N.region_M 18 hi (by kernel_rfl) (by kernel_rfl) rfl (by kernel_rfl) (by kernel_rfl) (fun _ _=>False) N.Pans.no (SJs w W0) (SKs w) ⟨N.Off.of_below (brf.drew),.inl hl⟩ [.fix ?vS0,.fix ?vS1,.dep [] (N.NewS W0.heap.size #[intV 2,intV 2,PK.V .expr] 234 1),.dep [2] (fun l v _=>v=.agg #[.bool false,intV 0,intV 0,l.getD 0 undef]),.fix ?vS4,.fix ?vS5,.fix ?vS6,.fix ?vS7,.fix ?vS8,.fix ?vS9,.fix ?vS10,.fix ?vS11,.fix ?vS12,.fix ?vS13,.fix ?vS14,.fix ?vS15,.fix ?vS16,.dep [] (fun _ _ W=>W.heap[w.heap.size+1]?≠some ZS)] [[],[],[],[2],[],[],[],[],[],[],[],[],[],[],[],[],[],[]] rfl (by kernel_rfl) (N.sts_kd ⟨trivial,trivial,N.NewS.stK ha,(fun _ _ _ _ _ h=>h),trivial,trivial,trivial,trivial,trivial,trivial,trivial,trivial,trivial,trivial,trivial,trivial,trivial,(fun _ _ _ _ hk h=>hk.2 h),trivial⟩) fun x=>?_;rotate_left 15;refine N.WalkM.fix ?s0 ?r0;case s0=>refine N.StepS.known rfl (fun _=>N.SK.refl _ _ _) ?_;intro W hJ hP;obtain⟨j0,j1,j2,j3⟩:=zq HA.o hJ;go_simp;try rfl
 simp only[N.pz];refine N.WalkM.fix ?s1 ?r1;case s1=>refine N.StepS.known rfl (fun _=>N.SK.refl _ _ _) ?_;intro W hJ hP;obtain⟨j0,j1,j2,j3⟩:=zq HA.o hJ;go_simp;try rfl
 simp only[N.pz];refine N.WalkM.dep ?s2 ?r2;case s2=>exact N.StepS.runs rfl (fun W hJ _=>⟨_,_,by(go_simp;try rfl),hJ.of_below ha (brf.alloc nlr _),N.SK.of_below (hJ.lt ha) (brf.alloc nlr _),⟨W.heap.size,rfl,hJ.1.size,heap_alloc_new _ _⟩⟩)
 simp only[N.pz];refine N.WalkM.dep ?s3 ?r3;case s3=>(refine N.StepS.call' (f:=183) (args:=#[x 2]) rfl ?_ ?_;(intro W hJ hP;(go_simp;try rfl));(intro W hJ hP;obtain⟨g,hg,_,_⟩:N.NewS W0.heap.size #[intV 2,intV 2,PK.V .expr] 234 1 [] (x 2) W:=hP 2 (by kernel_rfl);rw[hg];refine(lU _ _ _ _).mono ?_;rintro e w' ⟨rfl,hb⟩;exact⟨_,rfl,hJ.of_below ha hb,N.SK.of_below (hJ.lt ha) hb,by simp[hg]⟩))
 simp only[N.pz];refine N.WalkM.fix ?s4 ?r4;case s4=>refine N.StepS.known rfl (fun _=>N.SK.refl _ _ _) ?_;intro W hJ hP;obtain⟨j0,j1,j2,j3⟩:=zq HA.o hJ;go_simp;try rfl
 simp only[N.pz];refine N.WalkM.fix ?s5 ?r5;case s5=>refine N.StepS.known rfl (fun _=>N.SK.refl _ _ _) ?_;intro W hJ hP;obtain⟨j0,j1,j2,j3⟩:=zq HA.o hJ;go_simp;try rfl
 simp only[N.pz];refine N.WalkM.fix ?s6 ?r6;case s6=>refine N.StepS.known rfl (fun _=>N.SK.refl _ _ _) ?_;intro W hJ hP;obtain⟨j0,j1,j2,j3⟩:=zq HA.o hJ;go_simp;try rfl
 simp only[N.pz];refine N.WalkM.fix ?s7 ?r7;case s7=>refine N.StepS.known rfl (fun _=>N.SK.refl _ _ _) ?_;intro W hJ hP;obtain⟨j0,j1,j2,j3⟩:=zq HA.o hJ;go_simp;try rfl
 simp only[N.pz];refine N.WalkM.fix ?s8 ?r8;case s8=>refine N.StepS.known rfl (fun _=>N.SK.refl _ _ _) ?_;intro W hJ hP;obtain⟨j0,j1,j2,j3⟩:=zq HA.o hJ;go_simp;try rfl
 simp only[N.pz];refine N.WalkM.fix ?s9 ?r9;case s9=>refine N.StepS.known rfl (fun _=>N.SK.refl _ _ _) ?_;intro W hJ hP;obtain⟨j0,j1,j2,j3⟩:=zq HA.o hJ;go_simp;try rfl
 simp only[N.pz];refine N.WalkM.fix ?s10 ?r10;case s10=>refine N.StepS.known rfl (fun _=>N.SK.refl _ _ _) ?_;intro W hJ hP;obtain⟨j0,j1,j2,j3⟩:=zq HA.o hJ;go_simp;try rfl
 simp only[N.pz];refine N.WalkM.fix ?s11 ?r11;case s11=>refine N.StepS.known rfl (fun _=>N.SK.refl _ _ _) ?_;intro W hJ hP;obtain⟨j0,j1,j2,j3⟩:=zq HA.o hJ;go_simp;try rfl
 simp only[N.pz];refine N.WalkM.fix ?s12 ?r12;case s12=>refine N.StepS.known rfl (fun _=>N.SK.refl _ _ _) ?_;intro W hJ hP;obtain⟨j0,j1,j2,j3⟩:=zq HA.o hJ;go_simp;try rfl
 simp only[N.pz];refine N.WalkM.fix ?s13 ?r13;case s13=>refine N.StepS.known rfl (fun _=>N.SK.refl _ _ _) ?_;intro W hJ hP;obtain⟨j0,j1,j2,j3⟩:=zq HA.o hJ;go_simp;try rfl
 simp only[N.pz];refine N.WalkM.fix ?s14 ?r14;case s14=>refine N.StepS.known rfl (fun _=>N.SK.refl _ _ _) ?_;intro W hJ hP;obtain⟨j0,j1,j2,j3⟩:=zq HA.o hJ;go_simp;try rfl
 simp only[N.pz];refine N.WalkM.fix ?s15 ?r15;case s15=>refine N.StepS.known rfl (fun _=>N.SK.refl _ _ _) ?_;intro W hJ hP;obtain⟨j0,j1,j2,j3⟩:=zq HA.o hJ;go_simp;try rfl
 simp only[N.pz];refine N.WalkM.fix ?s16 ?r16;case s16=>refine N.StepS.known rfl (fun _=>N.SK.refl _ _ _) ?_;intro W hJ hP;obtain⟨j0,j1,j2,j3⟩:=zq HA.o hJ;go_simp;try rfl
 simp only[N.pz];refine N.WalkM.dep ?s17 ?r17;case s17=>(refine .inl ⟨rfl,fun W hJ hP=>?_⟩;obtain⟨g,hg,hf,hh⟩:N.NewS W0.heap.size #[intV 2,intV 2,PK.V .expr] 234 1 [] (x 2) W:=hP 2 (by kernel_rfl);have h3:x 3=.agg #[.bool false,intV 0,intV 0,[x 2].getD 0 undef]:=hP 3 (by kernel_rfl);refine oR (g:=g) ha hf hh hJ (.tmp 2) (.tmp 118) rfl rfl rfl ?_;refine Eq.trans (b:=x 3) rfl ?_;rw[h3,hg];rfl)
 simp only[N.pz];refine N.WalkM.nil fun W hJ hH=>?_;have he:W.heap[w.heap.size+1]?≠some ZS:=hH 17;obtain⟨hc,hz|⟨g,hg,hx,hp⟩⟩:=hJ
 .exact(he hz).elim
 have hb:Below w.heap.size w W:=Ha.o.trans (hc.below (by omega) Ha.o.size);have u0:W.cell? ⟨w.heap.size+1,0,none⟩=some (.bool false):=by simp[World.cell?,hx]
 have u1:W.cell? ⟨w.heap.size+1,1,none⟩=some (intV 0):=by simp[World.cell?,hx]
 have u2:W.cell? ⟨w.heap.size+1,2,none⟩=some (intV 0):=by simp[World.cell?,hx]
 have u3:W.cell? ⟨w.heap.size+1,3,none⟩=some (.slice (some ⟨g,0,none⟩) 1 1):=by simp[World.cell?,hx]
 clear he hH hc hx;go_wp2;refine bodyPost_ret (v:=.tuple #[.agg #[.bool false,intV 0,intV 0,.slice (some ⟨g,0,none⟩) 1 1],.bool false]) (by simp[results,results148,go_sem,loadVar,u0,u1,u2,u3,Result.andThen]) rfl ⟨_,_,_,rfl,hb⟩
theorem row9{w:World}{b:Nat}{x0 x1 x2 x3 x4 x5 x6 x7 x8:Value}(hb:b<w.heap.size)(h0:w.cell? ⟨b,0,none⟩=some x0)(h1:w.cell? ⟨b,1,none⟩=some x1)(h2:w.cell? ⟨b,2,none⟩=some x2)(h3:w.cell? ⟨b,3,none⟩=some x3)(h4:w.cell? ⟨b,4,none⟩=some x4)(h5:w.cell? ⟨b,5,none⟩=some x5)
 (h6:w.cell? ⟨b,6,none⟩=some x6)(h7:w.cell? ⟨b,7,none⟩=some x7)(h8:w.cell? ⟨b,8,none⟩=some x8):Row 3 w (some ⟨b,0,none⟩) 3 3 [x0,x1,x2,x3,x4,x5,x6,x7,x8]:=
 ⟨rfl,nlr,(fun h=>by cases h),.inr ⟨b,0,rfl,hb,fun i hi=>by
  match i,hi with
  |0,_=>exact h0
  |1,_=>exact h1
  |2,_=>exact h2
  |3,_=>exact h3
  |4,_=>exact h4
  |5,_=>exact h5
  |6,_=>exact h6
  |7,_=>exact h7
  |8,_=>exact h8⟩⟩
theorem LC{c:Code}{P:Program}{Q:Exit->Act->World->Prop}{a:Act}{w:World}(F:World->Prop)(hF:F w)(h:∀W,F W->c.wp P Q a W):c.wp P Q a w:=h w hF
theorem GE(d:Nd)(ka:Option Addr)(kc:Nat)(w:World)(hk:d.kind=42):Calls prog 148 #[ndV d ka kc] w (zK w (some ⟨true,0,9223372036854775807,[(0,801,.param),(1,1,.kind),(1,1,.expr)]⟩)):=by
 have hg:prog.follows .mixedOrders=true:=by kernel_rfl
 unfold ndV;rw[hk];clear hk;go_enter func148,ntmps148;go_wp2
 refine LC (fun W=>(W.cell? ⟨w.heap.size+1+1+1+1+1,0,none⟩=some (intV 1)/\W.cell? ⟨w.heap.size+1+1+1+1+1,1,none⟩=some (intV 1)/\W.cell? ⟨w.heap.size+1+1+1+1+1,2,none⟩=some (PK.V .expr)) /\
  (W.cell? ⟨w.heap.size+1,0,none⟩=some (.bool false)/\W.cell? ⟨w.heap.size+1,1,none⟩=some (intV 0)/\W.cell? ⟨w.heap.size+1,2,none⟩=some (intV 0)/\W.cell? ⟨w.heap.size+1,3,none⟩=some (.slice none 0 0))/\(W.frozen? ⟨w.heap.size+1,0,none⟩=false/\W.frozen? ⟨w.heap.size+1,1,none⟩=false/\W.frozen? ⟨w.heap.size+1,2,none⟩=false/\W.frozen? ⟨w.heap.size+1,3,none⟩=false)/\Below w.heap.size w W/\w.heap.size+1+1+1+1+1<W.heap.size)
  ⟨⟨by go_simp,by go_simp,by go_simp;rfl⟩,⟨by go_simp,by go_simp,by go_simp,by go_simp⟩,⟨by go_simp,by go_simp,by go_simp,by go_simp⟩,by go_grown,by simp⟩ ?_
 rintro W0⟨⟨p0,p1,p2⟩,⟨r0,r1,r2,r3⟩,⟨f0,f1,f2,f3⟩,hf,hh⟩;have ha:w.heap.size+1<W0.heap.size:=by omega
 have Ha:=Hd hf;clear hf;refine N.region_JTm 3 hg (by kernel_rfl) (by kernel_rfl) rfl (by kernel_rfl) (by kernel_rfl) (fun Wz=>Below (W0).heap.size (W0) Wz) (brf.drew) ?_;refine N.WalkT.cons ?_ (N.StepP.pure rfl ?_) ?_;rotate_left;(intro W hJ;obtain⟨hc,hd⟩:=bcell hJ;go_simp;rfl);simp only[N.pz];refine N.WalkT.cons (.agg #[intV 1,intV 1,PK.V .kind]) (N.StepP.call (f:=181) (args:=#[intV 1,PK.V .kind]) rfl ?hG1_1 ?cG1_1) ?rG1_1;case hG1_1=>intro W hJ;obtain⟨hc,hd⟩:=bcell hJ;go_simp;try rfl
 case cG1_1=>intro W hJ;(refine(FO 1 (PK.V .kind) W ⟨_,rfl⟩).mono ?_;rintro e w' ⟨rfl,hb⟩;exact⟨rfl,hJ.trans (hb.mono hJ.size)⟩)
 simp only[N.pz];refine N.WalkT.cons ?_ (N.StepP.pure rfl ?_) ?_;rotate_left;(intro W hJ;obtain⟨hc,hd⟩:=bcell hJ;go_simp;rfl);simp only[N.pz];refine N.WalkT.nil fun W hJ=>?_;obtain⟨hc,hd⟩:=bcell hJ;have q0:=(hc _ 0 ha).trans r0;have q1:=(hc _ 1 ha).trans r1;have q2:=(hc _ 2 ha).trans r2;have q3:=(hc _ 3 ha).trans r3;have g0:=(hd _ 0 ha).trans f0;have g1:=(hd _ 1 ha).trans f1;have g2:=(hd _ 2 ha).trans f2;have g3:=(hd _ 3 ha).trans f3;have HB:=Hd (Ha.o.trans (hJ.mono Ha.o.size));have hi:=hJ.size;have he:w.heap.size+1<W.heap.size:=by omega
 clear hc hd hJ r0 r1 r2 r3 f0 f1 f2 f3 p0 p1 p2;go_wp2;refine bodyPost_ret (v:=.tuple #[.agg #[.bool true,intV 0,intV 9223372036854775807,.slice (some ⟨W.heap.size,0,none⟩) 3 3],.bool true]) (by simp[results,results148,go_sem,loadVar,q0,q1,q2,q3,he,Result.andThen]) rfl ⟨_,_,rfl,row9 (by simp) (by go_simp) (by go_simp) (by go_simp;try rfl) (by go_simp) (by go_simp) (by go_simp) (by go_simp) (by go_simp) (by go_simp),?_⟩;exact((((HB.o.setCell (by simp) _).setCell (by simp) _).setCell (by simp) _).setCell (by simp) _).alloc (by simp;omega) _
theorem DQ(d:Nd)(ka:Option Addr)(kc:Nat)(w:World):Calls prog 148 #[ndV d ka kc] w (zK w (fV d.kind d.n)):=by
 cases ha:okK d.kind with
 | false=>
   rw[kO ha];have h':¬(okK d.kind=true):=by rw[ha];exact Bool.false_ne_true
   simp[okK,zn,cH,cS]at h';by_cases h1:d.kind<1
   .exact DR d ka kc w h1
   .exact yE d ka kc w (by omega) ha
 | true=>
   rcases oQ ha with h|h|h|h|h|h|h|h|h|h|h|h|h|h|h|h|h|h|h|h|h|h|h|h|h|h|h|h|h|h|h|h|h|h|h|h|h|h
   .have e:=LH d ka kc w h;rw[h];exact e
   .have e:=LI d ka kc w h;rw[h];exact e
   .have e:=LJ d ka kc w h;rw[h];exact e
   .have e:=LK d ka kc w h;rw[h];exact e
   .have e:=LL d ka kc w h;rw[h];exact e
   .have e:=aV d ka kc w (by rw[h];decide) (by rw[h];decide);rw[h];exact e
   .have e:=aV d ka kc w (by rw[h];decide) (by rw[h];decide);rw[h];exact e
   .have e:=aV d ka kc w (by rw[h];decide) (by rw[h];decide);rw[h];exact e
   .have e:=aV d ka kc w (by rw[h];decide) (by rw[h];decide);rw[h];exact e
   .have e:=aV d ka kc w (by rw[h];decide) (by rw[h];decide);rw[h];exact e
   .have e:=aV d ka kc w (by rw[h];decide) (by rw[h];decide);rw[h];exact e
   .have e:=aV d ka kc w (by rw[h];decide) (by rw[h];decide);rw[h];exact e
   .have e:=aV d ka kc w (by rw[h];decide) (by rw[h];decide);rw[h];exact e
   .have e:=aV d ka kc w (by rw[h];decide) (by rw[h];decide);rw[h];exact e
   .have e:=aV d ka kc w (by rw[h];decide) (by rw[h];decide);rw[h];exact e
   .have e:=aV d ka kc w (by rw[h];decide) (by rw[h];decide);rw[h];exact e
   .have e:=aV d ka kc w (by rw[h];decide) (by rw[h];decide);rw[h];exact e
   .have e:=aV d ka kc w (by rw[h];decide) (by rw[h];decide);rw[h];exact e
   .have e:=FQ d ka kc w h;rw[h];exact e
   .have e:=FR d ka kc w h;rw[h];exact e
   .have e:=FS d ka kc w h;rw[h];exact e
   .have e:=FT d ka kc w h;rw[h];exact e
   .have e:=uV d ka kc w h;rw[h];exact e
   .have e:=FU d ka kc w h;rw[h];exact e
   .have e:=FV d ka kc w h;rw[h];exact e
   .have e:=FW d ka kc w h;rw[h];exact e
   .have e:=FX d ka kc w h;rw[h];exact e
   .have e:=FY d ka kc w h;rw[h];exact e
   .have e:=FZ d ka kc w h;rw[h];exact e
   .have e:=GA d ka kc w h;rw[h];exact e
   .have e:=GB d ka kc w h;rw[h];exact e
   .have e:=GC d ka kc w h;rw[h];exact e
   .have e:=GD d ka kc w h;rw[h];exact e
   .have e:=GE d ka kc w h;rw[h];exact e
   .have e:=GF d ka kc w h;rw[h];exact e
   .have e:=GH d ka kc w h;rw[h];exact e
   .have e:=GI d ka kc w h;rw[h];exact e
   .rw[h]
    by_cases h7:d.n=7
    .rw[h7];exact yC d ka kc w h h7
    .by_cases h8:d.n=8
     .rw[h8];exact yD d ka kc w h h8
     .have e:fV 46 d.n=some ⟨false,1,8,[(1,1,.expr)]⟩:=by
       show some (askP d.n)=_
       unfold askP;rw[if_neg (by simpa using h7),if_neg (by simpa using h8)]
      rw[e];exact GJ d ka kc w h h7 h8
abbrev u8V(n:Int):Value:=.int .u8 n
abbrev u8sV(l:List Int):List Value:=l.map u8V
abbrev U8s(w:World)(a:Option Addr)(c:Nat)(l:List Int):Prop:=Row 1 w a l.length c (u8sV l)
theorem U8s.at{w:World}{a:Option Addr}{c:Nat}{l:List Int}(h:U8s w a c l){i:Nat}(hi:i<l.length):∃b o,a=some ⟨b,o,none⟩/\b<w.heap.size/\w.cell? ⟨b,o+i,none⟩=some (u8V l[i]):=by
 obtain⟨b,o,rfl,hb,hc⟩:=h.some (by omega);exact⟨b,o,rfl,hb,by rw[hc i (by simpa using hi)];simp⟩
theorem Parts.at{w:World}{a:Option Addr}{c:Nat}{l:List Part}(h:Parts w a c l){i:Nat}(hi:i<l.length) :
 ∃b o,a=some ⟨b,o,none⟩/\b<w.heap.size/\w.cell? ⟨b,o+i*3,none⟩=some (intV l[i].1)/\w.cell? ⟨b,o+i*3+1,none⟩=some (intV l[i].2.1)/\w.cell? ⟨b,o+i*3+2,none⟩=some l[i].2.2.V:=by
 obtain⟨b,o,rfl,hb,hc⟩:=h.some (by omega);have hl:=mL l
 have key:∀(l:List Part) (i:Nat) (hi:i<l.length) (j:Nat),j<3->(iV l)[i*3+j]?=(tU l[i])[j]?:=by
  intro l
  induction l with
  |nil=>intro i hi;simp at hi
  | cons p r ih=>
    intro i hi j hj
    cases i with
    | zero=>
      simp only[iV,Nat.zero_mul,Nat.zero_add,List.getElem_cons_zero];rw[List.getElem?_append_left (by simp[tU];omega)]
    | succ i=>
      simp only[iV,List.getElem_cons_succ];rw[List.getElem?_append_right (by simp[tU];omega),<-ih i (by simpa using hi) j hj];congr 1;simp[tU];omega
 have k2:∀j,j<3->w.cell? ⟨b,o+i*3+j,none⟩=(tU l[i])[j]?:=by
  intro j hj;have ha:i*3+j<(iV l).length:=by omega
  rw[Nat.add_assoc,hc _ ha,<-key l i hi j hj,List.getElem?_eq_getElem ha]
 exact⟨b,o,rfl,hb,k2 0 (by omega),k2 1 (by omega),k2 2 (by omega)⟩
theorem DP(p:PK)(n:Int)(b:Nat)(w:World)(hc:w.cell? ⟨b,2,none⟩=some p.V) :
 Calls prog 191 #[u8V n,.pointer (some ⟨b,0,none⟩)] w fun e w'=>e=.returned (.bool (!p.B n))/\w=w':=by
 cases p<;>simp only[PK.V,PK.F]at hc<;>simp only[PK.B]
 .go_enter func191,ntmps191
  go_wp2_with (go_at_call 182;refine(uR _ _).mono ?_;rintro e w' ⟨rfl,rfl⟩)
  go_ret;exact⟨rfl,rfl⟩
 .go_enter func191,ntmps191
  go_wp2_with (go_at_call 186;refine(uT _ _).mono ?_;rintro e w' ⟨rfl,rfl⟩)
  go_ret;exact⟨rfl,rfl⟩
 .go_enter func191,ntmps191
  go_wp2_with (go_at_call 188;refine(rW _ _).mono ?_;rintro e w' ⟨rfl,rfl⟩)
  go_ret;exact⟨rfl,rfl⟩
 .go_enter func191,ntmps191
  go_wp2_with (go_at_call 185;refine(BE _ _).mono ?_;rintro e w' ⟨rfl,rfl⟩)
  go_ret;exact⟨rfl,rfl⟩
 .go_enter func191,ntmps191
  go_wp2_with (go_at_call 187;refine(BC _ _).mono ?_;rintro e w' ⟨rfl,rfl⟩)
  go_ret;exact⟨rfl,rfl⟩
def idxP(l:List Int)(p:Int->Bool):Int:=first (fun i=>(l[i]?.map p).getD false) l.length 0
theorem vP(l:List Int)(p:Int->Bool):decide (0<=idxP l p)=l.any p:=by
 rw[Bool.eq_iff_iff,decide_eq_true_eq];unfold idxP;have h:=gF (fun i=>(l[i]?.map p).getD false) l.length;rw[h];constructor
 .intro h1
  rw[List.any_eq_true];apply Classical.byContradiction;intro ha;rw[Bool.eq_false_iff]at h1;apply h1;rw[List.all_eq_true];intro i hi;have hi:=List.mem_range.1 hi;simp only[List.getElem?_eq_getElem hi,Option.map_some,Option.getD_some,Bool.not_eq_true'];cases hp:p l[i]with
  |false=>rfl
  |true=>exact(ha ⟨_,List.getElem_mem hi,hp⟩).elim
 .intro h1
  obtain⟨x,hx,hp⟩:=List.any_eq_true.1 h1;obtain⟨i,hi,rfl⟩:=List.getElem_of_mem hx;rw[Bool.eq_false_iff];intro hc;have:=List.all_eq_true.1 hc i (List.mem_range.2 hi);simp[hi,hp]at this
theorem xR(p:PK)(b:Nat)(a:Option Addr)(c:Nat)(l:List Int)(w:World)(hl:l.length<=1000000000)(h:U8s w a c l)(hc:w.cell? ⟨b,2,none⟩=some p.V) :
 Calls prog 201 #[.slice a l.length c,.func (.func 191) #[] #[.pointer (some ⟨b,0,none⟩)]] w fun e w'=>e=.returned (intV (idxP l fun k=>!p.B k))/\w=w':=by
 have HR:=Hd h;have HP:=Hd (fun n=>DP p n b w hc);clear h hc;go_enter func201,ntmps201;go_wp2
 go_loop [8] (fun i=>∃k:Nat,k<=l.length/\i=.int .i64 k/\Hid (idxP l (fun k=>!p.B k)=first (fun i=>(l[i]?.map (fun k=>!p.B k)).getD false) l.length k)) (fun i=>l.length-(intOf i).toNat)
 case atStart=>exact⟨0,Nat.zero_le _,rfl,Hd rfl⟩
 case round=>
  obtain⟨k,hk,rfl,HA⟩:=hrel;by_cases hlt:k<l.length
  .obtain⟨b1,o1,rfl,hd,hb⟩:=U8s.at HR.o hlt
   obtain⟨x,hx⟩:∃x,l[k]=x:=⟨_,rfl⟩
   rw[hx]at hb;have ha:(l[k]?.map (fun k=>!p.B k)).getD false = !p.B x:=by simp[hlt,hx]
   obtain⟨y,hy⟩:∃y,(!p.B x)=y:=⟨_,rfl⟩
   have HY:=Hd hy;have HG:=Hd (ha.trans hy);clear hx ha hy
   cases y with
   | true=>
     go_wp2_with (go_at_call 191;refine(HP.o x).mono ?_;rw[HY.o];rintro e w' ⟨rfl,rfl⟩)
     go_ret;exact⟨zP (by rw[HA.o];exact(zX hlt HG.o).symm),rfl⟩
   | false=>
     go_wp2_with (go_at_call 191;refine(HP.o x).mono ?_;rw[HY.o];rintro e w' ⟨rfl,rfl⟩)
     go_round
     case rel=>exact⟨k+1,by omega,by go_num,Hd (by rw[HA.o];exact bV hlt HG.o)⟩
     case measure=>simp[intOf];omega
  .go_wp2
   go_ret;exact⟨zP (by rw[HA.o];exact(bQ (by omega)).symm),rfl⟩
theorem rJ(p:PK)(b:Nat)(a:Option Addr)(c:Nat)(l:List Int)(w:World)(hl:l.length<=1000000000)(h:U8s w a c l)(hc:w.cell? ⟨b,2,none⟩=some p.V) :
 Calls prog 190 #[.slice a l.length c,.func (.func 191) #[] #[.pointer (some ⟨b,0,none⟩)]] w fun e w'=>e=.returned (.bool (!l.all p.B))/\w=w':=by
 have hx:(!l.all p.B)=decide (0<=idxP l fun k=>!p.B k):=by rw[vP,List.not_all_eq_any_not]
 rw[hx];have HC:=Hd (xR p b a c l w hl h hc);clear h hc hx;go_enter func190,ntmps190
 go_wp2_with (go_at_call 201;refine HC.o.mono ?_;rintro e w' ⟨rfl,rfl⟩)
 go_ret;exact⟨rfl,rfl⟩
theorem KW:prog.underlying 46=some (.slice (prog.elem 46)):=by kernel_rfl
theorem CR(W:World):(sizeOf (prog.elem 46)).run prog W=.ok 1 W:=by kernel_rfl
theorem KU:prog.underlying 198=some (.slice (prog.elem 198)):=by kernel_rfl
theorem FA(W:World):(sizeOf (prog.elem 198)).run prog W=.ok 3 W:=by kernel_rfl
@[go_sem] theorem run_store_V {w:World}{a:Addr}{m:Mode}(p:PK):(store a p.V m).run prog w=stored prog w a p.V m:=run_store prog w a _ m rfl
def Small(ps:List Part):Prop:=ps.length<=3/\∀p∈ps,0<=p.1/\p.1<=801
theorem AP{k n:Int}{s:Shape}(h:fV k n=some s):Small s.parts:=by
 have hb:okK k=true:=by
  cases hk:okK k with
  |true=>rfl
  |false=>rw[kO hk]at h;cases h
 have ha:Small (askP n).parts:=by
  unfold askP;split
  .exact⟨by decide,by simp⟩
  .split
   .exact⟨by decide,by simp⟩
   .exact⟨by decide,by simp⟩
 rcases oQ hb with rfl|rfl|rfl|rfl|rfl|rfl|rfl|rfl|rfl|rfl|rfl|rfl|rfl|rfl|rfl|rfl|rfl|rfl|rfl|rfl|rfl|rfl|rfl|rfl|rfl|rfl|rfl|rfl|rfl|rfl|rfl|rfl|rfl|rfl|rfl|rfl|rfl|rfl
 all_goals (simp[fV]at h)
 all_goals subst h
 all_goals first
  |exact ha
  |exact⟨by decide,by simp⟩
theorem qW:∀(ps:List Part) (j:Nat),(iV ps).drop (j*3)=iV (ps.drop j)
 | [],j=>by simp[iV]
 |p::r,0=>by simp
 | p::r,j+1=>by
   simp only[iV,List.drop_succ_cons];rw[show(j+1)*3=(tU p).length+j*3 by simp[tU];omega,List.drop_append];simp[qW r j]
theorem AC{ps:List Part}{j:Nat}(h:j<ps.length):leasts (ps.drop j)=ps[j].1+leasts (ps.drop (j+1)):=by
 rw[List.drop_eq_getElem_cons h];rfl
theorem IT{ps:List Part}{j:Nat}(h:j<ps.length)(ks:List Int):eK (ps.drop j) ks=((zv ((ks.length:Int)-leasts (ps.drop (j+1))) ps[j].1 ps[j].2.1&&(ks.take ((ks.length:Int)-leasts (ps.drop (j+1))).toNat).all ps[j].2.2.B)&&eK (ps.drop (j+1)) (ks.drop ((ks.length:Int)-leasts (ps.drop (j+1))).toNat)):=by
 rw[List.drop_eq_getElem_cons h];rfl
abbrev boxS(w:World)(s:Shape)(a:Option Addr)(c:Nat):World:=w.alloc (.cells #[.bool s.named,intV s.lo,intV s.hi,.slice a s.parts.length c] 200)
theorem uS(s:Shape)(a:Option Addr)(c:Nat)(b:Option Addr)(cb:Nat)(ks:List Int)(w:World)(hs:Small s.parts)(hl:ks.length<=1000000000)(h:Parts w a c s.parts)(h2:U8s w b cb ks) :
 Calls prog 149 #[KA s a c,.slice b ks.length cb] w (zL w (eK s.parts ks)):=by
 have HP:=Hd h;have HU:=Hd h2;obtain⟨hN,hx⟩:=hs;have Hk:=Hd hx;clear h h2 hx;unfold KA;go_enter func149,ntmps149;go_wp2
 go_loopw [1,14] (fun t1 t14 wr=>∃(k:Nat) (b1:Option Addr) (c1:Nat) (q:List Int),t14=.int .i64 k/\t1=.slice b1 q.length c1/\k<=s.parts.length/\q.length<=1000000000/\Hid (eK s.parts ks=eK (s.parts.drop k) q)/\Hid (U8s wr b1 c1 q)/\Hid (Below (w.heap.size+1) (boxS w s a c) wr)) (fun _ i _=>s.parts.length-(intOf i).toNat)
 case atStart=>exact⟨0,b,cb,ks,rfl,rfl,Nat.zero_le _,hl,Hd rfl,Hd (Row.mono HU.o (brf.alloc nlr _) nlr),Hd brf⟩
 case round=>
  obtain⟨k,b1,c1,q,rfl,rfl,hk,hq,HF,HQ,HB⟩:=hrel;have hd:Below w.heap.size w wr:=((Below.refl _ w).alloc nlr _).trans (HB.o.mono (by omega));have hz:=HB.o.size;have hQ:w.heap.size<wr.heap.size:=by have:=hz;simp at this;omega
  have hJ:wr.cell? ⟨w.heap.size,3,none⟩=some (.slice a s.parts.length c):=(HB.o.cell (p:=⟨w.heap.size,3,none⟩) (by simp)).trans (by simp);by_cases hlt:k<s.parts.length
  .obtain⟨bp,op,rfl,hH,p0,p1,p2⟩:=Parts.at (HP.o.mono hd nlr) hlt
   obtain⟨sa,sc,hy,ha⟩:=KM (P:=prog) (T:=198) (HP.o.mono hd nlr) KU FA ((k:Int)+1) (by omega) (by omega);have hD:((k:Int)+1).toNat=k+1:=by omega
   rw[hD]at hy ha;rw[qW]at ha;obtain⟨r,hr⟩:∃r,s.parts.drop (k+1)=r:=⟨_,rfl⟩
   have hi:r.length=s.parts.length-(k+1):=by rw[<-hr];simp
   obtain⟨m,hm⟩:∃m,s.parts.length-(k+1)=m:=⟨_,rfl⟩
   rw[hm]at hy ha hi;have hK:m<=3:=by omega
   have hv:∀p∈r,0<=p.1/\p.1<=801:=fun p hp=>Hk.o p (List.mem_of_mem_drop (hr▸hp));have hw:r.length=m:=hi;rw[hr]at ha;have Hl:=Hd (IT hlt q);obtain⟨p,hp⟩:∃p,s.parts[k]=p:=⟨_,rfl⟩
   have hM:=Hk.o p (hp▸List.getElem_mem hlt);rw[hp]at p0 p1 p2;have Hn:=Hd hp;have Hp:=Hd ha;have Hi:=Hd hd;have HR:=Hd hr;have Ho:=Hd hv;have Hh:=Hd hw;clear hp ha hz hr hv hi hm hw;go_wp2;rename World=>wk
   go_loopw [7,25] (fun t7 t25 wr=>∃(j:Nat) (x:Int),t25=.int .i64 j/\t7=.int .i64 x/\j<=m/\0<=x/\x<=801*j/\Hid (leasts r=x+leasts (r.drop j))/\Hid (Below (wk.heap.size+1) (wk.alloc (.cells #[intV p.1,intV p.2.1,p.2.2.V] 234)) wr)) (fun _ i _=>m-(intOf i).toNat)
   case atStart=>exact⟨0,0,rfl,rfl,Nat.zero_le _,Int.le_refl _,by omega,Hd (by simp),Hd brf⟩
   case round=>
    obtain⟨j,x,rfl,rfl,hj,hO,hP,HX,Hb⟩:=hrel;have hC:=Hb.o.size;have hG:wk.heap.size<wr.heap.size:=by simp at hC;omega
    have ho:Below wk.heap.size wk wr:=((Below.refl _ wk).alloc nlr _).trans (Hb.o.mono (by omega));have y0:wr.cell? ⟨wk.heap.size,0,none⟩=some (intV p.1):=(Hb.o.cell (p:=⟨wk.heap.size,0,none⟩) (by simp)).trans (by simp);have y1:wr.cell? ⟨wk.heap.size,1,none⟩=some (intV p.2.1):=(Hb.o.cell (p:=⟨wk.heap.size,1,none⟩) (by simp)).trans (by simp);have y2:wr.cell? ⟨wk.heap.size,2,none⟩=some p.2.2.V:=(Hb.o.cell (p:=⟨wk.heap.size,2,none⟩) (by simp)).trans (by simp);have Hc:=Hd ho;clear ho hC;by_cases hjt:j<m
    .have hg:j<r.length:=by rw[Hh.o];exact hjt
     obtain⟨br,or',e1,hI,z0,z1,z2⟩:=Parts.at (l:=r) (a:=sa) (c:=sc) (w:=wr) (by have:=Hp.o;rw[<-Hh.o]at this;exact Row.mono this Hc.o nlr) hg;subst e1;obtain⟨p',he⟩:∃p',r[j]=p':=⟨_,rfl⟩
     have hE:=Ho.o p' (he▸List.getElem_mem hg);have HL:=Hd (AC hg);rw[he]at z0 z1 z2;have Hm:=Hd he;clear he;go_wp2
     go_roundw
     case rel=>exact⟨j+1,x+p'.1,by go_num,rfl,by omega,by omega,by omega,Hd (by rw[HX.o,HL.o,Hm.o];omega),Hd (Hb.o.alloc (by omega) _)⟩
     case measure=>simp[intOf];omega
    .have hle:Hid (leasts r=x):=Hd (by rw[HX.o,List.drop_of_length_le (by rw[Hh.o];omega)];simp[leasts])
     have hf:Hid (eK (s.parts.drop k) q=((zv ((q.length:Int)-x) p.1 p.2.1&&(q.take ((q.length:Int)-x).toNat).all p.2.2.B)&&eK r (q.drop ((q.length:Int)-x).toNat))):=Hd (by rw[Hl.o,Hn.o,HR.o,hle.out])
     cases hin:zv ((q.length:Int)-x) p.1 p.2.1 with
     | false=>
       have Ha:=Hd hin;clear hin
       go_wp2_with (go_at_call 111;refine(zy _ _ _ _).mono ?_;rw[Ha.o];rintro e w' ⟨rfl,rfl⟩)
       go_ret;exact⟨ze (by rw[HF.o,hf.out,Ha.o];rfl),Hi.o.trans (Hc.o.mono (by omega))⟩
     | true=>
       have hF:=inRange_iff.1 hin;obtain⟨n,hn⟩:∃n:Nat,(q.length:Int)-x=n:=Int.eq_ofNat_of_zero_le (by omega);rw[hn]at hin;have Ha:=Hd hin;have HN:=Hd hn;have hL:n<=q.length:=by omega
       obtain⟨ua,uc,usl,usr⟩:=KK (P:=prog) (T:=46) (Row.mono (Row.mono HQ.o Hc.o nlr) brf nlr) KW CR (n:Int) (by omega) (by omega);obtain⟨va,vc,vsl,vsr⟩:=KM (P:=prog) (T:=46) (Row.mono (Row.mono HQ.o Hc.o nlr) brf nlr) KW CR (n:Int) (by omega) (by omega);have hh:(n:Int).toNat=n:=by omega
       rw[hh]at usl usr vsl vsr
       have hA:U8s wr ua uc (q.take n):=by
        have:Row 1 wr ua n uc ((u8sV q).take (n*1)):=usr;rw[Nat.mul_one,<-List.map_take]at this;have hl:(q.take n).length=n:=by simp;omega
        unfold U8s;rw[hl];exact this
       have hB:U8s wr va vc (q.drop n):=by
        have:Row 1 wr va (q.length-n) vc ((u8sV q).drop (n*1)):=vsr;rw[Nat.mul_one,<-List.map_drop]at this;have hl:(q.drop n).length=q.length-n:=by simp
        unfold U8s;rw[hl];exact this
       have Hq:=Hd hA;have Hr:=Hd hB;have Hj:=Hd hh;clear hin hA hB usr vsr hh hF;have hb:(q.take n).length=n:=by simp;omega
       have Hf:=Hd hb;have hc:(q.drop n).length=q.length-n:=by simp
       have Hg:=Hd hc;clear hb hc
       have hu:Calls prog 190 #[.slice ua n uc,.func (.func 191) #[] #[.pointer (some ⟨wk.heap.size,0,none⟩)]] wr fun e w'=>e=.returned (.bool (!(q.take n).all p.2.2.B))/\wr=w':=by
        have:=rJ p.2.2 wk.heap.size ua uc (q.take n) wr (by rw[Hf.o];omega) Hq.o y2;rwa[Hf.o]at this
       have ht:=Hd hu;clear hu
       cases hal:(q.take n).all p.2.2.B with
       | false=>
         have He:=Hd hal;clear hal
         go_wp2_with (first
          | (go_at_call 111;refine(zy _ _ _ _).mono ?_;rw[Ha.o];rintro e w' ⟨rfl,rfl⟩)
          | (go_at_call 190;refine ht.out.mono ?_;rw[He.o];rintro e w' ⟨rfl,rfl⟩))
         go_ret;exact⟨ze (by rw[HF.o,hf.out,HN.o,Ha.o,Hj.o,He.o];rfl),Hi.o.trans (Hc.o.mono (by omega))⟩
       | true=>
         have He:=Hd hal;clear hal
         go_wp2_with (first
          | (go_at_call 111;refine(zy _ _ _ _).mono ?_;rw[Ha.o];rintro e w' ⟨rfl,rfl⟩)
          | (go_at_call 190;refine ht.out.mono ?_;rw[He.o];rintro e w' ⟨rfl,rfl⟩))
         go_roundw
         case rel=>exact⟨k+1,va,vc,q.drop n,by go_num,by rw[Hg.o],by omega,by rw[Hg.o];omega,Hd (by rw[HF.o,hf.out,HN.o,Ha.o,Hj.o,He.o,HR.o];rfl),Hr,Hd (HB.o.trans (Hc.o.mono (by omega)))⟩
         case measure=>simp[intOf];omega
  .go_wp2
   go_ret;refine⟨ze ?_,hd⟩;rw[HF.o,List.drop_of_length_le (by omega),bI,Bool.eq_iff_iff];simp
abbrev OwnU(W:World)(B:Nat)(a:Option Addr)(c:Nat)(l:List Int):Prop:=W.ownsRow B 5 1 (.slice a l.length c) l.length (u8sV l)
theorem QF(l:List Int):∀u∈u8sV l,u.oneCell'=true:=by
 intro u hu;obtain⟨c,_,rfl⟩:=List.mem_map.1 hu;rfl
theorem JM{W:World}{B:Nat}{a:Option Addr}{c:Nat}{l:List Int}(h:OwnU W B a c l):U8s W a c l:=by
 obtain⟨a',c',e,hr⟩:=bC h;simp at e;obtain⟨rfl,rfl⟩:=e;exact hr
theorem rY{W:World}{ops:Array Oper}{rest:List Oper}{o:Oper}{a:Act}{Q:Exit->Act->World->Prop}(hgd:o.guard=none)(s x:Operand)
 (ho:o.op=.call { callee:=.builtin .append,args:=#[s,x],argTypes:=#[46,46] })
 {B:Nat}{av:Option Addr}{cv:Nat}{l:List Int}(hs:a.eval s=.slice av l.length cv)(hown:OwnU W B av cv l)
 {ax:Option Addr}{m c:Nat}{news:List Int}(hx:a.eval x=.slice ax m c)(hr:Row 1 W ax m c (u8sV news))
 (hbytes:l.length+m<=4398046511104)(hB:B<=W.heap.size)
 (h:∀a' c' w' l',Hid (l'=l++news)->l'.length<=l.length+m->OwnU w' B a' c' l'->(∀B' A,B'<=B->Below B' A W->Below B' A w')->wpList prog ops Q rest (a.put o.dst (.slice a' l'.length c')) w'):wpList prog ops Q (o::rest) a W:=by
 have hm:m=news.length:=by have:=hr.1;simpa using this.symm
 subst hm;refine fP hgd s x 46 5 (.int .u8 0) 1 1 ho BR PO rfl (by decide) hs hown hx hr (QF _) (by unfold maxLen;omega) (by omega) hB ?_;intro a' c' w' h1 h2 h3;have e:l.length+news.length=(l++news).length:=by simp
 have e2:u8sV l++u8sV news=u8sV (l++news):=by simp
 rw[e,e2]at h1;rw[e];exact h a' c' w' _ (Hd rfl) (by simp) h1 (dF hown h2 hB)
theorem qB{t:Tr}{i:Nat}(h:fV (t.nd i).kind (t.nd i).n=none):dE t i=false:=by unfold dE;rw[h]
theorem qC{t:Tr}{i:Nat}{s:Shape}(h:fV (t.nd i).kind (t.nd i).n=some s):dE t i=((zv (t.nd i).pos 0 2000&&(s.named==((t.nd i).text != []))&&(!s.named||zI (t.nd i).text))&&((t.nd i).kids.all (fun k=>zv k 0 ((i:Int)-1)) &&
 (eK s.parts (bJ t i)&&(zv (t.nd i).n s.lo s.hi||(t.nd i).kind==1&&zv (t.nd i).n (-9999) (-1))))):=by unfold dE;rw[h]
theorem lX{l:List Int}{k:Nat}(h:k<l.length)(p:Int->Bool):(l.take (k+1)).all p=((l.take k).all p&&p l[k]):=by
 rw[List.take_succ_eq_append_getElem h,List.all_append];simp
theorem OF{l:List Int}{k:Nat}(h:k<l.length){p:Int->Bool}(hp:p l[k]=false):l.all p=false:=by
 rw[Bool.eq_false_iff];intro ha;have:=List.all_eq_true.1 ha _ (List.getElem_mem h);rw[hp]at this;cases this
theorem dL{w w3 wr:World}{v:TreeV}{t:Tr}{ka:Option Addr}{kc:Nat}{d:Nd}{s:Shape}{sa:Option Addr}{sc:Nat}(h3:Below (w.heap.size+1+1) (boxD (boxT w v t) ka kc d) w3)(hb:Below (w3.heap.size+1) (boxS w3 s sa sc) wr)(h:IsTree w v t) :
 (wr.cell? ⟨w.heap.size,0,none⟩=some (.slice v.na t.nodes.length v.nc)) /\
 (wr.cell? ⟨w.heap.size+1,0,none⟩=some (.int .u8 d.kind)/\wr.cell? ⟨w.heap.size+1,1,none⟩=some (strV d.text)/\wr.cell? ⟨w.heap.size+1,2,none⟩=some (intV d.n)/\wr.cell? ⟨w.heap.size+1,3,none⟩=some (.slice ka d.kids.length kc)/\wr.cell? ⟨w.heap.size+1,4,none⟩=some (intV d.pos)) /\
 (wr.cell? ⟨w3.heap.size,0,none⟩=some (.bool s.named)/\wr.cell? ⟨w3.heap.size,1,none⟩=some (intV s.lo)/\wr.cell? ⟨w3.heap.size,2,none⟩=some (intV s.hi)/\wr.cell? ⟨w3.heap.size,3,none⟩=some (.slice sa s.parts.length sc)) /\
 Below w.heap.size w wr/\Below w3.heap.size w3 wr/\(w.heap.size+1+1<=w3.heap.size/\w3.heap.size+1<=wr.heap.size):=by
 have ha:=h3.size;simp only[World.size_alloc]at ha;have hs:=hb.size;simp only[World.size_alloc]at hs;have hd:Below w3.heap.size w3 wr:=((Below.refl _ w3).alloc nlr _).trans (hb.mono (by omega));have h4:Below (w.heap.size+1+1) (boxD (boxT w v t) ka kc d) wr:=h3.trans (hd.mono ha);obtain⟨⟨b0,b1⟩,⟨d0,d1,d2,d3⟩,hT,_,hW⟩:=lB h4 h;have d4:=iH h4;have he:Below (boxS w3 s sa sc).heap.size (boxS w3 s sa sc) wr:=by simpa using hb
 obtain⟨hc,_⟩:=bcell he;have e0:(boxS w3 s sa sc).cell? ⟨w3.heap.size,0,none⟩=some (.bool s.named):=by simp
 have e1:(boxS w3 s sa sc).cell? ⟨w3.heap.size,1,none⟩=some (intV s.lo):=by simp
 have e2:(boxS w3 s sa sc).cell? ⟨w3.heap.size,2,none⟩=some (intV s.hi):=by simp
 have e3:(boxS w3 s sa sc).cell? ⟨w3.heap.size,3,none⟩=some (.slice sa s.parts.length sc):=by simp
 exact⟨b0,⟨d0,d1,d2,d3,d4⟩,⟨(hc _ _ (by simp)).trans e0,(hc _ _ (by simp)).trans e1,(hc _ _ (by simp)).trans e2,(hc _ _ (by simp)).trans e3⟩,hW,hd,⟨ha,hs⟩⟩
theorem xZ(v:TreeV)(t:Tr)(i:Nat)(w:World)(bd:Bd t)(hi:i<t.nodes.length)(hg:GV w)(h:IsTree w v t) :
 Calls prog 113 #[v.val t,intV i] w (zL w (dE t i)):=by
 have HT:=Hd h;have HG:=Hd hg;have hY:=bd.n;obtain⟨b,o,ka,kc,ea,hb,c0,c1,c2,c3,c4,hN⟩:=h.nodes.at hi;have hQ:=t.nd_at hi;have hW:=bd.k _ (List.getElem_mem hi);have hz:=bd.s _ (List.getElem_mem hi);obtain⟨d,hd⟩:∃d,t.nodes[i]=d:=⟨_,rfl⟩
 rw[hd]at c0 c1 c2 c3 c4 hN hQ hW hz;obtain⟨na,nc,ia,ic⟩:=v;simp only at ea;subst ea;have HJ:=Hd hN;have Hm:=Hd hQ;have HM:=Hd bd;clear h bd hN hQ hd hg;unfold TreeV.val;have hS:∀W,Calls prog 148 #[.agg #[.int .u8 d.kind,strV d.text,intV d.n,.slice ka d.kids.length kc,intV d.pos]] W (zK W (fV d.kind d.n)):=fun W=>DQ d ka kc W;have Hv:=Hd hS;clear hS
 cases hsp:fV d.kind d.n with
 | none=>
   have Hq:=Hd hsp;clear hsp;go_enter func113,ntmps113
   go_wp2_with (go_at_call 148;refine(Hv.o _).mono ?_;rw[Hq.o];rintro e w3 ⟨sa,sn,sc,rfl,ho⟩;have Ha:=Hd ho;clear ho)
   go_ret;have h3:=Ha.o.mono (show w.heap.size<=_ by simp;omega);exact⟨ze (qB (by rw[Hm.o];exact Hq.o)).symm,((brf.alloc nlr _).alloc (by simp) _).trans h3 |>.alloc (by have:=h3.size;simp at this;omega) _⟩
 | some s=>
   have Hq:=Hd hsp;have hT:=AP hsp;have HL:=Hd hT;have HF:=Hd (qC (t:=t) (i:=i) (s:=s) (by rw[Hm.o];exact hsp));clear hsp hT
   cases hpo:zv d.pos 0 2000 with
   | false=>
     have Hg:=Hd hpo;have Hk:=Hg;clear hpo;go_enter func113,ntmps113
     go_wp2_with (first
      | (go_at_call 148;refine(Hv.o _).mono ?_;rw[Hq.o];rintro e w3 ⟨sa,sc,he,hl,ho⟩;have he:e=.returned (.tuple #[.agg #[.bool s.named,intV s.lo,intV s.hi,.slice sa s.parts.length sc],.bool true]):=he;subst he;have Ha:=Hd (show Below (w.heap.size+1+1) (boxD (boxT w ⟨some ⟨b,o,none⟩,nc,ia,ic⟩ t) ka kc d) w3 from ho.mono (by simp));have Hh:=Hd hl;obtain⟨b0,⟨d0,d1,d2,d3,d4⟩,⟨s0,s1,s2,s3⟩,hc,ha,⟨hG,hH⟩⟩:=dL (s:=s) (sa:=sa) (sc:=sc) Ha.o brf HT.o;have Hi:=Hd hc;obtain⟨⟨q0,q1⟩,⟨e0,e1,e2,e3⟩,-,-,-⟩:=lB Ha.o HT.o;have e4:=iH Ha.o;have hI:w.heap.size+1<w3.heap.size:=(by omega);have hJ:w.heap.size<w3.heap.size:=(by omega);clear ho hl hc ha)
      | (go_at_call 111;refine(zy _ _ _ _).mono ?_;rw[Hg.o];rintro e w' ⟨rfl,rfl⟩)
      | (go_at_call 36;refine(cJ d.text _ hz (HG.o.mono Hi.o nlr)).mono ?_;rw[Hk.o];rintro e w4 ⟨rfl,hq⟩;have Hl:=Hd (show Below (w3.heap.size+1) (boxS w3 s sa sc) w4 from hq.mono (by simp));obtain⟨b0,⟨d0,d1,d2,d3,d4⟩,⟨s0,s1,s2,s3⟩,hc,ha,⟨hs,hp⟩⟩:=dL (s:=s) (sa:=sa) (sc:=sc) Ha.o Hl.o HT.o;have Hj:=Hd hc;clear hq hc ha))
     go_ret;exact⟨ze (by rw[HF.o,Hm.o,Hg.o];simp),Hi.o⟩
   | true=>
     have Hg:=Hd hpo;clear hpo;obtain⟨nm,lo,hi,ps⟩:=s;by_cases htx:d.text=[]
     .have HI:=Hd htx
      have hR:(d.text==[])=true:=by simpa using htx
      have hK:(d.text != [])=false:=by simpa using htx
      clear htx
      cases nm with
      | true=>
        have Hk:=Hg;go_enter func113,ntmps113
        go_wp2_with (first
         | (go_at_call 148;refine(Hv.o _).mono ?_;rw[Hq.o];rintro e w3 ⟨sa,sc,he,hl,ho⟩;have he:e=.returned (.tuple #[.agg #[.bool true,intV lo,intV hi,.slice sa ps.length sc],.bool true]):=he;subst he;have Ha:=Hd (show Below (w.heap.size+1+1) (boxD (boxT w ⟨some ⟨b,o,none⟩,nc,ia,ic⟩ t) ka kc d) w3 from ho.mono (by simp));have Hh:=Hd hl;obtain⟨b0,⟨d0,d1,d2,d3,d4⟩,⟨s0,s1,s2,s3⟩,hc,ha,⟨hG,hH⟩⟩:=dL (s:=⟨true,lo,hi,ps⟩) (sa:=sa) (sc:=sc) Ha.o brf HT.o;have Hi:=Hd hc;obtain⟨⟨q0,q1⟩,⟨e0,e1,e2,e3⟩,-,-,-⟩:=lB Ha.o HT.o;have e4:=iH Ha.o;have hI:w.heap.size+1<w3.heap.size:=(by omega);have hJ:w.heap.size<w3.heap.size:=(by omega);clear ho hl hc ha)
         | (go_at_call 111;refine(zy _ _ _ _).mono ?_;rw[Hg.o];rintro e w' ⟨rfl,rfl⟩)
         | (go_at_call 36;refine(cJ d.text _ hz (HG.o.mono Hi.o nlr)).mono ?_;rw[Hk.o];rintro e w4 ⟨rfl,hq⟩;have Hl:=Hd (show Below (w3.heap.size+1) (boxS w3 ⟨true,lo,hi,ps⟩ sa sc) w4 from hq.mono (by simp));obtain⟨b0,⟨d0,d1,d2,d3,d4⟩,⟨s0,s1,s2,s3⟩,hc,ha,⟨hs,hp⟩⟩:=dL (s:=⟨true,lo,hi,ps⟩) (sa:=sa) (sc:=sc) Ha.o Hl.o HT.o;have Hj:=Hd hc;clear hq hc ha))
        go_ret;exact⟨ze (by rw[HF.o,Hm.o,Hg.o,HI.o];rfl),Hi.o⟩
      | false=>
        have Hk:=Hg;go_enter func113,ntmps113
        go_wp2_with (first
         | (go_at_call 148;refine(Hv.o _).mono ?_;rw[Hq.o];rintro e w3 ⟨sa,sc,he,hl,ho⟩;have he:e=.returned (.tuple #[.agg #[.bool false,intV lo,intV hi,.slice sa ps.length sc],.bool true]):=he;subst he;have Ha:=Hd (show Below (w.heap.size+1+1) (boxD (boxT w ⟨some ⟨b,o,none⟩,nc,ia,ic⟩ t) ka kc d) w3 from ho.mono (by simp));have Hh:=Hd hl;obtain⟨b0,⟨d0,d1,d2,d3,d4⟩,⟨s0,s1,s2,s3⟩,hc,ha,⟨hG,hH⟩⟩:=dL (s:=⟨false,lo,hi,ps⟩) (sa:=sa) (sc:=sc) Ha.o brf HT.o;have Hi:=Hd hc;obtain⟨⟨q0,q1⟩,⟨e0,e1,e2,e3⟩,-,-,-⟩:=lB Ha.o HT.o;have e4:=iH Ha.o;have hI:w.heap.size+1<w3.heap.size:=(by omega);have hJ:w.heap.size<w3.heap.size:=(by omega);clear ho hl hc ha)
         | (go_at_call 111;refine(zy _ _ _ _).mono ?_;rw[Hg.o];rintro e w' ⟨rfl,rfl⟩)
         | (go_at_call 36;refine(cJ d.text _ hz (HG.o.mono Hi.o nlr)).mono ?_;rw[Hk.o];rintro e w4 ⟨rfl,hq⟩;have Hl:=Hd (show Below (w3.heap.size+1) (boxS w3 ⟨false,lo,hi,ps⟩ sa sc) w4 from hq.mono (by simp));obtain⟨b0,⟨d0,d1,d2,d3,d4⟩,⟨s0,s1,s2,s3⟩,hc,ha,⟨hs,hp⟩⟩:=dL (s:=⟨false,lo,hi,ps⟩) (sa:=sa) (sc:=sc) Ha.o Hl.o HT.o;have Hj:=Hd hc;clear hq hc ha))
        go_loopw [8,50] (fun t8 t50 wr=>∃(j:Nat) (a8:Option Addr) (c8:Nat) (q:List Int),t50=.int .i64 j/\t8=.slice a8 q.length c8/\j<=d.kids.length/\q.length=j/\Hid (q=(d.kids.take j).map fun k=>(t.nd k).kind)/\Hid ((d.kids.take j).all (fun k=>zv k 0 ((i:Int)-1))=true)/\Hid (OwnU wr (w3.heap.size+1) a8 c8 q)/\Hid (Below (w3.heap.size+1) (boxS w3 ⟨false,lo,hi,ps⟩ sa sc) wr)) (fun _ x _=>d.kids.length-(intOf x).toNat)
        case atStart=>exact⟨0,none,0,[],rfl,rfl,Nat.zero_le _,rfl,Hd rfl,Hd rfl,Hd ⟨rfl,.inl ⟨rfl,rfl⟩⟩,Hd brf⟩
        case round=>
         obtain⟨j,a8,c8,q,rfl,rfl,hj,hE,HQ,HA,HO,HB⟩:=hrel;obtain⟨b0,⟨d0,d1,d2,d3,d4⟩,⟨s0,s1,s2,s3⟩,hc,ha,⟨hs,hp⟩⟩:=dL (s:=⟨false,lo,hi,ps⟩) (sa:=sa) (sc:=sc) Ha.o HB.o HT.o;have Hb:=Hd hc;have Hr:=Hd ha;have HC:=Hd hE;have hX:q.length<=1000000:=by omega
         clear hc ha hE;by_cases hlt:j<d.kids.length
         .obtain⟨bk,ok,ek,hV,hL⟩:=Ints.at (HJ.o.mono Hb.o nlr) hlt
          subst ek;obtain⟨k,hk⟩:∃k,d.kids[j]=k:=⟨_,rfl⟩
          rw[hk]at hL;have HK:=Hd hk;have hv:=List.take_succ_eq_append_getElem hlt;have HH:=Hd hv;have Hz:=Hd (lX hlt (fun k=>zv k 0 ((i:Int)-1)));clear hk hv;cases hin:zv k 0 ((i:Int)-1)with
          | false=>
            have Hp:=Hd hin;have HD:=Hd (OF hlt (p:=fun k=>zv k 0 ((i:Int)-1)) (by rw[HK.o];exact hin));clear hin
            go_wp2_with (go_at_call 111;refine(zy _ _ _ _).mono ?_;rw[Hp.o];rintro e w' ⟨rfl,rfl⟩)
            go_ret;exact⟨ze (by rw[HF.o,Hm.o,HD.o];simp),Hb.o⟩
          | true=>
            have Hp:=Hd hin;obtain⟨hM,hw⟩:=inRange_iff.1 hin;obtain⟨m,rfl⟩:=Int.eq_ofNat_of_zero_le hM;have hD:m<t.nodes.length:=by omega
            obtain⟨b',o',ka',kc',e',hU,k0',-⟩:=(HT.o.mono Hb.o nlr).nodes.at hD;simp only[Option.some.injEq,Addr.mk.injEq,and_true]at e';obtain⟨rfl,rfl⟩:=e';obtain⟨x,hx⟩:∃x,t.nodes[m].kind=x:=⟨_,rfl⟩
            rw[hx]at k0';have HX:=Hd (show(t.nd (m:Int)).kind=x by rw[t.nd_at hD];exact hx);clear hin hx
            go_wp2_with (first
             | (go_at_call 111;refine(zy _ _ _ _).mono ?_;rw[Hp.o];rintro e w' ⟨rfl,rfl⟩)
             | (at_builtin;refine rY (news:=[x]) rfl (.tmp 59) (.tmp 66) rfl rfl (HO.o.alloc _) rfl (cP _ _ _) (by omega) (by simp;omega) ?_;intro a9 c9 w9 l9 Hx hP hu hr))
            have hO:l9.length=j+1:=by rw[Hx.o];simp;exact HC.o
            go_roundw
            case rel=>
             refine⟨j+1,a9,c9,l9,by go_num,rfl,by omega,hO,Hd ?_,Hd ?_,Hd hu,Hd (hr _ _ nlr (HB.o.alloc (by omega) _))⟩
             .rw[Hx.o,HQ.o,HH.o,List.map_append,HK.o];simp[HX.o]
             .rw[Hz.o,HA.o,HK.o];simpa using Hp.o
            case measure=>simp[intOf];omega
         .have hC:j=d.kids.length:=by omega
          have hF:q=bJ t i:=by rw[HQ.o,hC,List.take_length,bJ,Hm.o]
          have hB:d.kids.all (fun k=>zv k 0 ((i:Int)-1))=true:=by have:=HA.o;rwa[hC,List.take_length]at this
          have HE:=Hd hF;have Hy:=Hd hB;have hA:dE t i=(eK ps q&&(zv d.n lo hi||d.kind==1&&zv d.n (-9999) (-1))):=by rw[HF.o,Hm.o,Hg.o,HI.o,Hy.o,HE.o];simp
          have Ho:=Hd hA;have ht:Calls prog 149 #[.agg #[.bool false,intV lo,intV hi,.slice sa ps.length sc],.slice a8 q.length c8] wr (zL wr (eK ps q)):=uS ⟨false,lo,hi,ps⟩ sa sc a8 c8 q wr HL.o (by omega) (Hh.o.mono Hr.o nlr) (JM HO.o);have He:=Hd ht;clear hF hB hA ht
          cases hf:eK ps q with
          | false=>
            have Hc:=Hd hf;clear hf
            go_wp2_with (go_at_call 149;refine He.o.mono ?_;rw[Hc.o];rintro e w5 ⟨rfl,hn⟩)
            go_ret;exact⟨ze (by rw[Ho.o,Hc.o];rfl),Hb.o.trans (hn.mono (by omega))⟩
          | true=>
            have Hc:=Hd hf;clear hf;have hm:∀w5,Below wr.heap.size wr w5->Below (w3.heap.size+1) (boxS w3 ⟨false,lo,hi,ps⟩ sa sc) w5:=fun w5 h=>HB.o.trans (h.mono hp);have Hs:=Hd hm;clear hm
            cases hn1:zv d.n lo hi with
            | true=>
              have Hf:=Hd hn1;clear hn1
              go_wp2_with (first
               | (go_at_call 149;refine He.o.mono ?_;rw[Hc.o];rintro e w5 ⟨rfl,hn⟩;obtain⟨b0,⟨d0,d1,d2,d3,d4⟩,⟨s0,s1,s2,s3⟩,hh,-,-⟩:=dL (s:=⟨false,lo,hi,ps⟩) (sa:=sa) (sc:=sc) Ha.o (Hs.o w5 hn) HT.o;have Hn:=Hd hh;clear hn hh)
               | (go_at_call 111;refine(zy _ _ _ _).mono ?_;rw[Hf.o];rintro e w' ⟨rfl,rfl⟩))
              go_ret;exact⟨ze (by rw[Ho.o,Hc.o,Hf.o];rfl),Hn.o⟩
            | false=>
              have Hf:=Hd hn1;clear hn1
              cases hw:d.kind==1 with
              | false=>
                have Ht:=Hd hw
                go_wp2_with (first
                 | (go_at_call 149;refine He.o.mono ?_;rw[Hc.o];rintro e w5 ⟨rfl,hn⟩;obtain⟨b0,⟨d0,d1,d2,d3,d4⟩,⟨s0,s1,s2,s3⟩,hh,-,-⟩:=dL (s:=⟨false,lo,hi,ps⟩) (sa:=sa) (sc:=sc) Ha.o (Hs.o w5 hn) HT.o;have Hn:=Hd hh;clear hn hh)
                 | (go_at_call 111;refine(zy _ _ _ _).mono ?_;rw[Hf.o];rintro e w' ⟨rfl,rfl⟩))
                go_ret;exact⟨ze (by rw[Ho.o,Hc.o,Hf.o,Ht.o];rfl),Hn.o⟩
              | true=>
                have Ht:=Hd hw;obtain⟨y,hy⟩:∃y,zv d.n (-9999) (-1)=y:=⟨_,rfl⟩
                have HY:=Hd hy;clear hy
                go_wp2_with (first
                 | (go_at_call 149;refine He.o.mono ?_;rw[Hc.o];rintro e w5 ⟨rfl,hn⟩;obtain⟨b0,⟨d0,d1,d2,d3,d4⟩,⟨s0,s1,s2,s3⟩,hh,-,-⟩:=dL (s:=⟨false,lo,hi,ps⟩) (sa:=sa) (sc:=sc) Ha.o (Hs.o w5 hn) HT.o;have Hn:=Hd hh;clear hn hh)
                 | (have hx:=Hu;go_at_call 111;refine(zy d.n (-9999) (-1) _).mono ?_;rw[HY.o];rintro e w' ⟨rfl,rfl⟩)
                 | (go_at_call 111;refine(zy d.n lo hi _).mono ?_;rw[Hf.o];rintro e w' ⟨rfl,rfl⟩;have Hu:=Hf))
                go_ret;exact⟨ze (by rw[Ho.o,Hc.o,Hf.o,Ht.o,HY.o];rfl),Hn.o⟩
     .have HI:=Hd htx
      have hR:(d.text==[])=false:=by simpa using htx
      have hK:(d.text != [])=true:=by simpa using htx
      have Hw:=Hd hK;clear htx
      cases nm with
      | false=>
        have Hk:=Hg;go_enter func113,ntmps113
        go_wp2_with (first
         | (go_at_call 148;refine(Hv.o _).mono ?_;rw[Hq.o];rintro e w3 ⟨sa,sc,he,hl,ho⟩;have he:e=.returned (.tuple #[.agg #[.bool false,intV lo,intV hi,.slice sa ps.length sc],.bool true]):=he;subst he;have Ha:=Hd (show Below (w.heap.size+1+1) (boxD (boxT w ⟨some ⟨b,o,none⟩,nc,ia,ic⟩ t) ka kc d) w3 from ho.mono (by simp));have Hh:=Hd hl;obtain⟨b0,⟨d0,d1,d2,d3,d4⟩,⟨s0,s1,s2,s3⟩,hc,ha,⟨hG,hH⟩⟩:=dL (s:=⟨false,lo,hi,ps⟩) (sa:=sa) (sc:=sc) Ha.o brf HT.o;have Hi:=Hd hc;obtain⟨⟨q0,q1⟩,⟨e0,e1,e2,e3⟩,-,-,-⟩:=lB Ha.o HT.o;have e4:=iH Ha.o;have hI:w.heap.size+1<w3.heap.size:=(by omega);have hJ:w.heap.size<w3.heap.size:=(by omega);clear ho hl hc ha)
         | (go_at_call 111;refine(zy _ _ _ _).mono ?_;rw[Hg.o];rintro e w' ⟨rfl,rfl⟩)
         | (go_at_call 36;refine(cJ d.text _ hz (HG.o.mono Hi.o nlr)).mono ?_;rw[Hk.o];rintro e w4 ⟨rfl,hq⟩;have Hl:=Hd (show Below (w3.heap.size+1) (boxS w3 ⟨false,lo,hi,ps⟩ sa sc) w4 from hq.mono (by simp));obtain⟨b0,⟨d0,d1,d2,d3,d4⟩,⟨s0,s1,s2,s3⟩,hc,ha,⟨hs,hp⟩⟩:=dL (s:=⟨false,lo,hi,ps⟩) (sa:=sa) (sc:=sc) Ha.o Hl.o HT.o;have Hj:=Hd hc;clear hq hc ha))
        go_ret;exact⟨ze (by rw[HF.o,Hm.o,Hg.o,Hw.o];rfl),Hi.o⟩
      | true=>
        cases hnb:zI d.text with
        | false=>
          have Hk:=Hd hnb;clear hnb;go_enter func113,ntmps113
          go_wp2_with (first
           | (go_at_call 148;refine(Hv.o _).mono ?_;rw[Hq.o];rintro e w3 ⟨sa,sc,he,hl,ho⟩;have he:e=.returned (.tuple #[.agg #[.bool true,intV lo,intV hi,.slice sa ps.length sc],.bool true]):=he;subst he;have Ha:=Hd (show Below (w.heap.size+1+1) (boxD (boxT w ⟨some ⟨b,o,none⟩,nc,ia,ic⟩ t) ka kc d) w3 from ho.mono (by simp));have Hh:=Hd hl;obtain⟨b0,⟨d0,d1,d2,d3,d4⟩,⟨s0,s1,s2,s3⟩,hc,ha,⟨hG,hH⟩⟩:=dL (s:=⟨true,lo,hi,ps⟩) (sa:=sa) (sc:=sc) Ha.o brf HT.o;have Hi:=Hd hc;obtain⟨⟨q0,q1⟩,⟨e0,e1,e2,e3⟩,-,-,-⟩:=lB Ha.o HT.o;have e4:=iH Ha.o;have hI:w.heap.size+1<w3.heap.size:=(by omega);have hJ:w.heap.size<w3.heap.size:=(by omega);clear ho hl hc ha)
           | (go_at_call 111;refine(zy _ _ _ _).mono ?_;rw[Hg.o];rintro e w' ⟨rfl,rfl⟩)
           | (go_at_call 36;refine(cJ d.text _ hz (HG.o.mono Hi.o nlr)).mono ?_;rw[Hk.o];rintro e w4 ⟨rfl,hq⟩;have Hl:=Hd (show Below (w3.heap.size+1) (boxS w3 ⟨true,lo,hi,ps⟩ sa sc) w4 from hq.mono (by simp));obtain⟨b0,⟨d0,d1,d2,d3,d4⟩,⟨s0,s1,s2,s3⟩,hc,ha,⟨hs,hp⟩⟩:=dL (s:=⟨true,lo,hi,ps⟩) (sa:=sa) (sc:=sc) Ha.o Hl.o HT.o;have Hj:=Hd hc;clear hq hc ha))
          go_ret;exact⟨ze (by rw[HF.o,Hm.o,Hg.o,Hw.o,Hk.o];rfl),Hj.o⟩
        | true=>
          have Hk:=Hd hnb;clear hnb;go_enter func113,ntmps113
          go_wp2_with (first
           | (go_at_call 148;refine(Hv.o _).mono ?_;rw[Hq.o];rintro e w3 ⟨sa,sc,he,hl,ho⟩;have he:e=.returned (.tuple #[.agg #[.bool true,intV lo,intV hi,.slice sa ps.length sc],.bool true]):=he;subst he;have Ha:=Hd (show Below (w.heap.size+1+1) (boxD (boxT w ⟨some ⟨b,o,none⟩,nc,ia,ic⟩ t) ka kc d) w3 from ho.mono (by simp));have Hh:=Hd hl;obtain⟨b0,⟨d0,d1,d2,d3,d4⟩,⟨s0,s1,s2,s3⟩,hc,ha,⟨hG,hH⟩⟩:=dL (s:=⟨true,lo,hi,ps⟩) (sa:=sa) (sc:=sc) Ha.o brf HT.o;have Hi:=Hd hc;obtain⟨⟨q0,q1⟩,⟨e0,e1,e2,e3⟩,-,-,-⟩:=lB Ha.o HT.o;have e4:=iH Ha.o;have hI:w.heap.size+1<w3.heap.size:=(by omega);have hJ:w.heap.size<w3.heap.size:=(by omega);clear ho hl hc ha)
           | (go_at_call 111;refine(zy _ _ _ _).mono ?_;rw[Hg.o];rintro e w' ⟨rfl,rfl⟩)
           | (go_at_call 36;refine(cJ d.text _ hz (HG.o.mono Hi.o nlr)).mono ?_;rw[Hk.o];rintro e w4 ⟨rfl,hq⟩;have Hl:=Hd (show Below (w3.heap.size+1) (boxS w3 ⟨true,lo,hi,ps⟩ sa sc) w4 from hq.mono (by simp));obtain⟨b0,⟨d0,d1,d2,d3,d4⟩,⟨s0,s1,s2,s3⟩,hc,ha,⟨hs,hp⟩⟩:=dL (s:=⟨true,lo,hi,ps⟩) (sa:=sa) (sc:=sc) Ha.o Hl.o HT.o;have Hj:=Hd hc;clear hq hc ha))
          go_loopw [8,50] (fun t8 t50 wr=>∃(j:Nat) (a8:Option Addr) (c8:Nat) (q:List Int),t50=.int .i64 j/\t8=.slice a8 q.length c8/\j<=d.kids.length/\q.length=j/\Hid (q=(d.kids.take j).map fun k=>(t.nd k).kind)/\Hid ((d.kids.take j).all (fun k=>zv k 0 ((i:Int)-1))=true)/\Hid (OwnU wr (w3.heap.size+1) a8 c8 q)/\Hid (Below (w3.heap.size+1) (boxS w3 ⟨true,lo,hi,ps⟩ sa sc) wr)) (fun _ x _=>d.kids.length-(intOf x).toNat)
          case atStart=>exact⟨0,none,0,[],rfl,rfl,Nat.zero_le _,rfl,Hd rfl,Hd rfl,Hd ⟨rfl,.inl ⟨rfl,rfl⟩⟩,Hl⟩
          case round=>
           obtain⟨j,a8,c8,q,rfl,rfl,hj,hE,HQ,HA,HO,HB⟩:=hrel;obtain⟨b0,⟨d0,d1,d2,d3,d4⟩,⟨s0,s1,s2,s3⟩,hc,ha,⟨hs,hp⟩⟩:=dL (s:=⟨true,lo,hi,ps⟩) (sa:=sa) (sc:=sc) Ha.o HB.o HT.o;have Hb:=Hd hc;have Hr:=Hd ha;have HC:=Hd hE;have hX:q.length<=1000000:=by omega
           clear hc ha hE;by_cases hlt:j<d.kids.length
           .obtain⟨bk,ok,ek,hV,hL⟩:=Ints.at (HJ.o.mono Hb.o nlr) hlt
            subst ek;obtain⟨k,hk⟩:∃k,d.kids[j]=k:=⟨_,rfl⟩
            rw[hk]at hL;have HK:=Hd hk;have hv:=List.take_succ_eq_append_getElem hlt;have HH:=Hd hv;have Hz:=Hd (lX hlt (fun k=>zv k 0 ((i:Int)-1)));clear hk hv;cases hin:zv k 0 ((i:Int)-1)with
            | false=>
              have Hp:=Hd hin;have HD:=Hd (OF hlt (p:=fun k=>zv k 0 ((i:Int)-1)) (by rw[HK.o];exact hin));clear hin
              go_wp2_with (go_at_call 111;refine(zy _ _ _ _).mono ?_;rw[Hp.o];rintro e w' ⟨rfl,rfl⟩)
              go_ret;exact⟨ze (by rw[HF.o,Hm.o,HD.o];simp),Hb.o⟩
            | true=>
              have Hp:=Hd hin;obtain⟨hM,hw⟩:=inRange_iff.1 hin;obtain⟨m,rfl⟩:=Int.eq_ofNat_of_zero_le hM;have hD:m<t.nodes.length:=by omega
              obtain⟨b',o',ka',kc',e',hU,k0',-⟩:=(HT.o.mono Hb.o nlr).nodes.at hD;simp only[Option.some.injEq,Addr.mk.injEq,and_true]at e';obtain⟨rfl,rfl⟩:=e';obtain⟨x,hx⟩:∃x,t.nodes[m].kind=x:=⟨_,rfl⟩
              rw[hx]at k0';have HX:=Hd (show(t.nd (m:Int)).kind=x by rw[t.nd_at hD];exact hx);clear hin hx
              go_wp2_with (first
               | (go_at_call 111;refine(zy _ _ _ _).mono ?_;rw[Hp.o];rintro e w' ⟨rfl,rfl⟩)
               | (at_builtin;refine rY (news:=[x]) rfl (.tmp 59) (.tmp 66) rfl rfl (HO.o.alloc _) rfl (cP _ _ _) (by omega) (by simp;omega) ?_;intro a9 c9 w9 l9 Hx hP hu hr))
              have hO:l9.length=j+1:=by rw[Hx.o];simp;exact HC.o
              go_roundw
              case rel=>
               refine⟨j+1,a9,c9,l9,by go_num,rfl,by omega,hO,Hd ?_,Hd ?_,Hd hu,Hd (hr _ _ nlr (HB.o.alloc (by omega) _))⟩
               .rw[Hx.o,HQ.o,HH.o,List.map_append,HK.o];simp[HX.o]
               .rw[Hz.o,HA.o,HK.o];simpa using Hp.o
              case measure=>simp[intOf];omega
           .have hC:j=d.kids.length:=by omega
            have hF:q=bJ t i:=by rw[HQ.o,hC,List.take_length,bJ,Hm.o]
            have hB:d.kids.all (fun k=>zv k 0 ((i:Int)-1))=true:=by have:=HA.o;rwa[hC,List.take_length]at this
            have HE:=Hd hF;have Hy:=Hd hB;have hA:dE t i=(eK ps q&&(zv d.n lo hi||d.kind==1&&zv d.n (-9999) (-1))):=by rw[HF.o,Hm.o,Hg.o,Hw.o,Hk.o,Hy.o,HE.o];simp
            have Ho:=Hd hA;have ht:Calls prog 149 #[.agg #[.bool true,intV lo,intV hi,.slice sa ps.length sc],.slice a8 q.length c8] wr (zL wr (eK ps q)):=uS ⟨true,lo,hi,ps⟩ sa sc a8 c8 q wr HL.o (by omega) (Hh.o.mono Hr.o nlr) (JM HO.o);have He:=Hd ht;clear hF hB hA ht
            cases hf:eK ps q with
            | false=>
              have Hc:=Hd hf;clear hf
              go_wp2_with (go_at_call 149;refine He.o.mono ?_;rw[Hc.o];rintro e w5 ⟨rfl,hn⟩)
              go_ret;exact⟨ze (by rw[Ho.o,Hc.o];rfl),Hb.o.trans (hn.mono (by omega))⟩
            | true=>
              have Hc:=Hd hf;clear hf;have hm:∀w5,Below wr.heap.size wr w5->Below (w3.heap.size+1) (boxS w3 ⟨true,lo,hi,ps⟩ sa sc) w5:=fun w5 h=>HB.o.trans (h.mono hp);have Hs:=Hd hm;clear hm
              cases hn1:zv d.n lo hi with
              | true=>
                have Hf:=Hd hn1;clear hn1
                go_wp2_with (first
                 | (go_at_call 149;refine He.o.mono ?_;rw[Hc.o];rintro e w5 ⟨rfl,hn⟩;obtain⟨b0,⟨d0,d1,d2,d3,d4⟩,⟨s0,s1,s2,s3⟩,hh,-,-⟩:=dL (s:=⟨true,lo,hi,ps⟩) (sa:=sa) (sc:=sc) Ha.o (Hs.o w5 hn) HT.o;have Hn:=Hd hh;clear hn hh)
                 | (go_at_call 111;refine(zy _ _ _ _).mono ?_;rw[Hf.o];rintro e w' ⟨rfl,rfl⟩))
                go_ret;exact⟨ze (by rw[Ho.o,Hc.o,Hf.o];rfl),Hn.o⟩
              | false=>
                have Hf:=Hd hn1;clear hn1
                cases hw:d.kind==1 with
                | false=>
                  have Ht:=Hd hw
                  go_wp2_with (first
                   | (go_at_call 149;refine He.o.mono ?_;rw[Hc.o];rintro e w5 ⟨rfl,hn⟩;obtain⟨b0,⟨d0,d1,d2,d3,d4⟩,⟨s0,s1,s2,s3⟩,hh,-,-⟩:=dL (s:=⟨true,lo,hi,ps⟩) (sa:=sa) (sc:=sc) Ha.o (Hs.o w5 hn) HT.o;have Hn:=Hd hh;clear hn hh)
                   | (go_at_call 111;refine(zy _ _ _ _).mono ?_;rw[Hf.o];rintro e w' ⟨rfl,rfl⟩))
                  go_ret;exact⟨ze (by rw[Ho.o,Hc.o,Hf.o,Ht.o];rfl),Hn.o⟩
                | true=>
                  have Ht:=Hd hw;obtain⟨y,hy⟩:∃y,zv d.n (-9999) (-1)=y:=⟨_,rfl⟩
                  have HY:=Hd hy;clear hy
                  go_wp2_with (first
                   | (go_at_call 149;refine He.o.mono ?_;rw[Hc.o];rintro e w5 ⟨rfl,hn⟩;obtain⟨b0,⟨d0,d1,d2,d3,d4⟩,⟨s0,s1,s2,s3⟩,hh,-,-⟩:=dL (s:=⟨true,lo,hi,ps⟩) (sa:=sa) (sc:=sc) Ha.o (Hs.o w5 hn) HT.o;have Hn:=Hd hh;clear hn hh)
                   | (have hx:=Hu;go_at_call 111;refine(zy d.n (-9999) (-1) _).mono ?_;rw[HY.o];rintro e w' ⟨rfl,rfl⟩)
                   | (go_at_call 111;refine(zy d.n lo hi _).mono ?_;rw[Hf.o];rintro e w' ⟨rfl,rfl⟩;have Hu:=Hf))
                  go_ret;exact⟨ze (by rw[Ho.o,Hc.o,Hf.o,Ht.o,HY.o];rfl),Hn.o⟩
def wayV(s:Nat):Value:=.func (.func 150) #[] #[.pointer (some ⟨s,0,none⟩),.pointer (some ⟨s+1+1,0,none⟩),.pointer (some ⟨s+1,0,none⟩)]
@[go_sem] theorem run_store_way {w:World}{a:Addr}{m:Mode}(s:Nat):(store a (wayV s) m).run prog w=stored prog w a (wayV s) m:=run_store prog w a _ m rfl
structure OrdW (w:World) (v:TreeV) (t:Tr) (s:Nat) (p:Int) (W:World):Prop where
 below:Below s w W
 size:s+1+1<W.heap.size
 n:W.cell? ⟨s,0,none⟩=some (.slice v.na t.nodes.length v.nc)
 items:W.cell? ⟨s,1,none⟩=some (.slice v.ia t.items.length v.ic)
 next:W.cell? ⟨s+1,0,none⟩=some (intV p)
 way:W.cell? ⟨s+1+1,0,none⟩=some (wayV s)
 open_:W.frozen? ⟨s+1,0,none⟩=false
theorem OrdW.set{w W:World}{v:TreeV}{t:Tr}{s:Nat}{p:Int}(h:OrdW w v t s p W)(m:Int):OrdW w v t s m (W.setCell ⟨s+1,0,none⟩ (intV m)):=by
 obtain⟨h1,h2,h3,h4,h5,h6,h7⟩:=h;refine⟨h1.setCell (by simp) _,by simpa using h2,?_,?_,World.cell?_setCell_same _ _ _ h5,?_,by rw[World.frozen?_setCell];exact h7⟩
 .rw[World.cell?_setCell_other _ _ _ _ (by simp)];exact h3
 .rw[World.cell?_setCell_other _ _ _ _ (by simp)];exact h4
 .rw[World.cell?_setCell_other _ _ _ _ (by simp)];exact h6
def GS(w:World)(v:TreeV)(t:Tr)(s:Nat):Option Int->Ending->World->Prop
 |some m,e,w'=>e=.returned (.bool true)/\OrdW w v t s m w'
 |none,e,w'=>e=.returned (.bool false)/\Below s w w'
theorem LA{t:Tr}{f i:Nat}{d p q:Int}(h:goK (fun k q=>dP t f k (d+1) q) (t.nd i).kids p=some q) :
 dP t (f+1) i d p=if (i:Int) != q then none else if cS (t.nd i).kind==(d==1)then some (q+1)else none:=by
 rw[dP,h];rfl
theorem LB{t:Tr}{f i:Nat}{d p:Int}(h:goK (fun k q=>dP t f k (d+1) q) (t.nd i).kids p=none):dP t (f+1) i d p=none:=by
 rw[dP,h];rfl
theorem QW{g:Int->Int->Option Int}{l:List Int}{k:Nat}(h:k<l.length)(p:Int):goK g (l.drop k) p=(g l[k] p).bind (goK g (l.drop (k+1))):=by
 rw[List.drop_eq_getElem_cons h];rfl
theorem uW(v:TreeV)(t:Tr)(w:World)(bd:Bd t)(hkid:∀i,i<t.nodes.length->∀k∈(t.nd i).kids,0<=k/\k<(i:Int))(h:IsTree w v t)(s:Nat)(hs:s=w.heap.size) :
 ∀(f i:Nat) (d p:Int) (W:World),i<t.nodes.length->i<f->1<=d->d+f<=4000000->OrdW w v t s p W ->
 Calls prog 150 #[intV i,intV d,.pointer (some ⟨s,0,none⟩),.pointer (some ⟨s+1+1,0,none⟩),.pointer (some ⟨s+1,0,none⟩)] W (GS w v t s (dP t f i d p))
 |0,i,d,p,W,hi,hf,_,_,ho=>by omega
 | f+1,i,d,p,W,hi,hf,hd,hdf,ho=>by
   have IH:=uW v t w bd hkid h s hs f;have IHH:=Hd IH;clear IH;have HT:=Hd h;have HO:=Hd ho;have HK:=Hd (hkid i hi);have hC:=bd.n;have hz:=ho.n;obtain⟨b,o,ka,kc,ea,hb,c0,c1,c2,c3,c4,hl⟩:=h.nodes.at hi;have hh:=t.nd_at hi;have hu:=bd.k _ (List.getElem_mem hi);obtain⟨D,hD⟩:∃D,t.nodes[i]=D:=⟨_,rfl⟩
   rw[hD]at c0 c1 c2 c3 c4 hl hh hu;obtain⟨na,nc,ia,ic⟩:=v;simp only at ea;subst ea;have Hg:=Hd hl;have C0:=Hd c0;have C3:=Hd c3;have Hc:=Hd hh;have HS:=Hd hs;have hr:Below w.heap.size w W:=hs▸ho.below;obtain⟨hc,-⟩:=bcell hr;have d3:=(hc b (o+i*5+3) hb).trans C3.out;rw[hh]at HK;clear hkid bd h ho hl hh hD hs hc hr c0 c1 c2 c3 c4;go_enter func150,ntmps150;go_wp2
   go_loopw [17] (fun t17 wr=>∃(k:Nat) (q:Int),t17=.int .i64 k/\k<=D.kids.length/\Hid (goK (fun k q=>dP t f k (d+1) q) D.kids p=goK (fun k q=>dP t f k (d+1) q) (D.kids.drop k) q)/\Hid (OrdW w ⟨some ⟨b,o,none⟩,nc,ia,ic⟩ t s q wr)) (fun t17 _=>D.kids.length-(intOf t17).toNat)
   case atStart=>exact⟨0,p,rfl,Nat.zero_le _,Hd rfl,HO⟩
   case round=>
    obtain⟨k,q,rfl,hk,HG,HQ⟩:=hrel;have he:Below w.heap.size w wr:=HS.o▸HQ.o.below;have Hh:=Hd he;by_cases hlt:k<D.kids.length
    .obtain⟨bk,ok,ek,hA,ht⟩:=Ints.at (Hg.o.mono he nlr) hlt
     subst ek;have hx:=HK.o _ (List.getElem_mem hlt);have HA:=Hd (QW (g:=fun k q=>dP t f k (d+1) q) hlt q);obtain⟨x,hp⟩:∃x,D.kids[k]=x:=⟨_,rfl⟩
     rw[hp]at ht hx;obtain⟨hw,hH⟩:=hx;obtain⟨m,rfl⟩:=Int.eq_ofNat_of_zero_le hw;have Hf:=Hd hp;have hm:=HQ.o.way;unfold wayV at hm;have HC:Hid (Calls prog 150 #[intV m,intV (d+1),.pointer (some ⟨s,0,none⟩),.pointer (some ⟨s+1+1,0,none⟩),.pointer (some ⟨s+1,0,none⟩)] wr (GS w ⟨some ⟨b,o,none⟩,nc,ia,ic⟩ t s (dP t f m (d+1) q))):=Hd (IHH.out m (d+1) q wr (by omega) (by omega) (by omega) (by omega) HQ.o);have hG:IntKind.i64.wrap (d+1)=d+1:=by rw[IntKind.wrap_i64];omega
     clear hp he
     cases hwk:dP t f m (d+1) q with
     | none=>
       have HW:=Hd hwk;clear hwk
       go_wp2_with (go_at_call 150;refine HC.o.mono ?_;rw[HW.o];rintro e w' ⟨rfl,ha⟩;have Hb:=Hd ha;clear ha)
       go_ret;have hv:dP t (f+1) i d p=none:=LB (by rw[Hc.o,HG.o,HA.o,Hf.o,HW.o];rfl);rw[hv];exact⟨rfl,Hb.o⟩
     | some m'=>
       have HW:=Hd hwk;clear hwk
       go_wp2_with (go_at_call 150;refine HC.o.mono ?_;rw[HW.o];rintro e w' ⟨rfl,ha⟩;have Hb:=Hd ha;clear ha)
       go_roundw
       case rel=>exact⟨k+1,m',by go_num,by omega,Hd (by rw[HG.o,HA.o,Hf.o,HW.o];rfl),Hb⟩
       case measure=>simp[intOf];omega
    .have hg:goK (fun k q=>dP t f k (d+1) q) (t.nd i).kids p=some q:=by rw[Hc.o,HG.o,List.drop_of_length_le (by omega)];rfl
     have hn:=LA hg;rw[Hc.o]at hn;have Ha:=Hd hn;have hq:=HQ.o.next;have hF:=HQ.o.n;obtain⟨hc,-⟩:=bcell he;have e0:=(hc b (o+i*5) hb).trans C0.out;clear hc he hg hn;by_cases hiq:(i:Int)=q
     .subst hiq
      have hB:¬b=s+1:=by have:=HS.o;omega
      have hE:=HQ.o.open_;have He:=Hd (HQ.o.set ((i:Int)+1));rw[if_neg (by simp)]at Ha
      go_wp2_with (go_at_call 151;refine(FN _ _).mono ?_;rintro e w' ⟨rfl,rfl⟩)
      go_ret;rw[Ha.o];cases hy:(cS D.kind==(d==1))with
      |true=>exact⟨rfl,He.o⟩
      |false=>exact⟨rfl,He.o.below⟩
     .have hj:((i:Int) != q)=true:=by simpa using hiq
      rw[if_pos hj]at Ha;have Hi:=Hd hiq;go_wp2;all_goals go_ret
      rw[Ha.o];exact⟨rfl,HQ.o.below⟩
theorem sU{t:Tr}:∀{f:Nat}{i d p m:Int},dP t f i d p=some m->m=i+1
 |0,i,d,p,m,h=>by simp[dP]at h
 | f+1,i,d,p,m,h=>by
   simp only[dP,Option.bind_eq_some_iff]at h;obtain⟨q,_,h⟩:=h;by_cases hq:i=q
   .subst hq
    rw[if_neg (by simp)]at h;split at h
    .exact(Option.some.inj h).symm
    .cases h
   .rw[if_pos (by simpa using hq)]at h;cases h
theorem PX{t:Tr}{l:List Int}{k:Nat}(h:k<l.length)(p:Int) :
 ordF t (l.drop k) p=if decide (p<=l[k])&&decide (l[k]<=(t.nodes.length:Int)-1)then (dP t (l[k]+1).toNat l[k] 1 p).bind (ordF t (l.drop (k+1)))else none:=by
 rw[List.drop_eq_getElem_cons h];rfl
theorem sM{t:Tr}(h:ordF t t.items 0=none):aF t=false:=by unfold aF;rw[h];rfl
theorem AI{t:Tr}{q:Int}(h:ordF t t.items 0=some q):aF t=(q==(t.nodes.length:Int)):=by unfold aF;rw[h];rfl
theorem uU(v:TreeV)(t:Tr)(w:World)(bd:Bd t)(hkid:∀i,i<t.nodes.length->∀k∈(t.nd i).kids,0<=k/\k<(i:Int))(h:IsTree w v t) :
 Calls prog 114 #[v.val t] w (zL w (aF t)):=by
 have HW:=Hd (uW v t w bd hkid h w.heap.size rfl);have HI:=Hd h.items;have ho:=bd.n;obtain⟨na,nc,ia,ic⟩:=v;have hm:=bd.i;clear h bd hkid;simp only at HI;unfold TreeV.val;go_enter func114,ntmps114;go_wp2
 go_loopw [11] (fun t11 wr=>∃(k:Nat) (q:Int),t11=.int .i64 k/\k<=t.items.length/\0<=q/\Hid (ordF t t.items 0=ordF t (t.items.drop k) q)/\Hid (OrdW w ⟨na,nc,ia,ic⟩ t w.heap.size q wr)) (fun t11 _=>t.items.length-(intOf t11).toNat)
 case atStart=>
  refine⟨0,0,rfl,Nat.zero_le _,Int.le_refl _,Hd rfl,Hd ⟨?_,?_,?_,?_,?_,?_,?_⟩⟩
  .go_grown
  all_goals (try unfold wayV)
  all_goals (try go_simp)
 case round=>
  obtain⟨k,q,rfl,hk,hp,HG,HQ⟩:=hrel;have Hf:=Hd HQ.o.below;have hq:=HQ.o.n;have hr:=HQ.o.next;by_cases hlt:k<t.items.length
  .obtain⟨bk,ok,ek,hi,hg⟩:=Ints.at (HI.o.mono Hf.o nlr) hlt
   subst ek;have HA:=Hd (PX (t:=t) hlt q);obtain⟨x,hd⟩:∃x,t.items[k]=x:=⟨_,rfl⟩
   rw[hd]at hg HA;have hc:=HQ.o.way;unfold wayV at hc;cases hin:zv x q ((t.nodes.length:Int)-1)with
   | false=>
     have Ha:=Hd hin
     have hf:ordF t t.items 0=none:=by
      rw[HG.o,HA.o,if_neg];intro hh;rw[Bool.and_eq_true,decide_eq_true_iff,decide_eq_true_iff]at hh;rw[inRange_iff.2 hh]at hin;cases hin
     have Hg:=Hd (sM hf);clear hin hd hf
     go_wp2_with (go_at_call 111;refine(zy _ _ _ _).mono ?_;rw[Ha.o];rintro e w' ⟨rfl,rfl⟩)
     go_ret;exact⟨ze Hg.o.symm,Hf.o⟩
   | true=>
     have Ha:=Hd hin;have hh:=inRange_iff.1 hin;have Hc:=Hd (HA.o.trans (if_pos (by rw[Bool.and_eq_true,decide_eq_true_iff,decide_eq_true_iff];exact hh)));obtain⟨hj,hl⟩:=hh;obtain⟨m,rfl⟩:=Int.eq_ofNat_of_zero_le (show 0<=x by omega);have he:((m:Int)+1).toNat=m+1:=by omega
     rw[he]at Hc;have HC:=Hd (HW.o (m+1) m 1 q wr (by omega) (by omega) (by omega) (by omega) HQ.o);clear hin hd he HA
     cases hwk:dP t (m+1) m 1 q with
     | none=>
       have Hb:=Hd hwk;have Hg:=Hd (sM (t:=t) (by rw[HG.o,Hc.o,hwk];rfl));clear hwk
       go_wp2_with (first
        | (go_at_call 111;refine(zy _ _ _ _).mono ?_;rw[Ha.o];rintro e w' ⟨rfl,rfl⟩)
        | (go_at_call 150;refine HC.o.mono ?_;rw[Hb.o];rintro e w' ⟨rfl,ha⟩;have He:=Hd ha;clear ha))
       go_ret;exact⟨ze Hg.o.symm,He.o⟩
     | some m'=>
       have Hb:=Hd hwk;have hn:=sU hwk;clear hwk
       go_wp2_with (first
        | (go_at_call 111;refine(zy _ _ _ _).mono ?_;rw[Ha.o];rintro e w' ⟨rfl,rfl⟩)
        | (go_at_call 150;refine HC.o.mono ?_;rw[Hb.o];rintro e w' ⟨rfl,ha⟩;have He:=Hd ha;clear ha))
       go_roundw
       case rel=>exact⟨k+1,m',by go_num,by omega,by omega,Hd (by rw[HG.o,Hc.o,Hb.o];rfl),He⟩
       case measure=>simp[intOf];omega
  .have hb:ordF t t.items 0=some q:=by rw[HG.o,List.drop_of_length_le (by omega)];rfl
   have HE:=Hd (AI hb);clear hb;go_wp2;all_goals go_ret
   exact⟨ze (by rw[HE.o]),Hf.o⟩
theorem CQ:∀(L:List Int) (m:Nat),L.set m (L.getD m 0)=L
 | [],m=>rfl
 |a::l,0=>rfl
 |a::l,m+1=>by rw[List.set_cons_succ,List.getD_cons_succ,CQ l m]
theorem xY(v:TreeV)(t:Tr)(w:World)(bd:Bd t)(hkid:∀i,i<t.nodes.length->∀k∈(t.nd i).kids,0<=k/\k<(i:Int))(h:IsTree w v t) :
 Calls prog 69 #[v.val t] w (RetInts w (dR t)):=by
 have HT:=Hd h;have BD:=Hd bd;have He:=Hd hkid;have hS:=bd.n;have hR:=fun W=>sP W t.nodes.length (by omega);clear h bd hkid;unfold TreeV.val;go_enter func69,ntmps69;go_wp2;have Hm:=Hd (ES (boxT w v t) (B:=w.heap.size+1) (n:=t.nodes.length) (k:=w.heap.size+1) (by simp) nlr (by omega))
 go_loopw [4] (fun t4 wr=>∃(i:Int),t4=intV i /\ -1<=i/\i<t.nodes.length/\Hid (wr.ownsRow (w.heap.size+1) 3 1 (.slice (some ⟨w.heap.size+1,0,none⟩) t.nodes.length t.nodes.length) t.nodes.length (zr (eH t ((t.nodes.length:Int)-1-i).toNat)))/\Hid (Below (w.heap.size+1) (boxT w v t) wr)) (fun i _=>(intOf i+1).toNat)
 case atStart=>exact⟨(t.nodes.length:Int)-1,by go_num,by omega,by omega,Hd (by rw[show((t.nodes.length:Int)-1-((t.nodes.length:Int)-1)).toNat=0 by omega];exact Hm.o),Hd (brf.alloc (by simp) _)⟩
 case round=>
  obtain⟨i,rfl,hP,hQ,HO,HB⟩:=hrel;obtain⟨b0,b1,-,⟨hs,hT,hU⟩,hC⟩:=boxed HB.o HT.o;obtain⟨hK,hM⟩:=bcell hC;by_cases hi0:0<=i
  .obtain⟨m,rfl⟩:=Int.eq_ofNat_of_zero_le hi0
   have hg:m<t.nodes.length:=by omega
   obtain⟨b,o,ka,kc,ea,hb,c0,c1,c2,c3',c4,hv⟩:=HT.o.nodes.at hg;obtain⟨na,nc,ia,ic⟩:=v;simp only at ea b0 b1;subst ea;obtain⟨ks,hw⟩:∃ks,ks=t.nodes[m].kids:=⟨_,rfl⟩
   have hI:=BD.out.k _ (List.getElem_mem hg);rw[<-hw]at hv c3' hI;have Hk:=Hd hv;have Hi:Hid ((t.nd m).kids=ks):=Hd (by rw[t.nd_at hg,hw]);have Hh:=He.o m hg;rw[Hi.o]at Hh;obtain⟨L,hL⟩:∃L,L=eH t ((t.nodes.length:Int)-1-m).toNat:=⟨_,rfl⟩
   have HL:=Hd hL;have hm:=lD He.o ((t.nodes.length:Int)-1-m).toNat (by omega);rw[<-hL]at hm;have Ho:=Hd hm;obtain⟨x,hx⟩:∃x,x=L.getD m 0:=⟨_,rfl⟩
   have hn:=hm m;rw[<-hx]at hn;have hV:=hn.1;have hW:=hn.2 hg;have HX:=Hd hx;have Ha:=Hd Hh;have he:=HO.o;rw[<-hL]at he;obtain⟨g,hD,hN,hO,hB,hf,hr⟩:=iC he (by omega);simp only[Option.some.injEq,Addr.mk.injEq,and_true]at hD;subst hD;have ci:=hf m hg;have fi:=hr m;rw[<-hx]at ci;have Hf:=Hd he;have Hn:=Hd hr;have Hl:=Hd hB;clear hv hw hL hm hx hn Hh he hf hr hB;by_cases hz:x=0
   .have Hj:Hid (max x 1=1):=Hd (by omega)
    subst hz;go_wp2
    go_loopw [34] (fun t5 wr=>∃k:Nat,t5=.int .i64 k/\k<=ks.length/\Hid (wr.ownsRow (w.heap.size+1) 3 1 (.slice (some ⟨w.heap.size+1,0,none⟩) t.nodes.length t.nodes.length) t.nodes.length (zr (aK (L.set m 1) (1+1) (ks.take k))))/\Hid (Below (w.heap.size+1) (boxT w ⟨some ⟨b,o,none⟩,nc,ia,ic⟩ t) wr)) (fun i _=>ks.length-(intOf i).toNat)
    case atStart=>exact⟨0,rfl,Nat.zero_le _,Hd (qU Hf.o m 1),Hd (HB.o.setCell (by simp) _)⟩
    case round=>
     obtain⟨k,rfl,hk,Hc,Hb⟩:=hrel;obtain⟨b50,b51,-,⟨hJ,hy,hA⟩,hh⟩:=boxed Hb.o HT.o;obtain⟨hq,ht⟩:=bcell hh;by_cases hlk:k<ks.length
     .obtain⟨bk,ok,rfl,hF,ck⟩:=Ints.at Hk.o hlk
      obtain⟨hl,hu⟩:=Ha.o _ (List.getElem_mem hlk);obtain⟨c,hc⟩:=Int.eq_ofNat_of_zero_le hl;have hG:c<m:=by omega
      have HC:=Hd hc;rw[hc]at ck;obtain⟨g5,hj,-,-,-,ha,hd⟩:=iC Hc.o (by omega);simp only[Option.some.injEq,Addr.mk.injEq,and_true]at hj;subst hj;have cm:=ha m hg;rw[iJ _ _ (fun x hx=>Ha.o x (List.mem_of_mem_take hx)),List.getD_eq_getElem?_getD,List.getElem?_set,if_pos rfl,if_pos (by have:=Hl.o;omega),Option.getD_some]at cm;have cc:=ha c (by omega);have fc:=hd c;have hE:b<wr.heap.size:=by omega
      have hp:bk<wr.heap.size:=by omega
      have hH:c<t.nodes.length:=by omega
      clear hc hl hu ha hd;go_wp2
      go_roundw
      case rel=>
       refine⟨k+1,by go_num,by omega,Hd ?_,Hd (Hb.o.setCell (by simp) _)⟩;rw[List.take_succ_eq_append_getElem hlk,jG,HC.o];exact qU Hc.o c (1+1)
      case measure=>simp[intOf];omega
     .obtain rfl:k=ks.length:=by omega
      go_wp2
      go_roundw
      case rel=>
       refine⟨(m:Int)-1,by go_num,by omega,by omega,Hd ?_,Hb⟩;have ho:=Hc.o;rw[List.take_length]at ho;rw[show((t.nodes.length:Int)-1-((m:Int)-1)).toNat=((t.nodes.length:Int)-1-m).toNat+1 by omega,eH,<-HL.o,jH,show t.nodes.length-1-((t.nodes.length:Int)-1-m).toNat=m by omega,Hi.o,<-HX.o,Hj.o];exact ho
      case measure=>simp[intOf];try omega
   .have Hj:Hid (max x 1=x):=Hd (by omega)
    have hX:1<=x:=by omega
    have Hg:Hid (L.set m x=L):=Hd (by rw[HX.o];exact CQ L m);go_wp2
    go_loopw [34] (fun t5 wr=>∃k:Nat,t5=.int .i64 k/\k<=ks.length/\Hid (wr.ownsRow (w.heap.size+1) 3 1 (.slice (some ⟨w.heap.size+1,0,none⟩) t.nodes.length t.nodes.length) t.nodes.length (zr (aK (L.set m x) (x+1) (ks.take k))))/\Hid (Below (w.heap.size+1) (boxT w ⟨some ⟨b,o,none⟩,nc,ia,ic⟩ t) wr)) (fun i _=>ks.length-(intOf i).toNat)
    case atStart=>exact⟨0,rfl,Nat.zero_le _,Hd (by rw[Hg.o];exact Hf.o),HB⟩
    case round=>
     obtain⟨k,rfl,hk,Hc,Hb⟩:=hrel;obtain⟨b50,b51,-,⟨hJ,hy,hA⟩,hh⟩:=boxed Hb.o HT.o;obtain⟨hq,ht⟩:=bcell hh;by_cases hlk:k<ks.length
     .obtain⟨bk,ok,rfl,hF,ck⟩:=Ints.at Hk.o hlk
      obtain⟨hl,hu⟩:=Ha.o _ (List.getElem_mem hlk);obtain⟨c,hc⟩:=Int.eq_ofNat_of_zero_le hl;have hG:c<m:=by omega
      have HC:=Hd hc;rw[hc]at ck;obtain⟨g5,hj,-,-,-,ha,hd⟩:=iC Hc.o (by omega);simp only[Option.some.injEq,Addr.mk.injEq,and_true]at hj;subst hj;have cm:=ha m hg;rw[iJ _ _ (fun x hx=>Ha.o x (List.mem_of_mem_take hx)),List.getD_eq_getElem?_getD,List.getElem?_set,if_pos rfl,if_pos (by have:=Hl.o;omega),Option.getD_some]at cm;have cc:=ha c (by omega);have fc:=hd c;have hE:b<wr.heap.size:=by omega
      have hp:bk<wr.heap.size:=by omega
      have hH:c<t.nodes.length:=by omega
      clear hc hl hu ha hd;go_wp2
      go_roundw
      case rel=>
       refine⟨k+1,by go_num,by omega,Hd ?_,Hd (Hb.o.setCell (by simp) _)⟩;rw[List.take_succ_eq_append_getElem hlk,jG,HC.o];exact qU Hc.o c (x+1)
      case measure=>simp[intOf];omega
     .obtain rfl:k=ks.length:=by omega
      go_wp2
      go_roundw
      case rel=>
       refine⟨(m:Int)-1,by go_num,by omega,by omega,Hd ?_,Hb⟩;have ho:=Hc.o;rw[List.take_length]at ho;rw[show((t.nodes.length:Int)-1-((m:Int)-1)).toNat=((t.nodes.length:Int)-1-m).toNat+1 by omega,eH,<-HL.o,jH,show t.nodes.length-1-((t.nodes.length:Int)-1-m).toNat=m by omega,Hi.o,<-HX.o,Hj.o];exact ho
      case measure=>simp[intOf];try omega
  .have hi:i = -1:=by omega
   subst hi;go_wp2;go_ret;have ho:=HO.o;rw[show((t.nodes.length:Int)-1 - -1).toNat=t.nodes.length by omega]at ho;exact⟨some ⟨w.heap.size+1,0,none⟩,t.nodes.length,by simp[dR,aR],by rw[dR,aR];exact gH ho (by omega),hC⟩
theorem LF(a:Option Addr)(c:Nat)(L:List Int)(w:World)(hl:L.length<=1000000)(h0:0<L.length)(hp:0<=L[0])(h:Ints w a c L) :
 Calls prog 68 #[.slice a L.length c] w fun e w'=>e=.returned (intV (maxL L))/\w=w':=by
 have HR:=Hd h;obtain⟨b,o,rfl,hb,ha⟩:=Ints.at h h0;obtain⟨z,hz⟩:∃z,z=L[0]:=⟨_,rfl⟩
 rw[<-hz]at ha hp;have hd:z=maxL (L.take (0+1)):=by rw[qP h0,<-hz];simp[maxL];omega
 have HZ:=Hd hd;clear h hz hd;simp only[Nat.add_zero]at ha;go_enter func68,ntmps68;go_wp2
 go_loop [3,4] (fun t3 t4=>∃(k:Nat) (x:Int),t4=.int .i64 k/\1<=k/\k<=L.length/\t3=intV x/\Hid (x=maxL (L.take k))) (fun _ i=>L.length-(intOf i).toNat)
 case atStart=>exact⟨1,z,rfl,nlr,by omega,rfl,HZ⟩
 case round=>
  obtain⟨k,x,rfl,hf,hk,rfl,HX⟩:=hrel;by_cases hlt:k<L.length
  .obtain⟨b',o',e',he,hc⟩:=Ints.at HR.o hlt
   simp only[Option.some.injEq,Addr.mk.injEq,and_true]at e';obtain⟨rfl,rfl⟩:=e';obtain⟨y,hy⟩:∃y,y=L[k]:=⟨_,rfl⟩
   rw[<-hy]at hc;have HY:=Hd hy;have HS:=Hd (qP hlt);clear hy;by_cases hxy:x<=y
   .have Ha:=Hd hxy
    go_wp2
    all_goals
     go_round
     case rel=>exact⟨k+1,y,by go_num,by omega,by omega,by first|rfl|(have:=Ha.o;go_num),Hd (by rw[HS.o,<-HX.o,<-HY.o];have:=Ha.o;omega)⟩
     case measure=>simp[intOf];omega
   .have Ha:=Hd hxy
    go_wp2
    all_goals
     go_round
     case rel=>exact⟨k+1,x,by go_num,by omega,by omega,by first|rfl|(have:=Ha.o;go_num),Hd (by rw[HS.o,<-HX.o,<-HY.o];have:=Ha.o;omega)⟩
     case measure=>simp[intOf];omega
  .obtain rfl:k=L.length:=by omega
   go_wp2;go_ret;refine⟨zP ?_,rfl⟩;have:=HX.o;rw[List.take_length]at this;exact this
theorem gA(v:TreeV)(t:Tr)(w:World)(bd:Bd t)(hkid:∀i,i<t.nodes.length->∀k∈(t.nd i).kids,0<=k/\k<(i:Int))(h:IsTree w v t) :
 Calls prog 45 #[v.val t] w (kU w (aP t)):=by
 have HT:=Hd h;have BD:=Hd bd;have Hb:=Hd hkid;obtain⟨L,hL⟩:∃L,L=dR t:=⟨_,rfl⟩
 have hd:L.length=t.nodes.length:=by rw[hL,dR,aR]
 have he:t.nodes.length<=1000000:=bd.n
 have hc:∀j (h:j<L.length),0<=L[j]:=by
  intro j h;have:=(lD hkid _ nlr j).1;rw[show eH t t.nodes.length=L by rw[hL,dR],List.getD_eq_getElem?_getD,List.getElem?_eq_getElem h]at this;exact this
 have HL:=Hd hL;have Ha:=Hd hd;have Hc:=Hd hc;clear h bd hkid hL hd hc;obtain⟨na,nc,ia,ic⟩:=v;unfold TreeV.val;go_enter func45,ntmps45;by_cases h0:t.nodes.length=0
 .have HD:Hid (aP t=0):=Hd (by rw[aP,<-HL.o,List.eq_nil_of_length_eq_zero (Ha.o.trans h0)];rfl)
  go_wp2;go_ret;exact⟨zP HD.o.symm,by go_grown⟩
 .go_wp2_with (first
   | (go_at_call 69;refine(xY ⟨na,nc,ia,ic⟩ t _ BD.out Hb.o (HT.o.mono ((Below.refl _ w).alloc nlr _) nlr)).mono ?_;rw[<-HL.o];rintro e w' ⟨a1,c1,rfl,ha,hb⟩;have HR:=Hd (fF ha);have HB:=Hd (((Below.refl _ w).alloc nlr _).trans (hb.mono (by simp)):Below w.heap.size w w');clear ha hb;have He:=Hd (LF a1 c1 L w' (by rw[Ha.o];omega) (by rw[Ha.o];omega) (Hc.o 0 (by rw[Ha.o];omega)) HR.o))
   | (go_at_call 68;refine He.o.mono ?_;rintro e w2 ⟨rfl,rfl⟩))
  go_ret;exact⟨zP (by rw[aP,<-HL.o]),HB.o⟩
theorem yA(D:Nd)(ka:Option Addr)(kc:Nat)(w:World)(hl:D.kids.length<=1000000) :
 Calls prog 112 #[.agg #[.int .u8 D.kind,strV D.text,intV D.n,.slice ka D.kids.length kc,intV D.pos]] w fun e w'=>e=.returned (intV ((D.kids.length:Int)-2))/\Below w.heap.size w w':=by
 go_enter func112,ntmps112;go_wp2;go_ret;exact⟨zP (by go_num),by go_grown⟩
theorem DS(v:TreeV)(t:Tr)(i:Nat)(ka:Option Addr)(kc:Nat)(w:World)(bd:Bd t)(hi:i<t.nodes.length)
 (hc:(t.nd i).kind=40->∃k0 k1:Nat,k0<t.nodes.length/\k1<t.nodes.length/\(t.nd i).kids=[(k0:Int),(k1:Int)] /\ -9999<=(t.nd k0).n/\(t.nd k0).n<=9999 /\ -9999<=(t.nd k1).n/\(t.nd k1).n<=9999)(h:IsTree w v t)(hkr:Ints w ka kc t.nodes[i].kids) :
 Calls prog 72 #[v.val t,.agg #[.int .u8 t.nodes[i].kind,strV t.nodes[i].text,intV t.nodes[i].n,.slice ka t.nodes[i].kids.length kc,intV t.nodes[i].pos]] w (zL w (eU t i)):=by
 have hA:prog.follows .mixedOrders=true:=by kernel_rfl
 have HT:=Hd h;have hB:=bd.n;have hh:=bd.k _ (List.getElem_mem hi);obtain⟨na,nc,ia,ic⟩:=v;have hd:=t.nd_at hi;obtain⟨D,hD⟩:∃D,t.nodes[i]=D:=⟨_,rfl⟩
 rw[hD]at hkr hh hd|-;rw[hd]at hc;have Hc:=Hd hd;have HC:=Hd hc;have Hb:=Hd hkr;clear h bd hD hd hkr hc;unfold TreeV.val;by_cases h40:D.kind=40
 .obtain⟨k0,k1,hf,hg,hb,hm,ho,hp,hq⟩:=HC.o h40
  have hj:D.kids.length=2:=by rw[hb];rfl
  obtain⟨bk,ok,rfl,hw,ck0⟩:=Ints.at Hb.o (i:=0) (by omega);obtain⟨bk',ok',ek,-,ck1⟩:=Ints.at Hb.o (i:=1) (by omega);simp only[Option.some.injEq,Addr.mk.injEq,and_true]at ek;obtain⟨rfl,rfl⟩:=ek;simp only[hb,List.getElem_cons_zero,List.getElem_cons_succ,Nat.add_zero]at ck0 ck1;obtain⟨p0,q0,_,_,e0,hC,-,-,f0,-,-,-⟩:=HT.o.nodes.at hf;obtain⟨p1,q1,_,_,e1,hE,-,-,f1,-,-,-⟩:=HT.o.nodes.at hg;simp only at e0 e1;subst e0;simp only[Option.some.injEq,Addr.mk.injEq,and_true]at e1;obtain⟨e1a,e1b⟩:=e1;subst e1a;subst e1b;rw[t.nd_at hf]at hm ho;rw[t.nd_at hg]at hp hq;obtain⟨x,hx⟩:∃x,x=t.nodes[k0].n:=⟨_,rfl⟩
  obtain⟨y,hy⟩:∃y,y=t.nodes[k1].n:=⟨_,rfl⟩
  rw[<-hx]at f0 hm ho;rw[<-hy]at f1 hp hq
  have hs:eU t i=zv (y-x+1) 1 12:=by
   rw[eU,Hc.o,h40,hb];simp[t.nd_at hf,t.nd_at hg,<-hx,<-hy]
  have HS:=Hd hs;have ha:(D.kind==40)=true:=by simpa using h40
  have hr:bk<w.heap.size+1:=by omega
  have ht:bk<w.heap.size+1+1:=by omega
  have hu:p0<w.heap.size+1:=by omega
  have hv:p0<w.heap.size+1+1:=by omega
  rw[hj];clear hx hy hs hb h40;go_enter func72,ntmps72;go_wp2
  go_quiet (fail)
  go_wp2_with (go_at_call 111;refine(zy _ _ _ _).mono ?_;rintro e w' ⟨rfl,rfl⟩)
  go_ret;exact⟨ze HS.o.symm,below_drewN (((Below.refl _ w).alloc nlr _).alloc (by simp) _) _⟩
 .have ha:(D.kind==40)=false:=by simpa using h40
  have hs:eU t i=if D.kind==41 then decide ((D.kids.length:Int)<=6)else if D.kind==42 then decide ((D.kids.length:Int)-2<=4)&&decide (D.n<=8)else if D.kind==33 then zv D.n 1 6 else if D.kind==26 then decide ((D.kids.length:Int)<=6)else if D.kind==46 then D.n != 8||decide ((D.kids.length:Int)<=4)else true:=by
   rw[eU,Hc.o,ha];rfl
  have Ha:∀W,Calls prog 112 #[.agg #[.int .u8 D.kind,strV D.text,intV D.n,.slice ka D.kids.length kc,intV D.pos]] W fun e w'=>e=.returned (intV ((D.kids.length:Int)-2))/\Below W.heap.size W w':=fun W=>yA D ka kc W hh;obtain⟨k,hk⟩:∃k,k=D.kind:=⟨_,rfl⟩
  obtain⟨n,hn⟩:∃n,n=D.n:=⟨_,rfl⟩
  obtain⟨l,hl⟩:∃l,l=D.kids.length:=⟨_,rfl⟩
  rw[<-hk,<-hn,<-hl]at hs Ha|-;rw[<-hk]at ha;rw[<-hl]at hh;have HS:=Hd hs;have HP:=Hd Ha;clear hs hk hn hl h40 Ha;go_enter func72,ntmps72
  go_wp2_with (first
   | (go_at_call 112;refine(HP.o _).mono ?_;rintro e w' ⟨rfl,he⟩;have hz:w'.cell? ⟨w.heap.size+1,2,none⟩=some (intV n):=(he.cell (p:=⟨w.heap.size+1,2,none⟩) (by simp)).trans (by simp);have He:Hid (Below w.heap.size w w'):=Hd ((((Below.refl _ w).alloc nlr _).alloc (by simp) _).trans (he.mono (by simp;omega)));clear he)
   | (go_at_call 111;refine(zy _ _ _ _).mono ?_;rintro e w' ⟨rfl,rfl⟩))
  all_goals
   go_ret;refine⟨ze ?_,by first|exact He.o|exact(((Below.refl _ w).alloc nlr _).alloc (by simp) _)⟩;rw[HS.o]
   (try simp_all)<;>(try omega)
theorem FP(v:TreeV)(t:Tr)(i s:Nat)(ka:Option Addr)(kc:Nat)(w:World)(bd:Bd t)(hi:i<t.nodes.length)
 (hc:(t.nd i).kind=40->∃k0 k1:Nat,k0<t.nodes.length/\k1<t.nodes.length/\(t.nd i).kids=[(k0:Int),(k1:Int)] /\ -9999<=(t.nd k0).n/\(t.nd k0).n<=9999 /\ -9999<=(t.nd k1).n/\(t.nd k1).n<=9999)(h:IsTree w v t)(hkr:Ints w ka kc t.nodes[i].kids)
 (h0:w.cell? ⟨s,0,none⟩=some (.slice v.na t.nodes.length v.nc))(h1:w.cell? ⟨s,1,none⟩=some (.slice v.ia t.items.length v.ic)) :
 Calls prog 71 #[.agg #[.int .u8 t.nodes[i].kind,strV t.nodes[i].text,intV t.nodes[i].n,.slice ka t.nodes[i].kids.length kc,intV t.nodes[i].pos],.pointer (some ⟨s,0,none⟩)] w (zL w (!eU t i)):=by
 have HS:∀W,Below w.heap.size w W->Calls prog 72 #[v.val t,.agg #[.int .u8 t.nodes[i].kind,strV t.nodes[i].text,intV t.nodes[i].n,.slice ka t.nodes[i].kids.length kc,intV t.nodes[i].pos]] W (zL W (eU t i)):=
  fun W hW=>DS v t i ka kc W bd hi hc (h.mono hW nlr) (hkr.mono hW nlr)
 obtain⟨D,hD⟩:∃D,t.nodes[i]=D:=⟨_,rfl⟩
 rw[hD]at HS|-;obtain⟨y,hy⟩:∃y,eU t i=y:=⟨_,rfl⟩
 rw[hy]at HS|-;have Hb:=Hd HS;have hs:=World.block_lt_of_cell? w ⟨s,0,none⟩ h0;simp only at hs;have hb:¬s=w.heap.size:=by omega
 clear h bd hD hkr hc HS hy;unfold TreeV.val at *;go_enter func71,ntmps71
 go_wp2_with (go_at_call 72;refine(Hb.o _ (by go_grown)).mono ?_;rintro e w' ⟨rfl,ha⟩;have Ha:Hid (Below w.heap.size w w'):=Hd (((Below.refl _ w).alloc nlr _).trans (ha.mono (by simp)));clear ha)
 go_ret;exact⟨rfl,Ha.o⟩
def Choices(t:Tr):Prop:=∀i,i<t.nodes.length->(t.nd i).kind=40->∃k0 k1:Nat,k0<t.nodes.length/\k1<t.nodes.length/\(t.nd i).kids=[(k0:Int),(k1:Int)] /\ -9999<=(t.nd k0).n/\(t.nd k0).n<=9999 /\ -9999<=(t.nd k1).n/\(t.nd k1).n<=9999
theorem xP(v:TreeV)(t:Tr)(s:Nat)(w:World)(bd:Bd t)(hc:Choices t)(h:IsTree w v t)
 (h0:w.cell? ⟨s,0,none⟩=some (.slice v.na t.nodes.length v.nc))(h1:w.cell? ⟨s,1,none⟩=some (.slice v.ia t.items.length v.ic)) :
 Calls prog 70 #[.slice v.na t.nodes.length v.nc,.func (.func 71) #[] #[.pointer (some ⟨s,0,none⟩)]] w (kU w (aD t)):=by
 have hs:=World.block_lt_of_cell? w ⟨s,0,none⟩ h0;simp only at hs
 have HS:∀(i:Nat) (hi:i<t.nodes.length) ka kc W,Below w.heap.size w W->Ints W ka kc t.nodes[i].kids->Calls prog 71 #[.agg #[.int .u8 t.nodes[i].kind,strV t.nodes[i].text,intV t.nodes[i].n,.slice ka t.nodes[i].kids.length kc,intV t.nodes[i].pos],.pointer (some ⟨s,0,none⟩)] W (zL W (!eU t i)):=
  fun i hi ka kc W hW hk=>FP v t i s ka kc W bd hi (hc i hi) (h.mono hW nlr) hk ((hW.cell (p:=⟨s,0,none⟩) hs).trans h0) ((hW.cell (p:=⟨s,1,none⟩) hs).trans h1)
 have Hc:=Hd HS;have HT:=Hd h;have he:=bd.n;obtain⟨na,nc,ia,ic⟩:=v;clear h bd hc h0 h1 HS hs;go_enter func70,ntmps70;go_wp2
 go_loopw [8] (fun t8 wr=>∃k:Nat,t8=.int .i64 k/\k<=t.nodes.length/\Hid (aD t=first (fun i=>!eU t i) t.nodes.length k)/\Hid (Below w.heap.size w wr)) (fun t8 _=>t.nodes.length-(intOf t8).toNat)
 case atStart=>exact⟨0,rfl,Nat.zero_le _,Hd rfl,Hd brf⟩
 case round=>
  obtain⟨k,rfl,hk,HA,HB⟩:=hrel;by_cases hlt:k<t.nodes.length
  .obtain⟨b,o,ka,kc,ea,hb,c0,c1,c2,c3,c4,hd⟩:=(HT.o.mono HB.o nlr).nodes.at hlt
   simp only at ea;subst ea;have HC:=Hc.o k hlt ka kc wr HB.o hd;obtain⟨D,hD⟩:∃D,t.nodes[k]=D:=⟨_,rfl⟩
   rw[hD]at HC c0 c1 c2 c3 c4;obtain⟨y,hy⟩:∃y,(!eU t k)=y:=⟨_,rfl⟩
   rw[hy]at HC;have Hb:=Hd HC;have HY:=Hd hy;clear hD hd HC hy
   cases y with
   | true=>
     go_wp2_with (go_at_call 71;refine Hb.o.mono ?_;rintro e w' ⟨rfl,ha⟩;have Ha:Hid (Below w.heap.size w w'):=Hd (HB.o.trans (ha.mono HB.o.size));clear ha)
     go_ret;exact⟨zP (by rw[HA.o];exact(zX hlt HY.o).symm),Ha.o⟩
   | false=>
     go_wp2_with (go_at_call 71;refine Hb.o.mono ?_;rintro e w' ⟨rfl,ha⟩;have Ha:Hid (Below w.heap.size w w'):=Hd (HB.o.trans (ha.mono HB.o.size));clear ha)
     go_roundw
     case rel=>exact⟨k+1,by go_num,by omega,Hd (by rw[HA.o];exact bV hlt HY.o),Ha⟩
     case measure=>simp[intOf];omega
  .go_wp2
   go_ret;exact⟨zP (by rw[HA.o];exact(bQ (by omega)).symm),HB.o⟩
theorem iE(v:TreeV)(t:Tr)(w:World)(bd:Bd t)(hc:Choices t)(h:IsTree w v t) :
 Calls prog 46 #[v.val t] w (kU w (aD t)):=by
 have HX:=Hd (xP v t w.heap.size (boxT w v t) bd hc (h.mono ((Below.refl _ w).alloc nlr _) nlr) (by simp) (by simp));clear h bd hc;unfold TreeV.val;go_enter func46,ntmps46
 go_wp2_with (go_at_call 70;refine HX.o.mono ?_;rintro e w' ⟨rfl,ha⟩;have Ha:Hid (Below w.heap.size w w'):=Hd (((Below.refl _ w).alloc nlr _).trans (ha.mono (by simp)));clear ha)
 go_ret;exact⟨rfl,Ha.o⟩
theorem qH{E:PE}(tk:mV E):Good1 E (iM E):=by
 intro s a s' hs h;unfold iM at h;split at h
 .rename_i hi
  have hb:=eX hi;obtain⟨s1,h1,h2⟩:=bind_ok.1 h;obtain⟨rfl,ha,hk⟩:=bY (by decide) h1;obtain⟨rfl,rfl⟩:=aY h2;have hv:=tk _ (dV ha) hk;exact cM ((((Adv.refl hs).take hb).take ha).less (by omega)) (ndok cE (by simp) (by omega) (by omega) (.inl rfl) (by omega))
 .obtain⟨s1,h1,h2⟩:=bind_ok.1 h
  obtain⟨rfl,ha,hk⟩:=bY (by decide) h1;obtain⟨rfl,rfl⟩:=aY h2;have hv:=tk _ (dV ha) hk;exact cM ((Adv.refl hs).take ha) (ndok cE (by simp) (by omega) (by omega) (.inl rfl) (by omega))
def Item1(E:PE)(s0:PS)(r:PR (Int×PS)):Prop:=∀a s',r=.ok (a,s')->Rd E s0 a s'
theorem EC{E:PE}(tk:mV E){own:Tk}{s0 s:PS}(ad:Adv E 1 s0 s):Item1 E s0 (lC E own s):=by
 intro a s' h;unfold lC at h;obtain⟨s1,h1,h2⟩:=bind_ok.1 h;obtain⟨rfl,ha,-⟩:=bY (by decide) h1;obtain⟨s2,h3,h4⟩:=bind_ok.1 h2;obtain⟨rfl,hb⟩:=bB h3;obtain⟨⟨b,c⟩,h5,h6⟩:=bind_ok.1 h4;obtain⟨s4,h7,h8⟩:=bind_ok.1 h6;obtain⟨rfl,hc⟩:=bB h7;obtain⟨⟨d,e⟩,h9,hd⟩:=bind_ok.1 h8;obtain⟨rfl,rfl⟩:=aY hd;have r:=qH tk s.take.take b c (by simp only[PS.take]at hb|-;omega) h5;have r2:=qH tk c.take d e (by simp only[PS.take]at hc|-;omega) h9;have l2:=r2.adv.len;have a1:=r.lo;have a2:=r2.lo;have b1:=r.hi;have b2:=r2.hi;simp only[PS.take]at l2 a1 a2;refine cM (((((ad.take ha).take hb).trans r.adv).take hc).trans r2.adv |>.less (by omega)) (ndok ?_ (by simp) (by omega) (by omega) (.inr (fH ha)) (fun _=>⟨_,_,rfl⟩));intro k hk;simp only[List.mem_cons,List.not_mem_nil,or_false]at hk;simp only;rcases hk with rfl|rfl<;>omega
theorem EU{E:PE}{param:RdP}(g:Good1 E param){own:Tk}{s0 s:PS}(ad:Adv E 1 s0 s):Item1 E s0 (lI param E own s):=by
 intro a s' h;unfold lI at h;obtain⟨s1,h1,h2⟩:=bind_ok.1 h;obtain⟨rfl,ha,-⟩:=bY (by decide) h1;obtain⟨s2,h3,h4⟩:=bind_ok.1 h2;obtain⟨rfl,hc⟩:=bB h3;obtain⟨s3,h5,h6⟩:=bind_ok.1 h4;obtain⟨rfl,hb⟩:=bB h5;obtain⟨⟨l,c⟩,h7,h8⟩:=bind_ok.1 h6;obtain⟨s5,h9,he⟩:=bind_ok.1 h8;obtain⟨rfl,hd⟩:=bB h9;obtain⟨rfl,rfl⟩:=aY he;obtain⟨k1,k2,k3⟩:=kM g (by simp only[PS.take]at hb|-;omega) h7;have hl:=k1.le;exact cM ((((((ad.take ha).take hc).take hb).trans k1).take hd).less (by omega)) (ndok (by simpa[PS.take]using k2) (by dsimp only;omega) (by omega) (by omega) (.inr (fH ha)) (by omega))
theorem NY{E:PE}(tk:mV E){s s':PS}{n:Int}(hs:s.next<=E.toks.length)(h:uE E s=.ok (n,s')):Adv E 0 s s'/\0<=n/\n<=9999/\s'.nodes=s.nodes:=by
 unfold uE at h;split at h
 .rename_i hi
  have hb:=eX hi;split at h
  .cases h
  .obtain⟨s1,h1,h2⟩:=bind_ok.1 h
   obtain⟨rfl,ha,hk⟩:=bY (by decide) h1;simp only[Except.ok.injEq,Prod.mk.injEq]at h2;obtain⟨rfl,rfl⟩:=h2;have hv:=tk _ (dV ha) hk;exact⟨(((Adv.refl hs).take hb).take ha).less (by omega),hv.1,hv.2,rfl⟩
 .simp only[Except.ok.injEq,Prod.mk.injEq]at h
  obtain⟨rfl,rfl⟩:=h;exact⟨Adv.refl hs,by omega,by omega,rfl⟩
theorem vR{E:PE}(tk:mV E){param kindOf expr:RdP}(gp:Good1 E param)(gk:Good1 E kindOf)(ge:Good1 E expr){own:Tk}{s0 s:PS}(ad:Adv E 1 s0 s):Item1 E s0 (fS param kindOf expr E own s):=by
 intro a s' h;unfold fS at h;obtain⟨s1,h1,h2⟩:=bind_ok.1 h;obtain⟨rfl,hb,-⟩:=bY (by decide) h1;obtain⟨s2,h3,h4⟩:=bind_ok.1 h2;obtain⟨rfl,ha⟩:=bB h3;obtain⟨⟨l,c⟩,h5,h6⟩:=bind_ok.1 h4;obtain⟨s4,h7,h8⟩:=bind_ok.1 h6;obtain⟨rfl,he⟩:=bB h7;obtain⟨s5,h9,hf⟩:=bind_ok.1 h8;obtain⟨rfl,hc⟩:=bB h9;obtain⟨⟨k,d⟩,hg,hh⟩:=bind_ok.1 hf;obtain⟨⟨u,e⟩,hj,hk⟩:=bind_ok.1 hh;obtain⟨s8,hm,hn⟩:=bind_ok.1 hk;obtain⟨rfl,hd⟩:=bB hm;obtain⟨⟨x,f⟩,ho,hp⟩:=bind_ok.1 hn;obtain⟨rfl,rfl⟩:=aY hp
 obtain⟨k1,k2,k3⟩:Adv E 0 s.take.take c/\(∀k∈l,0<=k/\k<(c.nodes.length:Int))/\l.length+s.take.take.next<=c.next:=by
  split at h5
  .simp only[Except.ok.injEq,Prod.mk.injEq]at h5
   obtain⟨rfl,rfl⟩:=h5;exact⟨Adv.refl (by simp only[PS.take]at ha|-;omega),cE,by simp⟩
  .exact kM gp (by simp only[PS.take]at ha|-;omega) h5
 have r1:=gk c.take.take k d (by simp only[PS.take]at hc|-;omega) hg;obtain⟨u1,u2,u3,u4⟩:=NY tk r1.adv.le hj;have r2:=ge e.take x f (by simp only[PS.take]at hd|-;omega) ho;have l1:=r1.adv.len;have l2:=r2.adv.len;have l0:=k1.len;have a1:=r1.lo;have a2:=r2.lo;have b1:=r1.hi;have b2:=r2.hi;have hl:=k1.le;have hq:=u1.len;simp only[PS.take]at l1 l2 a1 a2 l0 hq k3;refine cM (((((((((ad.take hb).take ha).trans k1).take he).take hc).trans r1.adv).trans u1).take hd).trans r2.adv |>.less (by omega)) (ndok ?_ (by simp;omega) (by omega) (by omega) (.inr (fH hb)) (by omega));intro y hy;simp only[List.mem_append,List.mem_cons,List.not_mem_nil,or_false]at hy;simp only;rcases hy with(hy|rfl) | rfl
 .have:=k2 y hy;omega
 .omega
 .omega
theorem KE{E:PE}{rd:RdP}(g:Good1 E rd){k:Int}{x:List UInt8}(hk:1<=k/\k<=46/\k≠40){own:Tk}{s0 s:PS}(ad:Adv E 1 s0 s) :
 Item1 E s0 ((bX E s 1).bind fun s1=>(cG E s1 x).bind fun s2=>(rd s2).bind fun e=>addR e.2 k own (zg E s).text 0 [e.1]):=by
 intro a s' h;obtain⟨s1,h1,h2⟩:=bind_ok.1 h;obtain⟨rfl,ha,-⟩:=bY (by decide) h1;obtain⟨s2,h3,h4⟩:=bind_ok.1 h2;obtain⟨rfl,hb⟩:=bB h3;obtain⟨⟨b,c⟩,h5,h6⟩:=bind_ok.1 h4;obtain⟨rfl,rfl⟩:=aY h6;have r:=g s.take.take b c (by simp only[PS.take]at hb|-;omega) h5;have hc:=r.lo;exact cM ((((ad.take ha).take hb).trans r.adv).less (by omega)) (ndok (mE (by omega) r.hi) (by simp) (by omega) (by omega) (.inr (fH ha)) (by omega))
theorem AM{E:PE}{own:Tk}{s0 s:PS}(ad:Adv E 1 s0 s):Item1 E s0 (iQ E own s):=by
 intro a s' h;unfold iQ at h;obtain⟨s1,h1,h2⟩:=bind_ok.1 h;obtain⟨rfl,ha,-⟩:=bY (by decide) h1;obtain⟨rfl,rfl⟩:=aY h2;exact cM ((ad.take ha).less (by omega)) (ndok cE (by simp) (by omega) (by omega) (.inr (fH ha)) (by omega))
theorem wJ(x:List UInt8):0<=gI x/\gI x<=8:=by
 unfold gI
 repeat' split
 all_goals omega
theorem LV{E:PE}{expr:RdP}(g:Good1 E expr){own:Tk}{s0 s:PS}(ad:Adv E 1 s0 s):Item1 E s0 (yN expr E own s):=by
 intro a s' h;have hq:=wJ (zg E s).text;unfold yN at h;cases hz:(gI (zg E s).text==0)with
 |true=>rw[if_pos hz]at h;cases h
 | false=>
   rw[if_neg (by rw[hz];exact Bool.false_ne_true)]at h;have ha:s.next<E.toks.length:=gG (kinds:=gI) (by decide) hz;obtain⟨⟨l,c⟩,h1,h2⟩:=bind_ok.1 h;obtain⟨rfl,rfl⟩:=aY h2
   obtain⟨k1,k2,k3⟩:Adv E 0 s.take c/\(∀k∈l,0<=k/\k<(c.nodes.length:Int))/\l.length+s.take.next<=c.next:=by
    split at h1
    .simp only[Except.ok.injEq,Prod.mk.injEq]at h1
     obtain⟨rfl,rfl⟩:=h1;exact⟨Adv.refl (by simp only[PS.take];omega),cE,by simp⟩
    .split at h1
     .exact kM g (by simp only[PS.take];omega) h1
     .obtain⟨⟨b,d⟩,h3,h4⟩:=bind_ok.1 h1
      simp only[Except.ok.injEq,Prod.mk.injEq]at h4;obtain⟨rfl,rfl⟩:=h4;have r:=g s.take b d (by simp only[PS.take];omega) h3;have hb:=r.lo;have hm:=r.more;exact⟨r.adv,mE (by omega) r.hi,by simp;omega⟩
   have hl:=k1.le;exact cM (((ad.take ha).trans k1).less (by omega)) (ndok k2 (by dsimp only;omega) (by omega) (by omega) (.inl rfl) (by omega))
theorem ML{E:PE}(tk:mV E):Good1 E (qK E):=by
 intro s a s' hs h;unfold qK at h;cases hk:((zg E s).kind != 3)with
 |true=>rw[if_pos hk]at h;cases h
 | false=>
   rw[if_neg (by rw[hk];exact Bool.false_ne_true)]at h;have ha:s.next<E.toks.length:=qM (k:=3) (by decide) (by simpa using hk);have ad:=(Adv.refl hs).take ha;have G:=fun nt=>wE tk (PN E) nt;split at h
   .exact EC tk ad a s' h
   .split at h
    .exact EU (G .param) ad a s' h
    .split at h
     .exact vR tk (G .param) (G .kindOf) (G .expr) ad a s' h
     .split at h
      .exact KE (G .expr) (k:=43) (by omega) ad a s' h
      .split at h
       .exact KE (G .expr) (k:=44) (by omega) ad a s' h
       .split at h
        .exact AM ad a s' h
        .split at h
         .exact LV (G .expr) ad a s' h
         .cases h
theorem qX{E:PE}(tk:mV E):∀(f:Nat) (l:List Int) (s:PS) (l':List Int) (s':PS),s.next<=E.toks.length->(∀k∈l,0<=k/\k<(s.nodes.length:Int))->bL E f l s=.ok (l',s') ->
 Adv E 0 s s'/\(∀k∈l',0<=k/\k<(s'.nodes.length:Int))/\l'.length+s.next<=l.length+s'.next
 | 0,l,s,l',s',hs,hl,h=>by
   simp only[bL,Except.ok.injEq,Prod.mk.injEq]at h;obtain⟨rfl,rfl⟩:=h;exact⟨Adv.refl hs,hl,nlr⟩
 | f+1,l,s,l',s',hs,hl,h=>by
   rw[bL]at h;split at h
   .obtain⟨⟨a,b⟩,h1,h2⟩:=bind_ok.1 h
    obtain⟨s2,h6,h7⟩:=bind_ok.1 h2;obtain⟨rfl,ha⟩:=bB h6;have r:=ML tk s a b hs h1;have hb:=r.adv.len;have hd:=r.lo;have hc:=r.hi;have hm:=r.more
    obtain⟨h3,h4,h5⟩:=qX tk f _ b.take l' s' (by simp only[PS.take]at ha|-;omega) (by
     intro k hk;simp only[PS.take];rcases List.mem_append.1 hk with hk|hk
     .have:=hl k hk;omega
     .obtain rfl:=List.mem_singleton.1 hk
      omega) h7
    refine⟨((r.adv.take ha).trans h3).less (by omega),h4,?_⟩;simp only[List.length_append,List.length_singleton,PS.take]at h5;omega
   .simp only[Except.ok.injEq,Prod.mk.injEq]at h
    obtain⟨rfl,rfl⟩:=h;exact⟨Adv.refl hs,hl,nlr⟩
structure TreeOk (E:PE) (t:Tr):Prop where
 n:t.nodes.length<=E.toks.length
 i:t.items.length<=E.toks.length
 nd:∀i d,t.nodes[i]?=some d->NdOk E i d
 it:∀k∈t.items,0<=k/\k<(t.nodes.length:Int)
theorem CV{E:PE}(tk:mV E){t:Tr}(h:oJ E=.ok t):TreeOk E t:=by
 unfold oJ at h;cases hp:bL E (E.toks.length+1) [] ⟨0,[]⟩with
 |error e=>rw[hp]at h;cases h
 | ok r=>
   rw[hp]at h;obtain rfl:=Except.ok.inj h;obtain⟨l,s'⟩:=r;obtain⟨h1,h2,h3⟩:=qX tk _ [] ⟨0,[]⟩ l s' (Nat.zero_le _) cE hp;have hl:=h1.len;have hle:=h1.le;simp only[List.length_nil]at hl h3;exact⟨by simp only;omega,by simp only;omega,fun i d hd=>h1.ok i d (Nat.zero_le _) hd,h2⟩
theorem TreeOk.bd{E:PE}{t:Tr}(h:TreeOk E t)(hE:E.toks.length<=800)(hT:∀x∈E.toks,x.text.length<=1000000000):Bd t:=by
 have h1:=h.n;have h2:=h.i;refine⟨by omega,by omega,fun d hd=>?_,fun d hd=>?_⟩
 .obtain⟨i,hi,rfl⟩:=List.getElem_of_mem hd
  have:=(h.nd i _ (List.getElem?_eq_getElem hi)).kids;omega
 .obtain⟨i,hi,rfl⟩:=List.getElem_of_mem hd
  rcases(h.nd i _ (List.getElem?_eq_getElem hi)).text with e|⟨x,hx,e⟩
  .rw[e];simp
  .rw[e];exact hT x hx
theorem TreeOk.at_{E:PE}{t:Tr}(h:TreeOk E t){i:Nat}(hi:i<t.nodes.length):NdOk E i (t.nd i):=by
 rw[t.nd_at hi];exact h.nd i _ (List.getElem?_eq_getElem hi)
theorem TreeOk.rg{E:PE}{t:Tr}(h:TreeOk E t):Rg t:=fun i hi=>by
 have:=(h.at_ hi).n;omega
theorem TreeOk.kid{E:PE}{t:Tr}(h:TreeOk E t):∀i,i<t.nodes.length->∀k∈(t.nd i).kids,0<=k/\k<(i:Int):=fun _ hi=>(h.at_ hi).kid
theorem TreeOk.choices{E:PE}{t:Tr}(h:TreeOk E t):Choices t:=by
 intro i hi hk;have ok:=h.at_ hi;obtain⟨k0,k1,e⟩:=ok.choose hk;have a0:=ok.kid k0 (by rw[e];simp);have a1:=ok.kid k1 (by rw[e];simp);obtain⟨m0,rfl⟩:=Int.eq_ofNat_of_zero_le a0.1;obtain⟨m1,rfl⟩:=Int.eq_ofNat_of_zero_le a1.1;have n0:=(h.at_ (i:=m0) (by omega)).n;have n1:=(h.at_ (i:=m1) (by omega)).n;exact⟨m0,m1,by omega,by omega,e,n0.1,n0.2,n1.1,n1.2⟩
end
end Go.Proofs.YthjpoaannjgdmaaGreatDoor
