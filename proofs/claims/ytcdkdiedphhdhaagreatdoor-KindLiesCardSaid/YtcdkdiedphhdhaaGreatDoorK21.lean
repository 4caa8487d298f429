/- Part of a proof. -/
import Derived.Test.YtcdkdiedphhdhaaGreatDoorK18
import Derived.Test.YtcdkdiedphhdhaaGreatDoorK19
import Derived.Test.YtcdkdiedphhdhaaGreatDoorK20
set_option maxRecDepth 100000
set_option maxHeartbeats 8000000
set_option linter.unusedVariables false
set_option linter.unusedSimpArgs false
open Go.Proofs.Tryz
namespace Go.Proofs.YtcdkdiedphhdhaaGreatDoor
section
open Go.RowKit
theorem uS(d:Nd)(ka:Option Addr)(kc:Nat)(w:World)(h1:d.kind=23):Calls prog 153 #[ndV d ka kc] w (zJ w (some ⟨false,0,0,[(2,2,.expr)]⟩)):=by
 have hi:prog.follows .mixedOrders=true:=by kernel_rfl
 unfold ndV;obtain⟨k,hk⟩:∃k,d.kind=k:=⟨_,rfl⟩
 rw[hk]at h1|-;clear hk;subst h1;go_enter func153,ntmps153;go_wp2;refine oP (Ahead w 23) ⟨by go_simp,⟨by go_simp,by go_simp,by go_simp;rfl⟩,((show Below (w.heap.size+1+1) ((w.alloc (.cells #[.int .u8 23,strV d.text,intV d.n,.slice ka d.kids.length kc,intV d.pos] 31)).alloc (.cells #[.bool false,intV 0,intV 0,.slice none 0 0] 210)) _ from by go_grown).block (w.heap.size+1) (by omega)).trans (by have:=heap_alloc_new (w.alloc (.cells #[.int .u8 23,strV d.text,intV d.n,.slice ka d.kids.length kc,intV d.pos] 31)) (.cells #[.bool false,intV 0,intV 0,.slice none 0 0] 210);rwa[World.size_alloc]at this),by go_grown,by simp⟩ ?_;intro W0 hA;have HA:=Hd hA;obtain⟨_,_,hl,hd,hj⟩:=hA;have ha:w.heap.size+1<W0.heap.size:=by omega
 have Ha:=Hd hd;clear hd hj;refine N.region_M 18 hi (by kernel_rfl) (by kernel_rfl) rfl (by kernel_rfl) (by kernel_rfl) (fun _ _=>False) N.Pans.no (SJs w W0) (SKs w) ⟨N.Off.of_below (brf.drew),.inl hl⟩ [.fix ?vS0,.fix ?vS1,.dep [] (N.NewS W0.heap.size #[intV 2,intV 2,PK.V .expr] 239 1),.dep [2] (fun l v _=>v=.agg #[.bool false,intV 0,intV 0,l.getD 0 undef]),.fix ?vS4,.fix ?vS5,.fix ?vS6,.fix ?vS7,.fix ?vS8,.fix ?vS9,.fix ?vS10,.fix ?vS11,.fix ?vS12,.fix ?vS13,.fix ?vS14,.fix ?vS15,.fix ?vS16,.dep [] (fun _ _ W=>W.heap[w.heap.size+1]?≠some ZS)] [[],[],[],[2],[],[],[],[],[],[],[],[],[],[],[],[],[],[]] rfl (by kernel_rfl) (N.sts_kd ⟨trivial,trivial,N.NewS.stK ha,(fun _ _ _ _ _ h=>h),trivial,trivial,trivial,trivial,trivial,trivial,trivial,trivial,trivial,trivial,trivial,trivial,trivial,(fun _ _ _ _ hk h=>hk.2 h),trivial⟩) fun x=>?_;rotate_left 15;refine N.WalkM.fix ?s0 ?r0;case s0=>refine N.StepS.known rfl (fun _=>N.SK.refl _ _ _) ?_;intro W hJ hP;obtain⟨j0,j1,j2,j3⟩:=zm HA.o hJ;go_simp;try rfl
 simp only[N.pz];refine N.WalkM.fix ?s1 ?r1;case s1=>refine N.StepS.known rfl (fun _=>N.SK.refl _ _ _) ?_;intro W hJ hP;obtain⟨j0,j1,j2,j3⟩:=zm HA.o hJ;go_simp;try rfl
 simp only[N.pz];refine N.WalkM.dep ?s2 ?r2;case s2=>exact N.StepS.runs rfl (fun W hJ _=>⟨_,_,by(go_simp;try rfl),hJ.of_below ha (brf.alloc nlr _),N.SK.of_below (hJ.lt ha) (brf.alloc nlr _),⟨W.heap.size,rfl,hJ.1.size,heap_alloc_new _ _⟩⟩)
 simp only[N.pz];refine N.WalkM.dep ?s3 ?r3;case s3=>(refine N.StepS.call' (f:=185) (args:=#[x 2]) rfl ?_ ?_;(intro W hJ hP;(go_simp;try rfl));(intro W hJ hP;obtain⟨g,hg,_,_⟩:N.NewS W0.heap.size #[intV 2,intV 2,PK.V .expr] 239 1 [] (x 2) W:=hP 2 (by kernel_rfl);rw[hg];refine(lP _ _ _ _).mono ?_;rintro e w' ⟨rfl,hb⟩;exact⟨_,rfl,hJ.of_below ha hb,N.SK.of_below (hJ.lt ha) hb,by simp[hg]⟩))
 simp only[N.pz];refine N.WalkM.fix ?s4 ?r4;case s4=>refine N.StepS.known rfl (fun _=>N.SK.refl _ _ _) ?_;intro W hJ hP;obtain⟨j0,j1,j2,j3⟩:=zm HA.o hJ;go_simp;try rfl
 simp only[N.pz];refine N.WalkM.fix ?s5 ?r5;case s5=>refine N.StepS.known rfl (fun _=>N.SK.refl _ _ _) ?_;intro W hJ hP;obtain⟨j0,j1,j2,j3⟩:=zm HA.o hJ;go_simp;try rfl
 simp only[N.pz];refine N.WalkM.fix ?s6 ?r6;case s6=>refine N.StepS.known rfl (fun _=>N.SK.refl _ _ _) ?_;intro W hJ hP;obtain⟨j0,j1,j2,j3⟩:=zm HA.o hJ;go_simp;try rfl
 simp only[N.pz];refine N.WalkM.fix ?s7 ?r7;case s7=>refine N.StepS.known rfl (fun _=>N.SK.refl _ _ _) ?_;intro W hJ hP;obtain⟨j0,j1,j2,j3⟩:=zm HA.o hJ;go_simp;try rfl
 simp only[N.pz];refine N.WalkM.fix ?s8 ?r8;case s8=>refine N.StepS.known rfl (fun _=>N.SK.refl _ _ _) ?_;intro W hJ hP;obtain⟨j0,j1,j2,j3⟩:=zm HA.o hJ;go_simp;try rfl
 simp only[N.pz];refine N.WalkM.fix ?s9 ?r9;case s9=>refine N.StepS.known rfl (fun _=>N.SK.refl _ _ _) ?_;intro W hJ hP;obtain⟨j0,j1,j2,j3⟩:=zm HA.o hJ;go_simp;try rfl
 simp only[N.pz];refine N.WalkM.fix ?s10 ?r10;case s10=>refine N.StepS.known rfl (fun _=>N.SK.refl _ _ _) ?_;intro W hJ hP;obtain⟨j0,j1,j2,j3⟩:=zm HA.o hJ;go_simp;try rfl
 simp only[N.pz];refine N.WalkM.fix ?s11 ?r11;case s11=>refine N.StepS.known rfl (fun _=>N.SK.refl _ _ _) ?_;intro W hJ hP;obtain⟨j0,j1,j2,j3⟩:=zm HA.o hJ;go_simp;try rfl
 simp only[N.pz];refine N.WalkM.fix ?s12 ?r12;case s12=>refine N.StepS.known rfl (fun _=>N.SK.refl _ _ _) ?_;intro W hJ hP;obtain⟨j0,j1,j2,j3⟩:=zm HA.o hJ;go_simp;try rfl
 simp only[N.pz];refine N.WalkM.fix ?s13 ?r13;case s13=>refine N.StepS.known rfl (fun _=>N.SK.refl _ _ _) ?_;intro W hJ hP;obtain⟨j0,j1,j2,j3⟩:=zm HA.o hJ;go_simp;try rfl
 simp only[N.pz];refine N.WalkM.fix ?s14 ?r14;case s14=>refine N.StepS.known rfl (fun _=>N.SK.refl _ _ _) ?_;intro W hJ hP;obtain⟨j0,j1,j2,j3⟩:=zm HA.o hJ;go_simp;try rfl
 simp only[N.pz];refine N.WalkM.fix ?s15 ?r15;case s15=>refine N.StepS.known rfl (fun _=>N.SK.refl _ _ _) ?_;intro W hJ hP;obtain⟨j0,j1,j2,j3⟩:=zm HA.o hJ;go_simp;try rfl
 simp only[N.pz];refine N.WalkM.fix ?s16 ?r16;case s16=>refine N.StepS.known rfl (fun _=>N.SK.refl _ _ _) ?_;intro W hJ hP;obtain⟨j0,j1,j2,j3⟩:=zm HA.o hJ;go_simp;try rfl
 simp only[N.pz];refine N.WalkM.dep ?s17 ?r17;case s17=>(refine .inl ⟨rfl,fun W hJ hP=>?_⟩;obtain⟨g,hg,hf,hh⟩:N.NewS W0.heap.size #[intV 2,intV 2,PK.V .expr] 239 1 [] (x 2) W:=hP 2 (by kernel_rfl);have h3:x 3=.agg #[.bool false,intV 0,intV 0,[x 2].getD 0 undef]:=hP 3 (by kernel_rfl);refine oN (g:=g) ha hf hh hJ (.tmp 2) (.tmp 118) rfl rfl rfl ?_;refine Eq.trans (b:=x 3) rfl ?_;rw[h3,hg];rfl)
 simp only[N.pz];refine N.WalkM.nil fun W hJ hH=>?_;have he:W.heap[w.heap.size+1]?≠some ZS:=hH 17;obtain⟨hc,hz|⟨g,hg,hx,hp⟩⟩:=hJ
 .exact(he hz).elim
 have hb:Below w.heap.size w W:=Ha.o.trans (hc.below (by omega) Ha.o.size);have u0:W.cell? ⟨w.heap.size+1,0,none⟩=some (.bool false):=by simp[World.cell?,hx]
 have u1:W.cell? ⟨w.heap.size+1,1,none⟩=some (intV 0):=by simp[World.cell?,hx]
 have u2:W.cell? ⟨w.heap.size+1,2,none⟩=some (intV 0):=by simp[World.cell?,hx]
 have u3:W.cell? ⟨w.heap.size+1,3,none⟩=some (.slice (some ⟨g,0,none⟩) 1 1):=by simp[World.cell?,hx]
 clear he hH hc hx;go_wp2;refine bodyPost_ret (v:=.tuple #[.agg #[.bool false,intV 0,intV 0,.slice (some ⟨g,0,none⟩) 1 1],.bool true]) (by simp[results,results153,go_sem,loadVar,u0,u1,u2,u3,Result.andThen]) rfl ⟨_,_,rfl,row3 (Array.getElem?_eq_some_iff.1 hp).1 (by simp[World.cell?,hp]) (by simp[World.cell?,hp]) (by simp[World.cell?,hp]),hb⟩
theorem DR(d:Nd)(ka:Option Addr)(kc:Nat)(w:World)(h1:d.kind<1):Calls prog 153 #[ndV d ka kc] w (zJ w none):=by
 have hi:prog.follows .mixedOrders=true:=by kernel_rfl
 unfold ndV;obtain⟨k,hk⟩:∃k,d.kind=k:=⟨_,rfl⟩
 rw[hk]at h1|-;clear hk;have n1:(k==1)=false:=by simp;omega
 have n2:(k==2)=false:=by simp;omega
 have n3:(k==3)=false:=by simp;omega
 have n32:(k==32)=false:=by simp;omega
 have n45:(k==45)=false:=by simp;omega
 have n4:(k==4)=false:=by simp;omega
 have n5:(k==5)=false:=by simp;omega
 have n19:(k==19)=false:=by simp;omega
 have n20:(k==20)=false:=by simp;omega
 have n21:(k==21)=false:=by simp;omega
 have n22:(k==22)=false:=by simp;omega
 have n25:(k==25)=false:=by simp;omega
 have n43:(k==43)=false:=by simp;omega
 have n44:(k==44)=false:=by simp;omega
 have n24:(k==24)=false:=by simp;omega
 have n26:(k==26)=false:=by simp;omega
 have n30:(k==30)=false:=by simp;omega
 have n31:(k==31)=false:=by simp;omega
 have n33:(k==33)=false:=by simp;omega
 have n34:(k==34)=false:=by simp;omega
 have n40:(k==40)=false:=by simp;omega
 have n41:(k==41)=false:=by simp;omega
 have n42:(k==42)=false:=by simp;omega
 have n46:(k==46)=false:=by simp;omega
 have n23:(k==23)=false:=by simp;omega
 have n6:¬6<=k:=by omega
 have d6:decide (6<=k)=false:=by simp;omega
 go_enter func153,ntmps153;go_wp2;refine oP (Ahead w k) ⟨by go_simp,⟨by go_simp,by go_simp,by go_simp;rfl⟩,((show Below (w.heap.size+1+1) ((w.alloc (.cells #[.int .u8 k,strV d.text,intV d.n,.slice ka d.kids.length kc,intV d.pos] 31)).alloc (.cells #[.bool false,intV 0,intV 0,.slice none 0 0] 210)) _ from by go_grown).block (w.heap.size+1) (by omega)).trans (by have:=heap_alloc_new (w.alloc (.cells #[.int .u8 k,strV d.text,intV d.n,.slice ka d.kids.length kc,intV d.pos] 31)) (.cells #[.bool false,intV 0,intV 0,.slice none 0 0] 210);rwa[World.size_alloc]at this),by go_grown,by simp⟩ ?_;intro W0 hA;have HA:=Hd hA;obtain⟨_,_,hl,hd,hj⟩:=hA;have ha:w.heap.size+1<W0.heap.size:=by omega
 have Ha:=Hd hd;clear hd hj;refine N.region_M 18 hi (by kernel_rfl) (by kernel_rfl) rfl (by kernel_rfl) (by kernel_rfl) (fun _ _=>False) N.Pans.no (SJs w W0) (SKs w) ⟨N.Off.of_below (brf.drew),.inl hl⟩ [.fix ?vS0,.fix ?vS1,.dep [] (N.NewS W0.heap.size #[intV 2,intV 2,PK.V .expr] 239 1),.dep [2] (fun l v _=>v=.agg #[.bool false,intV 0,intV 0,l.getD 0 undef]),.fix ?vS4,.fix ?vS5,.fix ?vS6,.fix ?vS7,.fix undef,.fix undef,.fix undef,.fix ?vS11,.fix ?vS12,.fix ?vS13,.fix ?vS14,.fix ?vS15,.fix ?vS16,.dep [] (fun _ _ W=>W.heap[w.heap.size+1]?≠some ZS)] [[],[],[],[2],[],[],[],[],[],[],[],[],[],[],[],[],[],[]] rfl (by kernel_rfl) (N.sts_kd ⟨trivial,trivial,N.NewS.stK ha,(fun _ _ _ _ _ h=>h),trivial,trivial,trivial,trivial,trivial,trivial,trivial,trivial,trivial,trivial,trivial,trivial,trivial,(fun _ _ _ _ hk h=>hk.2 h),trivial⟩) fun x=>?_;rotate_left 12;refine N.WalkM.fix ?s0 ?r0;case s0=>refine N.StepS.known rfl (fun _=>N.SK.refl _ _ _) ?_;intro W hJ hP;obtain⟨j0,j1,j2,j3⟩:=zm HA.o hJ;go_simp;try rfl
 simp only[N.pz];refine N.WalkM.fix ?s1 ?r1;case s1=>refine N.StepS.known rfl (fun _=>N.SK.refl _ _ _) ?_;intro W hJ hP;obtain⟨j0,j1,j2,j3⟩:=zm HA.o hJ;go_simp;try rfl
 simp only[N.pz];refine N.WalkM.dep ?s2 ?r2;case s2=>exact N.StepS.runs rfl (fun W hJ _=>⟨_,_,by(go_simp;try rfl),hJ.of_below ha (brf.alloc nlr _),N.SK.of_below (hJ.lt ha) (brf.alloc nlr _),⟨W.heap.size,rfl,hJ.1.size,heap_alloc_new _ _⟩⟩)
 simp only[N.pz];refine N.WalkM.dep ?s3 ?r3;case s3=>(refine N.StepS.call' (f:=185) (args:=#[x 2]) rfl ?_ ?_;(intro W hJ hP;(go_simp;try rfl));(intro W hJ hP;obtain⟨g,hg,_,_⟩:N.NewS W0.heap.size #[intV 2,intV 2,PK.V .expr] 239 1 [] (x 2) W:=hP 2 (by kernel_rfl);rw[hg];refine(lP _ _ _ _).mono ?_;rintro e w' ⟨rfl,hb⟩;exact⟨_,rfl,hJ.of_below ha hb,N.SK.of_below (hJ.lt ha) hb,by simp[hg]⟩))
 simp only[N.pz];refine N.WalkM.fix ?s4 ?r4;case s4=>refine N.StepS.known rfl (fun _=>N.SK.refl _ _ _) ?_;intro W hJ hP;obtain⟨j0,j1,j2,j3⟩:=zm HA.o hJ;go_simp;try rfl
 simp only[N.pz];refine N.WalkM.fix ?s5 ?r5;case s5=>refine N.StepS.known rfl (fun _=>N.SK.refl _ _ _) ?_;intro W hJ hP;obtain⟨j0,j1,j2,j3⟩:=zm HA.o hJ;go_simp;try rfl
 simp only[N.pz];refine N.WalkM.fix ?s6 ?r6;case s6=>refine N.StepS.known rfl (fun _=>N.SK.refl _ _ _) ?_;intro W hJ hP;obtain⟨j0,j1,j2,j3⟩:=zm HA.o hJ;go_simp;try rfl
 simp only[N.pz];refine N.WalkM.fix ?s7 ?r7;case s7=>refine N.StepS.known rfl (fun _=>N.SK.refl _ _ _) ?_;intro W hJ hP;obtain⟨j0,j1,j2,j3⟩:=zm HA.o hJ;go_simp;try rfl
 simp only[N.pz];refine N.WalkM.fix ?s8 ?r8;case s8=>exact N.StepS.skip rfl (fun _=>N.SK.refl _ _ _) (fun _ _ _=>rfl)
 simp only[N.pz];refine N.WalkM.fix ?s9 ?r9;case s9=>exact N.StepS.skip rfl (fun _=>N.SK.refl _ _ _) (fun _ _ _=>rfl)
 simp only[N.pz];refine N.WalkM.fix ?s10 ?r10;case s10=>exact N.StepS.skip rfl (fun _=>N.SK.refl _ _ _) (fun _ _ _=>rfl)
 simp only[N.pz];refine N.WalkM.fix ?s11 ?r11;case s11=>refine N.StepS.known rfl (fun _=>N.SK.refl _ _ _) ?_;intro W hJ hP;obtain⟨j0,j1,j2,j3⟩:=zm HA.o hJ;go_simp;try rfl
 simp only[N.pz];refine N.WalkM.fix ?s12 ?r12;case s12=>refine N.StepS.known rfl (fun _=>N.SK.refl _ _ _) ?_;intro W hJ hP;obtain⟨j0,j1,j2,j3⟩:=zm HA.o hJ;go_simp;try rfl
 simp only[N.pz];refine N.WalkM.fix ?s13 ?r13;case s13=>refine N.StepS.known rfl (fun _=>N.SK.refl _ _ _) ?_;intro W hJ hP;obtain⟨j0,j1,j2,j3⟩:=zm HA.o hJ;go_simp;try rfl
 simp only[N.pz];refine N.WalkM.fix ?s14 ?r14;case s14=>refine N.StepS.known rfl (fun _=>N.SK.refl _ _ _) ?_;intro W hJ hP;obtain⟨j0,j1,j2,j3⟩:=zm HA.o hJ;go_simp;try rfl
 simp only[N.pz];refine N.WalkM.fix ?s15 ?r15;case s15=>refine N.StepS.known rfl (fun _=>N.SK.refl _ _ _) ?_;intro W hJ hP;obtain⟨j0,j1,j2,j3⟩:=zm HA.o hJ;go_simp;try rfl
 simp only[N.pz];refine N.WalkM.fix ?s16 ?r16;case s16=>refine N.StepS.known rfl (fun _=>N.SK.refl _ _ _) ?_;intro W hJ hP;obtain⟨j0,j1,j2,j3⟩:=zm HA.o hJ;go_simp;try rfl
 simp only[N.pz];refine N.WalkM.dep ?s17 ?r17;case s17=>(refine .inl ⟨rfl,fun W hJ hP=>?_⟩;obtain⟨g,hg,hf,hh⟩:N.NewS W0.heap.size #[intV 2,intV 2,PK.V .expr] 239 1 [] (x 2) W:=hP 2 (by kernel_rfl);have h3:x 3=.agg #[.bool false,intV 0,intV 0,[x 2].getD 0 undef]:=hP 3 (by kernel_rfl);refine oN (g:=g) ha hf hh hJ (.tmp 2) (.tmp 118) rfl rfl rfl ?_;refine Eq.trans (b:=x 3) rfl ?_;rw[h3,hg];rfl)
 simp only[N.pz];refine N.WalkM.nil fun W hJ hH=>?_;have he:W.heap[w.heap.size+1]?≠some ZS:=hH 17;obtain⟨hc,hz|⟨g,hg,hx,hp⟩⟩:=hJ
 .exact(he hz).elim
 have hb:Below w.heap.size w W:=Ha.o.trans (hc.below (by omega) Ha.o.size);have u0:W.cell? ⟨w.heap.size+1,0,none⟩=some (.bool false):=by simp[World.cell?,hx]
 have u1:W.cell? ⟨w.heap.size+1,1,none⟩=some (intV 0):=by simp[World.cell?,hx]
 have u2:W.cell? ⟨w.heap.size+1,2,none⟩=some (intV 0):=by simp[World.cell?,hx]
 have u3:W.cell? ⟨w.heap.size+1,3,none⟩=some (.slice (some ⟨g,0,none⟩) 1 1):=by simp[World.cell?,hx]
 clear he hH hc hx;go_wp2;refine bodyPost_ret (v:=.tuple #[.agg #[.bool false,intV 0,intV 0,.slice (some ⟨g,0,none⟩) 1 1],.bool false]) (by simp[results,results153,go_sem,loadVar,u0,u1,u2,u3,Result.andThen]) rfl ⟨_,_,_,rfl,hb⟩
theorem yD(d:Nd)(ka:Option Addr)(kc:Nat)(w:World)(h1:26<d.kind)(h2:okK d.kind=false):Calls prog 153 #[ndV d ka kc] w (zJ w none):=by
 have hi:prog.follows .mixedOrders=true:=by kernel_rfl
 unfold ndV;obtain⟨k,hk⟩:∃k,d.kind=k:=⟨_,rfl⟩
 rw[hk]at h1 h2|-;clear hk;have h3:¬(okK k=true):=by rw[h2];exact Bool.false_ne_true
 simp[okK,zl,cG,cQ]at h3;have n1:(k==1)=false:=by simp;omega
 have n2:(k==2)=false:=by simp;omega
 have n3:(k==3)=false:=by simp;omega
 have n32:(k==32)=false:=by simp;omega
 have n45:(k==45)=false:=by simp;omega
 have n4:(k==4)=false:=by simp;omega
 have n5:(k==5)=false:=by simp;omega
 have n19:(k==19)=false:=by simp;omega
 have n20:(k==20)=false:=by simp;omega
 have n21:(k==21)=false:=by simp;omega
 have n22:(k==22)=false:=by simp;omega
 have n25:(k==25)=false:=by simp;omega
 have n43:(k==43)=false:=by simp;omega
 have n44:(k==44)=false:=by simp;omega
 have n24:(k==24)=false:=by simp;omega
 have n26:(k==26)=false:=by simp;omega
 have n30:(k==30)=false:=by simp;omega
 have n31:(k==31)=false:=by simp;omega
 have n33:(k==33)=false:=by simp;omega
 have n34:(k==34)=false:=by simp;omega
 have n40:(k==40)=false:=by simp;omega
 have n41:(k==41)=false:=by simp;omega
 have n42:(k==42)=false:=by simp;omega
 have n46:(k==46)=false:=by simp;omega
 have n18:¬k<=18:=by omega
 have d18:decide (k<=18)=false:=by simp;omega
 have n23:(k==23)=false:=by simp;omega
 have n6:6<=k:=by omega
 clear h2;clear h3;go_enter func153,ntmps153;go_wp2;refine oP (Ahead w k) ⟨by go_simp,⟨by go_simp,by go_simp,by go_simp;rfl⟩,((show Below (w.heap.size+1+1) ((w.alloc (.cells #[.int .u8 k,strV d.text,intV d.n,.slice ka d.kids.length kc,intV d.pos] 31)).alloc (.cells #[.bool false,intV 0,intV 0,.slice none 0 0] 210)) _ from by go_grown).block (w.heap.size+1) (by omega)).trans (by have:=heap_alloc_new (w.alloc (.cells #[.int .u8 k,strV d.text,intV d.n,.slice ka d.kids.length kc,intV d.pos] 31)) (.cells #[.bool false,intV 0,intV 0,.slice none 0 0] 210);rwa[World.size_alloc]at this),by go_grown,by simp⟩ ?_;intro W0 hA;have HA:=Hd hA;obtain⟨_,_,hl,hd,hj⟩:=hA;have ha:w.heap.size+1<W0.heap.size:=by omega
 have Ha:=Hd hd;clear hd hj;refine N.region_M 18 hi (by kernel_rfl) (by kernel_rfl) rfl (by kernel_rfl) (by kernel_rfl) (fun _ _=>False) N.Pans.no (SJs w W0) (SKs w) ⟨N.Off.of_below (brf.drew),.inl hl⟩ [.fix ?vS0,.fix ?vS1,.dep [] (N.NewS W0.heap.size #[intV 2,intV 2,PK.V .expr] 239 1),.dep [2] (fun l v _=>v=.agg #[.bool false,intV 0,intV 0,l.getD 0 undef]),.fix ?vS4,.fix ?vS5,.fix ?vS6,.fix ?vS7,.fix ?vS8,.fix ?vS9,.fix ?vS10,.fix ?vS11,.fix ?vS12,.fix ?vS13,.fix ?vS14,.fix ?vS15,.fix ?vS16,.dep [] (fun _ _ W=>W.heap[w.heap.size+1]?≠some ZS)] [[],[],[],[2],[],[],[],[],[],[],[],[],[],[],[],[],[],[]] rfl (by kernel_rfl) (N.sts_kd ⟨trivial,trivial,N.NewS.stK ha,(fun _ _ _ _ _ h=>h),trivial,trivial,trivial,trivial,trivial,trivial,trivial,trivial,trivial,trivial,trivial,trivial,trivial,(fun _ _ _ _ hk h=>hk.2 h),trivial⟩) fun x=>?_;rotate_left 15;refine N.WalkM.fix ?s0 ?r0;case s0=>refine N.StepS.known rfl (fun _=>N.SK.refl _ _ _) ?_;intro W hJ hP;obtain⟨j0,j1,j2,j3⟩:=zm HA.o hJ;go_simp;try rfl
 simp only[N.pz];refine N.WalkM.fix ?s1 ?r1;case s1=>refine N.StepS.known rfl (fun _=>N.SK.refl _ _ _) ?_;intro W hJ hP;obtain⟨j0,j1,j2,j3⟩:=zm HA.o hJ;go_simp;try rfl
 simp only[N.pz];refine N.WalkM.dep ?s2 ?r2;case s2=>exact N.StepS.runs rfl (fun W hJ _=>⟨_,_,by(go_simp;try rfl),hJ.of_below ha (brf.alloc nlr _),N.SK.of_below (hJ.lt ha) (brf.alloc nlr _),⟨W.heap.size,rfl,hJ.1.size,heap_alloc_new _ _⟩⟩)
 simp only[N.pz];refine N.WalkM.dep ?s3 ?r3;case s3=>(refine N.StepS.call' (f:=185) (args:=#[x 2]) rfl ?_ ?_;(intro W hJ hP;(go_simp;try rfl));(intro W hJ hP;obtain⟨g,hg,_,_⟩:N.NewS W0.heap.size #[intV 2,intV 2,PK.V .expr] 239 1 [] (x 2) W:=hP 2 (by kernel_rfl);rw[hg];refine(lP _ _ _ _).mono ?_;rintro e w' ⟨rfl,hb⟩;exact⟨_,rfl,hJ.of_below ha hb,N.SK.of_below (hJ.lt ha) hb,by simp[hg]⟩))
 simp only[N.pz];refine N.WalkM.fix ?s4 ?r4;case s4=>refine N.StepS.known rfl (fun _=>N.SK.refl _ _ _) ?_;intro W hJ hP;obtain⟨j0,j1,j2,j3⟩:=zm HA.o hJ;go_simp;try rfl
 simp only[N.pz];refine N.WalkM.fix ?s5 ?r5;case s5=>refine N.StepS.known rfl (fun _=>N.SK.refl _ _ _) ?_;intro W hJ hP;obtain⟨j0,j1,j2,j3⟩:=zm HA.o hJ;go_simp;try rfl
 simp only[N.pz];refine N.WalkM.fix ?s6 ?r6;case s6=>refine N.StepS.known rfl (fun _=>N.SK.refl _ _ _) ?_;intro W hJ hP;obtain⟨j0,j1,j2,j3⟩:=zm HA.o hJ;go_simp;try rfl
 simp only[N.pz];refine N.WalkM.fix ?s7 ?r7;case s7=>refine N.StepS.known rfl (fun _=>N.SK.refl _ _ _) ?_;intro W hJ hP;obtain⟨j0,j1,j2,j3⟩:=zm HA.o hJ;go_simp;try rfl
 simp only[N.pz];refine N.WalkM.fix ?s8 ?r8;case s8=>refine N.StepS.known rfl (fun _=>N.SK.refl _ _ _) ?_;intro W hJ hP;obtain⟨j0,j1,j2,j3⟩:=zm HA.o hJ;go_simp;try rfl
 simp only[N.pz];refine N.WalkM.fix ?s9 ?r9;case s9=>refine N.StepS.known rfl (fun _=>N.SK.refl _ _ _) ?_;intro W hJ hP;obtain⟨j0,j1,j2,j3⟩:=zm HA.o hJ;go_simp;try rfl
 simp only[N.pz];refine N.WalkM.fix ?s10 ?r10;case s10=>refine N.StepS.known rfl (fun _=>N.SK.refl _ _ _) ?_;intro W hJ hP;obtain⟨j0,j1,j2,j3⟩:=zm HA.o hJ;go_simp;try rfl
 simp only[N.pz];refine N.WalkM.fix ?s11 ?r11;case s11=>refine N.StepS.known rfl (fun _=>N.SK.refl _ _ _) ?_;intro W hJ hP;obtain⟨j0,j1,j2,j3⟩:=zm HA.o hJ;go_simp;try rfl
 simp only[N.pz];refine N.WalkM.fix ?s12 ?r12;case s12=>refine N.StepS.known rfl (fun _=>N.SK.refl _ _ _) ?_;intro W hJ hP;obtain⟨j0,j1,j2,j3⟩:=zm HA.o hJ;go_simp;try rfl
 simp only[N.pz];refine N.WalkM.fix ?s13 ?r13;case s13=>refine N.StepS.known rfl (fun _=>N.SK.refl _ _ _) ?_;intro W hJ hP;obtain⟨j0,j1,j2,j3⟩:=zm HA.o hJ;go_simp;try rfl
 simp only[N.pz];refine N.WalkM.fix ?s14 ?r14;case s14=>refine N.StepS.known rfl (fun _=>N.SK.refl _ _ _) ?_;intro W hJ hP;obtain⟨j0,j1,j2,j3⟩:=zm HA.o hJ;go_simp;try rfl
 simp only[N.pz];refine N.WalkM.fix ?s15 ?r15;case s15=>refine N.StepS.known rfl (fun _=>N.SK.refl _ _ _) ?_;intro W hJ hP;obtain⟨j0,j1,j2,j3⟩:=zm HA.o hJ;go_simp;try rfl
 simp only[N.pz];refine N.WalkM.fix ?s16 ?r16;case s16=>refine N.StepS.known rfl (fun _=>N.SK.refl _ _ _) ?_;intro W hJ hP;obtain⟨j0,j1,j2,j3⟩:=zm HA.o hJ;go_simp;try rfl
 simp only[N.pz];refine N.WalkM.dep ?s17 ?r17;case s17=>(refine .inl ⟨rfl,fun W hJ hP=>?_⟩;obtain⟨g,hg,hf,hh⟩:N.NewS W0.heap.size #[intV 2,intV 2,PK.V .expr] 239 1 [] (x 2) W:=hP 2 (by kernel_rfl);have h3:x 3=.agg #[.bool false,intV 0,intV 0,[x 2].getD 0 undef]:=hP 3 (by kernel_rfl);refine oN (g:=g) ha hf hh hJ (.tmp 2) (.tmp 118) rfl rfl rfl ?_;refine Eq.trans (b:=x 3) rfl ?_;rw[h3,hg];rfl)
 simp only[N.pz];refine N.WalkM.nil fun W hJ hH=>?_;have he:W.heap[w.heap.size+1]?≠some ZS:=hH 17;obtain⟨hc,hz|⟨g,hg,hx,hp⟩⟩:=hJ
 .exact(he hz).elim
 have hb:Below w.heap.size w W:=Ha.o.trans (hc.below (by omega) Ha.o.size);have u0:W.cell? ⟨w.heap.size+1,0,none⟩=some (.bool false):=by simp[World.cell?,hx]
 have u1:W.cell? ⟨w.heap.size+1,1,none⟩=some (intV 0):=by simp[World.cell?,hx]
 have u2:W.cell? ⟨w.heap.size+1,2,none⟩=some (intV 0):=by simp[World.cell?,hx]
 have u3:W.cell? ⟨w.heap.size+1,3,none⟩=some (.slice (some ⟨g,0,none⟩) 1 1):=by simp[World.cell?,hx]
 clear he hH hc hx;go_wp2;refine bodyPost_ret (v:=.tuple #[.agg #[.bool false,intV 0,intV 0,.slice (some ⟨g,0,none⟩) 1 1],.bool false]) (by simp[results,results153,go_sem,loadVar,u0,u1,u2,u3,Result.andThen]) rfl ⟨_,_,_,rfl,hb⟩
theorem row9{w:World}{b:Nat}{x0 x1 x2 x3 x4 x5 x6 x7 x8:Value}(hb:b<w.heap.size)(h0:w.cell? ⟨b,0,none⟩=some x0)(h1:w.cell? ⟨b,1,none⟩=some x1)(h2:w.cell? ⟨b,2,none⟩=some x2)(h3:w.cell? ⟨b,3,none⟩=some x3)(h4:w.cell? ⟨b,4,none⟩=some x4)(h5:w.cell? ⟨b,5,none⟩=some x5)
 (h6:w.cell? ⟨b,6,none⟩=some x6)(h7:w.cell? ⟨b,7,none⟩=some x7)(h8:w.cell? ⟨b,8,none⟩=some x8):Row 3 w (some ⟨b,0,none⟩) 3 3 [x0,x1,x2,x3,x4,x5,x6,x7,x8]:=
 ⟨rfl,nlr,(fun h=>by cases h),.inr ⟨b,0,rfl,hb,fun i hi=>by
  match i,hi with
  |0,_=>exact h0
  |1,_=>exact h1
  |2,_=>exact h2
  |3,_=>exact h3
  |4,_=>exact h4
  |5,_=>exact h5
  |6,_=>exact h6
  |7,_=>exact h7
  |8,_=>exact h8⟩⟩
theorem LC{c:Code}{P:Program}{Q:Exit->Act->World->Prop}{a:Act}{w:World}(F:World->Prop)(hF:F w)(h:∀W,F W->c.wp P Q a W):c.wp P Q a w:=h w hF
theorem GC(d:Nd)(ka:Option Addr)(kc:Nat)(w:World)(hk:d.kind=42):Calls prog 153 #[ndV d ka kc] w (zJ w (some ⟨true,0,9223372036854775807,[(0,801,.param),(1,1,.kind),(1,1,.expr)]⟩)):=by
 have hg:prog.follows .mixedOrders=true:=by kernel_rfl
 unfold ndV;rw[hk];clear hk;go_enter func153,ntmps153;go_wp2
 refine LC (fun W=>(W.cell? ⟨w.heap.size+1+1+1+1+1,0,none⟩=some (intV 1)/\W.cell? ⟨w.heap.size+1+1+1+1+1,1,none⟩=some (intV 1)/\W.cell? ⟨w.heap.size+1+1+1+1+1,2,none⟩=some (PK.V .expr)) /\
  (W.cell? ⟨w.heap.size+1,0,none⟩=some (.bool false)/\W.cell? ⟨w.heap.size+1,1,none⟩=some (intV 0)/\W.cell? ⟨w.heap.size+1,2,none⟩=some (intV 0)/\W.cell? ⟨w.heap.size+1,3,none⟩=some (.slice none 0 0))/\(W.frozen? ⟨w.heap.size+1,0,none⟩=false/\W.frozen? ⟨w.heap.size+1,1,none⟩=false/\W.frozen? ⟨w.heap.size+1,2,none⟩=false/\W.frozen? ⟨w.heap.size+1,3,none⟩=false)/\Below w.heap.size w W/\w.heap.size+1+1+1+1+1<W.heap.size)
  ⟨⟨by go_simp,by go_simp,by go_simp;rfl⟩,⟨by go_simp,by go_simp,by go_simp,by go_simp⟩,⟨by go_simp,by go_simp,by go_simp,by go_simp⟩,by go_grown,by simp⟩ ?_
 rintro W0⟨⟨p0,p1,p2⟩,⟨r0,r1,r2,r3⟩,⟨f0,f1,f2,f3⟩,hf,hh⟩;have ha:w.heap.size+1<W0.heap.size:=by omega
 have Ha:=Hd hf;clear hf;refine N.region_JTm 3 hg (by kernel_rfl) (by kernel_rfl) rfl (by kernel_rfl) (by kernel_rfl) (fun Wz=>Below (W0).heap.size (W0) Wz) (brf.drew) ?_;refine N.WalkT.cons ?_ (N.StepP.pure rfl ?_) ?_;rotate_left;(intro W hJ;obtain⟨hc,hd⟩:=bcell hJ;go_simp;rfl);simp only[N.pz];refine N.WalkT.cons (.agg #[intV 1,intV 1,PK.V .kind]) (N.StepP.call (f:=183) (args:=#[intV 1,PK.V .kind]) rfl ?hG1_1 ?cG1_1) ?rG1_1;case hG1_1=>intro W hJ;obtain⟨hc,hd⟩:=bcell hJ;go_simp;try rfl
 case cG1_1=>intro W hJ;(refine(FL 1 (PK.V .kind) W ⟨_,rfl⟩).mono ?_;rintro e w' ⟨rfl,hb⟩;exact⟨rfl,hJ.trans (hb.mono hJ.size)⟩)
 simp only[N.pz];refine N.WalkT.cons ?_ (N.StepP.pure rfl ?_) ?_;rotate_left;(intro W hJ;obtain⟨hc,hd⟩:=bcell hJ;go_simp;rfl);simp only[N.pz];refine N.WalkT.nil fun W hJ=>?_;obtain⟨hc,hd⟩:=bcell hJ;have q0:=(hc _ 0 ha).trans r0;have q1:=(hc _ 1 ha).trans r1;have q2:=(hc _ 2 ha).trans r2;have q3:=(hc _ 3 ha).trans r3;have g0:=(hd _ 0 ha).trans f0;have g1:=(hd _ 1 ha).trans f1;have g2:=(hd _ 2 ha).trans f2;have g3:=(hd _ 3 ha).trans f3;have HB:=Hd (Ha.o.trans (hJ.mono Ha.o.size));have hi:=hJ.size;have he:w.heap.size+1<W.heap.size:=by omega
 clear hc hd hJ r0 r1 r2 r3 f0 f1 f2 f3 p0 p1 p2;go_wp2;refine bodyPost_ret (v:=.tuple #[.agg #[.bool true,intV 0,intV 9223372036854775807,.slice (some ⟨W.heap.size,0,none⟩) 3 3],.bool true]) (by simp[results,results153,go_sem,loadVar,q0,q1,q2,q3,he,Result.andThen]) rfl ⟨_,_,rfl,row9 (by simp) (by go_simp) (by go_simp) (by go_simp;try rfl) (by go_simp) (by go_simp) (by go_simp) (by go_simp) (by go_simp) (by go_simp),?_⟩;exact((((HB.o.setCell (by simp) _).setCell (by simp) _).setCell (by simp) _).setCell (by simp) _).alloc (by simp;omega) _
theorem DQ(d:Nd)(ka:Option Addr)(kc:Nat)(w:World):Calls prog 153 #[ndV d ka kc] w (zJ w (fV d.kind d.n)):=by
 cases ha:okK d.kind with
 | false=>
   rw[kN ha];have h':¬(okK d.kind=true):=by rw[ha];exact Bool.false_ne_true
   simp[okK,zl,cG,cQ]at h';by_cases h1:d.kind<1
   .exact DR d ka kc w h1
   .exact yD d ka kc w (by omega) ha
 | true=>
   rcases oM ha with h|h|h|h|h|h|h|h|h|h|h|h|h|h|h|h|h|h|h|h|h|h|h|h|h|h|h|h|h|h|h|h|h|h|h|h|h|h
   .have e:=LH d ka kc w h;rw[h];exact e
   .have e:=LI d ka kc w h;rw[h];exact e
   .have e:=LJ d ka kc w h;rw[h];exact e
   .have e:=LK d ka kc w h;rw[h];exact e
   .have e:=LL d ka kc w h;rw[h];exact e
   .have e:=aT d ka kc w (by rw[h];decide) (by rw[h];decide);rw[h];exact e
   .have e:=aT d ka kc w (by rw[h];decide) (by rw[h];decide);rw[h];exact e
   .have e:=aT d ka kc w (by rw[h];decide) (by rw[h];decide);rw[h];exact e
   .have e:=aT d ka kc w (by rw[h];decide) (by rw[h];decide);rw[h];exact e
   .have e:=aT d ka kc w (by rw[h];decide) (by rw[h];decide);rw[h];exact e
   .have e:=aT d ka kc w (by rw[h];decide) (by rw[h];decide);rw[h];exact e
   .have e:=aT d ka kc w (by rw[h];decide) (by rw[h];decide);rw[h];exact e
   .have e:=aT d ka kc w (by rw[h];decide) (by rw[h];decide);rw[h];exact e
   .have e:=aT d ka kc w (by rw[h];decide) (by rw[h];decide);rw[h];exact e
   .have e:=aT d ka kc w (by rw[h];decide) (by rw[h];decide);rw[h];exact e
   .have e:=aT d ka kc w (by rw[h];decide) (by rw[h];decide);rw[h];exact e
   .have e:=aT d ka kc w (by rw[h];decide) (by rw[h];decide);rw[h];exact e
   .have e:=aT d ka kc w (by rw[h];decide) (by rw[h];decide);rw[h];exact e
   .have e:=FN d ka kc w h;rw[h];exact e
   .have e:=FO d ka kc w h;rw[h];exact e
   .have e:=FP d ka kc w h;rw[h];exact e
   .have e:=FQ d ka kc w h;rw[h];exact e
   .have e:=uS d ka kc w h;rw[h];exact e
   .have e:=FR d ka kc w h;rw[h];exact e
   .have e:=FT d ka kc w h;rw[h];exact e
   .have e:=FU d ka kc w h;rw[h];exact e
   .have e:=FV d ka kc w h;rw[h];exact e
   .have e:=FW d ka kc w h;rw[h];exact e
   .have e:=FX d ka kc w h;rw[h];exact e
   .have e:=FY d ka kc w h;rw[h];exact e
   .have e:=FZ d ka kc w h;rw[h];exact e
   .have e:=GA d ka kc w h;rw[h];exact e
   .have e:=GB d ka kc w h;rw[h];exact e
   .have e:=GC d ka kc w h;rw[h];exact e
   .have e:=GD d ka kc w h;rw[h];exact e
   .have e:=GE d ka kc w h;rw[h];exact e
   .have e:=GF d ka kc w h;rw[h];exact e
   .rw[h]
    by_cases h7:d.n=7
    .rw[h7];exact yB d ka kc w h h7
    .by_cases h8:d.n=8
     .rw[h8];exact yC d ka kc w h h8
     .have e:fV 46 d.n=some ⟨false,1,8,[(1,1,.expr)]⟩:=by
       show some (askP d.n)=_
       unfold askP;rw[if_neg (by simpa using h7),if_neg (by simpa using h8)]
      rw[e];exact GH d ka kc w h h7 h8
abbrev u8V(n:Int):Value:=.int .u8 n
abbrev u8sV(l:List Int):List Value:=l.map u8V
abbrev U8s(w:World)(a:Option Addr)(c:Nat)(l:List Int):Prop:=Row 1 w a l.length c (u8sV l)
theorem U8s.at{w:World}{a:Option Addr}{c:Nat}{l:List Int}(h:U8s w a c l){i:Nat}(hi:i<l.length):∃b o,a=some ⟨b,o,none⟩/\b<w.heap.size/\w.cell? ⟨b,o+i,none⟩=some (u8V l[i]):=by
 obtain⟨b,o,rfl,hb,hc⟩:=h.some (by omega);exact⟨b,o,rfl,hb,by rw[hc i (by simpa using hi)];simp⟩
theorem Parts.at{w:World}{a:Option Addr}{c:Nat}{l:List Part}(h:Parts w a c l){i:Nat}(hi:i<l.length) :
 ∃b o,a=some ⟨b,o,none⟩/\b<w.heap.size/\w.cell? ⟨b,o+i*3,none⟩=some (intV l[i].1)/\w.cell? ⟨b,o+i*3+1,none⟩=some (intV l[i].2.1)/\w.cell? ⟨b,o+i*3+2,none⟩=some l[i].2.2.V:=by
 obtain⟨b,o,rfl,hb,hc⟩:=h.some (by omega);have hl:=mJ l
 have key:∀(l:List Part) (i:Nat) (hi:i<l.length) (j:Nat),j<3->(iX l)[i*3+j]?=(tQ l[i])[j]?:=by
  intro l
  induction l with
  |nil=>intro i hi;simp at hi
  | cons p r ih=>
    intro i hi j hj
    cases i with
    | zero=>
      simp only[iX,Nat.zero_mul,Nat.zero_add,List.getElem_cons_zero];rw[List.getElem?_append_left (by simp[tQ];omega)]
    | succ i=>
      simp only[iX,List.getElem_cons_succ];rw[List.getElem?_append_right (by simp[tQ];omega),<-ih i (by simpa using hi) j hj];congr 1;simp[tQ];omega
 have k2:∀j,j<3->w.cell? ⟨b,o+i*3+j,none⟩=(tQ l[i])[j]?:=by
  intro j hj;have ha:i*3+j<(iX l).length:=by omega
  rw[Nat.add_assoc,hc _ ha,<-key l i hi j hj,List.getElem?_eq_getElem ha]
 exact⟨b,o,rfl,hb,k2 0 (by omega),k2 1 (by omega),k2 2 (by omega)⟩
theorem DP(p:PK)(n:Int)(b:Nat)(w:World)(hc:w.cell? ⟨b,2,none⟩=some p.V) :
 Calls prog 193 #[u8V n,.pointer (some ⟨b,0,none⟩)] w fun e w'=>e=.returned (.bool (!p.B n))/\w=w':=by
 cases p<;>simp only[PK.V,PK.F]at hc<;>simp only[PK.B]
 .go_enter func193,ntmps193
  go_wp2_with (go_at_call 184;refine(uO _ _).mono ?_;rintro e w' ⟨rfl,rfl⟩)
  go_ret;exact⟨rfl,rfl⟩
 .go_enter func193,ntmps193
  go_wp2_with (go_at_call 188;refine(uQ _ _).mono ?_;rintro e w' ⟨rfl,rfl⟩)
  go_ret;exact⟨rfl,rfl⟩
 .go_enter func193,ntmps193
  go_wp2_with (go_at_call 190;refine(rR _ _).mono ?_;rintro e w' ⟨rfl,rfl⟩)
  go_ret;exact⟨rfl,rfl⟩
 .go_enter func193,ntmps193
  go_wp2_with (go_at_call 187;refine(BE _ _).mono ?_;rintro e w' ⟨rfl,rfl⟩)
  go_ret;exact⟨rfl,rfl⟩
 .go_enter func193,ntmps193
  go_wp2_with (go_at_call 189;refine(BC _ _).mono ?_;rintro e w' ⟨rfl,rfl⟩)
  go_ret;exact⟨rfl,rfl⟩
def idxP(l:List Int)(p:Int->Bool):Int:=first (fun i=>(l[i]?.map p).getD false) l.length 0
theorem vM(l:List Int)(p:Int->Bool):decide (0<=idxP l p)=l.any p:=by
 rw[Bool.eq_iff_iff,decide_eq_true_eq];unfold idxP;have h:=gF (fun i=>(l[i]?.map p).getD false) l.length;rw[h];constructor
 .intro h1
  rw[List.any_eq_true];apply Classical.byContradiction;intro ha;rw[Bool.eq_false_iff]at h1;apply h1;rw[List.all_eq_true];intro i hi;have hi:=List.mem_range.1 hi;simp only[List.getElem?_eq_getElem hi,Option.map_some,Option.getD_some,Bool.not_eq_true'];cases hp:p l[i]with
  |false=>rfl
  |true=>exact(ha ⟨_,List.getElem_mem hi,hp⟩).elim
 .intro h1
  obtain⟨x,hx,hp⟩:=List.any_eq_true.1 h1;obtain⟨i,hi,rfl⟩:=List.getElem_of_mem hx;rw[Bool.eq_false_iff];intro hc;have:=List.all_eq_true.1 hc i (List.mem_range.2 hi);simp[hi,hp]at this
theorem xQ(p:PK)(b:Nat)(a:Option Addr)(c:Nat)(l:List Int)(w:World)(hl:l.length<=1000000000)(h:U8s w a c l)(hc:w.cell? ⟨b,2,none⟩=some p.V) :
 Calls prog 210 #[.slice a l.length c,.func (.func 193) #[] #[.pointer (some ⟨b,0,none⟩)]] w fun e w'=>e=.returned (intV (idxP l fun k=>!p.B k))/\w=w':=by
 have HR:=Hd h;have HP:=Hd (fun n=>DP p n b w hc);clear h hc;go_enter func210,ntmps210;go_wp2
 go_loop [8] (fun i=>∃k:Nat,k<=l.length/\i=.int .i64 k/\Hid (idxP l (fun k=>!p.B k)=first (fun i=>(l[i]?.map (fun k=>!p.B k)).getD false) l.length k)) (fun i=>l.length-(intOf i).toNat)
 case atStart=>exact⟨0,Nat.zero_le _,rfl,Hd rfl⟩
 case round=>
  obtain⟨k,hk,rfl,HA⟩:=hrel;by_cases hlt:k<l.length
  .obtain⟨b1,o1,rfl,hd,hb⟩:=U8s.at HR.o hlt
   obtain⟨x,hx⟩:∃x,l[k]=x:=⟨_,rfl⟩
   rw[hx]at hb;have ha:(l[k]?.map (fun k=>!p.B k)).getD false = !p.B x:=by simp[hlt,hx]
   obtain⟨y,hy⟩:∃y,(!p.B x)=y:=⟨_,rfl⟩
   have HY:=Hd hy;have HG:=Hd (ha.trans hy);clear hx ha hy
   cases y with
   | true=>
     go_wp2_with (go_at_call 193;refine(HP.o x).mono ?_;rw[HY.o];rintro e w' ⟨rfl,rfl⟩)
     go_ret;exact⟨zO (by rw[HA.o];exact(zV hlt HG.o).symm),rfl⟩
   | false=>
     go_wp2_with (go_at_call 193;refine(HP.o x).mono ?_;rw[HY.o];rintro e w' ⟨rfl,rfl⟩)
     go_round
     case rel=>exact⟨k+1,by omega,by go_num,Hd (by rw[HA.o];exact bW hlt HG.o)⟩
     case measure=>simp[intOf];omega
  .go_wp2
   go_ret;exact⟨zO (by rw[HA.o];exact(bS (by omega)).symm),rfl⟩
theorem rE(p:PK)(b:Nat)(a:Option Addr)(c:Nat)(l:List Int)(w:World)(hl:l.length<=1000000000)(h:U8s w a c l)(hc:w.cell? ⟨b,2,none⟩=some p.V) :
 Calls prog 192 #[.slice a l.length c,.func (.func 193) #[] #[.pointer (some ⟨b,0,none⟩)]] w fun e w'=>e=.returned (.bool (!l.all p.B))/\w=w':=by
 have hx:(!l.all p.B)=decide (0<=idxP l fun k=>!p.B k):=by rw[vM,List.not_all_eq_any_not]
 rw[hx];have HC:=Hd (xQ p b a c l w hl h hc);clear h hc hx;go_enter func192,ntmps192
 go_wp2_with (go_at_call 210;refine HC.o.mono ?_;rintro e w' ⟨rfl,rfl⟩)
 go_ret;exact⟨rfl,rfl⟩
theorem KW:prog.underlying 46=some (.slice (prog.elem 46)):=by kernel_rfl
theorem CR(W:World):(sizeOf (prog.elem 46)).run prog W=.ok 1 W:=by kernel_rfl
theorem KU:prog.underlying 208=some (.slice (prog.elem 208)):=by kernel_rfl
theorem EX(W:World):(sizeOf (prog.elem 208)).run prog W=.ok 3 W:=by kernel_rfl
@[go_sem] theorem run_store_V {w:World}{a:Addr}{m:Mode}(p:PK):(store a p.V m).run prog w=stored prog w a p.V m:=run_store prog w a _ m rfl
def Small(ps:List Part):Prop:=ps.length<=3/\∀p∈ps,0<=p.1/\p.1<=801
theorem AP{k n:Int}{s:Shape}(h:fV k n=some s):Small s.parts:=by
 have hb:okK k=true:=by
  cases hk:okK k with
  |true=>rfl
  |false=>rw[kN hk]at h;cases h
 have ha:Small (askP n).parts:=by
  unfold askP;split
  .exact⟨by decide,by simp⟩
  .split
   .exact⟨by decide,by simp⟩
   .exact⟨by decide,by simp⟩
 rcases oM hb with rfl|rfl|rfl|rfl|rfl|rfl|rfl|rfl|rfl|rfl|rfl|rfl|rfl|rfl|rfl|rfl|rfl|rfl|rfl|rfl|rfl|rfl|rfl|rfl|rfl|rfl|rfl|rfl|rfl|rfl|rfl|rfl|rfl|rfl|rfl|rfl|rfl|rfl
 all_goals (simp[fV]at h)
 all_goals subst h
 all_goals first
  |exact ha
  |exact⟨by decide,by simp⟩
theorem qR:∀(ps:List Part) (j:Nat),(iX ps).drop (j*3)=iX (ps.drop j)
 | [],j=>by simp[iX]
 |p::r,0=>by simp
 | p::r,j+1=>by
   simp only[iX,List.drop_succ_cons];rw[show(j+1)*3=(tQ p).length+j*3 by simp[tQ];omega,List.drop_append];simp[qR r j]
theorem AA{ps:List Part}{j:Nat}(h:j<ps.length):leasts (ps.drop j)=ps[j].1+leasts (ps.drop (j+1)):=by
 rw[List.drop_eq_getElem_cons h];rfl
theorem IR{ps:List Part}{j:Nat}(h:j<ps.length)(ks:List Int):eN (ps.drop j) ks=((zu ((ks.length:Int)-leasts (ps.drop (j+1))) ps[j].1 ps[j].2.1&&(ks.take ((ks.length:Int)-leasts (ps.drop (j+1))).toNat).all ps[j].2.2.B)&&eN (ps.drop (j+1)) (ks.drop ((ks.length:Int)-leasts (ps.drop (j+1))).toNat)):=by
 rw[List.drop_eq_getElem_cons h];rfl
abbrev boxS(w:World)(s:Shape)(a:Option Addr)(c:Nat):World:=w.alloc (.cells #[.bool s.named,intV s.lo,intV s.hi,.slice a s.parts.length c] 210)
theorem uP(s:Shape)(a:Option Addr)(c:Nat)(b:Option Addr)(cb:Nat)(ks:List Int)(w:World)(hs:Small s.parts)(hl:ks.length<=1000000000)(h:Parts w a c s.parts)(h2:U8s w b cb ks) :
 Calls prog 154 #[KA s a c,.slice b ks.length cb] w (zD w (eN s.parts ks)):=by
 have HP:=Hd h;have HU:=Hd h2;obtain⟨hN,hx⟩:=hs;have Hk:=Hd hx;clear h h2 hx;unfold KA;go_enter func154,ntmps154;go_wp2
 go_loopw [1,14] (fun t1 t14 wr=>∃(k:Nat) (b1:Option Addr) (c1:Nat) (q:List Int),t14=.int .i64 k/\t1=.slice b1 q.length c1/\k<=s.parts.length/\q.length<=1000000000/\Hid (eN s.parts ks=eN (s.parts.drop k) q)/\Hid (U8s wr b1 c1 q)/\Hid (Below (w.heap.size+1) (boxS w s a c) wr)) (fun _ i _=>s.parts.length-(intOf i).toNat)
 case atStart=>exact⟨0,b,cb,ks,rfl,rfl,Nat.zero_le _,hl,Hd rfl,Hd (Row.mono HU.o (brf.alloc nlr _) nlr),Hd brf⟩
 case round=>
  obtain⟨k,b1,c1,q,rfl,rfl,hk,hq,HF,HQ,HB⟩:=hrel;have hd:Below w.heap.size w wr:=((Below.refl _ w).alloc nlr _).trans (HB.o.mono (by omega));have hz:=HB.o.size;have hQ:w.heap.size<wr.heap.size:=by have:=hz;simp at this;omega
  have hJ:wr.cell? ⟨w.heap.size,3,none⟩=some (.slice a s.parts.length c):=(HB.o.cell (p:=⟨w.heap.size,3,none⟩) (by simp)).trans (by simp);by_cases hlt:k<s.parts.length
  .obtain⟨bp,op,rfl,hH,p0,p1,p2⟩:=Parts.at (HP.o.mono hd nlr) hlt
   obtain⟨sa,sc,hy,ha⟩:=KM (P:=prog) (T:=208) (HP.o.mono hd nlr) KU EX ((k:Int)+1) (by omega) (by omega);have hD:((k:Int)+1).toNat=k+1:=by omega
   rw[hD]at hy ha;rw[qR]at ha;obtain⟨r,hr⟩:∃r,s.parts.drop (k+1)=r:=⟨_,rfl⟩
   have hi:r.length=s.parts.length-(k+1):=by rw[<-hr];simp
   obtain⟨m,hm⟩:∃m,s.parts.length-(k+1)=m:=⟨_,rfl⟩
   rw[hm]at hy ha hi;have hK:m<=3:=by omega
   have hv:∀p∈r,0<=p.1/\p.1<=801:=fun p hp=>Hk.o p (List.mem_of_mem_drop (hr▸hp));have hw:r.length=m:=hi;rw[hr]at ha;have Hl:=Hd (IR hlt q);obtain⟨p,hp⟩:∃p,s.parts[k]=p:=⟨_,rfl⟩
   have hM:=Hk.o p (hp▸List.getElem_mem hlt);rw[hp]at p0 p1 p2;have Hn:=Hd hp;have Hp:=Hd ha;have Hi:=Hd hd;have HR:=Hd hr;have Ho:=Hd hv;have Hh:=Hd hw;clear hp ha hz hr hv hi hm hw;go_wp2;rename World=>wk
   go_loopw [7,25] (fun t7 t25 wr=>∃(j:Nat) (x:Int),t25=.int .i64 j/\t7=.int .i64 x/\j<=m/\0<=x/\x<=801*j/\Hid (leasts r=x+leasts (r.drop j))/\Hid (Below (wk.heap.size+1) (wk.alloc (.cells #[intV p.1,intV p.2.1,p.2.2.V] 239)) wr)) (fun _ i _=>m-(intOf i).toNat)
   case atStart=>exact⟨0,0,rfl,rfl,Nat.zero_le _,Int.le_refl _,by omega,Hd (by simp),Hd brf⟩
   case round=>
    obtain⟨j,x,rfl,rfl,hj,hO,hP,HX,Hb⟩:=hrel;have hC:=Hb.o.size;have hG:wk.heap.size<wr.heap.size:=by simp at hC;omega
    have ho:Below wk.heap.size wk wr:=((Below.refl _ wk).alloc nlr _).trans (Hb.o.mono (by omega));have y0:wr.cell? ⟨wk.heap.size,0,none⟩=some (intV p.1):=(Hb.o.cell (p:=⟨wk.heap.size,0,none⟩) (by simp)).trans (by simp);have y1:wr.cell? ⟨wk.heap.size,1,none⟩=some (intV p.2.1):=(Hb.o.cell (p:=⟨wk.heap.size,1,none⟩) (by simp)).trans (by simp);have y2:wr.cell? ⟨wk.heap.size,2,none⟩=some p.2.2.V:=(Hb.o.cell (p:=⟨wk.heap.size,2,none⟩) (by simp)).trans (by simp);have Hc:=Hd ho;clear ho hC;by_cases hjt:j<m
    .have hg:j<r.length:=by rw[Hh.o];exact hjt
     obtain⟨br,or',e1,hI,z0,z1,z2⟩:=Parts.at (l:=r) (a:=sa) (c:=sc) (w:=wr) (by have:=Hp.o;rw[<-Hh.o]at this;exact Row.mono this Hc.o nlr) hg;subst e1;obtain⟨p',he⟩:∃p',r[j]=p':=⟨_,rfl⟩
     have hE:=Ho.o p' (he▸List.getElem_mem hg);have HL:=Hd (AA hg);rw[he]at z0 z1 z2;have Hm:=Hd he;clear he;go_wp2
     go_roundw
     case rel=>exact⟨j+1,x+p'.1,by go_num,rfl,by omega,by omega,by omega,Hd (by rw[HX.o,HL.o,Hm.o];omega),Hd (Hb.o.alloc (by omega) _)⟩
     case measure=>simp[intOf];omega
    .have hle:Hid (leasts r=x):=Hd (by rw[HX.o,List.drop_of_length_le (by rw[Hh.o];omega)];simp[leasts])
     have hf:Hid (eN (s.parts.drop k) q=((zu ((q.length:Int)-x) p.1 p.2.1&&(q.take ((q.length:Int)-x).toNat).all p.2.2.B)&&eN r (q.drop ((q.length:Int)-x).toNat))):=Hd (by rw[Hl.o,Hn.o,HR.o,hle.out])
     cases hin:zu ((q.length:Int)-x) p.1 p.2.1 with
     | false=>
       have Ha:=Hd hin;clear hin
       go_wp2_with (go_at_call 135;refine(zw _ _ _ _).mono ?_;rw[Ha.o];rintro e w' ⟨rfl,rfl⟩)
       go_ret;exact⟨zc (by rw[HF.o,hf.out,Ha.o];rfl),Hi.o.trans (Hc.o.mono (by omega))⟩
     | true=>
       have hF:=inRange_iff.1 hin;obtain⟨n,hn⟩:∃n:Nat,(q.length:Int)-x=n:=Int.eq_ofNat_of_zero_le (by omega);rw[hn]at hin;have Ha:=Hd hin;have HN:=Hd hn;have hL:n<=q.length:=by omega
       obtain⟨ua,uc,usl,usr⟩:=KK (P:=prog) (T:=46) (Row.mono (Row.mono HQ.o Hc.o nlr) brf nlr) KW CR (n:Int) (by omega) (by omega);obtain⟨va,vc,vsl,vsr⟩:=KM (P:=prog) (T:=46) (Row.mono (Row.mono HQ.o Hc.o nlr) brf nlr) KW CR (n:Int) (by omega) (by omega);have hh:(n:Int).toNat=n:=by omega
       rw[hh]at usl usr vsl vsr
       have hA:U8s wr ua uc (q.take n):=by
        have:Row 1 wr ua n uc ((u8sV q).take (n*1)):=usr;rw[Nat.mul_one,<-List.map_take]at this;have hl:(q.take n).length=n:=by simp;omega
        unfold U8s;rw[hl];exact this
       have hB:U8s wr va vc (q.drop n):=by
        have:Row 1 wr va (q.length-n) vc ((u8sV q).drop (n*1)):=vsr;rw[Nat.mul_one,<-List.map_drop]at this;have hl:(q.drop n).length=q.length-n:=by simp
        unfold U8s;rw[hl];exact this
       have Hq:=Hd hA;have Hr:=Hd hB;have Hj:=Hd hh;clear hin hA hB usr vsr hh hF;have hb:(q.take n).length=n:=by simp;omega
       have Hf:=Hd hb;have hc:(q.drop n).length=q.length-n:=by simp
       have Hg:=Hd hc;clear hb hc
       have hu:Calls prog 192 #[.slice ua n uc,.func (.func 193) #[] #[.pointer (some ⟨wk.heap.size,0,none⟩)]] wr fun e w'=>e=.returned (.bool (!(q.take n).all p.2.2.B))/\wr=w':=by
        have:=rE p.2.2 wk.heap.size ua uc (q.take n) wr (by rw[Hf.o];omega) Hq.o y2;rwa[Hf.o]at this
       have ht:=Hd hu;clear hu
       cases hal:(q.take n).all p.2.2.B with
       | false=>
         have He:=Hd hal;clear hal
         go_wp2_with (first
          | (go_at_call 135;refine(zw _ _ _ _).mono ?_;rw[Ha.o];rintro e w' ⟨rfl,rfl⟩)
          | (go_at_call 192;refine ht.out.mono ?_;rw[He.o];rintro e w' ⟨rfl,rfl⟩))
         go_ret;exact⟨zc (by rw[HF.o,hf.out,HN.o,Ha.o,Hj.o,He.o];rfl),Hi.o.trans (Hc.o.mono (by omega))⟩
       | true=>
         have He:=Hd hal;clear hal
         go_wp2_with (first
          | (go_at_call 135;refine(zw _ _ _ _).mono ?_;rw[Ha.o];rintro e w' ⟨rfl,rfl⟩)
          | (go_at_call 192;refine ht.out.mono ?_;rw[He.o];rintro e w' ⟨rfl,rfl⟩))
         go_roundw
         case rel=>exact⟨k+1,va,vc,q.drop n,by go_num,by rw[Hg.o],by omega,by rw[Hg.o];omega,Hd (by rw[HF.o,hf.out,HN.o,Ha.o,Hj.o,He.o,HR.o];rfl),Hr,Hd (HB.o.trans (Hc.o.mono (by omega)))⟩
         case measure=>simp[intOf];omega
  .go_wp2
   go_ret;refine⟨zc ?_,hd⟩;rw[HF.o,List.drop_of_length_le (by omega),bJ,Bool.eq_iff_iff];simp
end
end Go.Proofs.YtcdkdiedphhdhaaGreatDoor
