/- Part of a proof. -/
import Derived.Test.YtcdkdiedphhdhaaGreatDoorK16
import Derived.Laws.EntriesVeiled
set_option maxRecDepth 100000
set_option maxHeartbeats 8000000
set_option linter.unusedVariables false
set_option linter.unusedSimpArgs false
open Go.Proofs.Tryz
namespace Go.Proofs.YtcdkdiedphhdhaaGreatDoor
section
open Go.RowKit
namespace N
def NewS(B:Nat)(z:Array Value)(T:TypeId)(n:Nat):List Value->Value->World->Prop:=fun _ v w=>∃g,v=.slice (some ⟨g,0,none⟩) n n/\B<=g/\w.heap[g]?=some (.cells z T (0,0))
theorem NewS.st{B:Nat}{z:Array Value}{T:TypeId}{n:Nat}{ds:List Nat}:(Kd.dep ds (NewS B z T n)).St (fun w w'=>RowKit.Below w.heap.size w w'):=by
 rintro l v w w' hk⟨g,h1,h2,h3⟩;exact⟨g,h1,h2,(hk.block g (Array.getElem?_eq_some_iff.1 h3).1).trans h3⟩
structure Off (t:Nat) (W W':World):Prop where
 os:W'.os=W.os
 tape:W'.tape=W.tape
 output:W'.output=W.output
 size:W.heap.size<=W'.heap.size
 block:∀b,b<W.heap.size->b≠t->W'.heap[b]?=W.heap[b]?
theorem Off.refl(t:Nat)(W:World):Off t W W:=⟨rfl,rfl,rfl,nlr,fun _ _ _=>rfl⟩
theorem Off.trans{t:Nat}{A B C:World}(h:Off t A B)(k:Off t B C):Off t A C:=
 ⟨k.os.trans h.os,k.tape.trans h.tape,k.output.trans h.output,Nat.le_trans h.size k.size,fun b hb hn=>(k.block b (Nat.lt_of_lt_of_le hb h.size) hn).trans (h.block b hb hn)⟩
theorem Off.of_below{t:Nat}{W W':World}(h:RowKit.Below W.heap.size W W'):Off t W W':=⟨h.os,h.tape,h.output,h.size,fun b hb _=>h.block b hb⟩
theorem Off.below{t B:Nat}{W W':World}(h:Off t W W')(ht:B<=t)(hB:B<=W.heap.size):RowKit.Below B W W':=⟨h.os,h.tape,h.output,h.size,fun b hb=>h.block b (by omega) (by omega)⟩
theorem Off.cell{t:Nat}{W W':World}(h:Off t W W')(b o:Nat)(hb:b<W.heap.size)(hn:b≠t):W'.cell? ⟨b,o,none⟩=W.cell? ⟨b,o,none⟩:=World.cell?_of_block (a:=⟨b,o,none⟩) (h.block b hb hn)
def SJ(t:Nat)(Z:Obj)(X:Nat->Obj)(p:Obj)(W0 W:World):Prop:=Off t W0 W/\(W.heap[t]?=some Z\/∃g,W0.heap.size<=g/\W.heap[t]?=some (X g)/\W.heap[g]?=some p)
def SK(t:Nat)(Z:Obj)(W W':World):Prop:=Off t W W'/\(W.heap[t]?≠some Z->W'.heap[t]?≠some Z)
theorem SK.refl(t:Nat)(Z:Obj)(W:World):SK t Z W W:=⟨Off.refl _ _,fun h=>h⟩
theorem SK.of_below{t:Nat}{Z:Obj}{W W':World}(ht:t<W.heap.size)(h:RowKit.Below W.heap.size W W'):SK t Z W W':=⟨Off.of_below h,fun hz=>by rw[h.block t ht];exact hz⟩
theorem SJ.of_below{t:Nat}{Z:Obj}{X:Nat->Obj}{p:Obj}{W0 W W':World}(h:SJ t Z X p W0 W)(ht:t<W0.heap.size)(hb:RowKit.Below W.heap.size W W'):SJ t Z X p W0 W':=by
 obtain⟨h1,h2⟩:=h;refine⟨h1.trans (Off.of_below hb),?_⟩;rcases h2 with h2|⟨g,h3,h4,h5⟩
 .exact .inl ((hb.block t (Nat.lt_of_lt_of_le ht h1.size)).trans h2)
 .exact .inr ⟨g,h3,(hb.block t (Nat.lt_of_lt_of_le ht h1.size)).trans h4,(hb.block g (Array.getElem?_eq_some_iff.1 h5).1).trans h5⟩
theorem SJ.lt{t:Nat}{Z:Obj}{X:Nat->Obj}{p:Obj}{W0 W:World}(h:SJ t Z X p W0 W)(ht:t<W0.heap.size):t<W.heap.size:=Nat.lt_of_lt_of_le ht h.1.size
theorem NewS.stK{B:Nat}{z:Array Value}{T:TypeId}{n t:Nat}{Z:Obj}{ds:List Nat}(ht:t<B):(Kd.dep ds (NewS B z T n)).St (SK t Z):=by
 rintro l v w w' hk⟨g,h1,h2,h3⟩;exact⟨g,h1,h2,(hk.1.block g (Array.getElem?_eq_some_iff.1 h3).1 (by omega)).trans h3⟩
theorem heap_setCell_at{W:World}{t i:Nat}{c:Array Value}{T:TypeId}{f:Nat×Nat}(h:W.heap[t]?=some (.cells c T f))(v:Value):(W.setCell ⟨t,i,none⟩ v).heap[t]?=some (.cells (c.setIfInBounds i v) T f):=by
 unfold World.setCell;simp[Array.getElem?_modify,h]
theorem Off.setCell(W:World)(t i:Nat)(v:Value):Off t W (W.setCell ⟨t,i,none⟩ v):=
 ⟨rfl,rfl,rfl,by simp,fun b hb hn=>Below.heap_setCell W ⟨t,i,none⟩ v b hn⟩
end N
theorem row3{w:World}{b:Nat}{x0 x1 x2:Value}(hb:b<w.heap.size)(h0:w.cell? ⟨b,0,none⟩=some x0)(h1:w.cell? ⟨b,1,none⟩=some x1)(h2:w.cell? ⟨b,2,none⟩=some x2):Row 3 w (some ⟨b,0,none⟩) 1 1 [x0,x1,x2]:=
 ⟨rfl,nlr,(fun h=>by cases h),.inr ⟨b,0,rfl,hb,fun i hi=>by
  match i,hi with
  |0,_=>exact h0
  |1,_=>exact h1
  |2,_=>exact h2⟩⟩
theorem lP(a:Option Addr)(n c:Nat)(w:World):Calls prog 185 #[.slice a n c] w fun e w'=>e=.returned (.agg #[.bool false,intV 0,intV 0,.slice a n c])/\Below w.heap.size w w':=by
 go_enter func185,ntmps185;go_wp2
 go_returns
 exact⟨rfl,by go_grown⟩
theorem FL(n:Int)(f:Value)(w:World)(hf:∃k,f=.func (.func k) #[] #[]):Calls prog 183 #[intV n,f] w fun e w'=>e=.returned (.agg #[intV n,intV n,f])/\Below w.heap.size w w':=by
 obtain⟨k,rfl⟩:=hf;go_enter func183,ntmps183;go_wp2
 go_returns
 exact⟨rfl,by go_grown⟩
theorem oP{c:Code}{P:Program}{Q:Exit->Act->World->Prop}{a:Act}{w:World}(F:World->Prop)(hF:F w)(h:∀W,F W->c.wp P Q a W):c.wp P Q a w:=h w hF
def Ahead(w:World)(k:Int)(W:World):Prop:=
 W.cell? ⟨w.heap.size,0,none⟩=some (.int .u8 k) /\
 (W.cell? ⟨w.heap.size+1+1+1+1+1+1,0,none⟩=some (intV 2)/\W.cell? ⟨w.heap.size+1+1+1+1+1+1,1,none⟩=some (intV 2)/\W.cell? ⟨w.heap.size+1+1+1+1+1+1,2,none⟩=some (PK.V .expr)) /\
 W.heap[w.heap.size+1]?=some (.cells #[.bool false,intV 0,intV 0,.slice none 0 0] 210 (0,0))/\Below w.heap.size w W/\w.heap.size+1+1+1+1+1+1<W.heap.size
abbrev ZS:Obj:=.cells #[.bool false,intV 0,intV 0,.slice none 0 0] 210 (0,0)
abbrev XS(g:Nat):Obj:=.cells #[.bool false,intV 0,intV 0,.slice (some ⟨g,0,none⟩) 1 1] 210 (0,0)
abbrev PS2:Obj:=.cells #[intV 2,intV 2,PK.V .expr] 239 (0,0)
abbrev SJs(w W0:World):World->Prop:=N.SJ (w.heap.size+1) ZS XS PS2 W0
abbrev SKs(w:World):World->World->Prop:=N.SK (w.heap.size+1) ZS
theorem zm{w W0 W:World}{k:Int}(h:Ahead w k W0)(hJ:SJs w W0 W):W.cell? ⟨w.heap.size,0,none⟩=some (.int .u8 k)/\W.cell? ⟨w.heap.size+1+1+1+1+1+1,0,none⟩=some (intV 2)/\W.cell? ⟨w.heap.size+1+1+1+1+1+1,1,none⟩=some (intV 2)/\W.cell? ⟨w.heap.size+1+1+1+1+1+1,2,none⟩=some (PK.V .expr):=by
 obtain⟨c0,⟨p0,p1,p2⟩,_,_,ha⟩:=h;exact⟨(hJ.1.cell _ _ (by omega) (by omega)).trans c0,(hJ.1.cell _ _ (by omega) (by omega)).trans p0,(hJ.1.cell _ _ (by omega) (by omega)).trans p1,(hJ.1.cell _ _ (by omega) (by omega)).trans p2⟩
theorem RW(g:Nat):(some (XS g):Option Obj)≠some ZS:=by intro h;simp at h
theorem nL(W:World)(t:Nat)(cs:Array Value):N.Off t W (W.setRow t cs):=
 ⟨rfl,rfl,rfl,by simp[World.setRow],fun b hb hn=>by simp only[World.setRow];rw[Array.getElem?_modify,if_neg (fun e=>hn e.symm)]⟩
theorem EY:(prog.info? 210).map (·.size)=some 4:=by kernel_rfl
theorem oN{w W0 W:World}{g:Nat}{o:Oper}{a:Act}{Q:Exit->Act->World->Prop}(ht:w.heap.size+1<W0.heap.size)(hg:W0.heap.size<=g)(hp:W.heap[g]?=some PS2)(hJ:SJs w W0 W)(x y:Operand)(ho:o.op=.store 210 x y)(hd:o.dst=none)
 (hx:a.eval x=.pointer (some ⟨w.heap.size+1,0,none⟩))(hy:a.eval y=.agg #[.bool false,intV 0,intV 0,.slice (some ⟨g,0,none⟩) 1 1]) :
 o.wp prog a W (fun a' W'=>∃v,a'=a.put o.dst v/\SJs w W0 W'/\SKs w W W'/\W'.heap[w.heap.size+1]?≠some ZS) Q:=by
 have key:∀old,W.heap[w.heap.size+1]?=some (.cells old 210 (0,0))->old.size=4->o.wp prog a W (fun a' W'=>∃v,a'=a.put o.dst v/\SJs w W0 W'/\SKs w W W'/\W'.heap[w.heap.size+1]?≠some ZS) Q:=by
  intro old ha hs;have hn:=setRow_heap W _ old #[.bool false,intV 0,intV 0,.slice (some ⟨g,0,none⟩) 1 1] _ _ ha;refine wp_store_row 210 x y ho (w.heap.size+1) #[.bool false,intV 0,intV 0,.slice (some ⟨g,0,none⟩) 1 1] hx hy 210 old ha EY (by rw[hs];rfl) (by simp[Value.oneCell']) ⟨undef,rfl,⟨hJ.1.trans (nL _ _ _),.inr ⟨g,hg,hn,?_⟩⟩,⟨nL _ _ _,fun _=>by rw[hn];exact RW g⟩,by rw[hn];exact RW g⟩;rw[(nL W (w.heap.size+1) _).block g (Array.getElem?_eq_some_iff.1 hp).1 (by omega)];exact hp
 rcases hJ.2 with h|⟨g',_,h,_⟩
 .exact key _ h rfl
 .exact key _ h rfl
theorem aT(d:Nd)(ka:Option Addr)(kc:Nat)(w:World)(h1:6<=d.kind)(h2:d.kind<=18):Calls prog 153 #[ndV d ka kc] w (zJ w (some ⟨false,0,0,[(2,2,.expr)]⟩)):=by
 have hi:prog.follows .mixedOrders=true:=by kernel_rfl
 unfold ndV;obtain⟨k,hk⟩:∃k,d.kind=k:=⟨_,rfl⟩
 rw[hk]at h1 h2|-;clear hk;have n1:(k==1)=false:=by simp;omega
 have n2:(k==2)=false:=by simp;omega
 have n3:(k==3)=false:=by simp;omega
 have n32:(k==32)=false:=by simp;omega
 have n45:(k==45)=false:=by simp;omega
 have n4:(k==4)=false:=by simp;omega
 have n5:(k==5)=false:=by simp;omega
 have n19:(k==19)=false:=by simp;omega
 have n20:(k==20)=false:=by simp;omega
 have n21:(k==21)=false:=by simp;omega
 have n22:(k==22)=false:=by simp;omega
 have n25:(k==25)=false:=by simp;omega
 have n43:(k==43)=false:=by simp;omega
 have n44:(k==44)=false:=by simp;omega
 have n24:(k==24)=false:=by simp;omega
 have n26:(k==26)=false:=by simp;omega
 have n30:(k==30)=false:=by simp;omega
 have n31:(k==31)=false:=by simp;omega
 have n33:(k==33)=false:=by simp;omega
 have n34:(k==34)=false:=by simp;omega
 have n40:(k==40)=false:=by simp;omega
 have n41:(k==41)=false:=by simp;omega
 have n42:(k==42)=false:=by simp;omega
 have n46:(k==46)=false:=by simp;omega
 go_enter func153,ntmps153;go_wp2;refine oP (Ahead w k) ⟨by go_simp,⟨by go_simp,by go_simp,by go_simp;rfl⟩,((show Below (w.heap.size+1+1) ((w.alloc (.cells #[.int .u8 k,strV d.text,intV d.n,.slice ka d.kids.length kc,intV d.pos] 31)).alloc (.cells #[.bool false,intV 0,intV 0,.slice none 0 0] 210)) _ from by go_grown).block (w.heap.size+1) (by omega)).trans (by have:=heap_alloc_new (w.alloc (.cells #[.int .u8 k,strV d.text,intV d.n,.slice ka d.kids.length kc,intV d.pos] 31)) (.cells #[.bool false,intV 0,intV 0,.slice none 0 0] 210);rwa[World.size_alloc]at this),by go_grown,by simp⟩ ?_;intro W0 hA;have HA:=Hd hA;obtain⟨_,_,hl,hd,hj⟩:=hA;have ha:w.heap.size+1<W0.heap.size:=by omega
 have Ha:=Hd hd;clear hd hj;refine N.region_M 18 hi (by kernel_rfl) (by kernel_rfl) rfl (by kernel_rfl) (by kernel_rfl) (fun _ _=>False) N.Pans.no (SJs w W0) (SKs w) ⟨N.Off.of_below (brf.drew),.inl hl⟩ [.fix ?vS0,.fix ?vS1,.dep [] (N.NewS W0.heap.size #[intV 2,intV 2,PK.V .expr] 239 1),.dep [2] (fun l v _=>v=.agg #[.bool false,intV 0,intV 0,l.getD 0 undef]),.fix ?vS4,.fix ?vS5,.fix ?vS6,.fix ?vS7,.fix ?vS8,.fix ?vS9,.fix ?vS10,.fix ?vS11,.fix ?vS12,.fix undef,.fix undef,.fix undef,.fix ?vS16,.dep [] (fun _ _ W=>W.heap[w.heap.size+1]?≠some ZS)] [[],[],[],[2],[],[],[],[],[],[],[],[],[],[],[],[],[],[]] rfl (by kernel_rfl) (N.sts_kd ⟨trivial,trivial,N.NewS.stK ha,(fun _ _ _ _ _ h=>h),trivial,trivial,trivial,trivial,trivial,trivial,trivial,trivial,trivial,trivial,trivial,trivial,trivial,(fun _ _ _ _ hk h=>hk.2 h),trivial⟩) fun x=>?_;rotate_left 12;refine N.WalkM.fix ?s0 ?r0;case s0=>refine N.StepS.known rfl (fun _=>N.SK.refl _ _ _) ?_;intro W hJ hP;obtain⟨j0,j1,j2,j3⟩:=zm HA.o hJ;go_simp;try rfl
 simp only[N.pz];refine N.WalkM.fix ?s1 ?r1;case s1=>refine N.StepS.known rfl (fun _=>N.SK.refl _ _ _) ?_;intro W hJ hP;obtain⟨j0,j1,j2,j3⟩:=zm HA.o hJ;go_simp;try rfl
 simp only[N.pz];refine N.WalkM.dep ?s2 ?r2;case s2=>exact N.StepS.runs rfl (fun W hJ _=>⟨_,_,by(go_simp;try rfl),hJ.of_below ha (brf.alloc nlr _),N.SK.of_below (hJ.lt ha) (brf.alloc nlr _),⟨W.heap.size,rfl,hJ.1.size,heap_alloc_new _ _⟩⟩)
 simp only[N.pz];refine N.WalkM.dep ?s3 ?r3;case s3=>(refine N.StepS.call' (f:=185) (args:=#[x 2]) rfl ?_ ?_;(intro W hJ hP;(go_simp;try rfl));(intro W hJ hP;obtain⟨g,hg,_,_⟩:N.NewS W0.heap.size #[intV 2,intV 2,PK.V .expr] 239 1 [] (x 2) W:=hP 2 (by kernel_rfl);rw[hg];refine(lP _ _ _ _).mono ?_;rintro e w' ⟨rfl,hb⟩;exact⟨_,rfl,hJ.of_below ha hb,N.SK.of_below (hJ.lt ha) hb,by simp[hg]⟩))
 simp only[N.pz];refine N.WalkM.fix ?s4 ?r4;case s4=>refine N.StepS.known rfl (fun _=>N.SK.refl _ _ _) ?_;intro W hJ hP;obtain⟨j0,j1,j2,j3⟩:=zm HA.o hJ;go_simp;try rfl
 simp only[N.pz];refine N.WalkM.fix ?s5 ?r5;case s5=>refine N.StepS.known rfl (fun _=>N.SK.refl _ _ _) ?_;intro W hJ hP;obtain⟨j0,j1,j2,j3⟩:=zm HA.o hJ;go_simp;try rfl
 simp only[N.pz];refine N.WalkM.fix ?s6 ?r6;case s6=>refine N.StepS.known rfl (fun _=>N.SK.refl _ _ _) ?_;intro W hJ hP;obtain⟨j0,j1,j2,j3⟩:=zm HA.o hJ;go_simp;try rfl
 simp only[N.pz];refine N.WalkM.fix ?s7 ?r7;case s7=>refine N.StepS.known rfl (fun _=>N.SK.refl _ _ _) ?_;intro W hJ hP;obtain⟨j0,j1,j2,j3⟩:=zm HA.o hJ;go_simp;try rfl
 simp only[N.pz];refine N.WalkM.fix ?s8 ?r8;case s8=>refine N.StepS.known rfl (fun _=>N.SK.refl _ _ _) ?_;intro W hJ hP;obtain⟨j0,j1,j2,j3⟩:=zm HA.o hJ;go_simp;try rfl
 simp only[N.pz];refine N.WalkM.fix ?s9 ?r9;case s9=>refine N.StepS.known rfl (fun _=>N.SK.refl _ _ _) ?_;intro W hJ hP;obtain⟨j0,j1,j2,j3⟩:=zm HA.o hJ;go_simp;try rfl
 simp only[N.pz];refine N.WalkM.fix ?s10 ?r10;case s10=>refine N.StepS.known rfl (fun _=>N.SK.refl _ _ _) ?_;intro W hJ hP;obtain⟨j0,j1,j2,j3⟩:=zm HA.o hJ;go_simp;try rfl
 simp only[N.pz];refine N.WalkM.fix ?s11 ?r11;case s11=>refine N.StepS.known rfl (fun _=>N.SK.refl _ _ _) ?_;intro W hJ hP;obtain⟨j0,j1,j2,j3⟩:=zm HA.o hJ;go_simp;try rfl
 simp only[N.pz];refine N.WalkM.fix ?s12 ?r12;case s12=>refine N.StepS.known rfl (fun _=>N.SK.refl _ _ _) ?_;intro W hJ hP;obtain⟨j0,j1,j2,j3⟩:=zm HA.o hJ;go_simp;try rfl
 simp only[N.pz];refine N.WalkM.fix ?s13 ?r13;case s13=>exact N.StepS.skip rfl (fun _=>N.SK.refl _ _ _) (fun _ _ _=>rfl)
 simp only[N.pz];refine N.WalkM.fix ?s14 ?r14;case s14=>exact N.StepS.skip rfl (fun _=>N.SK.refl _ _ _) (fun _ _ _=>rfl)
 simp only[N.pz];refine N.WalkM.fix ?s15 ?r15;case s15=>exact N.StepS.skip rfl (fun _=>N.SK.refl _ _ _) (fun _ _ _=>rfl)
 simp only[N.pz];refine N.WalkM.fix ?s16 ?r16;case s16=>refine N.StepS.known rfl (fun _=>N.SK.refl _ _ _) ?_;intro W hJ hP;obtain⟨j0,j1,j2,j3⟩:=zm HA.o hJ;go_simp;try rfl
 simp only[N.pz];refine N.WalkM.dep ?s17 ?r17;case s17=>(refine .inl ⟨rfl,fun W hJ hP=>?_⟩;obtain⟨g,hg,hf,hh⟩:N.NewS W0.heap.size #[intV 2,intV 2,PK.V .expr] 239 1 [] (x 2) W:=hP 2 (by kernel_rfl);have h3:x 3=.agg #[.bool false,intV 0,intV 0,[x 2].getD 0 undef]:=hP 3 (by kernel_rfl);refine oN (g:=g) ha hf hh hJ (.tmp 2) (.tmp 118) rfl rfl rfl ?_;refine Eq.trans (b:=x 3) rfl ?_;rw[h3,hg];rfl)
 simp only[N.pz];refine N.WalkM.nil fun W hJ hH=>?_;have he:W.heap[w.heap.size+1]?≠some ZS:=hH 17;obtain⟨hc,hz|⟨g,hg,hx,hp⟩⟩:=hJ
 .exact(he hz).elim
 have hb:Below w.heap.size w W:=Ha.o.trans (hc.below (by omega) Ha.o.size);have u0:W.cell? ⟨w.heap.size+1,0,none⟩=some (.bool false):=by simp[World.cell?,hx]
 have u1:W.cell? ⟨w.heap.size+1,1,none⟩=some (intV 0):=by simp[World.cell?,hx]
 have u2:W.cell? ⟨w.heap.size+1,2,none⟩=some (intV 0):=by simp[World.cell?,hx]
 have u3:W.cell? ⟨w.heap.size+1,3,none⟩=some (.slice (some ⟨g,0,none⟩) 1 1):=by simp[World.cell?,hx]
 clear he hH hc hx;go_wp2;refine bodyPost_ret (v:=.tuple #[.agg #[.bool false,intV 0,intV 0,.slice (some ⟨g,0,none⟩) 1 1],.bool true]) (by simp[results,results153,go_sem,loadVar,u0,u1,u2,u3,Result.andThen]) rfl ⟨_,_,rfl,row3 (Array.getElem?_eq_some_iff.1 hp).1 (by simp[World.cell?,hp]) (by simp[World.cell?,hp]) (by simp[World.cell?,hp]),hb⟩
theorem LH(d:Nd)(ka:Option Addr)(kc:Nat)(w:World)(hk:d.kind=1):Calls prog 153 #[ndV d ka kc] w (zJ w (some ⟨false,0,9999,[]⟩)):=by
 unfold ndV;rw[hk];clear hk;go_enter func153,ntmps153;go_wp2
 go_returns
 exact⟨none,0,rfl,⟨rfl,nlr,fun _=>rfl,.inl rfl⟩,by go_grown⟩
theorem LI(d:Nd)(ka:Option Addr)(kc:Nat)(w:World)(hk:d.kind=2):Calls prog 153 #[ndV d ka kc] w (zJ w (some ⟨false,0,1,[]⟩)):=by
 unfold ndV;rw[hk];clear hk;go_enter func153,ntmps153;go_wp2
 go_returns
 exact⟨none,0,rfl,⟨rfl,nlr,fun _=>rfl,.inl rfl⟩,by go_grown⟩
theorem LJ(d:Nd)(ka:Option Addr)(kc:Nat)(w:World)(hk:d.kind=3):Calls prog 153 #[ndV d ka kc] w (zJ w (some ⟨true,0,0,[]⟩)):=by
 unfold ndV;rw[hk];clear hk;go_enter func153,ntmps153;go_wp2
 go_returns
 exact⟨none,0,rfl,⟨rfl,nlr,fun _=>rfl,.inl rfl⟩,by go_grown⟩
theorem FX(d:Nd)(ka:Option Addr)(kc:Nat)(w:World)(hk:d.kind=32):Calls prog 153 #[ndV d ka kc] w (zJ w (some ⟨true,0,0,[]⟩)):=by
 unfold ndV;rw[hk];clear hk;go_enter func153,ntmps153;go_wp2
 go_returns
 exact⟨none,0,rfl,⟨rfl,nlr,fun _=>rfl,.inl rfl⟩,by go_grown⟩
theorem GF(d:Nd)(ka:Option Addr)(kc:Nat)(w:World)(hk:d.kind=45):Calls prog 153 #[ndV d ka kc] w (zJ w (some ⟨true,0,0,[]⟩)):=by
 unfold ndV;rw[hk];clear hk;go_enter func153,ntmps153;go_wp2
 go_returns
 exact⟨none,0,rfl,⟨rfl,nlr,fun _=>rfl,.inl rfl⟩,by go_grown⟩
theorem FV(d:Nd)(ka:Option Addr)(kc:Nat)(w:World)(hk:d.kind=30):Calls prog 153 #[ndV d ka kc] w (zJ w (some ⟨false,0,0,[]⟩)):=by
 unfold ndV;rw[hk];clear hk;go_enter func153,ntmps153;go_wp2
 go_returns
 exact⟨none,0,rfl,⟨rfl,nlr,fun _=>rfl,.inl rfl⟩,by go_grown⟩
theorem FW(d:Nd)(ka:Option Addr)(kc:Nat)(w:World)(hk:d.kind=31):Calls prog 153 #[ndV d ka kc] w (zJ w (some ⟨false,0,0,[]⟩)):=by
 unfold ndV;rw[hk];clear hk;go_enter func153,ntmps153;go_wp2
 go_returns
 exact⟨none,0,rfl,⟨rfl,nlr,fun _=>rfl,.inl rfl⟩,by go_grown⟩
theorem FR(d:Nd)(ka:Option Addr)(kc:Nat)(w:World)(hk:d.kind=24):Calls prog 153 #[ndV d ka kc] w (zJ w (some ⟨true,0,0,[(1,801,.put)]⟩)):=by
 unfold ndV;rw[hk];clear hk;go_enter func153,ntmps153;go_wp2
 go_returns
 exact⟨_,_,rfl,row3 (by simp) (by go_simp) (by go_simp) (by go_simp;rfl),by go_grown⟩
end
end Go.Proofs.YtcdkdiedphhdhaaGreatDoor
