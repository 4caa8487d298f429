/- Part of a proof. -/
import Derived.Test.YtipjhljnkocioaaGreatDoorP40
import Derived.Test.YtipjhljnkocioaaGreatDoorQC02
set_option maxRecDepth 100000
set_option maxHeartbeats 8000000
set_option linter.unusedVariables false
set_option linter.unusedSimpArgs false
open Go.Proofs.Tryz
namespace Go.Proofs.YtipjhljnkocioaaGreatDoor
section
open Go Go.RowKit
def ML(X Y:Nat→Nat)(n:Nat):List Value:=(List.range (n*2)).map fun j=>if j % 2=0 then .int .u8 (X (j / 2))else .int .u8 (Y (j / 2))
theorem LS(X Y:Nat→Nat)(n:Nat):(ML X Y n).length=n*2:=by simp[ML]
theorem NB{w:World}{X Y:Nat→Nat}{a:Option Addr}{n c:Nat}(h:Row 2 w a n c (ML X Y n)){i:Nat}(hi:i<n) :
 ∃b o,a=some ⟨b,o,none⟩∧b<w.heap.size∧w.cell? ⟨b,o+i*2,none⟩=some (.int .u8 (X i))∧w.cell? ⟨b,o+i*2+1,none⟩=some (.int .u8 (Y i)):=by
 obtain⟨b,o,rfl,hb,hc⟩:=h.some (by omega);refine⟨b,o,rfl,hb,?_,?_⟩
 ·rw[hc (i*2) (by rw[LS];omega)]
  unfold ML;simp
 ·rw[Nat.add_assoc,hc (i*2+1) (by rw[LS];omega)]
  unfold ML;have e:(i*2+1) / 2=i:=by omega
  simp[e]
theorem MJ(X Y:Nat→Nat):∀d i,LU X Y (d+1) i=LU X Y d i++letC (X (i+d)) (Y (i+d))
 |0,i=>by simp[LU]
 | d+1,i=>by
   rw[LU,MJ X Y d (i+1),LU,List.append_assoc,show i+1+d=i+(d+1) by omega]
structure Words (W:World) (g:Nat):Prop where
 at_:∀x:Nat,W.cell? ⟨g,x % 3,none⟩=some (strV (nmC x))
 gl:g<W.heap.size
theorem Words.new(w:World):Words (w.alloc (.cells #[strV [97],strV [98],strV [99]] 9)) w.heap.size:=by
 refine⟨fun x=>?_,by simp⟩;rcases LQ x with⟨h,e⟩|⟨h,e⟩|⟨h,e⟩<;>rw[h,e]<;>exact zX rfl
theorem Words.step{W W':World}{g:Nat}(h:Words W g)(hb:Below W.heap.size W W'):Words W' g:=
 ⟨fun x=>(hb.cell (p:=⟨g,x % 3,none⟩) h.gl).trans (h.at_ x),Nat.lt_of_lt_of_le h.gl hb.size⟩
structure Mns (W:World) (g:Nat) (f:Nat→Nat):Prop where
 at_:∀x:Nat,W.cell? ⟨g,x % 3,none⟩=some (intV (f x))
 gl:g<W.heap.size
 fz:∀x:Nat,W.frozen? ⟨g,x,none⟩=false
theorem Mns.step{W W':World}{g:Nat}{f:Nat→Nat}(h:Mns W g f)(hb:Below W.heap.size W W'):Mns W' g f:=
 ⟨fun x=>(hb.cell (p:=⟨g,x % 3,none⟩) h.gl).trans (h.at_ x),Nat.lt_of_lt_of_le h.gl hb.size,fun x=>(hb.frozen (p:=⟨g,x,none⟩) h.gl).trans (h.fz x)⟩
theorem Mns.new(w:World)(X:Nat→Nat)(d:Nat){g:Nat}(hg:w.heap.size=g):Mns (w.alloc (.cells #[intV 1,intV 3,intV 5] 65)) g (envC X d 0):=by
 subst hg;refine⟨fun x=>?_,by simp,fun x=>zu (World.alloc_heap_new w _)⟩;have:x % 3<3:=Nat.mod_lt _ (by omega);unfold envC;by_cases h0:x % 3=0
 ·rw[h0];exact zX rfl
 ·by_cases h1:x % 3=1
  ·rw[h1];exact zX rfl
  ·rw[show x % 3=2 by omega];exact zX rfl
theorem Mns.put{W:World}{g:Nat}{X:Nat→Nat}{d k:Nat}(h:Mns W g (envC X d k)):Mns (W.setCell ⟨g,X k % 3,none⟩ (intV (10+2*d-k:Nat))) g (envC X d (k+1)):=by
 refine⟨fun x=>?_,by simpa using h.gl,fun x=>by rw[World.frozen?_setCell];exact h.fz x⟩;unfold envC;by_cases e:X k % 3=x % 3
 ·rw[if_pos e,←e]
  exact World.cell?_setCell_same _ _ _ (h.at_ (X k))
 ·rw[if_neg e,World.cell?_setCell_other _ _ _ _ (by simp only[ne_eq,Addr.mk.injEq,true_and,and_true];omega)]
  exact h.at_ x
theorem NP(X Y:Nat→Nat){d:Nat}(hd:d≤12)(w:World)(hg:GV w) :
 Calls prog 35 #[strV (LY X Y d)] w fun e w'=>∃(na:Option Addr) (nc:Nat) (ia:Option Addr) (ic:Nat) (a:Option Addr) (c ni NL:Nat) (l:List Int),
  e=.returned (.tuple #[.agg #[.slice na NL nc,.slice ia ni ic],.slice a l.length c,.bool true])∧NL=12+2*d∧l.length=12+2*d∧Ints w' a c l∧Below w.heap.size w w' ∧
  (∀i,i<d→l[6+i]?=some ((envC X d i (Y i):Nat):Int))∧l[6+d]?=some ((envC X d d 0:Nat):Int)∧l[6+d+1]?=some ((envC X d d 1:Nat):Int)∧l[6+d+3]?=some ((envC X d d 2:Nat):Int):=by
 refine(gM (LY X Y d) w (by rw[LW];unfold maxLen;omega) hg).mono ?_;rintro e w1⟨⟨na,nc,ia,ic⟩,t,a9,c9,l,ok,rfl,ht,hi,hb1,hbd,hrg,hok,hcl⟩;have hres:=PF X Y hd;obtain⟨rfl,rfl⟩:=hcl (EE X Y d) (by rw[LW];omega) (RC X Y hd) (by rw[hres]);obtain⟨-,rfl⟩:=hok rfl;have hN:=OQ X Y d;have hll:(ze (EE X Y d) (EE X Y d).nodes.length).length=12+2*d:=by rw[zD,hN]
 refine⟨na,nc,ia,ic,a9,c9,_,_,_,rfl,hN,hll,hi,hb1,fun i h=>?_,?_,?_,?_⟩
 ·rw[MK (by rw[hN];omega),←MQ X Y hd h]
 ·rw[MK (by rw[hN];omega),← (MA X Y hd).1]
 ·rw[MK (by rw[hN];omega),← (MA X Y hd).2.1,show 7+d=6+d+1 by omega]
 ·rw[MK (by rw[hN];omega),← (MA X Y hd).2.2,show 9+d=6+d+3 by omega]
theorem MN(X Y:Nat→Nat)(n c:Nat)(a:Option Addr)(w:World)(hX:∀i,X i<256)(hY:∀i,Y i<256)(hn:n≤maxLen)(hr:Row 2 w a n c (ML X Y n))(hg:GV w) :
 Calls prog 11 #[.slice a n c] w (zm w true):=by
 have hmo:prog.follows .mixedOrders=true:=by kernel_rfl
 obtain⟨d,hd⟩:∃d,min n 12=d:=⟨_,rfl⟩
 have hd12:d≤12:=by omega
 have hdn:d≤n:=by omega
 have hmin:min (n:Int) 12=(d:Int):=by omega
 have HX:=Hd hX;have HY:=Hd hY;have HR:=Hd hr;have HG:=Hd hg;have HD12:=Hd hd12;have HDN:=Hd hdn;clear hX hY hr hg hd;go_enter func11,ntmps11;go_wp2
 go_loopw [4,6] (fun t4 t6 wr=>∃k:Nat,t6=.int .i64 k∧k≤d∧t4=strV (preC++LU X Y k 0)∧Hid (Below w.heap.size w wr)∧Hid (Words wr w.heap.size)) (fun _ i _=>d-(intOf i).toNat)
 case atStart=>exact⟨0,rfl,Nat.zero_le _,rfl,Hd (brf.alloc nlr _),Hd (Words.new w)⟩
 case round=>
  obtain⟨k,rfl,hk,rfl,HB,HW⟩:=hrel;by_cases hlt:k<d
  ·as_aux_lemma=>
   have hkn:k<n:=by have:=HDN.out;omega
   obtain⟨b,o,rfl,hb,hcx,hcy⟩:=NB (Row.mono HR.out HB.out nlr) hkn;have hwx:=HW.out.at_ (X k);have hwy:=HW.out.at_ (Y k);have hgl:=HW.out.gl;have hx9:=HX.out k;have hy9:=HY.out k;have hsn:=MJ X Y k 0;rw[Nat.zero_add]at hsn;have HSN:=Hd hsn;clear hsn;obtain⟨x,hx⟩:∃x,X k=x:=⟨_,rfl⟩
   obtain⟨y,hy⟩:∃y,Y k=y:=⟨_,rfl⟩
   rw[hx]at hcx hwx hx9 HSN;rw[hy]at hcy hwy hy9 HSN;obtain⟨r,hr⟩:∃r,x % 3=r:=⟨_,rfl⟩
   obtain⟨q,hq⟩:∃q,y % 3=q:=⟨_,rfl⟩
   have hr3:r<3:=by omega
   have hq3:q<3:=by omega
   have hmx:(x:Int).tmod 3=(r:Int):=by rw[←hr];rfl
   have hmy:(y:Int).tmod 3=(q:Int):=by rw[←hq];rfl
   rw[hr]at hwx;rw[hq]at hwy;obtain⟨nx,hnx⟩:∃nx,nmC x=nx:=⟨_,rfl⟩
   obtain⟨ny,hny⟩:∃ny,nmC y=ny:=⟨_,rfl⟩
   unfold letC at HSN;rw[hnx,hny]at HSN;rw[hnx]at hwx;rw[hny]at hwy;obtain⟨S,hS⟩:∃S,preC++LU X Y k 0=S:=⟨_,rfl⟩
   rw[hS];have HS:=Hd hS;have hSl:S.length≤1000:=by rw[←hS,List.length_append,LR];simp[preC];omega
   have hnxl:nx.length≤1:=by rw[←hnx];rcases LQ x with⟨_,h⟩|⟨_,h⟩|⟨_,h⟩<;>rw[h]<;>simp
   have hnyl:ny.length≤1:=by rw[←hny];rcases LQ y with⟨_,h⟩|⟨_,h⟩|⟨_,h⟩<;>rw[h]<;>simp
   clear hx hy hr hq hnx hny hS;go_wp2;go_region;go_wp2
   go_roundw
   case rel=>exact⟨k+1,by go_num,by omega,by rw[HSN.out,←List.append_assoc,HS.out];simp only[List.append_assoc,List.cons_append,List.nil_append],Hd (HB.out.trans ((brf.drew).mono HB.out.size)),Hd (HW.out.step brf.drew)⟩
   case measure=>simp[intOf];omega
  ·as_aux_lemma=>
   obtain rfl:k=d:=by omega
   have hcc:=NP X Y HD12.out wr (HG.out.mono HB.out nlr);have htx:LY X Y k=preC++LU X Y k 0++MI:=rfl;have hSl:(preC++LU X Y k 0).length≤1000:=by rw[List.length_append,LR];simp[preC];omega
   obtain⟨S,hS⟩:∃S,preC++LU X Y k 0=S:=⟨_,rfl⟩
   rw[hS]at htx hSl⊢;rw[htx]at hcc;unfold MI at hcc;have HCC:=Hd hcc;have hk12:=HD12.out;clear hcc htx hS
   go_upto_region 12 with(first
    | (go_at_call 35
       refine HCC.out.mono ?_;rintro e w1⟨na,nc,ia,ic,a9,c9,ni,NL,l,rfl,hN,hll,hi,hb1,hv,hs0,hs1,hs2⟩;have HBW:=Hd (HB.out.trans (hb1.mono HB.out.size));have HI:=Hd hi;have HV:=Hd hv;have HS:=Hd (And.intro hs0 (And.intro hs1 hs2));have HN:=Hd hN;have HLL:=Hd hll;have hNe0:(NL:Int)=6+(k:Int)+5+(k:Int)+1:=by rw[hN];omega
       have hNe:((NL:Int) != 6+(k:Int)+5+(k:Int)+1)=false:=by rw[hNe0];simp
       have hN9:NL≤40:=by omega
       clear hi hb1 hv hs0 hs1 hs2 hN hll hNe0))
   clear HCC hSl;go_wp2
   go_loopw [12] (fun t12 wr=>∃j:Nat,t12=.int .i64 j∧j≤k∧Hid (Below w1.heap.size w1 wr)∧Hid (Mns wr (w1.heap.size+1) (envC X k j))) (fun i _=>k-(intOf i).toNat)
   case atStart=>exact⟨0,rfl,Nat.zero_le _,Hd (((Below.refl _ w1).alloc nlr _).alloc (by simp) _),Hd (Mns.new (w1.alloc (.cells #[.slice na NL nc,.slice ia ni ic] 25)) X k (by simp))⟩
   case round=>
    obtain⟨j,rfl,hj,HB2,HM⟩:=hrel;rename World=>wx
    have hgl:=HM.out.gl;have HBX:=Hd (HBW.out.trans (HB2.out.mono HBW.out.size));have HIX:=Hd (show Ints wx a9 c9 l from Row.mono HI.out HB2.out nlr);by_cases hjl:j<k
    ·as_aux_lemma=>
     have hjn:j<n:=by have:=HDN.out;omega
     obtain⟨b,o,rfl,hb,hcx,hcy⟩:=NB (Row.mono HR.out HBX.out nlr) hjn;have hl6:6+j<l.length:=by rw[HLL.out];omega
     obtain⟨bd,od,rfl,hbd,hcd⟩:=Ints.at HIX.out hl6;have hv:=HV.out j hjl;rw[List.getElem?_eq_getElem hl6,Option.some.injEq]at hv;rw[hv]at hcd;have hcmx:=HM.out.at_ (X j);have hcmy:=HM.out.at_ (Y j);have hfz:=HM.out.fz (X j % 3);have hx9:=HX.out j;have hy9:=HY.out j;have hput:=(HM.out.step (Below.refl _ wx).drew).put;have hval:(NL:Int)-2-(j:Int)=((10+2*k-j:Nat):Int):=by rw[HN.out];omega
     rw[←hval]at hput;have HP:=Hd hput;have hl6i:(6:Int)+(j:Int)<(l.length:Int):=by omega
     obtain⟨E,hE⟩:∃E,envC X k j (Y j)=E:=⟨_,rfl⟩
     obtain⟨E2,hE2⟩:∃E2,envC X k j (X j)=E2:=⟨_,rfl⟩
     rw[hE]at hcd hcmy;rw[hE2]at hcmx;obtain⟨x,hx⟩:∃x,X j=x:=⟨_,rfl⟩
     obtain⟨y,hy⟩:∃y,Y j=y:=⟨_,rfl⟩
     rw[hx]at hcx hcmx hx9 hfz HP;rw[hy]at hcy hcmy hy9;obtain⟨r,hr⟩:∃r,x % 3=r:=⟨_,rfl⟩
     obtain⟨q,hq⟩:∃q,y % 3=q:=⟨_,rfl⟩
     have hr3:r<3:=by omega
     have hq3:q<3:=by omega
     have hmx:(x:Int).tmod 3=(r:Int):=by rw[←hr];rfl
     have hmy:(y:Int).tmod 3=(q:Int):=by rw[←hq];rfl
     rw[hr]at hcmx hfz HP;rw[hq]at hcmy;clear hv hput hval hE hE2 hx hy hr hq;go_wp2;go_region;go_wp2
     go_roundw
     case rel=>exact⟨j+1,by go_num,by omega,Hd ((HB2.out.trans (brf.drew.mono HB2.out.size)).setCell (by simp) _),HP⟩
     case measure=>simp[intOf];omega
    ·as_aux_lemma=>
     obtain rfl:j=k:=by omega
     obtain⟨s0,s1,s2⟩:=HS.out;have l0:6+j<l.length:=by rw[HLL.out];omega
     have l1:6+j+1<l.length:=by rw[HLL.out];omega
     have l2:6+j+3<l.length:=by rw[HLL.out];omega
     rw[List.getElem?_eq_getElem l0,Option.some.injEq]at s0;rw[List.getElem?_eq_getElem l1,Option.some.injEq]at s1;rw[List.getElem?_eq_getElem l2,Option.some.injEq]at s2;obtain⟨bd,od,rfl,hbd,hc0⟩:=Ints.at HIX.out l0;obtain⟨bd1,od1,e1,-,hc1⟩:=Ints.at HIX.out l1;obtain⟨bd2,od2,e2,-,hc2⟩:=Ints.at HIX.out l2;simp only[Option.some.injEq,Addr.mk.injEq,and_true]at e1 e2;obtain⟨rfl,rfl⟩:=e1;obtain⟨rfl,rfl⟩:=e2;rw[s0]at hc0;rw[s1]at hc1;rw[s2]at hc2;have m0:=HM.out.at_ 0;have m1:=HM.out.at_ 1;have m2:=HM.out.at_ 2;rw[show 0 % 3=0 from rfl]at m0;rw[show 1 % 3=1 from rfl]at m1;rw[show 2 % 3=2 from rfl]at m2;obtain⟨E0,hE0⟩:∃E0,envC X j j 0=E0:=⟨_,rfl⟩
     obtain⟨E1,hE1⟩:∃E1,envC X j j 1=E1:=⟨_,rfl⟩
     obtain⟨E2,hE2⟩:∃E2,envC X j j 2=E2:=⟨_,rfl⟩
     rw[hE0]at hc0 m0;rw[hE1]at hc1 m1;rw[hE2]at hc2 m2;have i0:(6:Int)+(j:Int)<(l.length:Int):=by omega
     have i1:(6:Int)+(j:Int)+1<(l.length:Int):=by omega
     have i2:(6:Int)+(j:Int)+3<(l.length:Int):=by omega
     have t0:(6+(j:Int)).toNat=6+j:=by omega
     have t1:(6+(j:Int)+1).toNat=6+j+1:=by omega
     have t2:(6+(j:Int)+3).toNat=6+j+3:=by omega
     have v1:IntKind.i64.wrap (6+(j:Int)+1)=6+(j:Int)+1:=IntWalk.i64_in _ (by omega);have v2:IntKind.i64.wrap (6+(j:Int)+3)=6+(j:Int)+3:=IntWalk.i64_in _ (by omega);have z1:(0:Int)≤6+(j:Int)+1:=by omega
     have z2:(0:Int)≤6+(j:Int)+3:=by omega
     clear s0 s1 s2 hE0 hE1 hE2;go_wp2;refine N.region_JTm 30 hmo (by kernel_rfl) (by kernel_rfl) rfl (by kernel_rfl) (by kernel_rfl) (fun Wz=>Below (wx).heap.size (wx) Wz) (brf.drew) ?_
     iterate 28 (refine N.WalkT.cons ?_ (N.StepP.pure rfl ?_) ?_;rotate_left;(intro W hJ;obtain⟨hcJ,hfJ⟩:=bcell hJ;go_simp;rfl);simp only[N.pz])
     refine N.WalkT.cons (.bool true) (N.StepP.call (f:=14) (args:=#[]) rfl ?hG1_28 ?cG1_28) ?rG1_28;case hG1_28=>intro W hJ;obtain⟨hcJ,hfJ⟩:=bcell hJ;go_simp;try rfl
     case cG1_28=>intro W hJ;(refine(bG _ (HG.out.mono (HBX.out.trans (hJ.mono HBX.out.size)) nlr)).mono ?_;rintro e w' ⟨rfl,hb⟩;exact⟨rfl,hJ.trans (hb.mono hJ.size)⟩)
     simp only[N.pz];refine N.WalkT.cons ?_ (N.StepP.pure rfl ?_) ?_;rotate_left;(intro W hJ;obtain⟨hcJ,hfJ⟩:=bcell hJ;go_simp;rfl);simp only[N.pz];refine N.WalkT.nil fun W hJ=>?_;go_wp2;go_ret;exact⟨rfl,HBX.out.trans (hJ.mono HBX.out.size)⟩
end
end Go.Proofs.YtipjhljnkocioaaGreatDoor
