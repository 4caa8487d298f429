/- Part of a proof. -/
import Derived.Test.YtcdkdiedphhdhaaGreatDoorRows
import Derived.Test.YtcdkdiedphhdhaaGreatDoorK42
import Derived.Test.YtcdkdiedphhdhaaGreatDoorOK01
import Derived.Test.YtcdkdiedphhdhaaGreatDoorOK02
set_option maxRecDepth 100000
set_option maxHeartbeats 8000000
set_option linter.unusedVariables false
set_option linter.unusedSimpArgs false
open Go.Proofs.Tryz
namespace Go.Proofs.YtcdkdiedphhdhaaGreatDoor
section
open Go Go.RowKit
theorem TF{l:List Int}{P Q R:Int->Prop}(h:l.length=3)(g0:P (l[0]'(by omega)))(g1:Q (l[1]'(by omega)))(g2:R (l[2]'(by omega))):∃a b c,l=[a,b,c]/\P a/\Q b/\R c:=by
 match l,h with
 | [a,b,c],_=>exact⟨a,b,c,rfl,g0,g1,g2⟩
theorem TT{l:List Int}{R:Int->Prop}(h:l.length=2)(g1:R (l[1]'(by omega))):∃a b,l=[a,b]/\R b:=by
 match l,h with
 | [a,b],_=>exact⟨a,b,rfl,g1⟩
section
variable {t : Tr} {S : List Int}
theorem TM(G:Good t S){i:Nat}(hi:i<t.nodes.length)(hk:(t.nd (i:Int)).kind=19)(hne:tyP t i≠[]) :
 ∃a b c:Nat,(t.nd (i:Int)).kids=[(a:Int),(b:Int),(c:Int)]/\a<i/\b<i/\c<i/\ofK (exT t) (a:Int)=zz/\ofK (exT t) (b:Int)=tyP t i/\ofK (exT t) (c:Int)=tyP t i:=by
 obtain⟨h,g0,g1,g2⟩:=UC G hi hk hne;obtain⟨x,y,z,e,p,q,r⟩:=TF (P:=fun x=>ofK (exT t) x=zz) (Q:=fun x=>ofK (exT t) x=tyP t i) (R:=fun x=>ofK (exT t) x=tyP t i) h g0 g1 g2;obtain⟨a,rfl,ha⟩:=aN G hi (x:=x) (by rw[e];simp);obtain⟨b,rfl,hb⟩:=aN G hi (x:=y) (by rw[e];simp);obtain⟨c,rfl,hc⟩:=aN G hi (x:=z) (by rw[e];simp);exact⟨a,b,c,e,ha,hb,hc,p,q,r⟩
theorem TH(G:Good t S){i:Nat}(hi:i<t.nodes.length)(hk:(t.nd (i:Int)).kind=20) :
 ∃a b:Nat,(t.nd (i:Int)).kids=[(a:Int),(b:Int)]/\b<i/\ofK (exT t) (b:Int)=tyP t i:=by
 obtain⟨h,g1⟩:=TV G hi hk;obtain⟨x,y,e,r⟩:=TT (R:=fun x=>ofK (exT t) x=tyP t i) h g1;obtain⟨a,rfl,ha⟩:=aN G hi (x:=x) (by rw[e];simp);obtain⟨b,rfl,hb⟩:=aN G hi (x:=y) (by rw[e];simp);exact⟨a,b,e,hb,r⟩
theorem TC(G:Good t S){i:Nat}(hi:i<t.nodes.length)(hk:(t.nd (i:Int)).kind=26)(hne:tyP t i≠[]) :
 ∃(a:Nat) (l:List Int),(t.nd (i:Int)).kids=(a:Int)::l/\a<i/\tyP t i=bC (ofK (exT t) (a:Int)) (t.nd (i:Int)).kids.length:=by
 obtain⟨h,g⟩:=TN G hi hk hne
 obtain⟨x,l,e,p⟩:∃x l,(t.nd (i:Int)).kids=x::l/\tyP t i=bC (ofK (exT t) x) (t.nd (i:Int)).kids.length:=by
  generalize hn:(t.nd (i:Int)).kids.length=n at g;clear hn;revert h g
  cases (t.nd (i:Int)).kids with
  |nil=>intro h;simp at h
  |cons x l=>intro h g;exact⟨x,l,rfl,g⟩
 obtain⟨a,rfl,ha⟩:=aN G hi (x:=x) (by rw[e];simp);exact⟨a,l,e,ha,p⟩
theorem TL(bd:Bd t)(hok:InfOk t)(G:Good t S){i:Nat}(hi:i<t.nodes.length)(hk:(t.nd (i:Int)).kind=26)(hne:tyP t i≠[]) :
 ∃(a:Nat) (l:List Int),(t.nd (i:Int)).kids=(a:Int)::l/\a<i/\mW (tyP t i)=(ofK (exT t) (a:Int),(t.nd (i:Int)).kids.length,0):=by
 obtain⟨a,l,e,ha,p⟩:=TC G hi hk hne;refine⟨a,l,e,ha,?_⟩;obtain⟨c,hc,-⟩:=AV bd hok.1 hok.2 hi (by unfold vP;rw[hk];rfl);have h1:=hc.is;rw[p]at h1;rw[p];generalize (t.nd (i:Int)).kids.length=n at h1|-;generalize ofK (exT t) (a:Int)=of at h1|-;rw[fL]at h1;have h2:=tH of n;have h3:zG (bC of n)=false:=jK _;rw[h2,h3,Bool.false_or,Bool.false_or]at h1;obtain⟨⟨of',n'⟩,he⟩:=Option.isSome_iff_exists.1 h1;obtain⟨q1,q2,q3,-⟩:=gY he;obtain rfl:=vV q1 q2 q3
 have h4:of=of':=by
  unfold bC at q3;exact List.append_cancel_right (List.cons.inj q3).2
 unfold mW;rw[he,h4]
theorem TG(G:Good t S)(ha:InferAt t t.nodes.length 0){i:Nat}(hi:i<t.nodes.length)(hk:(t.nd (i:Int)).kind=42) :
 ∃(n a:Nat),(t.nd (i:Int)).kids.length=n+2/\(t.nd (i:Int)).kids[n+1]?=some (a:Int)/\a<i/\ofK (exT t) (a:Int)=fB t (tysP t t.nodes.length) (i:Int)/\(dY t (tysP t t.nodes.length) (i:Int)).length=n:=by
 obtain⟨h,g⟩:=TU G ha hi hk;obtain⟨n,hn⟩:∃n,(t.nd (i:Int)).kids.length=n+2:=⟨(t.nd (i:Int)).kids.length-2,by omega⟩
 obtain⟨a,e,hb⟩:=aN G hi (List.getElem_mem (show(t.nd (i:Int)).kids.length-1<(t.nd (i:Int)).kids.length by omega));refine⟨n,a,hn,?_,hb,?_,?_⟩
 .rw[<-e,List.getElem?_eq_getElem (by omega)]
  simp only[hn];rfl
 .rw[<-e,g]
  unfold fB;rw[List.getD_eq_getElem?_getD,List.getElem?_eq_getElem (by omega),Option.getD_some]
 .unfold dY
  simp[hn]
end
end
section
open Go Go.RowKit
theorem SZ(k:Int)(w:World)(h1:1<=k):Calls prog 8 #[.int .u8 k] w fun e w'=>e=.returned (.bool (zl k))/\w=w':=by
 by_cases h2:k<=26
 .by_cases h3:k=25
  .subst h3
   go_enter func8,ntmps8;go_wp2;go_ret;exact⟨rfl,rfl⟩
  .have h4:(k != 25)=true:=by simpa using h3
   have HR:Hid (zl k=true):=Hd (by simp[zl];omega);clear h3;go_enter func8,ntmps8;go_wp2;go_ret;exact⟨by rw[HR.o];rfl,rfl⟩
 .have HR:Hid (zl k=false):=Hd (by simp[zl];omega)
  have h5:decide (k<=26)=false:=by simpa using h2
  clear h2;go_enter func8,ntmps8;go_wp2;go_ret;exact⟨by rw[HR.o];rfl,rfl⟩
structure OnW (w X:World) (tb:Nat) (v:TreeV) (t:Tr) (oa:Option Addr) (oc:Nat) (da:Option Addr) (dc:Nat):Prop where
 kn:KnW w X tb v t
 of:Strs X oa oc (exT t)
 de:Ints X da dc (zg t t.nodes.length)
theorem OnW.step{w X X':World}{tb:Nat}{v:TreeV}{t:Tr}{oa:Option Addr}{oc:Nat}{da:Option Addr}{dc:Nat}(h:OnW w X tb v t oa oc da dc)(hb:Below X.heap.size X X'):OnW w X' tb v t oa oc da dc:=
 ⟨h.kn.step hb,Row.mono h.of hb nlr,Row.mono h.de hb nlr⟩
theorem SQ{X:World}{bo oo oc:Nat}{t:Tr}(h:Strs X (some ⟨bo,oo,none⟩) oc (exT t))(hl:(exT t).length=t.nodes.length)(hn:0<t.nodes.length):bo<X.heap.size/\∀u:Nat,u<t.nodes.length->X.cell? ⟨bo,oo+u,none⟩=some (strV (ofK (exT t) (u:Int))):=by
 obtain⟨b,o,e,hb,-⟩:=Strs.at h (i:=0) (by omega);simp only[Option.some.injEq,Addr.mk.injEq,and_true]at e;obtain⟨rfl,rfl⟩:=e;refine⟨hb,fun u hu=>?_⟩;obtain⟨b,o,e,-,hc⟩:=Strs.at h (i:=u) (by omega);simp only[Option.some.injEq,Addr.mk.injEq,and_true]at e;obtain⟨rfl,rfl⟩:=e;rw[hc,SY hu,TA hu]
theorem TR{X:World}{da:Option Addr}{dc:Nat}{t:Tr}(h:Ints X da dc (zg t t.nodes.length))(hl:(zg t t.nodes.length).length=t.nodes.length)(hn:0<t.nodes.length):∃bd od,da=some ⟨bd,od,none⟩/\bd<X.heap.size/\∀u:Nat,u<t.nodes.length->X.cell? ⟨bd,od+u,none⟩=some (intV (means t u)):=by
 obtain⟨b,o,rfl,hb,-⟩:=Ints.at h (i:=0) (by omega);refine⟨b,o,rfl,hb,fun u hu=>?_⟩;obtain⟨b,o,e,-,hc⟩:=Ints.at h (i:=u) (by omega);simp only[Option.some.injEq,Addr.mk.injEq,and_true]at e;obtain⟨rfl,rfl⟩:=e;have h1:=yS hu;rw[List.getElem?_eq_getElem (by omega)]at h1;rw[hc,Option.some.inj h1]
theorem SS{t:Tr}{k:Nat}{K:Int}(hk:k<t.nodes.length)(h:(t.nd (k:Int)).kind=K)(hx:zl K=true):ofK (exT t) (k:Int)=tyP t k:=by
 rw[SY hk,h,hx,if_pos rfl]
theorem TJ(s:List UInt8)(w:World)(hs:s.length<=maxLen)(hg:GVK w) :
 Calls prog 3 #[strV s] w (zD w true):=by
 have hW:prog.follows .mixedOrders=true:=by kernel_rfl
 have HC:=Hd (lL s w hs hg);have hge:∀X,Below w.heap.size w X->GVK X:=fun X h=>hg.mono h nlr;have HG:=Hd hge;clear hg hge;go_enter func3,ntmps3
 go_upto_region 2 with(
  go_at_call 6
  refine HC.o.mono ?_;rintro e w1⟨⟨na,nc,ia,ic⟩,t,oa,oc,L,da,dc,l,ok,rfl,ht,hso,hid,hb1,hR,hrg,hY⟩;unfold TreeV.val;have HX:=Hd (KnW.box hb1 ht);have HJ:=Hd hso;have HE:=Hd hid;have Hg:=Hd hR;have HI:=Hd hrg;have Hu:=Hd hY;have hn3:=hR.n;have hi3:=hR.i
  clear hb1 ht hso hid hR hrg hY)
 try simp only at HX
 rcases ok with _|_
 .go_wp2_with (go_at_call 7;refine(jY _ (HG.o _ HX.o.base)).mono ?_;rintro e w2 ⟨rfl,ho⟩;have Hx:=Hd (HX.o.step ho).base;clear ho)
  go_ret;exact⟨rfl,Hx.o⟩
 obtain⟨hY,rfl,rfl⟩:=Hu.o rfl;have Hi:=Hd hY;obtain⟨wf,G⟩:=zi Hg.o hY.1;have HZ:=Hd wf;have Hm:=Hd G;have hb3:Below w1.heap.size w1 (w1.alloc (.cells #[.slice na t.nodes.length nc,.slice ia t.items.length ic] 25)):=(Below.refl _ w1).alloc nlr _;have HB:Hid (OnW w (w1.alloc (.cells #[.slice na t.nodes.length nc,.slice ia t.items.length ic] 25)) w1.heap.size ⟨na,nc,ia,ic⟩ t oa oc da dc):=Hd ⟨HX.o,Row.mono HJ.o hb3 nlr,Row.mono HE.o hb3 nlr⟩;obtain⟨X1,hX1⟩:∃X,w1.alloc (.cells #[.slice na t.nodes.length nc,.slice ia t.items.length ic] 25)=X:=⟨_,rfl⟩
 obtain⟨tb,htb⟩:∃g,w1.heap.size=g:=⟨_,rfl⟩
 rw[hX1,htb]at HB;rw[hX1,htb];have hel:(exT t).length=t.nodes.length:=cP t;have hdl:(zg t t.nodes.length).length=t.nodes.length:=zP t _;rw[hel,hdl];have Hh:=Hd hel;have HM:=Hd hdl;clear hX1 htb HC HX HJ HE hY wf G hb3 Hu hel hdl
 go_upto_region 5 with fail
 go_loopw [7] (fun t7 wr=>∃k:Nat,t7=.int .i64 k/\k<=t.nodes.length/\Hid (OnW w wr tb ⟨na,nc,ia,ic⟩ t oa oc da dc)) (fun t7 _=>t.nodes.length-(intOf t7).toNat)
 case atStart=>exact⟨0,rfl,Nat.zero_le _,HB⟩
 case round=>
  obtain⟨k,rfl,hk,HO⟩:=hrel;clear HB;have c0:=HO.o.kn.c0;have c1:=HO.o.kn.c1;have hw:=World.block_lt_of_cell? wr _ c0;simp only at c0 c1 hw;by_cases hlt:k<t.nodes.length
  .obtain⟨b,o,ka,kc,ea,hb,m0,m1,m2,m3,m4,hf⟩:=HO.o.kn.tree.nodes.at hlt
   simp only at ea;subst ea;obtain⟨bo,oo,eo,hX,hE⟩:=Strs.at HO.o.of (i:=k) (by rw[Hh.o];exact hlt);subst eo;rw[TA hlt]at hE;have hI:=t.nd_at hlt;rw[<-hI]at m0 m1 m2 m3 m4 hf;have hks:(t.nd (k:Int)).kids.length<=1000000:=by rw[hI];exact Hg.o.k _ (List.getElem_mem _)
   have hk1:1<=(t.nd (k:Int)).kind:=by
    have:=(Hm.o.ok hlt).1;simp[okK,zl,cG,cQ]at this;omega
   clear hI;obtain⟨D,hD⟩:∃D,t.nd (k:Int)=D:=⟨_,rfl⟩
   rw[hD]at m0 m1 m2 m3 m4 hf hks hk1 hE;have HD:=Hd hD;have Hr:=Hd hf;have HF:=Hd (SZ D.kind);clear hf hD;by_cases hx:zl D.kind=true
   .have Hw:=Hd hx
    have Hy:=Hd hk1;rw[hx]at hE;simp only[if_true]at hE;obtain⟨c,hty,hG⟩:=AV Hg.o Hi.o.1 Hi.o.2 hlt (by unfold vP;rw[HD.o,hx];rfl);have hM:=hty.lo;have Hl:=Hd (KS Hg.o Hi.o.1 Hi.o.2 hlt (by unfold vP;rw[HD.o,hx];rfl));have Hk:Hid (∀x,CellsR t (tyP t k) x->x=(c,0)):=Hd fun x h=>h.of hty hG
    have Hj:Hid ((tyP t k).length<=100000):=Hd (by
     have h1:=SY hlt;rw[HD.o,hx,if_pos rfl]at h1;have h2:=oC Hg.o Hi.o.1 (k:Int);rw[eS (by omega) hlt]at h2
     exact h2)
    obtain⟨ty,hTY⟩:∃ty,tyP t k=ty:=⟨_,rfl⟩
    rw[hTY]at hE Hk Hj Hl;have HY:=Hd hTY;clear hx hk1 hty hTY;obtain⟨X2,hA⟩:∃X,wr.alloc (.cells #[.int .u8 D.kind,.string ⟨D.text.toArray⟩,.int .i64 D.n,.slice ka D.kids.length kc,.int .i64 D.pos] 31)=X:=⟨_,rfl⟩
    have ho:Below wr.heap.size wr X2:=by rw[<-hA];exact(Below.refl _ wr).alloc nlr _
    have Ho:=Hd (HO.o.step ho);have h3:=(ho.cell (p:=⟨bo,oo+k,none⟩) hX).trans hE;have hZ:=Nat.lt_of_lt_of_le hX ho.size
    have Hn:Hid (NdC X2 wr.heap.size ka kc D):=Hd (by
     refine⟨?_,?_,?_,Row.mono Hr.o ho nlr⟩<;>rw[<-hA]<;>exact bZ rfl)
    go_upto_region 8 with fail
    try rw[hA]
    obtain⟨nb,hT⟩:∃g,wr.heap.size=g:=⟨_,rfl⟩
    rw[hT]at Hn|-;clear hA ho hT c0 c1 hw hb m0 m1 m2 m3 m4 hX hE HO Hr;have e0:=Hn.o.e0;have c0:=Ho.o.kn.c0;have c1:=Ho.o.kn.c1;have hw:=World.block_lt_of_cell? X2 _ c0;simp only at c0 c1 hw
    go_upto_region 11 with(go_at_call 8;refine(HF.o _ Hy.o).mono ?_;rw[Hw.o];rintro e w3 ⟨rfl,rfl⟩)
    have HO:=Ho;clear e0 Ho;refine N.region_M 11 hW (by kernel_rfl) (by kernel_rfl) rfl (by kernel_rfl) (by kernel_rfl) (fun _ _=>False) N.Pans.no (fun Wz=>Below (X2).heap.size (X2) Wz) (fun Wy Wz=>Below Wy.heap.size Wy Wz) (brf.drew) [.fix ?vG1_0,.dep [] (fun _ v W=>∃u:TreeV,v=u.val t/\IsTree W u t),.fix ?vG1_2,.fix ?vG1_3,.fix ?vG1_4,.fix ?vG1_5,.dep [1] (fun _ v _=>v=.tuple #[intV c,intV 0]),.dep [6] (fun _ v _=>v=.tuple #[intV c,intV 0]),.dep [7] (fun _ v _=>v=intV c),.dep [7] (fun _ v _=>v=intV 0),.dep [8] (fun _ v _=>v=intV c)] [[],[],[],[],[],[],[1],[6],[7],[7],[8]] rfl (by kernel_rfl) (N.sts_kd ⟨trivial,(fun _ _ _ _ hk h=>by obtain⟨u,h1,h2⟩:=h;exact⟨u,h1,h2.mono hk nlr⟩),trivial,trivial,trivial,trivial,(fun _ _ _ _ _ h=>h),(fun _ _ _ _ _ h=>h),(fun _ _ _ _ _ h=>h),(fun _ _ _ _ _ h=>h),(fun _ _ _ _ _ h=>h),trivial⟩) fun x=>?_;rotate_left 5;refine N.WalkM.fix ?_ ?_;refine N.StepS.known rfl (fun _=>brf) ?_;intro W hJ hP;obtain⟨hO,hQ⟩:=bcell hJ;go_simp;rfl;simp only[N.pz];refine N.WalkM.dep ?sG1_1 ?rG1_1;case sG1_1=>(refine N.StepS.call' (f:=10) (args:=#[TreeV.val ⟨some ⟨b,o,none⟩,nc,ia,ic⟩ t]) rfl ?_ ?_;(intro W hJ hP;obtain⟨hO,hQ⟩:=bcell hJ;(go_simp;try rfl));(intro W hJ hP;refine(fZ _ t W Hg.o ((HO.o.step hJ).kn).tree).mono ?_;rintro e w' ⟨u,B,ks,rfl,-,hon,hin,-,hb⟩;exact⟨_,rfl,hJ.trans (hb.mono hJ.size),hb,u,rfl,⟨hon.nodes,hin⟩⟩))
    simp only[N.pz]
    iterate 4 (refine N.WalkM.fix ?_ ?_;refine N.StepS.known rfl (fun _=>brf) ?_;intro W hJ hP;obtain⟨hO,hQ⟩:=bcell hJ;go_simp;rfl;simp only[N.pz])
    refine N.WalkM.dep ?sG1_6 ?rG1_6;case sG1_6=>(refine N.StepS.call' (f:=9) (args:=#[x 1,strV ty]) rfl ?_ ?_;(intro W hJ hP;obtain⟨hO,hQ⟩:=bcell hJ;(go_simp;try rfl));(intro W hJ hP;obtain⟨u1,h1,ht1⟩:∃u:TreeV,x 1=u.val t/\IsTree W u t:=hP 1 (by kernel_rfl);rw[h1];refine(fN u1 t ty W Hg.o HI.o (HG.o _ (HO.o.step hJ).kn.base) ht1 Hj.o).mono ?_;rintro e w' hr;obtain⟨rfl,hb⟩:=RetCells.of hr Hi.o Hk.o;exact⟨_,rfl,hJ.trans (hb.mono hJ.size),hb,rfl⟩))
    simp only[N.pz];refine N.WalkM.dep ?sG1_7 ?rG1_7;case sG1_7=>exact N.StepS.runs rfl (fun W hJ hP=>by have h4:x 6=.tuple #[intV c,intV 0]:=hP 6 (by kernel_rfl);generalize x 6=y4 at *;subst h4;exact⟨_,W,(by(go_simp;try rfl)),hJ,brf,rfl⟩)
    simp only[N.pz];refine N.WalkM.dep ?sG1_8 ?rG1_8;case sG1_8=>exact N.StepS.runs rfl (fun W hJ hP=>by have h4:x 7=.tuple #[intV c,intV 0]:=hP 7 (by kernel_rfl);generalize x 7=y4 at *;subst h4;exact⟨_,W,(by(go_simp;try rfl)),hJ,brf,rfl⟩)
    simp only[N.pz];refine N.WalkM.dep ?sG1_9 ?rG1_9;case sG1_9=>exact N.StepS.runs rfl (fun W hJ hP=>by have h4:x 7=.tuple #[intV c,intV 0]:=hP 7 (by kernel_rfl);generalize x 7=y4 at *;subst h4;exact⟨_,W,(by(go_simp;try rfl)),hJ,brf,rfl⟩)
    simp only[N.pz];refine N.WalkM.dep ?sG1_10 ?rG1_10;case sG1_10=>exact N.StepS.runs rfl (fun W hJ hP=>by have h4:x 8=intV c:=hP 8 (by kernel_rfl);generalize x 8=y4 at *;subst h4;exact⟨_,W,(by(go_simp;try rfl)),hJ,brf,rfl⟩)
    simp only[N.pz];refine N.WalkM.nil fun W hJ hH=>?_;have h6:x 6=.tuple #[intV c,intV 0]:=hH 6;have h7:x 7=.tuple #[intV c,intV 0]:=hH 7;have h8:x 8=intV c:=hH 8;have h9:x 9=intV 0:=hH 9;have h10:x 10=intV c:=hH 10;generalize x 1=y1 at *;generalize x 6=y6 at *;generalize x 7=y7 at *;generalize x 8=y8 at *;generalize x 9=y9 at *;generalize x 10=y10 at *;subst h6 h7 h8 h9 h10;rename World=>X3
    have Ha:=Hd (HO.o.step hJ);have Hf:=Hd (Hn.o.step hJ);clear hJ hH c0 c1 hw h3 hZ HO Hn;simp only[List.drop_succ_cons,List.drop_zero];have hN:decide (c<1)=false:=decide_eq_false (by omega);have hp:decide (8<c)=false:=decide_eq_false (by omega);have e0:=Hf.o.e0;have e3:=Hf.o.e3
    go_upto_region 14 with fail
    obtain⟨K,hK⟩:∃K,D.kind=K:=⟨_,rfl⟩
    rw[hK]at e0;have HK:=Hd hK
    have hC:1<=K/\K<=26/\K≠25:=by
     have:=Hw.o;rw[hK]at this;simp[zl]at this;omega
    have hc:tyP t k=ty:=HY.o;have hl:(t.nd (k:Int)).kind=K:=by rw[HD.o];exact hK
    have hy:=Hl.o;clear hK;by_cases q3:K=3
    .subst q3
     as_aux_lemma=>
     obtain⟨hd,hh⟩:=SQ Ha.o.of Hh.o (by omega);have Hv:Hid (ofK (exT t) (k:Int)=ty):=Hd (by rw[SS hlt hl (by first|rfl|(simp[zl];omega)),hc]);clear hh hd
     go_upto_region 16 with fail
     clear e0 e3 hM hG hN hp Hk Hj
     go_loopw [11] (fun t11 wq=>∃j:Nat,t11=.int .i64 j/\j<=k/\Hid (OnW w wq tb ⟨some ⟨b,o,none⟩,nc,ia,ic⟩ t (some ⟨bo,oo,none⟩) oc da dc)/\Hid (NdC wq nb ka kc D)) (fun t11 _=>k-(intOf t11).toNat)
     case atStart=>exact⟨0,rfl,Nat.zero_le _,Ha,Hf⟩
     case round=>
      obtain⟨j,rfl,hj,Hb,Hc⟩:=hrel;by_cases hjl:j<k
      .have hU:j<t.nodes.length:=by omega
       obtain⟨hB,hv⟩:=SQ Hb.o.of Hh.o (by omega);have yk:=hv k hlt;rw[Hv.o]at yk;have yj:=hv j hU;obtain⟨bd,od,ed,hR,h5⟩:=TR Hb.o.de HM.o (by omega);subst ed;have zj:=h5 j hU;have zk:=h5 k hlt;obtain⟨b',o',ka',kc',ea,hb,m0,-,-,-,-,-⟩:=Hb.o.kn.tree.nodes.at hU;simp only[Option.some.injEq,Addr.mk.injEq,and_true]at ea;obtain⟨rfl,rfl⟩:=ea;have hI:=t.nd_at hU;rw[<-hI]at m0;clear hI;have c0:=Hb.o.kn.c0;have c1:=Hb.o.kn.c1;have hw:=World.block_lt_of_cell? wr _ c0;simp only at c0 c1 hw;obtain⟨tj,htj⟩:∃x,ofK (exT t) (j:Int)=x:=⟨_,rfl⟩
       obtain⟨mj,hmj⟩:∃x,means t j=x:=⟨_,rfl⟩
       obtain⟨mk,hmk⟩:∃x,means t k=x:=⟨_,rfl⟩
       obtain⟨kj,hV⟩:∃x,(t.nd (j:Int)).kind=x:=⟨_,rfl⟩
       rw[htj]at yj;rw[hmj]at zj;rw[hmk]at zk;rw[hV]at m0;by_cases j3:kj=3
       .subst j3
        by_cases hm:mj=mk
        .have he:tj=ty:=by
          rw[<-htj,SS hU hV rfl,<-hc];have hj8:=KS Hg.o Hi.o.1 Hi.o.2 hU (by unfold vP;rw[hV];rfl);exact TO Hg.o Hi.o.1 hlt hU hl hV (by rw[hmj,hmk,hm]) (by rw[hc];exact hy) hj8
         subst he hm;have hm1:(mj==mj)=true:=by simp
         clear htj hmj hmk hV hv h5
         go_upto_region 18 with fail
         refine N.region_J hW (by kernel_rfl) (by kernel_rfl) (fun Wz=>Below (wr).heap.size (wr) Wz) (brf.drew) ?_
         iterate 29 (refine N.Walk.cons ?_ (N.StepP.pure rfl ?_) ?_;rotate_left;(intro W hJ;obtain⟨hO,hQ⟩:=bcell hJ;go_simp;rfl);simp only[N.pz])
         refine N.Walk.nil fun W hJ=>?_;rename World=>X5
         have Ht:=Hd (Hb.o.step hJ);have Hs:=Hd (Hc.o.step hJ);clear hJ c0 c1 hw m0 hb yk yj hB hR zj zk Hb Hc;try simp only[List.drop_succ_cons,List.drop_zero]
         go_wp2
         go_roundw
         case rel=>exact⟨j+1,by go_num,by omega,Ht,Hs⟩
         case measure=>simp[intOf];omega
        .have hm1:(mj==mk)=false:=beq_false_of_ne hm
         clear hm htj hmj hmk hV hv h5
         go_upto_region 18 with fail
         refine N.region_J hW (by kernel_rfl) (by kernel_rfl) (fun Wz=>Below (wr).heap.size (wr) Wz) (brf.drew) ?_
         iterate 29 ((first|(refine N.Walk.cons undef (N.StepP.skip rfl) ?_)|(refine N.Walk.cons ?_ (N.StepP.pure rfl ?_) ?_;rotate_left;(intro W hJ;obtain⟨hO,hQ⟩:=bcell hJ;go_simp;rfl)));simp only[N.pz])
         refine N.Walk.nil fun W hJ=>?_;rename World=>X5
         have Ht:=Hd (Hb.o.step hJ);have Hs:=Hd (Hc.o.step hJ);clear hJ c0 c1 hw m0 hb yk yj hB hR zj zk Hb Hc;try simp only[List.drop_succ_cons,List.drop_zero]
         go_wp2
         go_roundw
         case rel=>exact⟨j+1,by go_num,by omega,Ht,Hs⟩
         case measure=>simp[intOf];omega
       .have j4:(kj==3)=false:=beq_false_of_ne j3
        clear j3 htj hmj hmk hV hv h5
        go_upto_region 18 with fail
        refine N.region_J hW (by kernel_rfl) (by kernel_rfl) (fun Wz=>Below (wr).heap.size (wr) Wz) (brf.drew) ?_
        iterate 29 ((first|(refine N.Walk.cons undef (N.StepP.skip rfl) ?_)|(refine N.Walk.cons ?_ (N.StepP.pure rfl ?_) ?_;rotate_left;(intro W hJ;obtain⟨hO,hQ⟩:=bcell hJ;go_simp;rfl)));simp only[N.pz])
        refine N.Walk.nil fun W hJ=>?_;rename World=>X5
        have Ht:=Hd (Hb.o.step hJ);have Hs:=Hd (Hc.o.step hJ);clear hJ c0 c1 hw m0 hb yk yj hB hR zj zk Hb Hc;try simp only[List.drop_succ_cons,List.drop_zero]
        go_wp2
        go_roundw
        case rel=>exact⟨j+1,by go_num,by omega,Ht,Hs⟩
        case measure=>simp[intOf];omega
      .have e0:=Hc.o.e0
       rw[HK.o]at e0;have e3:=Hc.o.e3;have He:=Hb;clear hc hl hy hC Ha Hf;go_wp2
       go_roundw
       case rel=>exact⟨k+1,by go_num,by omega,He⟩
       case measure=>simp[intOf];omega
    by_cases q19:K=19
    .subst q19
     clear q3
     as_aux_lemma=>
     obtain⟨u0,u1,u2,hF,h0,h1,h2,g0,g1,g2⟩:=TM Hm.o hlt hl (by rw[hc];exact hy);rw[HD.o]at hF;rw[hc]at g1 g2;have hf:=Hf.o.kids;rw[hF]at hf e3;simp only[List.length_cons,List.length_nil]at e3;obtain⟨bk,ok,ek,hS,z0⟩:=Ints.at hf (i:=0) (by simp);obtain⟨bk',ok',ek',-,z1⟩:=Ints.at hf (i:=1) (by simp);obtain⟨bk2,ok2,ek2,-,z2⟩:=Ints.at hf (i:=2) (by simp);subst ek;simp only[Option.some.injEq,Addr.mk.injEq,and_true]at ek' ek2;obtain⟨rfl,rfl⟩:=ek';obtain⟨rfl,rfl⟩:=ek2;simp only[List.getElem_cons_zero,List.getElem_cons_succ,Nat.add_zero]at z0 z1 z2;obtain⟨hd,hh⟩:=SQ Ha.o.of Hh.o (by omega);have yk:=hh k hlt;rw[SS hlt hl (by first|rfl|(simp[zl];omega)),hc]at yk;have y0:=hh u0 (by omega);have y1:=hh u1 (by omega);have y2:=hh u2 (by omega);rw[g0]at y0;rw[g1]at y1;rw[g2]at y2;unfold zz at y0;have l0:u0<t.nodes.length:=by omega
     have l1:u1<t.nodes.length:=by omega
     have l2:u2<t.nodes.length:=by omega
     clear hf h0 h1 h2 g0 g1 g2;clear hF hc hl hy hh hC hM hG hN hp Hl Hk Hj
     go_upto_region 22 with fail
     refine N.region_J hW (by kernel_rfl) (by kernel_rfl) (fun Wz=>Below (X3).heap.size (X3) Wz) (brf.drew) ?_
     iterate 38 (refine N.Walk.cons ?_ (N.StepP.pure rfl ?_) ?_;rotate_left;(intro W hJ;obtain⟨hO,hQ⟩:=bcell hJ;go_simp;rfl);simp only[N.pz])
     refine N.Walk.nil fun W hJ=>?_;rename World=>X4
     have He:=Hd (Ha.o.step hJ);clear hJ z0 z1 z2 y0 y1 y2 yk e0 e3 hd hS Ha Hf l0 l1 l2;try simp only[List.drop_succ_cons,List.drop_zero]
     go_wp2
     go_roundw
     case rel=>exact⟨k+1,by go_num,by omega,He⟩
     case measure=>simp[intOf];omega
    have k3:(K==3)=false:=beq_false_of_ne q3;have k19:(K==19)=false:=beq_false_of_ne q19;by_cases q20:K=20
    .subst q20
     clear q3 q19 k3 k19
     as_aux_lemma=>
     obtain⟨u0,u1,hF,h1,g1⟩:=TH Hm.o hlt hl;rw[HD.o]at hF;rw[hc]at g1;have hf:=Hf.o.kids;rw[hF]at hf e3;simp only[List.length_cons,List.length_nil]at e3;obtain⟨bk,ok,ek,hS,z1⟩:=Ints.at hf (i:=1) (by simp);subst ek;simp only[List.getElem_cons_zero,List.getElem_cons_succ,Nat.add_zero]at z1;obtain⟨hd,hh⟩:=SQ Ha.o.of Hh.o (by omega);have yk:=hh k hlt;rw[SS hlt hl (by first|rfl|(simp[zl];omega)),hc]at yk;have y1:=hh u1 (by omega);rw[g1]at y1;have l1:u1<t.nodes.length:=by omega
     clear hf h1 g1;clear hF hc hl hy hh hC hM hG hN hp Hl Hk Hj
     go_upto_region 25 with fail
     refine N.region_J hW (by kernel_rfl) (by kernel_rfl) (fun Wz=>Below (X3).heap.size (X3) Wz) (brf.drew) ?_
     iterate 16 (refine N.Walk.cons ?_ (N.StepP.pure rfl ?_) ?_;rotate_left;(intro W hJ;obtain⟨hO,hQ⟩:=bcell hJ;go_simp;rfl);simp only[N.pz])
     refine N.Walk.nil fun W hJ=>?_;rename World=>X4
     have He:=Hd (Ha.o.step hJ);clear hJ z1 y1 yk e0 e3 hd hS Ha Hf l1;try simp only[List.drop_succ_cons,List.drop_zero]
     go_wp2
     go_roundw
     case rel=>exact⟨k+1,by go_num,by omega,He⟩
     case measure=>simp[intOf];omega
    have k20:(K==20)=false:=beq_false_of_ne q20;by_cases qn:K=4\/6<=K/\K<=10
    .as_aux_lemma=>
     obtain⟨e,hL⟩:=TW Hm.o hlt (by rw[hl];exact qn) (by rw[hc];exact hy);rw[HD.o]at hL;rw[hc]at e;unfold intT at e hL;have Hp:=Hd hL;have HL:=Hd e;obtain⟨hd,hh⟩:=SQ Ha.o.of Hh.o (by omega);have Hv:Hid (ofK (exT t) (k:Int)=ty):=Hd (by rw[SS hlt hl (by first|rfl|(simp[zl];omega)),hc]);clear hh hd;clear e hL hc hl hy hM hG hN hp Hl Hk Hj;rcases qn with qn|qn
     .subst qn
      clear q3 q19 q20 k3 k19 k20 hC
      go_upto_region 29 with fail
      clear e0 e3
      go_loopw [13] (fun t13 wq=>∃j:Nat,t13=.int .i64 j/\j<=D.kids.length/\Hid (OnW w wq tb ⟨some ⟨b,o,none⟩,nc,ia,ic⟩ t (some ⟨bo,oo,none⟩) oc da dc)/\Hid (NdC wq nb ka kc D)) (fun t13 _=>D.kids.length-(intOf t13).toNat)
      case atStart=>exact⟨0,rfl,Nat.zero_le _,Ha,Hf⟩
      case round=>
       obtain⟨j,rfl,hj,Hb,Hc⟩:=hrel;obtain⟨hB,hv⟩:=SQ Hb.o.of Hh.o (by omega);by_cases hjl:j<D.kids.length
       .obtain⟨u,hu,hua⟩:=aN Hm.o hlt (x:=D.kids[j]) (by rw[HD.o];exact List.getElem_mem _)
        obtain⟨bk,ok,ek,hS,z0⟩:=Ints.at Hc.o.kids hjl;subst ek;rw[hu]at z0;have yu:=hv u (by omega);rw[Hp.o (u:Int) (by rw[<-hu];exact List.getElem_mem _)]at yu;have yk:=hv k hlt;rw[Hv.o,HL.o]at yk;have lu:u<t.nodes.length:=by omega
        clear hv hu;go_wp2
        go_roundw
        case rel=>exact⟨j+1,by go_num,by omega,Hb,Hc⟩
        case measure=>simp[intOf];omega
       .clear hv
        go_wp2
        go_roundw
        case rel=>exact⟨k+1,by go_num,by omega,Hb⟩
        case measure=>simp[intOf];omega
     .have k4:(K==4)=false:=beq_false_of_ne (by omega)
      have k6:decide (6<=K)=true:=decide_eq_true (by omega);have k10:decide (K<=10)=true:=decide_eq_true (by omega);clear q3 q19 q20 hC qn
      go_upto_region 29 with fail
      clear e0 e3 k3 k4 k6 k10 k19 k20
      go_loopw [13] (fun t13 wq=>∃j:Nat,t13=.int .i64 j/\j<=D.kids.length/\Hid (OnW w wq tb ⟨some ⟨b,o,none⟩,nc,ia,ic⟩ t (some ⟨bo,oo,none⟩) oc da dc)/\Hid (NdC wq nb ka kc D)) (fun t13 _=>D.kids.length-(intOf t13).toNat)
      case atStart=>exact⟨0,rfl,Nat.zero_le _,Ha,Hf⟩
      case round=>
       obtain⟨j,rfl,hj,Hb,Hc⟩:=hrel;obtain⟨hB,hv⟩:=SQ Hb.o.of Hh.o (by omega);by_cases hjl:j<D.kids.length
       .obtain⟨u,hu,hua⟩:=aN Hm.o hlt (x:=D.kids[j]) (by rw[HD.o];exact List.getElem_mem _)
        obtain⟨bk,ok,ek,hS,z0⟩:=Ints.at Hc.o.kids hjl;subst ek;rw[hu]at z0;have yu:=hv u (by omega);rw[Hp.o (u:Int) (by rw[<-hu];exact List.getElem_mem _)]at yu;have yk:=hv k hlt;rw[Hv.o,HL.o]at yk;have lu:u<t.nodes.length:=by omega
        clear hv hu;go_wp2
        go_roundw
        case rel=>exact⟨j+1,by go_num,by omega,Hb,Hc⟩
        case measure=>simp[intOf];omega
       .clear hv
        go_wp2
        go_roundw
        case rel=>exact⟨k+1,by go_num,by omega,Hb⟩
        case measure=>simp[intOf];omega
    by_cases qb:K=5\/11<=K/\K<=18
    .as_aux_lemma=>
     have e:=TK (t:=t) (i:=k) (by rw[hl];exact qb) (by rw[hc];exact hy);rw[hc]at e;unfold zz at e;have He:=Ha;obtain⟨hd,hh⟩:=SQ Ha.o.of Hh.o (by omega);have yk:=hh k hlt;rw[SS hlt hl (by first|rfl|(simp[zl];omega)),hc]at yk;rw[e]at yk;rcases qb with qb|qb
     .subst qb
      clear q3 q19 q20 k3 k19 k20 qn e hc hl hy hh hC hM hG hN hp Hl Hk Hj;go_wp2
      go_roundw
      case rel=>exact⟨k+1,by go_num,by omega,He⟩
      case measure=>simp[intOf];omega
     .have k4:(K==4)=false:=beq_false_of_ne (by omega)
      have k5:(K==5)=false:=beq_false_of_ne (by omega);have k6:decide (6<=K)=true:=decide_eq_true (by omega);have k10:decide (K<=10)=false:=decide_eq_false (by omega);have k11:decide (11<=K)=true:=decide_eq_true (by omega);have k18:decide (K<=18)=true:=decide_eq_true (by omega);clear q3 q19 q20 qb qn e hc hl hy hh hC hM hG hN hp Hl Hk Hj;go_wp2
      go_roundw
      case rel=>exact⟨k+1,by go_num,by omega,He⟩
      case measure=>simp[intOf];omega
    by_cases q26:K=26
    .subst q26
     clear q3 q19 q20 k3 k19 k20 qn qb
     as_aux_lemma=>
     obtain⟨u0,l,hF,h0,g0⟩:=TL Hg.o Hi.o Hm.o hlt hl (by rw[hc];exact hy);rw[HD.o]at hF g0;rw[hc]at g0;have hf:=Hf.o.kids;rw[hF]at hf e3 g0;simp only[List.length_cons]at e3 g0;obtain⟨bk,ok,ek,hS,z0⟩:=Ints.at hf (i:=0) (by simp);subst ek;simp only[List.getElem_cons_zero,Nat.add_zero]at z0;obtain⟨hd,hh⟩:=SQ Ha.o.of Hh.o (by omega);have yk:=hh k hlt;rw[SS hlt hl (by first|rfl|(simp[zl];omega)),hc]at yk;have y0:=hh u0 (by omega);have l0:u0<t.nodes.length:=by omega
     obtain⟨of,hof⟩:∃of,ofK (exT t) (u0:Int)=of:=⟨_,rfl⟩
     rw[hof]at y0 g0;have HR:=Hd g0;have HV:=Hd (show ty.length<=1000000 by have:=Hj.o;omega);have z1:(((l.length+1:Nat):Int)==0)=false:=beq_false_of_ne (by omega);have z2:decide (((l.length+1:Nat):Int)=0)=false:=decide_eq_false (by omega);have z3:((l.length:Int)+1==0)=false:=beq_false_of_ne (by omega);clear hf h0 g0 hof;clear hF hc hl hy hh hC hM hG hN hp Hl Hk Hj
     go_upto_region 38 with(go_at_call 11;refine(iZ ty _ (HG.o _ Ha.o.kn.base) HV.o).mono ?_;rw[HR.o];rintro e w4 ⟨rfl,hb⟩;have He:=Hd (Ha.o.step hb);have y0:=(hb.cell (p:=⟨bo,oo+u0,none⟩) hd).trans y0;have z0:=(hb.cell (p:=⟨bk,ok,none⟩) hS).trans z0;have e0:=(hb.cell (p:=⟨nb,0,none⟩) (World.block_lt_of_cell? X3 _ e0)).trans e0;clear hb)
     go_wp2
     go_roundw
     case rel=>exact⟨k+1,by go_num,by omega,He⟩
     case measure=>simp[intOf];omega
    by_cases q24:K=24
    .subst q24
     clear q3 q19 q20 k3 k19 k20 qn qb q26
     as_aux_lemma=>
     have e:=TX (t:=t) (i:=k) hl (by rw[hc];exact hy);rw[hc,HD.o]at e;have e1:=Hf.o.e1;rw[<-e]at e1;have hnl:=World.block_lt_of_cell? X3 _ e1;simp only at hnl;obtain⟨hd,hh⟩:=SQ Ha.o.of Hh.o (by omega);have yk:=hh k hlt;rw[SS hlt hl (by first|rfl|(simp[zl];omega)),hc]at yk;clear e;clear hc hl hy hh hC hM hG hN hp Hl Hk Hj
     go_upto_region 41 with fail
     refine N.region_J hW (by kernel_rfl) (by kernel_rfl) (fun Wz=>Below (X3).heap.size (X3) Wz) (brf.drew) ?_
     iterate 7 (refine N.Walk.cons ?_ (N.StepP.pure rfl ?_) ?_;rotate_left;(intro W hJ;obtain⟨hO,hQ⟩:=bcell hJ;go_simp;rfl);simp only[N.pz])
     refine N.Walk.nil fun W hJ=>?_;rename World=>X4
     have He:=Hd (Ha.o.step hJ);clear hJ yk e0 e1 e3 hd Ha Hf;try simp only[List.drop_succ_cons,List.drop_zero]
     go_wp2
     go_roundw
     case rel=>exact⟨k+1,by go_num,by omega,He⟩
     case measure=>simp[intOf];omega
    have He:=Ha;have k4:(K==4)=false:=beq_false_of_ne (by omega);have k5:(K==5)=false:=beq_false_of_ne (by omega);have k26:(K==26)=false:=beq_false_of_ne (by omega);have k24:(K==24)=false:=beq_false_of_ne (by omega);have hKs:K=1\/K=2\/21<=K/\K<=23:=by omega
    clear qn qb q26 q24 q3 q19 q20 hc hl hy hM hG hN hp Hl Hk Hj;rcases hKs with hs|hs|hs
    .subst hs
     clear k3 k4 k5 k19 k20 k26 k24 hC
     as_aux_lemma=>
     go_wp2
     go_roundw
     case rel=>exact⟨k+1,by go_num,by omega,He⟩
     case measure=>simp[intOf];omega
    .subst hs
     clear k3 k4 k5 k19 k20 k26 k24 hC
     as_aux_lemma=>
     go_wp2
     go_roundw
     case rel=>exact⟨k+1,by go_num,by omega,He⟩
     case measure=>simp[intOf];omega
    .have k6:decide (6<=K)=true:=decide_eq_true (by omega)
     have k10:decide (K<=10)=false:=decide_eq_false (by omega);have k11:decide (11<=K)=true:=decide_eq_true (by omega);have k18:decide (K<=18)=false:=decide_eq_false (by omega);clear hs hC
     as_aux_lemma=>
     go_wp2
     go_roundw
     case rel=>exact⟨k+1,by go_num,by omega,He⟩
     case measure=>simp[intOf];omega
   .have hx2:zl D.kind=false:=by simpa using hx
    rw[hx2]at hE;simp only[Bool.false_eq_true,if_false]at hE;have Hw:=Hd hx2;have Hy:=Hd hk1;clear hx hx2 hk1;obtain⟨X2,hA⟩:∃X,wr.alloc (.cells #[.int .u8 D.kind,.string ⟨D.text.toArray⟩,.int .i64 D.n,.slice ka D.kids.length kc,.int .i64 D.pos] 31)=X:=⟨_,rfl⟩
    have ho:Below wr.heap.size wr X2:=by rw[<-hA];exact(Below.refl _ wr).alloc nlr _
    have Ho:=Hd (HO.o.step ho);have h3:=(ho.cell (p:=⟨bo,oo+k,none⟩) hX).trans hE;have hZ:=Nat.lt_of_lt_of_le hX ho.size;have e0:X2.cell? ⟨wr.heap.size,0,none⟩=some (.int .u8 D.kind):=by rw[<-hA];exact bZ rfl
    have hnl:=World.block_lt_of_cell? X2 _ e0;simp only at hnl
    go_upto_region 8 with fail
    try rw[hA]
    obtain⟨nb,hT⟩:∃g,wr.heap.size=g:=⟨_,rfl⟩
    rw[hT]at e0 hnl|-;clear hA ho hT c0 c1 hw hb m0 m1 m2 m3 m4 hX hE HO
    go_wp2_with (go_at_call 8;refine(HF.o _ Hy.o).mono ?_;rw[Hw.o];rintro e w3 ⟨rfl,rfl⟩)
    go_roundw
    case rel=>exact⟨k+1,by go_num,by omega,Ho⟩
    case measure=>simp[intOf];omega
  .go_upto_region 44 with fail
   clear c0 c1 hw hlt
   go_loopw [17] (fun t17 wq=>∃i:Nat,t17=.int .i64 i/\i<=t.items.length/\Hid (OnW w wq tb ⟨na,nc,ia,ic⟩ t oa oc da dc)) (fun t17 _=>t.items.length-(intOf t17).toNat)
   case atStart=>exact⟨0,rfl,Nat.zero_le _,HO⟩
   case round=>
    obtain⟨i,rfl,hi,HP⟩:=hrel;have c0:=HP.o.kn.c0;have c1:=HP.o.kn.c1;have hw:=World.block_lt_of_cell? wr _ c0;simp only at c0 c1 hw;by_cases hil:i<t.items.length
    .as_aux_lemma=>
     have hit:=HZ.o.item _ (List.getElem_mem hil);obtain⟨a,ha⟩:=Int.eq_ofNat_of_zero_le hit.1;have han:a<t.nodes.length:=by rw[ha]at hit;omega
     have HA:Hid (t.items.getD i 0=a):=Hd (by rw[List.getD_eq_getElem?_getD,List.getElem?_eq_getElem hil,Option.getD_some,ha]);obtain⟨bi,oi,ei,hbi,hci⟩:=HP.o.kn.tree.items.at hil;simp only at ei;subst ei;rw[ha]at hci;obtain⟨b,o,ka,kc,ea,hb,m0,m1,m2,m3,m4,hf⟩:=HP.o.kn.tree.nodes.at han;simp only at ea;subst ea;have hI:=t.nd_at han;rw[<-hI]at m0 m1 m2 m3 m4 hf;have hks:(t.nd (a:Int)).kids.length<=1000000:=by rw[hI];exact Hg.o.k _ (List.getElem_mem _)
     clear hI hit ha;have Hr:=Hd hf;clear hf
     go_upto_region 46 with fail
     go_region
     go_upto_region 47 with fail
     obtain⟨X2,hA⟩:∃X,(wr.alloc (.cells #[.int .u8 (t.nd (a:Int)).kind,.string ⟨(t.nd (a:Int)).text.toArray⟩,.int .i64 (t.nd (a:Int)).n,.slice ka (t.nd (a:Int)).kids.length kc,.int .i64 (t.nd (a:Int)).pos] 31)).drew=X:=⟨_,rfl⟩
     have ho:Below wr.heap.size wr X2:=by rw[<-hA];exact((Below.refl _ wr).alloc nlr _).drew
     have Hq:=Hd (HP.o.step ho)
     have Hn:Hid (NdC X2 wr.heap.size ka kc (t.nd (a:Int))):=Hd (by
      refine⟨?_,?_,?_,Row.mono Hr.o ho nlr⟩<;>rw[<-hA]<;>exact bZ rfl)
     rw[hA];obtain⟨nb,hT⟩:∃g,wr.heap.size=g:=⟨_,rfl⟩
     rw[hT]at Hn|-;clear hA ho hT c0 c1 hw hbi hci hb m0 m1 m2 m3 m4 Hr;have c0:=Hq.o.kn.c0;have c1:=Hq.o.kn.c1;have e0:=Hn.o.e0;simp only at c0 c1;by_cases k42:(t.nd (a:Int)).kind=42
     .obtain⟨n,q,hn,hq,hqa,g1,g2⟩:=TG Hm.o Hi.o.2 han k42
      have k2:((t.nd (a:Int)).kind != 42)=false:=by simp[k42]
      have HU:Hid ((t.nd (t.items.getD i 0)).kind=42):=Hd (by rw[HA.o];exact k42);have HN:=Hd hn;have HQ:=Hd hq;have HS:=Hd g1;have HT:=Hd g2;have hn4:n+2<=1000000:=by omega
      clear hn hq g1 g2 k42 hks
      go_upto_region 49 with(first
       | (go_at_call 12
          refine(rO ⟨ma,mc,ja,jc⟩ t (i:Int) _ Hg.o HI.o (HG.o _ HH.o.kn.base) HW.o).mono ?_;rintro e w4 hr;obtain⟨sa,sc,rfl,hs,hb⟩:=RetSignK.val hr Hi.o hil HU.o;rw[HA.o,HT.o];have Hz:=Hd (HH.o.step hb);have Hc:=Hd (Hf.o.step hb)
          clear hb hr hs)
       | (go_at_call 10
          refine(fZ ⟨some ⟨b,o,none⟩,nc,some ⟨bi,oi,none⟩,ic⟩ t _ Hg.o Hq.o.kn.tree).mono ?_;rintro e w3⟨⟨ma,mc,ja,jc⟩,B,ks3,rfl,-,hon,hin,-,hb⟩;unfold TreeV.val;have HW:=Hd (show IsTree w3 ⟨ma,mc,ja,jc⟩ t from⟨hon.nodes,hin⟩);have HH:=Hd (Hq.o.step hb);have Hf:=Hd (Hn.o.step hb)
          clear hon hin hb))
      clear c0 c1 e0 k2;have e3:=Hc.o.e3;have hf:=Hc.o.kids;obtain⟨bk,ok,ek,hS,z0⟩:=Ints.at hf (i:=n+1) (by have:=HN.o;omega);subst ek
      have hz:(t.nd (a:Int)).kids[n+1]'(by have:=HN.o;omega)=(q:Int):=by
       have:=HQ.o;rw[List.getElem?_eq_getElem (by have:=HN.o;omega)]at this;exact Option.some.inj this
      rw[hz]at z0;rw[HN.o]at e3;obtain⟨bo,oo,eo,-,-⟩:=Strs.at Hz.o.of (i:=q) (by rw[Hh.o];omega);subst eo;obtain⟨hB,hv⟩:=SQ Hz.o.of Hh.o (by omega);have yq:=hv q (by omega);rw[HS.o]at yq;have lq:q<t.nodes.length:=by omega
      have hw1:IntKind.i64.wrap (((n+2:Nat):Int)-2)=(n:Int):=by rw[IntWalk.i64_in _ (by omega)];omega
      have hw2:IntKind.i64.wrap (((n+2:Nat):Int)-1)=((n+1:Nat):Int):=by rw[IntWalk.i64_in _ (by omega)];omega
      have hw3:(n:Int)+2-2=n:=by omega
      have hw4:(n:Int)+2-1=n+1:=by omega
      have hw5:decide ((n:Int)+2<2)=false:=decide_eq_false (by omega);have hw6:decide (n+2<2)=false:=decide_eq_false (by omega);clear hf hz hv hqa;go_wp2
      go_roundw
      case rel=>exact⟨i+1,by go_num,by omega,Hz⟩
      case measure=>simp[intOf];omega
     .have k2:((t.nd (a:Int)).kind != 42)=true:=by simpa using k42
      clear k42;go_wp2
      go_roundw
      case rel=>exact⟨i+1,by go_num,by omega,Hq⟩
      case measure=>simp[intOf];omega
    .go_wp2_with (go_at_call 7;refine(jY _ (HG.o _ HP.o.kn.base)).mono ?_;rintro e w2 ⟨rfl,ho⟩;have Hx:=Hd (HP.o.kn.step ho).base;clear ho)
     go_ret;exact⟨rfl,Hx.o⟩
end
end Go.Proofs.YtcdkdiedphhdhaaGreatDoor
