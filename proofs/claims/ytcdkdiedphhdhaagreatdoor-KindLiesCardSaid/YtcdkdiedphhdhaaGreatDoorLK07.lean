/- Part of a proof. -/
import Derived.Test.YtcdkdiedphhdhaaGreatDoorRows
import Derived.Test.YtcdkdiedphhdhaaGreatDoorLK06
import Derived.Laws.IdiomStrings
set_option maxRecDepth 100000
set_option maxHeartbeats 8000000
set_option linter.unusedVariables false
set_option linter.unusedSimpArgs false
open Go.Proofs.Tryz
namespace Go.Proofs.YtcdkdiedphhdhaaGreatDoor
section
open Go Go.RowKit
theorem SZ(W:World){d:UInt8}{x:Int}(h:x=(d.toNat:Int)):(convert 46 9 (.slice (some ⟨W.heap.size,0,none⟩) 1 1)).run prog (W.alloc (.cells #[.int .u8 x] 5))=.ok (strV [d]) (W.alloc (.cells #[.int .u8 x] 5)):=by
 refine run_convert_bytes_back _ _ _ 5 _ 1 [d] BR (by kernel_rfl) (by kernel_rfl) fun j hj=>?_;have:j=0:=by simpa using hj
 subst this;rw[h];exact bZ rfl
theorem TD{m:Nat}(h:m<100):((UInt8.ofNat (48+m)).toNat:Int)=48+(m:Int):=by
 rw[UInt8.toNat_ofNat'];omega
theorem TC(s:List UInt8)(vn:Nat)(w:World)(hvn:vn<256)(hs:s.length<=maxLen)(hg:GVK w) :
 Calls prog 4 #[strV s,.int .u8 vn] w (zD w true):=by
 have hI:prog.follows .mixedOrders=true:=by kernel_rfl
 have HC:=Hd (lL s w hs hg);have hge:∀X,Below w.heap.size w X->GVK X:=fun X h=>hg.mono h nlr;have HG:=Hd hge;clear hg hge;go_enter func4,ntmps4
 go_upto_region 2 with(
  go_at_call 6
  refine HC.o.mono ?_;rintro e w1⟨⟨na,nc,ia,ic⟩,t,oa,oc,L,da,dc,l,ok,rfl,ht,-,-,hb1,hO,hrg,hD⟩;unfold TreeV.val;have HX:=Hd (KnW.box hb1 ht);have Ha:=Hd hO;have Hn:=Hd hrg;have Hm:=Hd hD;have hn3:=hO.n;have hi3:=hO.i
  clear hb1 ht hO hrg hD)
 try simp only at HX
 obtain⟨X1,hU⟩:∃X,w1.alloc (.cells #[.slice na t.nodes.length nc,.slice ia t.items.length ic] 25)=X:=⟨_,rfl⟩
 obtain⟨tb,htb⟩:∃g,w1.heap.size=g:=⟨_,rfl⟩
 rw[hU,htb]at HX;rw[hU,htb];clear hU htb HC;rcases ok with _|_
 .go_wp2_with (go_at_call 7;refine(jY _ (HG.o _ HX.o.base)).mono ?_;rintro e w2 ⟨rfl,hn⟩;have Hr:=Hd (HX.o.step hn).base;clear hn)
  go_ret;exact⟨rfl,Hr.o⟩
 obtain⟨hD,-,-⟩:=Hm.o rfl;have Hf:=Hd hD;obtain⟨wf,G⟩:=zi Ha.o hD.1;have HI:=Hd wf;have Ho:=Hd G;obtain⟨m,hm⟩:∃m:Nat,1+vn % 6=m:=⟨_,rfl⟩
 have hm1:1<=m:=by omega
 have hm6:m<=6:=by omega
 have hrm:(1:Int)+(vn:Int) % 6=(m:Int):=by rw[<-hm];simp
 clear hD wf G Hm hm
 go_upto_region 6 with fail
 go_loopw [10] (fun t10 wr=>∃k:Nat,t10=.int .i64 k/\k<=t.items.length/\Hid (KnW w wr tb ⟨na,nc,ia,ic⟩ t)) (fun t10 _=>t.items.length-(intOf t10).toNat)
 case atStart=>exact⟨0,rfl,Nat.zero_le _,HX⟩
 case round=>
  obtain⟨k,rfl,hk,HK⟩:=hrel;clear HX;have c0:=HK.o.c0;have c1:=HK.o.c1;have hd:=World.block_lt_of_cell? wr _ c0;simp only at c0 c1 hd;by_cases hlt:k<t.items.length
  .have hX:=HI.o.item _ (List.getElem_mem hlt)
   obtain⟨a,ha⟩:=Int.eq_ofNat_of_zero_le hX.1;have hp:a<t.nodes.length:=by rw[ha]at hX;omega
   obtain⟨bi,oi,ei,hbi,hci⟩:=HK.o.tree.items.at hlt;simp only at ei;subst ei;rw[ha]at hci;obtain⟨b,o,ka,kc,ea,hb,m0,m1,m2,m3,m4,hZ⟩:=HK.o.tree.nodes.at hp;simp only at ea;subst ea;have hK:=t.nd_at hp;rw[<-hK]at m0 m1 m2 m3 m4 hZ;clear hK hX ha;have Hw:=Hd hZ;clear hZ
   go_upto_region 8 with fail
   go_region
   go_upto_region 9 with fail
   obtain⟨X2,hN⟩:∃X,(wr.alloc (.cells #[.int .u8 (t.nd (a:Int)).kind,.string ⟨(t.nd (a:Int)).text.toArray⟩,.int .i64 (t.nd (a:Int)).n,.slice ka (t.nd (a:Int)).kids.length kc,.int .i64 (t.nd (a:Int)).pos] 31)).drew=X:=⟨_,rfl⟩
   have hn:Below wr.heap.size wr X2:=by rw[<-hN];exact((Below.refl _ wr).alloc nlr _).drew
   have He:=Hd (HK.o.step hn)
   have Hi:Hid (NdC X2 wr.heap.size ka kc (t.nd (a:Int))):=Hd (by
    refine⟨?_,?_,?_,Row.mono Hw.o hn nlr⟩<;>rw[<-hN]<;>exact bZ rfl)
   rw[hN];obtain⟨nb,hnb⟩:∃g,wr.heap.size=g:=⟨_,rfl⟩
   rw[hnb]at Hi|-;clear hN hn hnb c0 c1 hd hbi hci hb m0 m1 m2 m3 m4 Hw;clear HK;have c0:=He.o.c0;have c1:=He.o.c1;have hd:=World.block_lt_of_cell? X2 _ c0;have e0:=Hi.o.e0;have e1:=Hi.o.e1;have e3:=Hi.o.e3;have hh:=World.block_lt_of_cell? X2 _ e0;simp only at c0 c1 hd hh;by_cases k41:(t.nd (a:Int)).kind=41
   .obtain⟨cs,hcs⟩:=TK Ha.o Hf.o hp k41
    have Hb:=Hd hcs;have hT:Hid ((t.nd (a:Int)).text.length<=12):=Hd (kJ (by have:=(Ho.o.ok hp).2.1;rw[k41]at this;exact this.symm));have k2:((t.nd (a:Int)).kind != 41)=false:=by simp[k41]
    have Hz:=Hd k41;have hks:(t.nd (a:Int)).kids.length<=1000000:=by rw[t.nd_at hp];exact Ha.o.k _ (List.getElem_mem _)
    clear hcs k41
    go_upto_region 10 with fail
    refine N.region_M 9 hI (by kernel_rfl) (by kernel_rfl) rfl (by kernel_rfl) (by kernel_rfl) (fun _ _=>False) N.Pans.no (fun Wz=>Below (X2).heap.size (X2) Wz) (fun Wy Wz=>Below Wy.heap.size Wy Wz) (brf.drew) [.fix ?vG1_0,.dep [] (OwR t),.fix ?vG1_2,.fix ?vG1_3,.dep [1] (fun _ v _=>v=.tuple #[intV cs.sum,intV 0]),.dep [4] (fun _ v _=>v=.tuple #[intV cs.sum,intV 0]),.dep [5] (fun _ v _=>v=intV cs.sum),.dep [5] (fun _ v _=>v=intV 0),.dep [6] (fun _ v _=>v=intV cs.sum)] [[],[],[],[],[1],[4],[5],[5],[6]] rfl (by kernel_rfl) (N.sts_kd ⟨trivial,(fun _ _ _ _ k h=>h.st k),trivial,trivial,(fun _ _ _ _ _ h=>h),(fun _ _ _ _ _ h=>h),(fun _ _ _ _ _ h=>h),(fun _ _ _ _ _ h=>h),(fun _ _ _ _ _ h=>h),trivial⟩) fun x=>?_;rotate_left 3;refine N.WalkM.fix ?_ ?_;refine N.StepS.known rfl (fun _=>brf) ?_;intro W hJ hP;obtain⟨he,hf⟩:=bcell hJ;go_simp;rfl;simp only[N.pz];refine N.WalkM.dep ?sG1_1 ?rG1_1;case sG1_1=>(refine N.StepS.call' (f:=10) (args:=#[TreeV.val ⟨some ⟨b,o,none⟩,nc,some ⟨bi,oi,none⟩,ic⟩ t]) rfl ?_ ?_;(intro W hJ hP;obtain⟨he,hf⟩:=bcell hJ;(go_simp;try rfl));(intro W hJ hP;exact zk _ t Ha.o hJ (He.o.step hJ).tree))
    simp only[N.pz]
    iterate 2 (refine N.WalkM.fix ?_ ?_;refine N.StepS.known rfl (fun _=>brf) ?_;intro W hJ hP;obtain⟨he,hf⟩:=bcell hJ;go_simp;rfl;simp only[N.pz])
    refine N.WalkM.dep ?sG1_4 ?rG1_4;case sG1_4=>(refine N.StepS.call' (f:=9) (args:=#[x 1,strV (t.nd (a:Int)).text]) rfl ?_ ?_;(intro W hJ hP;obtain⟨he,hf⟩:=bcell hJ;(go_simp;try rfl));(intro W hJ hP;obtain⟨u1,h1,hy⟩:OwR t [] (x 1) W:=hP 1 (by kernel_rfl);rw[h1];refine(fN u1 t (t.nd (a:Int)).text W Ha.o Hn.o (HG.o _ (He.o.step hJ).base) hy (by have:=hT.out;omega)).mono ?_;rintro e w' hr;obtain⟨rfl,hb⟩:=RetCells.of hr Hf.o Hb.o.all;exact⟨_,rfl,hJ.trans (hb.mono hJ.size),hb,rfl⟩))
    simp only[N.pz];refine N.WalkM.dep ?sG1_5 ?rG1_5;case sG1_5=>exact N.StepS.runs rfl (fun W hJ hP=>by have h4:x 4=.tuple #[intV cs.sum,intV 0]:=hP 4 (by kernel_rfl);generalize x 4=y4 at *;subst h4;exact⟨_,W,(by(go_simp;try rfl)),hJ,brf,rfl⟩)
    simp only[N.pz];refine N.WalkM.dep ?sG1_6 ?rG1_6;case sG1_6=>exact N.StepS.runs rfl (fun W hJ hP=>by have h4:x 5=.tuple #[intV cs.sum,intV 0]:=hP 5 (by kernel_rfl);generalize x 5=y4 at *;subst h4;exact⟨_,W,(by(go_simp;try rfl)),hJ,brf,rfl⟩)
    simp only[N.pz];refine N.WalkM.dep ?sG1_7 ?rG1_7;case sG1_7=>exact N.StepS.runs rfl (fun W hJ hP=>by have h4:x 5=.tuple #[intV cs.sum,intV 0]:=hP 5 (by kernel_rfl);generalize x 5=y4 at *;subst h4;exact⟨_,W,(by(go_simp;try rfl)),hJ,brf,rfl⟩)
    simp only[N.pz];refine N.WalkM.dep ?sG1_8 ?rG1_8;case sG1_8=>exact N.StepS.runs rfl (fun W hJ hP=>by have h4:x 6=intV cs.sum:=hP 6 (by kernel_rfl);generalize x 6=y4 at *;subst h4;exact⟨_,W,(by(go_simp;try rfl)),hJ,brf,rfl⟩)
    simp only[N.pz];refine N.WalkM.nil fun W hJ hH=>?_;have h4:x 4=.tuple #[intV cs.sum,intV 0]:=hH 4;have h5:x 5=.tuple #[intV cs.sum,intV 0]:=hH 5;have h6:x 6=intV cs.sum:=hH 6;have h7:x 7=intV 0:=hH 7;have h8:x 8=intV cs.sum:=hH 8;generalize x 1=y1 at *;generalize x 4=y4 at *;generalize x 5=y5 at *;generalize x 6=y6 at *;generalize x 7=y7 at *;generalize x 8=y8 at *;subst h4 h5 h6 h7 h8;rename World=>X3
    have Hg:=Hd (He.o.step hJ);have Hl:=Hd (Hi.o.step hJ);clear hJ hH c0 c1 hd e0 e1 e3 hh He Hi;have c0:=Hg.o.c0;have c1:=Hg.o.c1;have hd:=World.block_lt_of_cell? X3 _ c0;have e0:=Hl.o.e0;have e1:=Hl.o.e1;have e3:=Hl.o.e3;have hh:=World.block_lt_of_cell? X3 _ e0;simp only at c0 c1 hd hh;simp only[List.drop_succ_cons,List.drop_zero]
    go_upto_region 11 with fail
    refine N.region_M 11 hI (by kernel_rfl) (by kernel_rfl) rfl (by kernel_rfl) (by kernel_rfl) (fun _ _=>False) N.Pans.no (fun Wz=>Below (X3).heap.size (X3) Wz) (fun Wy Wz=>Below Wy.heap.size Wy Wz) (brf.drew) [.fix ?vG2_0,.dep [] (OwR t),.fix ?vG2_2,.fix ?vG2_3,.dep [1] (fun _ v W=>∃fa fc ta tc,v=.tuple #[.slice fa (t.nd (a:Int)).kids.length fc,.slice ta (t.nd (a:Int)).kids.length tc,intV 0]/\Strs W fa fc ((t.nd (a:Int)).kids.map fun k=>(t.nd k).text)/\Strs W ta tc ((t.nd (a:Int)).kids.map (ofK (tysP t t.nodes.length)))),.dep [4] (fun _ v W=>∃fa fc ta tc,v=.tuple #[.slice fa (t.nd (a:Int)).kids.length fc,.slice ta (t.nd (a:Int)).kids.length tc,intV 0]/\Strs W fa fc ((t.nd (a:Int)).kids.map fun k=>(t.nd k).text)/\Strs W ta tc ((t.nd (a:Int)).kids.map (ofK (tysP t t.nodes.length)))),.dep [5] (fun _ v W=>∃fa fc,v=.slice fa (t.nd (a:Int)).kids.length fc/\Strs W fa fc ((t.nd (a:Int)).kids.map fun k=>(t.nd k).text)),.dep [5] (fun _ v W=>∃fa fc,v=.slice fa (t.nd (a:Int)).kids.length fc/\Strs W fa fc ((t.nd (a:Int)).kids.map (ofK (tysP t t.nodes.length)))),.dep [5] (fun _ v _=>v=intV 0),.dep [6] (fun _ v W=>∃fa fc,v=.slice fa (t.nd (a:Int)).kids.length fc/\Strs W fa fc ((t.nd (a:Int)).kids.map fun k=>(t.nd k).text)),.dep [7] (fun _ v W=>∃fa fc,v=.slice fa (t.nd (a:Int)).kids.length fc/\Strs W fa fc ((t.nd (a:Int)).kids.map (ofK (tysP t t.nodes.length))))] [[],[],[],[],[1],[4],[5],[5],[5],[6],[7]] rfl (by kernel_rfl) (N.sts_kd ⟨trivial,(fun _ _ _ _ k h=>h.st k),trivial,trivial,(fun _ _ _ _ hk h=>by obtain⟨fa,fc,ta,tc,h1,h2,h3⟩:=h;exact⟨fa,fc,ta,tc,h1,Row.mono h2 hk nlr,Row.mono h3 hk nlr⟩),(fun _ _ _ _ hk h=>by obtain⟨fa,fc,ta,tc,h1,h2,h3⟩:=h;exact⟨fa,fc,ta,tc,h1,Row.mono h2 hk nlr,Row.mono h3 hk nlr⟩),(fun _ _ _ _ hk h=>by obtain⟨fa,fc,h1,h2⟩:=h;exact⟨fa,fc,h1,Row.mono h2 hk nlr⟩),(fun _ _ _ _ hk h=>by obtain⟨fa,fc,h1,h2⟩:=h;exact⟨fa,fc,h1,Row.mono h2 hk nlr⟩),(fun _ _ _ _ _ h=>h),(fun _ _ _ _ hk h=>by obtain⟨fa,fc,h1,h2⟩:=h;exact⟨fa,fc,h1,Row.mono h2 hk nlr⟩),(fun _ _ _ _ hk h=>by obtain⟨fa,fc,h1,h2⟩:=h;exact⟨fa,fc,h1,Row.mono h2 hk nlr⟩),trivial⟩) fun x=>?_;rotate_left 3;refine N.WalkM.fix ?_ ?_;refine N.StepS.known rfl (fun _=>brf) ?_;intro W hJ hP;obtain⟨he,hf⟩:=bcell hJ;go_simp;rfl;simp only[N.pz];refine N.WalkM.dep ?sG2_1 ?rG2_1;case sG2_1=>(refine N.StepS.call' (f:=10) (args:=#[TreeV.val ⟨some ⟨b,o,none⟩,nc,some ⟨bi,oi,none⟩,ic⟩ t]) rfl ?_ ?_;(intro W hJ hP;obtain⟨he,hf⟩:=bcell hJ;(go_simp;try rfl));(intro W hJ hP;exact zk _ t Ha.o hJ (Hg.o.step hJ).tree))
    simp only[N.pz]
    iterate 2 (refine N.WalkM.fix ?_ ?_;refine N.StepS.known rfl (fun _=>brf) ?_;intro W hJ hP;obtain⟨he,hf⟩:=bcell hJ;go_simp;rfl;simp only[N.pz])
    refine N.WalkM.dep ?sG2_4 ?rG2_4;case sG2_4=>(refine N.StepS.call' (f:=13) (args:=#[x 1,strV (t.nd (a:Int)).text]) rfl ?_ ?_;(intro W hJ hP;obtain⟨he,hf⟩:=bcell hJ;(go_simp;try rfl));(intro W hJ hP;obtain⟨u1,h1,hy⟩:OwR t [] (x 1) W:=hP 1 (by kernel_rfl);rw[h1];refine(ST u1 t (t.nd (a:Int)).text W Ha.o Hn.o (HG.o _ (Hg.o.step hJ).base) hy (by have:=hT.out;omega)).mono ?_;rintro e w' hr;obtain⟨fa,fc,ta,tc,rfl,hQ,hR,hb⟩:=RetFields.of hr Hf.o Hb.o.rc;exact⟨_,rfl,hJ.trans (hb.mono hJ.size),hb,fa,fc,ta,tc,rfl,hQ,hR⟩))
    simp only[N.pz];refine N.WalkM.dep ?sG2_5 ?rG2_5;case sG2_5=>exact N.StepS.runs rfl (fun W hJ hP=>by obtain⟨fa,fc,ta,tc,h4,h5,h6⟩:∃fa fc ta tc,x 4=.tuple #[.slice fa (t.nd (a:Int)).kids.length fc,.slice ta (t.nd (a:Int)).kids.length tc,intV 0]/\Strs W fa fc ((t.nd (a:Int)).kids.map fun k=>(t.nd k).text)/\Strs W ta tc ((t.nd (a:Int)).kids.map (ofK (tysP t t.nodes.length))):=hP 4 (by kernel_rfl);generalize x 4=y4 at *;subst h4;exact⟨.tuple #[.slice fa (t.nd (a:Int)).kids.length fc,.slice ta (t.nd (a:Int)).kids.length tc,intV 0],W,(by(go_simp;try rfl)),hJ,brf,fa,fc,ta,tc,rfl,h5,h6⟩)
    simp only[N.pz];refine N.WalkM.dep ?sG2_6 ?rG2_6;case sG2_6=>exact N.StepS.runs rfl (fun W hJ hP=>by obtain⟨fa,fc,ta,tc,h4,h5,h6⟩:∃fa fc ta tc,x 5=.tuple #[.slice fa (t.nd (a:Int)).kids.length fc,.slice ta (t.nd (a:Int)).kids.length tc,intV 0]/\Strs W fa fc ((t.nd (a:Int)).kids.map fun k=>(t.nd k).text)/\Strs W ta tc ((t.nd (a:Int)).kids.map (ofK (tysP t t.nodes.length))):=hP 5 (by kernel_rfl);generalize x 5=y4 at *;subst h4;exact⟨.slice fa (t.nd (a:Int)).kids.length fc,W,(by(go_simp;try rfl)),hJ,brf,fa,fc,rfl,h5⟩)
    simp only[N.pz];refine N.WalkM.dep ?sG2_7 ?rG2_7;case sG2_7=>exact N.StepS.runs rfl (fun W hJ hP=>by obtain⟨fa,fc,ta,tc,h4,h5,h6⟩:∃fa fc ta tc,x 5=.tuple #[.slice fa (t.nd (a:Int)).kids.length fc,.slice ta (t.nd (a:Int)).kids.length tc,intV 0]/\Strs W fa fc ((t.nd (a:Int)).kids.map fun k=>(t.nd k).text)/\Strs W ta tc ((t.nd (a:Int)).kids.map (ofK (tysP t t.nodes.length))):=hP 5 (by kernel_rfl);generalize x 5=y4 at *;subst h4;exact⟨.slice ta (t.nd (a:Int)).kids.length tc,W,(by(go_simp;try rfl)),hJ,brf,ta,tc,rfl,h6⟩)
    simp only[N.pz];refine N.WalkM.dep ?sG2_8 ?rG2_8;case sG2_8=>exact N.StepS.runs rfl (fun W hJ hP=>by obtain⟨fa,fc,ta,tc,h4,h5,h6⟩:∃fa fc ta tc,x 5=.tuple #[.slice fa (t.nd (a:Int)).kids.length fc,.slice ta (t.nd (a:Int)).kids.length tc,intV 0]/\Strs W fa fc ((t.nd (a:Int)).kids.map fun k=>(t.nd k).text)/\Strs W ta tc ((t.nd (a:Int)).kids.map (ofK (tysP t t.nodes.length))):=hP 5 (by kernel_rfl);generalize x 5=y4 at *;subst h4;exact⟨intV 0,W,(by(go_simp;try rfl)),hJ,brf,rfl⟩)
    simp only[N.pz];refine N.WalkM.dep ?sG2_9 ?rG2_9;case sG2_9=>exact N.StepS.runs rfl (fun W hJ hP=>by obtain⟨fa,fc,h4,h5⟩:∃fa fc,x 6=.slice fa (t.nd (a:Int)).kids.length fc/\Strs W fa fc ((t.nd (a:Int)).kids.map fun k=>(t.nd k).text):=hP 6 (by kernel_rfl);generalize x 6=y4 at *;subst h4;exact⟨.slice fa (t.nd (a:Int)).kids.length fc,W,(by(go_simp;try rfl)),hJ,brf,fa,fc,rfl,h5⟩)
    simp only[N.pz];refine N.WalkM.dep ?sG2_10 ?rG2_10;case sG2_10=>exact N.StepS.runs rfl (fun W hJ hP=>by obtain⟨fa,fc,h4,h5⟩:∃fa fc,x 7=.slice fa (t.nd (a:Int)).kids.length fc/\Strs W fa fc ((t.nd (a:Int)).kids.map (ofK (tysP t t.nodes.length))):=hP 7 (by kernel_rfl);generalize x 7=y4 at *;subst h4;exact⟨.slice fa (t.nd (a:Int)).kids.length fc,W,(by(go_simp;try rfl)),hJ,brf,fa,fc,rfl,h5⟩)
    simp only[N.pz];refine N.WalkM.nil fun W hJ hH=>?_;have h8:x 8=intV 0:=hH 8;obtain⟨fa,fc,h9,hQ⟩:∃fa fc,x 9=.slice fa (t.nd (a:Int)).kids.length fc/\Strs W fa fc ((t.nd (a:Int)).kids.map fun k=>(t.nd k).text):=hH 9;obtain⟨ta,tc,hE,hR⟩:∃fa fc,x 10=.slice fa (t.nd (a:Int)).kids.length fc/\Strs W fa fc ((t.nd (a:Int)).kids.map (ofK (tysP t t.nodes.length))):=hH 10;generalize x 8=y8 at *;generalize x 9=y9 at *;generalize x 10=y10 at *;subst h8 h9 hE;generalize x 1=y1 at *;generalize x 4=y4 at *;generalize x 5=y5 at *;generalize x 6=y6 at *;generalize x 7=y7 at *;rename World=>X4
    have Hu:Hid (LiW w X4 tb nb ⟨some ⟨b,o,none⟩,nc,some ⟨bi,oi,none⟩,ic⟩ t a ka kc fa fc ta tc):=Hd ⟨Hg.o.step hJ,Hl.o.step hJ,hQ,hR⟩;clear hJ hH hQ hR c0 c1 hd e0 e1 e3 hh Hg Hl;simp only[List.drop_succ_cons,List.drop_zero];have e3:=Hu.o.nd.e3;have hL:=Hb.o.one;have hz1:((t.nd (a:Int)).kids.length==0)=false:=beq_false_of_ne (by omega);have hz2:(((t.nd (a:Int)).kids.length:Int)==0)=false:=beq_false_of_ne (by omega);have hz3:decide (((t.nd (a:Int)).kids.length:Int)=0)=false:=decide_eq_false (by omega)
    have hz4:((t.nd (a:Int)).kids==[])=false:=by
     cases h:(t.nd (a:Int)).kids with
     |nil=>rw[h]at hL;simp at hL
     |cons x l=>rfl
    go_upto_region 16 with fail
    clear hz1 hz2 hz3 hz4 e3 k2;have hcl:=Hb.o.len;have hsm:=Hb.o.sum;have Hq:=Hd hcl;clear hcl
    go_loopw [17,18] (fun t17 t18 wq=>∃j:Nat,j<=(t.nd (a:Int)).kids.length/\t17=.int .i64 (cs.take j).sum/\t18=.int .i64 j/\Hid (LiW w wq tb nb ⟨some ⟨b,o,none⟩,nc,some ⟨bi,oi,none⟩,ic⟩ t a ka kc fa fc ta tc)) (fun _ t18 _=>(t.nd (a:Int)).kids.length-(intOf t18).toNat)
    case atStart=>exact⟨0,Nat.zero_le _,rfl,rfl,Hu⟩
    case round=>
     obtain⟨j,hj,rfl,rfl,HL⟩:=hrel;clear Hu;have hF:=SR (cs:=cs) (fun i hi=>(Hb.o.cell i (by have:=Hq.o;omega) hi).1) j;by_cases hjl:j<(t.nd (a:Int)).kids.length
     .have hY:j<cs.length:=by have:=Hq.o;omega
      obtain⟨q,hq,hqa⟩:=aN Ho.o hp (List.getElem_mem hjl);have hqn:q<t.nodes.length:=by omega
      obtain⟨c,hc⟩:∃c,cs[j]=c:=⟨_,rfl⟩
      obtain⟨A,hA⟩:∃A,(cs.take j).sum=A:=⟨_,rfl⟩
      have hl:=Hb.o.cell j hjl hY;have hM:=Hb.o.place j hjl hY;have hsn:(cs.take (j+1)).sum=A+c:=by rw[List.take_succ_eq_append_getElem hY,List.sum_append,hA,hc];simp
      have hG:=SR (cs:=cs) (fun i hi=>(Hb.o.cell i (by have:=Hq.o;omega) hi).1) (j+1);rw[hsn]at hG;rw[hA]at hF hM;rw[hc]at hl hM;rw[hq]at hl hM;rw[hA];obtain⟨hc1,hl⟩:=hl;have Hy:=Hd hl;have HB:=Hd hM;have HE:=Hd hsn;obtain⟨bf,of,ef,hu,hB⟩:=Strs.at HL.o.nm (i:=j) (by simpa using hjl);obtain⟨bt,ot,et,hbt,hct⟩:=Strs.at HL.o.ty (i:=j) (by simpa using hjl);subst ef et;rw[List.getElem_map,hq]at hB hct;obtain⟨bk,ok,ek,hv,hC⟩:=Ints.at HL.o.nd.kids hjl;subst ek;rw[hq]at hC;obtain⟨b',o',ka',kc',ea,hb,-,m1,-,-,-,-⟩:=HL.o.kn.tree.nodes.at hqn;simp only[Option.some.injEq,Addr.mk.injEq,and_true]at ea;obtain⟨rfl,rfl⟩:=ea;have hK:=t.nd_at hqn;rw[<-hK]at m1;clear hK;have hsh:=oC Ha.o Hf.o.1 (q:Int)
      have hnx:Hid ((t.nd (q:Int)).text.length<=1000000):=Hd (by
       have h1:=Ho.o.kidOk hp hjl;rw[Hz.o,hq]at h1;have k34:(t.nd (q:Int)).kind=34:=by simpa[kidK]using h1
       have h2:=(Ho.o.ok hqn).2.1;rw[k34]at h2;have:=kJ h2.symm
       omega)
      have HD:=Hd hsh;clear hc hA hl hM hsn hq hqa hsh;have c0:=HL.o.kn.c0;have c1:=HL.o.kn.c1;have hd:=World.block_lt_of_cell? wr _ c0;have e1:=HL.o.nd.e1;have e3:=HL.o.nd.e3;have hh:=World.block_lt_of_cell? wr _ e1;simp only at c0 c1 hd hh
      go_upto_region 18 with fail
      refine N.region_M 11 hI (by kernel_rfl) (by kernel_rfl) rfl (by kernel_rfl) (by kernel_rfl) (fun _ _=>False) N.Pans.no (fun Wz=>Below (wr).heap.size (wr) Wz) (fun Wy Wz=>Below Wy.heap.size Wy Wz) (brf.drew) [.fix ?vG3_0,.dep [] (OwR t),.fix ?vG3_2,.fix ?vG3_3,.fix ?vG3_4,.fix ?vG3_5,.dep [1] (fun _ v _=>v=.tuple #[intV c,intV 0]),.dep [6] (fun _ v _=>v=.tuple #[intV c,intV 0]),.dep [7] (fun _ v _=>v=intV c),.dep [7] (fun _ v _=>v=intV 0),.dep [8] (fun _ v _=>v=intV c)] [[],[],[],[],[],[],[1],[6],[7],[7],[8]] rfl (by kernel_rfl) (N.sts_kd ⟨trivial,(fun _ _ _ _ k h=>h.st k),trivial,trivial,trivial,trivial,(fun _ _ _ _ _ h=>h),(fun _ _ _ _ _ h=>h),(fun _ _ _ _ _ h=>h),(fun _ _ _ _ _ h=>h),(fun _ _ _ _ _ h=>h),trivial⟩) fun x=>?_;rotate_left 5;refine N.WalkM.fix ?_ ?_;refine N.StepS.known rfl (fun _=>brf) ?_;intro W hJ hP;obtain⟨he,hf⟩:=bcell hJ;go_simp;rfl;simp only[N.pz];refine N.WalkM.dep ?sG3_1 ?rG3_1;case sG3_1=>(refine N.StepS.call' (f:=10) (args:=#[TreeV.val ⟨some ⟨b,o,none⟩,nc,some ⟨bi,oi,none⟩,ic⟩ t]) rfl ?_ ?_;(intro W hJ hP;obtain⟨he,hf⟩:=bcell hJ;(go_simp;try rfl));(intro W hJ hP;exact zk _ t Ha.o hJ ((HL.o.step hJ).kn).tree))
      simp only[N.pz]
      iterate 4 (refine N.WalkM.fix ?_ ?_;refine N.StepS.known rfl (fun _=>brf) ?_;intro W hJ hP;obtain⟨he,hf⟩:=bcell hJ;go_simp;rfl;simp only[N.pz])
      refine N.WalkM.dep ?sG3_6 ?rG3_6;case sG3_6=>(refine N.StepS.call' (f:=9) (args:=#[x 1,strV (ofK (tysP t t.nodes.length) (q:Int))]) rfl ?_ ?_;(intro W hJ hP;obtain⟨he,hf⟩:=bcell hJ;(go_simp;try rfl));(intro W hJ hP;obtain⟨u1,h1,hy⟩:OwR t [] (x 1) W:=hP 1 (by kernel_rfl);rw[h1];refine(fN u1 t (ofK (tysP t t.nodes.length) (q:Int)) W Ha.o Hn.o (HG.o _ (HL.o.step hJ).kn.base) hy HD.o).mono ?_;rintro e w' hr;obtain⟨rfl,hb⟩:=RetCells.of hr Hf.o Hy.o;exact⟨_,rfl,hJ.trans (hb.mono hJ.size),hb,rfl⟩))
      simp only[N.pz];refine N.WalkM.dep ?sG3_7 ?rG3_7;case sG3_7=>exact N.StepS.runs rfl (fun W hJ hP=>by have h4:x 6=.tuple #[intV c,intV 0]:=hP 6 (by kernel_rfl);generalize x 6=y4 at *;subst h4;exact⟨_,W,(by(go_simp;try rfl)),hJ,brf,rfl⟩)
      simp only[N.pz];refine N.WalkM.dep ?sG3_8 ?rG3_8;case sG3_8=>exact N.StepS.runs rfl (fun W hJ hP=>by have h4:x 7=.tuple #[intV c,intV 0]:=hP 7 (by kernel_rfl);generalize x 7=y4 at *;subst h4;exact⟨_,W,(by(go_simp;try rfl)),hJ,brf,rfl⟩)
      simp only[N.pz];refine N.WalkM.dep ?sG3_9 ?rG3_9;case sG3_9=>exact N.StepS.runs rfl (fun W hJ hP=>by have h4:x 7=.tuple #[intV c,intV 0]:=hP 7 (by kernel_rfl);generalize x 7=y4 at *;subst h4;exact⟨_,W,(by(go_simp;try rfl)),hJ,brf,rfl⟩)
      simp only[N.pz];refine N.WalkM.dep ?sG3_10 ?rG3_10;case sG3_10=>exact N.StepS.runs rfl (fun W hJ hP=>by have h4:x 8=intV c:=hP 8 (by kernel_rfl);generalize x 8=y4 at *;subst h4;exact⟨_,W,(by(go_simp;try rfl)),hJ,brf,rfl⟩)
      simp only[N.pz];refine N.WalkM.nil fun W hJ hH=>?_;have h6:x 6=.tuple #[intV c,intV 0]:=hH 6;have h7:x 7=.tuple #[intV c,intV 0]:=hH 7;have h8:x 8=intV c:=hH 8;have h9:x 9=intV 0:=hH 9;have hE:x 10=intV c:=hH 10;generalize x 1=y1 at *;generalize x 6=y6 at *;generalize x 7=y7 at *;generalize x 8=y8 at *;generalize x 9=y9 at *;generalize x 10=y10 at *;subst h6 h7 h8 h9 hE;rename World=>X5
      have Hc:=Hd (HL.o.step hJ);have hB:=(hJ.cell (p:=⟨bf,of+j,none⟩) hu).trans hB;have hC:=(hJ.cell (p:=⟨bk,ok+j,none⟩) hv).trans hC;have m1:=(hJ.cell (p:=⟨b,o+q*5+1,none⟩) hb).trans m1;have hu:=Nat.lt_of_lt_of_le hu hJ.size;have hv:=Nat.lt_of_lt_of_le hv hJ.size;have hb:=Nat.lt_of_lt_of_le hb hJ.size;clear hJ hH c0 c1 hd e1 e3 hh HL hct hbt;have c0:=Hc.o.kn.c0;have c1:=Hc.o.kn.c1;have hd:=World.block_lt_of_cell? X5 _ c0;have e1:=Hc.o.nd.e1;have e3:=Hc.o.nd.e3;have hh:=World.block_lt_of_cell? X5 _ e1;simp only at c0 c1 hd hh;simp only[List.drop_succ_cons,List.drop_zero]
      go_upto_region 19 with fail
      refine N.region_M 15 hI (by kernel_rfl) (by kernel_rfl) rfl (by kernel_rfl) (by kernel_rfl) (fun _ _=>False) N.Pans.no (fun Wz=>Below (X5).heap.size (X5) Wz) (fun Wy Wz=>Below Wy.heap.size Wy Wz) (brf.drew) [.fix ?vG4_0,.dep [] (OwR t),.fix ?vG4_2,.fix ?vG4_3,.fix ?vG4_4,.fix ?vG4_5,.fix ?vG4_6,.fix ?vG4_7,.dep [1] (fun _ v _=>v=.tuple #[intV A,intV c,intV 0]),.dep [8] (fun _ v _=>v=.tuple #[intV A,intV c,intV 0]),.dep [9] (fun _ v _=>v=intV A),.dep [9] (fun _ v _=>v=intV c),.dep [9] (fun _ v _=>v=intV 0),.dep [10] (fun _ v _=>v=intV A),.dep [11] (fun _ v _=>v=intV c)] [[],[],[],[],[],[],[],[],[1],[8],[9],[9],[9],[10],[11]] rfl (by kernel_rfl) (N.sts_kd ⟨trivial,(fun _ _ _ _ k h=>h.st k),trivial,trivial,trivial,trivial,trivial,trivial,(fun _ _ _ _ _ h=>h),(fun _ _ _ _ _ h=>h),(fun _ _ _ _ _ h=>h),(fun _ _ _ _ _ h=>h),(fun _ _ _ _ _ h=>h),(fun _ _ _ _ _ h=>h),(fun _ _ _ _ _ h=>h),trivial⟩) fun x=>?_;rotate_left 7;refine N.WalkM.fix ?_ ?_;refine N.StepS.known rfl (fun _=>brf) ?_;intro W hJ hP;obtain⟨he,hf⟩:=bcell hJ;go_simp;rfl;simp only[N.pz];refine N.WalkM.dep ?sG4_1 ?rG4_1;case sG4_1=>(refine N.StepS.call' (f:=10) (args:=#[TreeV.val ⟨some ⟨b,o,none⟩,nc,some ⟨bi,oi,none⟩,ic⟩ t]) rfl ?_ ?_;(intro W hJ hP;obtain⟨he,hf⟩:=bcell hJ;(go_simp;try rfl));(intro W hJ hP;exact zk _ t Ha.o hJ ((Hc.o.step hJ).kn).tree))
      simp only[N.pz]
      iterate 6 (refine N.WalkM.fix ?_ ?_;refine N.StepS.known rfl (fun _=>brf) ?_;intro W hJ hP;obtain⟨he,hf⟩:=bcell hJ;go_simp;rfl;simp only[N.pz])
      refine N.WalkM.dep ?sG4_8 ?rG4_8;case sG4_8=>(refine N.StepS.call' (f:=14) (args:=#[x 1,strV (t.nd (a:Int)).text,strV (t.nd (q:Int)).text]) rfl ?_ ?_;(intro W hJ hP;obtain⟨he,hf⟩:=bcell hJ;(go_simp;try rfl));(intro W hJ hP;obtain⟨u1,h1,hy⟩:OwR t [] (x 1) W:=hP 1 (by kernel_rfl);rw[h1];refine(oW u1 t (t.nd (a:Int)).text (t.nd (q:Int)).text W Ha.o Hn.o (HG.o _ (Hc.o.step hJ).kn.base) hy (by have:=hT.out;omega) hnx.out).mono ?_;rintro e w' hr;obtain⟨rfl,hb⟩:=RetPlace.of hr Hf.o HB.o;exact⟨_,rfl,hJ.trans (hb.mono hJ.size),hb,rfl⟩))
      simp only[N.pz];refine N.WalkM.dep ?sG4_9 ?rG4_9;case sG4_9=>exact N.StepS.runs rfl (fun W hJ hP=>by have h4:x 8=.tuple #[intV A,intV c,intV 0]:=hP 8 (by kernel_rfl);generalize x 8=y4 at *;subst h4;exact⟨_,W,(by(go_simp;try rfl)),hJ,brf,rfl⟩)
      simp only[N.pz];refine N.WalkM.dep ?sG4_10 ?rG4_10;case sG4_10=>exact N.StepS.runs rfl (fun W hJ hP=>by have h4:x 9=.tuple #[intV A,intV c,intV 0]:=hP 9 (by kernel_rfl);generalize x 9=y4 at *;subst h4;exact⟨_,W,(by(go_simp;try rfl)),hJ,brf,rfl⟩)
      simp only[N.pz];refine N.WalkM.dep ?sG4_11 ?rG4_11;case sG4_11=>exact N.StepS.runs rfl (fun W hJ hP=>by have h4:x 9=.tuple #[intV A,intV c,intV 0]:=hP 9 (by kernel_rfl);generalize x 9=y4 at *;subst h4;exact⟨_,W,(by(go_simp;try rfl)),hJ,brf,rfl⟩)
      simp only[N.pz];refine N.WalkM.dep ?sG4_12 ?rG4_12;case sG4_12=>exact N.StepS.runs rfl (fun W hJ hP=>by have h4:x 9=.tuple #[intV A,intV c,intV 0]:=hP 9 (by kernel_rfl);generalize x 9=y4 at *;subst h4;exact⟨_,W,(by(go_simp;try rfl)),hJ,brf,rfl⟩)
      simp only[N.pz];refine N.WalkM.dep ?sG4_13 ?rG4_13;case sG4_13=>exact N.StepS.runs rfl (fun W hJ hP=>by have h4:x 10=intV A:=hP 10 (by kernel_rfl);generalize x 10=y4 at *;subst h4;exact⟨_,W,(by(go_simp;try rfl)),hJ,brf,rfl⟩)
      simp only[N.pz];refine N.WalkM.dep ?sG4_14 ?rG4_14;case sG4_14=>exact N.StepS.runs rfl (fun W hJ hP=>by have h4:x 11=intV c:=hP 11 (by kernel_rfl);generalize x 11=y4 at *;subst h4;exact⟨_,W,(by(go_simp;try rfl)),hJ,brf,rfl⟩)
      simp only[N.pz];refine N.WalkM.nil fun W hJ hH=>?_;have h8:x 8=.tuple #[intV A,intV c,intV 0]:=hH 8;have h9:x 9=.tuple #[intV A,intV c,intV 0]:=hH 9;have hE:x 10=intV A:=hH 10;have h11:x 11=intV c:=hH 11;have h12:x 12=intV 0:=hH 12;have h13:x 13=intV A:=hH 13;have h14:x 14=intV c:=hH 14;generalize x 1=y1 at *;generalize x 8=y8 at *;generalize x 9=y9 at *;generalize x 10=y10 at *;generalize x 11=y11 at *;generalize x 12=y12 at *;generalize x 13=y13 at *;generalize x 14=y14 at *;subst h8 h9 hE h11 h12 h13 h14;rename World=>X6
      have Hh:=Hd (Hc.o.step hJ);have hB:=(hJ.cell (p:=⟨bf,of+j,none⟩) hu).trans hB;have hC:=(hJ.cell (p:=⟨bk,ok+j,none⟩) hv).trans hC;have m1:=(hJ.cell (p:=⟨b,o+q*5+1,none⟩) hb).trans m1;have hu:=Nat.lt_of_lt_of_le hu hJ.size;have hv:=Nat.lt_of_lt_of_le hv hJ.size;have hb:=Nat.lt_of_lt_of_le hb hJ.size;clear hJ hH c0 c1 hd e1 e3 hh Hc;have c0:=Hh.o.kn.c0;have c1:=Hh.o.kn.c1;have hd:=World.block_lt_of_cell? X6 _ c0;have e1:=Hh.o.nd.e1;have e3:=Hh.o.nd.e3;have hh:=World.block_lt_of_cell? X6 _ e1;simp only at c0 c1 hd hh;simp only[List.drop_succ_cons,List.drop_zero];have hc2:decide (c<1)=false:=decide_eq_false (by omega)
      go_upto_region 20 with fail
      refine N.region_J hI (by kernel_rfl) (by kernel_rfl) (fun Wz=>Below (X6).heap.size (X6) Wz) (brf.drew) ?_
      iterate 37 (refine N.Walk.cons ?_ (N.StepP.pure rfl ?_) ?_;rotate_left;(intro W hJ;obtain⟨he,hf⟩:=bcell hJ;go_simp;rfl);simp only[N.pz])
      refine N.Walk.nil fun W hJ=>?_;rename World=>X7
      have HA:=Hd (Hh.o.step hJ);clear hJ c0 c1 hd e1 e3 hh Hh hB hC m1 hb hu hv;go_wp2
      go_roundw
      case rel=>exact⟨j+1,by omega,by rw[HE.o],by go_num,HA⟩
      case measure=>simp[intOf];omega
     .have hjn:j=(t.nd (a:Int)).kids.length:=by omega
      have hts:(cs.take j).sum=cs.sum:=by rw[List.take_of_length_le (by have:=Hq.o;omega)]
      rw[hts];have hpos:=Hb.o.pos;obtain⟨S,hS⟩:∃S,cs.sum=S:=⟨_,rfl⟩
      obtain⟨h0,hl2⟩:=Hb.o.list m hm1 hm6;rw[hS]at hsm hpos h0|-;have Hs:=Hd h0;have Ht:=Hd hl2;have htl:=hT.out;obtain⟨tx,hz⟩:∃tx,(t.nd (a:Int)).text=tx:=⟨_,rfl⟩
      have e1:=HL.o.nd.e1;rw[hz]at e1 htl Hs Ht;have HH:=Hd hz;clear hts hS h0 hl2 hF hjn hz;have hW:=TD (m:=m) (by omega);obtain⟨dg,hx⟩:∃dg,UInt8.ofNat (48+m)=dg:=⟨_,rfl⟩
      obtain⟨lt,ho⟩:∃lt,(91::(tx++[59,32,dg,93]))=lt:=⟨_,rfl⟩
      have hll:bC tx m=lt:=by rw[dT tx (by omega),hx,ho]
      rw[hx]at hW;rw[hll]at Hs Ht;have hle:Hid (lt.length<=100):=Hd (by rw[<-ho];simp;omega);have hcv:=SZ wr (d:=dg) (x:=48+(m:Int)) hW.symm
      have hmS:0<=(m:Int)*S/\(m:Int)*S<=48:=by
       refine⟨Int.mul_nonneg (by omega) (by omega),?_⟩
       calc (m:Int)*S<=6*S:=Int.mul_le_mul_of_nonneg_right (by omega) (by omega)
        _<=48:=by omega
      have hw:IntKind.i64.wrap ((m:Int)*S)=(m:Int)*S:=IntWalk.i64_in _ (by omega);have Hv:=Hd ho;clear hx hll hmS ho hW
      go_upto_region 24 with fail
      rw[Hv.o];obtain⟨X8,hV⟩:∃X,wr.alloc (.cells #[.int .u8 (48+(m:Int))] 5)=X:=⟨_,rfl⟩
      have Hp:Hid (LiW w X8 tb nb ⟨some ⟨b,o,none⟩,nc,some ⟨bi,oi,none⟩,ic⟩ t a ka kc fa fc ta tc):=Hd (by rw[<-hV];exact HL.o.step ((Below.refl _ wr).alloc nlr _));rw[hV];clear hV hcv e1 HL;have c0:=Hp.o.kn.c0;have c1:=Hp.o.kn.c1;simp only at c0 c1
      go_upto_region 26 with(first
       | (go_at_call 11
          refine(iZ lt _ (HG.o _ Hj.o.kn.base) (by have:=hle.out;omega)).mono ?_;rw[Ht.o];rintro e w11⟨rfl,hb⟩;have Hk:=Hd (Hj.o.step hb)
          clear hb)
       | (go_at_call 9
          refine(fN ⟨ma,mc,ja,jc⟩ t lt _ Ha.o Hn.o (HG.o _ Hx.o.kn.base) HF.o (by have:=hle.out;omega)).mono ?_;rintro e w10 hr;obtain⟨rfl,hb⟩:=RetCells.of hr Hf.o Hs.o;have Hj:=Hd (Hx.o.step hb)
          clear hb hr)
       | (go_at_call 10
          refine(fZ ⟨some ⟨b,o,none⟩,nc,some ⟨bi,oi,none⟩,ic⟩ t _ Ha.o Hp.o.kn.tree).mono ?_;rintro e w9⟨⟨ma,mc,ja,jc⟩,B,ks9,rfl,-,hon,hin,-,hb⟩;unfold TreeV.val;have HF:=Hd (show IsTree w9 ⟨ma,mc,ja,jc⟩ t from⟨hon.nodes,hin⟩);have Hx:=Hd (Hp.o.step hb)
          clear hon hin hb))
      clear c0 c1;have e1:=Hk.o.nd.e1;rw[HH.o]at e1;have hs8:decide (8<S)=false:=decide_eq_false (by omega);go_wp2
      go_roundw
      case rel=>exact⟨k+1,by go_num,by omega,Hd Hk.o.kn⟩
      case measure=>simp[intOf];omega
   .have k2:((t.nd (a:Int)).kind != 41)=true:=by simpa using k41
    clear k41;go_wp2
    go_roundw
    case rel=>exact⟨k+1,by go_num,by omega,He⟩
    case measure=>simp[intOf];omega
  .go_wp2_with (go_at_call 7;refine(jY _ (HG.o _ HK.o.base)).mono ?_;rintro e w2 ⟨rfl,hn⟩;have Hr:=Hd (HK.o.step hn).base;clear hn)
   go_ret;exact⟨rfl,Hr.o⟩
end
end Go.Proofs.YtcdkdiedphhdhaaGreatDoor
