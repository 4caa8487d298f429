/- Part of a proof. -/
import Derived.Test.YtcdkdiedphhdhaaGreatDoorK07
import Derived.Test.YtcdkdiedphhdhaaGreatDoorK37
set_option maxRecDepth 100000
set_option maxHeartbeats 8000000
set_option linter.unusedVariables false
set_option linter.unusedSimpArgs false
open Go.Proofs.Tryz
namespace Go.Proofs.YtcdkdiedphhdhaaGreatDoor
section
open Go Go.RowKit
structure GVK (w:World):Prop where
 gv:GV w
 syn:∃tp p,w.var? prog "strconv.ErrSyntax" = some #[.iface tp p]
 rng:∃tp p,w.var? prog "strconv.ErrRange" = some #[.iface tp p]
theorem DA{w w':World}{name:String}{g:Nat}{cs:Array Value}(hn:prog.globalNamed name=some g)(h:w.var? prog name=some cs){B:Nat}(hb:Below B w w')(hB:w.heap.size<=B):w'.var? prog name=some cs:=by
 unfold World.var? at h|-;rw[hn]at h|-;simp only[Option.bind_some]at h|-
 have ha:g<w.heap.size:=by
  rcases Nat.lt_or_ge g w.heap.size with h' | h'
  .exact h'
  .rw[Array.getElem?_eq_none h']at h;cases h
 rw[hb.block g (by omega)];exact h
theorem GVK.mono{w w':World}{B:Nat}(h:GVK w)(hb:Below B w w')(hB:w.heap.size<=B):GVK w':=by
 obtain⟨h1,⟨t1,p1,h2⟩,⟨t2,p2,h3⟩⟩:=h;exact⟨h1.mono hb hB,⟨t1,p1,DA (g:=1) (by kernel_rfl) h2 hb hB⟩,⟨t2,p2,DA (g:=2) (by kernel_rfl) h3 hb hB⟩⟩
theorem GVK.step{w w':World}(h:GVK w)(hb:Below w.heap.size w w'):GVK w':=h.mono hb nlr
theorem rF(l p:List UInt8)(w:World):Calls prog 46 #[strV l,strV p] w fun e w'=>e=.returned (.tuple #[strV (Lib.trimPrefix l p),.bool (Lib.hasPrefix l p)])/\w'=w:=Tryz.strings_CutPrefix ⟨l.toArray⟩ ⟨p.toArray⟩ w
theorem rG(l p:List UInt8)(w:World)(hl:l.length<=1000000000):Calls prog 47 #[strV l,strV p] w fun e w'=>e=.returned (.tuple #[strV (Lib.trimSuffix l p),.bool (Lib.hasSuffix l p)])/\w'=w:=
 Tryz.strings_CutSuffix ⟨l.toArray⟩ ⟨p.toArray⟩ w (show l.length<=_ by omega)
theorem rH(l p:List UInt8)(w:World)(hl:l.length<=1000000000):Calls prog 48 #[strV l,strV p] w fun e w'=>e=.returned (.int .i64 (Lib.lastIndex l p))/\w'=w:=
 Tryz.strings_LastIndex ⟨l.toArray⟩ ⟨p.toArray⟩ (show l.length<_ by omega) w
theorem pF(n:Nat)(w:World)(h:n<100):Calls prog 50 #[.int .i64 n] w fun e w'=>e=.returned (strV (digN n))/\w'=w:=by
 rw[<-fD];exact Tryz.strconv_Itoa_small n h w
theorem rW{l:List UInt8}{v:Int}(h:Lib.atoiAll l=.ok v) : -9223372036854775808<=v/\v<=9223372036854775807:=by
 unfold Lib.atoiAll at h;split at h
 .cases h
 .rename_i c r
  simp only at h;split at h
  .cases h
  .cases h
  .split at h
   .cases h
   .split at h
    .cases h
    .rename_i h1 h2
     have h3:=(Lib.NumEnd.ok.inj h).symm;by_cases hn:c.toNat=45
     .rw[if_pos hn]at h3
      simp only[hn,true_and]at h2;omega
     .rw[if_neg hn]at h3
      simp only[hn,not_false_eq_true,true_and]at h1;omega
theorem FG(l:List UInt8)(w:World)(hl:l.length<=1000000000)(hg:GVK w):Calls prog 49 #[strV l] w fun e w'=>Below w.heap.size w w'/\((∃v:Int,-9223372036854775808<=v/\v<=9223372036854775807/\e=.returned (.tuple #[.int .i64 v,.nilIface])/\Lib.atoiAll l=.ok v)\/∃(v:Int) (tp:TypeId) (p:Value),e=.returned (.tuple #[.int .i64 v,.iface tp p])/\∀u,Lib.atoiAll l ≠ .ok u):=by
 obtain⟨-,⟨t1,p1,h1⟩,⟨t2,p2,h2⟩⟩:=hg
 cases h:Lib.atoiAll l with
 | ok v=>
   refine(Tryz.strconv_Atoi_ok ⟨l.toArray⟩ (show l.length<=_ by omega) v h w).mono ?_;rintro e w'⟨rfl,hw⟩;refine⟨?_,.inl ⟨v,(rW h).1,(rW h).2,rfl,rfl⟩⟩;rcases hw with rfl|⟨t,rfl⟩
   .exact brf
   .exact Lib.bytesWorld_below _ _ _
 | range=>
   refine(Tryz.strconv_Atoi_range_var ⟨l.toArray⟩ (show l.length<=_ by omega) h t2 p2 w h2).mono ?_;rintro e w'⟨N,rfl,-,-,hb⟩;exact⟨hb,.inr ⟨_,_,_,rfl,fun u=>by simp⟩⟩
 | _=>
   refine(Tryz.strconv_Atoi_syntax_var ⟨l.toArray⟩ (show l.length<=_ by omega) (fun v e=>by rw[h]at e;cases e) (fun e=>by rw[h]at e;cases e) t1 p1 w h1).mono ?_;rintro e w'⟨N,rfl,-,-,hb⟩;exact⟨hb,.inr ⟨_,_,_,rfl,fun u=>by simp⟩⟩
def iH(w:World)(k:List UInt8)(e:Ending)(w':World):Prop:=
 ∃(x:List UInt8) (y:Int),e=.returned (.tuple #[strV x,intV y,.bool (aW k).isSome])/\(∀p,aW k=some p->x=p.1/\y=p.2)/\Below w.heap.size w w'
theorem KV:prog.underlying 9=some .string:=by kernel_rfl
theorem NU(l:List UInt8)(n:Int)(m:Nat)(hn:n=m)(h:m<=l.length)(W:World):(Instr.slice 9 (strV l) (some (.int .i64 n)) none none).run prog W=.ok (strV (l.drop m)) W:=by
 subst hn;unfold strV;rw[run_slice_string_l W _ _ KV .i64 _ (by omega) (show((m:Nat):Int)<=(l.length:Int) by omega),bytes_extract];have:(⟨l.toArray⟩:ByteArray).size=l.length:=rfl;rw[this,List.take_length];simp
theorem RP(l:List UInt8)(m:Nat)(h:m<=l.length)(W:World):(Instr.slice 9 (strV l) none (some (.int .i64 m)) none).run prog W=.ok (strV (l.take m)) W:=by
 unfold strV;rw[run_slice_string_h W _ _ KV .i64 _ (by omega) (show((m:Nat):Int)<=(l.length:Int) by omega),bytes_extract];simp
theorem eL{k:List UInt8}:aW k=(cutK k).bind fun p=>if aX p.1 then some p else none:=by
 unfold aW;cases cutK k<;>rfl
theorem cL{w w':World}{k:List UInt8}(x:List UInt8)(y:Int)(h:aW k=none)(hb:Below w.heap.size w w'):iH w k (.returned (.tuple #[strV x,intV y,.bool false])) w':=
 ⟨x,y,by rw[h];rfl,(fun p hp=>by rw[h]at hp;cases hp),hb⟩
theorem oZ(k:List UInt8)(w:World)(hk:k.length<=1000000000)(hg:GVK w)
 (hT:∀(of:List UInt8) (w':World),of.length<k.length->GVK w'->Calls prog 26 #[strV of] w' (zD w' (aX of))) :
 Calls prog 28 #[strV k] w (iH w k):=by
 have hj:prog.follows .mixedOrders=true:=by kernel_rfl
 have HG:=Hd hg;have HT:=Hd hT;have HP:=Hd (RM k);obtain⟨i1,h1⟩:∃i,Lib.trimPrefix k [91]=i:=⟨_,rfl⟩
 obtain⟨b1,g1⟩:∃i,Lib.hasPrefix k [91]=i:=⟨_,rfl⟩
 have hy:i1.length<=k.length:=by rw[<-h1];unfold Lib.trimPrefix;split<;>simp
 have HS:=Hd (RQ i1);obtain⟨i2,h2⟩:∃i,Lib.trimSuffix i1 [93]=i:=⟨_,rfl⟩
 obtain⟨b2,g2⟩:∃i,Lib.hasSuffix i1 [93]=i:=⟨_,rfl⟩
 have hz:i2.length<=i1.length:=by rw[<-h2];unfold Lib.trimSuffix;split<;>simp
 obtain⟨a,g3⟩:∃i,Lib.lastIndex i2 [59,32]=i:=⟨_,rfl⟩
 have H1:=Hd h1;have H2:=Hd h2;have G1:=Hd g1;have G2:=Hd g2;have G3:=Hd g3;clear hg hT h1 h2 g1 g2 g3;go_enter func28,ntmps28
 go_upto_region 4 with(first
  | (go_at_call 46;refine(rF k [91] _).mono ?_;rw[H1.o,G1.out];rintro e w' ⟨rfl,rfl⟩)
  | (go_at_call 47;refine(rG i1 [93] _ (by omega)).mono ?_;rw[H2.o,G2.out];rintro e w' ⟨rfl,rfl⟩)
  | (go_at_call 48;refine(rH i2 [59,32] _ (by omega)).mono ?_;rw[G3.out];rintro e w' ⟨rfl,rfl⟩))
 cases b1 with
 | false=>
   have HN:Hid (aW k=none):=Hd (by
    rcases HP.o with⟨_,_,_,h⟩|⟨_,h⟩
    .rw[G1.out]at h;cases h
    .rw[eL,h];rfl)
   go_wp2;refine bodyPost_ret (v:=.tuple #[strV [],intV 0,.bool false]) (by simp[results,results28,go_sem]) rfl ?_;exact cL _ _ HN.o brf
 | true=>
   have HK:Hid (k=91::i1):=Hd (by
    rcases HP.o with⟨r,h,h',_⟩|⟨h,_⟩
    .rw[H1.o]at h';rw[h,h']
    .rw[G1.out]at h;cases h)
   cases b2 with
   | false=>
     have HN:Hid (aW k=none):=Hd (by
      rcases HS.o with⟨_,_,_,h⟩|⟨_,h⟩
      .rw[G2.out]at h;cases h
      .rw[eL]
       cases hc:cutK k with
       |none=>rfl
       | some p=>
         obtain⟨j1,j2,q1,q2,_⟩:=yQ (of:=p.1) (n:=p.2) hc;rw[HK.o]at q1
         exact absurd ((List.cons.inj q1).2.trans q2) (h j2))
     go_wp2;refine bodyPost_ret (v:=.tuple #[strV [],intV 0,.bool false]) (by simp[results,results28,go_sem]) rfl ?_;exact cL _ _ HN.o brf
   | true=>
     have HI:Hid (i1=i2++[93]):=Hd (by
      rcases HS.o with⟨r,h,h',_⟩|⟨h,_⟩
      .rw[H2.o]at h';rw[h,h']
      .rw[G2.out]at h;cases h)
     by_cases ha:a<0
     .have HN:Hid (aW k=none):=Hd (by
       rw[eL]
       cases hc:cutK k with
       |none=>rfl
       | some p=>
         obtain⟨j1,j2,q1,q2,q3,q4,_⟩:=yQ (of:=p.1) (n:=p.2) hc;rw[HK.o]at q1;have e1:=(List.cons.inj q1).2.trans q2;rw[HI.o]at e1;have e2:=List.append_cancel_right e1;rw[<-e2,G3.out]at q4
         omega)
      go_wp2;refine bodyPost_ret (v:=.tuple #[strV [],intV 0,.bool false]) (by simp[results,results28,go_sem]) rfl ?_;exact cL _ _ HN.o brf
     .obtain⟨of,rest,hs,hn⟩:=PZ G3.out (by omega)
      have hh:=IE hs (G3.out.trans hn);rw[<-HI.o,<-HK.o]at hh;subst hn
      have hr:i2.drop (of.length+2)=rest:=by
       rw[hs,<-List.drop_drop,List.drop_left];rfl
      have hv:i2.take of.length=of:=by rw[hs,List.take_left]
      have hi:i2.length=of.length+2+rest.length:=by rw[hs];simp;omega
      have hA:rest.length<=1000000000:=by omega
      have hx:of.length<k.length:=by rw[HK.o];simp;omega
      have hm:=NU i2 ((of.length:Int)+2) (of.length+2) (by omega) (by omega);have hl:=RP i2 of.length (by omega);rw[hr]at hm;rw[hv]at hl;have hD:IntKind.i64.wrap ((of.length:Int)+2)=(of.length:Int)+2:=IntWalk.i64_in _ (by omega);have HC:=Hd hh;have HL:=Hd hi;clear hs hh ha hr hv hi;have Hb:Hid (cF rest=none->aW k=none):=Hd fun h=>by rw[eL,HC.o,h];rfl
      go_upto_region 8 with(first
       | (go_at_call 49;refine(FG rest _ (by omega) HG.o).mono ?_;rintro e w1 ⟨ho,⟨v,hB,hC,rfl,hu⟩|⟨v,tp,pv,rfl,ht⟩⟩<;>have Ha:=Hd ho<;>clear ho))
      .have Hc:=Hd hu
       clear hu hl;by_cases hv3:1<=v
       .by_cases hv4:v<=6
        .obtain⟨n,rfl⟩:=Int.eq_ofNat_of_zero_le (show 0<=v by omega)
         have g1:decide (1<=(n:Int))=true:=by simpa using hv3
         have g2:decide ((n:Int)<=6)=true:=by simpa using hv4
         cases hq:(digN n==rest)with
         | false=>
           have HN:Hid (aW k=none):=Hd (Hb.o (by
            cases hd:cF rest with
            |none=>rfl
            | some m=>
              have:=kF hd;rw[Hc.o]at this;have e:m=n:=by have:=Lib.NumEnd.ok.inj this;omega
              subst e;have h7:=(BO (by omega) (by omega)).1 hd;rw[fD]at h7;rw[h7]at hq
              simp at hq))
           refine N.region_J hj (by kernel_rfl) (by kernel_rfl) (fun Wz=>Below (w1).heap.size (w1) Wz) (brf.drew) ?_
           iterate 14 (refine N.Walk.cons ?_ (N.StepP.pure rfl ?_) ?_;rotate_left;(intro W hJ;obtain⟨he,hf⟩:=bcell hJ;go_simp;rfl);simp only[N.pz])
           refine N.Walk.cons (strV (digN n)) (N.StepP.call (f:=50) (args:=#[.int .i64 n]) rfl ?hG1_14 ?cG1_14) ?rG1_14;case hG1_14=>intro W hJ;obtain⟨he,hf⟩:=bcell hJ;go_simp;try rfl
           case cG1_14=>intro W hJ;(refine(pF n W (by omega)).mono ?_;rintro e w' ⟨rfl,rfl⟩;exact⟨rfl,hJ⟩)
           simp only[N.pz]
           iterate 13 ((first|(refine N.Walk.cons undef (N.StepP.skip rfl) ?_)|(refine N.Walk.cons ?_ (N.StepP.pure rfl ?_) ?_;rotate_left;(intro W hJ;obtain⟨he,hf⟩:=bcell hJ;go_simp;rfl)));simp only[N.pz])
           refine N.Walk.nil fun W hJ=>?_;go_wp2;refine bodyPost_ret (v:=.tuple #[strV of,intV n,.bool false]) (by simp[results,results28,go_sem]) rfl ?_;exact cL _ _ HN.o (Ha.o.trans (hJ.mono Ha.o.size))
         | true=>
           have hd:cF rest=some n:=(BO (by omega) (by omega)).2 (by rw[fD];simpa using hq);obtain⟨b,hb⟩:∃b,aX of=b:=⟨_,rfl⟩
           have HE:Hid (aW k=if b then some (of,n)else none):=Hd (by rw[eL,HC.o,hd,<-hb];rfl);have He:=Hd hb;clear hb hd;refine N.region_J hj (by kernel_rfl) (by kernel_rfl) (fun Wz=>Below (w1).heap.size (w1) Wz) (brf.drew) ?_
           iterate 14 (refine N.Walk.cons ?_ (N.StepP.pure rfl ?_) ?_;rotate_left;(intro W hJ;obtain⟨he,hf⟩:=bcell hJ;go_simp;rfl);simp only[N.pz])
           refine N.Walk.cons (strV (digN n)) (N.StepP.call (f:=50) (args:=#[.int .i64 n]) rfl ?hG2_14 ?cG2_14) ?rG2_14;case hG2_14=>intro W hJ;obtain⟨he,hf⟩:=bcell hJ;go_simp;try rfl
           case cG2_14=>intro W hJ;(refine(pF n W (by omega)).mono ?_;rintro e w' ⟨rfl,rfl⟩;exact⟨rfl,hJ⟩)
           simp only[N.pz]
           iterate 8 (refine N.Walk.cons ?_ (N.StepP.pure rfl ?_) ?_;rotate_left;(intro W hJ;obtain⟨he,hf⟩:=bcell hJ;go_simp;rfl);simp only[N.pz])
           refine N.Walk.cons (.bool b) (N.StepP.call (f:=26) (args:=#[strV of]) rfl ?hG2_23 ?cG2_23) ?rG2_23;case hG2_23=>intro W hJ;obtain⟨he,hf⟩:=bcell hJ;go_simp;try rfl
           case cG2_23=>intro W hJ;(refine(HT.o of W hx ((HG.o.step Ha.o).step hJ)).mono ?_;rw[He.o];rintro e w' ⟨rfl,hw⟩;exact⟨rfl,hJ.trans (hw.mono hJ.size)⟩)
           simp only[N.pz]
           iterate 4 (refine N.Walk.cons ?_ (N.StepP.pure rfl ?_) ?_;rotate_left;(intro W hJ;obtain⟨he,hf⟩:=bcell hJ;go_simp;rfl);simp only[N.pz])
           refine N.Walk.nil fun W hJ=>?_;have HJ:=Hd (Ha.o.trans (hJ.mono Ha.o.size));go_wp2;refine bodyPost_ret (v:=.tuple #[strV of,intV n,.bool b]) (by simp[results,results28,go_sem]) rfl ?_;exact⟨of,n,by rw[HE.o];cases b<;>rfl,fun p hp=>by rw[HE.o]at hp;cases b<;>cases hp;exact⟨rfl,rfl⟩,HJ.o⟩
        .have g1:decide (1<=v)=true:=by simpa using hv3
         have g2:decide (v<=6)=false:=by simpa using hv4
         have HN:Hid (aW k=none):=Hd (Hb.o (by
          cases hd:cF rest with
          |none=>rfl
          | some m=>
            have h6:=(dW hd).2;have:=kF hd;rw[Hc.o]at this;have:=Lib.NumEnd.ok.inj this
            omega))
         refine N.region_J hj (by kernel_rfl) (by kernel_rfl) (fun Wz=>Below (w1).heap.size (w1) Wz) (brf.drew) ?_
         iterate 28 ((first|(refine N.Walk.cons undef (N.StepP.skip rfl) ?_)|(refine N.Walk.cons ?_ (N.StepP.pure rfl ?_) ?_;rotate_left;(intro W hJ;obtain⟨he,hf⟩:=bcell hJ;go_simp;rfl)));simp only[N.pz])
         refine N.Walk.nil fun W hJ=>?_;go_wp2;refine bodyPost_ret (v:=.tuple #[strV of,intV v,.bool false]) (by simp[results,results28,go_sem]) rfl ?_;exact cL _ _ HN.o (Ha.o.trans (hJ.mono Ha.o.size))
       .have g1:decide (1<=v)=false:=by simpa using hv3
        have HN:Hid (aW k=none):=Hd (Hb.o (by
         cases hd:cF rest with
         |none=>rfl
         | some m=>
           have h6:=(dW hd).2;have:=kF hd;rw[Hc.o]at this;have:=Lib.NumEnd.ok.inj this
           omega))
        refine N.region_J hj (by kernel_rfl) (by kernel_rfl) (fun Wz=>Below (w1).heap.size (w1) Wz) (brf.drew) ?_
        iterate 28 ((first|(refine N.Walk.cons undef (N.StepP.skip rfl) ?_)|(refine N.Walk.cons ?_ (N.StepP.pure rfl ?_) ?_;rotate_left;(intro W hJ;obtain⟨he,hf⟩:=bcell hJ;go_simp;rfl)));simp only[N.pz])
        refine N.Walk.nil fun W hJ=>?_;go_wp2;refine bodyPost_ret (v:=.tuple #[strV of,intV v,.bool false]) (by simp[results,results28,go_sem]) rfl ?_;exact cL _ _ HN.o (Ha.o.trans (hJ.mono Ha.o.size))
      .have HN:Hid (aW k=none):=Hd (Hb.o (by
        cases hd:cF rest with
        |none=>rfl
        |some m=>exact absurd (kF hd) (ht _)))
       clear ht;refine N.region_J hj (by kernel_rfl) (by kernel_rfl) (fun Wz=>Below (w1).heap.size (w1) Wz) (brf.drew) ?_
       iterate 28 ((first|(refine N.Walk.cons undef (N.StepP.skip rfl) ?_)|(refine N.Walk.cons ?_ (N.StepP.pure rfl ?_) ?_;rotate_left;(intro W hJ;obtain⟨he,hf⟩:=bcell hJ;go_simp;rfl)));simp only[N.pz])
       refine N.Walk.nil fun W hJ=>?_;go_wp2;refine bodyPost_ret (v:=.tuple #[strV of,intV v,.bool false]) (by simp[results,results28,go_sem]) rfl ?_;exact cL _ _ HN.o (Ha.o.trans (hJ.mono Ha.o.size))
theorem rP(k:List UInt8)(w:World)(hk:k.length<=1000000000)(hg:GVK w)(hS:∀w':World,GVK w'->Calls prog 28 #[strV k] w' (iH w' k)) :
 Calls prog 26 #[strV k] w (zD w (aX k)):=by
 have HG:=Hd hg;have HS:=Hd hS;have HE:=Hd (fL k);clear hg hS;unfold intT zz at HE;cases hi:(k==[105,110,116])with
 | true=>
   have HR:Hid (aX k=true):=Hd (by rw[HE.o,hi];rfl);go_enter func26,ntmps26;go_wp2;go_ret;exact⟨zc HR.o.symm,brf⟩
 | false=>
   cases hb:(k==[98,111,111,108])with
   | true=>
     have HR:Hid (aX k=true):=Hd (by rw[HE.o,hi,hb];rfl);go_enter func26,ntmps26;go_wp2;go_ret;exact⟨zc HR.o.symm,brf⟩
   | false=>
     obtain⟨q,hq⟩:∃q,zG k=q:=⟨_,rfl⟩
     have HQ:=Hd hq;clear hq
     cases q with
     | true=>
       have HR:Hid (aX k=true):=Hd (by rw[HE.o,hi,hb,HQ.o];rfl);go_enter func26,ntmps26
       go_wp2_with (go_at_call 35;refine(bO k _ hk HG.o.gv).mono ?_;rw[HQ.o];rintro e w1 ⟨rfl,ha⟩;have Ha:=Hd ha;clear ha)
       go_ret;exact⟨zc HR.o.symm,Ha.o⟩
     | false=>
       have HR:Hid (aX k=(aW k).isSome):=Hd (by rw[HE.o,hi,hb,HQ.o];rfl);go_enter func26,ntmps26;have A1:=Hd True.intro
       go_wp2_with (first
        | (have:=A2;clear this;go_at_call 28;refine(HS.o _ (HG.o.step Ha.o)).mono ?_;rintro e w2 ⟨x,y,rfl,-,hc⟩;have Hb:=Hd (Ha.o.trans (hc.mono Ha.o.size));clear hc A2)
        | (have:=A1;clear this;go_at_call 35;refine(bO k _ hk HG.o.gv).mono ?_;rw[HQ.o];rintro e w1 ⟨rfl,ha⟩;have Ha:=Hd ha;clear ha A1;have A2:=Hd True.intro))
       go_ret;exact⟨zc HR.o.symm,Hb.o⟩
theorem oS:∀(n:Nat) (k:List UInt8) (w:World),k.length<=n->n<=1000000000->GVK w ->
 Calls prog 26 #[strV k] w (zD w (aX k))/\Calls prog 28 #[strV k] w (iH w k)
 | 0,k,w,hk,hn,hg=>
   have hs:∀w':World,GVK w'->Calls prog 28 #[strV k] w' (iH w' k):=fun w' hg'=>oZ k w' (by omega) hg' fun of w2 ho _=>absurd ho (by omega)
   ⟨rP k w (by omega) hg hs,hs w hg⟩
 | n+1,k,w,hk,hn,hg=>
   have hs:∀w':World,GVK w'->Calls prog 28 #[strV k] w' (iH w' k):=fun w' hg'=>oZ k w' (by omega) hg' fun of w2 ho hg2=>(oS n of w2 (by omega) (by omega) hg2).1
   ⟨rP k w (by omega) hg hs,hs w hg⟩
theorem uH(k:List UInt8)(w:World)(hk:k.length<=1000000000)(hg:GVK w):Calls prog 26 #[strV k] w (zD w (aX k)):=(oS _ k w nlr hk hg).1
theorem fJ(k:List UInt8)(w:World)(hk:k.length<=1000000000)(hg:GVK w):Calls prog 28 #[strV k] w (iH w k):=(oS _ k w nlr hk hg).2
theorem BM:∀(f n:Nat),(digF f n).length<=f
 |0,_=>nlr
 | f+1,n=>by
   rw[digF];split
   .simp
   .rw[List.length_append]
    have:=BM f (n / 10);simp;omega
theorem lM(of:List UInt8)(n:Nat)(w:World)(ho:of.length<=1000000000)(hn:n<100):Calls prog 68 #[strV of,intV n] w fun e w'=>e=.returned (strV (bC of n))/\w'=w:=by
 have hd:(digN n).length<=1000:=Nat.le_trans (BM _ _) (by omega);go_enter func68,ntmps68
 go_wp2_with (go_at_call 50;refine(pF n _ hn).mono ?_;rintro e w' ⟨rfl,rfl⟩)
 go_ret;exact⟨by simp[bC,strV],rfl⟩
structure RecD (t:Tr) (b:Nat) (D:DataW Unit):Prop where
 map:Maps.IsMap D
 has:∀s,Maps.has D (.string s)=(recT t b s).isSome
 val:∀s,D.atKey (.string s) (.lit (.int .i64 0))=.lit (.int .i64 ((recT t b s).elim 0 fun r=>(r:Int)))
structure bF where
 v:TreeV
 g:Nat
 da:Option Addr
 dc:Nat
 mb:Nat
 oa:Option Addr
 oc:Nat
structure KindP (t:Tr) (L:List (List UInt8)) (b:Nat) (p:bF) (W:World):Prop where
 c0:W.cell? ⟨p.g,0,none⟩=some (.slice p.v.na t.nodes.length p.v.nc)
 c1:W.cell? ⟨p.g,1,none⟩=some (.slice p.v.ia t.items.length p.v.ic)
 c2:W.cell? ⟨p.g,2,none⟩=some (.slice p.da t.nodes.length p.dc)
 c3:W.cell? ⟨p.g,3,none⟩=some (.map (some p.mb))
 c4:W.cell? ⟨p.g,4,none⟩=some (.slice p.oa t.nodes.length p.oc)
 gl:p.g<W.heap.size
 tree:IsTree W p.v t
 decl:Row 1 W p.da t.nodes.length p.dc (zq (zg t t.nodes.length))
 of:Row 1 W p.oa t.nodes.length p.oc (kP L)
 recs:∃n D,OwnS W p.mb n D/\RecD t b D
 gvk:GVK W
theorem mI{W W':World}{b n:Nat}{D:DataW Unit}(h:OwnS W b n D)(hb:Below W.heap.size W W'):OwnS W' b n D:=by
 obtain⟨es,clock,h1,h2⟩:=nG h;exact h2 W' ((hb.block b (Array.getElem?_eq_some_iff.1 h1).1).trans h1)
theorem KindP.step{t:Tr}{L:List (List UInt8)}{b:Nat}{p:bF}{W W':World}(h:KindP t L b p W)(hb:Below W.heap.size W W'):KindP t L b p W':=by
 have hc:=fun i=>hb.cell (p:=⟨p.g,i,none⟩) h.gl;obtain⟨n,D,h1,h2⟩:=h.recs;exact⟨(hc 0).trans h.c0,(hc 1).trans h.c1,(hc 2).trans h.c2,(hc 3).trans h.c3,(hc 4).trans h.c4,Nat.lt_of_lt_of_le h.gl hb.size,h.tree.mono hb nlr,Row.mono h.decl hb nlr,Row.mono h.of hb nlr,⟨n,D,mI h1 hb,h2⟩,h.gvk.step hb⟩
theorem KindP.look{t:Tr}{L:List (List UInt8)}{b:Nat}{p:bF}{W:World}(h:KindP t L b p W){s:List UInt8}(hs:s.length<=1000000) :
 (Instr.lookup 74 (.map (some p.mb)) (strV s) true).run prog W=.ok (.tuple #[intV ((recT t b s).elim 0 fun r=>(r:Int)),.bool (recT t b s).isSome]) W:=by
 obtain⟨n,D,h1,h2⟩:=h.recs;obtain⟨v,ps,ha,hv⟩:=h1.look_ok zF fX (uE W) (zd:=.lit (.int .i64 0)) (zp:=[]) rfl (zR hs);rw[h2.val]at hv;rw[ha,AK hv,h2.has]
theorem KindP.ofAt{t:Tr}{L:List (List UInt8)}{b:Nat}{p:bF}{W:World}(h:KindP t L b p W){i:Nat}(hi:i<t.nodes.length) :
 ∃c o,p.oa=some ⟨c,o,none⟩/\c<W.heap.size/\W.cell? ⟨c,o+i,none⟩=some (strV (ofK L i)):=by
 have hl:L.length=t.nodes.length:=by have:=h.of.1;simpa using this
 have hs:Strs W p.oa p.oc L:=by unfold Strs;rw[hl];exact h.of
 obtain⟨c,o,e,hc,hv⟩:=Strs.at hs (show i<L.length by omega);refine⟨c,o,e,hc,?_⟩;rw[hv];unfold ofK;rw[Int.toNat_natCast,List.getD_eq_getElem?_getD,List.getElem?_eq_getElem (by omega),Option.getD_some]
theorem KindP.declAt{t:Tr}{L:List (List UInt8)}{b:Nat}{p:bF}{W:World}(h:KindP t L b p W){i:Nat}(hi:i<t.nodes.length) :
 ∃c o,p.da=some ⟨c,o,none⟩/\c<W.heap.size/\W.cell? ⟨c,o+i,none⟩=some (intV (means t i)):=by
 have hl:=zP t t.nodes.length;have hs:Ints W p.da p.dc (zg t t.nodes.length):=by unfold Ints;rw[hl];exact h.decl
 obtain⟨c,o,e,hc,hv⟩:=Ints.at hs (show i<(zg t t.nodes.length).length by omega);refine⟨c,o,e,hc,?_⟩;rw[hv];have:=yS (t:=t) hi;rw[List.getElem?_eq_getElem (by omega)]at this;rw[Option.some.inj this]
theorem qU{t:Tr}{b:Nat}{k:List UInt8}{r:Nat}(h:recT t b k=some r)(hb:b<=t.nodes.length):r<t.nodes.length:=by
 have:=(jQ h).1;omega
theorem rX{α:Type}{F:α->Option (Int×Bool)}(hF:∀x r,F x=some r->0<=r.1):∀(l:List α) (n m:Int),0<=n->n<=10000->capS F l n=some m->0<=m/\m<=10000
 | [],n,m,h0,h1,h=>by cases h;exact⟨h0,h1⟩
 | x::l,n,m,h0,h1,h=>by
   rw[capS]at h
   cases hx:F x with
   |none=>rw[hx]at h;cases h
   | some r=>
     rw[hx]at h;have:=hF x r hx;exact rX hF l _ m (by omega) (by omega) h
theorem cI{t:Tr}{L:List (List UInt8)}{b:Nat}:∀(f:Nat) (k:List UInt8) (r:Int×Bool),zU t L b f k=some r->0<=r.1/\r.1<=10000
 |0,_,_,h=>by cases h
 | f+1,k,r,h=>by
   rw[zU]at h;split at h
   .cases h;simp
   .split at h
    .rename_i of m he
     cases hc:zU t L b f of with
     |none=>rw[hc]at h;cases h
     | some y=>
       rw[hc]at h;have:=(cI f of y hc).1;cases h
       have:0<=y.1*(m:Int):=Int.mul_nonneg this (by omega);exact⟨by show 0<=min _ _;omega,by show min _ _<=_;omega⟩
    .split at h
     .cases h;simp
     .rename_i r' hr
      cases hc:capS (fun kid=>zU t L b f (ofK L kid)) (t.nd r').kids 0 with
      |none=>rw[hc]at h;cases h
      | some y=>
        rw[hc]at h;have:=rX (fun x r hx=>(cI f _ r hx).1) _ 0 y (by omega) (by omega) hc;cases h
        exact this
theorem IB{α:Type}{F:α->Option (Int×Bool)}{x:α}{l:List α}{n m:Int}(h:capS F (x::l) n=some m):∃r,F x=some r/\capS F l (min 10000 (n+r.1))=some m:=by
 rw[capS]at h
 cases hx:F x with
 |none=>rw[hx]at h;cases h
 |some r=>rw[hx]at h;exact⟨r,rfl,h⟩
def Short(L:List (List UInt8)):Prop:=∀i:Int,(ofK L i).length<=1000000
theorem jZ(t:Tr)(L:List (List UInt8))(b:Nat)(p:bF)(wf:WF t)(hb:b<=t.nodes.length)(hL:Short L):∀(f:Nat) (k:List UInt8) (r:Int×Bool),zU t L b f k=some r->k.length<=1000000->∀W,KindP t L b p W ->
 Calls prog 27 #[.pointer (some ⟨p.g,0,none⟩),strV k] W fun e w'=>e=.returned (.tuple #[intV r.1,.bool r.2])/\Below W.heap.size W w'
 |0,_,_,h,_,_,_=>by cases h
 | f+1,k,r,h,hk,W,hP=>by
   have IH:=Hd (jZ t L b p wf hb hL f);have HP:=Hd hP;have HL:=Hd hL;have He:=Hd wf;have hJ:=wf.bd.n;rw[zU]at h;unfold intT zz at h;clear hP hL wf;cases hi:(k==[105,110,116])with
   | true=>
     rw[hi,Bool.true_or,if_pos rfl]at h;cases h
     go_enter func27,ntmps27;go_wp2;refine bodyPost_ret (v:=.tuple #[intV 1,.bool true]) (by simp[results,results27,go_sem]) rfl ?_;exact⟨rfl,brf⟩
   | false=>
     cases hbl:(k==[98,111,111,108])with
     | true=>
       rw[hi,hbl,Bool.false_or,if_pos rfl]at h;cases h
       go_enter func27,ntmps27;go_wp2;refine bodyPost_ret (v:=.tuple #[intV 1,.bool true]) (by simp[results,results27,go_sem]) rfl ?_;exact⟨rfl,brf⟩
     | false=>
       rw[hi,hbl,Bool.false_or,if_neg Bool.false_ne_true]at h
       cases he:aW k with
       | some q=>
         obtain⟨of,m⟩:=q;rw[he]at h;simp only at h;obtain⟨m1,m2,-,-⟩:=gY he;have hK:=BQ he
         cases hc:zU t L b f of with
         |none=>rw[hc]at h;cases h
         | some y=>
           rw[hc]at h;obtain⟨y1,y2⟩:=cI f of y hc;obtain⟨yn,yo⟩:=y;simp only at y1 y2;obtain⟨Z,hZ⟩:∃Z,yn*(m:Int)=Z:=⟨_,rfl⟩
           have hv:0<=Z/\Z<=60000:=by
            rw[<-hZ];have:m=1\/m=2\/m=3\/m=4\/m=5\/m=6:=by omega
            rcases this with rfl|rfl|rfl|rfl|rfl|rfl<;>omega
           have HR:Hid (r=(min 10000 Z,yo)):=Hd (by rw[<-hZ];exact(Option.some.inj h).symm);have HC:=Hd hc;have HE:=Hd he;have hM:IntKind.i64.wrap (yn*(m:Int))=Z:=by rw[hZ];exact IntWalk.i64_in _ (by omega)
           obtain⟨z0,z1⟩:=hv;clear hZ;clear h hc he;have A1:=Hd True.intro;go_enter func27,ntmps27
           go_upto_region 5 with(first
            | (go_at_call 28;refine(fJ k _ (by omega) HP.o.gvk).mono ?_;rintro e w1 ⟨x,z,rfl,hu,hf⟩;obtain⟨hx,hz⟩:=hu _ HE.o;obtain rfl:of=x:=hx.symm;obtain rfl:(m:Int)=z:=hz.symm;rw[HE.o];simp only[Option.isSome_some];have Ha:=Hd hf;clear hf hu hx hz))
           go_upto_region 6 with(first
            | (go_at_call 27;refine(IH.out of _ HC.o (by omega) _ (HP.o.step Ha.o)).mono ?_;rintro e w2 ⟨rfl,hn⟩;have Hf:=Hd (Ha.o.trans (hn.mono Ha.o.size));clear hn))
           go_wp2;refine bodyPost_ret (v:=.tuple #[intV (min 10000 Z),.bool yo]) (by simp[results,results27,go_sem]) rfl ?_;exact⟨by rw[HR.o],Hf.o⟩
       | none=>
         rw[he]at h;simp only at h;have HE:=Hd he;clear he;go_enter func27,ntmps27
         go_upto_region 7 with(first
          | (go_at_call 28;refine(fJ k _ (by omega) HP.o.gvk).mono ?_;rintro e w1 ⟨x,z,rfl,-,hf⟩;rw[HE.o];simp only[Option.isSome_none];have Ha:=Hd hf;clear hf))
         have Hb:=Hd (HP.o.step Ha.o);have c0:=Hb.o.c0;have c3:=Hb.o.c3;have hp:=Hb.o.gl;have hg:=Hb.o.look hk
         cases hrec:recT t b k with
         | none=>
           rw[hrec]at h hg;simp only[Option.elim_none,Option.isSome_none]at h hg;have HR:Hid (r=(0,false)):=Hd (Option.some.inj h).symm;clear h hrec;go_wp2;refine bodyPost_ret (v:=.tuple #[intV 0,.bool false]) (by simp[results,results27,go_sem]) rfl ?_;exact⟨by rw[HR.o],Ha.o⟩
         | some r'=>
           rw[hrec]at h hg;simp only[Option.elim_some,Option.isSome_some]at h hg;have hh:=qU hrec hb
           cases hc:capS (fun kid=>zU t L b f (ofK L kid)) (t.nd (r':Int)).kids 0 with
           |none=>rw[hc]at h;cases h
           |some y=>
           rw[hc]at h;have HR:Hid (r=(y,true)):=Hd (Option.some.inj h).symm;obtain⟨bn,on,ka,kc,ea,hw,-,-,-,m3,-,hm⟩:=Hb.o.tree.nodes.at hh;have ht:=t.nd_at hh;rw[ht]at hc;have hl:=He.o.kid r' hh;have hB:=He.o.bd.k _ (List.getElem_mem hh);obtain⟨D,hD⟩:∃D,t.nodes[r']=D:=⟨_,rfl⟩
           rw[hD]at hc m3 hm hl hB;rw[ea]at c0;have HC:=Hd hc;have Hi:=Hd hm;have Hh:=Hd hl;clear h hrec hc ht hD hm hl ea;go_wp2;clear c0 c3 hp hg m3 hw
           go_loopw [4,59] (fun t4 t59 wr=>∃(j:Nat) (n:Int),t59=.int .i64 j/\t4=.int .i64 n/\j<=D.kids.length/\0<=n/\n<=10000/\Hid (capS (fun kid=>zU t L b f (ofK L kid)) (D.kids.drop j) n=some y)/\Hid (Below w1.heap.size w1 wr)) (fun _ t59 _=>D.kids.length-(intOf t59).toNat)
           case atStart=>exact⟨0,0,rfl,rfl,Nat.zero_le _,by omega,by omega,Hd (by simpa using HC.o),Hd brf⟩
           case round=>
            obtain⟨j,n,rfl,rfl,hj,hH,hI,HS,HB⟩:=hrel;have Hc:=Hd (Hb.o.step HB.o);by_cases hlt:j<D.kids.length
            .obtain⟨q1,q2⟩:=Hh.o _ (List.getElem_mem hlt)
             have hs:=HS.o;rw[List.drop_eq_getElem_cons hlt]at hs;obtain⟨rr,hF,hd⟩:=IB hs;obtain⟨bk,ok,ek,hE,hy⟩:=Ints.at (show Ints wr ka kc D.kids from Row.mono Hi.o HB.o nlr) hlt;subst ek;obtain⟨a,ha⟩:=Int.eq_ofNat_of_zero_le q1;rw[ha]at hF hy q2;obtain⟨co,oo,eoa,hG,hA⟩:=Hc.o.ofAt (show a<t.nodes.length by omega);have c4:=Hc.o.c4;rw[eoa]at c4;have hp:=Hc.o.gl;obtain⟨z0,z1⟩:=cI f _ rr hF;obtain⟨z,zo⟩:=rr;simp only at z0 z1 hd;obtain⟨kt,hq⟩:∃kt,ofK L (a:Int)=kt:=⟨_,rfl⟩
             have hr:=HL.o (a:Int);rw[hq]at hF hA hr;have HF:=Hd hF;have Hj:=Hd hd;have HJ:=Hd hlt;have hC:a<t.nodes.length:=by omega
             clear hs hF hd ha eoa hq q1
             go_wp2_with (go_at_call 27;refine(IH.out kt _ HF.o hr _ Hc.o).mono ?_;rintro e w3 ⟨rfl,ho⟩;have Hg:=Hd (HB.o.trans (ho.mono HB.o.size));clear ho)
             go_roundw
             case rel=>exact⟨j+1,min 10000 (n+z),by go_num,rfl,by omega,by omega,by omega,Hj,Hg⟩
             case measure=>simp[intOf];omega
            .obtain rfl:j=D.kids.length:=by omega
             have HN:Hid (n=y):=Hd (by
              have:=HS.o;rw[List.drop_length]at this
              exact Option.some.inj this)
             go_wp2;refine bodyPost_ret (v:=.tuple #[intV n,.bool true]) (by simp[results,results27,go_sem]) rfl ?_;exact⟨by rw[HR.o,HN.o],Ha.o.trans (HB.o.mono Ha.o.size)⟩
def LT(w:World)(l:List (List UInt8))(e:Ending)(w':World):Prop:=∃a c,e=.returned (.slice a l.length c)/\dA w' w.heap.size a c l/\Below w.heap.size w w'
theorem OO(W:World)(B:Nat):dA W B none 0 []:=World.ownsRow_nil _ _ _ _
theorem dH(t:Tr)(L:List (List UInt8))(b:Nat)(p:bF)(a:Option Addr)(c:Nat)(l:List Int)(w:World)(hP:KindP t L b p w)(hr:Ints w a c l)(hl:l.length<=1000000)(hn3:t.nodes.length<=1000000)(hk:∀k∈l,0<=k/\k<(t.nodes.length:Int)) :
 Calls prog 31 #[.pointer (some ⟨p.g,0,none⟩),.slice a l.length c] w (LT w (l.map (ofK L))):=by
 have HP:=Hd hP;have HR:=Hd hr;have HK:=Hd hk;clear hP hr hk;go_enter func31,ntmps31;go_wp2
 go_loopw [4,9] (fun t4 t9 wr=>∃(j:Nat) (q:List (List UInt8)) (aq:Option Addr) (cq:Nat),t9=.int .i64 j/\t4=.slice aq q.length cq/\j<=l.length/\q.length<=j/\Hid (q=(l.take j).map (ofK L))/\Hid (dA wr w.heap.size aq cq q)/\Hid (Below w.heap.size w wr)) (fun _ t9 _=>l.length-(intOf t9).toNat)
 case atStart=>exact⟨0,[],none,0,rfl,rfl,Nat.zero_le _,nlr,Hd rfl,Hd (OO _ _),Hd brf⟩
 case round=>
  obtain⟨j,q,aq,cq,rfl,rfl,hj,hn,HQ,HO,HB⟩:=hrel;have Ha:=Hd (HP.o.step HB.o);by_cases hlt:j<l.length
  .obtain⟨q1,q2⟩:=HK.o _ (List.getElem_mem hlt)
   obtain⟨bk,ok,ek,hf,hd⟩:=Ints.at (show Ints wr a c l from Row.mono HR.o HB.o nlr) hlt;subst ek;obtain⟨i,hi⟩:=Int.eq_ofNat_of_zero_le q1;rw[hi]at hd q2;obtain⟨co,oo,eoa,hg,he⟩:=Ha.o.ofAt (show i<t.nodes.length by omega);have c4:=Ha.o.c4;rw[eoa]at c4;have hh:=Ha.o.gl;have hm:i<t.nodes.length:=by omega
   have HN:Hid (q++[ofK L i]=(l.take (j+1)).map (ofK L)):=Hd (by rw[List.take_succ_eq_append_getElem hlt,List.map_append,<-HQ.o,hi];rfl);obtain⟨kt,hc⟩:∃kt,ofK L (i:Int)=kt:=⟨_,rfl⟩
   rw[hc]at he HN;have HJ:=Hd hlt;clear hi eoa hc q1 q2
   go_wp2_with (first
    | (at_builtin
       refine pM rfl (.tmp 13) (.tmp 21) rfl rfl (HO.o.alloc _) rfl (cN _ _ _) (by omega) (by have:=HB.o.size;simp;omega) ?_;intro a9 c9 w9 hb ha;have Hc:=Hd hb;have Hb:=Hd (ha _ w nlr (HB.o.alloc HB.o.size _))
       clear hb ha))
   go_roundw
   case rel=>exact⟨j+1,_,a9,c9,by go_num,by simp,by omega,by simp;omega,HN,Hc,Hb⟩
   case measure=>simp[intOf];omega
  .obtain rfl:j=l.length:=by omega
   have HN:Hid (q=l.map (ofK L)):=Hd (by rw[HQ.o,List.take_length]);go_wp2;go_ret;rw[<-HN.o];exact⟨aq,cq,rfl,HO.o,HB.o⟩
def notK(k x:List UInt8):Bool:=!(x==k)
def notB(x:List UInt8):Bool:=!(x==intT||x==zz)
theorem FD(k x:List UInt8)(b:Nat)(w:World)(hc:w.cell? ⟨b,0,none⟩=some (strV k)) :
 Calls prog 138 #[strV x,.pointer (some ⟨b,0,none⟩)] w fun e w'=>e=.returned (.bool (notK k x))/\w=w':=by
 unfold notK
 cases h:x==k with
 | true=>
   go_enter func138,ntmps138;go_wp2;go_ret;exact⟨rfl,rfl⟩
 | false=>
   go_enter func138,ntmps138;go_wp2;go_ret;exact⟨rfl,rfl⟩
theorem DE(x:List UInt8)(w:World):Calls prog 143 #[strV x] w fun e w'=>e=.returned (.bool (notB x))/\w=w':=by
 unfold notB intT zz;cases h:x==[105,110,116]with
 | true=>
   go_enter func143,ntmps143;go_wp2;go_ret;exact⟨rfl,rfl⟩
 | false=>
   cases h2:x==[98,111,111,108]with
   | true=>
     go_enter func143,ntmps143;go_wp2;go_ret;exact⟨rfl,rfl⟩
   | false=>
     go_enter func143,ntmps143;go_wp2;go_ret;exact⟨rfl,rfl⟩
def idxT(l:List (List UInt8))(p:List UInt8->Bool):Int:=first (fun i=>(l[i]?.map p).getD false) l.length 0
theorem BV(l:List (List UInt8))(p:List UInt8->Bool):decide (0<=idxT l p)=l.any p:=by
 rw[Bool.eq_iff_iff,decide_eq_true_eq];unfold idxT;rw[gF (fun i=>(l[i]?.map p).getD false) l.length];constructor
 .intro h1
  rw[List.any_eq_true];apply Classical.byContradiction;intro ha;rw[Bool.eq_false_iff]at h1;apply h1;rw[List.all_eq_true];intro i hi;have hi:=List.mem_range.1 hi;simp only[List.getElem?_eq_getElem hi,Option.map_some,Option.getD_some,Bool.not_eq_true'];cases hp:p l[i]with
  |false=>rfl
  |true=>exact(ha ⟨_,List.getElem_mem hi,hp⟩).elim
 .intro h1
  obtain⟨x,hx,hp⟩:=List.any_eq_true.1 h1;obtain⟨i,hi,rfl⟩:=List.getElem_of_mem hx;rw[Bool.eq_false_iff];intro hc;have:=List.all_eq_true.1 hc i (List.mem_range.2 hi);simp[hi,hp]at this
theorem uI(t:List UInt8)(b:Nat)(a:Option Addr)(c:Nat)(l:List (List UInt8))(w:World)(hl:l.length<=1000000000)(h:Strs w a c l)(hc:w.cell? ⟨b,0,none⟩=some (strV t)) :
 Calls prog 173 #[.slice a l.length c,.func (.func 138) #[] #[.pointer (some ⟨b,0,none⟩)]] w fun e w'=>e=.returned (intV (idxT l (notK t)))/\w=w':=by
 have HR:=Hd h;have HP:=Hd (fun x=>FD t x b w hc);clear h hc;go_enter func173,ntmps173;go_wp2
 go_loop [8] (fun i=>∃k:Nat,k<=l.length/\i=.int .i64 k/\Hid (idxT l (notK t)=first (fun i=>(l[i]?.map (notK t)).getD false) l.length k)) (fun i=>l.length-(intOf i).toNat)
 case atStart=>exact⟨0,Nat.zero_le _,rfl,Hd rfl⟩
 case round=>
  obtain⟨k,hk,rfl,HA⟩:=hrel;by_cases hlt:k<l.length
  .obtain⟨b1,o1,rfl,hd,hb⟩:=Strs.at HR.o hlt
   obtain⟨x,hx⟩:∃x,l[k]=x:=⟨_,rfl⟩
   rw[hx]at hb;have ha:(l[k]?.map (notK t)).getD false=(notK t) x:=by simp[hlt,hx]
   obtain⟨y,hy⟩:∃y,(notK t) x=y:=⟨_,rfl⟩
   have HY:=Hd hy;have HG:=Hd (ha.trans hy);clear hx ha hy
   cases y with
   | true=>
     go_wp2_with (go_at_call 138;refine(HP.o x).mono ?_;intro e w';rw[show notK t x=true from HY.o];rintro⟨rfl,rfl⟩)
     go_ret;exact⟨zO (by rw[HA.o];exact(zV hlt HG.o).symm),rfl⟩
   | false=>
     go_wp2_with (go_at_call 138;refine(HP.o x).mono ?_;intro e w';rw[show notK t x=false from HY.o];rintro⟨rfl,rfl⟩)
     go_round
     case rel=>exact⟨k+1,by omega,by go_num,Hd (by rw[HA.o];exact bW hlt HG.o)⟩
     case measure=>simp[intOf];omega
  .go_wp2
   go_ret;exact⟨zO (by rw[HA.o];exact(bS (by omega)).symm),rfl⟩
theorem xL(t:List UInt8)(b:Nat)(a:Option Addr)(c:Nat)(l:List (List UInt8))(w:World)(hl:l.length<=1000000000)(h:Strs w a c l)(hc:w.cell? ⟨b,0,none⟩=some (strV t)) :
 Calls prog 137 #[.slice a l.length c,.func (.func 138) #[] #[.pointer (some ⟨b,0,none⟩)]] w fun e w'=>e=.returned (.bool (l.any (notK t)))/\w=w':=by
 rw[<-BV];have HC:=Hd (uI t b a c l w hl h hc);clear h hc;go_enter func137,ntmps137
 go_wp2_with (go_at_call 173;refine HC.o.mono ?_;rintro e w' ⟨rfl,rfl⟩)
 go_ret;exact⟨rfl,rfl⟩
theorem uJ(a:Option Addr)(c:Nat)(l:List (List UInt8))(w:World)(hl:l.length<=1000000000)(h:Strs w a c l) :
 Calls prog 173 #[.slice a l.length c,.func (.func 143) #[] #[]] w fun e w'=>e=.returned (intV (idxT l notB))/\w=w':=by
 have HR:=Hd h;have HP:=Hd (fun x=>DE x w);clear h;go_enter func173,ntmps173;go_wp2
 go_loop [8] (fun i=>∃k:Nat,k<=l.length/\i=.int .i64 k/\Hid (idxT l notB=first (fun i=>(l[i]?.map notB).getD false) l.length k)) (fun i=>l.length-(intOf i).toNat)
 case atStart=>exact⟨0,Nat.zero_le _,rfl,Hd rfl⟩
 case round=>
  obtain⟨k,hk,rfl,HA⟩:=hrel;by_cases hlt:k<l.length
  .obtain⟨b1,o1,rfl,hc,hb⟩:=Strs.at HR.o hlt
   obtain⟨x,hx⟩:∃x,l[k]=x:=⟨_,rfl⟩
   rw[hx]at hb;have ha:(l[k]?.map notB).getD false=notB x:=by simp[hlt,hx]
   obtain⟨y,hy⟩:∃y,notB x=y:=⟨_,rfl⟩
   have HY:=Hd hy;have HG:=Hd (ha.trans hy);clear hx ha hy
   cases y with
   | true=>
     go_wp2_with (go_at_call 143;refine(HP.o x).mono ?_;intro e w';rw[show notB x=true from HY.o];rintro⟨rfl,rfl⟩)
     go_ret;exact⟨zO (by rw[HA.o];exact(zV hlt HG.o).symm),rfl⟩
   | false=>
     go_wp2_with (go_at_call 143;refine(HP.o x).mono ?_;intro e w';rw[show notB x=false from HY.o];rintro⟨rfl,rfl⟩)
     go_round
     case rel=>exact⟨k+1,by omega,by go_num,Hd (by rw[HA.o];exact bW hlt HG.o)⟩
     case measure=>simp[intOf];omega
  .go_wp2
   go_ret;exact⟨zO (by rw[HA.o];exact(bS (by omega)).symm),rfl⟩
theorem xM(a:Option Addr)(c:Nat)(l:List (List UInt8))(w:World)(hl:l.length<=1000000000)(h:Strs w a c l) :
 Calls prog 137 #[.slice a l.length c,.func (.func 143) #[] #[]] w fun e w'=>e=.returned (.bool (l.any notB))/\w=w':=by
 rw[<-BV];have HC:=Hd (uJ a c l w hl h);clear h;go_enter func137,ntmps137
 go_wp2_with (go_at_call 173;refine HC.o.mono ?_;rintro e w' ⟨rfl,rfl⟩)
 go_ret;exact⟨rfl,rfl⟩
theorem JE(l:List (List UInt8))(p:List UInt8->Bool):(!l.any fun x=>!p x)=l.all p:=by
 rw[<-List.not_all_eq_any_not,Bool.not_not]
theorem PD(k:List UInt8)(l:List (List UInt8)):areB k l = !(l.any (notK k)):=(JE l _).symm
theorem bR(k:List UInt8)(a:Option Addr)(c:Nat)(l:List (List UInt8))(w:World)(hl:l.length<=1000000000)(h:Strs w a c l) :
 Calls prog 96 #[strV k,.slice a l.length c] w (zD w (areB k l)):=by
 rw[PD];have HR:=Hd h;clear h;obtain⟨q,hq⟩:∃q,l.any (notK k)=q:=⟨_,rfl⟩
 rw[hq];have HQ:=Hd hq;clear hq;go_enter func96,ntmps96
 go_wp2_with (go_at_call 137;refine(xL k w.heap.size a c l _ hl (Row.mono HR.o (brf.alloc nlr _) nlr) (za (World.alloc_heap_new _ _) rfl)).mono ?_;rw[HQ.o];rintro e w' ⟨rfl,rfl⟩)
 go_ret;exact⟨rfl,brf.alloc nlr _⟩
theorem PF(l:List (List UInt8)):(l.all fun x=>x==intT||x==zz) = !(l.any notB):=(JE l _).symm
theorem uF(n:Int)(a:Option Addr)(c:Nat)(l:List (List UInt8))(w:World)(hl:l.length<=1000000000)(h:Strs w a c l) :
 Calls prog 98 #[intV n,.slice a l.length c] w (zD w (sZ n l)):=by
 have HR:=Hd h;clear h;unfold sZ;by_cases h4:n=4
 .subst h4
  obtain⟨q,hq⟩:∃q,areB intT l=q:=⟨_,rfl⟩
  have HQ:=Hd hq;rw[hq];clear hq;go_enter func98,ntmps98
  go_wp2_with (go_at_call 96;refine(bR intT a c l _ hl HR.o).mono ?_;rw[HQ.o];rintro e w' ⟨rfl,hb⟩)
  go_ret;exact⟨rfl,hb⟩
 .by_cases h5:n=5
  .subst h5
   obtain⟨q,hq⟩:∃q,areB intT l=q:=⟨_,rfl⟩
   have HQ:=Hd hq;rw[hq];clear hq;go_enter func98,ntmps98
   go_wp2_with (go_at_call 96;refine(bR intT a c l _ hl HR.o).mono ?_;rw[HQ.o];rintro e w' ⟨rfl,hb⟩)
   go_ret;exact⟨rfl,hb⟩
  .have g4:(n==4)=false:=by simpa using h4
   have g5:(n==5)=false:=by simpa using h5
   by_cases h8:n=8
   .subst h8
    rw[PF];obtain⟨q,hq⟩:∃q,l.any notB=q:=⟨_,rfl⟩
    have HQ:=Hd hq;rw[hq];clear hq;go_enter func98,ntmps98
    go_wp2_with (go_at_call 137;refine(xM a c l _ hl HR.o).mono ?_;rw[HQ.o];rintro e w' ⟨rfl,rfl⟩)
    go_ret;exact⟨rfl,brf⟩
   .have g8:(n==8)=false:=by simpa using h8
    obtain⟨q,hq⟩:∃q,areB zz l=q:=⟨_,rfl⟩
    have HQ:=Hd hq;rw[hq,g4,g5,g8];clear hq h4 h5 h8;go_enter func98,ntmps98
    go_wp2_with (go_at_call 96;refine(bR zz a c l _ hl HR.o).mono ?_;rw[HQ.o];rintro e w' ⟨rfl,hb⟩)
    go_ret;exact⟨rfl,hb⟩
theorem pC(a a':Option Addr)(c c':Nat)(l m:List (List UInt8))(w:World)(hl:l.length<=1000000000)(hm:m.length<=1000000000)(h:Strs w a c l)(h':Strs w a' c' m) :
 Calls prog 139 #[.slice a l.length c,.slice a' m.length c'] w (zD w (l==m)):=by
 have HR:=Hd h;have HS:=Hd h';clear h h';by_cases hlm:l.length=m.length
 .have ha:decide (l.length=m.length)=true:=by simpa using hlm
  go_enter func139,ntmps139;go_wp2
  go_loopw [13] (fun t13 wr=>∃k:Nat,t13=.int .i64 k/\k<=l.length/\Hid (∀j (h1:j<l.length) (h2:j<m.length),j<k->l[j]=m[j])/\Hid (Below w.heap.size w wr)) (fun t13 _=>l.length-(intOf t13).toNat)
  case atStart=>exact⟨0,rfl,Nat.zero_le _,Hd (fun j _ _ h=>absurd h (Nat.not_lt_zero _)),Hd brf⟩
  case round=>
   obtain⟨k,rfl,hk,HA,HB⟩:=hrel;by_cases hlt:k<l.length
   .obtain⟨b1,o1,e1,hd,hb⟩:=Strs.at (show Strs wr a c l from Row.mono HR.o HB.o nlr) hlt
    obtain⟨b2,o2,e2,he,hc⟩:=Strs.at (show Strs wr a' c' m from Row.mono HS.o HB.o nlr) (show k<m.length by omega);subst e1 e2;have hf:k<m.length:=by omega
    obtain⟨x,hx⟩:∃x,l[k]=x:=⟨_,rfl⟩
    obtain⟨y,hy⟩:∃y,m[k]=y:=⟨_,rfl⟩
    rw[hx]at hb;rw[hy]at hc;have HX:=Hd hx;have HY:=Hd hy;have HK:=Hd hlt;clear hx hy hlm ha
    cases hq:x==y with
    | false=>
      have HN:Hid ((l==m)=false):=Hd (by
       rw[beq_eq_false_iff_ne];intro e;subst e;rw[beq_eq_false_iff_ne]at hq
       exact hq (HX.o.symm.trans HY.o))
      go_wp2;go_region;go_wp2;go_ret;exact⟨zc HN.o.symm,HB.o.trans (brf.drew.mono HB.o.size)⟩
    | true=>
      have HE:=Hd (eq_of_beq hq);go_wp2;go_region;go_wp2
      go_roundw
      case rel=>
       refine⟨k+1,by go_num,by omega,Hd (fun j h1 h2 hj=>?_),Hd (HB.o.trans (brf.drew.mono HB.o.size))⟩;by_cases e:j<k
       .exact HA.o j h1 h2 e
       .obtain rfl:j=k:=by omega
        rw[HX.o,HY.o,HE.o]
      case measure=>simp[intOf];omega
   .obtain rfl:k=l.length:=by omega
    have HN:Hid ((l==m)=true):=Hd (by
     rw[beq_iff_eq]
     exact List.ext_getElem hlm fun j h1 h2=>HA.o j h1 h2 h1)
    go_wp2;go_ret;exact⟨zc HN.o.symm,HB.o⟩
 .have ha:decide (l.length=m.length)=false:=by simpa using hlm
  have HN:Hid ((l==m)=false):=Hd (by
   rw[beq_eq_false_iff_ne];intro e
   exact hlm (by rw[e]))
  go_enter func139,ntmps139;go_wp2;go_ret;exact⟨zc HN.o.symm,brf⟩
def sX(w:World)(l:List UInt8)(e:Ending)(w':World):Prop:=e=.returned (strV l)/\Below w.heap.size w w'
theorem DG(t:Tr)(L:List (List UInt8))(b:Nat)(p:bF)(rec field:List UInt8)(W:World)(wf:WF t)(hb:b<=t.nodes.length)(hk:rec.length<=1000000)(hP:KindP t L b p W) :
 Calls prog 140 #[.pointer (some ⟨p.g,0,none⟩),strV rec,strV field] W (sX W (gZ t L b rec field)):=by
 have HP:=Hd hP;have Ha:=Hd wf;have hv:=wf.bd.n;have c0:=hP.c0;have c3:=hP.c3;have hu:=hP.gl;have hc:=hP.look hk;clear hP wf
 cases hrec:recT t b rec with
 | none=>
   have HF:Hid (gZ t L b rec field=[]):=Hd (by unfold gZ;rw[hrec]);rw[hrec]at hc;simp only[Option.elim_none,Option.isSome_none]at hc;clear hrec;go_enter func140,ntmps140;go_wp2;go_ret;exact⟨by rw[HF.o];rfl,brf⟩
 | some r=>
   rw[hrec]at hc;simp only[Option.elim_some,Option.isSome_some]at hc;have hr:=qU hrec hb;have HF:Hid (gZ t L b rec field=((t.nodes[r]'hr).kids.find? fun k=>(t.nd k).text==field).elim [] (ofK L)):=Hd (by unfold gZ;rw[hrec,<-t.nd_at hr]);obtain⟨bn,on,ka,kc,ea,hp,-,-,-,m3,-,hh⟩:=HP.o.tree.nodes.at hr;have hg:=Ha.o.kid r hr;have hm:=Ha.o.bd.k _ (List.getElem_mem hr);obtain⟨D,hD⟩:∃D,t.nodes[r]=D:=⟨_,rfl⟩
   rw[hD]at HF m3 hh hg hm;rw[ea]at c0;have He:=Hd hh;have Hc:=Hd hg;have Hb:=Hd ea;clear hrec hD hh hg ea;go_enter func140,ntmps140;go_wp2;clear m3 hc c3
   go_loop [32] (fun i=>∃j:Nat,i=.int .i64 j/\j<=D.kids.length/\Hid (D.kids.find? (fun k=>(t.nd k).text==field)=(D.kids.drop j).find? (fun k=>(t.nd k).text==field))) (fun i=>D.kids.length-(intOf i).toNat)
   case atStart=>exact⟨0,rfl,Nat.zero_le _,Hd rfl⟩
   case round=>
    obtain⟨j,rfl,hj,HS⟩:=hrel;by_cases hlt:j<D.kids.length
    .obtain⟨q1,q2⟩:=Hc.o _ (List.getElem_mem hlt)
     obtain⟨bk,ok,ek,hn,hl⟩:=Ints.at He.o hlt;subst ek;have hi:=HS.o;obtain⟨x,hx⟩:∃x,D.kids[j]=x:=⟨_,rfl⟩
     obtain⟨a,ha⟩:=Int.eq_ofNat_of_zero_le q1;have hf:a<t.nodes.length:=by omega
     obtain⟨bm,om,kb,kd,eb,ho,-,d1,-,-,-,-⟩:=HP.o.tree.nodes.at hf;rw[Hb.o]at eb;simp only[Option.some.injEq,Addr.mk.injEq,and_true]at eb;obtain⟨rfl,rfl⟩:=eb;have he:=t.nd_at hf;rw[ha]at hl hx;obtain⟨co,oo,eoa,hs,ht⟩:=HP.o.ofAt hf;have c4:=HP.o.c4;rw[eoa]at c4
     cases hq:t.nodes[a].text==field with
     | true=>
       have HY:Hid (gZ t L b rec field=ofK L a):=Hd (by
        rw[HF.o,HS.o,List.drop_eq_getElem_cons hlt,List.find?_cons,ha,he,hq];rfl)
       obtain⟨tx,hd⟩:∃tx,t.nodes[a].text=tx:=⟨_,rfl⟩
       rw[hd]at hq d1;have HJ:=Hd hlt;clear hi hx ha he eoa q1 q2 hd;go_wp2;go_ret;exact⟨by rw[HY.o];rfl,brf⟩
     | false=>
       have HY:Hid (D.kids.find? (fun k=>(t.nd k).text==field)=(D.kids.drop (j+1)).find? (fun k=>(t.nd k).text==field)):=Hd (by
        rw[HS.o,List.drop_eq_getElem_cons hlt,List.find?_cons,ha,he,hq])
       obtain⟨tx,hd⟩:∃tx,t.nodes[a].text=tx:=⟨_,rfl⟩
       rw[hd]at hq d1;have HJ:=Hd hlt;clear hi hx ha he eoa q1 q2 hd;go_wp2
       go_round
       case rel=>exact⟨j+1,by go_num,by omega,HY⟩
       case measure=>simp[intOf];omega
    .obtain rfl:j=D.kids.length:=by omega
     have HY:Hid (gZ t L b rec field=[]):=Hd (by rw[HF.o,HS.o,List.drop_length];rfl);go_wp2;go_ret;exact⟨by rw[HY.o];rfl,brf⟩
theorem kA(t:Tr)(L:List (List UInt8))(b:Nat)(p:bF)(wf:WF t)(hb:b<=t.nodes.length)(hL:Short L)(f:Nat)(k:List UInt8)(r:Int×Bool)(hc:zU t L b f k=some r)(hk:k.length<=1000000)(W:World)(hP:KindP t L b p W) :
 Calls prog 67 #[.pointer (some ⟨p.g,0,none⟩),strV k] W (zD W (decide (8<r.1))):=by
 have HC:=Hd (jZ t L b p wf hb hL f k r hc hk W hP);obtain⟨z0,z1⟩:=cI f _ r hc;obtain⟨n,o⟩:=r;simp only at z0 z1;clear hP hL wf hc;go_enter func67,ntmps67
 go_wp2_with (go_at_call 27;refine HC.o.mono ?_;rintro e w1 ⟨rfl,ha⟩;have Ha:=Hd ha;clear ha)
 go_ret;exact⟨rfl,Ha.o⟩
theorem CJ(L:List (List UInt8)){l:List Int}{j:Nat}{a:Int}(h:l[j]?=some a):ofK L (l.getD j 0)=ofK L a:=by rw[List.getD_eq_getElem?_getD,h];rfl
theorem DI(t:Tr)(L:List (List UInt8))(b:Nat)(p:bF)(i d:Nat)(W:World)(hn3:t.nodes.length<=1000000)(hi:i<t.nodes.length)(hd:means t i=d)(hdn:d<t.nodes.length)
 (hkid:(t.nd (d:Int)).kind=43\/(t.nd (d:Int)).kind=20->∃a:Nat,(t.nd (d:Int)).kids[0]?=some (a:Int)/\a<t.nodes.length)(hkl:(t.nd (d:Int)).kids.length<=1000000)(hP:KindP t L b p W) :
 Calls prog 95 #[.pointer (some ⟨p.g,0,none⟩),intV i] W (sX W (eP t L d)):=by
 have hu:prog.follows .mixedOrders=true:=by kernel_rfl
 have HP:=Hd hP;have c0:=hP.c0;have c2:=hP.c2;have c4:=hP.c4;have ht:=hP.gl;obtain⟨bd,od,eda,ho,hm⟩:=hP.declAt hi;rw[hd]at hm;rw[eda]at c2;obtain⟨bn,on,ka,kc,ea,hq,m0,m1,m2,m3,m4,he⟩:=hP.tree.nodes.at hdn;rw[ea]at c0;obtain⟨co,oo,eoa,hs,hf⟩:=hP.ofAt hdn;rw[eoa]at c4;have hg:=t.nd_at hdn;rw[hg]at hkid hkl;have hc:eP t L d=if t.nodes[d].kind==43||t.nodes[d].kind==20 then ofK L (t.nodes[d].kids.getD 0 0)else if t.nodes[d].kind==34 then ofK L d else intT:=by unfold eP;rw[hg]
 obtain⟨D,hD⟩:∃D,t.nodes[d]=D:=⟨_,rfl⟩
 rw[hD]at m0 m1 m2 m3 m4 he hkid hc hkl;obtain⟨k,tx,nn,kids,pos⟩:=D;simp only at m0 m1 m2 m3 m4 he hkid hc hkl;have Ha:=Hd hc;have Hc:=Hd he;have Hb:=Hd eoa;clear hP hc he hD hg eda ea eoa hd;by_cases h1:k=43\/k=20
 .obtain⟨a,ha,hk⟩:=hkid h1
  have hl:0<kids.length:=(List.getElem?_eq_some_iff.1 ha).1;obtain⟨bk,ok,ek,hp,hh⟩:=Ints.at Hc.o hl;have hj:kids[0]=(a:Int):=by rw[List.getElem?_eq_getElem hl]at ha;exact Option.some.inj ha
  rw[hj]at hh;subst ek;obtain⟨ca,oa,eqa,hr,hn⟩:=HP.o.ofAt hk;rw[Hb.o]at eqa;simp only[Option.some.injEq,Addr.mk.injEq,and_true]at eqa;obtain⟨rfl,rfl⟩:=eqa
  have HR:Hid (eP t L d=ofK L a):=Hd (by
   rw[Ha.o,CJ L ha]
   rcases h1 with rfl|rfl<;>rfl)
  rw[Nat.add_zero]at hh;obtain⟨tyA,hb⟩:∃x,ofK L (a:Int)=x:=⟨_,rfl⟩
  rw[hb]at hn HR;clear hkid ha hj hb hf;rcases h1 with rfl|rfl
  all_goals
   go_enter func95,ntmps95;go_wp2;go_region;go_wp2;go_ret;exact⟨by rw[HR.o];rfl,(brf.alloc nlr _).drew⟩
 .have g1:(k==43)=false:=by simp;intro e;exact h1 (.inl e)
  have g2:(k==20)=false:=by simp;intro e;exact h1 (.inr e)
  by_cases h2:k=34
  .subst h2
   have HR:Hid (eP t L d=ofK L d):=Hd Ha.o;obtain⟨tyA,hb⟩:∃x,ofK L (d:Int)=x:=⟨_,rfl⟩
   rw[hb]at hf HR;clear hkid hb g1 g2 h1;go_enter func95,ntmps95;go_wp2;go_ret;exact⟨by rw[HR.o];rfl,brf.alloc nlr _⟩
  .have g3:(k==34)=false:=by simpa using h2
   have HR:Hid (eP t L d=intT):=Hd (by rw[Ha.o,g1,g2,g3];rfl);clear hkid hf h1 h2;go_enter func95,ntmps95;go_wp2;go_ret;exact⟨by rw[HR.o];rfl,brf.alloc nlr _⟩
theorem rM(t:Tr)(L:List (List UInt8))(b:Nat)(p:bF)(x y:Nat)(W:World)(hx:x<t.nodes.length)(hy:y<t.nodes.length)(hP:KindP t L b p W) :
 Calls prog 142 #[.pointer (some ⟨p.g,0,none⟩),intV x,intV y] W (zD W (cW t L x y)):=by
 have hl:prog.follows .mixedOrders=true:=by kernel_rfl
 have c0:=hP.c0;have c4:=hP.c4;have hk:=hP.gl;obtain⟨bn,on,ka,kc,ea,hi,-,m1,-,-,-,-⟩:=hP.tree.nodes.at hx;obtain⟨bn2,on2,ka2,kc2,ea2,hf,-,n1,-,-,-,-⟩:=hP.tree.nodes.at hy;rw[ea]at c0 ea2;simp only[Option.some.injEq,Addr.mk.injEq,and_true]at ea2;obtain⟨rfl,rfl⟩:=ea2;obtain⟨co,oo,eoa,hj,hh⟩:=hP.ofAt hx;obtain⟨co2,oo2,eoa2,hg,ha⟩:=hP.ofAt hy;rw[eoa]at c4 eoa2;simp only[Option.some.injEq,Addr.mk.injEq,and_true]at eoa2;obtain⟨rfl,rfl⟩:=eoa2;have hR:cW t L x y=(t.nodes[x].text==t.nodes[y].text&&ofK L x==ofK L y):=by unfold cW;rw[t.nd_at hx,t.nd_at hy]
 obtain⟨t1,hd⟩:∃q,t.nodes[x].text=q:=⟨_,rfl⟩
 obtain⟨t2,he⟩:∃q,t.nodes[y].text=q:=⟨_,rfl⟩
 obtain⟨o1,hb⟩:∃q,ofK L (x:Int)=q:=⟨_,rfl⟩
 obtain⟨o2,hc⟩:∃q,ofK L (y:Int)=q:=⟨_,rfl⟩
 rw[hd,he,hb,hc]at hR;rw[hd]at m1;rw[he]at n1;rw[hb]at hh;rw[hc]at ha;have HR:=Hd hR;clear hP hR hd he hb hc ea eoa
 cases hq:t1==t2 with
 | false=>
   have HF:Hid (cW t L x y=false):=Hd (by rw[HR.o,hq];rfl);go_enter func142,ntmps142;go_wp2;go_region;go_wp2;go_ret;exact⟨zc HF.o.symm,brf.drew⟩
 | true=>
   have HF:Hid (cW t L x y=(o1==o2)):=Hd (by rw[HR.o,hq];rfl);go_enter func142,ntmps142;go_wp2;go_region;go_wp2;go_ret;exact⟨zc HF.o.symm,brf.drew⟩
theorem BB(t:Tr)(L:List (List UInt8))(b:Nat)(p:bF)(a a':Option Addr)(c c':Nat)(l m:List Int)(w:World)(hP:KindP t L b p w)(hl:l.length<=1000000)(hm:m.length<=1000000)(hn3:t.nodes.length<=1000000)
 (hkl:∀k∈l,0<=k/\k<(t.nodes.length:Int))(hkm:∀k∈m,0<=k/\k<(t.nodes.length:Int))(h:Ints w a c l)(h':Ints w a' c' m) :
 Calls prog 141 #[.slice a l.length c,.slice a' m.length c',.func (.func 142) #[.pointer (some ⟨p.g,0,none⟩)] #[]] w (zD w (eqF (cW t L) l m)):=by
 have HP:=Hd hP;have HR:=Hd h;have HS:=Hd h';have HL:=Hd hkl;have HM:=Hd hkm;clear hP h h' hkl hkm;by_cases hlm:l.length=m.length
 .obtain⟨n,hn⟩:∃n,l.length=n:=⟨_,rfl⟩
  rw[<-hlm,hn];have Hb:=Hd hn;have Hc:=Hd (hlm.symm.trans hn);rw[hn]at hl;clear hlm hn hm;go_enter func141,ntmps141;go_wp2
  go_loopw [17] (fun t17 wr=>∃k:Nat,t17=.int .i64 k/\k<=n/\Hid (eqF (cW t L) l m=eqF (cW t L) (l.drop k) (m.drop k))/\Hid (Below w.heap.size w wr)) (fun t17 _=>n-(intOf t17).toNat)
  case atStart=>exact⟨0,rfl,Nat.zero_le _,Hd rfl,Hd brf⟩
  case round=>
   obtain⟨k,rfl,hk,HA,HB⟩:=hrel;have He:=Hd (HP.o.step HB.o);by_cases hkn:k<n
   .have hb:k<l.length:=by rw[Hb.o];exact hkn
    have hkm:k<m.length:=by rw[Hc.o];exact hkn
    obtain⟨b1,o1,e1,hg,he⟩:=Ints.at (show Ints wr a c l from Row.mono HR.o HB.o nlr) hb;obtain⟨b2,o2,e2,hh,hf⟩:=Ints.at (show Ints wr a' c' m from Row.mono HS.o HB.o nlr) hkm;subst e1 e2;obtain⟨q1,q2⟩:=HL.o _ (List.getElem_mem hb);obtain⟨q3,q4⟩:=HM.o _ (List.getElem_mem hkm);obtain⟨x,hx⟩:=Int.eq_ofNat_of_zero_le q1;obtain⟨y,hy⟩:=Int.eq_ofNat_of_zero_le q3;rw[hx]at he q2;rw[hy]at hf q4;obtain⟨z,hz⟩:∃z,cW t L x y=z:=⟨_,rfl⟩
    have HE:Hid (eqF (cW t L) l m=(z&&eqF (cW t L) (l.drop (k+1)) (m.drop (k+1)))):=Hd (by
     rw[HA.o,List.drop_eq_getElem_cons hb,List.drop_eq_getElem_cons hkm,eqF,hx,hy,hz])
    have HZ:=Hd hz;have HJ:=Hd hb;have hc:x<t.nodes.length:=by omega
    have hd:y<t.nodes.length:=by omega
    clear hx hy hz q1 q3 q2 q4 hb hkm
    cases z with
    | false=>
      go_wp2_with (go_at_call 142;refine(rM t L b p x y _ hc hd He.o).mono ?_;rw[HZ.o];rintro e w2 ⟨rfl,ha⟩;have Ha:=Hd (HB.o.trans (ha.mono HB.o.size));clear ha)
      go_ret;exact⟨zc (by rw[HE.o];rfl),Ha.o⟩
    | true=>
      go_wp2_with (go_at_call 142;refine(rM t L b p x y _ hc hd He.o).mono ?_;rw[HZ.o];rintro e w2 ⟨rfl,ha⟩;have Ha:=Hd (HB.o.trans (ha.mono HB.o.size));clear ha)
      go_roundw
      case rel=>exact⟨k+1,by go_num,by omega,Hd (by rw[HE.o,Bool.true_and]),Ha⟩
      case measure=>simp[intOf];omega
   .obtain rfl:k=n:=by omega
    have HN:Hid (eqF (cW t L) l m=true):=Hd (by rw[HA.o,List.drop_of_length_le (Nat.le_of_eq Hb.o),List.drop_of_length_le (Nat.le_of_eq Hc.o)];rfl);go_wp2;go_ret;exact⟨zc HN.o.symm,HB.o⟩
 .have hi:decide (l.length=m.length)=false:=by simpa using hlm
  have HN:Hid (eqF (cW t L) l m=false):=Hd (by
   have key:∀l m:List Int,l.length≠m.length->eqF (cW t L) l m=false:=by
    intro l
    induction l with
    | nil=>intro m h;cases m with
      |nil=>exact absurd rfl h
      |cons _ _=>rfl
    | cons x l ih=>intro m h;cases m with
      |nil=>rfl
      |cons y m=>rw[eqF,ih m (by simpa using h),Bool.and_false]
   exact key l m hlm)
  go_enter func141,ntmps141;go_wp2;go_ret;exact⟨zc HN.o.symm,brf⟩
def PA(w:World)(l:List (List UInt8))(r:List UInt8)(e:Ending)(w':World):Prop:=∃a c,e=.returned (.tuple #[.slice a l.length c,strV r])/\dA w' w.heap.size a c l/\Below w.heap.size w w'
theorem uG(t:Tr)(L:List (List UInt8))(b:Nat)(p:bF)(f r:Nat)(W0:World)(wf:WF t)(hf:f<t.nodes.length)(h2:2<=(t.nd (f:Int)).kids.length)(hr:(t.nd (f:Int)).kids[(t.nd (f:Int)).kids.length-2]?=some (r:Int))(hrn:r<t.nodes.length)(hP:KindP t L b p W0) :
 Calls prog 29 #[.pointer (some ⟨p.g,0,none⟩),intV f] W0 (PA W0 (dY t L f) (fB t L f)):=by
 have hx:prog.follows .mixedOrders=true:=by kernel_rfl
 have hy:=wf.bd.n;have HP:=Hd hP;have c0:=hP.c0;have c4:=hP.c4;have hE:=hP.gl;obtain⟨bn,on,ka,kc,ea,hB,-,-,-,m3,-,hc⟩:=hP.tree.nodes.at hf;rw[ea]at c0;obtain⟨co,oo,eoa,hC,hv⟩:=hP.ofAt hrn;rw[eoa]at c4;have hh:=t.nd_at hf;have hl:fB t L f=ofK L r:=by unfold fB;exact CJ L hr
 rw[hh]at h2 hr;have he:=wf.kid f hf;have hq:=wf.bd.k _ (List.getElem_mem hf);have ha:dY t L f=((t.nodes[f].kids.take (t.nodes[f].kids.length-2)).map (ofK L)):=by unfold dY;rw[hh]
 obtain⟨D,hD⟩:∃D,t.nodes[f]=D:=⟨_,rfl⟩
 rw[hD]at m3 hc he hq h2 hr ha;obtain⟨bk,ok,ek,hA,hd⟩:=Ints.at hc (show D.kids.length-2<D.kids.length by omega);have hs:D.kids[D.kids.length-2]=(r:Int):=by rw[List.getElem?_eq_getElem (by omega)]at hr;exact Option.some.inj hr
 rw[hs]at hd;subst ek;obtain⟨sla,cs,hz,hi⟩:=KK (P:=prog) (T:=23) hc OB KG ((D.kids.length:Int)-2) (by omega) (by omega);obtain⟨n,hn⟩:∃n,D.kids.length=n+2:=⟨D.kids.length-2,by omega⟩
 have e2:((D.kids.length:Int)-2).toNat=n:=by omega
 rw[e2,Nat.mul_one,<-List.map_take]at hi;rw[e2,hn,show((n+2:Nat):Int)-2=(n:Int) by omega]at hz;rw[hn]at m3 hd hq;rw[show n+2-2=n by omega]at hd;rw[hn,show n+2-2=n by omega]at ha;have hg:(D.kids.take n).length=n:=by rw[List.length_take];omega
 have Hf:Hid (Ints W0 sla cs (D.kids.take n)):=Hd (by unfold Ints;rw[hg];exact hi);have Ha:=Hd hg
 have He:Hid (∀k∈D.kids.take n,0<=k/\k<(t.nodes.length:Int)):=Hd fun k hk=>by
  have:=he k (List.mem_of_mem_take hk);omega
 have Hb:=Hd ha;have Hc:=Hd hl;obtain⟨ty,ht⟩:∃x,ofK L (r:Int)=x:=⟨_,rfl⟩
 rw[ht]at hv Hc;have hF:IntKind.i64.wrap (((n+2:Nat):Int)-2)=(n:Int):=by rw[IntWalk.i64_in _ (by omega)];omega
 have hw:(n:Int)<(n:Int)+2:=by omega
 clear hP wf he hi ha hl ht hD hh hs hr h2 hc hg hn e2 ea eoa;go_enter func29,ntmps29
 go_upto_region 3 with fail
 refine N.region_M 16 hx (by kernel_rfl) (by kernel_rfl) rfl (by kernel_rfl) (by kernel_rfl) (fun _ _=>False) N.Pans.no (fun Wz=>Below (W0).heap.size (W0) Wz) (fun Wy Wz=>Below Wy.heap.size Wy Wz) (brf.drew) [.fix ?vG1_0,.fix ?vG1_1,.fix ?vG1_2,.fix ?vG1_3,.dep [] (fun _ v W=>∃a c,v=.slice a n c/\dA W W0.heap.size a c ((D.kids.take n).map (ofK L))),.fix ?vG1_5,.fix ?vG1_6,.fix ?vG1_7,.fix ?vG1_8,.fix ?vG1_9,.fix ?vG1_10,.fix ?vG1_11,.fix ?vG1_12,.fix ?vG1_13,.fix ?vG1_14,.dep [4] (fun _ v W=>∃a c,v=.slice a n c/\dA W W0.heap.size a c ((D.kids.take n).map (ofK L)))] [[],[],[],[],[],[],[],[],[],[],[],[],[],[],[],[4]] rfl (by kernel_rfl) (N.sts_kd ⟨trivial,trivial,trivial,trivial,(fun _ _ _ _ hk h=>by obtain⟨a,c,h1,h2⟩:=h;exact⟨a,c,h1,zL h2 hk⟩),trivial,trivial,trivial,trivial,trivial,trivial,trivial,trivial,trivial,trivial,(fun _ _ _ _ hk h=>by obtain⟨a,c,h1,h2⟩:=h;exact⟨a,c,h1,zL h2 hk⟩),trivial⟩) fun x=>?_;rotate_left 14
 iterate 4 (refine N.WalkM.fix ?_ ?_;refine N.StepS.known rfl (fun _=>brf) ?_;intro W hJ hP;obtain⟨hm,hp⟩:=bcell hJ;go_simp;rfl;simp only[N.pz])
 refine N.WalkM.dep ?sG1_4 ?rG1_4;case sG1_4=>(refine N.StepS.call' (f:=31) (args:=#[.pointer (some ⟨p.g,0,none⟩),.slice sla n cs]) rfl ?_ ?_;(intro W hJ hP;obtain⟨hm,hp⟩:=bcell hJ;(go_simp;try rfl));(intro W hJ hP;have hj:=dH t L b p sla cs (D.kids.take n) W (HP.o.step hJ) (Row.mono Hf.o hJ nlr) (by rw[Ha.o];omega) hy He.o;rw[Ha.o]at hj;refine hj.mono ?_;rintro e w' ⟨a,c,rfl,ho,hb⟩;exact⟨_,rfl,hJ.trans (hb.mono hJ.size),hb,⟨a,c,by rw[List.length_map,Ha.o],cA ho hJ.size⟩⟩))
 simp only[N.pz]
 iterate 10 (refine N.WalkM.fix ?_ ?_;refine N.StepS.known rfl (fun _=>brf) ?_;intro W hJ hP;obtain⟨hm,hp⟩:=bcell hJ;go_simp;rfl;simp only[N.pz])
 refine N.WalkM.dep ?sG1_15 ?rG1_15;case sG1_15=>exact N.StepS.runs rfl (fun W hJ hP=>by obtain⟨a,c,h4,ho⟩:∃a c,x 4=.slice a n c/\dA W W0.heap.size a c ((D.kids.take n).map (ofK L)):=hP 4 (by kernel_rfl);generalize x 4=y4 at *;subst h4;exact⟨.slice a n c,W,(by(go_simp;try rfl)),hJ,brf,⟨a,c,rfl,ho⟩⟩)
 simp only[N.pz];refine N.WalkM.nil fun W hJ hH=>?_;obtain⟨a9,c9,hu,ho⟩:∃a c,x 15=.slice a n c/\dA W W0.heap.size a c ((D.kids.take n).map (ofK L)):=hH 15;generalize x 15=y15 at *;subst hu;have HO:=Hd ho;have HJ:=Hd hJ;clear hJ hH ho;simp only[List.drop_succ_cons,List.drop_zero];go_wp2;refine bodyPost_ret (v:=.tuple #[.slice a9 n c9,strV ty]) (by simp[results,results29,go_sem]) rfl ?_;exact⟨a9,c9,by rw[Hb.o,Hc.o,List.length_map,Ha.o],by rw[Hb.o];exact HO.o,HJ.o⟩
structure OF (t:Tr) (i:Nat) (l:List (List UInt8)):Prop where
 h21:(t.nd (i:Int)).kind=21->∃d r:Nat,means t i=d/\d<t.nodes.length/\2<=(t.nd (d:Int)).kids.length/\(t.nd (d:Int)).kids[(t.nd (d:Int)).kids.length-2]?=some (r:Int)/\r<t.nodes.length
 h22:(t.nd (i:Int)).kind=22->1<=l.length
 h23:(t.nd (i:Int)).kind=23->2<=l.length
 h24:(t.nd (i:Int)).kind=24->∃d:Nat,means t i=d/\d<t.nodes.length
 h26:(t.nd (i:Int)).kind=26->1<=l.length/\l.length<100
 short:∀x∈l,x.length<=1000000
 len:l.length<=1000000
theorem nO{W:World}{a:Option Addr}{c:Nat}{l:List (List UInt8)}(h:Strs W a c l){j:Nat}(hj:j<l.length):∃b o,a=some ⟨b,o,none⟩/\b<W.heap.size/\W.cell? ⟨b,o+j,none⟩=some (strV (l.getD j [])):=by
 obtain⟨b,o,e,hb,hc⟩:=Strs.at h hj;exact⟨b,o,e,hb,by rw[hc,List.getD_eq_getElem?_getD,List.getElem?_eq_getElem hj,Option.getD_some]⟩
theorem sT(t:Tr)(L:List (List UInt8))(b:Nat)(p:bF)(i:Nat)(la:Option Addr)(lc:Nat)(l:List (List UInt8))(W:World)(wf:WF t)(hi:i<t.nodes.length)(hb:b<=t.nodes.length)(hN:OF t i l)(hl:Strs W la lc l)(hP:KindP t L b p W) :
 Calls prog 97 #[.pointer (some ⟨p.g,0,none⟩),intV i,.slice la l.length lc] W (sX W (zS t L b i l)):=by
 have h8:prog.follows .mixedOrders=true:=by kernel_rfl
 have hZ:=wf.bd.n;have HP:=Hd hP;have Hi:=Hd wf;have He:=Hd hl;have c0:=hP.c0;have c2:=hP.c2;have hgl:=hP.gl;obtain⟨bn,on,ka,kc,ea,hbn,m0,m1,m2,m3,m4,hM⟩:=hP.tree.nodes.at hi;rw[ea]at c0;obtain⟨bd,od,eda,hbd,hR⟩:=hP.declAt hi;rw[eda]at c2;have hU:=t.nd_at hi;obtain⟨hf,hg,hh,hj,hk,h0,hll⟩:=hN;rw[hU]at hf hg hh hj hk;have hK:=wf.kid i hi
 have hH:zS t L b i l=(if t.nodes[i].kind==21 then (if dY t L (means t i)==l then fB t L (means t i)else [])
  else if t.nodes[i].kind==22 then gZ t L b (l.getD 0 []) t.nodes[i].text
  else if t.nodes[i].kind==23 then (match aW (l.getD 0 [])with|some (of,_)=>if l.getD 1 []==intT then of else []|none=>[])
  else if t.nodes[i].kind==24 then (if eqF (cW t L) t.nodes[i].kids (t.nd (means t i)).kids then t.nodes[i].text else [])
  else if t.nodes[i].kind==26 then (if areB (l.getD 0 []) l then bC (l.getD 0 []) l.length else [])
  else []):=by unfold zS;rw[hU];rfl
 have hL:=wf.bd.k _ (List.getElem_mem hi);obtain⟨D,hD⟩:∃D,t.nodes[i]=D:=⟨_,rfl⟩
 rw[hD]at m0 m1 m2 m3 m4 hM hf hg hh hj hk hH hK hL;obtain⟨k,tx,nn,kids,pos⟩:=D;simp only at m0 m1 m2 m3 m4 hM hf hg hh hj hk hH hK hL;have Hc:=Hd hH;have Hq:=Hd hM;have Ht:=Hd hK;have Hl:=Hd h0;have Hs:=Hd ea;clear hP wf hl hH hM hD hU hK h0 ea eda;have Ha:Hid (Below W.heap.size W (W.alloc (.cells #[.int .u8 k,strV tx,intV nn,.slice ka kids.length kc,intV pos] 31))):=Hd (brf.alloc nlr _);have Hf:=Hd (HP.o.step Ha.o);by_cases g21:k=21
 .subst g21
  obtain⟨d,r,hd,hm,h2,hr,h9⟩:=hf rfl;rw[hd]at hR Hc;have HR:Hid (zS t L b i l=if dY t L d==l then fB t L d else []):=Hd Hc.o;clear hf hg hh hj hk hd;have A1:=Hd True.intro;have Hk:=Hd (uG t L b p d r _ Hi.o hm h2 hr h9 Hf.o);clear h2 hr;obtain⟨P,hO⟩:∃P,dY t L d=P:=⟨_,rfl⟩
  obtain⟨R,hX⟩:∃R,fB t L d=R:=⟨_,rfl⟩
  rw[hO,hX]at Hk HR
  have hW:P.length<=1000000000:=by
   rw[<-hO];unfold dY;rw[List.length_map,List.length_take,t.nd_at hm];have:=Hi.o.bd.k _ (List.getElem_mem hm);omega
  clear hO hX;obtain⟨q,hq⟩:∃q,(P==l)=q:=⟨_,rfl⟩
  have HQ:=Hd hq;rw[hq]at HR;clear hq;go_enter func97,ntmps97
  cases q with
  | true=>
    go_wp2_with (first
     | (have:=A2;clear this;go_at_call 139;refine(pC a9 la c9 lc P l _ hW (by omega) (zT Hj.o) (Row.mono He.o Hg.o nlr)).mono ?_;rw[HQ.o];rintro e w2 ⟨rfl,ho⟩;have Hb:=Hd (Hg.o.trans (ho.mono Hg.o.size));clear ho A2)
     | (have:=A1;clear this;go_at_call 29;refine Hk.o.mono ?_;rintro e w9 ⟨a9,c9,rfl,hF,hA⟩;have Hj:=Hd hF;have Hg:=Hd (Ha.o.trans (hA.mono Ha.o.size));clear hF hA A1;have A2:=Hd True.intro))
    go_ret;exact⟨by rw[HR.o];rfl,Hb.o⟩
  | false=>
    go_wp2_with (first
     | (have:=A2;clear this;go_at_call 139;refine(pC a9 la c9 lc P l _ hW (by omega) (zT Hj.o) (Row.mono He.o Hg.o nlr)).mono ?_;rw[HQ.o];rintro e w2 ⟨rfl,ho⟩;have Hb:=Hd (Hg.o.trans (ho.mono Hg.o.size));clear ho A2)
     | (have:=A1;clear this;go_at_call 29;refine Hk.o.mono ?_;rintro e w9 ⟨a9,c9,rfl,hF,hA⟩;have Hj:=Hd hF;have Hg:=Hd (Ha.o.trans (hA.mono Ha.o.size));clear hF hA A1;have A2:=Hd True.intro))
    go_ret;exact⟨by rw[HR.o];rfl,Hb.o⟩
 have n21:(k==21)=false:=by simpa using g21
 rw[n21]at Hc;simp only[Bool.false_eq_true,if_false]at Hc;by_cases g22:k=22
 .subst g22
  have hY:=hg rfl;obtain⟨bl,ol,hu,hp,hc⟩:=nO He.o (show 0<l.length by omega);subst hu;rw[Nat.add_zero]at hc;have hw:(l.getD 0 []).length<=1000000:=by rw[List.getD_eq_getElem?_getD,List.getElem?_eq_getElem (by omega)];exact Hl.o _ (List.getElem_mem _)
  obtain⟨k0,hn⟩:∃q,l.getD 0 []=q:=⟨_,rfl⟩
  rw[hn]at hc hw Hc;have HR:Hid (zS t L b i l=gZ t L b k0 tx):=Hd Hc.o;clear hf hg hh hj hk hn n21 g21;go_enter func97,ntmps97;go_wp2;obtain⟨X1,hI⟩:∃X,W.alloc (.cells #[.int .u8 22,strV tx,intV nn,.slice ka kids.length kc,intV pos] 31)=X:=⟨_,rfl⟩
  rw[hI]at Ha Hf|-;have e1:X1.cell? ⟨W.heap.size,1,none⟩=some (strV tx):=by rw[<-hI];exact za (World.alloc_heap_new _ _) rfl
  have es:W.heap.size<X1.heap.size:=by rw[<-hI];simp
  have h5:=(Ha.o.cell (p:=⟨bl,ol,none⟩) hp).trans hc;have h1:=Nat.lt_of_lt_of_le hp Ha.o.size;have hl0:0<l.length:=by omega
  clear hI hc hp m0 m1 m2 m3 m4 c0 c2 hR;refine N.region_JTm 7 h8 (by kernel_rfl) (by kernel_rfl) rfl (by kernel_rfl) (by kernel_rfl) (fun Wz=>Below (X1).heap.size (X1) Wz) (brf.drew) ?_
  iterate 6 (refine N.WalkT.cons ?_ (N.StepP.pure rfl ?_) ?_;rotate_left;(intro W hJ;obtain⟨h4,h6⟩:=bcell hJ;go_simp;rfl);simp only[N.pz])
  refine N.WalkT.cons (strV (gZ t L b k0 tx)) (N.StepP.call (f:=140) (args:=#[.pointer (some ⟨p.g,0,none⟩),strV k0,strV tx]) rfl ?hG1_6 ?cG1_6) ?rG1_6;case hG1_6=>intro W hJ;obtain⟨h4,h6⟩:=bcell hJ;go_simp;try rfl
  case cG1_6=>intro W hJ;(refine(DG t L b p k0 tx W Hi.o hb hw (Hf.o.step hJ)).mono ?_;rintro e w' ⟨rfl,ho⟩;exact⟨rfl,hJ.trans (ho.mono hJ.size)⟩)
  simp only[N.pz];refine N.WalkT.nil fun W hJ=>?_;go_wp2;go_ret;exact⟨by rw[HR.o];rfl,Ha.o.trans (hJ.mono Ha.o.size)⟩
 have n22:(k==22)=false:=by simpa using g22
 rw[n22]at Hc;simp only[Bool.false_eq_true,if_false]at Hc;by_cases g23:k=23
 .subst g23
  have hY:=hh rfl;obtain⟨bl,ol,hu,hp,hc⟩:=nO He.o (show 0<l.length by omega);obtain⟨bl2,ol2,hv,-,hB⟩:=nO He.o (show 1<l.length by omega);rw[hu]at hv;simp only[Option.some.injEq,Addr.mk.injEq,and_true]at hv;obtain⟨rfl,rfl⟩:=hv;subst hu;rw[Nat.add_zero]at hc;have hw:(l.getD 0 []).length<=1000000:=by rw[List.getD_eq_getElem?_getD,List.getElem?_eq_getElem (by omega)];exact Hl.o _ (List.getElem_mem _)
  obtain⟨k0,hn⟩:∃q,l.getD 0 []=q:=⟨_,rfl⟩
  obtain⟨k1,hC⟩:∃q,l.getD 1 []=q:=⟨_,rfl⟩
  rw[hn]at hc hw Hc;rw[hC]at hB Hc;have Hm:=Hd hB;have Hh:=Hd hp;clear hf hg hh hj hk hn hC n21 g21 n22 g22
  cases he:aW k0 with
  | none=>
    have HR:Hid (zS t L b i l=[]):=Hd (by rw[Hc.o,he];rfl);have HE:=Hd he;clear he;go_enter func97,ntmps97
    go_wp2_with (go_at_call 28;refine(fJ k0 _ (by omega) Hf.o.gvk).mono ?_;rintro e w1 ⟨x,y,rfl,-,ha⟩;rw[HE.o];simp only[Option.isSome_none];have Hb:=Hd (Ha.o.trans (ha.mono Ha.o.size));clear ha)
    go_ret;exact⟨by rw[HR.o];rfl,Hb.o⟩
  | some q=>
    obtain⟨of,n⟩:=q;have HE:=Hd he;obtain⟨z,hz⟩:∃z,(k1==[105,110,116])=z:=⟨_,rfl⟩
    have HR:Hid (zS t L b i l=if z then of else []):=Hd (by rw[Hc.o,he,<-hz];rfl);clear he
    cases z with
    | true=>
      go_enter func97,ntmps97
      go_wp2_with (go_at_call 28;refine(fJ k0 _ (by omega) Hf.o.gvk).mono ?_;rintro e w1 ⟨x,y,rfl,hG,ha⟩;obtain⟨hx,hy⟩:=hG _ HE.o;obtain rfl:of=x:=hx.symm;obtain rfl:(n:Int)=y:=hy.symm;rw[HE.o];simp only[Option.isSome_some];have Hb:=Hd (Ha.o.trans (ha.mono Ha.o.size));have hS:=(Hb.o.cell (p:=⟨bl,ol+1,none⟩) Hh.o).trans Hm.o;have hQ:=Nat.lt_of_lt_of_le Hh.o Hb.o.size;clear ha hx hy hG)
      go_ret;exact⟨by rw[HR.o];rfl,Hb.o⟩
    | false=>
      go_enter func97,ntmps97
      go_wp2_with (go_at_call 28;refine(fJ k0 _ (by omega) Hf.o.gvk).mono ?_;rintro e w1 ⟨x,y,rfl,hG,ha⟩;obtain⟨hx,hy⟩:=hG _ HE.o;obtain rfl:of=x:=hx.symm;obtain rfl:(n:Int)=y:=hy.symm;rw[HE.o];simp only[Option.isSome_some];have Hb:=Hd (Ha.o.trans (ha.mono Ha.o.size));have hS:=(Hb.o.cell (p:=⟨bl,ol+1,none⟩) Hh.o).trans Hm.o;have hQ:=Nat.lt_of_lt_of_le Hh.o Hb.o.size;clear ha hx hy hG)
      go_ret;exact⟨by rw[HR.o];rfl,Hb.o⟩
 have n23:(k==23)=false:=by simpa using g23
 rw[n23]at Hc;simp only[Bool.false_eq_true,if_false]at Hc;by_cases g24:k=24
 .subst g24
  obtain⟨d,hd,hm⟩:=hj rfl;rw[hd]at hR Hc;obtain⟨bn2,on2,kd,kdc,ea2,h3,-,-,-,d3,-,hT⟩:=HP.o.tree.nodes.at hm;rw[Hs.o]at ea2;simp only[Option.some.injEq,Addr.mk.injEq,and_true]at ea2;obtain⟨rfl,rfl⟩:=ea2;have hs:=Hi.o.kid d hm;have ht:=Hi.o.bd.k _ (List.getElem_mem hm);rw[t.nd_at hm]at Hc;obtain⟨KD,hV⟩:∃q,t.nodes[d].kids=q:=⟨_,rfl⟩
  rw[hV]at d3 hT hs ht Hc;obtain⟨z,hz⟩:∃z,eqF (cW t L) kids KD=z:=⟨_,rfl⟩
  have HR:Hid (zS t L b i l=if z then tx else []):=Hd (by rw[Hc.o,<-hz];rfl);have HZ:=Hd hz;have Hp:=Hd hT;have Hn:Hid (∀x∈kids,0<=x/\x<(t.nodes.length:Int)):=Hd fun x hx=>by have:=Ht.o x hx;omega
  have Ho:Hid (∀x∈KD,0<=x/\x<(t.nodes.length:Int)):=Hd fun x hx=>by have:=hs x hx;omega
  clear hf hg hh hj hk n21 g21 n22 g22 n23 g23 hz hV hT hs hd
  cases z with
  | true=>
    go_enter func97,ntmps97;go_wp2;go_region
    go_wp2_with (go_at_call 141;refine(BB t L b p ka kd kc kdc kids KD _ (Hf.o.step brf.drew) hL ht hZ Hn.o Ho.o (Row.mono (Row.mono Hq.o Ha.o nlr) brf.drew nlr) (Row.mono (Row.mono Hp.o Ha.o nlr) brf.drew nlr)).mono ?_;rw[HZ.o];rintro e w1 ⟨rfl,ha⟩;have Hb:=Hd (Ha.o.trans ((brf.drew.trans ha).mono Ha.o.size));have hS:=(ha.cell (p:=⟨W.heap.size,1,none⟩) (by simp)).trans (show _=some (strV tx)from by simp);have hQ:W.heap.size<w1.heap.size:=Nat.lt_of_lt_of_le (by simp) ha.size;clear ha)
    go_ret;exact⟨by rw[HR.o];rfl,Hb.o⟩
  | false=>
    go_enter func97,ntmps97;go_wp2;go_region
    go_wp2_with (go_at_call 141;refine(BB t L b p ka kd kc kdc kids KD _ (Hf.o.step brf.drew) hL ht hZ Hn.o Ho.o (Row.mono (Row.mono Hq.o Ha.o nlr) brf.drew nlr) (Row.mono (Row.mono Hp.o Ha.o nlr) brf.drew nlr)).mono ?_;rw[HZ.o];rintro e w1 ⟨rfl,ha⟩;have Hb:=Hd (Ha.o.trans ((brf.drew.trans ha).mono Ha.o.size));clear ha)
    go_ret;exact⟨by rw[HR.o];rfl,Hb.o⟩
 have n24:(k==24)=false:=by simpa using g24
 rw[n24]at Hc;simp only[Bool.false_eq_true,if_false]at Hc;by_cases g26:k=26
 .subst g26
  obtain⟨hY,h7⟩:=hk rfl;obtain⟨bl,ol,hu,hp,hc⟩:=nO He.o (show 0<l.length by omega);have Hu:=Hd hu;have hw:(l.getD 0 []).length<=1000000:=by rw[List.getD_eq_getElem?_getD,List.getElem?_eq_getElem (by omega)];exact Hl.o _ (List.getElem_mem _)
  obtain⟨k0,hn⟩:∃q,l.getD 0 []=q:=⟨_,rfl⟩
  subst hu;rw[Nat.add_zero]at hc;rw[hn]at hc hw Hc;obtain⟨z,hz⟩:∃z,areB k0 l=z:=⟨_,rfl⟩
  have HR:Hid (zS t L b i l=if z then bC k0 l.length else []):=Hd (by rw[Hc.o,<-hz];rfl);have HZ:=Hd hz;have Hr:=Hd hc;have Hh:=Hd hp;have hE:l.length<=1000000000:=by omega
  clear hf hg hh hj hk n21 g21 n22 g22 n23 g23 n24 g24 hz hn
  cases z with
  | true=>
    go_enter func97,ntmps97
    go_wp2_with (first
     | (go_at_call 96;refine(bR k0 (some ⟨bl,ol,none⟩) lc l _ hE (Row.mono He.o Ha.o nlr)).mono ?_;rw[HZ.o];rintro e w1 ⟨rfl,ha⟩;have Hb:=Hd (Ha.o.trans (ha.mono Ha.o.size));have hS:=(Hb.o.cell (p:=⟨bl,ol,none⟩) Hh.o).trans Hr.o;have hQ:=Nat.lt_of_lt_of_le Hh.o Hb.o.size;clear ha)
     | (go_at_call 68;refine(lM k0 l.length _ (by omega) h7).mono ?_;rintro e w2 ⟨rfl,rfl⟩))
    go_ret;exact⟨by rw[HR.o];rfl,Hb.o⟩
  | false=>
    go_enter func97,ntmps97
    go_wp2_with (go_at_call 96;refine(bR k0 (some ⟨bl,ol,none⟩) lc l _ hE (Row.mono He.o Ha.o nlr)).mono ?_;rw[HZ.o];rintro e w1 ⟨rfl,ha⟩;have Hb:=Hd (Ha.o.trans (ha.mono Ha.o.size));clear ha)
    go_ret;exact⟨by rw[HR.o];rfl,Hb.o⟩
 have n26:(k==26)=false:=by simpa using g26
 have HR:Hid (zS t L b i l=[]):=Hd (by rw[Hc.o,n26];rfl);clear hf hg hh hj hk g21 g22 g23 g24 g26;go_enter func97,ntmps97;go_wp2;go_ret;exact⟨by rw[HR.o];rfl,Ha.o⟩
structure FA (t:Tr) (L:List (List UInt8)) (i:Nat):Prop where
 node:OF t i ((t.nd (i:Int)).kids.map (ofK L))
 h3:(t.nd (i:Int)).kind=3->∃d:Nat,means t i=d/\d<t.nodes.length/\((t.nd (d:Int)).kind=43\/(t.nd (d:Int)).kind=20->∃a:Nat,(t.nd (d:Int)).kids[0]?=some (a:Int)/\a<t.nodes.length)/\(t.nd (d:Int)).kids.length<=1000000
 h19:(t.nd (i:Int)).kind=19->3<=(t.nd (i:Int)).kids.length
 h20:(t.nd (i:Int)).kind=20->2<=(t.nd (i:Int)).kids.length
theorem FF(t:Tr)(L:List (List UInt8))(b:Nat)(p:bF)(i:Nat)(W:World)(wf:WF t)(hi:i<t.nodes.length)(hb:b<=t.nodes.length)(hE:FA t L i)(hP:KindP t L b p W) :
 Calls prog 66 #[.pointer (some ⟨p.g,0,none⟩),intV i] W (sX W (aJ t L b i)):=by
 have hT:prog.follows .mixedOrders=true:=by kernel_rfl
 have hI:=wf.bd.n;have HP:=Hd hP;have Hr:=Hd wf;have c0:=hP.c0;have hR:=hP.gl;obtain⟨bn,on,ka,kc,ea,hM,m0,m1,m2,m3,m4,ho⟩:=hP.tree.nodes.at hi;rw[ea]at c0;have hJ:=t.nd_at hi;obtain⟨hN,h3,hc,he⟩:=hE;have Hi:=Hd hN
 have hj:aJ t L b i=(fun k l=>if k==1 then intT else if k==2 then zz else if k==3 then eP t L (means t i)
  else if k==4||k==6||k==7||k==8||k==9||k==10 then (if areB intT l then intT else [])
  else if k==5||k==17||k==18 then (if areB zz l then zz else [])
  else if k==11||k==12 then (if areB intT l||areB zz l then zz else [])
  else if k==13||k==14||k==15||k==16 then (if areB intT l then zz else [])
  else if k==19 then (if l.getD 0 []==zz&&l.getD 1 []==l.getD 2 []then l.getD 1 []else [])
  else if k==20 then l.getD 1 []
  else zS t L b i l) (t.nd (i:Int)).kind ((t.nd (i:Int)).kids.map (ofK L)):=rfl
 have hn:=wf.kid i hi;have hs:=wf.bd.k _ (List.getElem_mem hi);rw[hJ]at hj h3 hc he Hi;obtain⟨D,hD⟩:∃D,t.nodes[i]=D:=⟨_,rfl⟩
 rw[hD]at m0 m1 m2 m3 m4 ho h3 hc he hn hs hj Hi;obtain⟨k,tx,nn,kids,pos⟩:=D;simp only at m0 m1 m2 m3 m4 ho h3 hc he hn hs hj Hi;have Hk:=Hd ho;have Hp:Hid (∀x∈kids,0<=x/\x<(t.nodes.length:Int)):=Hd fun x hx=>by have:=hn x hx;omega
 have hf:(kids.map (ofK L)).length<=1000000000:=by rw[List.length_map];omega
 have ht:(kids.map (ofK L)).length=kids.length:=by simp
 obtain⟨l,hl⟩:∃l,kids.map (ofK L)=l:=⟨_,rfl⟩
 rw[hl]at hj Hi hf ht;rw[<-ht]at hc he;have HL:=Hd hl;have He:=Hd hj;have Hh:Hid (Below W.heap.size W (W.alloc (.cells #[.int .u8 k,strV tx,intV nn,.slice ka kids.length kc,intV pos] 31))):=Hd (brf.alloc nlr _);have Hl:=Hd (HP.o.step Hh.o);clear hP wf hj ho hD hJ hn hN ea hl ht;go_enter func66,ntmps66
 go_upto_region 3 with(go_at_call 31;refine(dH t L b p ka kc kids _ Hl.o (Row.mono Hk.o Hh.o nlr) hs hI Hp.o).mono ?_;rw[HL.o];rintro e w6 ⟨a6,c6,rfl,hK,hm⟩;have Hc:=Hd (zT hK);have Hj:=Hd (Hh.o.trans (hm.mono Hh.o.size));have n0:=(hm.cell (p:=⟨W.heap.size,0,none⟩) (by simp)).trans (show _=some (.int .u8 k)from by simp);have ng:W.heap.size<w6.heap.size:=Nat.lt_of_lt_of_le (by simp) hm.size;clear hK hm)
 clear m0 m1 m2 m3 m4 c0 hR hM;have Hm:=Hd (HP.o.step Hj.o);obtain⟨gN,hw⟩:∃g,W.heap.size=g:=⟨_,rfl⟩
 have Ha:Hid (Below W.heap.size W w6):=Hj;rw[hw]at n0 ng|-;clear hw Hh Hl Hk;by_cases hA:k=1\/k=2
 .rcases hA with rfl|rfl
  all_goals
   have HR:=Hd He.o;clear h3 hc he;go_wp2;go_ret;exact⟨by rw[HR.o];rfl,Ha.o⟩
 by_cases hA3:k=3
 .subst hA3
  obtain⟨d,hd,hQ,hy,hz⟩:=h3 rfl;have HR:Hid (aJ t L b i=eP t L d):=Hd (by rw[He.o,<-hd];rfl);have Hq:=Hd (DI t L b p i d w6 hI hi hd hQ hy hz Hm.o);clear h3 hc he hd hy hz hA
  go_wp2_with (go_at_call 95;refine Hq.o.mono ?_;rintro e w7 ⟨rfl,ha⟩;have Hb:=Hd (Ha.o.trans (ha.mono Ha.o.size));clear ha)
  go_ret;exact⟨by rw[HR.o];rfl,Hb.o⟩
 by_cases hB:k=4\/k=6\/k=7\/k=8\/k=9\/k=10
 .obtain⟨q,hq⟩:∃q,areB intT l=q:=⟨_,rfl⟩
  have HQ:=Hd hq;have HR:Hid (aJ t L b i=if q then intT else []):=Hd (by rw[He.o,<-hq];rcases hB with rfl|rfl|rfl|rfl|rfl|rfl<;>rfl);clear hq h3 hc he;rcases hB with rfl|rfl|rfl|rfl|rfl|rfl
  all_goals
   cases q with
   | true=>
     go_wp2_with (go_at_call 96;refine(bR intT a6 c6 l _ hf Hc.o).mono ?_;rw[HQ.o];rintro e w7 ⟨rfl,ha⟩;have Hb:=Hd (Ha.o.trans (ha.mono Ha.o.size));clear ha)
     go_ret;exact⟨by rw[HR.o];rfl,Hb.o⟩
   | false=>
     go_wp2_with (go_at_call 96;refine(bR intT a6 c6 l _ hf Hc.o).mono ?_;rw[HQ.o];rintro e w7 ⟨rfl,ha⟩;have Hb:=Hd (Ha.o.trans (ha.mono Ha.o.size));clear ha)
     go_ret;exact⟨by rw[HR.o];rfl,Hb.o⟩
 by_cases hC:k=5\/k=17\/k=18
 .obtain⟨q,hq⟩:∃q,areB zz l=q:=⟨_,rfl⟩
  have HQ:=Hd hq;have HR:Hid (aJ t L b i=if q then zz else []):=Hd (by rw[He.o,<-hq];rcases hC with rfl|rfl|rfl<;>rfl);clear hq h3 hc he;rcases hC with rfl|rfl|rfl
  all_goals
   cases q with
   | true=>
     go_wp2_with (go_at_call 96;refine(bR zz a6 c6 l _ hf Hc.o).mono ?_;rw[HQ.o];rintro e w7 ⟨rfl,ha⟩;have Hb:=Hd (Ha.o.trans (ha.mono Ha.o.size));clear ha)
     go_ret;exact⟨by rw[HR.o];rfl,Hb.o⟩
   | false=>
     go_wp2_with (go_at_call 96;refine(bR zz a6 c6 l _ hf Hc.o).mono ?_;rw[HQ.o];rintro e w7 ⟨rfl,ha⟩;have Hb:=Hd (Ha.o.trans (ha.mono Ha.o.size));clear ha)
     go_ret;exact⟨by rw[HR.o];rfl,Hb.o⟩
 by_cases hD:k=13\/k=14\/k=15\/k=16
 .obtain⟨q,hq⟩:∃q,areB intT l=q:=⟨_,rfl⟩
  have HQ:=Hd hq;have HR:Hid (aJ t L b i=if q then zz else []):=Hd (by rw[He.o,<-hq];rcases hD with rfl|rfl|rfl|rfl<;>rfl);clear hq h3 hc he;rcases hD with rfl|rfl|rfl|rfl
  all_goals
   cases q with
   | true=>
     go_wp2_with (go_at_call 96;refine(bR intT a6 c6 l _ hf Hc.o).mono ?_;rw[HQ.o];rintro e w7 ⟨rfl,ha⟩;have Hb:=Hd (Ha.o.trans (ha.mono Ha.o.size));clear ha)
     go_ret;exact⟨by rw[HR.o];rfl,Hb.o⟩
   | false=>
     go_wp2_with (go_at_call 96;refine(bR intT a6 c6 l _ hf Hc.o).mono ?_;rw[HQ.o];rintro e w7 ⟨rfl,ha⟩;have Hb:=Hd (Ha.o.trans (ha.mono Ha.o.size));clear ha)
     go_ret;exact⟨by rw[HR.o];rfl,Hb.o⟩
 by_cases hF:k=11\/k=12
 .obtain⟨q,hq⟩:∃q,areB intT l=q:=⟨_,rfl⟩
  obtain⟨q2,hu⟩:∃q,areB zz l=q:=⟨_,rfl⟩
  have HQ:=Hd hq;have Hn:=Hd hu;have HR:Hid (aJ t L b i=if q||q2 then zz else []):=Hd (by rw[He.o,<-hq,<-hu];rcases hF with rfl|rfl<;>rfl);clear hq hu h3 hc he;rcases hF with rfl|rfl
  all_goals
   cases q with
   | true=>
     go_wp2_with (go_at_call 96;refine(bR intT a6 c6 l _ hf Hc.o).mono ?_;rw[HQ.o];rintro e w7 ⟨rfl,ha⟩;have Hb:=Hd (Ha.o.trans (ha.mono Ha.o.size));clear ha)
     go_ret;exact⟨by rw[HR.o];rfl,Hb.o⟩
   | false=>
     have A1:=Hd True.intro
     cases q2 with
     | true=>
       go_wp2_with (first
        | (have:=A2;clear this;go_at_call 96;refine(bR zz a6 c6 l _ hf (Row.mono Hc.o Hg.o nlr)).mono ?_;rw[Hn.o];rintro e w8 ⟨rfl,hk⟩;have Hb:=Hd (Ha.o.trans ((Hg.o.trans (hk.mono Hg.o.size)).mono Ha.o.size));clear hk A2)
        | (have:=A1;clear this;go_at_call 96;refine(bR intT a6 c6 l _ hf Hc.o).mono ?_;rw[HQ.o];rintro e w7 ⟨rfl,ha⟩;have Hg:=Hd ha;clear ha A1;have A2:=Hd True.intro))
       go_ret;exact⟨by rw[HR.o];rfl,Hb.o⟩
     | false=>
       go_wp2_with (first
        | (have:=A2;clear this;go_at_call 96;refine(bR zz a6 c6 l _ hf (Row.mono Hc.o Hg.o nlr)).mono ?_;rw[Hn.o];rintro e w8 ⟨rfl,hk⟩;have Hb:=Hd (Ha.o.trans ((Hg.o.trans (hk.mono Hg.o.size)).mono Ha.o.size));clear hk A2)
        | (have:=A1;clear this;go_at_call 96;refine(bR intT a6 c6 l _ hf Hc.o).mono ?_;rw[HQ.o];rintro e w7 ⟨rfl,ha⟩;have Hg:=Hd ha;clear ha A1;have A2:=Hd True.intro))
       go_ret;exact⟨by rw[HR.o];rfl,Hb.o⟩
 by_cases hG:k=19
 .subst hG
  have hS:=hc rfl;obtain⟨bl,ol,hp,hL,hv⟩:=nO Hc.o (show 0<l.length by omega);obtain⟨bl1,ol1,hg,-,hr⟩:=nO Hc.o (show 1<l.length by omega);obtain⟨bl2,ol2,hh,-,hO⟩:=nO Hc.o (show 2<l.length by omega);rw[hp]at hg hh;simp only[Option.some.injEq,Addr.mk.injEq,and_true]at hg hh;obtain⟨rfl,rfl⟩:=hg;obtain⟨rfl,rfl⟩:=hh;subst hp;rw[Nat.add_zero]at hv;have Hf:Hid (aJ t L b i=if l.getD 0 []==zz&&l.getD 1 []==l.getD 2 []then l.getD 1 []else []):=Hd He.o;obtain⟨k0,e0⟩:∃q,l.getD 0 []=q:=⟨_,rfl⟩
  obtain⟨k1,e1⟩:∃q,l.getD 1 []=q:=⟨_,rfl⟩
  obtain⟨k2,e2⟩:∃q,l.getD 2 []=q:=⟨_,rfl⟩
  rw[e0,e1,e2]at Hf;rw[e0]at hv;rw[e1]at hr;rw[e2]at hO;have g0:0<l.length:=by omega
  have g1:1<l.length:=by omega
  have g2:2<l.length:=by omega
  unfold zz at Hf;clear h3 hc he e0 e1 e2;cases q0:k0==[98,111,111,108]with
  | false=>
    have HR:Hid (aJ t L b i=[]):=Hd (by rw[Hf.o,q0];rfl);go_wp2;go_region;go_wp2;go_ret;exact⟨by rw[HR.o];rfl,Ha.o.trans (brf.drew.mono Ha.o.size)⟩
  | true=>
    cases q1:k1==k2 with
    | false=>
      have HR:Hid (aJ t L b i=[]):=Hd (by rw[Hf.o,q0,q1];rfl);go_wp2;go_region;go_wp2;go_ret;exact⟨by rw[HR.o];rfl,Ha.o.trans (brf.drew.mono Ha.o.size)⟩
    | true=>
      have HR:Hid (aJ t L b i=k1):=Hd (by rw[Hf.o,q0,q1];rfl);go_wp2;go_region;go_wp2;go_ret;exact⟨by rw[HR.o];rfl,Ha.o.trans (brf.drew.mono Ha.o.size)⟩
 by_cases hH:k=20
 .subst hH
  have hS:=he rfl;obtain⟨bl,ol,hp,hL,hr⟩:=nO Hc.o (show 1<l.length by omega);subst hp;have Hf:Hid (aJ t L b i=l.getD 1 []):=Hd He.o;obtain⟨k1,e1⟩:∃q,l.getD 1 []=q:=⟨_,rfl⟩
  rw[e1]at Hf hr;have g1:1<l.length:=by omega
  clear h3 hc he e1;go_wp2;go_ret;exact⟨by rw[Hf.o];rfl,Ha.o⟩
 have HR:Hid (aJ t L b i=zS t L b i l):=Hd (by
  rw[He.o];simp only[not_or]at hA hB hC hD hF
  simp[hA,hA3,hB,hC,hD,hF,hG,hH])
 have g1:(k==1)=false:=by simp;intro e;exact hA (.inl e)
 have g2:(k==2)=false:=by simp;intro e;exact hA (.inr e)
 have g3:(k==3)=false:=by simpa using hA3
 have gg:∀x:Int,x∈[4,6,7,8,9,10,5,17,18,13,14,15,16,11,12,19,20]->(k==x)=false:=fun x hx=>by
  simp only[List.mem_cons,List.mem_nil_iff,or_false]at hx;simp only[beq_eq_false_iff_ne];omega
 have g4:=gg 4 (by simp);have g6:=gg 6 (by simp);have g7:=gg 7 (by simp);have g8:=gg 8 (by simp);have g9:=gg 9 (by simp);have g10:=gg 10 (by simp);have g5:=gg 5 (by simp);have g17:=gg 17 (by simp);have g18:=gg 18 (by simp);have g13:=gg 13 (by simp);have g14:=gg 14 (by simp);have g15:=gg 15 (by simp);have g16:=gg 16 (by simp);have g11:=gg 11 (by simp);have g12:=gg 12 (by simp);have g19:=gg 19 (by simp);have g20:=gg 20 (by simp);have Ho:=Hd (sT t L b p i a6 c6 l w6 Hr.o hi hb Hi.o Hc.o Hm.o);clear h3 hc he hA hA3 hB hC hD hF hG hH gg
 go_wp2_with (go_at_call 97;refine Ho.o.mono ?_;rintro e w7 ⟨rfl,ha⟩;have Hb:=Hd (Ha.o.trans (ha.mono Ha.o.size));clear ha)
 go_ret;exact⟨by rw[HR.o];rfl,Hb.o⟩
end
section
open Go Go.RowKit
def exT(t:Tr):List (List UInt8):=(List.range t.nodes.length).map fun i:Nat=>if zl (t.nd (i:Int)).kind then tyP t i else []
theorem cP(t:Tr):(exT t).length=t.nodes.length:=by simp[exT]
section
variable {t : Tr} {S : List Int}
def dL(t:Tr)(L:List (List UInt8))(b f:Nat)(field:List UInt8):List Int->Int->Option (Int×Int×Int)
 | [],_=>some (0,0,7)
 |k::l,m=>(zU t L b f (ofK L k)).bind fun r=>if (t.nd k).text==field then some (m,r.1,0)else dL t L b f field l (m+r.1)
theorem dF{L:List (List UInt8)}{b f g:Nat}{field:List UInt8}(hfg:f<=g):∀(l:List Int) (n:Int) (r:Int×Int×Int),dL t L b f field l n=some r->dL t L b g field l n=some r
 | [],_,_,h=>h
 | y::l,n,r,h=>by
   rw[dL]at h|-;cases hy:zU t L b f (ofK L y)with
   |none=>rw[hy]at h;cases h
   | some z=>
     rw[hy]at h;rw[aG f g _ _ hfg hy];simp only[Option.bind_some]at h|-;split
     .rename_i hc;rwa[if_pos hc]at h
     .rename_i hc;rw[if_neg hc]at h;exact dF hfg l _ _ h
end
end
end Go.Proofs.YtcdkdiedphhdhaaGreatDoor
