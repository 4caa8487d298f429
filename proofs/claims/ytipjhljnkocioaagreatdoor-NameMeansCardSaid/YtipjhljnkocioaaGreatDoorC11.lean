/- Part of a proof. -/
import Derived.Test.YtipjhljnkocioaaGreatDoorC09
import Derived.BigRegion
set_option maxRecDepth 100000
set_option maxHeartbeats 8000000
set_option linter.unusedVariables false
set_option linter.unusedSimpArgs false
open Go.Proofs.Tryz
namespace Go.Proofs.YtipjhljnkocioaaGreatDoor
section
open Go.RowKit
def bigN(d:Nd):Bool:=decide (10<d.kids.length)||decide (40<d.text.length)
def fZ(t:Tr):Bool:=(decide (300<t.nodes.length)||decide (300<t.items.length))||t.nodes.any bigN
theorem nK{t:Tr}(h:fZ t=false):Bd t∧t.nodes.length≤300∧t.items.length≤300:=by
 unfold fZ at h;simp only[Bool.or_eq_false_iff,decide_eq_false_iff_not,List.any_eq_false,bigN,Bool.or_eq_true,decide_eq_true_eq,not_or]at h;obtain⟨⟨h1,h2⟩,h3⟩:=h;exact⟨⟨by omega,by omega,fun d hd=>by have:=(h3 d hd).1;omega,fun d hd=>by have:=(h3 d hd).2;omega⟩,by omega,by omega⟩
theorem DS{p:Nd→Bool}{l:List Nd}{k:Nat}(hk:k<l.length)(h:(l.take k).any p=false)(h2:p l[k]=false):(l.take (k+1)).any p=false:=by
 rw[List.take_succ_eq_append_getElem hk,List.any_append,h,List.any_cons,h2];rfl
theorem LQ{p:Nd→Bool}{l:List Nd}{k:Nat}(hk:k<l.length)(h2:p l[k]=true):l.any p=true:=List.any_eq_true.2 ⟨_,List.getElem_mem hk,h2⟩
theorem cF(v:TreeV)(t:Tr)(w:World)(h:IsTree w v t) :
 Calls prog 13 #[v.val t] w (zn w (fZ t)):=by
 have HT:=Hd h;clear h;unfold TreeV.val;have HG:Hid (Below (w.heap.size+1) (boxT w v t) (boxT w v t)):=Hd brf;by_cases h1:300<t.nodes.length
 ·have HL:Hid (fZ t=true):=Hd (by simp[fZ,h1])
  have h1':(300:Int)<t.nodes.length:=by omega
  go_enter func13,ntmps13;go_wp2;go_ret;exact⟨za HL.out.symm,boxT_below⟩
 by_cases h2:300<t.items.length
 ·have HL:Hid (fZ t=true):=Hd (by simp[fZ,h2])
  have h1':¬(300:Int)<t.nodes.length:=by omega
  have h2':(300:Int)<t.items.length:=by omega
  go_enter func13,ntmps13;go_wp2;go_ret;exact⟨za HL.out.symm,boxT_below⟩
 have h1':¬(300:Int)<t.nodes.length:=by omega
 have h2':¬(300:Int)<t.items.length:=by omega
 go_enter func13,ntmps13;go_wp2
 go_loopw [3] (fun t3 wr=>∃k:Nat,t3=.int .i64 k∧k≤t.nodes.length∧Hid ((t.nodes.take k).any bigN=false)∧Hid (Below (w.heap.size+1) (boxT w v t) wr)) (fun i _=>t.nodes.length-(intOf i).toNat)
 case atStart=>exact⟨0,rfl,Nat.zero_le _,Hd rfl,HG⟩
 case round=>
  obtain⟨k,rfl,hk,HK,HB⟩:=hrel;obtain⟨b0,b1,-,⟨hs,hs1,hs2⟩,hbw⟩:=boxed HB.out HT.out;obtain⟨hcw,hfw⟩:=bcell hbw;by_cases hlt:k<t.nodes.length
  ·obtain⟨b,o,ka,kc,ea,hb,c0,c1,c2,c3,c4,hkr⟩:=HT.out.nodes.at hlt
   obtain⟨na,nc,ia,ic⟩:=v;simp only at ea b0 b1;subst ea;obtain⟨D,hD⟩:∃D,D=t.nodes[k]:=⟨_,rfl⟩
   rw[←hD]at c0 c1 c2 c3 c4;have HD:=Hd hD;have HLT:=Hd hlt;have hbb:b<wr.heap.size:=by omega
   clear hD hkr;obtain⟨x1,e1⟩:∃x,decide ((10:Int)<D.kids.length)=x:=⟨_,rfl⟩
   obtain⟨x2,e2⟩:∃x,decide ((40:Int)<D.text.length)=x:=⟨_,rfl⟩
   have e1':decide (10<D.kids.length)=x1:=by rw[←e1];exact decide_eq_decide.2 (by omega)
   have e2':decide (40<D.text.length)=x2:=by rw[←e2];exact decide_eq_decide.2 (by omega)
   have HX:Hid (bigN D=(x1||x2)):=Hd (by rw[bigN,e1',e2']);have HB':=HB;have HBW:=Hd hbw;go_wp2
   all_goals first
    | (go_ret
       have hx:bigN D=true:=by rw[HX.out];first|(rw[‹x1=true›];rfl)|(rw[‹x2=true›];simp)
       exact⟨za (by rw[fZ,LQ HLT.out (by rw[←HD.out];exact hx)];simp),HBW.out⟩)
    | (go_roundw
       case rel=>exact⟨k+1,by go_num,by omega,Hd (DS HLT.out HK.out (by rw[←HD.out,HX.out];simp only[Bool.or_eq_false_iff];exact⟨by simpa using ‹¬x1=true›,by first|(simpa using ‹¬x2=true›)|(simpa using ‹x2=false›)|assumption⟩)),HB'⟩
       case measure=>simp[intOf];omega)
  ·obtain rfl:k=t.nodes.length:=by omega
   go_wp2;go_ret;refine⟨za ?_,hbw⟩;have h3:=HK.out;rw[List.take_length]at h3;simp only[fZ,h3];simp;omega
theorem LS{w wr:World}{v v':TreeV}{t t':Tr}(hb:Below (w.heap.size+1+1) (boxT (boxT w v t) v' t') wr)(h:IsTree w v t)(h':IsTree w v' t') :
 (wr.cell? ⟨w.heap.size,0,none⟩=some (.slice v.na t.nodes.length v.nc)∧wr.cell? ⟨w.heap.size,1,none⟩=some (.slice v.ia t.items.length v.ic)) ∧
 (wr.cell? ⟨w.heap.size+1,0,none⟩=some (.slice v'.na t'.nodes.length v'.nc)∧wr.cell? ⟨w.heap.size+1,1,none⟩=some (.slice v'.ia t'.items.length v'.ic)) ∧
 (w.heap.size+1+1≤wr.heap.size∧w.heap.size<wr.heap.size∧w.heap.size+1<wr.heap.size)∧Below w.heap.size w wr:=by
 have h1:Below ((boxT w v t).heap.size+1) (boxT (boxT w v t) v' t') wr:=by simpa using hb
 obtain⟨k1,k2,-,⟨k4,k5,k6⟩,k7⟩:=boxed h1 (h'.mono boxT_below nlr);have k7':Below (w.heap.size+1) (boxT w v t) wr:=by simpa using k7
 obtain⟨l1,l2,-,⟨l4,l5,l6⟩,l7⟩:=boxed k7' h;simp only[World.size_alloc]at k1 k2 k4;exact⟨⟨l1,l2⟩,⟨k1,k2⟩,⟨k4,l5,by omega⟩,l7⟩
theorem GD{α:Type}{a b:List α}(hl:a.length=b.length){k:Nat}(hk:k<a.length)(h:a.take k=b.take k)(he:a[k]=b[k]'(by omega)):a.take (k+1)=b.take (k+1):=by
 rw[List.take_succ_eq_append_getElem hk,List.take_succ_eq_append_getElem (by omega),h,he]
theorem bN(v v':TreeV)(t t':Tr)(w:World)(bd:Bd t)(bd':Bd t')(h:IsTree w v t)(h':IsTree w v' t') :
 Calls prog 18 #[v.val t,v'.val t'] w (zn w (decide (t=t'))):=by
 have HT:=Hd h;have HT':=Hd h';have BD:=Hd bd;have BD':=Hd bd';have hn:=bd.n;have hn':=bd'.n;clear h h' bd bd';unfold TreeV.val;have hg:Below (w.heap.size+1+1) (boxT (boxT w v t) v' t') (boxT (boxT w v t) v' t'):=brf;have HG:=Hd hg;clear hg;by_cases hl:t.nodes.length=t'.nodes.length
 ·have hl1:((t.nodes.length:Int) != (t'.nodes.length:Int))=false:=by simp[hl]
  have HL:=Hd hl;have hl2:t'.nodes.length≤t.nodes.length:=by omega
  clear hl
  have hS:∀W,Below w.heap.size w W→Calls prog 19 #[.slice v.ia t.items.length v.ic,.slice v'.ia t'.items.length v'.ic] W (zn W (t.items==t'.items)):=fun W hW=>
   zX _ _ _ _ _ _ W (by have:=BD.out.i;omega) (by have:=BD'.out.i;omega) (Row.mono HT.out.items hW nlr) (Row.mono HT'.out.items hW nlr)
  have HS:=Hd hS;clear hS
  cases hit:t.items==t'.items with
  | false=>
    have HIT:=Hd hit;clear hit;go_enter func18,ntmps18
    go_wp2_with (go_at_call 19;refine(HS.out _ (((Below.refl _ w).alloc nlr _).alloc (by simp) _)).mono ?_;rw[HIT.out];rintro e w1 ⟨rfl,hb1⟩)
    go_ret;refine⟨za ?_,(((Below.refl _ w).alloc nlr _).alloc (by simp) _).trans (hb1.mono (by simp;omega))⟩;symm;rw[decide_eq_false_iff_not];rintro rfl;have:=HIT.out;simp at this
  | true=>
    have HIT:=Hd hit;clear hit;go_enter func18,ntmps18
    go_wp2_with (go_at_call 19;refine(HS.out _ (((Below.refl _ w).alloc nlr _).alloc (by simp) _)).mono ?_;rw[HIT.out];rintro e w1 ⟨rfl,hb1⟩)
    have HB1:=Hd (HG.out.trans (hb1.mono (by simp)))
    go_loopw [5] (fun t5 wr=>∃k:Nat,t5=.int .i64 k∧k≤t.nodes.length∧Hid (t.nodes.take k=t'.nodes.take k)∧Hid (Below (w.heap.size+1+1) (boxT (boxT w v t) v' t') wr)) (fun i _=>t.nodes.length-(intOf i).toNat)
    case atStart=>exact⟨0,rfl,Nat.zero_le _,Hd rfl,HB1⟩
    case round=>
     obtain⟨k,rfl,hk,HK,HB⟩:=hrel;obtain⟨⟨b0,b1⟩,⟨b2,b3⟩,⟨hs,hs1,hs2⟩,hbw⟩:=LS HB.out HT.out HT'.out;obtain⟨hcw,hfw⟩:=bcell hbw;by_cases hlt:k<t.nodes.length
     ·have hlt':k<t'.nodes.length:=by have:=HL.out;omega
      obtain⟨b,o,ka,kc,ea,hb,c0,c1,c2,c3,c4,hkr⟩:=HT.out.nodes.at hlt;obtain⟨b',o',ka',kc',ea',hb',c0',c1',c2',c3',c4',hkr'⟩:=HT'.out.nodes.at hlt';obtain⟨na,nc,ia,ic⟩:=v;obtain⟨na',nc',ia',ic'⟩:=v';simp only at ea ea' b0 b1 b2 b3;subst ea;subst ea';have hkl:=BD.out.k _ (List.getElem_mem hlt);have hkl':=BD'.out.k _ (List.getElem_mem hlt');obtain⟨D,hD⟩:∃D,D=t.nodes[k]:=⟨_,rfl⟩
      obtain⟨D',hD'⟩:∃D',D'=t'.nodes[k]:=⟨_,rfl⟩
      rw[←hD]at c0 c1 c2 c3 c4 hkr hkl;rw[←hD']at c0' c1' c2' c3' c4' hkr' hkl';have HD:=Hd hD;have HD':=Hd hD';have HLT:=Hd hlt;have HBW:=Hd hbw
      have hSK:∀W,Below w.heap.size w W→Calls prog 19 #[.slice ka D.kids.length kc,.slice ka' D'.kids.length kc'] W (zn W (D.kids==D'.kids)):=fun W hW=>
       zX _ _ _ _ _ _ W (by omega) (by omega) (Row.mono hkr hW nlr) (Row.mono hkr' hW nlr)
      have HSK:=Hd hSK;have hbb:b<wr.heap.size:=by omega
      have hbb':b'<wr.heap.size:=by omega
      clear hD hD' hkr hkr' hSK;obtain⟨x1,h1⟩:∃x,(D.kind != D'.kind)=x:=⟨_,rfl⟩
      obtain⟨x2,h2⟩:∃x,(D.text != D'.text)=x:=⟨_,rfl⟩
      obtain⟨x3,h3⟩:∃x,(D.n != D'.n)=x:=⟨_,rfl⟩
      obtain⟨x4,h4⟩:∃x,(D.pos != D'.pos)=x:=⟨_,rfl⟩
      obtain⟨x5,h5⟩:∃x,(D.kids==D'.kids)=x:=⟨_,rfl⟩
      have H5:=Hd h5
      have HEQ:Hid (D=D'↔(x1=false∧D.text=D'.text∧x3=false∧x4=false∧x5=true)):=Hd (by
       subst h1 h2 h3 h4 h5;obtain⟨q1,q2,q3,q4,q5⟩:=D;obtain⟨r1,r2,r3,r4,r5⟩:=D';simp[bne];intro _ _ _
       exact And.comm)
      have HNO:Hid (¬D=D'→decide (t=t')=false):=Hd (fun hne=>by
       rw[decide_eq_false_iff_not];rintro rfl
       exact hne (HD.out.trans HD'.out.symm))
      have hs0:w.heap.size≤wr.heap.size:=by omega
      clear h5 h2;go_wp2;generalize hWW:wr=WW at *;have HBN:=Hd (fun o=>HB.out.alloc hs o);go_region
      all_goals
       go_wp2_with (go_at_call 19;refine(HSK.out _ (((HBW.out.alloc (by omega) _).alloc (by first|omega|(simp;omega)) _).drew)).mono ?_;rw[H5.out];rintro e w2 ⟨rfl,hb2⟩)
      all_goals first
       | (go_ret
          have hne:¬D=D':=by
           intro hh;obtain⟨g1,g2,g3,g4,g5⟩:=HEQ.out.1 hh
           first
            |exact absurd ‹x1=true› (by rw[g1];exact Bool.false_ne_true)
            |exact ‹¬D.text=D'.text› g2
            |exact absurd ‹x3=true› (by rw[g3];exact Bool.false_ne_true)
            |exact absurd ‹x4=true› (by rw[g4];exact Bool.false_ne_true)
            | (have:=‹(!x5)=true›;rw[g5]at this;cases this)
          refine⟨za (HNO.out hne).symm,?_⟩
          first
           |exact((HBW.out.alloc (by omega) _).alloc (by first|omega|(simp;omega)) _).drew
           | (refine Below.trans ?_ (hb2.mono ?_)
              ·exact((HBW.out.alloc (by omega) _).alloc (by first|omega|(simp;omega)) _).drew
              ·simp;omega))
       | (go_roundw
          case rel=>
           have hee:D=D':=HEQ.out.2 ⟨by simpa using ‹¬x1=true›,‹D.text=D'.text›,by simpa using ‹¬x3=true›,by simpa using ‹¬x4=true›,by simpa using ‹(!x5)=false›⟩;refine⟨k+1,by go_num,by omega,Hd (GD HL.out HLT.out HK.out (by rw[←HD.out,←HD'.out];exact hee)),Hd ?_⟩;refine Below.trans ?_ (hb2.mono ?_)
           ·exact((HBN.out _).alloc (by first|omega|(simp;omega)) _).drew
           ·simp
            omega
          case measure=>simp[intOf];omega)
     ·obtain rfl:k=t.nodes.length:=by omega
      go_wp2;go_ret;refine⟨za ?_,hbw⟩;symm;rw[decide_eq_true_iff];obtain⟨ns,is⟩:=t;obtain⟨ns',is'⟩:=t';have h1:=HK.out;have h2:=HIT.out;have h3:=HL.out;simp only at h1 h2 h3;rw[List.take_length,h3,List.take_length]at h1;rw[h1,beq_iff_eq.1 h2]
 ·have hl1:((t.nodes.length:Int) != (t'.nodes.length:Int))=true:=by simp;omega
  have HL:=Hd hl;clear hl;go_enter func18,ntmps18;go_wp2;go_ret;refine⟨za ?_,(((Below.refl _ w).alloc nlr _).alloc (by simp) _)⟩;symm;rw[decide_eq_false_iff_not];rintro rfl;exact HL.out rfl
end
end Go.Proofs.YtipjhljnkocioaaGreatDoor
