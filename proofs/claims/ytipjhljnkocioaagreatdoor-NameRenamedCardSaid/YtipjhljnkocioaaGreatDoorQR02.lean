/- Part of a proof. -/
import Derived.Test.YtipjhljnkocioaaGreatDoorP10
import Derived.Test.YtipjhljnkocioaaGreatDoorQR01
set_option maxRecDepth 100000
set_option maxHeartbeats 8000000
set_option linter.unusedVariables false
set_option linter.unusedSimpArgs false
open Go.Proofs.Tryz
namespace Go.Proofs.YtipjhljnkocioaaGreatDoor
section
open Go Go.RowKit
theorem LS(a a':Option Addr)(c c':Nat)(l l':List Int)(w:World)(hm:l.length≤140737488355328)(hm':l'.length≤140737488355328)(h:Ints w a c l)(h':Ints w a' c' l') :
 Calls prog 42 #[.slice a l.length c,.slice a' l'.length c'] w (zm w (l==l')):=by
 have HR:=Hd h;have HR':=Hd h';clear h h';by_cases hl:l.length=l'.length
 ·have HL:=Hd hl
  have hl1:((l.length:Int)==(l'.length:Int))=true:=by simp[hl]
  have hl2:((l.length:Int) != (l'.length:Int))=false:=by simp[hl]
  clear hl;go_enter func42,ntmps42;go_wp2
  go_loopw [5] (fun i wr=>∃k:Nat,k≤l.length∧i=.int .i64 k∧Hid (l.take k=l'.take k)∧Hid (Below w.heap.size w wr)) (fun i _=>l.length-(intOf i).toNat)
  case atStart=>exact⟨0,Nat.zero_le _,rfl,Hd rfl,Hd brf⟩
  case round=>
   obtain⟨k,hk,rfl,HA,HB⟩:=hrel;have HR1:=Hd (Row.mono HR.out HB.out nlr);have HR1':=Hd (Row.mono HR'.out HB.out nlr);by_cases hlt:k<l.length
   ·obtain⟨b,o,rfl,hb,hc⟩:=Ints.at HR1.out hlt
    obtain⟨b',o',rfl,hb',hc'⟩:=Ints.at HR1'.out (i:=k) (by have:=HL.out;omega);have hlt':k<l'.length:=by have:=HL.out;omega
    by_cases he:l[k]=l'[k]
    ·have he1:(l[k] != l'[k])=false:=by simp[he]
     have HS:=Hd (tO HL.out hlt HA.out he);clear he;go_wp2
     go_quiet (fail)
     go_wp2
     go_roundw
     case rel=>exact⟨k+1,by omega,by go_num,HS,Hd (below_drewN HB.out _)⟩
     case measure=>simp[intOf];omega
    ·have he1:(l[k] != l'[k])=true:=by simp[he]
     have HE:=Hd he;clear he;go_wp2
     go_quiet (fail)
     go_wp2;go_ret;exact⟨za (DH hlt hlt' HE.out).symm,below_drewN HB.out _⟩
   ·go_wp2
    go_ret;refine⟨za ?_,HB.out⟩;have h1:=HA.out;rw[List.take_of_length_le (by omega),List.take_of_length_le (by have:=HL.out;omega)]at h1;rw[h1];simp
 ·have hl1:((l.length:Int) != (l'.length:Int))=true:=by simp;omega
  have HL:=Hd hl;clear hl;go_enter func42,ntmps42;go_wp2;go_ret;refine⟨za ?_,brf⟩;symm;rw[beq_eq_false_iff_ne];rintro rfl;exact HL.out rfl
theorem LW(v v':TreeV)(t t':Tr)(w:World)(bd:Bd t)(bd':Bd t')(h:IsTree w v t)(h':IsTree w v' t') :
 Calls prog 41 #[v.val t,v'.val t'] w (zm w (decide (t=t'))):=by
 have HT:=Hd h;have HT':=Hd h';have BD:=Hd bd;have BD':=Hd bd';have hn:=bd.n;have hn':=bd'.n;clear h h' bd bd';unfold TreeV.val;have hg:Below (w.heap.size+1+1) (boxT (boxT w v t) v' t') (boxT (boxT w v t) v' t'):=brf;have HG:=Hd hg;clear hg;by_cases hl:t.nodes.length=t'.nodes.length
 ·have hl1:((t.nodes.length:Int) != (t'.nodes.length:Int))=false:=by simp[hl]
  have HL:=Hd hl;have hl2:t'.nodes.length≤t.nodes.length:=by omega
  clear hl
  have hS:∀W,Below w.heap.size w W→Calls prog 42 #[.slice v.ia t.items.length v.ic,.slice v'.ia t'.items.length v'.ic] W (zm W (t.items==t'.items)):=fun W hW=>
   LS _ _ _ _ _ _ W (by have:=BD.out.i;omega) (by have:=BD'.out.i;omega) (Row.mono HT.out.items hW nlr) (Row.mono HT'.out.items hW nlr)
  have HS:=Hd hS;clear hS
  cases hit:t.items==t'.items with
  | false=>
    have HIT:=Hd hit;clear hit;go_enter func41,ntmps41
    go_wp2_with (go_at_call 42;refine(HS.out _ (((Below.refl _ w).alloc nlr _).alloc (by simp) _)).mono ?_;rw[HIT.out];rintro e w1 ⟨rfl,hb1⟩)
    go_ret;refine⟨za ?_,(((Below.refl _ w).alloc nlr _).alloc (by simp) _).trans (hb1.mono (by simp;omega))⟩;symm;rw[decide_eq_false_iff_not];rintro rfl;have:=HIT.out;simp at this
  | true=>
    have HIT:=Hd hit;clear hit;go_enter func41,ntmps41
    go_wp2_with (go_at_call 42;refine(HS.out _ (((Below.refl _ w).alloc nlr _).alloc (by simp) _)).mono ?_;rw[HIT.out];rintro e w1 ⟨rfl,hb1⟩)
    have HB1:=Hd (HG.out.trans (hb1.mono (by simp)))
    go_loopw [5] (fun t5 wr=>∃k:Nat,t5=.int .i64 k∧k≤t.nodes.length∧Hid (t.nodes.take k=t'.nodes.take k)∧Hid (Below (w.heap.size+1+1) (boxT (boxT w v t) v' t') wr)) (fun i _=>t.nodes.length-(intOf i).toNat)
    case atStart=>exact⟨0,rfl,Nat.zero_le _,Hd rfl,HB1⟩
    case round=>
     obtain⟨k,rfl,hk,HK,HB⟩:=hrel;obtain⟨⟨b0,b1⟩,⟨b2,b3⟩,⟨hs,hs1,hs2⟩,hbw⟩:=MR HB.out HT.out HT'.out;obtain⟨hcw,hfw⟩:=bcell hbw;by_cases hlt:k<t.nodes.length
     ·have hlt':k<t'.nodes.length:=by have:=HL.out;omega
      obtain⟨b,o,ka,kc,ea,hb,c0,c1,c2,c3,c4,hkr⟩:=HT.out.nodes.at hlt;obtain⟨b',o',ka',kc',ea',hb',c0',c1',c2',c3',c4',hkr'⟩:=HT'.out.nodes.at hlt';obtain⟨na,nc,ia,ic⟩:=v;obtain⟨na',nc',ia',ic'⟩:=v';simp only at ea ea' b0 b1 b2 b3;subst ea;subst ea';have hkl:=BD.out.k _ (List.getElem_mem hlt);have hkl':=BD'.out.k _ (List.getElem_mem hlt');obtain⟨D,hD⟩:∃D,D=t.nodes[k]:=⟨_,rfl⟩
      obtain⟨D',hD'⟩:∃D',D'=t'.nodes[k]:=⟨_,rfl⟩
      rw[←hD]at c0 c1 c2 c3 c4 hkr hkl;rw[←hD']at c0' c1' c2' c3' c4' hkr' hkl';have HD:=Hd hD;have HD':=Hd hD';have HLT:=Hd hlt;have HBW:=Hd hbw
      have hSK:∀W,Below w.heap.size w W→Calls prog 42 #[.slice ka D.kids.length kc,.slice ka' D'.kids.length kc'] W (zm W (D.kids==D'.kids)):=fun W hW=>
       LS _ _ _ _ _ _ W (by omega) (by omega) (Row.mono hkr hW nlr) (Row.mono hkr' hW nlr)
      have HSK:=Hd hSK;have hbb:b<wr.heap.size:=by omega
      have hbb':b'<wr.heap.size:=by omega
      clear hD hD' hkr hkr' hSK;obtain⟨x1,h1⟩:∃x,(D.kind != D'.kind)=x:=⟨_,rfl⟩
      obtain⟨x2,h2⟩:∃x,(D.text != D'.text)=x:=⟨_,rfl⟩
      obtain⟨x3,h3⟩:∃x,(D.n != D'.n)=x:=⟨_,rfl⟩
      obtain⟨x4,h4⟩:∃x,(D.pos != D'.pos)=x:=⟨_,rfl⟩
      obtain⟨x5,h5⟩:∃x,(D.kids==D'.kids)=x:=⟨_,rfl⟩
      have H5:=Hd h5
      have HEQ:Hid (D=D'↔(x1=false∧D.text=D'.text∧x3=false∧x4=false∧x5=true)):=Hd (by
       subst h1 h2 h3 h4 h5;obtain⟨q1,q2,q3,q4,q5⟩:=D;obtain⟨r1,r2,r3,r4,r5⟩:=D';simp[bne];intro _ _ _
       exact And.comm)
      have HNO:Hid (¬D=D'→decide (t=t')=false):=Hd (fun hne=>by
       rw[decide_eq_false_iff_not];rintro rfl
       exact hne (HD.out.trans HD'.out.symm))
      have hs0:w.heap.size≤wr.heap.size:=by omega
      clear h5 h2;go_wp2;generalize hWW:wr=WW at *;have HBN:=Hd (fun o=>HB.out.alloc hs o);go_region
      all_goals
       go_wp2_with (go_at_call 42;refine(HSK.out _ (((HBW.out.alloc (by omega) _).alloc (by first|omega|(simp;omega)) _).drew)).mono ?_;rw[H5.out];rintro e w2 ⟨rfl,hb2⟩)
      all_goals first
       | (go_ret
          have hne:¬D=D':=by
           intro hh;obtain⟨g1,g2,g3,g4,g5⟩:=HEQ.out.1 hh
           first
            |exact absurd ‹x1=true› (by rw[g1];exact Bool.false_ne_true)
            |exact ‹¬D.text=D'.text› g2
            |exact absurd ‹x3=true› (by rw[g3];exact Bool.false_ne_true)
            |exact absurd ‹x4=true› (by rw[g4];exact Bool.false_ne_true)
            | (have:=‹(!x5)=true›;rw[g5]at this;cases this)
          refine⟨za (HNO.out hne).symm,?_⟩
          first
           |exact((HBW.out.alloc (by omega) _).alloc (by first|omega|(simp;omega)) _).drew
           | (refine Below.trans ?_ (hb2.mono ?_)
              ·exact((HBW.out.alloc (by omega) _).alloc (by first|omega|(simp;omega)) _).drew
              ·simp;omega))
       | (go_roundw
          case rel=>
           have hee:D=D':=HEQ.out.2 ⟨by simpa using ‹¬x1=true›,‹D.text=D'.text›,by simpa using ‹¬x3=true›,by simpa using ‹¬x4=true›,by simpa using ‹(!x5)=false›⟩;refine⟨k+1,by go_num,by omega,Hd (MD HL.out HLT.out HK.out (by rw[←HD.out,←HD'.out];exact hee)),Hd ?_⟩;refine Below.trans ?_ (hb2.mono ?_)
           ·exact((HBN.out _).alloc (by first|omega|(simp;omega)) _).drew
           ·simp
            omega
          case measure=>simp[intOf];omega)
     ·obtain rfl:k=t.nodes.length:=by omega
      go_wp2;go_ret;refine⟨za ?_,hbw⟩;symm;rw[decide_eq_true_iff];obtain⟨ns,is⟩:=t;obtain⟨ns',is'⟩:=t';have h1:=HK.out;have h2:=HIT.out;have h3:=HL.out;simp only at h1 h2 h3;rw[List.take_length,h3,List.take_length]at h1;rw[h1,beq_iff_eq.1 h2]
 ·have hl1:((t.nodes.length:Int) != (t'.nodes.length:Int))=true:=by simp;omega
  have HL:=Hd hl;clear hl;go_enter func41,ntmps41;go_wp2;go_ret;refine⟨za ?_,(((Below.refl _ w).alloc nlr _).alloc (by simp) _)⟩;symm;rw[decide_eq_false_iff_not];rintro rfl;exact HL.out rfl
theorem ME(v:TreeV)(a:Option Addr)(c:Nat)(t:Tr)(U:List Int)(i:Nat)(w:World)(bd:Bd t)(wf:WF t)(hu:Ups t U)(hi:i<t.nodes.length)(h:IsTree w v t)(hU:Ints w a c U) :
 Calls prog 37 #[v.val t,.slice a U.length c,intV i] w (zm w (zi t i)):=by
 have HT:=Hd h;obtain⟨b,o,ka,kc,ea,hb,c0,c1,c2,c3,c4,hkr⟩:=h.nodes.at hi;obtain⟨na,nc,ia,ic⟩:=v;simp only at ea;subst ea;have hn:=bd.n;have hul:=hu.1;have hnd:=t.nd_at hi;have HND:=Hd hnd;have hpar:=wf.par i hi;have hb1:b<w.heap.size+1:=by omega
 obtain⟨hiu,hup⟩:=hu.at hi;obtain⟨b2,o2,rfl,hb2,d0⟩:=Ints.at hU hiu;rw[hup]at d0;have hb21:b2<w.heap.size+1:=by omega
 clear hkr h bd hnd hU hu hup wf;by_cases h34:t.nodes[i].kind=34
 ·have hp':=hpar h34
  obtain⟨p,hpe,hpl⟩:=aT t i hp';have HP:=Hd hpe;obtain⟨b',o',ka',kc',ea',hb',c0',-,-,-,-,-⟩:=HT.out.nodes.at hpl;simp only[Option.some.injEq,Addr.mk.injEq,and_true]at ea';obtain⟨rfl,rfl⟩:=ea';have H34:=Hd h34;rw[hpe]at d0;clear hpar hpe hp';rw[h34]at c0;unfold TreeV.val;go_enter func37,ntmps37;go_wp2
  go_quiet (fail)
  go_wp2
  all_goals
   go_ret;refine⟨za ?_,below_drewN (brf.alloc nlr _) _⟩;rw[zi,HND.out,H34.out,HP.out,t.nd_at hpl];simp_all[mL]
 ·clear hpar
  unfold TreeV.val;go_enter func37,ntmps37;go_wp2
  all_goals
   go_ret;refine⟨za ?_,brf.alloc nlr _⟩;rw[zi,HND.out];simp_all[mL]
end
end Go.Proofs.YtipjhljnkocioaaGreatDoor
