/- Part of a proof. -/
import Derived.Test.YtipjhljnkocioaaGreatDoorC10
import Derived.Deep.Cut
import Derived.Deep.CutRange
import Derived.Deep.CutBlock
set_option maxRecDepth 100000
set_option maxHeartbeats 8000000
set_option linter.unusedVariables false
set_option linter.unusedSimpArgs false
open Go.Proofs.Tryz
namespace Go.Proofs.YtipjhljnkocioaaGreatDoor
section
open Go.RowKit
theorem GE{S:List UInt8}{c:UInt8}{r:List UInt8}(h:S=c::r):tokF S=((if iW c then (if hasS zS (S.takeWhile bH)then (3,S.takeWhile bH)else if (S.takeWhile bH).length≤12 then (1,S.takeWhile bH)else (0,[]))
 else if zK c then (if numB (S.takeWhile zK)then (2,S.takeWhile zK)else (0,[]))
 else match signsL.find? (fun g=>g.isPrefixOf S)with
  |some g=>(4,g)
  |none=>(0,[]):Int×List UInt8)):=by subst h;rfl
abbrev tokV(p:Int×List UInt8):Value:=.agg #[.int .u8 p.1,strV p.2,intV 0]
def RetTok(w:World)(p:Int×List UInt8)(e:Ending)(w':World):Prop:=e=.returned (tokV p)∧Below w.heap.size w w'
theorem RetTok.mk{w w':World}{f:Func}{a:Act}{p:Int×List UInt8}{s:List UInt8}(hp:tokF s=p)(hr:(results f a.tmps).run prog w' = .ok (tokV p) w')(hd:a.defers=[])(hb:Below w.heap.size w w'):bodyPost prog f (RetTok w (tokF s)) Exit.ret a w':=
 bodyPost_ret (v:=tokV p) hr hd ⟨by rw[hp],hb⟩
theorem rQ{g s:List UInt8}(h:g.length≤s.length):(s.take g.length==g)=g.isPrefixOf s:=by
 rw[Bool.eq_iff_iff,beq_iff_eq,List.isPrefixOf_iff_prefix,List.prefix_iff_eq_take];exact⟨fun h=>h.symm,fun h=>h.symm⟩
theorem ED{p:List UInt8→Bool}{l:List (List UInt8)}{k:Nat}(hk:k<l.length)(h:p l[k]=true):((l.drop k).find? p)=some l[k]:=by
 rw[List.drop_eq_getElem_cons hk,List.find?_cons,h]
theorem BH{p:List UInt8→Bool}{l:List (List UInt8)}{k:Nat}(hk:k<l.length)(h:p l[k]=false):((l.drop k).find? p)=((l.drop (k+1)).find? p):=by
 rw[List.drop_eq_getElem_cons hk,List.find?_cons,h]
theorem EM{l:List UInt8}(h:0<l.length):l.head?=some l[0]:=by cases l with|nil=>simp at h|cons c l=>rfl
theorem FV:∀(k:Nat) (h:k<signsL.length),signsL[k].length≤2:=by decide
theorem EL{c:UInt8}(h:((c.toNat:Int) != 48)=true):¬c=48:=by rintro rfl;simp at h
theorem EK{c:UInt8}(h:((c.toNat:Int) != 48)=false):c=48:=by
 have:(c.toNat:Int)=48:=by simpa using h
 apply UInt8.toNat_inj.1;show c.toNat=48
 omega
theorem lT(s:List UInt8)(w:World)(hs:s.length≤1000000000):Calls prog 142 #[strV s,intV 0] w (RetTok w (tokF s)):=by
 have hmo:prog.follows .mixedOrders=true:=by kernel_rfl
 have hL:∀(c:UInt8) W,Calls prog 180 #[.int .u8 (c.toNat:Int)] W fun e w'=>e=.returned (.bool (iW c))∧W=w':=fun c W=>wR _ W;have HL:=Hd hL;have hD:∀(c:UInt8) W,Calls prog 181 #[.int .u8 (c.toNat:Int)] W fun e w'=>e=.returned (.bool (zK c))∧W=w':=fun c W=>AQ _ W;have HD:=Hd hD;clear hL hD
 cases s with
 | nil=>
   go_enter func142,ntmps142;go_wp2;exact bodyPost_ret (v:=tokV (0,[])) (by simp[results,results142,go_sem]) rfl ⟨rfl,(Below.refl _ w).alloc nlr _⟩
 | cons c r=>
   obtain⟨s,hse⟩:∃s,s=c::r:=⟨_,rfl⟩
   have hsl:0<s.length:=by rw[hse];simp
   have hs0:s[0]=c:=by simp[hse]
   have HT:=Hd (GE hse);rw[←hse]at hs⊢;have HS0:=Hd hs0;have hne:¬s=[]:=by rw[hse];simp
   clear hse hs0
   cases hsm:iW c with
   | true=>
     have HSM:=Hd hsm;obtain⟨Wd,hWd⟩:∃Wd,s.takeWhile bH=Wd:=⟨_,rfl⟩
     have HW:=Hd hWd;have hwl:Wd.length=twl bH s:=by rw[←hWd];rfl
     have hwt:s.take (twl bH s)=Wd:=by rw[←hWd];exact pY _ _
     have hwle:=jT bH s;have HWT:=Hd hwt;have HWL:=Hd hwl;clear hsm hwl hwt hWd;go_enter func142,ntmps142
     go_wp2_with (go_at_call 180;refine(HL.out _ _).mono ?_;rw[HS0.out,HSM.out];rintro e w' ⟨rfl,rfl⟩)
     go_loop [5] (fun t5=>∃k:Nat,t5=.int .i64 k∧k≤twl bH s) (fun t5=>s.length-(intOf t5).toNat)
     case atStart=>exact⟨0,rfl,Nat.zero_le _⟩
     case round=>
      obtain⟨k,rfl,hk⟩:=hrel;by_cases hlt:k<s.length
      ·cases hps:iW s[k]with
       | true=>
         have HPS:=Hd hps;clear hps
         go_wp2_with (go_at_call 180;refine(HL.out s[k] _).mono ?_;rw[HPS.out];rintro e w' ⟨rfl,rfl⟩)
         go_round
         case rel=>exact⟨k+1,by go_num,iY hlt hk (by rw[bH,HPS.out];rfl)⟩
         case measure=>simp[intOf];omega
       | false=>
         have HPS:=Hd hps;clear hps;cases hpd:zK s[k]with
         | true=>
           have HPD:=Hd hpd;clear hpd
           go_wp2_with (first
            | (go_at_call 180;refine(HL.out s[k] _).mono ?_;rw[HPS.out];rintro e w' ⟨rfl,rfl⟩)
            | (go_at_call 181;refine(HD.out s[k] _).mono ?_;rw[HPD.out];rintro e w' ⟨rfl,rfl⟩))
           go_round
           case rel=>exact⟨k+1,by go_num,iY hlt hk (by rw[bH,HPS.out,HPD.out];rfl)⟩
           case measure=>simp[intOf];omega
         | false=>
           have HPD:=Hd hpd;clear hpd;obtain rfl:=pX hlt hk (by rw[bH,HPS.out,HPD.out];rfl);have hwt:=HWT.out
           cases hkw:hasS zS Wd with
           | true=>
             have HKW:=Hd hkw;clear hkw
             go_wp2_with (first
              | (go_at_call 180;refine(HL.out s[twl bH s] _).mono ?_;rw[HPS.out];rintro e w' ⟨rfl,rfl⟩)
              | (go_at_call 181;refine(HD.out s[twl bH s] _).mono ?_;rw[HPD.out];rintro e w' ⟨rfl,rfl⟩)
              | (go_at_call 183;refine(cH _).mono ?_;rintro e w1 ⟨a1,c1,rfl,hr1,hb1⟩;obtain⟨hc1,hf1⟩:=bcell hb1;have hsz1:w.heap.size+1≤w1.heap.size:=(by simpa using hb1.size);have hsz2:w.heap.size<w1.heap.size:=hsz1)
              | (go_at_call 182;refine(lU a1 c1 zS Wd _ (by decide) hr1).mono ?_;rw[HKW.out];rintro e w2 ⟨rfl,rfl⟩))
             refine RetTok.mk (p:=(3,Wd)) (by rw[HT.out];rw[HSM.out,HW.out,HKW.out];rfl) ?_ rfl ?_
             ·simp[results,results142,go_sem,hc1,hsz2]
             ·exact(((((Below.refl _ w).alloc nlr _).trans (hb1.mono (by simp))).setCell nlr _).setCell nlr _).setCell nlr _
           | false=>
             have HKW:=Hd hkw;clear hkw;by_cases h12:Wd.length≤12
             ·have H12:=Hd h12
              go_wp2_with (first
               | (go_at_call 180;refine(HL.out s[twl bH s] _).mono ?_;rw[HPS.out];rintro e w' ⟨rfl,rfl⟩)
               | (go_at_call 181;refine(HD.out s[twl bH s] _).mono ?_;rw[HPD.out];rintro e w' ⟨rfl,rfl⟩)
               | (go_at_call 183;refine(cH _).mono ?_;rintro e w1 ⟨a1,c1,rfl,hr1,hb1⟩;obtain⟨hc1,hf1⟩:=bcell hb1;have hsz1:w.heap.size+1≤w1.heap.size:=(by simpa using hb1.size);have hsz2:w.heap.size<w1.heap.size:=hsz1)
               | (go_at_call 182;refine(lU a1 c1 zS Wd _ (by decide) hr1).mono ?_;rw[HKW.out];rintro e w2 ⟨rfl,rfl⟩))
              refine RetTok.mk (p:=(1,Wd)) (by rw[HT.out];rw[HSM.out,HW.out,HKW.out];exact if_pos H12.out) ?_ rfl ?_
              ·simp[results,results142,go_sem,hc1,hsz2]
              ·exact(((((Below.refl _ w).alloc nlr _).trans (hb1.mono (by simp))).setCell nlr _).setCell nlr _).setCell nlr _
             ·have H12:=Hd h12
              go_wp2_with (first
               | (go_at_call 180;refine(HL.out s[twl bH s] _).mono ?_;rw[HPS.out];rintro e w' ⟨rfl,rfl⟩)
               | (go_at_call 181;refine(HD.out s[twl bH s] _).mono ?_;rw[HPD.out];rintro e w' ⟨rfl,rfl⟩)
               | (go_at_call 183;refine(cH _).mono ?_;rintro e w1 ⟨a1,c1,rfl,hr1,hb1⟩;obtain⟨hc1,hf1⟩:=bcell hb1;have hsz1:w.heap.size+1≤w1.heap.size:=(by simpa using hb1.size);have hsz2:w.heap.size<w1.heap.size:=hsz1)
               | (go_at_call 182;refine(lU a1 c1 zS Wd _ (by decide) hr1).mono ?_;rw[HKW.out];rintro e w2 ⟨rfl,rfl⟩))
              refine RetTok.mk (p:=(0,[])) (by rw[HT.out];rw[HSM.out,HW.out,HKW.out];exact if_neg H12.out) ?_ rfl ?_
              ·simp[results,results142,go_sem,hc1,hsz2]
              ·exact(((((Below.refl _ w).alloc nlr _).trans (hb1.mono (by simp))).setCell nlr _).setCell nlr _).setCell nlr _
      ·obtain rfl:k=twl bH s:=by omega
       have hwt:=HWT.out
       cases hkw:hasS zS Wd with
       | true=>
         have HKW:=Hd hkw;clear hkw
         go_wp2_with (first
          | (go_at_call 183;refine(cH _).mono ?_;rintro e w1 ⟨a1,c1,rfl,hr1,hb1⟩;obtain⟨hc1,hf1⟩:=bcell hb1;have hsz1:w.heap.size+1≤w1.heap.size:=(by simpa using hb1.size);have hsz2:w.heap.size<w1.heap.size:=hsz1)
          | (go_at_call 182;refine(lU a1 c1 zS Wd _ (by decide) hr1).mono ?_;rw[HKW.out];rintro e w2 ⟨rfl,rfl⟩))
         refine RetTok.mk (p:=(3,Wd)) (by rw[HT.out];rw[HSM.out,HW.out,HKW.out];rfl) ?_ rfl ?_
         ·simp[results,results142,go_sem,hc1,hsz2]
         ·exact(((((Below.refl _ w).alloc nlr _).trans (hb1.mono (by simp))).setCell nlr _).setCell nlr _).setCell nlr _
       | false=>
         have HKW:=Hd hkw;clear hkw;by_cases h12:Wd.length≤12
         ·have H12:=Hd h12
          go_wp2_with (first
           | (go_at_call 183;refine(cH _).mono ?_;rintro e w1 ⟨a1,c1,rfl,hr1,hb1⟩;obtain⟨hc1,hf1⟩:=bcell hb1;have hsz1:w.heap.size+1≤w1.heap.size:=(by simpa using hb1.size);have hsz2:w.heap.size<w1.heap.size:=hsz1)
           | (go_at_call 182;refine(lU a1 c1 zS Wd _ (by decide) hr1).mono ?_;rw[HKW.out];rintro e w2 ⟨rfl,rfl⟩))
          refine RetTok.mk (p:=(1,Wd)) (by rw[HT.out];rw[HSM.out,HW.out,HKW.out];exact if_pos H12.out) ?_ rfl ?_
          ·simp[results,results142,go_sem,hc1,hsz2]
          ·exact(((((Below.refl _ w).alloc nlr _).trans (hb1.mono (by simp))).setCell nlr _).setCell nlr _).setCell nlr _
         ·have H12:=Hd h12
          go_wp2_with (first
           | (go_at_call 183;refine(cH _).mono ?_;rintro e w1 ⟨a1,c1,rfl,hr1,hb1⟩;obtain⟨hc1,hf1⟩:=bcell hb1;have hsz1:w.heap.size+1≤w1.heap.size:=(by simpa using hb1.size);have hsz2:w.heap.size<w1.heap.size:=hsz1)
           | (go_at_call 182;refine(lU a1 c1 zS Wd _ (by decide) hr1).mono ?_;rw[HKW.out];rintro e w2 ⟨rfl,rfl⟩))
          refine RetTok.mk (p:=(0,[])) (by rw[HT.out];rw[HSM.out,HW.out,HKW.out];exact if_neg H12.out) ?_ rfl ?_
          ·simp[results,results142,go_sem,hc1,hsz2]
          ·exact(((((Below.refl _ w).alloc nlr _).trans (hb1.mono (by simp))).setCell nlr _).setCell nlr _).setCell nlr _
   | false=>
     have HSM:=Hd hsm;clear hsm
     cases hdm:zK c with
     | true=>
       have HDM:=Hd hdm;obtain⟨Nm,hNm⟩:∃Nm,s.takeWhile zK=Nm:=⟨_,rfl⟩
       have HN:=Hd hNm;have hwl:Nm.length=twl zK s:=by rw[←hNm];rfl
       have hwt:s.take (twl zK s)=Nm:=by rw[←hNm];exact pY _ _
       have hnl:1≤Nm.length:=by rw[hwl];exact iY (k:=0) hsl (Nat.zero_le _) (by rw[HS0.out];exact hdm)
       have hwle:=jT zK s;have HWT:=Hd hwt;have HWL:=Hd hwl;clear hdm hwl hwt hNm;go_enter func142,ntmps142
       go_wp2_with (first
        | (go_at_call 180;refine(HL.out _ _).mono ?_;rw[HS0.out,HSM.out];rintro e w' ⟨rfl,rfl⟩)
        | (go_at_call 181;refine(HD.out _ _).mono ?_;rw[HS0.out,HDM.out];rintro e w' ⟨rfl,rfl⟩))
       go_loop [5] (fun t5=>∃k:Nat,t5=.int .i64 k∧k≤twl zK s) (fun t5=>s.length-(intOf t5).toNat)
       case atStart=>exact⟨0,rfl,Nat.zero_le _⟩
       case round=>
        obtain⟨k,rfl,hk⟩:=hrel;by_cases hlt:k<s.length
        ·cases hpd:zK s[k]with
         | true=>
           have HPD:=Hd hpd;clear hpd
           go_wp2_with (go_at_call 181;refine(HD.out s[k] _).mono ?_;rw[HPD.out];rintro e w' ⟨rfl,rfl⟩)
           go_round
           case rel=>exact⟨k+1,by go_num,iY hlt hk HPD.out⟩
           case measure=>simp[intOf];omega
         | false=>
           have HPD:=Hd hpd;clear hpd;obtain rfl:=pX hlt hk HPD.out;have hwt:=HWT.out;by_cases h1:Nm.length=1
           ·have H1:=Hd h1
            have h1':((Nm.length:Int)==1)=true:=by simp[h1]
            clear h1
            go_wp2_with (first
             | (go_at_call 181;refine(HD.out s[twl zK s] _).mono ?_;rw[HPD.out];rintro e w' ⟨rfl,rfl⟩)
             |fail)
            refine RetTok.mk (p:=(2,Nm)) (by rw[HT.out];simp[HSM.out,HDM.out,HN.out,numB,H1.out]) ?_ rfl ?_
            ·simp[results,results142,go_sem]
            ·exact(Below.refl _ w).alloc nlr _
           ·have h1':((Nm.length:Int)==1)=false:=by simp;omega
            have H1:=Hd h1;have hnz:¬Nm=[]:=by intro e;rw[e]at hnl;simp at hnl
            have hnp:0<Nm.length:=by omega
            clear h1;by_cases h4:Nm.length≤4
            ·have H4:=Hd h4
             have H0:=Hd (EM hnp);cases h0:((Nm[0].toNat:Int) != 48)with
             | true=>
               have HZ:=Hd h0
               go_wp2_with (first
                | (go_at_call 181;refine(HD.out s[twl zK s] _).mono ?_;rw[HPD.out];rintro e w' ⟨rfl,rfl⟩)
                |fail)
               refine RetTok.mk (p:=(2,Nm)) (by rw[HT.out];simp[HSM.out,HDM.out,HN.out,numB,H4.out,H0.out,EL HZ.out]) ?_ rfl ?_
               ·simp[results,results142,go_sem]
               ·exact(Below.refl _ w).alloc nlr _
             | false=>
               have HZ:=Hd h0
               go_wp2_with (first
                | (go_at_call 181;refine(HD.out s[twl zK s] _).mono ?_;rw[HPD.out];rintro e w' ⟨rfl,rfl⟩)
                |fail)
               refine RetTok.mk (p:=(0,[])) (by rw[HT.out];simp[HSM.out,HDM.out,HN.out,numB,H4.out,H0.out,H1.out,EK HZ.out]) ?_ rfl ?_
               ·simp[results,results142,go_sem]
               ·exact(Below.refl _ w).alloc nlr _
            ·have H4:=Hd h4
             go_wp2_with (first
              | (go_at_call 181;refine(HD.out s[twl zK s] _).mono ?_;rw[HPD.out];rintro e w' ⟨rfl,rfl⟩)
              |fail)
             refine RetTok.mk (p:=(0,[])) (by rw[HT.out];simp[HSM.out,HDM.out,HN.out,numB,H4.out]) ?_ rfl ?_
             ·simp[results,results142,go_sem]
             ·exact(Below.refl _ w).alloc nlr _
        ·obtain rfl:k=twl zK s:=by omega
         have hwt:=HWT.out;by_cases h1:Nm.length=1
         ·have H1:=Hd h1
          have h1':((Nm.length:Int)==1)=true:=by simp[h1]
          clear h1
          go_wp2_with fail
          refine RetTok.mk (p:=(2,Nm)) (by rw[HT.out];simp[HSM.out,HDM.out,HN.out,numB,H1.out]) ?_ rfl ?_
          ·simp[results,results142,go_sem]
          ·exact(Below.refl _ w).alloc nlr _
         ·have h1':((Nm.length:Int)==1)=false:=by simp;omega
          have H1:=Hd h1;have hnz:¬Nm=[]:=by intro e;rw[e]at hnl;simp at hnl
          have hnp:0<Nm.length:=by omega
          clear h1;by_cases h4:Nm.length≤4
          ·have H4:=Hd h4
           have H0:=Hd (EM hnp);cases h0:((Nm[0].toNat:Int) != 48)with
           | true=>
             have HZ:=Hd h0
             go_wp2_with fail
             refine RetTok.mk (p:=(2,Nm)) (by rw[HT.out];simp[HSM.out,HDM.out,HN.out,numB,H4.out,H0.out,EL HZ.out]) ?_ rfl ?_
             ·simp[results,results142,go_sem]
             ·exact(Below.refl _ w).alloc nlr _
           | false=>
             have HZ:=Hd h0
             go_wp2_with fail
             refine RetTok.mk (p:=(0,[])) (by rw[HT.out];simp[HSM.out,HDM.out,HN.out,numB,H4.out,H0.out,H1.out,EK HZ.out]) ?_ rfl ?_
             ·simp[results,results142,go_sem]
             ·exact(Below.refl _ w).alloc nlr _
          ·have H4:=Hd h4
           go_wp2_with fail
           refine RetTok.mk (p:=(0,[])) (by rw[HT.out];simp[HSM.out,HDM.out,HN.out,numB,H4.out]) ?_ rfl ?_
           ·simp[results,results142,go_sem]
           ·exact(Below.refl _ w).alloc nlr _
     | false=>
       have HDM:=Hd hdm;clear hdm;have hfd:tokF s=(match signsL.find? (fun g=>g.isPrefixOf s)with|some g=>(4,g)|none=>(0,[])):=by rw[HT.out,HSM.out,HDM.out];rfl
       have HF:=Hd hfd;clear hfd;go_enter func142,ntmps142
       go_wp2_with (first
        | (go_at_call 180;refine(HL.out _ _).mono ?_;rw[HS0.out,HSM.out];rintro e w' ⟨rfl,rfl⟩)
        | (go_at_call 181;refine(HD.out _ _).mono ?_;rw[HS0.out,HDM.out];rintro e w' ⟨rfl,rfl⟩)
        | (go_at_call 184;refine(AR _).mono ?_;rintro e w1 ⟨a1,c1,rfl,hr1,hb1⟩))
       go_loopw [9,10] (fun t9 _ wr=>∃k:Nat,t9=.int .i64 k∧k≤23∧Hid (tokF s=(match (signsL.drop k).find? (fun g=>g.isPrefixOf s)with|some g=>(4,g)|none=>(0,[])))∧Hid (Below w1.heap.size w1 wr)) (fun i _ _=>23-(intOf i).toNat)
       case atStart=>exact⟨0,rfl,Nat.zero_le _,HF,Hd brf⟩
       case round=>
        obtain⟨k,rfl,hk,HA,HB⟩:=hrel;have hb1w:Below (w.alloc (.cells #[.int .u8 0,.string ⟨#[]⟩,.int .i64 0] 144)).heap.size (w.alloc (.cells #[.int .u8 0,.string ⟨#[]⟩,.int .i64 0] 144)) wr:=hb1.trans (HB.out.mono hb1.size);obtain⟨hcw,hfw⟩:=bcell hb1w;have hsz1:w.heap.size+1≤wr.heap.size:=(by simpa using hb1w.size)
        have hsz2:w.heap.size<wr.heap.size:=hsz1;have HBW:=Hd (((Below.refl _ w).alloc nlr _).trans (hb1w.mono (by simp)):Below w.heap.size w wr);have HRS:=Hd (Row.mono hr1 HB.out nlr);have hsl23:signsL.length=23:=rfl;have HSL:=Hd hsl23;clear hsl23;by_cases hlt23:k<23
        ·have hlt:k<signsL.length:=by rw[HSL.out];exact hlt23
         obtain⟨b,o,ea,hb,hcg⟩:=Strs.at HRS.out hlt;subst ea;obtain⟨g,hg⟩:∃g,g=signsL[k]:=⟨_,rfl⟩
         rw[←hg]at hcg;have HG:=Hd hg;have hg2:g.length≤2:=by rw[hg];exact FV k hlt
         clear hg
         cases hp:g.isPrefixOf s with
         | true=>
           have hle:g.length≤s.length:=(List.isPrefixOf_iff_prefix.1 hp).length_le;have hcmp:(List.take g.length s==g)=true:=by rw[rQ hle,hp]
           have HX:=Hd (ED (p:=fun g=>g.isPrefixOf s) hlt (by rw[←HG.out];exact hp));clear hp;go_wp2
           go_quiet (fail)
           go_wp2;refine RetTok.mk (p:=(4,g)) (by rw[HA.out,HX.out,←HG.out]) ?_ rfl ?_
           ·simp[results,results142,go_sem,hcw,hsz2]
           ·exact(((below_drewN HBW.out _).setCell nlr _).setCell nlr _).setCell nlr _
         | false=>
           have HX:=Hd (BH (p:=fun g=>g.isPrefixOf s) hlt (by rw[←HG.out];exact hp));by_cases hle:g.length≤s.length
           ·have hcmp:(List.take g.length s==g)=false:=by rw[rQ hle,hp]
            clear hp;go_wp2
            go_quiet (fail)
            go_wp2
            go_roundw
            case rel=>exact⟨k+1,by go_num,by omega,Hd (by rw[HA.out,HX.out]),Hd (below_drewN HB.out _)⟩
            case measure=>simp[intOf];omega
           ·clear hp
            go_wp2
            go_quiet (fail)
            go_wp2
            go_roundw
            case rel=>exact⟨k+1,by go_num,by omega,Hd (by rw[HA.out,HX.out]),Hd (below_drewN HB.out _)⟩
            case measure=>simp[intOf];omega
        ·go_wp2
         refine RetTok.mk (p:=(0,[])) (by rw[HA.out,List.drop_eq_nil_of_le (by rw[HSL.out];omega)];rfl) ?_ rfl ?_
         ·simp[results,results142,go_sem,hcw,hsz2]
         ·exact((HBW.out.setCell nlr _).setCell nlr _).setCell nlr _
theorem rI(s:List UInt8):zQ s=((tokF s).1==1&&(tokF s).2==s):=rfl
theorem DJ(s:List UInt8)(w:World)(hs:s.length≤1000000000) :
 Calls prog 106 #[strV s] w fun e w'=>e=.returned (.tuple #[.int .u8 (if (tokF s).1 != 0&&(tokF s).2==s then (tokF s).1 else 0),intV (if (tokF s).1 != 0&&(tokF s).2==s then 0 else 4)])∧Below w.heap.size w w':=by
 obtain⟨k,g,hkg⟩:∃k g,tokF s=(k,g):=⟨_,_,rfl⟩
 have HK:=Hd hkg;rw[hkg];clear hkg;simp only;obtain⟨b,hb⟩:∃b,(k != 0&&g==s)=b:=⟨_,rfl⟩
 rw[hb]
 cases b with
 | true=>
   obtain⟨h1,h2⟩:=Bool.and_eq_true _ _▸hb;have hgs:g=s:=by simpa using h2
   subst hgs;clear hb h2;go_enter func106,ntmps106
   go_wp2_with (go_at_call 142;refine(lT g _ hs).mono ?_;rw[HK.out];rintro e w' ⟨rfl,hb'⟩)
   go_ret2
   exact⟨rfl,hb'.trans (brf.alloc hb'.size _)⟩
 | false=>
   cases h1:k != 0 with
   | false=>
     clear hb;go_enter func106,ntmps106
     go_wp2_with (go_at_call 142;refine(lT s _ hs).mono ?_;rw[HK.out];rintro e w' ⟨rfl,hb'⟩)
     go_ret2
     exact⟨rfl,hb'.trans (brf.alloc hb'.size _)⟩
   | true=>
     have h2:(g==s)=false:=by rw[h1]at hb;simpa using hb
     clear hb;go_enter func106,ntmps106
     go_wp2_with (go_at_call 142;refine(lT s _ hs).mono ?_;rw[HK.out];rintro e w' ⟨rfl,hb'⟩)
     go_ret2
     exact⟨rfl,hb'.trans (brf.alloc hb'.size _)⟩
theorem oJ(s:List UInt8)(w:World)(hs:s.length≤1000000000) :
 Calls prog 74 #[strV s] w (zn w (zQ s)):=by
 obtain⟨k,g,hkg⟩:∃k g,tokF s=(k,g):=⟨_,_,rfl⟩
 have HK:=Hd hkg;have hB:zQ s=(k==1&&g==s):=by rw[rI,HK.out]
 rw[hB];clear hkg hB
 have hc:∀W,Calls prog 106 #[strV s] W fun e w'=>e=.returned (.tuple #[.int .u8 (if k != 0&&g==s then k else 0),intV (if k != 0&&g==s then 0 else 4)])∧Below W.heap.size W w':=fun W=>by
  have:=DJ s W hs;rw[HK.out]at this;exact this
 have HC:=Hd hc;clear hc;obtain⟨b,hb⟩:∃b,(k != 0&&g==s)=b:=⟨_,rfl⟩
 cases b with
 | true=>
   obtain⟨h1,h2⟩:=Bool.and_eq_true _ _▸hb;rw[h2,Bool.and_true];have HB:=Hd hb;clear hb h1 h2;go_enter func74,ntmps74
   go_wp2_with (go_at_call 106;refine(HC.out _).mono ?_;rw[HB.out];rintro e w' ⟨rfl,hb'⟩)
   go_ret;exact⟨rfl,hb'⟩
 | false=>
   have hf:(k==1&&g==s)=false:=by
    cases hg:g==s with
    |false=>simp
    |true=>rw[hg]at hb;simp at hb;subst hb;rfl
   rw[hf];have HB:=Hd hb;clear hb hf;go_enter func74,ntmps74
   go_wp2_with (go_at_call 106;refine(HC.out _).mono ?_;rw[HB.out];rintro e w' ⟨rfl,hb'⟩)
   go_ret;exact⟨rfl,hb'⟩
theorem qZ(n:Int)(w:World):Calls prog 171 #[.int .u8 n] w fun e w'=>e=.returned (.bool (lM n))∧w=w':=by
 go_enter func171,ntmps171;go_wp2
 all_goals
  go_ret;refine⟨za ?_,rfl⟩
  (try simp_all[lM])<;>(try omega)
theorem jD(n:Int)(w:World):Calls prog 176 #[.int .u8 n] w fun e w'=>e=.returned (.bool (kW n))∧w=w':=by
 go_enter func176,ntmps176;go_wp2
 all_goals
  go_ret;refine⟨za ?_,rfl⟩
  (try simp_all[kW])<;>(try omega)
def FD(n:Int):Bool:=lM n||kW n
theorem tR(n:Int)(w:World):Calls prog 173 #[.int .u8 n] w fun e w'=>e=.returned (.bool (FD n))∧w=w':=by
 have hp:FD n=(lM n||kW n):=rfl;rw[hp];clear hp;obtain⟨b,hb⟩:∃b,lM n=b:=⟨_,rfl⟩
 have HB:=Hd hb;rw[hb];clear hb;cases b <;>
 ·go_enter func173,ntmps173
  go_wp2_with (first
   | (go_at_call 171;refine(qZ n _).mono ?_;rw[HB.out];rintro e w' ⟨rfl,rfl⟩)
   | (go_at_call 176;refine(jD n _).mono ?_;rintro e w' ⟨rfl,rfl⟩))
  go_ret;exact⟨rfl,rfl⟩
theorem rZ(n:Int)(w:World):Calls prog 198 #[.int .u8 n] w fun e w'=>e=.returned (.bool (n==32||n==10))∧w=w':=by
 go_enter func198,ntmps198;go_wp2
 all_goals
  go_ret;refine⟨za ?_,rfl⟩
  (try simp_all)<;>(try omega)
def lG(n:Int):Bool:=n != 10
def aZ(c:UInt8):Bool:=lG (c.toNat:Int)
theorem mS(n:Int)(w:World):Calls prog 199 #[.int .u8 n] w fun e w'=>e=.returned (.bool (lG n))∧w=w':=by
 go_enter func199,ntmps199;go_wp2
 all_goals
  go_ret;refine⟨za ?_,rfl⟩
  (try simp_all[lG])<;>(try omega)
theorem MJ(c:UInt8):bH c=FD (c.toNat:Int):=rfl
theorem jW(s:List UInt8)(w:World)(hs:s.length≤1000000000) :
 Calls prog 172 #[strV s,.func (.func 173) #[] #[]] w fun e w'=>e=.returned (intV (twl bH s))∧w=w':=by
 go_enter func172,ntmps172;go_wp2
 go_loop [5] (fun i=>∃k:Nat,k≤s.length∧i=.int .i64 k∧Hid (k≤twl bH s)) (fun i=>s.length-(intOf i).toNat)
 case atStart=>exact⟨0,Nat.zero_le _,rfl,Hd (Nat.zero_le _)⟩
 case round=>
  obtain⟨k,hk,rfl,HA⟩:=hrel;by_cases hlt:k<s.length
  ·obtain⟨b,hb⟩:∃b,FD (s[k].toNat:Int)=b:=⟨_,rfl⟩
   have HB:=Hd hb;clear hb
   cases b with
   | true=>
     have HS:=Hd (iY hlt HA.out HB.out)
     go_wp2_with (go_at_call 173;refine(tR _ _).mono ?_;rw[HB.out];rintro e w' ⟨rfl,rfl⟩)
     go_round
     case rel=>exact⟨k+1,by omega,by go_num,HS⟩
     case measure=>simp[intOf];omega
   | false=>
     have HS:=Hd (pX hlt HA.out HB.out)
     go_wp2_with (go_at_call 173;refine(tR _ _).mono ?_;rw[HB.out];rintro e w' ⟨rfl,rfl⟩)
     go_ret;exact⟨zr (by rw[←HS.out]),rfl⟩
  ·have HS:Hid (k=twl bH s):=Hd (by have:=HA.out;have:=jT bH s;omega)
   go_wp2;go_ret;exact⟨zr (by rw[←HS.out]),rfl⟩
theorem mT(s:List UInt8)(w:World)(hs:s.length≤1000000000) :
 Calls prog 172 #[strV s,.func (.func 176) #[] #[]] w fun e w'=>e=.returned (intV (twl zK s))∧w=w':=by
 go_enter func172,ntmps172;go_wp2
 go_loop [5] (fun i=>∃k:Nat,k≤s.length∧i=.int .i64 k∧Hid (k≤twl zK s)) (fun i=>s.length-(intOf i).toNat)
 case atStart=>exact⟨0,Nat.zero_le _,rfl,Hd (Nat.zero_le _)⟩
 case round=>
  obtain⟨k,hk,rfl,HA⟩:=hrel;by_cases hlt:k<s.length
  ·obtain⟨b,hb⟩:∃b,kW (s[k].toNat:Int)=b:=⟨_,rfl⟩
   have HB:=Hd hb;clear hb
   cases b with
   | true=>
     have HS:=Hd (iY hlt HA.out HB.out)
     go_wp2_with (go_at_call 176;refine(jD _ _).mono ?_;rw[HB.out];rintro e w' ⟨rfl,rfl⟩)
     go_round
     case rel=>exact⟨k+1,by omega,by go_num,HS⟩
     case measure=>simp[intOf];omega
   | false=>
     have HS:=Hd (pX hlt HA.out HB.out)
     go_wp2_with (go_at_call 176;refine(jD _ _).mono ?_;rw[HB.out];rintro e w' ⟨rfl,rfl⟩)
     go_ret;exact⟨zr (by rw[←HS.out]),rfl⟩
  ·have HS:Hid (k=twl zK s):=Hd (by have:=HA.out;have:=jT zK s;omega)
   go_wp2;go_ret;exact⟨zr (by rw[←HS.out]),rfl⟩
theorem wS(s:List UInt8)(w:World)(hs:s.length≤1000000000) :
 Calls prog 172 #[strV s,.func (.func 199) #[] #[]] w fun e w'=>e=.returned (intV (twl aZ s))∧w=w':=by
 go_enter func172,ntmps172;go_wp2
 go_loop [5] (fun i=>∃k:Nat,k≤s.length∧i=.int .i64 k∧Hid (k≤twl aZ s)) (fun i=>s.length-(intOf i).toNat)
 case atStart=>exact⟨0,Nat.zero_le _,rfl,Hd (Nat.zero_le _)⟩
 case round=>
  obtain⟨k,hk,rfl,HA⟩:=hrel;by_cases hlt:k<s.length
  ·obtain⟨b,hb⟩:∃b,lG (s[k].toNat:Int)=b:=⟨_,rfl⟩
   have HB:=Hd hb;clear hb
   cases b with
   | true=>
     have HS:=Hd (iY hlt HA.out HB.out)
     go_wp2_with (go_at_call 199;refine(mS _ _).mono ?_;rw[HB.out];rintro e w' ⟨rfl,rfl⟩)
     go_round
     case rel=>exact⟨k+1,by omega,by go_num,HS⟩
     case measure=>simp[intOf];omega
   | false=>
     have HS:=Hd (pX hlt HA.out HB.out)
     go_wp2_with (go_at_call 199;refine(mS _ _).mono ?_;rw[HB.out];rintro e w' ⟨rfl,rfl⟩)
     go_ret;exact⟨zr (by rw[←HS.out]),rfl⟩
  ·have HS:Hid (k=twl aZ s):=Hd (by have:=HA.out;have:=jT aZ s;omega)
   go_wp2;go_ret;exact⟨zr (by rw[←HS.out]),rfl⟩
def idxS(l:List (List UInt8))(s:List UInt8):Int:=first (fun i=>l[i]?==some s) l.length 0
theorem JC(l:List (List UInt8))(s:List UInt8):decide (0≤idxS l s)=hasS l s:=by
 rw[Bool.eq_iff_iff,decide_eq_true_eq];unfold idxS hasS;constructor
 ·intro h
  obtain⟨m,_,_,h3,h4⟩:=dT _ _ nlr h;have:l[m]?=some s:=by simpa using h4
  exact List.contains_iff_mem.2 (List.mem_of_getElem? this)
 ·intro h
  obtain⟨i,hi,e⟩:=List.getElem_of_mem (List.contains_iff_mem.1 h)
  have key:∀(f k:Nat),i-k≤f→k≤i→0≤first (fun i=>l[i]?==some s) l.length k:=by
   intro f
   induction f with
   | zero => intro k hf hk;obtain rfl:k=i:=by omega
             rw[aE hi (by simp[hi,e])];omega
   | succ f ih=>
     intro k hf hk;cases hp:(l[k]?==some s)with
     |true=>rw[aE (by omega) hp];omega
     | false=>
       rw[bR (by omega) hp];by_cases e2:k=i
       ·subst e2;simp[hi,e]at hp
       ·exact ih (k+1) (by omega) (by omega)
  exact key i 0 (by omega) (by omega)
theorem vX(a:Option Addr)(c:Nat)(l:List (List UInt8))(s:List UInt8)(w:World)(hm:l.length≤1000000000)(h:Strs w a c l) :
 Calls prog 209 #[.slice a l.length c,strV s] w fun e w'=>e=.returned (intV (idxS l s))∧w=w':=by
 have HR:=Hd h;clear h;go_enter func209,ntmps209;go_wp2
 go_loop [8] (fun i=>∃k:Nat,k≤l.length∧i=.int .i64 k∧Hid (idxS l s=first (fun i=>l[i]?==some s) l.length k)) (fun i=>l.length-(intOf i).toNat)
 case atStart=>exact⟨0,Nat.zero_le _,rfl,Hd rfl⟩
 case round=>
  obtain⟨k,hk,rfl,HA⟩:=hrel;by_cases hlt:k<l.length
  ·obtain⟨b,o,rfl,hb,hc⟩:=Strs.at HR.out hlt
   cases he:s==l[k]with
   | true=>
     have HE:=Hd he;have he2:(l[k]==s)=true:=by rw[BEq.comm];exact he
     go_wp2;go_ret;exact⟨zr (by rw[HA.out,aE hlt (by have:=HE.out;simp at this;simp[hlt,this])]),rfl⟩
   | false=>
     have HE:=Hd he;have he2:(l[k]==s)=false:=by rw[BEq.comm];exact he
     go_wp2
     go_round
     case rel=>exact⟨k+1,by omega,by go_num,Hd (by rw[HA.out,bR hlt (by have:=HE.out;simp at this;simp[hlt];exact fun h=>this h.symm)])⟩
     case measure=>simp[intOf];omega
  ·go_wp2
   go_ret;exact⟨zr (by rw[HA.out,bB (by omega)]),rfl⟩
theorem cM(a:Option Addr)(c:Nat)(l:List (List UInt8))(s:List UInt8)(w:World)(hm:l.length≤1000000000)(h:Strs w a c l) :
 Calls prog 174 #[.slice a l.length c,strV s] w fun e w'=>e=.returned (.bool (hasS l s))∧w=w':=by
 have HX:=Hd (JC l s);have HC:=Hd (vX a c l s w hm h);clear h;go_enter func174,ntmps174
 go_wp2_with (go_at_call 209;refine HC.out.mono ?_;rintro e w' ⟨rfl,rfl⟩)
 go_ret;exact⟨za (by rw[←HX.out]),rfl⟩
theorem vZ(s g:List UInt8)(w:World) :
 Calls prog 211 #[strV s,strV g] w fun e w'=>e=.returned (.bool (g.isPrefixOf s))∧w=w':=by
 by_cases hl:g.length≤s.length
 ·have hp:g.isPrefixOf s=(s.take g.length==g):=by
   rw[Bool.eq_iff_iff,List.isPrefixOf_iff_prefix,beq_iff_eq,List.prefix_iff_eq_take];exact eq_comm
  rw[hp];clear hp;go_enter func211,ntmps211;go_wp2;go_ret;refine⟨za ?_,rfl⟩;simp
 ·have hp:g.isPrefixOf s=false:=by
   rw[Bool.eq_false_iff];intro h;exact hl (List.isPrefixOf_iff_prefix.1 h).length_le
  rw[hp];clear hp;go_enter func211,ntmps211;go_wp2;go_ret;exact⟨rfl,rfl⟩
theorem jP(s g:List UInt8)(w:World) :
 Calls prog 179 #[strV s,strV g] w fun e w'=>e=.returned (.bool (g.isPrefixOf s))∧w=w':=by
 have HC:=Hd (vZ s g w);go_enter func179,ntmps179
 go_wp2_with (go_at_call 211;refine HC.out.mono ?_;rintro e w' ⟨rfl,rfl⟩)
 go_ret;exact⟨rfl,rfl⟩
theorem oL(s:List UInt8)(w:World)(h1:1≤s.length)(h2:s.length≤1000000000) :
 Calls prog 177 #[strV s] w fun e w'=>e=.returned (.bool (numB s))∧w=w':=by
 have h0:0<s.length:=h1
 have hh:s.head?=some s[0]:=by
  cases s with
  |nil=>simp at h0
  |cons x r=>rfl
 have hn:numB s=(decide (s.length≤4)&&(decide (s.length=1)||decide ((s[0].toNat:Int)≠48))):=by
  unfold numB;rw[hh];congr 2;rw[Bool.eq_iff_iff];simp;constructor
  ·intro h e;apply h;apply UInt8.toNat_inj.1;have e2:s[0].toNat=48:=by omega
   rw[e2];rfl
  ·intro h e;apply h;rw[e];rfl
 have HN:=Hd hn;clear hn hh;by_cases h4:s.length≤4
 ·by_cases h11:s.length=1
  ·have h4':((s.length:Int)==1)=true:=by simp[h11]
   have HA:=Hd h11;clear h11;go_enter func177,ntmps177;go_wp2;go_ret;exact⟨za (by rw[HN.out];simp[HA.out]),rfl⟩
  ·have h4':((s.length:Int)==1)=false:=by simp;omega
   have HA:=Hd h11;have HB:=Hd h4;clear h11;go_enter func177,ntmps177;go_wp2;go_ret;refine⟨za ?_,rfl⟩;rw[HN.out];simp[HA.out,HB.out];rw[Bool.eq_iff_iff];simp
 ·have HB:=Hd h4
  go_enter func177,ntmps177;go_wp2;go_ret;exact⟨za (by rw[HN.out];simp[HB.out]),rfl⟩
def iC(l:List Int)(n:Int)(p:Int→Bool):Bool:=(l.takeWhile (fun x=>decide (x<n))).any p
theorem pW{l:List Int}{n:Int}{p:Int→Bool}{k:Nat}(hk:k<l.length)(h:l[k]<n)(hp:p l[k]=true):iC (l.drop k) n p=true:=by
 rw[List.drop_eq_getElem_cons hk,iC,List.takeWhile_cons,if_pos (by simpa using h),List.any_cons,hp];rfl
theorem eP{l:List Int}{n:Int}{p:Int→Bool}{k:Nat}(hk:k<l.length)(h:l[k]<n)(hp:p l[k]=false):iC (l.drop k) n p=iC (l.drop (k+1)) n p:=by
 rw[List.drop_eq_getElem_cons hk,iC,List.takeWhile_cons,if_pos (by simpa using h),List.any_cons,hp];rfl
theorem mM{l:List Int}{n:Int}{p:Int→Bool}{k:Nat}(hk:k<l.length)(h:¬l[k]<n):iC (l.drop k) n p=false:=by
 rw[List.drop_eq_getElem_cons hk,iC,List.takeWhile_cons,if_neg (by simpa using h)];rfl
theorem pV{l:List Int}{n:Int}{p:Int→Bool}{k:Nat}(hk:l.length≤k):iC (l.drop k) n p=false:=by
 rw[List.drop_eq_nil_of_le hk];rfl
def cD(t:Tr)(n:Int):Bool:=iC t.items n fun it=>zl t it&&(t.nd it).text==(t.nd n).text
def dE(t:Tr)(n:Int):Bool:=iC (t.nd (parent t n)).kids n fun k=>(t.nd k).kind==34&&(t.nd k).text==(t.nd n).text
def cE(t:Tr)(n:Int):Bool:=iC t.items n fun it=>(t.nd it).kind==45&&means t it==means t n
def cI(t:Tr)(n:Int):Int:=
 if bY t n&&zl t n&&cD t n then 6
 else if (t.nd n).kind==34&&dE t n then 6
 else if !dW (t.nd n).kind then 0
 else if means t n<0 then 10
 else if (t.nd n).kind==21&&(t.nd (means t n)).n==0&&inside t n (means t n)then 9
 else if (t.nd n).kind==45&&cE t n then 9
 else 0
theorem qW(v:TreeV)(t:Tr)(n:Nat)(w:World)(wf:WF t)(hn:n<t.nodes.length)(h:IsTree w v t) :
 Calls prog 53 #[v.val t,intV n] w (cW w (cI t n)):=by
 have hmo:prog.follows .mixedOrders=true:=by kernel_rfl
 have HT:=Hd h;have WFH:=Hd wf;have hn3:=wf.bd.n;have him:=wf.bd.i;obtain⟨b,o,ka,kc,ea,hb,c0,c1,c2,c3,c4,hkr⟩:=HT.out.nodes.at hn;obtain⟨na,nc,ia,ic⟩:=v;simp only at ea;subst ea;obtain⟨D,hD⟩:∃D,D=t.nodes[n]:=⟨_,rfl⟩
 rw[←hD]at c0 c1 c2 c3 c4 hkr;have hnd:=t.nd_at hn;rw[←hD]at hnd;have HND:=Hd hnd;have HD:=Hd hD;have HKR:=Hd hkr;have hb1:b<w.heap.size+1:=by omega
 have hb2:b<w.heap.size+1+1:=by omega
 have hgD:∀W,Below w.heap.size w W→∀i:Nat,i<t.nodes.length→Calls prog 24 #[.agg #[.slice (some ⟨b,o,none⟩) t.nodes.length nc,.slice ia t.items.length ic],intV i] W (zn W (zl t i)):=fun W hJ i hi=>
  eT ⟨some ⟨b,o,none⟩,nc,ia,ic⟩ t i W WFH.out.bd hi (fun h34=>WFH.out.par i hi (by rw[←t.nd_at hi];exact h34)) (HT.out.mono hJ nlr)
 have HGD:=Hd hgD;clear h wf hkr hD hnd hgD;unfold TreeV.val;go_enter func53,ntmps53;have hg:Below (w.heap.size+1+1) (boxD (boxT w ⟨some ⟨b,o,none⟩,nc,ia,ic⟩ t) ka kc D) (boxD (boxT w ⟨some ⟨b,o,none⟩,nc,ia,ic⟩ t) ka kc D):=brf;have hbw:Below w.heap.size w (boxD (boxT w ⟨some ⟨b,o,none⟩,nc,ia,ic⟩ t) ka kc D):=(boxT_below.alloc (by simp) _)
 have HBW:=Hd hbw;have HG:=Hd hg;have hI:∀W,Below w.heap.size w W→Calls prog 92 #[.agg #[.slice (some ⟨b,o,none⟩) t.nodes.length nc,.slice ia t.items.length ic],intV n] W (zn W (bY t n)):=fun W hJ=>wQ ⟨some ⟨b,o,none⟩,nc,ia,ic⟩ t n W WFH.out.bd (HT.out.mono hJ nlr);have HI:=Hd hI;clear hI hbw hg
 go_upto_region 2 with fail
 go_cut [23]from 16 to 22 (fun v wc=>v=.bool (bY t n&&zl t n)∧Below (w.heap.size+1+1) (boxD (boxT w ⟨some ⟨b,o,none⟩,nc,ia,ic⟩ t) ka kc D) wc)
 case first=>
  cases hit:bY t n with
  | false=>
    have HIT:=Hd hit;clear hit
    go_wp2_with (go_at_call 92;refine(HI.out _ HBW.out).mono ?_;rw[HIT.out];rintro e w1 ⟨rfl,hb1'⟩)
    go_meet
    exact⟨by simp[HIT.out],Below.trans HG.out (hb1'.mono (by simp))⟩
  | true=>
    have HIT:=Hd hit;clear hit
    go_wp2_with (first
     | (go_at_call 92;refine(HI.out _ HBW.out).mono ?_;rw[HIT.out];rintro e w1 ⟨rfl,hb1'⟩;have HB1:=Hd (Below.trans HG.out (hb1'.mono (by simp)));obtain⟨⟨b10,b11⟩,⟨d10,d11,d12,d13⟩,-,⟨hs1,hs11,hs12,hs13⟩,hbw1⟩:=aF (v:=⟨some ⟨b,o,none⟩,nc,ia,ic⟩) (ka:=ka) (kc:=kc) (d:=D) (t:=t) (w:=w) (wr:=w1) HB1.out HT.out;obtain⟨hcw1,hfw1⟩:=bcell hbw1;have hbb1:b<w1.heap.size:=by omega)
     | (go_at_call 24;refine(HGD.out _ hbw1 n hn).mono ?_;rintro e w2 ⟨rfl,hb2'⟩))
    all_goals go_meet
    all_goals exact⟨by simp[HIT.out],Below.trans HB1.out (hb2'.mono (by omega))⟩
 case rest=>
  obtain⟨rfl,hB1⟩:=hcut;have HB1:=Hd hB1;clear hB1;obtain⟨⟨b10,b11⟩,⟨d10,d11,d12,d13⟩,-,⟨hs1,hs11,hs12,hs13⟩,hbw1⟩:=aF (v:=⟨some ⟨b,o,none⟩,nc,ia,ic⟩) (ka:=ka) (kc:=kc) (d:=D) (t:=t) (w:=w) (wr:=wc) HB1.out HT.out;obtain⟨hcw1,hfw1⟩:=bcell hbw1;have hbb1:b<wc.heap.size:=by omega
  obtain⟨Aq,hAq⟩:∃Aq,Aq=(bY t n&&zl t n):=⟨_,rfl⟩
  have hAo:=Hd hAq.symm;rw[←hAq];clear hAq
  go_upto_if 23 with fail
  go_cut [6]from 24 to 61 (fun v wc=>(bY t n&&zl t n&&cD t n)=false∧Below (w.heap.size+1+1) (boxD (boxT w ⟨some ⟨b,o,none⟩,nc,ia,ic⟩ t) ka kc D) wc)
  case first=>
   cases Aq with
   | false=>
     go_wp2
     go_meet
     exact⟨by rw[hAo.out];rfl,HB1.out⟩
   | true=>
     go_wp2
     go_loopw [6] (fun t6 wr=>∃k:Nat,t6=.int .i64 k∧k≤t.items.length∧Hid (cD t n=iC (t.items.drop k) n (fun it=>zl t it&&(t.nd it).text==(t.nd n).text))∧Hid (Below (w.heap.size+1+1) (boxD (boxT w ⟨some ⟨b,o,none⟩,nc,ia,ic⟩ t) ka kc D) wr)) (fun i _=>t.items.length-(intOf i).toNat)
     case atStart=>exact⟨0,rfl,Nat.zero_le _,Hd rfl,HB1⟩
     case round=>
      obtain⟨k,rfl,hk,HR,HB7⟩:=hrel;obtain⟨⟨b70,b71⟩,⟨d70,d71,d72,d73⟩,-,⟨hs7,hs71,hs72,hs73⟩,hbw7⟩:=aF (v:=⟨some ⟨b,o,none⟩,nc,ia,ic⟩) (ka:=ka) (kc:=kc) (d:=D) (t:=t) (w:=w) (wr:=wr) HB7.out HT.out;obtain⟨hcw7,hfw7⟩:=bcell hbw7;have hbb7:b<wr.heap.size:=by omega
      by_cases hlt:k<t.items.length
      ·obtain⟨bi,oi,eai,hbi,cit⟩:=Ints.at HT.out.items hlt
       simp only at eai;subst eai;obtain⟨hi1,hi2⟩:=WFH.out.item _ (List.getElem_mem hlt);obtain⟨it,hit⟩:=Int.eq_ofNat_of_zero_le hi1;have hit3:it<t.nodes.length:=by omega
       have HIT2:=Hd hit;rw[hit]at cit;obtain⟨b',o',ka',kc',ea',hb',f0,f1,-,-,-,-⟩:=HT.out.nodes.at hit3;simp only[Option.some.injEq,Addr.mk.injEq,and_true]at ea';obtain⟨rfl,rfl⟩:=ea';have HND3:=Hd (t.nd_at hit3);have hbi':bi<wr.heap.size:=by omega
       clear hi1 hi2 hit;by_cases hin:(it:Int)<n
       ·cases hdd:zl t it with
        | false=>
          have HDD:=Hd hdd;have HX:=Hd (eP (p:=(fun it=>zl t it&&(t.nd it).text==(t.nd n).text)) hlt (by rw[HIT2.out];exact hin) (by rw[HIT2.out,hdd];rfl));clear hdd;go_wp2;refine N.region_JTm 21 hmo (by kernel_rfl) (by kernel_rfl) rfl (by kernel_rfl) (by kernel_rfl) (fun Wz=>Below (wr).heap.size (wr) Wz) (brf.drew) ?_
          iterate 6 (refine N.WalkT.cons ?_ (N.StepP.pure rfl ?_) ?_;rotate_left;(intro W hJ;obtain⟨hcJ,hfJ⟩:=bcell hJ;go_simp;rfl);simp only[N.pz])
          refine N.WalkT.cons (.bool false) (N.StepP.call (f:=24) (args:=#[.agg #[.slice (some ⟨b,o,none⟩) t.nodes.length nc,.slice (some ⟨bi,oi,none⟩) t.items.length ic],intV it]) rfl ?hG1_6 ?cG1_6) ?rG1_6;case hG1_6=>intro W hJ;obtain⟨hcJ,hfJ⟩:=bcell hJ;go_simp;try rfl
          case cG1_6=>intro W hJ;(refine(HGD.out W (hbw7.trans (hJ.mono (by omega))) it hit3).mono ?_;rw[HDD.out];rintro e w2 ⟨rfl,hb2⟩;exact⟨rfl,hJ.trans (hb2.mono hJ.size)⟩)
          simp only[N.pz]
          iterate 14 ((first|(refine N.WalkT.cons undef (N.StepP.skip rfl) ?_)|(refine N.WalkT.cons ?_ (N.StepP.pure rfl ?_) ?_;rotate_left;(intro W hJ;obtain⟨hcJ,hfJ⟩:=bcell hJ;go_simp;rfl)));simp only[N.pz])
          refine N.WalkT.nil fun W hJ=>?_;go_wp2
          go_roundw
          case rel=>exact⟨k+1,by go_num,by omega,Hd (by rw[HR.out,HX.out]),Hd (HB7.out.trans (hJ.mono hs7))⟩
          case measure=>simp[intOf];omega
        | true=>
          have HDD:=Hd hdd
          cases htx:t.nodes[it].text==D.text with
          | false=>
            have HX:=Hd (eP (p:=(fun it=>zl t it&&(t.nd it).text==(t.nd n).text)) hlt (by rw[HIT2.out];exact hin) (by rw[HIT2.out,HND3.out,HND.out,hdd,htx];rfl));clear hdd;go_wp2;refine N.region_JTm 21 hmo (by kernel_rfl) (by kernel_rfl) rfl (by kernel_rfl) (by kernel_rfl) (fun Wz=>Below (wr).heap.size (wr) Wz) (brf.drew) ?_
            iterate 6 (refine N.WalkT.cons ?_ (N.StepP.pure rfl ?_) ?_;rotate_left;(intro W hJ;obtain⟨hcJ,hfJ⟩:=bcell hJ;go_simp;rfl);simp only[N.pz])
            refine N.WalkT.cons (.bool true) (N.StepP.call (f:=24) (args:=#[.agg #[.slice (some ⟨b,o,none⟩) t.nodes.length nc,.slice (some ⟨bi,oi,none⟩) t.items.length ic],intV it]) rfl ?hG2_6 ?cG2_6) ?rG2_6;case hG2_6=>intro W hJ;obtain⟨hcJ,hfJ⟩:=bcell hJ;go_simp;try rfl
            case cG2_6=>intro W hJ;(refine(HGD.out W (hbw7.trans (hJ.mono (by omega))) it hit3).mono ?_;rw[HDD.out];rintro e w2 ⟨rfl,hb2⟩;exact⟨rfl,hJ.trans (hb2.mono hJ.size)⟩)
            simp only[N.pz]
            iterate 14 (refine N.WalkT.cons ?_ (N.StepP.pure rfl ?_) ?_;rotate_left;(intro W hJ;obtain⟨hcJ,hfJ⟩:=bcell hJ;go_simp;rfl);simp only[N.pz])
            refine N.WalkT.nil fun W hJ=>?_;go_wp2
            go_roundw
            case rel=>exact⟨k+1,by go_num,by omega,Hd (by rw[HR.out,HX.out]),Hd (HB7.out.trans (hJ.mono hs7))⟩
            case measure=>simp[intOf];omega
          | true=>
            have HX:=Hd (pW (p:=(fun it=>zl t it&&(t.nd it).text==(t.nd n).text)) hlt (by rw[HIT2.out];exact hin) (by rw[HIT2.out,HND3.out,HND.out,hdd,htx];rfl));clear hdd;go_wp2;refine N.region_JTm 21 hmo (by kernel_rfl) (by kernel_rfl) rfl (by kernel_rfl) (by kernel_rfl) (fun Wz=>Below (wr).heap.size (wr) Wz) (brf.drew) ?_
            iterate 6 (refine N.WalkT.cons ?_ (N.StepP.pure rfl ?_) ?_;rotate_left;(intro W hJ;obtain⟨hcJ,hfJ⟩:=bcell hJ;go_simp;rfl);simp only[N.pz])
            refine N.WalkT.cons (.bool true) (N.StepP.call (f:=24) (args:=#[.agg #[.slice (some ⟨b,o,none⟩) t.nodes.length nc,.slice (some ⟨bi,oi,none⟩) t.items.length ic],intV it]) rfl ?hG3_6 ?cG3_6) ?rG3_6;case hG3_6=>intro W hJ;obtain⟨hcJ,hfJ⟩:=bcell hJ;go_simp;try rfl
            case cG3_6=>intro W hJ;(refine(HGD.out W (hbw7.trans (hJ.mono (by omega))) it hit3).mono ?_;rw[HDD.out];rintro e w2 ⟨rfl,hb2⟩;exact⟨rfl,hJ.trans (hb2.mono hJ.size)⟩)
            simp only[N.pz]
            iterate 14 (refine N.WalkT.cons ?_ (N.StepP.pure rfl ?_) ?_;rotate_left;(intro W hJ;obtain⟨hcJ,hfJ⟩:=bcell hJ;go_simp;rfl);simp only[N.pz])
            refine N.WalkT.nil fun W hJ=>?_;go_wp2;go_ret;exact⟨zr (by rw[cI,hAo.out,HR.out,HX.out];rfl),hbw7.trans (hJ.mono (by omega))⟩
       ·have HX:=Hd (mM (p:=(fun it=>zl t it&&(t.nd it).text==(t.nd n).text)) (n:=n) hlt (by rw[HIT2.out];exact hin))
        go_wp2
        go_meet
        exact⟨by rw[hAo.out,HR.out,HX.out];rfl,HB7.out⟩
      ·go_wp2
       go_meet
       exact⟨by rw[hAo.out,HR.out,pV (by omega)];rfl,HB7.out⟩
  case rest=>
   obtain⟨hA,hB2⟩:=hcut;have HA:=Hd hA;have HB2:=Hd hB2;clear hA hB2;obtain⟨⟨b20,b21⟩,⟨d20,d21,d22,d23⟩,-,⟨hs2,hs21,hs22,hs23⟩,hbw2⟩:=aF (v:=⟨some ⟨b,o,none⟩,nc,ia,ic⟩) (ka:=ka) (kc:=kc) (d:=D) (t:=t) (w:=w) (wr:=wc) HB2.out HT.out;obtain⟨hcw2,hfw2⟩:=bcell hbw2;have hbb2:b<wc.heap.size:=by omega
   obtain⟨Bq,hBq⟩:∃Bq,(D.kind==34)=Bq:=⟨_,rfl⟩
   go_upto_if 64 with fail
   have HBq:=Hd hBq;clear hBq
   go_cut [7,8]from 65 to 110 (fun v7 v8 wc=>((t.nd n).kind==34&&dE t n)=false∧Below (w.heap.size+1+1) (boxD (boxT w ⟨some ⟨b,o,none⟩,nc,ia,ic⟩ t) ka kc D) wc)
   case first=>
    cases Bq with
    | false=>
      go_wp2
      go_meet
      exact⟨by rw[HND.out,HBq.out];rfl,HB2.out⟩
    | true=>
      have H34:Hid (((t.nd n).kind==34)=true):=Hd (by rw[HND.out];exact HBq.out);obtain⟨p,hpe,hpl⟩:=bO t n (WFH.out.par n hn (by rw[←HD.out];simpa using HBq.out));have HP:=Hd hpe;have HNP:=Hd (t.nd_at hpl);obtain⟨bp,op,kap,kcp,eap,hbp,-,-,-,g3,-,hkrp'⟩:=HT.out.nodes.at hpl;simp only[Option.some.injEq,Addr.mk.injEq,and_true]at eap;obtain⟨rfl,rfl⟩:=eap;have hkrp:=Hd hkrp';have hkpl:=WFH.out.bd.k _ (List.getElem_mem hpl);clear hkrp' hpe
      go_upto_region 9 with fail
      refine N.region_JTm 8 hmo (by kernel_rfl) (by kernel_rfl) rfl (by kernel_rfl) (by kernel_rfl) (fun Wz=>Below (wc).heap.size (wc) Wz) (brf.drew) ?_
      iterate 4 (refine N.WalkT.cons ?_ (N.StepP.pure rfl ?_) ?_;rotate_left;(intro W hJ;obtain⟨hcJ,hfJ⟩:=bcell hJ;go_simp;rfl);simp only[N.pz])
      refine N.WalkT.cons (intV (p:Int)) (N.StepP.call (f:=64) (args:=#[.agg #[.slice (some ⟨b,o,none⟩) t.nodes.length nc,.slice ia t.items.length ic],intV n]) rfl ?hG4_4 ?cG4_4) ?rG4_4;case hG4_4=>intro W hJ;obtain⟨hcJ,hfJ⟩:=bcell hJ;go_simp;try rfl
      case cG4_4=>intro W hJ;(refine(bD ⟨some ⟨b,o,none⟩,nc,ia,ic⟩ t n W WFH.out.bd (by omega) (by omega) (HT.out.mono (hbw2.trans (hJ.mono (by omega))) nlr)).mono ?_;rintro e w3 ⟨rfl,hb3⟩;exact⟨by rw[HP.out],hJ.trans (hb3.mono hJ.size)⟩)
      simp only[N.pz]
      iterate 3 (refine N.WalkT.cons ?_ (N.StepP.pure rfl ?_) ?_;rotate_left;(intro W hJ;obtain⟨hcJ,hfJ⟩:=bcell hJ;go_simp;rfl);simp only[N.pz])
      refine N.WalkT.nil fun W hJ=>?_;go_wp2
      go_loopw [8] (fun t8 wr=>∃k:Nat,t8=.int .i64 k∧k≤t.nodes[p].kids.length∧Hid (dE t n=iC (t.nodes[p].kids.drop k) n (fun k=>(t.nd k).kind==34&&(t.nd k).text==(t.nd n).text))∧Hid (Below (w.heap.size+1+1) (boxD (boxT w ⟨some ⟨b,o,none⟩,nc,ia,ic⟩ t) ka kc D) wr)) (fun i _=>t.nodes[p].kids.length-(intOf i).toNat)
      case atStart=>exact⟨0,rfl,Nat.zero_le _,Hd (by rw[dE,HP.out,HNP.out];rfl),Hd (HB2.out.trans (hJ.mono (by omega)))⟩
      case round=>
       obtain⟨k,rfl,hk,HR,HB7⟩:=hrel;obtain⟨⟨b70,b71⟩,⟨d70,d71,d72,d73⟩,-,⟨hs7,hs71,hs72,hs73⟩,hbw7⟩:=aF (v:=⟨some ⟨b,o,none⟩,nc,ia,ic⟩) (ka:=ka) (kc:=kc) (d:=D) (t:=t) (w:=w) (wr:=wr) HB7.out HT.out;obtain⟨hcw7,hfw7⟩:=bcell hbw7;have hbb7:b<wr.heap.size:=by omega
       by_cases hlt:k<t.nodes[p].kids.length
       ·obtain⟨bi,oi,rfl,hbi,cit⟩:=Ints.at hkrp.out hlt
        obtain⟨hi1,hi2⟩:=WFH.out.kid p hpl _ (List.getElem_mem hlt);obtain⟨it,hit⟩:=Int.eq_ofNat_of_zero_le hi1;have hit3:it<t.nodes.length:=by omega
        have HIT2:=Hd hit;rw[hit]at cit;obtain⟨b',o',ka',kc',ea',hb',f0,f1,-,-,-,-⟩:=HT.out.nodes.at hit3;simp only[Option.some.injEq,Addr.mk.injEq,and_true]at ea';obtain⟨rfl,rfl⟩:=ea';have HND3:=Hd (t.nd_at hit3);have hbi':bi<wr.heap.size:=by omega
        clear hi1 hi2 hit;by_cases hin:(it:Int)<n
        ·cases hdd:t.nodes[it].kind==34 with
         | false=>
           have HX:=Hd (eP (p:=(fun k=>(t.nd k).kind==34&&(t.nd k).text==(t.nd n).text)) hlt (by rw[HIT2.out];exact hin) (by rw[HIT2.out,HND3.out,hdd];rfl));go_wp2
           go_quiet (fail)
           go_wp2
           go_roundw
           case rel=>exact⟨k+1,by go_num,by omega,Hd (by rw[HR.out,HX.out]),Hd (below_drewN HB7.out _)⟩
           case measure=>simp[intOf];omega
         | true=>
           cases htx:t.nodes[it].text==D.text with
           | false=>
             have HX:=Hd (eP (p:=(fun k=>(t.nd k).kind==34&&(t.nd k).text==(t.nd n).text)) hlt (by rw[HIT2.out];exact hin) (by rw[HIT2.out,HND3.out,HND.out,hdd,htx];rfl));go_wp2
             go_quiet (fail)
             go_wp2
             go_roundw
             case rel=>exact⟨k+1,by go_num,by omega,Hd (by rw[HR.out,HX.out]),Hd (below_drewN HB7.out _)⟩
             case measure=>simp[intOf];omega
           | true=>
             have HX:=Hd (pW (p:=(fun k=>(t.nd k).kind==34&&(t.nd k).text==(t.nd n).text)) hlt (by rw[HIT2.out];exact hin) (by rw[HIT2.out,HND3.out,HND.out,hdd,htx];rfl));go_wp2
             go_quiet (fail)
             go_wp2;go_ret;exact⟨zr (by rw[cI,HA.out,H34.out,HR.out,HX.out];rfl),below_drewN hbw7 _⟩
        ·have HX:=Hd (mM (p:=(fun k=>(t.nd k).kind==34&&(t.nd k).text==(t.nd n).text)) (n:=n) hlt (by rw[HIT2.out];exact hin))
         go_wp2
         go_meet
         exact⟨by rw[H34.out,HR.out,HX.out];rfl,HB7.out⟩
       ·go_wp2
        go_meet
        exact⟨by rw[H34.out,HR.out,pV (by omega)];rfl,HB7.out⟩
   case rest=>
    obtain⟨h34,hB3⟩:=hcut;have H34:=Hd h34;have HB3:=Hd hB3;clear h34 hB3;obtain⟨⟨b30,b31⟩,⟨d30,d31,d32,d33⟩,-,⟨hs3,hs31,hs32,hs33⟩,hbw3⟩:=aF (v:=⟨some ⟨b,o,none⟩,nc,ia,ic⟩) (ka:=ka) (kc:=kc) (d:=D) (t:=t) (w:=w) (wr:=wc) HB3.out HT.out;obtain⟨hcw3,hfw3⟩:=bcell hbw3;have hbb3:b<wc.heap.size:=by omega
    go_upto_region 15 with fail
    cases hnm:dW D.kind with
    | false=>
      have HNM:=Hd hnm;clear hnm
      go_wp2_with (go_at_call 93;refine(gI ⟨some ⟨b,o,none⟩,nc,ia,ic⟩ t n _ WFH.out.bd hn (HT.out.mono hbw3 nlr)).mono ?_;rw[←HD.out,HNM.out];rintro e w5 ⟨rfl,hb5⟩)
      go_ret;exact⟨zr (by rw[cI,HA.out,H34.out,HND.out,HNM.out];rfl),hbw3.trans (hb5.mono (by omega))⟩
    | true=>
      have HNM:=Hd hnm;clear hnm;obtain⟨m,hm⟩:∃m,m=means t n:=⟨_,rfl⟩
      have hmr:=cU WFH.out (node:=n);rw[←hm]at hmr;have HM:=Hd hm;have hm1:=hmr.1;have hm2:=hmr.2;clear hm hmr;have HE:Hid (cI t n=if m<0 then 10 else if D.kind==21&&(t.nd m).n==0&&inside t n m then 9 else if D.kind==45&&cE t n then 9 else 0):=Hd (by rw[cI,HA.out,H34.out,HND.out,HNM.out,←HM.out];rfl)
      go_upto_region 18 with(first
       | (go_at_call 93;refine(gI ⟨some ⟨b,o,none⟩,nc,ia,ic⟩ t n _ WFH.out.bd hn (HT.out.mono hbw3 nlr)).mono ?_;rw[←HD.out,HNM.out];rintro e w5 ⟨rfl,hb5⟩;have HB5:=Hd (Below.trans HB3.out (hb5.mono (by omega)));obtain⟨⟨b50,b51⟩,⟨d50,d51,d52,d53⟩,-,⟨hs5,hs51,hs52,hs53⟩,hbw5⟩:=aF (v:=⟨some ⟨b,o,none⟩,nc,ia,ic⟩) (ka:=ka) (kc:=kc) (d:=D) (t:=t) (w:=w) (wr:=w5) HB5.out HT.out;obtain⟨hcw5,hfw5⟩:=bcell hbw5;have hbb5:b<w5.heap.size:=by omega)
       | (go_at_call 54;refine(jB ⟨some ⟨b,o,none⟩,nc,ia,ic⟩ t n _ WFH.out hn (HT.out.mono hbw5 nlr)).mono ?_;rw[←HM.out];rintro e w6 ⟨rfl,hb6⟩;have HB6:=Hd (Below.trans HB5.out (hb6.mono (by omega)));obtain⟨⟨b60,b61⟩,⟨d60,d61,d62,d63⟩,-,⟨hs6,hs61,hs62,hs63⟩,hbw6⟩:=aF (v:=⟨some ⟨b,o,none⟩,nc,ia,ic⟩) (ka:=ka) (kc:=kc) (d:=D) (t:=t) (w:=w) (wr:=w6) HB6.out HT.out;obtain⟨hcw6,hfw6⟩:=bcell hbw6;have hbb6:b<w6.heap.size:=by omega))
      by_cases hm0:m<0
      ·go_wp2
       go_ret;exact⟨zr (by rw[HE.out,if_pos hm0]),hbw6⟩
      ·obtain⟨mm,rfl⟩:=Int.eq_ofNat_of_zero_le (show 0≤m by omega)
       have hmm:mm<t.nodes.length:=by omega
       have HE2:Hid (cI t n=if D.kind==21&&t.nodes[mm].n==0&&inside t n mm then 9 else if D.kind==45&&cE t n then 9 else 0):=Hd (by rw[HE.out,if_neg hm0,t.nd_at hmm]);obtain⟨b',o',ka',kc',ea',hb',-,-,c2',-,-,-⟩:=HT.out.nodes.at hmm;simp only[Option.some.injEq,Addr.mk.injEq,and_true]at ea';obtain⟨rfl,rfl⟩:=ea';clear HE;have hnm0:¬(mm:Int)<0:=by omega
       cases h21:D.kind==21 with
       | true=>
         have h45:(D.kind==45)=false:=by simp at h21;simp[h21]
         cases hz:t.nodes[mm].n==0 with
         | true=>
           have HZ:=Hd hz
           cases hin:inside t n mm with
           | true=>
             have HIN:=Hd hin;have HEE:Hid (cI t n=9):=Hd (by rw[HE2.out,h21,hz,hin];rfl);clear hin
             go_wp2_with (go_at_call 69;refine(eS ⟨some ⟨b,o,none⟩,nc,ia,ic⟩ t n mm _ WFH.out.bd (by omega) (by omega) (HT.out.mono hbw6 nlr)).mono ?_;rw[HIN.out];rintro e w7 ⟨rfl,hb7⟩)
             go_ret;exact⟨zr HEE.out.symm,hbw6.trans (hb7.mono (by omega))⟩
           | false=>
             have HIN:=Hd hin;have HEE:Hid (cI t n=0):=Hd (by rw[HE2.out,h21,hz,hin,h45];rfl);clear hin
             go_wp2_with (go_at_call 69;refine(eS ⟨some ⟨b,o,none⟩,nc,ia,ic⟩ t n mm _ WFH.out.bd (by omega) (by omega) (HT.out.mono hbw6 nlr)).mono ?_;rw[HIN.out];rintro e w7 ⟨rfl,hb7⟩;obtain⟨⟨b70,b71⟩,⟨d70,d71,d72,d73⟩,-,-,-⟩:=aF (v:=⟨some ⟨b,o,none⟩,nc,ia,ic⟩) (Below.trans HB6.out (hb7.mono (by omega))) HT.out)
             go_ret;exact⟨zr HEE.out.symm,hbw6.trans (hb7.mono (by omega))⟩
         | false=>
           have HEE:Hid (cI t n=0):=Hd (by rw[HE2.out,h21,hz,h45];rfl);go_wp2;go_ret;exact⟨zr HEE.out.symm,hbw6⟩
       | false=>
         cases h45:D.kind==45 with
         | false=>
           have HEE:Hid (cI t n=0):=Hd (by rw[HE2.out,h21,h45];rfl);go_wp2;go_ret;exact⟨zr HEE.out.symm,hbw6⟩
         | true=>
           have HEE:Hid (cI t n=if iC t.items n (fun it=>(t.nd it).kind==45&&means t it==mm)then 9 else 0):=Hd (by rw[HE2.out,h21,h45,cE,←HM.out];rfl)
           go_wp2_with fail
           go_loopw [10] (fun t10 wr=>∃k:Nat,t10=.int .i64 k∧k≤t.items.length∧Hid (cI t n=if iC (t.items.drop k) n (fun it=>(t.nd it).kind==45&&means t it==mm)then 9 else 0)∧Hid (Below (w.heap.size+1+1) (boxD (boxT w ⟨some ⟨b,o,none⟩,nc,ia,ic⟩ t) ka kc D) wr)) (fun i _=>t.items.length-(intOf i).toNat)
           case atStart=>exact⟨0,rfl,Nat.zero_le _,Hd HEE.out,HB6⟩
           case round=>
            obtain⟨k,rfl,hk,HR,HB7⟩:=hrel;obtain⟨⟨b70,b71⟩,⟨d70,d71,d72,d73⟩,-,⟨hs7,hs71,hs72,hs73⟩,hbw7⟩:=aF (v:=⟨some ⟨b,o,none⟩,nc,ia,ic⟩) (ka:=ka) (kc:=kc) (d:=D) (t:=t) (w:=w) (wr:=wr) HB7.out HT.out;obtain⟨hcw7,hfw7⟩:=bcell hbw7;have hbb7:b<wr.heap.size:=by omega
            by_cases hlt:k<t.items.length
            ·obtain⟨bi,oi,eai,hbi,cit⟩:=Ints.at HT.out.items hlt
             simp only at eai;subst eai;obtain⟨hi1,hi2⟩:=WFH.out.item _ (List.getElem_mem hlt);obtain⟨it,hit⟩:=Int.eq_ofNat_of_zero_le hi1;have hit3:it<t.nodes.length:=by omega
             have HIT2:=Hd hit;rw[hit]at cit;obtain⟨b',o',ka',kc',ea',hb',f0,f1,-,-,-,-⟩:=HT.out.nodes.at hit3;simp only[Option.some.injEq,Addr.mk.injEq,and_true]at ea';obtain⟨rfl,rfl⟩:=ea';have HND3:=Hd (t.nd_at hit3);have hbi':bi<wr.heap.size:=by omega
             clear hi1 hi2 hit;by_cases hin:(it:Int)<n
             ·cases hk45:t.nodes[it].kind==45 with
              | false=>
                have HX:=Hd (eP (p:=(fun it=>(t.nd it).kind==45&&means t it==mm)) hlt (by rw[HIT2.out];exact hin) (by rw[HIT2.out,HND3.out,hk45];rfl));go_wp2;refine N.region_JTm 21 hmo (by kernel_rfl) (by kernel_rfl) rfl (by kernel_rfl) (by kernel_rfl) (fun Wz=>Below (wr).heap.size (wr) Wz) (brf.drew) ?_
                iterate 21 ((first|(refine N.WalkT.cons undef (N.StepP.skip rfl) ?_)|(refine N.WalkT.cons ?_ (N.StepP.pure rfl ?_) ?_;rotate_left;(intro W hJ;obtain⟨hcJ,hfJ⟩:=bcell hJ;go_simp;rfl)));simp only[N.pz])
                refine N.WalkT.nil fun W hJ=>?_;go_wp2
                go_roundw
                case rel=>exact⟨k+1,by go_num,by omega,Hd (by rw[HR.out,HX.out]),Hd (HB7.out.trans (hJ.mono hs7))⟩
                case measure=>simp[intOf];omega
              | true=>
                cases hmm2:means t it==(mm:Int)with
                | false=>
                  have HX:=Hd (eP (p:=(fun it=>(t.nd it).kind==45&&means t it==mm)) hlt (by rw[HIT2.out];exact hin) (by rw[HIT2.out,HND3.out,hk45,hmm2];rfl));go_wp2;refine N.region_JTm 21 hmo (by kernel_rfl) (by kernel_rfl) rfl (by kernel_rfl) (by kernel_rfl) (fun Wz=>Below (wr).heap.size (wr) Wz) (brf.drew) ?_
                  iterate 18 (refine N.WalkT.cons ?_ (N.StepP.pure rfl ?_) ?_;rotate_left;(intro W hJ;obtain⟨hcJ,hfJ⟩:=bcell hJ;go_simp;rfl);simp only[N.pz])
                  refine N.WalkT.cons (intV (means t it)) (N.StepP.call (f:=54) (args:=#[.agg #[.slice (some ⟨b,o,none⟩) t.nodes.length nc,.slice (some ⟨bi,oi,none⟩) t.items.length ic],intV it]) rfl ?hG6_18 ?cG6_18) ?rG6_18;case hG6_18=>intro W hJ;obtain⟨hcJ,hfJ⟩:=bcell hJ;go_simp;try rfl
                  case cG6_18=>intro W hJ;(refine(jB ⟨some ⟨b,o,none⟩,nc,some ⟨bi,oi,none⟩,ic⟩ t it W WFH.out hit3 (HT.out.mono (hbw7.trans (hJ.mono (by omega))) nlr)).mono ?_;rintro e w2 ⟨rfl,hb2⟩;exact⟨rfl,hJ.trans (hb2.mono hJ.size)⟩)
                  simp only[N.pz]
                  iterate 2 (refine N.WalkT.cons ?_ (N.StepP.pure rfl ?_) ?_;rotate_left;(intro W hJ;obtain⟨hcJ,hfJ⟩:=bcell hJ;go_simp;rfl);simp only[N.pz])
                  refine N.WalkT.nil fun W hJ=>?_;go_wp2
                  go_roundw
                  case rel=>exact⟨k+1,by go_num,by omega,Hd (by rw[HR.out,HX.out]),Hd (HB7.out.trans (hJ.mono hs7))⟩
                  case measure=>simp[intOf];omega
                | true=>
                  have HX:=Hd (pW (p:=(fun it=>(t.nd it).kind==45&&means t it==mm)) hlt (by rw[HIT2.out];exact hin) (by rw[HIT2.out,HND3.out,hk45,hmm2];rfl));go_wp2;refine N.region_JTm 21 hmo (by kernel_rfl) (by kernel_rfl) rfl (by kernel_rfl) (by kernel_rfl) (fun Wz=>Below (wr).heap.size (wr) Wz) (brf.drew) ?_
                  iterate 18 (refine N.WalkT.cons ?_ (N.StepP.pure rfl ?_) ?_;rotate_left;(intro W hJ;obtain⟨hcJ,hfJ⟩:=bcell hJ;go_simp;rfl);simp only[N.pz])
                  refine N.WalkT.cons (intV (means t it)) (N.StepP.call (f:=54) (args:=#[.agg #[.slice (some ⟨b,o,none⟩) t.nodes.length nc,.slice (some ⟨bi,oi,none⟩) t.items.length ic],intV it]) rfl ?hG7_18 ?cG7_18) ?rG7_18;case hG7_18=>intro W hJ;obtain⟨hcJ,hfJ⟩:=bcell hJ;go_simp;try rfl
                  case cG7_18=>intro W hJ;(refine(jB ⟨some ⟨b,o,none⟩,nc,some ⟨bi,oi,none⟩,ic⟩ t it W WFH.out hit3 (HT.out.mono (hbw7.trans (hJ.mono (by omega))) nlr)).mono ?_;rintro e w2 ⟨rfl,hb2⟩;exact⟨rfl,hJ.trans (hb2.mono hJ.size)⟩)
                  simp only[N.pz]
                  iterate 2 (refine N.WalkT.cons ?_ (N.StepP.pure rfl ?_) ?_;rotate_left;(intro W hJ;obtain⟨hcJ,hfJ⟩:=bcell hJ;go_simp;rfl);simp only[N.pz])
                  refine N.WalkT.nil fun W hJ=>?_;go_wp2;go_ret;exact⟨zr (by rw[HR.out,HX.out];rfl),hbw7.trans (hJ.mono (by omega))⟩
             ·have HX:=Hd (mM (p:=(fun it=>(t.nd it).kind==45&&means t it==mm)) (n:=n) hlt (by rw[HIT2.out];exact hin))
              go_wp2;go_ret;exact⟨zr (by rw[HR.out,HX.out];rfl),hbw7⟩
            ·go_wp2
             go_ret;exact⟨zr (by rw[HR.out,pV (by omega)];rfl),hbw7⟩
def fJ(k:Int):Bool:=decide (30≤k)&&decide (k≤33)
def dH(k:Int):Bool:=decide (40≤k)&&decide (k≤46)
def dX(k:Int):Bool:=k==3||k==20||k==21||k==22||k==24||k==25||k==32||k==34||k==40||k==41||k==42||k==43||k==44||k==45
def zO(k n m:Int):Bool:=
 if k==1||k==2||k==3||k==30||k==31||k==32||k==45 then m==0
 else if k==4||k==5||k==22||k==25||k==33||k==34||k==43||k==44 then m==1
 else if k==19 then m==3
 else if k==21 then true
 else if k==24||k==26||k==41 then decide (1≤m)
 else if k==42 then decide (2≤m)
 else if k==46 then (if n==7 then m==0 else if n==8 then decide (1≤m)else m==1)
 else m==2
def zw(k n:Int):Bool:=
 if k==1 then decide (-9999≤n)&&decide (n≤9999)
 else if k==2 then n==0||n==1
 else if k==42 then decide (0≤n)
 else if k==33 then true
 else if k==46 then decide (1≤n)&&decide (n≤8)
 else n==0
def kidK(k:Int)(m i:Int)(d:Int):Bool:=
 if k==24 then d==25
 else if k==41 then d==34
 else if k==34||k==33 then fJ d
 else if k==40 then d==1
 else if k==42 then (if i==m-1 then aH d else if i==m-2 then fJ d else d==34)
 else aH d
theorem nT(n:Int)(w:World):Calls prog 159 #[.int .u8 n] w fun e w'=>e=.returned (.bool (aH n))∧w=w':=by
 go_enter func159,ntmps159;go_wp2
 all_goals
  go_ret;refine⟨za ?_,rfl⟩
  (try simp_all[aH])<;>(try omega)
theorem nV(n:Int)(w:World):Calls prog 160 #[.int .u8 n] w fun e w'=>e=.returned (.bool (fJ n))∧w=w':=by
 go_enter func160,ntmps160;go_wp2
 all_goals
  go_ret;refine⟨za ?_,rfl⟩
  (try simp_all[fJ])<;>(try omega)
theorem nU(n:Int)(w:World):Calls prog 124 #[.int .u8 n] w fun e w'=>e=.returned (.bool (dH n))∧w=w':=by
 go_enter func124,ntmps124;go_wp2
 all_goals
  go_ret;refine⟨za ?_,rfl⟩
  (try simp_all[dH])<;>(try omega)
theorem qK(n:Int)(w:World):Calls prog 161 #[.int .u8 n] w fun e w'=>e=.returned (.bool (dX n))∧w=w':=by
 go_enter func161,ntmps161;go_wp2
 all_goals
  go_ret;refine⟨za ?_,rfl⟩
  (try simp_all[dX])<;>(try omega)
def ndV(d:Nd)(ka:Option Addr)(kc:Nat):Value:=.agg #[.int .u8 d.kind,strV d.text,intV d.n,.slice ka d.kids.length kc,intV d.pos]
theorem CC(d:Nd)(ka:Option Addr)(kc:Nat)(w:World)(hl:d.kids.length≤1000000):Calls prog 162 #[ndV d ka kc] w (zn w (zO d.kind d.n d.kids.length)):=by
 unfold ndV;obtain⟨k,hk⟩:∃k,k=d.kind:=⟨_,rfl⟩
 obtain⟨n,hn⟩:∃n,n=d.n:=⟨_,rfl⟩
 rw[←hk,←hn];clear hk hn;go_enter func162,ntmps162;go_wp2
 all_goals
  go_ret;refine⟨za ?_,brf.alloc nlr _⟩;simp_all[zO]
theorem vS(d:Nd)(ka:Option Addr)(kc:Nat)(w:World):Calls prog 163 #[ndV d ka kc] w (zn w (zw d.kind d.n)):=by
 unfold ndV;obtain⟨k,hk⟩:∃k,k=d.kind:=⟨_,rfl⟩
 obtain⟨n,hn⟩:∃n,n=d.n:=⟨_,rfl⟩
 rw[←hk,←hn];clear hk hn;go_enter func163,ntmps163;go_wp2
 all_goals
  go_ret;refine⟨za ?_,brf.alloc nlr _⟩
  (try simp_all[zw])<;>(try omega)
theorem GU(d:Nd)(ka:Option Addr)(kc:Nat)(i c:Int)(w:World)(hl:d.kids.length≤1000000):Calls prog 164 #[ndV d ka kc,intV i,.int .u8 c] w (zn w (kidK d.kind d.kids.length i c)):=by
 unfold ndV;obtain⟨k,hk⟩:∃k,k=d.kind:=⟨_,rfl⟩
 rw[←hk];clear hk;go_enter func164,ntmps164
 go_wp2_with (first
  | (go_at_call 159;refine(nT c _).mono ?_;rintro e w' ⟨rfl,rfl⟩)
  | (go_at_call 160;refine(nV c _).mono ?_;rintro e w' ⟨rfl,rfl⟩))
 all_goals
  go_ret;refine⟨za ?_,brf.alloc nlr _⟩;simp_all[kidK]
end
end Go.Proofs.YtipjhljnkocioaaGreatDoor
