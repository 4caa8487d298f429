/- Part of a proof. -/
import Derived.Test.YtokdgiphdnjeoaaGreatDoorQ04
import Derived.Test.YtokdgiphdnjeoaaGreatDoorQ11
set_option maxRecDepth 100000
set_option maxHeartbeats 8000000
set_option linter.unusedVariables false
set_option linter.unusedSimpArgs false
open Go.Proofs.Tryz
namespace Go.Proofs.YtokdgiphdnjeoaaGreatDoor
section
open Go.RowKit
def GV(w:World):Prop:=Lib.TabIs prog w "strings.asciiSpace" .u8 Lib.asciiSpaceTab
theorem MF:prog.globalNamed "strings.asciiSpace" = some 4:=by kernel_rfl
theorem GV.mono{w w':World}{B:Nat}(h:GV w)(hb:Below B w w')(hB:w.heap.size≤B):GV w':=by
 unfold GV Lib.TabIs World.var? at h⊢;rw[MF]at h⊢;simp only[Option.bind_some]at h⊢
 have hlt:4<w.heap.size:=by
  rcases Nat.lt_or_ge 4 w.heap.size with h' | h'
  ·exact h'
  ·rw[Array.getElem?_eq_none h']at h;cases h
 rw[hb.block 4 (by omega)];exact h
theorem IK{l:List UInt8}(h:l.all (fun b=>decide (b.toNat<128))=true):∀(j:Nat) b,l[j]?=some b→b.toNat<128:=fun j b hj=>by
 have:=List.all_eq_true.1 h b (List.mem_of_getElem? hj);simpa using this
def uK:List UInt8:=[97,110,100,32,97,115,107,32,98,108,97,109,101,32,98,111,111,108,32,98,111,117,110,100,115,32,99,104,111,111,115,101,32,99,111,117,110,116,32,101,108,115,101,32,102,97,108,115,101,32,102,117,110,32,105,102,32,105,110,32,105,110,116,32,108,101,116,32,108,111,111,107,32,109,97,121,32,109,117,115,116,32,110,111,116,32,111,98,115,101,114,118,101,32,111,114,32,114,101,116,114,97,99,116,32,116,104,101,110,32,116,114,117,101,32,116,121,112,101,32,117,112,116,111,32,118,97,108,117,101,115,32,119,104,121]
def LK:List UInt8:=[61,61,32,33,61,32,60,61,32,62,61,32,46,46,32,43,32,45,32,42,32,47,32,37,32,60,32,62,32,61,32,40,32,41,32,91,32,93,32,123,32,125,32,44,32,58,32,59,32,46]
theorem pI:Lib.fields uK=zZ:=by decide
theorem vI:Lib.fields LK=signsL:=by decide
theorem nV(l:List UInt8)(r:List (List UInt8))(w:World)(hr:Lib.fields l=r)(hl:l.length<4294967281)(ha:l.all (fun b=>decide (b.toNat<128))=true)(h:GV w) :
 Calls prog 286 #[strV l] w (mC w r):=by
 subst hr;refine(Tryz.strings_Fields ⟨l.toArray⟩ w (show l.length<_ from hl) (by simpa using IK ha) h).mono ?_;rintro e w'⟨rfl,rfl⟩;have e1:(⟨l.toArray⟩:ByteArray).data.toList=l:=by simp
 rw[e1];exact⟨_,_,rfl,Row.made w (KW (Lib.fields l)) _ (by simp) nlr,brf.alloc nlr _⟩
theorem iA(w:World)(h:GV w):Calls prog 235 #[] w (mC w zZ):=by
 have HF:=Hd (nV uK _ w pI (by decide) (by decide) h);clear h;go_enter func235,ntmps235
 go_wp2_with (go_at_call 286;refine HF.out.mono ?_;rintro e w' ⟨a,c,rfl,h1,h2⟩)
 go_ret;exact⟨a,c,rfl,h1,h2⟩
theorem AT(w:World)(h:GV w):Calls prog 238 #[] w (mC w signsL):=by
 have HF:=Hd (nV LK _ w vI (by decide) (by decide) h);clear h;go_enter func238,ntmps238
 go_wp2_with (go_at_call 286;refine HF.out.mono ?_;rintro e w' ⟨a,c,rfl,h1,h2⟩)
 go_ret;exact⟨a,c,rfl,h1,h2⟩
def IG(w:World)(p:Int×List UInt8)(e:Ending)(w':World):Prop:=e=.returned (.tuple #[.int .u8 p.1,strV p.2])∧Below w.heap.size w w'
theorem ED{s:List UInt8}{k:Nat}(hk:k<signsL.length)(h:(signsL.take k).find? (fun g=>g.isPrefixOf s)=none)(hp:signsL[k].isPrefixOf s=false):(signsL.take (k+1)).find? (fun g=>g.isPrefixOf s)=none:=by
 rw[List.take_succ_eq_append_getElem hk,List.find?_append,h];simp[List.find?_cons,hp]
theorem EE{s:List UInt8}{k:Nat}(hk:k<signsL.length)(h:(signsL.take k).find? (fun g=>g.isPrefixOf s)=none)(hp:signsL[k].isPrefixOf s=true):signsL.find? (fun g=>g.isPrefixOf s)=some signsL[k]:=by
 have e:signsL=signsL.take k++signsL.drop k:=(List.take_append_drop k signsL).symm;have e2:signsL.drop k=signsL[k]::signsL.drop (k+1):=List.drop_eq_getElem_cons hk;rw[e2]at e;have e3:signsL.find? (fun g=>g.isPrefixOf s)=(signsL.take k++signsL[k]::signsL.drop (k+1)).find? (fun g=>g.isPrefixOf s):=congrArg _ e;rw[e3,List.find?_append,h,List.find?_cons,hp];rfl
theorem jS(s:List UInt8)(w:World)(hs:s.length≤1000000000)(hg:GV w) :
 Calls prog 174 #[strV s] w (IG w (tokF s)):=by
 have HG:=Hd hg;clear hg;have HL:Hid (∀(c:UInt8) (W:World),Calls prog 232 #[.int .u8 (c.toNat:Int)] W fun e w'=>e=.returned (.bool (jL c))∧W=w'):=Hd fun c W=>qP _ W;have HD:Hid (∀(c:UInt8) (W:World),Calls prog 236 #[.int .u8 (c.toNat:Int)] W fun e w'=>e=.returned (.bool (zK c))∧W=w'):=Hd fun c W=>jR _ W
 cases hse:s with
 | nil=>
   have ht:tokF []=(0,[]):=rfl;rw[ht];clear ht hse hs;go_enter func174,ntmps174;go_wp2
   go_ret2
   exact⟨rfl,brf⟩
 | cons c0 r0=>
   rw[←hse];have hl:0<s.length:=by rw[hse];simp
   obtain⟨c,hc⟩:∃c,s[0]'hl=c:=⟨_,rfl⟩
   have hne:(s==[])=false:=by rw[hse];rfl
   have hne2:([]==s)=false:=by rw[hse];rfl
   have hcc:c=c0:=by rw[←hc];simp[hse]
   have ht:tokF s=(if jL c then (if hasS zZ (s.takeWhile cB)then (3,s.takeWhile cB)else if (s.takeWhile cB).length≤12 then (1,s.takeWhile cB)else (0,[]))
    else if zK c then (if numB (s.takeWhile zK)then (2,s.takeWhile zK)else (0,[]))
    else match signsL.find? (fun g=>g.isPrefixOf s)with
     |some g=>(4,g)
     |none=>(0,[]):Int×List UInt8):=by rw[hcc,hse];rfl
   have hnil:¬s=[]:=by rw[hse];simp
   have HT:=Hd ht;have HC:=Hd hc;clear ht hcc hse
   cases hsm:jL c with
   | true=>
     have HSM:=Hd hsm;obtain⟨W,hW⟩:∃W,s.takeWhile cB=W:=⟨_,rfl⟩
     have HW:=Hd hW;have hwt:=qA cB s;rw[hW]at hwt;have hwl:=kH cB s;have hWl:W.length=twl cB s:=by rw[←hW];rfl
     have HWT:=Hd hwt;have HWL:=Hd hWl
     cases hk:hasS zZ W with
     | true=>
       have HK:=Hd hk;clear hk hsm hW hwt hWl;go_enter func174,ntmps174;have hwt:=HWT.out
       go_wp2_with (first
        | (go_at_call 232;refine(HL.out c _).mono ?_;rw[HSM.out];rintro e w' ⟨rfl,rfl⟩)
        | (go_at_call 236;refine(HD.out c _).mono ?_;rw[HDM.out];rintro e w' ⟨rfl,rfl⟩)
        | (go_at_call 230;refine(kL s _ hs).mono ?_;rintro e w' ⟨rfl,rfl⟩)
        | (go_at_call 235;refine(iA _ HG.out).mono ?_;rintro e w1 ⟨a1,c1,rfl,hr1,hb1⟩;have HB1:=Hd hb1;have HR1:=Hd hr1;clear hb1 hr1)
        | (go_at_call 234;have hwt:=HWT.out;(try rw[hwt]);refine(dF a1 c1 zZ W _ (by decide) HR1.out).mono ?_;rw[HK.out];rintro e w2 ⟨rfl,rfl⟩))
       go_ret2
       exact⟨by rw[HT.out,HSM.out,HW.out,HK.out];rfl,HB1.out⟩
     | false=>
       have HK:=Hd hk;by_cases h12:W.length≤12
       ·have H12:=Hd h12
        clear hk hsm hW hwt hWl;go_enter func174,ntmps174;have hwt:=HWT.out
        go_wp2_with (first
        | (go_at_call 232;refine(HL.out c _).mono ?_;rw[HSM.out];rintro e w' ⟨rfl,rfl⟩)
        | (go_at_call 236;refine(HD.out c _).mono ?_;rw[HDM.out];rintro e w' ⟨rfl,rfl⟩)
        | (go_at_call 230;refine(kL s _ hs).mono ?_;rintro e w' ⟨rfl,rfl⟩)
        | (go_at_call 235;refine(iA _ HG.out).mono ?_;rintro e w1 ⟨a1,c1,rfl,hr1,hb1⟩;have HB1:=Hd hb1;have HR1:=Hd hr1;clear hb1 hr1)
        | (go_at_call 234;have hwt:=HWT.out;(try rw[hwt]);refine(dF a1 c1 zZ W _ (by decide) HR1.out).mono ?_;rw[HK.out];rintro e w2 ⟨rfl,rfl⟩))
        go_ret2
        exact⟨by rw[HT.out,HSM.out,HW.out,HK.out];simp[H12.out],HB1.out⟩
       ·have H12:=Hd h12
        clear hk hsm hW hwt hWl;go_enter func174,ntmps174;have hwt:=HWT.out
        go_wp2_with (first
        | (go_at_call 232;refine(HL.out c _).mono ?_;rw[HSM.out];rintro e w' ⟨rfl,rfl⟩)
        | (go_at_call 236;refine(HD.out c _).mono ?_;rw[HDM.out];rintro e w' ⟨rfl,rfl⟩)
        | (go_at_call 230;refine(kL s _ hs).mono ?_;rintro e w' ⟨rfl,rfl⟩)
        | (go_at_call 235;refine(iA _ HG.out).mono ?_;rintro e w1 ⟨a1,c1,rfl,hr1,hb1⟩;have HB1:=Hd hb1;have HR1:=Hd hr1;clear hb1 hr1)
        | (go_at_call 234;have hwt:=HWT.out;(try rw[hwt]);refine(dF a1 c1 zZ W _ (by decide) HR1.out).mono ?_;rw[HK.out];rintro e w2 ⟨rfl,rfl⟩))
        go_ret2
        exact⟨by rw[HT.out,HSM.out,HW.out,HK.out];simp[H12.out],HB1.out⟩
   | false=>
     have HSM:=Hd hsm
     cases hdm:zK c with
     | true=>
       have HDM:=Hd hdm;obtain⟨W,hW⟩:∃W,s.takeWhile zK=W:=⟨_,rfl⟩
       have HW:=Hd hW;have hwt:=qA zK s;rw[hW]at hwt;have hwl:=kH zK s;have hWl:W.length=twl zK s:=by rw[←hW];rfl
       have HWT:=Hd hwt;have hW1:1≤W.length:=by rw[hWl];exact jN (k:=0) hl (Nat.zero_le _) (by rw[HC.out];exact hdm)
       have hW2:W.length≤1000000000:=by omega
       cases hk:numB W with
       | true=>
         have HK:=Hd hk;clear hk hsm hdm hW hwt hWl;go_enter func174,ntmps174;have hwt:=HWT.out
         go_wp2_with (first
         | (go_at_call 232;refine(HL.out c _).mono ?_;rw[HSM.out];rintro e w' ⟨rfl,rfl⟩)
         | (go_at_call 236;refine(HD.out c _).mono ?_;rw[HDM.out];rintro e w' ⟨rfl,rfl⟩)
         | (go_at_call 230;refine(mV s _ hs).mono ?_;rintro e w' ⟨rfl,rfl⟩)
         | (go_at_call 237;have hwt:=HWT.out;(try rw[hwt]);refine(oJ W _ hW1 hW2).mono ?_;rw[HK.out];rintro e w2 ⟨rfl,rfl⟩))
         go_ret2
         exact⟨by rw[HT.out,HSM.out,HDM.out,HW.out,HK.out];rfl,brf⟩
       | false=>
         have HK:=Hd hk;clear hk hsm hdm hW hwt hWl;go_enter func174,ntmps174;have hwt:=HWT.out
         go_wp2_with (first
         | (go_at_call 232;refine(HL.out c _).mono ?_;rw[HSM.out];rintro e w' ⟨rfl,rfl⟩)
         | (go_at_call 236;refine(HD.out c _).mono ?_;rw[HDM.out];rintro e w' ⟨rfl,rfl⟩)
         | (go_at_call 230;refine(mV s _ hs).mono ?_;rintro e w' ⟨rfl,rfl⟩)
         | (go_at_call 237;have hwt:=HWT.out;(try rw[hwt]);refine(oJ W _ hW1 hW2).mono ?_;rw[HK.out];rintro e w2 ⟨rfl,rfl⟩))
         go_ret2
         exact⟨by rw[HT.out,HSM.out,HDM.out,HW.out,HK.out];rfl,brf⟩
     | false=>
       have HDM:=Hd hdm;clear hdm hsm;have hsl:signsL.length=23:=rfl;have HSL:=Hd hsl;clear hsl;go_enter func174,ntmps174
       go_wp2_with (first
        | (go_at_call 232;refine(HL.out c _).mono ?_;rw[HSM.out];rintro e w' ⟨rfl,rfl⟩)
        | (go_at_call 236;refine(HD.out c _).mono ?_;rw[HDM.out];rintro e w' ⟨rfl,rfl⟩)
        | (go_at_call 238;refine(AT _ HG.out).mono ?_;rw[show mC w signsL=fun e w'=>∃a c,e=.returned (.slice a 23 c)∧Strs w' a c signsL∧Below w.heap.size w w' from rfl];rintro e w1 ⟨a1,c1,rfl,hr1,hb1⟩;have HB1:=Hd hb1;have HR1:=Hd hr1;clear hb1 hr1))
       go_loop [42] (fun t42=>∃k:Nat,t42=.int .i64 k∧k≤23∧Hid ((signsL.take k).find? (fun g=>g.isPrefixOf s)=none)) (fun t42=>23-(intOf t42).toNat)
       case atStart=>exact⟨0,rfl,Nat.zero_le _,Hd rfl⟩
       case round=>
        obtain⟨k,rfl,hk,HF⟩:=hrel;by_cases hlt:k<23
        ·have hlt2:k<signsL.length:=by rw[HSL.out];exact hlt
         obtain⟨b1,o1,e1,hb1,hc1⟩:=Strs.at HR1.out hlt2;subst e1;obtain⟨g,hg⟩:∃g,signsL[k]=g:=⟨_,rfl⟩
         rw[hg]at hc1;have HGG:=Hd hg
         cases hp:g.isPrefixOf s with
         | true=>
           have HP:=Hd hp;have HFS:=Hd (EE hlt2 HF.out (by rw[hg];exact hp));clear hp hg
           go_wp2_with (go_at_call 239;refine(kE s g _).mono ?_;rw[HP.out];rintro e w' ⟨rfl,rfl⟩)
           go_ret2
           exact⟨by rw[HT.out,HSM.out,HDM.out,HFS.out,HGG.out];rfl,HB1.out⟩
         | false=>
           have HP:=Hd hp;have HFN:=Hd (ED hlt2 HF.out (by rw[hg];exact hp));clear hp hg
           go_wp2_with (go_at_call 239;refine(kE s g _).mono ?_;rw[HP.out];rintro e w' ⟨rfl,rfl⟩)
           go_round
           case rel=>exact⟨k+1,by go_num,by omega,HFN⟩
           case measure=>simp[intOf];omega
        ·obtain rfl:k=23:=by omega
         have HFE:Hid (signsL.find? (fun g=>g.isPrefixOf s)=none):=Hd (by have:=HF.out;rwa[List.take_of_length_le (by rw[HSL.out];exact nlr)]at this);go_wp2
         go_ret2
         exact⟨by rw[HT.out,HSM.out,HDM.out,HFE.out];rfl,HB1.out⟩
end
section
open Go Go.RowKit
def vQ(n:Int):Bool:=n==10||(decide (32≤n)&&decide (n≤126))
theorem AA(c:UInt8):lZ c=vQ (c.toNat:Int):=by
 unfold lZ vQ;rw[Bool.eq_iff_iff];simp only[Bool.or_eq_true,Bool.and_eq_true,beq_iff_eq,decide_eq_true_eq];constructor
 ·rintro(h|⟨h1,h2⟩)
  ·subst h;exact .inl rfl
  ·exact .inr ⟨by omega,by omega⟩
 ·rintro(h|⟨h1,h2⟩)
  ·exact .inl (UInt8.toNat_inj.1 (by simpa using(by omega:c.toNat=10)))
  ·exact .inr ⟨by omega,by omega⟩
theorem nR(n:Int)(w:World):Calls prog 228 #[.int .u8 n] w fun e w'=>e=.returned (.bool (vQ n))∧w=w':=by
 go_enter func228,ntmps228;go_wp2
 all_goals
  go_ret;refine⟨zb ?_,rfl⟩
  (try simp_all[vQ])<;>(try omega)
theorem IU{s:List UInt8}(h1:s.length≤2000)(h2:∀i (h:i<s.length),lZ s[i]=true):fJ s=(0,0):=by
 unfold fJ
 rw[if_neg (by omega),List.findIdx?_eq_none_iff.2 (fun x hx=>by
  obtain⟨i,hi,rfl⟩:=List.getElem_of_mem hx
  simp[h2 i hi])]
theorem IT{s:List UInt8}(h1:s.length≤2000){i:Nat}(hi:i<s.length)(h2:∀j (h:j<s.length),j<i→lZ s[j]=true)(h3:lZ s[i]=false):fJ s=((i:Int),4):=by
 unfold fJ
 have:s.findIdx? (fun c=>!lZ c)=some i:=by
  rw[List.findIdx?_eq_some_iff_getElem];exact⟨hi,by simp[h3],fun j hj=>by simp[h2 j (by omega) hj]⟩
 rw[if_neg (by omega),this]
theorem vT(s:List UInt8)(w:World)(hs:s.length≤1000000000) :
 Calls prog 172 #[strV s] w fun e w'=>e=.returned (.tuple #[intV (fJ s).1,intV (fJ s).2])∧Below w.heap.size w w':=by
 by_cases h1:s.length≤2000
 ·go_enter func172,ntmps172
  go_wp2
  go_loop [10] (fun i=>∃k:Nat,k≤s.length∧i=.int .i64 k∧Hid (∀j (h:j<s.length),j<k→lZ s[j]=true)) (fun i=>s.length-(intOf i).toNat)
  case atStart=>exact⟨0,Nat.zero_le _,rfl,Hd (fun j _ h=>absurd h (Nat.not_lt_zero j))⟩
  case round=>
   obtain⟨k,hk,rfl,HA⟩:=hrel;by_cases hlt:k<s.length
   ·obtain⟨b,hb⟩:∃b,vQ (s[k].toNat:Int)=b:=⟨_,rfl⟩
    have HB:=Hd hb;clear hb
    cases b with
    | true=>
      have HS:Hid (∀j (h:j<s.length),j<k+1→lZ s[j]=true):=Hd (fun j h hj=>by
       by_cases e:j=k
       ·subst e;rw[AA];exact HB.out
       ·exact HA.out j h (by omega))
      go_wp2_with (go_at_call 228;refine(nR _ _).mono ?_;rw[HB.out];rintro e w' ⟨rfl,rfl⟩)
      go_round
      case rel=>exact⟨k+1,by omega,by go_num,HS⟩
      case measure=>simp[intOf];omega
    | false=>
      have HS:Hid (fJ s=((k:Int),4)):=Hd (IT h1 hlt HA.out (by rw[AA];exact HB.out))
      go_wp2_with (go_at_call 228;refine(nR _ _).mono ?_;rw[HB.out];rintro e w' ⟨rfl,rfl⟩)
      go_ret2
      exact⟨by rw[HS.out];rfl,brf⟩
   ·have HS:Hid (fJ s=(0,0)):=Hd (IU h1 (fun i hi=>HA.out i hi (by omega)))
    go_wp2
    go_ret2
    exact⟨by rw[HS.out];rfl,brf⟩
 ·have HS:Hid (fJ s=(2000,5)):=Hd (by unfold fJ;rw[if_pos (by omega)])
  go_enter func172,ntmps172;go_wp2
  go_ret2
  exact⟨by rw[HS.out];rfl,brf⟩
theorem NM(c:UInt8):gapB c=((c.toNat:Int)==32||(c.toNat:Int)==10):=by
 unfold gapB;rw[Bool.eq_iff_iff];simp only[Bool.or_eq_true,beq_iff_eq];constructor
 ·rintro(h|h)<;>subst h
  ·exact .inl rfl
  ·exact .inr rfl
 ·rintro(h|h)
  ·exact .inl (UInt8.toNat_inj.1 (by simpa using(by omega:c.toNat=32)))
  ·exact .inr (UInt8.toNat_inj.1 (by simpa using(by omega:c.toNat=10)))
theorem xI(c:UInt8):bQ c = !(c==10):=by
 unfold bQ lS;rw[Bool.eq_iff_iff];simp only[bne_iff_ne,ne_eq,Bool.not_eq_true',beq_eq_false_iff_ne];constructor
 ·intro h e;subst e;exact h rfl
 ·intro h e;exact h (UInt8.toNat_inj.1 (by simpa using(by omega:c.toNat=10)))
theorem yU:∀b,cE b []=0
 |true=>rfl
 |false=>rfl
theorem vK:∀l:List UInt8,cE true l=twl bQ l+cE false (l.drop (twl bQ l))
 | []=>rfl
 | c::l=>by
   unfold twl;rw[List.takeWhile_cons,xI];cases h:(c==10)with
   | true=>
     obtain rfl:=eq_of_beq h;show cE false l+1=0+cE false (10::l)
     rw[Nat.zero_add];rfl
   | false=>
     have:=vK l;unfold twl at this;show cE true (c::l)=_
     rw[cE,if_neg (by rw[h];exact Bool.false_ne_true),this];simp only[Bool.not_false,if_true,List.length_cons,List.drop_succ_cons];omega
theorem KU{s:List UInt8}{n:Nat}(h:n<s.length)(hg:gapB s[n]=true):cE false (s.drop n)=cE false (s.drop (n+1))+1:=by
 rw[List.drop_eq_getElem_cons h,cE,if_pos hg]
theorem FS{s:List UInt8}{n:Nat}(h:n<s.length)(hg:gapB s[n]=false)(h35:(s[n]==35)=true):cE false (s.drop n)=twl bQ (s.drop n)+cE false (s.drop (n+twl bQ (s.drop n)))∧1≤twl bQ (s.drop n):=by
 have e:=eq_of_beq h35;have hd:=List.drop_eq_getElem_cons h
 have h1:twl bQ (s.drop n)=twl bQ (s.drop (n+1))+1:=by
  rw[hd];unfold twl;rw[List.takeWhile_cons,e];rfl
 refine⟨?_,by omega⟩;rw[h1]
 conv=>lhs;rw[hd,cE,if_neg (by rw[hg];exact Bool.false_ne_true),if_pos h35,vK,List.drop_drop]
 rw[show n+(twl bQ (s.drop (n+1))+1)=n+1+twl bQ (s.drop (n+1)) by omega];omega
theorem FR{s:List UInt8}{n:Nat}(h:n<s.length)(hg:gapB s[n]=false)(h35:(s[n]==35)=false):cE false (s.drop n)=0:=by
 rw[List.drop_eq_getElem_cons h,cE,if_neg (by rw[hg];exact Bool.false_ne_true),if_neg (by rw[h35];exact Bool.false_ne_true)]
theorem kV:∀(b:Bool) (l:List UInt8),cE b l≤l.length
 |b,[]=>by rw[yU];exact nlr
 | true,c::l=>by
   rw[cE,List.length_cons];split
   ·have:=kV false l;omega
   ·have:=kV true l;omega
 | false,c::l=>by
   rw[cE,List.length_cons];split
   ·have:=kV false l;omega
   ·split
    ·have:=kV true l;omega
    ·omega
theorem tW(s:List UInt8)(w:World)(hs:s.length≤1000000000) :
 Calls prog 173 #[strV s] w fun e w'=>e=.returned (intV (cE false s))∧w=w':=by
 have HL:Hid (cE false s≤s.length):=Hd (kV false s);go_enter func173,ntmps173;go_wp2
 go_loop [3] (fun i=>∃k:Nat,k≤s.length∧i=.int .i64 k∧Hid (cE false s=k+cE false (s.drop k))) (fun i=>s.length-(intOf i).toNat)
 case atStart=>exact⟨0,Nat.zero_le _,rfl,Hd (by simp)⟩
 case round=>
  obtain⟨k,hk,rfl,HA⟩:=hrel;by_cases hlt:k<s.length
  ·obtain⟨b,hb⟩:∃b,gapB s[k]=b:=⟨_,rfl⟩
   have HB:=Hd hb;have HBI:=Hd (NM s[k]);clear hb
   cases b with
   | true=>
     have HS:Hid (cE false s=(k+1:Nat)+cE false (s.drop (k+1))):=Hd (by rw[HA.out,KU hlt HB.out];omega)
     go_wp2_with (go_at_call 229;refine(rX _ _).mono ?_;rw[←HBI.out,HB.out];rintro e w' ⟨rfl,rfl⟩)
     go_round
     case rel=>exact⟨k+1,by omega,by go_num,HS⟩
     case measure=>simp[intOf];omega
   | false=>
     cases h35:((s[k].toNat:Int)==35)with
     | true=>
       have h35':(s[k]==35)=true:=by
        rw[beq_iff_eq]at h35⊢;exact UInt8.toNat_inj.1 (by simpa using(by omega:s[k].toNat=35))
       obtain⟨q1,q2⟩:=FS hlt HB.out h35';have q3:=kH bQ (s.drop k);rw[List.length_drop]at q3;obtain⟨m,hm⟩:∃m,twl bQ (s.drop k)=m:=⟨_,rfl⟩
       rw[hm]at q1 q2 q3;have HM:=Hd hm;have HS:Hid (cE false s=(k+m:Nat)+cE false (s.drop (k+m))):=Hd (by rw[HA.out,q1];omega);clear hm q1 h35'
       go_wp2_with (first
        | (go_at_call 229;refine(rX _ _).mono ?_;rw[←HBI.out,HB.out];rintro e w' ⟨rfl,rfl⟩)
        | (go_at_call 230;refine(wR (s.drop k) _ (by simp;omega)).mono ?_;rw[HM.out];rintro e w' ⟨rfl,rfl⟩))
       go_round
       case rel=>exact⟨k+m,by omega,by go_num,HS⟩
       case measure=>simp[intOf];omega
     | false=>
       have h35':(s[k]==35)=false:=by
        rw[beq_eq_false_iff_ne]at h35⊢;intro e;rw[e]at h35;exact h35 rfl
       have HS:Hid (cE false s=k):=Hd (by rw[HA.out,FR hlt HB.out h35'];rfl);clear h35'
       go_wp2_with (go_at_call 229;refine(rX _ _).mono ?_;rw[←HBI.out,HB.out];rintro e w' ⟨rfl,rfl⟩)
       go_ret;exact⟨zo (by rw[HS.out]),rfl⟩
  ·have HS:Hid (cE false s=k):=Hd (by rw[HA.out,List.drop_of_length_le (by omega),yU];rfl)
   go_wp2;go_ret;exact⟨zo (by rw[HS.out]),rfl⟩
end
end Go.Proofs.YtokdgiphdnjeoaaGreatDoor
