/- Part of a proof. -/
import Derived.Test.YthjpoaannjgdmaaGreatDoorK04
import Derived.Test.YthjpoaannjgdmaaGreatDoorK10
set_option maxRecDepth 100000
set_option maxHeartbeats 8000000
set_option linter.unusedVariables false
set_option linter.unusedSimpArgs false
open Go.Proofs.Tryz
namespace Go.Proofs.YthjpoaannjgdmaaGreatDoor
section
open Go.RowKit
def GV(w:World):Prop:=Lib.TabIs prog w "strings.asciiSpace" .u8 Lib.asciiSpaceTab
theorem IV:prog.globalNamed "strings.asciiSpace" = some 4:=by kernel_rfl
theorem GV.mono{w w':World}{B:Nat}(h:GV w)(hb:Below B w w')(hB:w.heap.size<=B):GV w':=by
 unfold GV Lib.TabIs World.var? at h|-;rw[IV]at h|-;simp only[Option.bind_some]at h|-
 have ha:4<w.heap.size:=by
  rcases Nat.lt_or_ge 4 w.heap.size with h' | h'
  .exact h'
  .rw[Array.getElem?_eq_none h']at h;cases h
 rw[hb.block 4 (by omega)];exact h
theorem LU{l:List UInt8}(h:l.all (fun b=>decide (b.toNat<128))=true):∀(j:Nat) b,l[j]?=some b->b.toNat<128:=fun j b hj=>by
 have:=List.all_eq_true.1 h b (List.mem_of_getElem? hj);simpa using this
def vU:List UInt8:=[97,110,100,32,97,115,107,32,98,108,97,109,101,32,98,111,111,108,32,98,111,117,110,100,115,32,99,104,111,111,115,101,32,99,111,117,110,116,32,101,108,115,101,32,102,97,108,115,101,32,102,117,110,32,105,102,32,105,110,32,105,110,116,32,108,101,116,32,108,111,111,107,32,109,97,121,32,109,117,115,116,32,110,111,116,32,111,98,115,101,114,118,101,32,111,114,32,114,101,116,114,97,99,116,32,116,104,101,110,32,116,114,117,101,32,116,121,112,101,32,117,112,116,111,32,118,97,108,117,101,115,32,119,104,121]
def OM:List UInt8:=[61,61,32,33,61,32,60,61,32,62,61,32,46,46,32,43,32,45,32,42,32,47,32,37,32,60,32,62,32,61,32,40,32,41,32,91,32,93,32,123,32,125,32,44,32,58,32,59,32,46]
theorem qL:Lib.fields vU=dT:=by decide
theorem wQ:Lib.fields OM=signsL:=by decide
theorem pH(l:List UInt8)(r:List (List UInt8))(w:World)(hr:Lib.fields l=r)(hl:l.length<4294967281)(ha:l.all (fun b=>decide (b.toNat<128))=true)(h:GV w) :
 Calls prog 139 #[strV l] w (tA w r):=by
 subst hr;refine(Tryz.strings_Fields ⟨l.toArray⟩ w (show l.length<_ from hl) (by simpa using LU ha) h).mono ?_;rintro e w'⟨rfl,rfl⟩;have e1:(⟨l.toArray⟩:ByteArray).data.toList=l:=by simp
 rw[e1];exact⟨_,_,rfl,Row.made w (kR (Lib.fields l)) _ (by simp) nlr,brf.alloc nlr _⟩
theorem iG(w:World)(h:GV w):Calls prog 101 #[] w (tA w dT):=by
 have HF:=Hd (pH vU _ w qL (by decide) (by decide) h);clear h;go_enter func101,ntmps101
 go_wp2_with (go_at_call 139;refine HF.o.mono ?_;rintro e w' ⟨a,c,rfl,h1,h2⟩)
 go_ret;exact⟨a,c,rfl,h1,h2⟩
theorem DX(w:World)(h:GV w):Calls prog 104 #[] w (tA w signsL):=by
 have HF:=Hd (pH OM _ w wQ (by decide) (by decide) h);clear h;go_enter func104,ntmps104
 go_wp2_with (go_at_call 139;refine HF.o.mono ?_;rintro e w' ⟨a,c,rfl,h1,h2⟩)
 go_ret;exact⟨a,c,rfl,h1,h2⟩
def LQ(w:World)(p:Int×List UInt8)(e:Ending)(w':World):Prop:=e=.returned (.tuple #[.int .u8 p.1,strV p.2])/\Below w.heap.size w w'
theorem IQ{s:List UInt8}{k:Nat}(hk:k<signsL.length)(h:(signsL.take k).find? (fun g=>g.isPrefixOf s)=none)(hp:signsL[k].isPrefixOf s=false):(signsL.take (k+1)).find? (fun g=>g.isPrefixOf s)=none:=by
 rw[List.take_succ_eq_append_getElem hk,List.find?_append,h];simp[List.find?_cons,hp]
theorem IR{s:List UInt8}{k:Nat}(hk:k<signsL.length)(h:(signsL.take k).find? (fun g=>g.isPrefixOf s)=none)(hp:signsL[k].isPrefixOf s=true):signsL.find? (fun g=>g.isPrefixOf s)=some signsL[k]:=by
 have e:signsL=signsL.take k++signsL.drop k:=(List.take_append_drop k signsL).symm;have e2:signsL.drop k=signsL[k]::signsL.drop (k+1):=List.drop_eq_getElem_cons hk;rw[e2]at e;have e3:signsL.find? (fun g=>g.isPrefixOf s)=(signsL.take k++signsL[k]::signsL.drop (k+1)).find? (fun g=>g.isPrefixOf s):=congrArg _ e;rw[e3,List.find?_append,h,List.find?_cons,hp];rfl
theorem kF(s:List UInt8)(w:World)(hs:s.length<=1000000000)(hg:GV w) :
 Calls prog 65 #[strV s] w (LQ w (tokF s)):=by
 have HG:=Hd hg;clear hg;have HL:Hid (∀(c:UInt8) (W:World),Calls prog 98 #[.int .u8 (c.toNat:Int)] W fun e w'=>e=.returned (.bool (mN c))/\W=w'):=Hd fun c W=>rX _ W;have HD:Hid (∀(c:UInt8) (W:World),Calls prog 102 #[.int .u8 (c.toNat:Int)] W fun e w'=>e=.returned (.bool (aI c))/\W=w'):=Hd fun c W=>kE _ W
 cases hse:s with
 | nil=>
   have ht:tokF []=(0,[]):=rfl;rw[ht];clear ht hse hs;go_enter func65,ntmps65;go_wp2
   go_ret2
   exact⟨rfl,brf⟩
 | cons c0 r0=>
   rw[<-hse];have hl:0<s.length:=by rw[hse];simp
   obtain⟨c,hc⟩:∃c,s[0]'hl=c:=⟨_,rfl⟩
   have hu:(s==[])=false:=by rw[hse];rfl
   have ho:([]==s)=false:=by rw[hse];rfl
   have hj:c=c0:=by rw[<-hc];simp[hse]
   have ht:tokF s=(if mN c then (if hasS dT (s.takeWhile fG)then (3,s.takeWhile fG)else if (s.takeWhile fG).length<=12 then (1,s.takeWhile fG)else (0,[]))
    else if aI c then (if numB (s.takeWhile aI)then (2,s.takeWhile aI)else (0,[]))
    else match signsL.find? (fun g=>g.isPrefixOf s)with
     |some g=>(4,g)
     |none=>(0,[]):Int×List UInt8):=by rw[hj,hse];rfl
   have hq:¬s=[]:=by rw[hse];simp
   have HT:=Hd ht;have HC:=Hd hc;clear ht hj hse
   cases hsm:mN c with
   | true=>
     have Ha:=Hd hsm;obtain⟨W,hW⟩:∃W,s.takeWhile fG=W:=⟨_,rfl⟩
     have HW:=Hd hW;have ha:=AU fG s;rw[hW]at ha;have hr:=oE fG s;have he:W.length=twl fG s:=by rw[<-hW];rfl
     have Hc:=Hd ha;have Hm:=Hd he
     cases hk:hasS dT W with
     | true=>
       have HK:=Hd hk;clear hk hsm hW ha he;go_enter func65,ntmps65;have ha:=Hc.o
       go_wp2_with (first
        | (go_at_call 98;refine(HL.o c _).mono ?_;rw[Ha.o];rintro e w' ⟨rfl,rfl⟩)
        | (go_at_call 102;refine(HD.o c _).mono ?_;rw[Hb.o];rintro e w' ⟨rfl,rfl⟩)
        | (go_at_call 96;refine(lA s _ hs).mono ?_;rintro e w' ⟨rfl,rfl⟩)
        | (go_at_call 101;refine(iG _ HG.o).mono ?_;rintro e w1 ⟨a1,c1,rfl,hd,hb⟩;have He:=Hd hb;have Hf:=Hd hd;clear hb hd)
        | (go_at_call 100;have ha:=Hc.o;(try rw[ha]);refine(cW a1 c1 dT W _ (by decide) Hf.o).mono ?_;rw[HK.o];rintro e w2 ⟨rfl,rfl⟩))
       go_ret2
       exact⟨by rw[HT.o,Ha.o,HW.o,HK.o];rfl,He.o⟩
     | false=>
       have HK:=Hd hk;by_cases h12:W.length<=12
       .have Hg:=Hd h12
        clear hk hsm hW ha he;go_enter func65,ntmps65;have ha:=Hc.o
        go_wp2_with (first
        | (go_at_call 98;refine(HL.o c _).mono ?_;rw[Ha.o];rintro e w' ⟨rfl,rfl⟩)
        | (go_at_call 102;refine(HD.o c _).mono ?_;rw[Hb.o];rintro e w' ⟨rfl,rfl⟩)
        | (go_at_call 96;refine(lA s _ hs).mono ?_;rintro e w' ⟨rfl,rfl⟩)
        | (go_at_call 101;refine(iG _ HG.o).mono ?_;rintro e w1 ⟨a1,c1,rfl,hd,hb⟩;have He:=Hd hb;have Hf:=Hd hd;clear hb hd)
        | (go_at_call 100;have ha:=Hc.o;(try rw[ha]);refine(cW a1 c1 dT W _ (by decide) Hf.o).mono ?_;rw[HK.o];rintro e w2 ⟨rfl,rfl⟩))
        go_ret2
        exact⟨by rw[HT.o,Ha.o,HW.o,HK.o];simp[Hg.o],He.o⟩
       .have Hg:=Hd h12
        clear hk hsm hW ha he;go_enter func65,ntmps65;have ha:=Hc.o
        go_wp2_with (first
        | (go_at_call 98;refine(HL.o c _).mono ?_;rw[Ha.o];rintro e w' ⟨rfl,rfl⟩)
        | (go_at_call 102;refine(HD.o c _).mono ?_;rw[Hb.o];rintro e w' ⟨rfl,rfl⟩)
        | (go_at_call 96;refine(lA s _ hs).mono ?_;rintro e w' ⟨rfl,rfl⟩)
        | (go_at_call 101;refine(iG _ HG.o).mono ?_;rintro e w1 ⟨a1,c1,rfl,hd,hb⟩;have He:=Hd hb;have Hf:=Hd hd;clear hb hd)
        | (go_at_call 100;have ha:=Hc.o;(try rw[ha]);refine(cW a1 c1 dT W _ (by decide) Hf.o).mono ?_;rw[HK.o];rintro e w2 ⟨rfl,rfl⟩))
        go_ret2
        exact⟨by rw[HT.o,Ha.o,HW.o,HK.o];simp[Hg.o],He.o⟩
   | false=>
     have Ha:=Hd hsm
     cases hdm:aI c with
     | true=>
       have Hb:=Hd hdm;obtain⟨W,hW⟩:∃W,s.takeWhile aI=W:=⟨_,rfl⟩
       have HW:=Hd hW;have ha:=AU aI s;rw[hW]at ha;have hr:=oE aI s;have he:W.length=twl aI s:=by rw[<-hW];rfl
       have Hc:=Hd ha;have hh:1<=W.length:=by rw[he];exact uB (k:=0) hl (Nat.zero_le _) (by rw[HC.o];exact hdm)
       have hi:W.length<=1000000000:=by omega
       cases hk:numB W with
       | true=>
         have HK:=Hd hk;clear hk hsm hdm hW ha he;go_enter func65,ntmps65;have ha:=Hc.o
         go_wp2_with (first
         | (go_at_call 98;refine(HL.o c _).mono ?_;rw[Ha.o];rintro e w' ⟨rfl,rfl⟩)
         | (go_at_call 102;refine(HD.o c _).mono ?_;rw[Hb.o];rintro e w' ⟨rfl,rfl⟩)
         | (go_at_call 96;refine(nX s _ hs).mono ?_;rintro e w' ⟨rfl,rfl⟩)
         | (go_at_call 103;have ha:=Hc.o;(try rw[ha]);refine(pP W _ hh hi).mono ?_;rw[HK.o];rintro e w2 ⟨rfl,rfl⟩))
         go_ret2
         exact⟨by rw[HT.o,Ha.o,Hb.o,HW.o,HK.o];rfl,brf⟩
       | false=>
         have HK:=Hd hk;clear hk hsm hdm hW ha he;go_enter func65,ntmps65;have ha:=Hc.o
         go_wp2_with (first
         | (go_at_call 98;refine(HL.o c _).mono ?_;rw[Ha.o];rintro e w' ⟨rfl,rfl⟩)
         | (go_at_call 102;refine(HD.o c _).mono ?_;rw[Hb.o];rintro e w' ⟨rfl,rfl⟩)
         | (go_at_call 96;refine(nX s _ hs).mono ?_;rintro e w' ⟨rfl,rfl⟩)
         | (go_at_call 103;have ha:=Hc.o;(try rw[ha]);refine(pP W _ hh hi).mono ?_;rw[HK.o];rintro e w2 ⟨rfl,rfl⟩))
         go_ret2
         exact⟨by rw[HT.o,Ha.o,Hb.o,HW.o,HK.o];rfl,brf⟩
     | false=>
       have Hb:=Hd hdm;clear hdm hsm;have hm:signsL.length=23:=rfl;have Hh:=Hd hm;clear hm;go_enter func65,ntmps65
       go_wp2_with (first
        | (go_at_call 98;refine(HL.o c _).mono ?_;rw[Ha.o];rintro e w' ⟨rfl,rfl⟩)
        | (go_at_call 102;refine(HD.o c _).mono ?_;rw[Hb.o];rintro e w' ⟨rfl,rfl⟩)
        | (go_at_call 104;refine(DX _ HG.o).mono ?_;rw[show tA w signsL=fun e w'=>∃a c,e=.returned (.slice a 23 c)/\Strs w' a c signsL/\Below w.heap.size w w' from rfl];rintro e w1 ⟨a1,c1,rfl,hd,hb⟩;have He:=Hd hb;have Hf:=Hd hd;clear hb hd))
       go_loop [42] (fun t42=>∃k:Nat,t42=.int .i64 k/\k<=23/\Hid ((signsL.take k).find? (fun g=>g.isPrefixOf s)=none)) (fun t42=>23-(intOf t42).toNat)
       case atStart=>exact⟨0,rfl,Nat.zero_le _,Hd rfl⟩
       case round=>
        obtain⟨k,rfl,hk,HF⟩:=hrel;by_cases hlt:k<23
        .have hf:k<signsL.length:=by rw[Hh.o];exact hlt
         obtain⟨b1,o1,e1,hb,hn⟩:=Strs.at Hf.o hf;subst e1;obtain⟨g,hg⟩:∃g,signsL[k]=g:=⟨_,rfl⟩
         rw[hg]at hn;have Hl:=Hd hg
         cases hp:g.isPrefixOf s with
         | true=>
           have HP:=Hd hp;have Hk:=Hd (IR hf HF.o (by rw[hg];exact hp));clear hp hg
           go_wp2_with (go_at_call 105;refine(kT s g _).mono ?_;rw[HP.o];rintro e w' ⟨rfl,rfl⟩)
           go_ret2
           exact⟨by rw[HT.o,Ha.o,Hb.o,Hk.o,Hl.o];rfl,He.o⟩
         | false=>
           have HP:=Hd hp;have Hj:=Hd (IQ hf HF.o (by rw[hg];exact hp));clear hp hg
           go_wp2_with (go_at_call 105;refine(kT s g _).mono ?_;rw[HP.o];rintro e w' ⟨rfl,rfl⟩)
           go_round
           case rel=>exact⟨k+1,by go_num,by omega,Hj⟩
           case measure=>simp[intOf];omega
        .obtain rfl:k=23:=by omega
         have Hi:Hid (signsL.find? (fun g=>g.isPrefixOf s)=none):=Hd (by have:=HF.o;rwa[List.take_of_length_le (by rw[Hh.o];exact nlr)]at this);go_wp2
         go_ret2
         exact⟨by rw[HT.o,Ha.o,Hb.o,Hi.o];rfl,He.o⟩
end
section
open Go Go.RowKit
def xC(n:Int):Bool:=n==10||(decide (32<=n)&&decide (n<=126))
theorem CZ(c:UInt8):mS c=xC (c.toNat:Int):=by
 unfold mS xC;rw[Bool.eq_iff_iff];simp only[Bool.or_eq_true,Bool.and_eq_true,beq_iff_eq,decide_eq_true_eq];constructor
 .rintro(h|⟨h1,h2⟩)
  .subst h;exact .inl rfl
  .exact .inr ⟨by omega,by omega⟩
 .rintro(h|⟨h1,h2⟩)
  .exact .inl (UInt8.toNat_inj.1 (by simpa using(by omega:c.toNat=10)))
  .exact .inr ⟨by omega,by omega⟩
theorem oU(n:Int)(w:World):Calls prog 94 #[.int .u8 n] w fun e w'=>e=.returned (.bool (xC n))/\w=w':=by
 go_enter func94,ntmps94;go_wp2
 all_goals
  go_ret;refine⟨ze ?_,rfl⟩
  (try simp_all[xC])<;>(try omega)
theorem MA{s:List UInt8}(h1:s.length<=2000)(h2:∀i (h:i<s.length),mS s[i]=true):fQ s=(0,0):=by
 unfold fQ
 rw[if_neg (by omega),List.findIdx?_eq_none_iff.2 (fun x hx=>by
  obtain⟨i,hi,rfl⟩:=List.getElem_of_mem hx
  simp[h2 i hi])]
theorem LZ{s:List UInt8}(h1:s.length<=2000){i:Nat}(hi:i<s.length)(h2:∀j (h:j<s.length),j<i->mS s[j]=true)(h3:mS s[i]=false):fQ s=((i:Int),4):=by
 unfold fQ
 have:s.findIdx? (fun c=>!mS c)=some i:=by
  rw[List.findIdx?_eq_some_iff_getElem];exact⟨hi,by simp[h3],fun j hj=>by simp[h2 j (by omega) hj]⟩
 rw[if_neg (by omega),this]
theorem xF(s:List UInt8)(w:World)(hs:s.length<=1000000000) :
 Calls prog 63 #[strV s] w fun e w'=>e=.returned (.tuple #[intV (fQ s).1,intV (fQ s).2])/\Below w.heap.size w w':=by
 by_cases h1:s.length<=2000
 .go_enter func63,ntmps63
  go_wp2
  go_loop [10] (fun i=>∃k:Nat,k<=s.length/\i=.int .i64 k/\Hid (∀j (h:j<s.length),j<k->mS s[j]=true)) (fun i=>s.length-(intOf i).toNat)
  case atStart=>exact⟨0,Nat.zero_le _,rfl,Hd (fun j _ h=>absurd h (Nat.not_lt_zero j))⟩
  case round=>
   obtain⟨k,hk,rfl,HA⟩:=hrel;by_cases hlt:k<s.length
   .obtain⟨b,hb⟩:∃b,xC (s[k].toNat:Int)=b:=⟨_,rfl⟩
    have HB:=Hd hb;clear hb
    cases b with
    | true=>
      have HS:Hid (∀j (h:j<s.length),j<k+1->mS s[j]=true):=Hd (fun j h hj=>by
       by_cases e:j=k
       .subst e;rw[CZ];exact HB.o
       .exact HA.o j h (by omega))
      go_wp2_with (go_at_call 94;refine(oU _ _).mono ?_;rw[HB.o];rintro e w' ⟨rfl,rfl⟩)
      go_round
      case rel=>exact⟨k+1,by omega,by go_num,HS⟩
      case measure=>simp[intOf];omega
    | false=>
      have HS:Hid (fQ s=((k:Int),4)):=Hd (LZ h1 hlt HA.o (by rw[CZ];exact HB.o))
      go_wp2_with (go_at_call 94;refine(oU _ _).mono ?_;rw[HB.o];rintro e w' ⟨rfl,rfl⟩)
      go_ret2
      exact⟨by rw[HS.o];rfl,brf⟩
   .have HS:Hid (fQ s=(0,0)):=Hd (MA h1 (fun i hi=>HA.o i hi (by omega)))
    go_wp2
    go_ret2
    exact⟨by rw[HS.o];rfl,brf⟩
 .have HS:Hid (fQ s=(2000,5)):=Hd (by unfold fQ;rw[if_pos (by omega)])
  go_enter func63,ntmps63;go_wp2
  go_ret2
  exact⟨by rw[HS.o];rfl,brf⟩
theorem QV(c:UInt8):gapB c=((c.toNat:Int)==32||(c.toNat:Int)==10):=by
 unfold gapB;rw[Bool.eq_iff_iff];simp only[Bool.or_eq_true,beq_iff_eq];constructor
 .rintro(h|h)<;>subst h
  .exact .inl rfl
  .exact .inr rfl
 .rintro(h|h)
  .exact .inl (UInt8.toNat_inj.1 (by simpa using(by omega:c.toNat=32)))
  .exact .inr (UInt8.toNat_inj.1 (by simpa using(by omega:c.toNat=10)))
theorem AF(c:UInt8):bK c = !(c==10):=by
 unfold bK mH;rw[Bool.eq_iff_iff];simp only[bne_iff_ne,ne_eq,Bool.not_eq_true',beq_eq_false_iff_ne];constructor
 .intro h e;subst e;exact h rfl
 .intro h e;exact h (UInt8.toNat_inj.1 (by simpa using(by omega:c.toNat=10)))
theorem CS:∀b,cC b []=0
 |true=>rfl
 |false=>rfl
theorem wT:∀l:List UInt8,cC true l=twl bK l+cC false (l.drop (twl bK l))
 | []=>rfl
 | c::l=>by
   unfold twl;rw[List.takeWhile_cons,AF];cases h:(c==10)with
   | true=>
     obtain rfl:=eq_of_beq h;show cC false l+1=0+cC false (10::l)
     rw[Nat.zero_add];rfl
   | false=>
     have:=wT l;unfold twl at this;show cC true (c::l)=_
     rw[cC,if_neg (by rw[h];exact Bool.false_ne_true),this];simp only[Bool.not_false,if_true,List.length_cons,List.drop_succ_cons];omega
theorem NN{s:List UInt8}{n:Nat}(h:n<s.length)(hg:gapB s[n]=true):cC false (s.drop n)=cC false (s.drop (n+1))+1:=by
 rw[List.drop_eq_getElem_cons h,cC,if_pos hg]
theorem KJ{s:List UInt8}{n:Nat}(h:n<s.length)(hg:gapB s[n]=false)(h35:(s[n]==35)=true):cC false (s.drop n)=twl bK (s.drop n)+cC false (s.drop (n+twl bK (s.drop n)))/\1<=twl bK (s.drop n):=by
 have e:=eq_of_beq h35;have hd:=List.drop_eq_getElem_cons h
 have h1:twl bK (s.drop n)=twl bK (s.drop (n+1))+1:=by
  rw[hd];unfold twl;rw[List.takeWhile_cons,e];rfl
 refine⟨?_,by omega⟩;rw[h1]
 conv=>lhs;rw[hd,cC,if_neg (by rw[hg];exact Bool.false_ne_true),if_pos h35,wT,List.drop_drop]
 rw[show n+(twl bK (s.drop (n+1))+1)=n+1+twl bK (s.drop (n+1)) by omega];omega
theorem KH{s:List UInt8}{n:Nat}(h:n<s.length)(hg:gapB s[n]=false)(h35:(s[n]==35)=false):cC false (s.drop n)=0:=by
 rw[List.drop_eq_getElem_cons h,cC,if_neg (by rw[hg];exact Bool.false_ne_true),if_neg (by rw[h35];exact Bool.false_ne_true)]
theorem lN:∀(b:Bool) (l:List UInt8),cC b l<=l.length
 |b,[]=>by rw[CS];exact nlr
 | true,c::l=>by
   rw[cC,List.length_cons];split
   .have:=lN false l;omega
   .have:=lN true l;omega
 | false,c::l=>by
   rw[cC,List.length_cons];split
   .have:=lN false l;omega
   .split
    .have:=lN true l;omega
    .omega
theorem vC(s:List UInt8)(w:World)(hs:s.length<=1000000000) :
 Calls prog 64 #[strV s] w fun e w'=>e=.returned (intV (cC false s))/\w=w':=by
 have HL:Hid (cC false s<=s.length):=Hd (lN false s);go_enter func64,ntmps64;go_wp2
 go_loop [3] (fun i=>∃k:Nat,k<=s.length/\i=.int .i64 k/\Hid (cC false s=k+cC false (s.drop k))) (fun i=>s.length-(intOf i).toNat)
 case atStart=>exact⟨0,Nat.zero_le _,rfl,Hd (by simp)⟩
 case round=>
  obtain⟨k,hk,rfl,HA⟩:=hrel;by_cases hlt:k<s.length
  .obtain⟨b,hb⟩:∃b,gapB s[k]=b:=⟨_,rfl⟩
   have HB:=Hd hb;have Ha:=Hd (QV s[k]);clear hb
   cases b with
   | true=>
     have HS:Hid (cC false s=(k+1:Nat)+cC false (s.drop (k+1))):=Hd (by rw[HA.o,NN hlt HB.o];omega)
     go_wp2_with (go_at_call 95;refine(tC _ _).mono ?_;rw[<-Ha.o,HB.o];rintro e w' ⟨rfl,rfl⟩)
     go_round
     case rel=>exact⟨k+1,by omega,by go_num,HS⟩
     case measure=>simp[intOf];omega
   | false=>
     cases h35:((s[k].toNat:Int)==35)with
     | true=>
       have ha:(s[k]==35)=true:=by
        rw[beq_iff_eq]at h35|-;exact UInt8.toNat_inj.1 (by simpa using(by omega:s[k].toNat=35))
       obtain⟨q1,q2⟩:=KJ hlt HB.o ha;have q3:=oE bK (s.drop k);rw[List.length_drop]at q3;obtain⟨m,hm⟩:∃m,twl bK (s.drop k)=m:=⟨_,rfl⟩
       rw[hm]at q1 q2 q3;have HM:=Hd hm;have HS:Hid (cC false s=(k+m:Nat)+cC false (s.drop (k+m))):=Hd (by rw[HA.o,q1];omega);clear hm q1 ha
       go_wp2_with (first
        | (go_at_call 95;refine(tC _ _).mono ?_;rw[<-Ha.o,HB.o];rintro e w' ⟨rfl,rfl⟩)
        | (go_at_call 96;refine(yI (s.drop k) _ (by simp;omega)).mono ?_;rw[HM.o];rintro e w' ⟨rfl,rfl⟩))
       go_round
       case rel=>exact⟨k+m,by omega,by go_num,HS⟩
       case measure=>simp[intOf];omega
     | false=>
       have ha:(s[k]==35)=false:=by
        rw[beq_eq_false_iff_ne]at h35|-;intro e;rw[e]at h35;exact h35 rfl
       have HS:Hid (cC false s=k):=Hd (by rw[HA.o,KH hlt HB.o ha];rfl);clear ha
       go_wp2_with (go_at_call 95;refine(tC _ _).mono ?_;rw[<-Ha.o,HB.o];rintro e w' ⟨rfl,rfl⟩)
       go_ret;exact⟨zP (by rw[HS.o]),rfl⟩
  .have HS:Hid (cC false s=k):=Hd (by rw[HA.o,List.drop_of_length_le (by omega),CS];rfl)
   go_wp2;go_ret;exact⟨zP (by rw[HS.o]),rfl⟩
end
end Go.Proofs.YthjpoaannjgdmaaGreatDoor
