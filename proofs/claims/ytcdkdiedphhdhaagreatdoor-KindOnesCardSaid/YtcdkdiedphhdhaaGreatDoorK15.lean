/- Part of a proof. -/
import Derived.Test.YtcdkdiedphhdhaaGreatDoorK04
import Derived.Test.YtcdkdiedphhdhaaGreatDoorK10
set_option maxRecDepth 100000
set_option maxHeartbeats 8000000
set_option linter.unusedVariables false
set_option linter.unusedSimpArgs false
open Go.Proofs.Tryz
namespace Go.Proofs.YtcdkdiedphhdhaaGreatDoor
section
open Go.RowKit
def GV(w:World):Prop:=Lib.TabIs prog w "strings.asciiSpace" .u8 Lib.asciiSpaceTab
theorem IT:prog.globalNamed "strings.asciiSpace" = some 4:=by kernel_rfl
theorem GV.mono{w w':World}{B:Nat}(h:GV w)(hb:Below B w w')(hB:w.heap.size<=B):GV w':=by
 unfold GV Lib.TabIs World.var? at h|-;rw[IT]at h|-;simp only[Option.bind_some]at h|-
 have ha:4<w.heap.size:=by
  rcases Nat.lt_or_ge 4 w.heap.size with h' | h'
  .exact h'
  .rw[Array.getElem?_eq_none h']at h;cases h
 rw[hb.block 4 (by omega)];exact h
theorem LV{l:List UInt8}(h:l.all (fun b=>decide (b.toNat<128))=true):∀(j:Nat) b,l[j]?=some b->b.toNat<128:=fun j b hj=>by
 have:=List.all_eq_true.1 h b (List.mem_of_getElem? hj);simpa using this
def vR:List UInt8:=[97,110,100,32,97,115,107,32,98,108,97,109,101,32,98,111,111,108,32,98,111,117,110,100,115,32,99,104,111,111,115,101,32,99,111,117,110,116,32,101,108,115,101,32,102,97,108,115,101,32,102,117,110,32,105,102,32,105,110,32,105,110,116,32,108,101,116,32,108,111,111,107,32,109,97,121,32,109,117,115,116,32,110,111,116,32,111,98,115,101,114,118,101,32,111,114,32,114,101,116,114,97,99,116,32,116,104,101,110,32,116,114,117,101,32,116,121,112,101,32,117,112,116,111,32,118,97,108,117,101,115,32,119,104,121]
def OQ:List UInt8:=[61,61,32,33,61,32,60,61,32,62,61,32,46,46,32,43,32,45,32,42,32,47,32,37,32,60,32,62,32,61,32,40,32,41,32,91,32,93,32,123,32,125,32,44,32,58,32,59,32,46]
theorem qG:Lib.fields vR=dS:=by decide
theorem wP:Lib.fields OQ=signsL:=by decide
theorem pD(l:List UInt8)(r:List (List UInt8))(w:World)(hr:Lib.fields l=r)(hl:l.length<4294967281)(ha:l.all (fun b=>decide (b.toNat<128))=true)(h:GV w) :
 Calls prog 152 #[strV l] w (sW w r):=by
 subst hr;refine(Tryz.strings_Fields ⟨l.toArray⟩ w (show l.length<_ from hl) (by simpa using LV ha) h).mono ?_;rintro e w'⟨rfl,rfl⟩;have e1:(⟨l.toArray⟩:ByteArray).data.toList=l:=by simp
 rw[e1];exact⟨_,_,rfl,Row.made w (kP (Lib.fields l)) _ (by simp) nlr,brf.alloc nlr _⟩
theorem iI(w:World)(h:GV w):Calls prog 112 #[] w (sW w dS):=by
 have HF:=Hd (pD vR _ w qG (by decide) (by decide) h);clear h;go_enter func112,ntmps112
 go_wp2_with (go_at_call 152;refine HF.o.mono ?_;rintro e w' ⟨a,c,rfl,h1,h2⟩)
 go_ret;exact⟨a,c,rfl,h1,h2⟩
theorem DU(w:World)(h:GV w):Calls prog 115 #[] w (sW w signsL):=by
 have HF:=Hd (pD OQ _ w wP (by decide) (by decide) h);clear h;go_enter func115,ntmps115
 go_wp2_with (go_at_call 152;refine HF.o.mono ?_;rintro e w' ⟨a,c,rfl,h1,h2⟩)
 go_ret;exact⟨a,c,rfl,h1,h2⟩
def LR(w:World)(p:Int×List UInt8)(e:Ending)(w':World):Prop:=e=.returned (.tuple #[.int .u8 p.1,strV p.2])/\Below w.heap.size w w'
theorem IN{s:List UInt8}{k:Nat}(hk:k<signsL.length)(h:(signsL.take k).find? (fun g=>g.isPrefixOf s)=none)(hp:signsL[k].isPrefixOf s=false):(signsL.take (k+1)).find? (fun g=>g.isPrefixOf s)=none:=by
 rw[List.take_succ_eq_append_getElem hk,List.find?_append,h];simp[List.find?_cons,hp]
theorem IP{s:List UInt8}{k:Nat}(hk:k<signsL.length)(h:(signsL.take k).find? (fun g=>g.isPrefixOf s)=none)(hp:signsL[k].isPrefixOf s=true):signsL.find? (fun g=>g.isPrefixOf s)=some signsL[k]:=by
 have e:signsL=signsL.take k++signsL.drop k:=(List.take_append_drop k signsL).symm;have e2:signsL.drop k=signsL[k]::signsL.drop (k+1):=List.drop_eq_getElem_cons hk;rw[e2]at e;have e3:signsL.find? (fun g=>g.isPrefixOf s)=(signsL.take k++signsL[k]::signsL.drop (k+1)).find? (fun g=>g.isPrefixOf s):=congrArg _ e;rw[e3,List.find?_append,h,List.find?_cons,hp];rfl
theorem kE(s:List UInt8)(w:World)(hs:s.length<=1000000000)(hg:GV w) :
 Calls prog 77 #[strV s] w (LR w (tokF s)):=by
 have HG:=Hd hg;clear hg;have HL:Hid (∀(c:UInt8) (W:World),Calls prog 108 #[.int .u8 (c.toNat:Int)] W fun e w'=>e=.returned (.bool (mL c))/\W=w'):=Hd fun c W=>rT _ W;have HD:Hid (∀(c:UInt8) (W:World),Calls prog 113 #[.int .u8 (c.toNat:Int)] W fun e w'=>e=.returned (.bool (aF c))/\W=w'):=Hd fun c W=>kD _ W
 cases hse:s with
 | nil=>
   have ht:tokF []=(0,[]):=rfl;rw[ht];clear ht hse hs;go_enter func77,ntmps77;go_wp2
   go_ret2
   exact⟨rfl,brf⟩
 | cons c0 r0=>
   rw[<-hse];have hl:0<s.length:=by rw[hse];simp
   obtain⟨c,hc⟩:∃c,s[0]'hl=c:=⟨_,rfl⟩
   have hu:(s==[])=false:=by rw[hse];rfl
   have ho:([]==s)=false:=by rw[hse];rfl
   have hj:c=c0:=by rw[<-hc];simp[hse]
   have ht:tokF s=(if mL c then (if hasS dS (s.takeWhile fG)then (3,s.takeWhile fG)else if (s.takeWhile fG).length<=12 then (1,s.takeWhile fG)else (0,[]))
    else if aF c then (if numB (s.takeWhile aF)then (2,s.takeWhile aF)else (0,[]))
    else match signsL.find? (fun g=>g.isPrefixOf s)with
     |some g=>(4,g)
     |none=>(0,[]):Int×List UInt8):=by rw[hj,hse];rfl
   have hq:¬s=[]:=by rw[hse];simp
   have HT:=Hd ht;have HC:=Hd hc;clear ht hj hse
   cases hsm:mL c with
   | true=>
     have Ha:=Hd hsm;obtain⟨W,hW⟩:∃W,s.takeWhile fG=W:=⟨_,rfl⟩
     have HW:=Hd hW;have ha:=AU fG s;rw[hW]at ha;have hr:=oB fG s;have he:W.length=twl fG s:=by rw[<-hW];rfl
     have Hc:=Hd ha;have Hm:=Hd he
     cases hk:hasS dS W with
     | true=>
       have HK:=Hd hk;clear hk hsm hW ha he;go_enter func77,ntmps77;have ha:=Hc.o
       go_wp2_with (first
        | (go_at_call 108;refine(HL.o c _).mono ?_;rw[Ha.o];rintro e w' ⟨rfl,rfl⟩)
        | (go_at_call 113;refine(HD.o c _).mono ?_;rw[Hb.o];rintro e w' ⟨rfl,rfl⟩)
        | (go_at_call 109;refine(kX s _ hs).mono ?_;rintro e w' ⟨rfl,rfl⟩)
        | (go_at_call 112;refine(iI _ HG.o).mono ?_;rintro e w1 ⟨a1,c1,rfl,hd,hb⟩;have He:=Hd hb;have Hf:=Hd hd;clear hb hd)
        | (go_at_call 111;have ha:=Hc.o;(try rw[ha]);refine(cT a1 c1 dS W _ (by decide) Hf.o).mono ?_;rw[HK.o];rintro e w2 ⟨rfl,rfl⟩))
       go_ret2
       exact⟨by rw[HT.o,Ha.o,HW.o,HK.o];rfl,He.o⟩
     | false=>
       have HK:=Hd hk;by_cases h12:W.length<=12
       .have Hg:=Hd h12
        clear hk hsm hW ha he;go_enter func77,ntmps77;have ha:=Hc.o
        go_wp2_with (first
        | (go_at_call 108;refine(HL.o c _).mono ?_;rw[Ha.o];rintro e w' ⟨rfl,rfl⟩)
        | (go_at_call 113;refine(HD.o c _).mono ?_;rw[Hb.o];rintro e w' ⟨rfl,rfl⟩)
        | (go_at_call 109;refine(kX s _ hs).mono ?_;rintro e w' ⟨rfl,rfl⟩)
        | (go_at_call 112;refine(iI _ HG.o).mono ?_;rintro e w1 ⟨a1,c1,rfl,hd,hb⟩;have He:=Hd hb;have Hf:=Hd hd;clear hb hd)
        | (go_at_call 111;have ha:=Hc.o;(try rw[ha]);refine(cT a1 c1 dS W _ (by decide) Hf.o).mono ?_;rw[HK.o];rintro e w2 ⟨rfl,rfl⟩))
        go_ret2
        exact⟨by rw[HT.o,Ha.o,HW.o,HK.o];simp[Hg.o],He.o⟩
       .have Hg:=Hd h12
        clear hk hsm hW ha he;go_enter func77,ntmps77;have ha:=Hc.o
        go_wp2_with (first
        | (go_at_call 108;refine(HL.o c _).mono ?_;rw[Ha.o];rintro e w' ⟨rfl,rfl⟩)
        | (go_at_call 113;refine(HD.o c _).mono ?_;rw[Hb.o];rintro e w' ⟨rfl,rfl⟩)
        | (go_at_call 109;refine(kX s _ hs).mono ?_;rintro e w' ⟨rfl,rfl⟩)
        | (go_at_call 112;refine(iI _ HG.o).mono ?_;rintro e w1 ⟨a1,c1,rfl,hd,hb⟩;have He:=Hd hb;have Hf:=Hd hd;clear hb hd)
        | (go_at_call 111;have ha:=Hc.o;(try rw[ha]);refine(cT a1 c1 dS W _ (by decide) Hf.o).mono ?_;rw[HK.o];rintro e w2 ⟨rfl,rfl⟩))
        go_ret2
        exact⟨by rw[HT.o,Ha.o,HW.o,HK.o];simp[Hg.o],He.o⟩
   | false=>
     have Ha:=Hd hsm
     cases hdm:aF c with
     | true=>
       have Hb:=Hd hdm;obtain⟨W,hW⟩:∃W,s.takeWhile aF=W:=⟨_,rfl⟩
       have HW:=Hd hW;have ha:=AU aF s;rw[hW]at ha;have hr:=oB aF s;have he:W.length=twl aF s:=by rw[<-hW];rfl
       have Hc:=Hd ha;have hh:1<=W.length:=by rw[he];exact tY (k:=0) hl (Nat.zero_le _) (by rw[HC.o];exact hdm)
       have hi:W.length<=1000000000:=by omega
       cases hk:numB W with
       | true=>
         have HK:=Hd hk;clear hk hsm hdm hW ha he;go_enter func77,ntmps77;have ha:=Hc.o
         go_wp2_with (first
         | (go_at_call 108;refine(HL.o c _).mono ?_;rw[Ha.o];rintro e w' ⟨rfl,rfl⟩)
         | (go_at_call 113;refine(HD.o c _).mono ?_;rw[Hb.o];rintro e w' ⟨rfl,rfl⟩)
         | (go_at_call 109;refine(nU s _ hs).mono ?_;rintro e w' ⟨rfl,rfl⟩)
         | (go_at_call 114;have ha:=Hc.o;(try rw[ha]);refine(pK W _ hh hi).mono ?_;rw[HK.o];rintro e w2 ⟨rfl,rfl⟩))
         go_ret2
         exact⟨by rw[HT.o,Ha.o,Hb.o,HW.o,HK.o];rfl,brf⟩
       | false=>
         have HK:=Hd hk;clear hk hsm hdm hW ha he;go_enter func77,ntmps77;have ha:=Hc.o
         go_wp2_with (first
         | (go_at_call 108;refine(HL.o c _).mono ?_;rw[Ha.o];rintro e w' ⟨rfl,rfl⟩)
         | (go_at_call 113;refine(HD.o c _).mono ?_;rw[Hb.o];rintro e w' ⟨rfl,rfl⟩)
         | (go_at_call 109;refine(nU s _ hs).mono ?_;rintro e w' ⟨rfl,rfl⟩)
         | (go_at_call 114;have ha:=Hc.o;(try rw[ha]);refine(pK W _ hh hi).mono ?_;rw[HK.o];rintro e w2 ⟨rfl,rfl⟩))
         go_ret2
         exact⟨by rw[HT.o,Ha.o,Hb.o,HW.o,HK.o];rfl,brf⟩
     | false=>
       have Hb:=Hd hdm;clear hdm hsm;have hm:signsL.length=23:=rfl;have Hh:=Hd hm;clear hm;go_enter func77,ntmps77
       go_wp2_with (first
        | (go_at_call 108;refine(HL.o c _).mono ?_;rw[Ha.o];rintro e w' ⟨rfl,rfl⟩)
        | (go_at_call 113;refine(HD.o c _).mono ?_;rw[Hb.o];rintro e w' ⟨rfl,rfl⟩)
        | (go_at_call 115;refine(DU _ HG.o).mono ?_;rw[show sW w signsL=fun e w'=>∃a c,e=.returned (.slice a 23 c)/\Strs w' a c signsL/\Below w.heap.size w w' from rfl];rintro e w1 ⟨a1,c1,rfl,hd,hb⟩;have He:=Hd hb;have Hf:=Hd hd;clear hb hd))
       go_loop [42] (fun t42=>∃k:Nat,t42=.int .i64 k/\k<=23/\Hid ((signsL.take k).find? (fun g=>g.isPrefixOf s)=none)) (fun t42=>23-(intOf t42).toNat)
       case atStart=>exact⟨0,rfl,Nat.zero_le _,Hd rfl⟩
       case round=>
        obtain⟨k,rfl,hk,HF⟩:=hrel;by_cases hlt:k<23
        .have hf:k<signsL.length:=by rw[Hh.o];exact hlt
         obtain⟨b1,o1,e1,hb,hn⟩:=Strs.at Hf.o hf;subst e1;obtain⟨g,hg⟩:∃g,signsL[k]=g:=⟨_,rfl⟩
         rw[hg]at hn;have Hl:=Hd hg
         cases hp:g.isPrefixOf s with
         | true=>
           have HP:=Hd hp;have Hk:=Hd (IP hf HF.o (by rw[hg];exact hp));clear hp hg
           go_wp2_with (go_at_call 116;refine(kR s g _).mono ?_;rw[HP.o];rintro e w' ⟨rfl,rfl⟩)
           go_ret2
           exact⟨by rw[HT.o,Ha.o,Hb.o,Hk.o,Hl.o];rfl,He.o⟩
         | false=>
           have HP:=Hd hp;have Hj:=Hd (IN hf HF.o (by rw[hg];exact hp));clear hp hg
           go_wp2_with (go_at_call 116;refine(kR s g _).mono ?_;rw[HP.o];rintro e w' ⟨rfl,rfl⟩)
           go_round
           case rel=>exact⟨k+1,by go_num,by omega,Hj⟩
           case measure=>simp[intOf];omega
        .obtain rfl:k=23:=by omega
         have Hi:Hid (signsL.find? (fun g=>g.isPrefixOf s)=none):=Hd (by have:=HF.o;rwa[List.take_of_length_le (by rw[Hh.o];exact nlr)]at this);go_wp2
         go_ret2
         exact⟨by rw[HT.o,Ha.o,Hb.o,Hi.o];rfl,He.o⟩
end
section
open Go Go.RowKit
def xB(n:Int):Bool:=n==10||(decide (32<=n)&&decide (n<=126))
theorem CZ(c:UInt8):mP c=xB (c.toNat:Int):=by
 unfold mP xB;rw[Bool.eq_iff_iff];simp only[Bool.or_eq_true,Bool.and_eq_true,beq_iff_eq,decide_eq_true_eq];constructor
 .rintro(h|⟨h1,h2⟩)
  .subst h;exact .inl rfl
  .exact .inr ⟨by omega,by omega⟩
 .rintro(h|⟨h1,h2⟩)
  .exact .inl (UInt8.toNat_inj.1 (by simpa using(by omega:c.toNat=10)))
  .exact .inr ⟨by omega,by omega⟩
theorem oQ(n:Int)(w:World):Calls prog 127 #[.int .u8 n] w fun e w'=>e=.returned (.bool (xB n))/\w=w':=by
 go_enter func127,ntmps127;go_wp2
 all_goals
  go_ret;refine⟨zc ?_,rfl⟩
  (try simp_all[xB])<;>(try omega)
theorem MB{s:List UInt8}(h1:s.length<=2000)(h2:∀i (h:i<s.length),mP s[i]=true):fP s=(0,0):=by
 unfold fP
 rw[if_neg (by omega),List.findIdx?_eq_none_iff.2 (fun x hx=>by
  obtain⟨i,hi,rfl⟩:=List.getElem_of_mem hx
  simp[h2 i hi])]
theorem MA{s:List UInt8}(h1:s.length<=2000){i:Nat}(hi:i<s.length)(h2:∀j (h:j<s.length),j<i->mP s[j]=true)(h3:mP s[i]=false):fP s=((i:Int),4):=by
 unfold fP
 have:s.findIdx? (fun c=>!mP c)=some i:=by
  rw[List.findIdx?_eq_some_iff_getElem];exact⟨hi,by simp[h3],fun j hj=>by simp[h2 j (by omega) hj]⟩
 rw[if_neg (by omega),this]
theorem xE(s:List UInt8)(w:World)(hs:s.length<=1000000000) :
 Calls prog 86 #[strV s] w fun e w'=>e=.returned (.tuple #[intV (fP s).1,intV (fP s).2])/\Below w.heap.size w w':=by
 by_cases h1:s.length<=2000
 .go_enter func86,ntmps86
  go_wp2
  go_loop [10] (fun i=>∃k:Nat,k<=s.length/\i=.int .i64 k/\Hid (∀j (h:j<s.length),j<k->mP s[j]=true)) (fun i=>s.length-(intOf i).toNat)
  case atStart=>exact⟨0,Nat.zero_le _,rfl,Hd (fun j _ h=>absurd h (Nat.not_lt_zero j))⟩
  case round=>
   obtain⟨k,hk,rfl,HA⟩:=hrel;by_cases hlt:k<s.length
   .obtain⟨b,hb⟩:∃b,xB (s[k].toNat:Int)=b:=⟨_,rfl⟩
    have HB:=Hd hb;clear hb
    cases b with
    | true=>
      have HS:Hid (∀j (h:j<s.length),j<k+1->mP s[j]=true):=Hd (fun j h hj=>by
       by_cases e:j=k
       .subst e;rw[CZ];exact HB.o
       .exact HA.o j h (by omega))
      go_wp2_with (go_at_call 127;refine(oQ _ _).mono ?_;rw[HB.o];rintro e w' ⟨rfl,rfl⟩)
      go_round
      case rel=>exact⟨k+1,by omega,by go_num,HS⟩
      case measure=>simp[intOf];omega
    | false=>
      have HS:Hid (fP s=((k:Int),4)):=Hd (MA h1 hlt HA.o (by rw[CZ];exact HB.o))
      go_wp2_with (go_at_call 127;refine(oQ _ _).mono ?_;rw[HB.o];rintro e w' ⟨rfl,rfl⟩)
      go_ret2
      exact⟨by rw[HS.o];rfl,brf⟩
   .have HS:Hid (fP s=(0,0)):=Hd (MB h1 (fun i hi=>HA.o i hi (by omega)))
    go_wp2
    go_ret2
    exact⟨by rw[HS.o];rfl,brf⟩
 .have HS:Hid (fP s=(2000,5)):=Hd (by unfold fP;rw[if_pos (by omega)])
  go_enter func86,ntmps86;go_wp2
  go_ret2
  exact⟨by rw[HS.o];rfl,brf⟩
theorem QZ(c:UInt8):gapB c=((c.toNat:Int)==32||(c.toNat:Int)==10):=by
 unfold gapB;rw[Bool.eq_iff_iff];simp only[Bool.or_eq_true,beq_iff_eq];constructor
 .rintro(h|h)<;>subst h
  .exact .inl rfl
  .exact .inr rfl
 .rintro(h|h)
  .exact .inl (UInt8.toNat_inj.1 (by simpa using(by omega:c.toNat=32)))
  .exact .inr (UInt8.toNat_inj.1 (by simpa using(by omega:c.toNat=10)))
theorem AE(c:UInt8):bL c = !(c==10):=by
 unfold bL mF;rw[Bool.eq_iff_iff];simp only[bne_iff_ne,ne_eq,Bool.not_eq_true',beq_eq_false_iff_ne];constructor
 .intro h e;subst e;exact h rfl
 .intro h e;exact h (UInt8.toNat_inj.1 (by simpa using(by omega:c.toNat=10)))
theorem CS:∀b,cB b []=0
 |true=>rfl
 |false=>rfl
theorem wS:∀l:List UInt8,cB true l=twl bL l+cB false (l.drop (twl bL l))
 | []=>rfl
 | c::l=>by
   unfold twl;rw[List.takeWhile_cons,AE];cases h:(c==10)with
   | true=>
     obtain rfl:=eq_of_beq h;show cB false l+1=0+cB false (10::l)
     rw[Nat.zero_add];rfl
   | false=>
     have:=wS l;unfold twl at this;show cB true (c::l)=_
     rw[cB,if_neg (by rw[h];exact Bool.false_ne_true),this];simp only[Bool.not_false,if_true,List.length_cons,List.drop_succ_cons];omega
theorem NR{s:List UInt8}{n:Nat}(h:n<s.length)(hg:gapB s[n]=true):cB false (s.drop n)=cB false (s.drop (n+1))+1:=by
 rw[List.drop_eq_getElem_cons h,cB,if_pos hg]
theorem KJ{s:List UInt8}{n:Nat}(h:n<s.length)(hg:gapB s[n]=false)(h35:(s[n]==35)=true):cB false (s.drop n)=twl bL (s.drop n)+cB false (s.drop (n+twl bL (s.drop n)))/\1<=twl bL (s.drop n):=by
 have e:=eq_of_beq h35;have hd:=List.drop_eq_getElem_cons h
 have h1:twl bL (s.drop n)=twl bL (s.drop (n+1))+1:=by
  rw[hd];unfold twl;rw[List.takeWhile_cons,e];rfl
 refine⟨?_,by omega⟩;rw[h1]
 conv=>lhs;rw[hd,cB,if_neg (by rw[hg];exact Bool.false_ne_true),if_pos h35,wS,List.drop_drop]
 rw[show n+(twl bL (s.drop (n+1))+1)=n+1+twl bL (s.drop (n+1)) by omega];omega
theorem KH{s:List UInt8}{n:Nat}(h:n<s.length)(hg:gapB s[n]=false)(h35:(s[n]==35)=false):cB false (s.drop n)=0:=by
 rw[List.drop_eq_getElem_cons h,cB,if_neg (by rw[hg];exact Bool.false_ne_true),if_neg (by rw[h35];exact Bool.false_ne_true)]
theorem lK:∀(b:Bool) (l:List UInt8),cB b l<=l.length
 |b,[]=>by rw[CS];exact nlr
 | true,c::l=>by
   rw[cB,List.length_cons];split
   .have:=lK false l;omega
   .have:=lK true l;omega
 | false,c::l=>by
   rw[cB,List.length_cons];split
   .have:=lK false l;omega
   .split
    .have:=lK true l;omega
    .omega
theorem uZ(s:List UInt8)(w:World)(hs:s.length<=1000000000) :
 Calls prog 87 #[strV s] w fun e w'=>e=.returned (intV (cB false s))/\w=w':=by
 have HL:Hid (cB false s<=s.length):=Hd (lK false s);go_enter func87,ntmps87;go_wp2
 go_loop [3] (fun i=>∃k:Nat,k<=s.length/\i=.int .i64 k/\Hid (cB false s=k+cB false (s.drop k))) (fun i=>s.length-(intOf i).toNat)
 case atStart=>exact⟨0,Nat.zero_le _,rfl,Hd (by simp)⟩
 case round=>
  obtain⟨k,hk,rfl,HA⟩:=hrel;by_cases hlt:k<s.length
  .obtain⟨b,hb⟩:∃b,gapB s[k]=b:=⟨_,rfl⟩
   have HB:=Hd hb;have Ha:=Hd (QZ s[k]);clear hb
   cases b with
   | true=>
     have HS:Hid (cB false s=(k+1:Nat)+cB false (s.drop (k+1))):=Hd (by rw[HA.o,NR hlt HB.o];omega)
     go_wp2_with (go_at_call 128;refine(sY _ _).mono ?_;rw[<-Ha.o,HB.o];rintro e w' ⟨rfl,rfl⟩)
     go_round
     case rel=>exact⟨k+1,by omega,by go_num,HS⟩
     case measure=>simp[intOf];omega
   | false=>
     cases h35:((s[k].toNat:Int)==35)with
     | true=>
       have ha:(s[k]==35)=true:=by
        rw[beq_iff_eq]at h35|-;exact UInt8.toNat_inj.1 (by simpa using(by omega:s[k].toNat=35))
       obtain⟨q1,q2⟩:=KJ hlt HB.o ha;have q3:=oB bL (s.drop k);rw[List.length_drop]at q3;obtain⟨m,hm⟩:∃m,twl bL (s.drop k)=m:=⟨_,rfl⟩
       rw[hm]at q1 q2 q3;have HM:=Hd hm;have HS:Hid (cB false s=(k+m:Nat)+cB false (s.drop (k+m))):=Hd (by rw[HA.o,q1];omega);clear hm q1 ha
       go_wp2_with (first
        | (go_at_call 128;refine(sY _ _).mono ?_;rw[<-Ha.o,HB.o];rintro e w' ⟨rfl,rfl⟩)
        | (go_at_call 109;refine(yH (s.drop k) _ (by simp;omega)).mono ?_;rw[HM.o];rintro e w' ⟨rfl,rfl⟩))
       go_round
       case rel=>exact⟨k+m,by omega,by go_num,HS⟩
       case measure=>simp[intOf];omega
     | false=>
       have ha:(s[k]==35)=false:=by
        rw[beq_eq_false_iff_ne]at h35|-;intro e;rw[e]at h35;exact h35 rfl
       have HS:Hid (cB false s=k):=Hd (by rw[HA.o,KH hlt HB.o ha];rfl);clear ha
       go_wp2_with (go_at_call 128;refine(sY _ _).mono ?_;rw[<-Ha.o,HB.o];rintro e w' ⟨rfl,rfl⟩)
       go_ret;exact⟨zO (by rw[HS.o]),rfl⟩
  .have HS:Hid (cB false s=k):=Hd (by rw[HA.o,List.drop_of_length_le (by omega),CS];rfl)
   go_wp2;go_ret;exact⟨zO (by rw[HS.o]),rfl⟩
end
end Go.Proofs.YtcdkdiedphhdhaaGreatDoor
