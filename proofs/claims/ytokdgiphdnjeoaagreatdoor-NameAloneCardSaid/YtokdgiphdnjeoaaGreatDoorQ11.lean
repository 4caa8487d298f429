/- Part of a proof. -/
import Derived.Test.YtokdgiphdnjeoaaGreatDoorQ09
import Derived.Deep.Cut
import Derived.Deep.CutRange
import Derived.Deep.CutBlock
set_option maxRecDepth 100000
set_option maxHeartbeats 8000000
set_option linter.unusedVariables false
set_option linter.unusedSimpArgs false
open Go.Proofs.Tryz
namespace Go.Proofs.YtokdgiphdnjeoaaGreatDoor
section
open Go.RowKit
abbrev tokV(p:Int×List UInt8):Value:=.agg #[.int .u8 p.1,strV p.2,intV 0]
def RetTok(w:World)(p:Int×List UInt8)(e:Ending)(w':World):Prop:=e=.returned (tokV p)∧Below w.heap.size w w'
theorem RetTok.mk{w w':World}{f:Func}{a:Act}{p:Int×List UInt8}{s:List UInt8}(hp:tokF s=p)(hr:(results f a.tmps).run prog w' = .ok (tokV p) w')(hd:a.defers=[])(hb:Below w.heap.size w w'):bodyPost prog f (RetTok w (tokF s)) Exit.ret a w':=
 bodyPost_ret (v:=tokV p) hr hd ⟨by rw[hp],hb⟩
theorem rC(s:List UInt8):zX s=((tokF s).1==1&&(tokF s).2==s):=rfl
theorem qP(n:Int)(w:World):Calls prog 232 #[.int .u8 n] w fun e w'=>e=.returned (.bool (lW n))∧w=w':=by
 go_enter func232,ntmps232;go_wp2
 all_goals
  go_ret;refine⟨zb ?_,rfl⟩
  (try simp_all[lW])<;>(try omega)
theorem jR(n:Int)(w:World):Calls prog 236 #[.int .u8 n] w fun e w'=>e=.returned (.bool (lL n))∧w=w':=by
 go_enter func236,ntmps236;go_wp2
 all_goals
  go_ret;refine⟨zb ?_,rfl⟩
  (try simp_all[lL])<;>(try omega)
def FA(n:Int):Bool:=lW n||lL n
theorem tV(n:Int)(w:World):Calls prog 233 #[.int .u8 n] w fun e w'=>e=.returned (.bool (FA n))∧w=w':=by
 have hp:FA n=(lW n||lL n):=rfl;rw[hp];clear hp;obtain⟨b,hb⟩:∃b,lW n=b:=⟨_,rfl⟩
 have HB:=Hd hb;rw[hb];clear hb;cases b <;>
 ·go_enter func233,ntmps233
  go_wp2_with (first
   | (go_at_call 232;refine(qP n _).mono ?_;rw[HB.out];rintro e w' ⟨rfl,rfl⟩)
   | (go_at_call 236;refine(jR n _).mono ?_;rintro e w' ⟨rfl,rfl⟩))
  go_ret;exact⟨rfl,rfl⟩
theorem rX(n:Int)(w:World):Calls prog 229 #[.int .u8 n] w fun e w'=>e=.returned (.bool (n==32||n==10))∧w=w':=by
 go_enter func229,ntmps229;go_wp2
 all_goals
  go_ret;refine⟨zb ?_,rfl⟩
  (try simp_all)<;>(try omega)
def lS(n:Int):Bool:=n != 10
def bQ(c:UInt8):Bool:=lS (c.toNat:Int)
theorem mU(n:Int)(w:World):Calls prog 231 #[.int .u8 n] w fun e w'=>e=.returned (.bool (lS n))∧w=w':=by
 go_enter func231,ntmps231;go_wp2
 all_goals
  go_ret;refine⟨zb ?_,rfl⟩
  (try simp_all[lS])<;>(try omega)
theorem MO(c:UInt8):cB c=FA (c.toNat:Int):=rfl
theorem kL(s:List UInt8)(w:World)(hs:s.length≤1000000000) :
 Calls prog 230 #[strV s,.func (.func 233) #[] #[]] w fun e w'=>e=.returned (intV (twl cB s))∧w=w':=by
 go_enter func230,ntmps230;go_wp2
 go_loop [5] (fun i=>∃k:Nat,k≤s.length∧i=.int .i64 k∧Hid (k≤twl cB s)) (fun i=>s.length-(intOf i).toNat)
 case atStart=>exact⟨0,Nat.zero_le _,rfl,Hd (Nat.zero_le _)⟩
 case round=>
  obtain⟨k,hk,rfl,HA⟩:=hrel;by_cases hlt:k<s.length
  ·obtain⟨b,hb⟩:∃b,FA (s[k].toNat:Int)=b:=⟨_,rfl⟩
   have HB:=Hd hb;clear hb
   cases b with
   | true=>
     have HS:=Hd (jN hlt HA.out HB.out)
     go_wp2_with (go_at_call 233;refine(tV _ _).mono ?_;rw[HB.out];rintro e w' ⟨rfl,rfl⟩)
     go_round
     case rel=>exact⟨k+1,by omega,by go_num,HS⟩
     case measure=>simp[intOf];omega
   | false=>
     have HS:=Hd (pZ hlt HA.out HB.out)
     go_wp2_with (go_at_call 233;refine(tV _ _).mono ?_;rw[HB.out];rintro e w' ⟨rfl,rfl⟩)
     go_ret;exact⟨zo (by rw[←HS.out]),rfl⟩
  ·have HS:Hid (k=twl cB s):=Hd (by have:=HA.out;have:=kH cB s;omega)
   go_wp2;go_ret;exact⟨zo (by rw[←HS.out]),rfl⟩
theorem mV(s:List UInt8)(w:World)(hs:s.length≤1000000000) :
 Calls prog 230 #[strV s,.func (.func 236) #[] #[]] w fun e w'=>e=.returned (intV (twl zK s))∧w=w':=by
 go_enter func230,ntmps230;go_wp2
 go_loop [5] (fun i=>∃k:Nat,k≤s.length∧i=.int .i64 k∧Hid (k≤twl zK s)) (fun i=>s.length-(intOf i).toNat)
 case atStart=>exact⟨0,Nat.zero_le _,rfl,Hd (Nat.zero_le _)⟩
 case round=>
  obtain⟨k,hk,rfl,HA⟩:=hrel;by_cases hlt:k<s.length
  ·obtain⟨b,hb⟩:∃b,lL (s[k].toNat:Int)=b:=⟨_,rfl⟩
   have HB:=Hd hb;clear hb
   cases b with
   | true=>
     have HS:=Hd (jN hlt HA.out HB.out)
     go_wp2_with (go_at_call 236;refine(jR _ _).mono ?_;rw[HB.out];rintro e w' ⟨rfl,rfl⟩)
     go_round
     case rel=>exact⟨k+1,by omega,by go_num,HS⟩
     case measure=>simp[intOf];omega
   | false=>
     have HS:=Hd (pZ hlt HA.out HB.out)
     go_wp2_with (go_at_call 236;refine(jR _ _).mono ?_;rw[HB.out];rintro e w' ⟨rfl,rfl⟩)
     go_ret;exact⟨zo (by rw[←HS.out]),rfl⟩
  ·have HS:Hid (k=twl zK s):=Hd (by have:=HA.out;have:=kH zK s;omega)
   go_wp2;go_ret;exact⟨zo (by rw[←HS.out]),rfl⟩
theorem wR(s:List UInt8)(w:World)(hs:s.length≤1000000000) :
 Calls prog 230 #[strV s,.func (.func 231) #[] #[]] w fun e w'=>e=.returned (intV (twl bQ s))∧w=w':=by
 go_enter func230,ntmps230;go_wp2
 go_loop [5] (fun i=>∃k:Nat,k≤s.length∧i=.int .i64 k∧Hid (k≤twl bQ s)) (fun i=>s.length-(intOf i).toNat)
 case atStart=>exact⟨0,Nat.zero_le _,rfl,Hd (Nat.zero_le _)⟩
 case round=>
  obtain⟨k,hk,rfl,HA⟩:=hrel;by_cases hlt:k<s.length
  ·obtain⟨b,hb⟩:∃b,lS (s[k].toNat:Int)=b:=⟨_,rfl⟩
   have HB:=Hd hb;clear hb
   cases b with
   | true=>
     have HS:=Hd (jN hlt HA.out HB.out)
     go_wp2_with (go_at_call 231;refine(mU _ _).mono ?_;rw[HB.out];rintro e w' ⟨rfl,rfl⟩)
     go_round
     case rel=>exact⟨k+1,by omega,by go_num,HS⟩
     case measure=>simp[intOf];omega
   | false=>
     have HS:=Hd (pZ hlt HA.out HB.out)
     go_wp2_with (go_at_call 231;refine(mU _ _).mono ?_;rw[HB.out];rintro e w' ⟨rfl,rfl⟩)
     go_ret;exact⟨zo (by rw[←HS.out]),rfl⟩
  ·have HS:Hid (k=twl bQ s):=Hd (by have:=HA.out;have:=kH bQ s;omega)
   go_wp2;go_ret;exact⟨zo (by rw[←HS.out]),rfl⟩
def idxS(l:List (List UInt8))(s:List UInt8):Int:=first (fun i=>l[i]?==some s) l.length 0
theorem JA(l:List (List UInt8))(s:List UInt8):decide (0≤idxS l s)=hasS l s:=by
 rw[Bool.eq_iff_iff,decide_eq_true_eq];unfold idxS hasS;constructor
 ·intro h
  obtain⟨m,_,_,h3,h4⟩:=eL _ _ nlr h;have:l[m]?=some s:=by simpa using h4
  exact List.contains_iff_mem.2 (List.mem_of_getElem? this)
 ·intro h
  obtain⟨i,hi,e⟩:=List.getElem_of_mem (List.contains_iff_mem.1 h)
  have key:∀(f k:Nat),i-k≤f→k≤i→0≤first (fun i=>l[i]?==some s) l.length k:=by
   intro f
   induction f with
   | zero => intro k hf hk;obtain rfl:k=i:=by omega
             rw[aE hi (by simp[hi,e])];omega
   | succ f ih=>
     intro k hf hk;cases hp:(l[k]?==some s)with
     |true=>rw[aE (by omega) hp];omega
     | false=>
       rw[cI (by omega) hp];by_cases e2:k=i
       ·subst e2;simp[hi,e]at hp
       ·exact ih (k+1) (by omega) (by omega)
  exact key i 0 (by omega) (by omega)
theorem vX(a:Option Addr)(c:Nat)(l:List (List UInt8))(s:List UInt8)(w:World)(hm:l.length≤1000000000)(h:Strs w a c l) :
 Calls prog 285 #[.slice a l.length c,strV s] w fun e w'=>e=.returned (intV (idxS l s))∧w=w':=by
 have HR:=Hd h;clear h;go_enter func285,ntmps285;go_wp2
 go_loop [8] (fun i=>∃k:Nat,k≤l.length∧i=.int .i64 k∧Hid (idxS l s=first (fun i=>l[i]?==some s) l.length k)) (fun i=>l.length-(intOf i).toNat)
 case atStart=>exact⟨0,Nat.zero_le _,rfl,Hd rfl⟩
 case round=>
  obtain⟨k,hk,rfl,HA⟩:=hrel;by_cases hlt:k<l.length
  ·obtain⟨b,o,rfl,hb,hc⟩:=Strs.at HR.out hlt
   cases he:s==l[k]with
   | true=>
     have HE:=Hd he;have he2:(l[k]==s)=true:=by rw[BEq.comm];exact he
     go_wp2;go_ret;exact⟨zo (by rw[HA.out,aE hlt (by have:=HE.out;simp at this;simp[hlt,this])]),rfl⟩
   | false=>
     have HE:=Hd he;have he2:(l[k]==s)=false:=by rw[BEq.comm];exact he
     go_wp2
     go_round
     case rel=>exact⟨k+1,by omega,by go_num,Hd (by rw[HA.out,cI hlt (by have:=HE.out;simp at this;simp[hlt];exact fun h=>this h.symm)])⟩
     case measure=>simp[intOf];omega
  ·go_wp2
   go_ret;exact⟨zo (by rw[HA.out,cD (by omega)]),rfl⟩
theorem dF(a:Option Addr)(c:Nat)(l:List (List UInt8))(s:List UInt8)(w:World)(hm:l.length≤1000000000)(h:Strs w a c l) :
 Calls prog 234 #[.slice a l.length c,strV s] w fun e w'=>e=.returned (.bool (hasS l s))∧w=w':=by
 have HX:=Hd (JA l s);have HC:=Hd (vX a c l s w hm h);clear h;go_enter func234,ntmps234
 go_wp2_with (go_at_call 285;refine HC.out.mono ?_;rintro e w' ⟨rfl,rfl⟩)
 go_ret;exact⟨zb (by rw[←HX.out]),rfl⟩
theorem vZ(s g:List UInt8)(w:World) :
 Calls prog 212 #[strV s,strV g] w fun e w'=>e=.returned (.bool (g.isPrefixOf s))∧w=w':=by
 by_cases hl:g.length≤s.length
 ·have hp:g.isPrefixOf s=(s.take g.length==g):=by
   rw[Bool.eq_iff_iff,List.isPrefixOf_iff_prefix,beq_iff_eq,List.prefix_iff_eq_take];exact eq_comm
  rw[hp];clear hp;go_enter func212,ntmps212;go_wp2;go_ret;refine⟨zb ?_,rfl⟩;simp
 ·have hp:g.isPrefixOf s=false:=by
   rw[Bool.eq_false_iff];intro h;exact hl (List.isPrefixOf_iff_prefix.1 h).length_le
  rw[hp];clear hp;go_enter func212,ntmps212;go_wp2;go_ret;exact⟨rfl,rfl⟩
theorem kE(s g:List UInt8)(w:World) :
 Calls prog 239 #[strV s,strV g] w fun e w'=>e=.returned (.bool (g.isPrefixOf s))∧w=w':=by
 have HC:=Hd (vZ s g w);go_enter func239,ntmps239
 go_wp2_with (go_at_call 212;refine HC.out.mono ?_;rintro e w' ⟨rfl,rfl⟩)
 go_ret;exact⟨rfl,rfl⟩
theorem oJ(s:List UInt8)(w:World)(h1:1≤s.length)(h2:s.length≤1000000000) :
 Calls prog 237 #[strV s] w fun e w'=>e=.returned (.bool (numB s))∧w=w':=by
 have h0:0<s.length:=h1
 have hh:s.head?=some s[0]:=by
  cases s with
  |nil=>simp at h0
  |cons x r=>rfl
 have hn:numB s=(decide (s.length≤4)&&(decide (s.length=1)||decide ((s[0].toNat:Int)≠48))):=by
  unfold numB;rw[hh];congr 2;rw[Bool.eq_iff_iff];simp;constructor
  ·intro h e;apply h;apply UInt8.toNat_inj.1;have e2:s[0].toNat=48:=by omega
   rw[e2];rfl
  ·intro h e;apply h;rw[e];rfl
 have HN:=Hd hn;clear hn hh;by_cases h4:s.length≤4
 ·by_cases h11:s.length=1
  ·have h4':((s.length:Int)==1)=true:=by simp[h11]
   have HA:=Hd h11;clear h11;go_enter func237,ntmps237;go_wp2;go_ret;exact⟨zb (by rw[HN.out];simp[HA.out]),rfl⟩
  ·have h4':((s.length:Int)==1)=false:=by simp;omega
   have HA:=Hd h11;have HB:=Hd h4;clear h11;go_enter func237,ntmps237;go_wp2;go_ret;refine⟨zb ?_,rfl⟩;rw[HN.out];simp[HA.out,HB.out];rw[Bool.eq_iff_iff];simp
 ·have HB:=Hd h4
  go_enter func237,ntmps237;go_wp2;go_ret;exact⟨zb (by rw[HN.out];simp[HB.out]),rfl⟩
def eH(l:List Int)(n:Int)(p:Int→Bool):Bool:=(l.takeWhile (fun x=>decide (x<n))).any p
def aN(t:Tr)(n:Int):Bool:=eH t.items n fun it=>zh t it&&(t.nd it).text==(t.nd n).text
def aO(t:Tr)(n:Int):Bool:=eH (t.nd (parent t n)).kids n fun k=>(t.nd k).kind==34&&(t.nd k).text==(t.nd n).text
def zT(t:Tr)(n:Int):Bool:=eH t.items n fun it=>(t.nd it).kind==45&&means t it==means t n
def aQ(t:Tr)(n:Int):Int:=
 if aX t n&&zh t n&&aN t n then 6
 else if (t.nd n).kind==34&&aO t n then 6
 else if !aV (t.nd n).kind then 0
 else if means t n<0 then 10
 else if (t.nd n).kind==21&&(t.nd (means t n)).n==0&&inside t n (means t n)then 9
 else if (t.nd n).kind==45&&zT t n then 9
 else 0
def fT(k:Int):Bool:=decide (30≤k)&&decide (k≤33)
def cH(k:Int):Bool:=decide (40≤k)&&decide (k≤46)
def cQ(k:Int):Bool:=k==3||k==20||k==21||k==22||k==24||k==25||k==32||k==34||k==40||k==41||k==42||k==43||k==44||k==45
def zN(k n m:Int):Bool:=
 if k==1||k==2||k==3||k==30||k==31||k==32||k==45 then m==0
 else if k==4||k==5||k==22||k==25||k==33||k==34||k==43||k==44 then m==1
 else if k==19 then m==3
 else if k==21 then true
 else if k==24||k==26||k==41 then decide (1≤m)
 else if k==42 then decide (2≤m)
 else if k==46 then (if n==7 then m==0 else if n==8 then decide (1≤m)else m==1)
 else m==2
def zw(k n:Int):Bool:=
 if k==1 then decide (-9999≤n)&&decide (n≤9999)
 else if k==2 then n==0||n==1
 else if k==42 then decide (0≤n)
 else if k==33 then true
 else if k==46 then decide (1≤n)&&decide (n≤8)
 else n==0
def kidK(k:Int)(m i:Int)(d:Int):Bool:=
 if k==24 then d==25
 else if k==41 then d==34
 else if k==34||k==33 then fT d
 else if k==40 then d==1
 else if k==42 then (if i==m-1 then bB d else if i==m-2 then fT d else d==34)
 else bB d
def ndV(d:Nd)(ka:Option Addr)(kc:Nat):Value:=.agg #[.int .u8 d.kind,strV d.text,intV d.n,.slice ka d.kids.length kc,intV d.pos]
end
end Go.Proofs.YtokdgiphdnjeoaaGreatDoor
