/- Part of a proof. -/
import Derived.Test.YthjpoaannjgdmaaGreatDoorK08
import Derived.Deep.Cut
import Derived.Deep.CutRange
import Derived.Deep.CutBlock
set_option maxRecDepth 100000
set_option maxHeartbeats 8000000
set_option linter.unusedVariables false
set_option linter.unusedSimpArgs false
open Go.Proofs.Tryz
namespace Go.Proofs.YthjpoaannjgdmaaGreatDoor
section
open Go.RowKit
def fW(l:List Int)(n:Int)(p:Int->Bool):Bool:=(l.takeWhile (fun x=>decide (x<n))).any p
def aH(t:Tr)(n:Int):Bool:=fW t.items n fun it=>zw t it&&(t.nd it).text==(t.nd n).text
def aW(t:Tr)(n:Int):Bool:=fW (t.nd (parent t n)).kids n fun k=>(t.nd k).kind==34&&(t.nd k).text==(t.nd n).text
def aU(t:Tr)(n:Int):Bool:=fW t.items n fun it=>(t.nd it).kind==45&&means t it==means t n
def bU(t:Tr)(n:Int):Int:=
 if bR t n&&zw t n&&aH t n then 6
 else if (t.nd n).kind==34&&aW t n then 6
 else if !bF (t.nd n).kind then 0
 else if means t n<0 then 10
 else if (t.nd n).kind==21&&(t.nd (means t n)).n==0&&inside t n (means t n)then 9
 else if (t.nd n).kind==45&&aU t n then 9
 else 0
theorem EL(s:List UInt8):zI s=((tokF s).1==1&&(tokF s).2==s):=rfl
def cH(k:Int):Bool:=decide (30<=k)&&decide (k<=33)
def cS(k:Int):Bool:=decide (40<=k)&&decide (k<=46)
def eO(k:Int):Bool:=k==3||k==20||k==21||k==22||k==24||k==25||k==32||k==34||k==40||k==41||k==42||k==43||k==44||k==45
def zD(k n m:Int):Bool:=
 if k==1||k==2||k==3||k==30||k==31||k==32||k==45 then m==0
 else if k==4||k==5||k==22||k==25||k==33||k==34||k==43||k==44 then m==1
 else if k==19 then m==3
 else if k==21 then true
 else if k==24||k==26||k==41 then decide (1<=m)
 else if k==42 then decide (2<=m)
 else if k==46 then (if n==7 then m==0 else if n==8 then decide (1<=m)else m==1)
 else m==2
def zB(k n:Int):Bool:=
 if k==1 then decide (-9999<=n)&&decide (n<=9999)
 else if k==2 then n==0||n==1
 else if k==42 then decide (0<=n)
 else if k==33 then true
 else if k==46 then decide (1<=n)&&decide (n<=8)
 else n==0
def kidK(k:Int)(m i:Int)(d:Int):Bool:=
 if k==24 then d==25
 else if k==41 then d==34
 else if k==34||k==33 then cH d
 else if k==40 then d==1
 else if k==42 then (if i==m-1 then zn d else if i==m-2 then cH d else d==34)
 else zn d
def ndV(d:Nd)(ka:Option Addr)(kc:Nat):Value:=.agg #[.int .u8 d.kind,strV d.text,intV d.n,.slice ka d.kids.length kc,intV d.pos]
theorem rX(n:Int)(w:World):Calls prog 98 #[.int .u8 n] w fun e w'=>e=.returned (.bool (rF n))/\w=w':=by
 go_enter func98,ntmps98;go_wp2
 all_goals
  go_ret;refine⟨ze ?_,rfl⟩
  (try simp_all[rF])<;>(try omega)
theorem kE(n:Int)(w:World):Calls prog 102 #[.int .u8 n] w fun e w'=>e=.returned (.bool (pW n))/\w=w':=by
 go_enter func102,ntmps102;go_wp2
 all_goals
  go_ret;refine⟨ze ?_,rfl⟩
  (try simp_all[pW])<;>(try omega)
def JO(n:Int):Bool:=rF n||pW n
theorem vB(n:Int)(w:World):Calls prog 99 #[.int .u8 n] w fun e w'=>e=.returned (.bool (JO n))/\w=w':=by
 have hp:JO n=(rF n||pW n):=rfl;rw[hp];clear hp;obtain⟨b,hb⟩:∃b,rF n=b:=⟨_,rfl⟩
 have HB:=Hd hb;rw[hb];clear hb;cases b <;>
 .go_enter func99,ntmps99
  go_wp2_with (first
   | (go_at_call 98;refine(rX n _).mono ?_;rw[HB.o];rintro e w' ⟨rfl,rfl⟩)
   | (go_at_call 102;refine(kE n _).mono ?_;rintro e w' ⟨rfl,rfl⟩))
  go_ret;exact⟨rfl,rfl⟩
theorem tC(n:Int)(w:World):Calls prog 95 #[.int .u8 n] w fun e w'=>e=.returned (.bool (n==32||n==10))/\w=w':=by
 go_enter func95,ntmps95;go_wp2
 all_goals
  go_ret;refine⟨ze ?_,rfl⟩
  (try simp_all)<;>(try omega)
def mH(n:Int):Bool:=n != 10
def bK(c:UInt8):Bool:=mH (c.toNat:Int)
theorem nW(n:Int)(w:World):Calls prog 97 #[.int .u8 n] w fun e w'=>e=.returned (.bool (mH n))/\w=w':=by
 go_enter func97,ntmps97;go_wp2
 all_goals
  go_ret;refine⟨ze ?_,rfl⟩
  (try simp_all[mH])<;>(try omega)
theorem PY(c:UInt8):fG c=JO (c.toNat:Int):=rfl
theorem lA(s:List UInt8)(w:World)(hs:s.length<=1000000000) :
 Calls prog 96 #[strV s,.func (.func 99) #[] #[]] w fun e w'=>e=.returned (intV (twl fG s))/\w=w':=by
 go_enter func96,ntmps96;go_wp2
 go_loop [5] (fun i=>∃k:Nat,k<=s.length/\i=.int .i64 k/\Hid (k<=twl fG s)) (fun i=>s.length-(intOf i).toNat)
 case atStart=>exact⟨0,Nat.zero_le _,rfl,Hd (Nat.zero_le _)⟩
 case round=>
  obtain⟨k,hk,rfl,HA⟩:=hrel;by_cases hlt:k<s.length
  .obtain⟨b,hb⟩:∃b,JO (s[k].toNat:Int)=b:=⟨_,rfl⟩
   have HB:=Hd hb;clear hb
   cases b with
   | true=>
     have HS:=Hd (uB hlt HA.o HB.o)
     go_wp2_with (go_at_call 99;refine(vB _ _).mono ?_;rw[HB.o];rintro e w' ⟨rfl,rfl⟩)
     go_round
     case rel=>exact⟨k+1,by omega,by go_num,HS⟩
     case measure=>simp[intOf];omega
   | false=>
     have HS:=Hd (AT hlt HA.o HB.o)
     go_wp2_with (go_at_call 99;refine(vB _ _).mono ?_;rw[HB.o];rintro e w' ⟨rfl,rfl⟩)
     go_ret;exact⟨zP (by rw[<-HS.o]),rfl⟩
  .have HS:Hid (k=twl fG s):=Hd (by have:=HA.o;have:=oE fG s;omega)
   go_wp2;go_ret;exact⟨zP (by rw[<-HS.o]),rfl⟩
theorem nX(s:List UInt8)(w:World)(hs:s.length<=1000000000) :
 Calls prog 96 #[strV s,.func (.func 102) #[] #[]] w fun e w'=>e=.returned (intV (twl aI s))/\w=w':=by
 go_enter func96,ntmps96;go_wp2
 go_loop [5] (fun i=>∃k:Nat,k<=s.length/\i=.int .i64 k/\Hid (k<=twl aI s)) (fun i=>s.length-(intOf i).toNat)
 case atStart=>exact⟨0,Nat.zero_le _,rfl,Hd (Nat.zero_le _)⟩
 case round=>
  obtain⟨k,hk,rfl,HA⟩:=hrel;by_cases hlt:k<s.length
  .obtain⟨b,hb⟩:∃b,pW (s[k].toNat:Int)=b:=⟨_,rfl⟩
   have HB:=Hd hb;clear hb
   cases b with
   | true=>
     have HS:=Hd (uB hlt HA.o HB.o)
     go_wp2_with (go_at_call 102;refine(kE _ _).mono ?_;rw[HB.o];rintro e w' ⟨rfl,rfl⟩)
     go_round
     case rel=>exact⟨k+1,by omega,by go_num,HS⟩
     case measure=>simp[intOf];omega
   | false=>
     have HS:=Hd (AT hlt HA.o HB.o)
     go_wp2_with (go_at_call 102;refine(kE _ _).mono ?_;rw[HB.o];rintro e w' ⟨rfl,rfl⟩)
     go_ret;exact⟨zP (by rw[<-HS.o]),rfl⟩
  .have HS:Hid (k=twl aI s):=Hd (by have:=HA.o;have:=oE aI s;omega)
   go_wp2;go_ret;exact⟨zP (by rw[<-HS.o]),rfl⟩
theorem yI(s:List UInt8)(w:World)(hs:s.length<=1000000000) :
 Calls prog 96 #[strV s,.func (.func 97) #[] #[]] w fun e w'=>e=.returned (intV (twl bK s))/\w=w':=by
 go_enter func96,ntmps96;go_wp2
 go_loop [5] (fun i=>∃k:Nat,k<=s.length/\i=.int .i64 k/\Hid (k<=twl bK s)) (fun i=>s.length-(intOf i).toNat)
 case atStart=>exact⟨0,Nat.zero_le _,rfl,Hd (Nat.zero_le _)⟩
 case round=>
  obtain⟨k,hk,rfl,HA⟩:=hrel;by_cases hlt:k<s.length
  .obtain⟨b,hb⟩:∃b,mH (s[k].toNat:Int)=b:=⟨_,rfl⟩
   have HB:=Hd hb;clear hb
   cases b with
   | true=>
     have HS:=Hd (uB hlt HA.o HB.o)
     go_wp2_with (go_at_call 97;refine(nW _ _).mono ?_;rw[HB.o];rintro e w' ⟨rfl,rfl⟩)
     go_round
     case rel=>exact⟨k+1,by omega,by go_num,HS⟩
     case measure=>simp[intOf];omega
   | false=>
     have HS:=Hd (AT hlt HA.o HB.o)
     go_wp2_with (go_at_call 97;refine(nW _ _).mono ?_;rw[HB.o];rintro e w' ⟨rfl,rfl⟩)
     go_ret;exact⟨zP (by rw[<-HS.o]),rfl⟩
  .have HS:Hid (k=twl bK s):=Hd (by have:=HA.o;have:=oE bK s;omega)
   go_wp2;go_ret;exact⟨zP (by rw[<-HS.o]),rfl⟩
def idxS(l:List (List UInt8))(s:List UInt8):Int:=first (fun i=>l[i]?==some s) l.length 0
theorem MI(l:List (List UInt8))(s:List UInt8):decide (0<=idxS l s)=hasS l s:=by
 rw[Bool.eq_iff_iff,decide_eq_true_eq];unfold idxS hasS;constructor
 .intro h
  obtain⟨m,_,_,h3,h4⟩:=eJ _ _ nlr h;have:l[m]?=some s:=by simpa using h4
  exact List.contains_iff_mem.2 (List.mem_of_getElem? this)
 .intro h
  obtain⟨i,hi,e⟩:=List.getElem_of_mem (List.contains_iff_mem.1 h)
  have key:∀(f k:Nat),i-k<=f->k<=i->0<=first (fun i=>l[i]?==some s) l.length k:=by
   intro f
   induction f with
   | zero => intro k hf hk;obtain rfl:k=i:=by omega
             rw[zX hi (by simp[hi,e])];omega
   | succ f ih=>
     intro k hf hk;cases hp:(l[k]?==some s)with
     |true=>rw[zX (by omega) hp];omega
     | false=>
       rw[bV (by omega) hp];by_cases e2:k=i
       .subst e2;simp[hi,e]at hp
       .exact ih (k+1) (by omega) (by omega)
  exact key i 0 (by omega) (by omega)
theorem xQ(a:Option Addr)(c:Nat)(l:List (List UInt8))(s:List UInt8)(w:World)(hm:l.length<=1000000000)(h:Strs w a c l) :
 Calls prog 138 #[.slice a l.length c,strV s] w fun e w'=>e=.returned (intV (idxS l s))/\w=w':=by
 have HR:=Hd h;clear h;go_enter func138,ntmps138;go_wp2
 go_loop [8] (fun i=>∃k:Nat,k<=l.length/\i=.int .i64 k/\Hid (idxS l s=first (fun i=>l[i]?==some s) l.length k)) (fun i=>l.length-(intOf i).toNat)
 case atStart=>exact⟨0,Nat.zero_le _,rfl,Hd rfl⟩
 case round=>
  obtain⟨k,hk,rfl,HA⟩:=hrel;by_cases hlt:k<l.length
  .obtain⟨b,o,rfl,hb,hc⟩:=Strs.at HR.o hlt
   cases he:s==l[k]with
   | true=>
     have HE:=Hd he;have ha:(l[k]==s)=true:=by rw[BEq.comm];exact he
     go_wp2;go_ret;exact⟨zP (by rw[HA.o,zX hlt (by have:=HE.o;simp at this;simp[hlt,this])]),rfl⟩
   | false=>
     have HE:=Hd he;have ha:(l[k]==s)=false:=by rw[BEq.comm];exact he
     go_wp2
     go_round
     case rel=>exact⟨k+1,by omega,by go_num,Hd (by rw[HA.o,bV hlt (by have:=HE.o;simp at this;simp[hlt];exact fun h=>this h.symm)])⟩
     case measure=>simp[intOf];omega
  .go_wp2
   go_ret;exact⟨zP (by rw[HA.o,bQ (by omega)]),rfl⟩
theorem cW(a:Option Addr)(c:Nat)(l:List (List UInt8))(s:List UInt8)(w:World)(hm:l.length<=1000000000)(h:Strs w a c l) :
 Calls prog 100 #[.slice a l.length c,strV s] w fun e w'=>e=.returned (.bool (hasS l s))/\w=w':=by
 have HX:=Hd (MI l s);have HC:=Hd (xQ a c l s w hm h);clear h;go_enter func100,ntmps100
 go_wp2_with (go_at_call 138;refine HC.o.mono ?_;rintro e w' ⟨rfl,rfl⟩)
 go_ret;exact⟨ze (by rw[<-HX.o]),rfl⟩
theorem xS(s g:List UInt8)(w:World) :
 Calls prog 85 #[strV s,strV g] w fun e w'=>e=.returned (.bool (g.isPrefixOf s))/\w=w':=by
 by_cases hl:g.length<=s.length
 .have hp:g.isPrefixOf s=(s.take g.length==g):=by
   rw[Bool.eq_iff_iff,List.isPrefixOf_iff_prefix,beq_iff_eq,List.prefix_iff_eq_take];exact eq_comm
  rw[hp];clear hp;go_enter func85,ntmps85;go_wp2;go_ret;refine⟨ze ?_,rfl⟩;simp
 .have hp:g.isPrefixOf s=false:=by
   rw[Bool.eq_false_iff];intro h;exact hl (List.isPrefixOf_iff_prefix.1 h).length_le
  rw[hp];clear hp;go_enter func85,ntmps85;go_wp2;go_ret;exact⟨rfl,rfl⟩
theorem kT(s g:List UInt8)(w:World) :
 Calls prog 105 #[strV s,strV g] w fun e w'=>e=.returned (.bool (g.isPrefixOf s))/\w=w':=by
 have HC:=Hd (xS s g w);go_enter func105,ntmps105
 go_wp2_with (go_at_call 85;refine HC.o.mono ?_;rintro e w' ⟨rfl,rfl⟩)
 go_ret;exact⟨rfl,rfl⟩
theorem pP(s:List UInt8)(w:World)(h1:1<=s.length)(h2:s.length<=1000000000) :
 Calls prog 103 #[strV s] w fun e w'=>e=.returned (.bool (numB s))/\w=w':=by
 have h0:0<s.length:=h1
 have hh:s.head?=some s[0]:=by
  cases s with
  |nil=>simp at h0
  |cons x r=>rfl
 have hn:numB s=(decide (s.length<=4)&&(decide (s.length=1)||decide ((s[0].toNat:Int)≠48))):=by
  unfold numB;rw[hh];congr 2;rw[Bool.eq_iff_iff];simp;constructor
  .intro h e;apply h;apply UInt8.toNat_inj.1;have e2:s[0].toNat=48:=by omega
   rw[e2];rfl
  .intro h e;apply h;rw[e];rfl
 have HN:=Hd hn;clear hn hh;by_cases h4:s.length<=4
 .by_cases h11:s.length=1
  .have ha:((s.length:Int)==1)=true:=by simp[h11]
   have HA:=Hd h11;clear h11;go_enter func103,ntmps103;go_wp2;go_ret;exact⟨ze (by rw[HN.o];simp[HA.o]),rfl⟩
  .have ha:((s.length:Int)==1)=false:=by simp;omega
   have HA:=Hd h11;have HB:=Hd h4;clear h11;go_enter func103,ntmps103;go_wp2;go_ret;refine⟨ze ?_,rfl⟩;rw[HN.o];simp[HA.o,HB.o];rw[Bool.eq_iff_iff];simp
 .have HB:=Hd h4
  go_enter func103,ntmps103;go_wp2;go_ret;exact⟨ze (by rw[HN.o];simp[HB.o]),rfl⟩
end
section
open Go Go.RowKit
theorem vN:prog.underlying 26=some (.slice 9):=by kernel_rfl
abbrev dC(W:World)(B:Nat)(a:Option Addr)(c:Nat)(l:List (List UInt8)):Prop:=W.ownsRow B 9 1 (.slice a l.length c) l.length (kR l)
theorem zV{W:World}{B:Nat}{a:Option Addr}{c:Nat}{l:List (List UInt8)}(h:dC W B a c l):Strs W a c l:=by
 obtain⟨a',c',e,hr⟩:=bC h;simp at e;obtain⟨rfl,rfl⟩:=e;exact hr
theorem pR{W:World}{ops:Array Oper}{rest:List Oper}{o:Oper}{a:Act}{Q:Exit->Act->World->Prop}(hgd:o.guard=none)(s x:Operand)
 (ho:o.op=.call { callee:=.builtin .append,args:=#[s,x],argTypes:=#[26,26] })
 {B:Nat}{av:Option Addr}{cv:Nat}{l:List (List UInt8)}(hs:a.eval s=.slice av l.length cv)(hown:dC W B av cv l)
 {ax:Option Addr}{c:Nat}{tx:List UInt8}(hx:a.eval x=.slice ax 1 c)(hr:Row 1 W ax 1 c (kR [tx]))
 (hbytes:l.length<=1000000000)(hB:B<=W.heap.size)
 (h:∀a' c' w',dC w' B a' c' (l++[tx])->(∀B' A,B'<=B->Below B' A W->Below B' A w')->wpList prog ops Q rest (a.put o.dst (.slice a' (l++[tx]).length c')) w'):wpList prog ops Q (o::rest) a W:=by
 refine fP hgd s x 26 9 (.string ⟨#[]⟩) 1 16 ho vN qE rfl (by decide) hs hown hx hr (NP _) (by unfold maxLen;omega) (by omega) hB ?_;intro a' c' w' h1 h2 h3;have e:l.length+1=(l++[tx]).length:=by simp
 have e2:kR l++kR [tx]=kR (l++[tx]):=by simp
 rw[e,e2]at h1;rw[e];exact h a' c' w' h1 (dF hown h2 hB)
end
end Go.Proofs.YthjpoaannjgdmaaGreatDoor
