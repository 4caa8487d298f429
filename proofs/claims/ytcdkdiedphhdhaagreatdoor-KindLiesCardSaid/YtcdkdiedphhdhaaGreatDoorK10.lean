/- Part of a proof. -/
import Derived.Test.YtcdkdiedphhdhaaGreatDoorK08
import Derived.Deep.Cut
import Derived.Deep.CutRange
import Derived.Deep.CutBlock
set_option maxRecDepth 100000
set_option maxHeartbeats 8000000
set_option linter.unusedVariables false
set_option linter.unusedSimpArgs false
open Go.Proofs.Tryz
namespace Go.Proofs.YtcdkdiedphhdhaaGreatDoor
section
open Go.RowKit
def fW(l:List Int)(n:Int)(p:Int->Bool):Bool:=(l.takeWhile (fun x=>decide (x<n))).any p
def aE(t:Tr)(n:Int):Bool:=fW t.items n fun it=>zn t it&&(t.nd it).text==(t.nd n).text
def aU(t:Tr)(n:Int):Bool:=fW (t.nd (parent t n)).kids n fun k=>(t.nd k).kind==34&&(t.nd k).text==(t.nd n).text
def aS(t:Tr)(n:Int):Bool:=fW t.items n fun it=>(t.nd it).kind==45&&means t it==means t n
def bV(t:Tr)(n:Int):Int:=
 if bT t n&&zn t n&&aE t n then 6
 else if (t.nd n).kind==34&&aU t n then 6
 else if !bD (t.nd n).kind then 0
 else if means t n<0 then 10
 else if (t.nd n).kind==21&&(t.nd (means t n)).n==0&&inside t n (means t n)then 9
 else if (t.nd n).kind==45&&aS t n then 9
 else 0
theorem EI(s:List UInt8):zG s=((tokF s).1==1&&(tokF s).2==s):=rfl
def cG(k:Int):Bool:=decide (30<=k)&&decide (k<=33)
def cQ(k:Int):Bool:=decide (40<=k)&&decide (k<=46)
def eQ(k:Int):Bool:=k==3||k==20||k==21||k==22||k==24||k==25||k==32||k==34||k==40||k==41||k==42||k==43||k==44||k==45
def zC(k n m:Int):Bool:=
 if k==1||k==2||k==3||k==30||k==31||k==32||k==45 then m==0
 else if k==4||k==5||k==22||k==25||k==33||k==34||k==43||k==44 then m==1
 else if k==19 then m==3
 else if k==21 then true
 else if k==24||k==26||k==41 then decide (1<=m)
 else if k==42 then decide (2<=m)
 else if k==46 then (if n==7 then m==0 else if n==8 then decide (1<=m)else m==1)
 else m==2
def zA(k n:Int):Bool:=
 if k==1 then decide (-9999<=n)&&decide (n<=9999)
 else if k==2 then n==0||n==1
 else if k==42 then decide (0<=n)
 else if k==33 then true
 else if k==46 then decide (1<=n)&&decide (n<=8)
 else n==0
def kidK(k:Int)(m i:Int)(d:Int):Bool:=
 if k==24 then d==25
 else if k==41 then d==34
 else if k==34||k==33 then cG d
 else if k==40 then d==1
 else if k==42 then (if i==m-1 then zl d else if i==m-2 then cG d else d==34)
 else zl d
def ndV(d:Nd)(ka:Option Addr)(kc:Nat):Value:=.agg #[.int .u8 d.kind,strV d.text,intV d.n,.slice ka d.kids.length kc,intV d.pos]
theorem rT(n:Int)(w:World):Calls prog 108 #[.int .u8 n] w fun e w'=>e=.returned (.bool (qZ n))/\w=w':=by
 go_enter func108,ntmps108;go_wp2
 all_goals
  go_ret;refine⟨zc ?_,rfl⟩
  (try simp_all[qZ])<;>(try omega)
theorem kD(n:Int)(w:World):Calls prog 113 #[.int .u8 n] w fun e w'=>e=.returned (.bool (pR n))/\w=w':=by
 go_enter func113,ntmps113;go_wp2
 all_goals
  go_ret;refine⟨zc ?_,rfl⟩
  (try simp_all[pR])<;>(try omega)
def JO(n:Int):Bool:=qZ n||pR n
theorem uY(n:Int)(w:World):Calls prog 110 #[.int .u8 n] w fun e w'=>e=.returned (.bool (JO n))/\w=w':=by
 have hp:JO n=(qZ n||pR n):=rfl;rw[hp];clear hp;obtain⟨b,hb⟩:∃b,qZ n=b:=⟨_,rfl⟩
 have HB:=Hd hb;rw[hb];clear hb;cases b <;>
 .go_enter func110,ntmps110
  go_wp2_with (first
   | (go_at_call 108;refine(rT n _).mono ?_;rw[HB.o];rintro e w' ⟨rfl,rfl⟩)
   | (go_at_call 113;refine(kD n _).mono ?_;rintro e w' ⟨rfl,rfl⟩))
  go_ret;exact⟨rfl,rfl⟩
theorem sY(n:Int)(w:World):Calls prog 128 #[.int .u8 n] w fun e w'=>e=.returned (.bool (n==32||n==10))/\w=w':=by
 go_enter func128,ntmps128;go_wp2
 all_goals
  go_ret;refine⟨zc ?_,rfl⟩
  (try simp_all)<;>(try omega)
def mF(n:Int):Bool:=n != 10
def bL(c:UInt8):Bool:=mF (c.toNat:Int)
theorem nT(n:Int)(w:World):Calls prog 129 #[.int .u8 n] w fun e w'=>e=.returned (.bool (mF n))/\w=w':=by
 go_enter func129,ntmps129;go_wp2
 all_goals
  go_ret;refine⟨zc ?_,rfl⟩
  (try simp_all[mF])<;>(try omega)
theorem QC(c:UInt8):fG c=JO (c.toNat:Int):=rfl
theorem kX(s:List UInt8)(w:World)(hs:s.length<=1000000000) :
 Calls prog 109 #[strV s,.func (.func 110) #[] #[]] w fun e w'=>e=.returned (intV (twl fG s))/\w=w':=by
 go_enter func109,ntmps109;go_wp2
 go_loop [5] (fun i=>∃k:Nat,k<=s.length/\i=.int .i64 k/\Hid (k<=twl fG s)) (fun i=>s.length-(intOf i).toNat)
 case atStart=>exact⟨0,Nat.zero_le _,rfl,Hd (Nat.zero_le _)⟩
 case round=>
  obtain⟨k,hk,rfl,HA⟩:=hrel;by_cases hlt:k<s.length
  .obtain⟨b,hb⟩:∃b,JO (s[k].toNat:Int)=b:=⟨_,rfl⟩
   have HB:=Hd hb;clear hb
   cases b with
   | true=>
     have HS:=Hd (tY hlt HA.o HB.o)
     go_wp2_with (go_at_call 110;refine(uY _ _).mono ?_;rw[HB.o];rintro e w' ⟨rfl,rfl⟩)
     go_round
     case rel=>exact⟨k+1,by omega,by go_num,HS⟩
     case measure=>simp[intOf];omega
   | false=>
     have HS:=Hd (AT hlt HA.o HB.o)
     go_wp2_with (go_at_call 110;refine(uY _ _).mono ?_;rw[HB.o];rintro e w' ⟨rfl,rfl⟩)
     go_ret;exact⟨zO (by rw[<-HS.o]),rfl⟩
  .have HS:Hid (k=twl fG s):=Hd (by have:=HA.o;have:=oB fG s;omega)
   go_wp2;go_ret;exact⟨zO (by rw[<-HS.o]),rfl⟩
theorem nU(s:List UInt8)(w:World)(hs:s.length<=1000000000) :
 Calls prog 109 #[strV s,.func (.func 113) #[] #[]] w fun e w'=>e=.returned (intV (twl aF s))/\w=w':=by
 go_enter func109,ntmps109;go_wp2
 go_loop [5] (fun i=>∃k:Nat,k<=s.length/\i=.int .i64 k/\Hid (k<=twl aF s)) (fun i=>s.length-(intOf i).toNat)
 case atStart=>exact⟨0,Nat.zero_le _,rfl,Hd (Nat.zero_le _)⟩
 case round=>
  obtain⟨k,hk,rfl,HA⟩:=hrel;by_cases hlt:k<s.length
  .obtain⟨b,hb⟩:∃b,pR (s[k].toNat:Int)=b:=⟨_,rfl⟩
   have HB:=Hd hb;clear hb
   cases b with
   | true=>
     have HS:=Hd (tY hlt HA.o HB.o)
     go_wp2_with (go_at_call 113;refine(kD _ _).mono ?_;rw[HB.o];rintro e w' ⟨rfl,rfl⟩)
     go_round
     case rel=>exact⟨k+1,by omega,by go_num,HS⟩
     case measure=>simp[intOf];omega
   | false=>
     have HS:=Hd (AT hlt HA.o HB.o)
     go_wp2_with (go_at_call 113;refine(kD _ _).mono ?_;rw[HB.o];rintro e w' ⟨rfl,rfl⟩)
     go_ret;exact⟨zO (by rw[<-HS.o]),rfl⟩
  .have HS:Hid (k=twl aF s):=Hd (by have:=HA.o;have:=oB aF s;omega)
   go_wp2;go_ret;exact⟨zO (by rw[<-HS.o]),rfl⟩
theorem yH(s:List UInt8)(w:World)(hs:s.length<=1000000000) :
 Calls prog 109 #[strV s,.func (.func 129) #[] #[]] w fun e w'=>e=.returned (intV (twl bL s))/\w=w':=by
 go_enter func109,ntmps109;go_wp2
 go_loop [5] (fun i=>∃k:Nat,k<=s.length/\i=.int .i64 k/\Hid (k<=twl bL s)) (fun i=>s.length-(intOf i).toNat)
 case atStart=>exact⟨0,Nat.zero_le _,rfl,Hd (Nat.zero_le _)⟩
 case round=>
  obtain⟨k,hk,rfl,HA⟩:=hrel;by_cases hlt:k<s.length
  .obtain⟨b,hb⟩:∃b,mF (s[k].toNat:Int)=b:=⟨_,rfl⟩
   have HB:=Hd hb;clear hb
   cases b with
   | true=>
     have HS:=Hd (tY hlt HA.o HB.o)
     go_wp2_with (go_at_call 129;refine(nT _ _).mono ?_;rw[HB.o];rintro e w' ⟨rfl,rfl⟩)
     go_round
     case rel=>exact⟨k+1,by omega,by go_num,HS⟩
     case measure=>simp[intOf];omega
   | false=>
     have HS:=Hd (AT hlt HA.o HB.o)
     go_wp2_with (go_at_call 129;refine(nT _ _).mono ?_;rw[HB.o];rintro e w' ⟨rfl,rfl⟩)
     go_ret;exact⟨zO (by rw[<-HS.o]),rfl⟩
  .have HS:Hid (k=twl bL s):=Hd (by have:=HA.o;have:=oB bL s;omega)
   go_wp2;go_ret;exact⟨zO (by rw[<-HS.o]),rfl⟩
def idxS(l:List (List UInt8))(s:List UInt8):Int:=first (fun i=>l[i]?==some s) l.length 0
theorem MJ(l:List (List UInt8))(s:List UInt8):decide (0<=idxS l s)=hasS l s:=by
 rw[Bool.eq_iff_iff,decide_eq_true_eq];unfold idxS hasS;constructor
 .intro h
  obtain⟨m,_,_,h3,h4⟩:=eM _ _ nlr h;have:l[m]?=some s:=by simpa using h4
  exact List.contains_iff_mem.2 (List.mem_of_getElem? this)
 .intro h
  obtain⟨i,hi,e⟩:=List.getElem_of_mem (List.contains_iff_mem.1 h)
  have key:∀(f k:Nat),i-k<=f->k<=i->0<=first (fun i=>l[i]?==some s) l.length k:=by
   intro f
   induction f with
   | zero => intro k hf hk;obtain rfl:k=i:=by omega
             rw[zV hi (by simp[hi,e])];omega
   | succ f ih=>
     intro k hf hk;cases hp:(l[k]?==some s)with
     |true=>rw[zV (by omega) hp];omega
     | false=>
       rw[bW (by omega) hp];by_cases e2:k=i
       .subst e2;simp[hi,e]at hp
       .exact ih (k+1) (by omega) (by omega)
  exact key i 0 (by omega) (by omega)
theorem xP(a:Option Addr)(c:Nat)(l:List (List UInt8))(s:List UInt8)(w:World)(hm:l.length<=1000000000)(h:Strs w a c l) :
 Calls prog 151 #[.slice a l.length c,strV s] w fun e w'=>e=.returned (intV (idxS l s))/\w=w':=by
 have HR:=Hd h;clear h;go_enter func151,ntmps151;go_wp2
 go_loop [8] (fun i=>∃k:Nat,k<=l.length/\i=.int .i64 k/\Hid (idxS l s=first (fun i=>l[i]?==some s) l.length k)) (fun i=>l.length-(intOf i).toNat)
 case atStart=>exact⟨0,Nat.zero_le _,rfl,Hd rfl⟩
 case round=>
  obtain⟨k,hk,rfl,HA⟩:=hrel;by_cases hlt:k<l.length
  .obtain⟨b,o,rfl,hb,hc⟩:=Strs.at HR.o hlt
   cases he:s==l[k]with
   | true=>
     have HE:=Hd he;have ha:(l[k]==s)=true:=by rw[BEq.comm];exact he
     go_wp2;go_ret;exact⟨zO (by rw[HA.o,zV hlt (by have:=HE.o;simp at this;simp[hlt,this])]),rfl⟩
   | false=>
     have HE:=Hd he;have ha:(l[k]==s)=false:=by rw[BEq.comm];exact he
     go_wp2
     go_round
     case rel=>exact⟨k+1,by omega,by go_num,Hd (by rw[HA.o,bW hlt (by have:=HE.o;simp at this;simp[hlt];exact fun h=>this h.symm)])⟩
     case measure=>simp[intOf];omega
  .go_wp2
   go_ret;exact⟨zO (by rw[HA.o,bS (by omega)]),rfl⟩
theorem cT(a:Option Addr)(c:Nat)(l:List (List UInt8))(s:List UInt8)(w:World)(hm:l.length<=1000000000)(h:Strs w a c l) :
 Calls prog 111 #[.slice a l.length c,strV s] w fun e w'=>e=.returned (.bool (hasS l s))/\w=w':=by
 have HX:=Hd (MJ l s);have HC:=Hd (xP a c l s w hm h);clear h;go_enter func111,ntmps111
 go_wp2_with (go_at_call 151;refine HC.o.mono ?_;rintro e w' ⟨rfl,rfl⟩)
 go_ret;exact⟨zc (by rw[<-HX.o]),rfl⟩
theorem xR(s g:List UInt8)(w:World) :
 Calls prog 99 #[strV s,strV g] w fun e w'=>e=.returned (.bool (g.isPrefixOf s))/\w=w':=by
 by_cases hl:g.length<=s.length
 .have hp:g.isPrefixOf s=(s.take g.length==g):=by
   rw[Bool.eq_iff_iff,List.isPrefixOf_iff_prefix,beq_iff_eq,List.prefix_iff_eq_take];exact eq_comm
  rw[hp];clear hp;go_enter func99,ntmps99;go_wp2;go_ret;refine⟨zc ?_,rfl⟩;simp
 .have hp:g.isPrefixOf s=false:=by
   rw[Bool.eq_false_iff];intro h;exact hl (List.isPrefixOf_iff_prefix.1 h).length_le
  rw[hp];clear hp;go_enter func99,ntmps99;go_wp2;go_ret;exact⟨rfl,rfl⟩
theorem kR(s g:List UInt8)(w:World) :
 Calls prog 116 #[strV s,strV g] w fun e w'=>e=.returned (.bool (g.isPrefixOf s))/\w=w':=by
 have HC:=Hd (xR s g w);go_enter func116,ntmps116
 go_wp2_with (go_at_call 99;refine HC.o.mono ?_;rintro e w' ⟨rfl,rfl⟩)
 go_ret;exact⟨rfl,rfl⟩
theorem pK(s:List UInt8)(w:World)(h1:1<=s.length)(h2:s.length<=1000000000) :
 Calls prog 114 #[strV s] w fun e w'=>e=.returned (.bool (numB s))/\w=w':=by
 have h0:0<s.length:=h1
 have hh:s.head?=some s[0]:=by
  cases s with
  |nil=>simp at h0
  |cons x r=>rfl
 have hn:numB s=(decide (s.length<=4)&&(decide (s.length=1)||decide ((s[0].toNat:Int)≠48))):=by
  unfold numB;rw[hh];congr 2;rw[Bool.eq_iff_iff];simp;constructor
  .intro h e;apply h;apply UInt8.toNat_inj.1;have e2:s[0].toNat=48:=by omega
   rw[e2];rfl
  .intro h e;apply h;rw[e];rfl
 have HN:=Hd hn;clear hn hh;by_cases h4:s.length<=4
 .by_cases h11:s.length=1
  .have ha:((s.length:Int)==1)=true:=by simp[h11]
   have HA:=Hd h11;clear h11;go_enter func114,ntmps114;go_wp2;go_ret;exact⟨zc (by rw[HN.o];simp[HA.o]),rfl⟩
  .have ha:((s.length:Int)==1)=false:=by simp;omega
   have HA:=Hd h11;have HB:=Hd h4;clear h11;go_enter func114,ntmps114;go_wp2;go_ret;refine⟨zc ?_,rfl⟩;rw[HN.o];simp[HA.o,HB.o];rw[Bool.eq_iff_iff];simp
 .have HB:=Hd h4
  go_enter func114,ntmps114;go_wp2;go_ret;exact⟨zc (by rw[HN.o];simp[HB.o]),rfl⟩
end
section
open Go Go.RowKit
theorem vK:prog.underlying 26=some (.slice 9):=by kernel_rfl
abbrev dA(W:World)(B:Nat)(a:Option Addr)(c:Nat)(l:List (List UInt8)):Prop:=W.ownsRow B 9 1 (.slice a l.length c) l.length (kP l)
theorem zT{W:World}{B:Nat}{a:Option Addr}{c:Nat}{l:List (List UInt8)}(h:dA W B a c l):Strs W a c l:=by
 obtain⟨a',c',e,hr⟩:=aZ h;simp at e;obtain⟨rfl,rfl⟩:=e;exact hr
theorem pM{W:World}{ops:Array Oper}{rest:List Oper}{o:Oper}{a:Act}{Q:Exit->Act->World->Prop}(hgd:o.guard=none)(s x:Operand)
 (ho:o.op=.call { callee:=.builtin .append,args:=#[s,x],argTypes:=#[26,26] })
 {B:Nat}{av:Option Addr}{cv:Nat}{l:List (List UInt8)}(hs:a.eval s=.slice av l.length cv)(hown:dA W B av cv l)
 {ax:Option Addr}{c:Nat}{tx:List UInt8}(hx:a.eval x=.slice ax 1 c)(hr:Row 1 W ax 1 c (kP [tx]))
 (hbytes:l.length<=1000000000)(hB:B<=W.heap.size)
 (h:∀a' c' w',dA w' B a' c' (l++[tx])->(∀B' A,B'<=B->Below B' A W->Below B' A w')->wpList prog ops Q rest (a.put o.dst (.slice a' (l++[tx]).length c')) w'):wpList prog ops Q (o::rest) a W:=by
 refine eF hgd s x 26 9 (.string ⟨#[]⟩) 1 16 ho vK pZ rfl (by decide) hs hown hx hr (NV _) (by unfold maxLen;omega) (by omega) hB ?_;intro a' c' w' h1 h2 h3;have e:l.length+1=(l++[tx]).length:=by simp
 have e2:kP l++kP [tx]=kP (l++[tx]):=by simp
 rw[e,e2]at h1;rw[e];exact h a' c' w' h1 (dD hown h2 hB)
end
end Go.Proofs.YtcdkdiedphhdhaaGreatDoor
