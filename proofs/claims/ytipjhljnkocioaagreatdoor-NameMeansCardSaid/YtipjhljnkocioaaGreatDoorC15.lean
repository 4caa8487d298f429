/- Part of a proof. -/
import Derived.Test.YtipjhljnkocioaaGreatDoorC14
set_option maxRecDepth 100000
set_option maxHeartbeats 8000000
set_option linter.unusedVariables false
set_option linter.unusedSimpArgs false
open Go.Proofs.Tryz
namespace Go.Proofs.YtipjhljnkocioaaGreatDoor
section
open Go.RowKit
inductive PK where
 |expr|kind|param|put|num
deriving DecidableEq
def PK.B:PK→Int→Bool
 |.expr=>aH
 |.kind=>fJ
 |.param=>fun k=>k==34
 |.put=>fun k=>k==25
 |.num=>fun k=>k==1
abbrev Part:=Int×Int×PK
structure Shape where
 named:Bool
 lo:Int
 hi:Int
 parts:List Part
def askP(n:Int):Shape:=if n==7 then ⟨false,1,8,[]⟩else if n==8 then ⟨false,1,8,[(1,801,.expr)]⟩else ⟨false,1,8,[(1,1,.expr)]⟩
def fF(k n:Int):Option Shape:=
 if k==1 then some ⟨false,0,9999,[]⟩
 else if k==2 then some ⟨false,0,1,[]⟩
 else if k==3||k==32||k==45 then some ⟨true,0,0,[]⟩
 else if k==4||k==5 then some ⟨false,0,0,[(1,1,.expr)]⟩
 else if k==19 then some ⟨false,0,0,[(3,3,.expr)]⟩
 else if k==20 then some ⟨true,0,0,[(2,2,.expr)]⟩
 else if k==21 then some ⟨true,0,0,[(0,801,.expr)]⟩
 else if k==22||k==25||k==43||k==44 then some ⟨true,0,0,[(1,1,.expr)]⟩
 else if k==24 then some ⟨true,0,0,[(1,801,.put)]⟩
 else if k==26 then some ⟨false,0,0,[(1,801,.expr)]⟩
 else if k==30||k==31 then some ⟨false,0,0,[]⟩
 else if k==33 then some ⟨false,-9223372036854775808,9223372036854775807,[(1,1,.kind)]⟩
 else if k==34 then some ⟨true,0,0,[(1,1,.kind)]⟩
 else if k==40 then some ⟨true,0,0,[(2,2,.num)]⟩
 else if k==41 then some ⟨true,0,0,[(1,801,.param)]⟩
 else if k==42 then some ⟨true,0,9223372036854775807,[(0,801,.param),(1,1,.kind),(1,1,.expr)]⟩
 else if k==46 then some (askP n)
 else if (decide (6≤k)&&decide (k≤18))||k==23 then some ⟨false,0,0,[(2,2,.expr)]⟩
 else none
def zv(n lo hi:Int):Bool:=decide (lo≤n)&&decide (n≤hi)
theorem inRange_iff{n lo hi:Int}:zv n lo hi=true↔lo≤n∧n≤hi:=by simp[zv]
def leasts:List Part→Int
 | []=>0
 |p::r=>p.1+leasts r
def dU:List Part→List Int→Bool
 | [],ks=>ks.length==0
 | (lo,hi,k)::r,ks=>(zv ((ks.length:Int)-leasts r) lo hi&&(ks.take ((ks.length:Int)-leasts r).toNat).all k.B)&&dU r (ks.drop ((ks.length:Int)-leasts r).toNat)
def aY(t:Tr)(i:Nat):List Int:=(t.nd i).kids.map fun k=>(t.nd k).kind
def cR(t:Tr)(i:Nat):Bool:=
 match fF (t.nd i).kind (t.nd i).n with
 |none=>false
 |some s=>(zv (t.nd i).pos 0 2000&&(s.named==((t.nd i).text != []))&&(!s.named||zQ (t.nd i).text))&&((t.nd i).kids.all (fun k=>zv k 0 ((i:Int)-1)) &&
  (dU s.parts (aY t i)&&(zv (t.nd i).n s.lo s.hi||(t.nd i).kind==1&&zv (t.nd i).n (-9999) (-1))))
def cV(t:Tr):Bool:=(List.range t.nodes.length).all fun i=>!((t.nd i).kind==1&&decide ((t.nd i).n<0))||t.items.any fun it=>(t.nd it).kind==40&&hasI (t.nd it).kids i
def dY(t:Tr)(i:Nat):Bool:=
 if (t.nd i).kind==40 then zv ((t.nd ((t.nd i).kids.getD 1 0)).n-(t.nd ((t.nd i).kids.getD 0 0)).n+1) 1 12
 else if (t.nd i).kind==41 then decide (((t.nd i).kids.length:Int)≤6)
 else if (t.nd i).kind==42 then decide (((t.nd i).kids.length:Int)-2≤4)&&decide ((t.nd i).n≤8)
 else if (t.nd i).kind==33 then zv (t.nd i).n 1 6
 else if (t.nd i).kind==26 then decide (((t.nd i).kids.length:Int)≤6)
 else if (t.nd i).kind==46 then (t.nd i).n != 8||decide (((t.nd i).kids.length:Int)≤4)
 else true
def zZ(t:Tr):Int:=first (fun i=>!dY t i) t.nodes.length 0
def bS(t:Tr):Bool:=(List.range t.nodes.length).all fun i=>cR t i
def eW(t:Tr):Int:=
 if 800<t.nodes.length∨60<t.items.length then 5
 else if !bS t then 4
 else if !(aC t&&cV t)then 4
 else if 30<aV t then 5
 else if 0≤zZ t then 3 else 0
theorem aW(ks:List Int):dU [] ks=(ks.length==0):=rfl
theorem zF(l m:Int)(p:PK)(ks:List Int):dU [(l,m,p)] ks=(zv ks.length l m&&ks.all p.B):=by
 simp only[dU,leasts,Int.sub_zero,Int.toNat_natCast,List.take_length,List.drop_length,List.length_nil];simp
theorem JA(ks:List Int):dU [(0,801,.param),(1,1,.kind),(1,1,.expr)] ks=true↔∃l a b,ks=l++[a,b]∧l.length≤801∧l.all (fun k=>k==34)=true∧fJ a=true∧aH b=true:=by
 constructor
 ·intro h
  simp only[dU,leasts,Bool.and_eq_true,inRange_iff]at h;obtain⟨⟨⟨h1,h2⟩,h3⟩,⟨⟨h4,h5⟩,h6⟩,⟨⟨h7,h8⟩,h9⟩,h10⟩:=h;obtain⟨n,hn⟩:∃n:Nat,ks.length=n+2:=⟨ks.length-2,by omega⟩
  have e1:((ks.length:Int)-(1+(1+0))).toNat=n:=by omega
  rw[e1]at h3 h4 h5 h6 h7 h8 h9 h10
  obtain⟨a,b,hab⟩:∃a b,ks.drop n=[a,b]:=by
   have hl:(ks.drop n).length=2:=by simp;omega
   match hx:ks.drop n,hl with
   | [a,b],_=>exact⟨a,b,rfl⟩
  rw[hab]at h6 h9;refine⟨ks.take n,a,b,by rw[←hab,List.take_append_drop],by simp;omega,h3,by simpa[PK.B]using h6,by simpa[PK.B]using h9⟩
 ·rintro⟨l,a,b,rfl,h1,h2,h3,h4⟩
  have e1:(((l++[a,b]).length:Int)-(1+(1+0))).toNat=l.length:=by simp
  have e2:(l++[a,b]).take l.length=l:=by simp
  have e3:(l++[a,b]).drop l.length=[a,b]:=by simp
  simp only[dU,leasts,e1,e2,e3,Bool.and_eq_true,inRange_iff];exact⟨⟨⟨by simp,by simp;omega⟩,h2⟩,⟨⟨by simp,by simp⟩,by simpa[PK.B]using h3⟩,⟨⟨by simp,by simp⟩,by simpa[PK.B]using h4⟩,by simp⟩
def allK(k:Int)(ks:List Int):Bool:=(List.range ks.length).all fun j=>kidK k ks.length j (ks.getD j 0)
theorem DR(p:Int→Bool)(ks:List Int):((List.range ks.length).all fun j=>p (ks.getD j 0))=ks.all p:=by
 rw[Bool.eq_iff_iff];simp only[List.all_eq_true,List.mem_range];constructor
 ·intro h k hk
  obtain⟨j,hj,rfl⟩:=List.getElem_of_mem hk;have:=h j hj;simpa[hj]using this
 ·intro h j hj
  have:=h ks[j] (List.getElem_mem hj);simpa[hj]using this
theorem zx{k:Int}{ks:List Int}(p:Int→Bool)(h:∀m j d:Int,kidK k m j d=p d):allK k ks=ks.all p:=by
 unfold allK;simp only[h];exact DR p ks
theorem nM{k:Int}(h:okK k=true):k=1∨k=2∨k=3∨k=4∨k=5∨k=6∨k=7∨k=8∨k=9∨k=10∨k=11∨k=12∨k=13∨k=14∨k=15∨k=16∨k=17∨k=18∨k=19∨k=20∨k=21∨k=22∨k=23∨k=24∨k=25∨k=26∨k=30∨k=31∨k=32∨k=33∨k=34∨k=40∨k=41∨k=42∨k=43∨k=44∨k=45∨k=46:=by
 simp[okK,aH,fJ,dH]at h;omega
theorem jI{k n:Int}(h:okK k=false):fF k n=none:=by
 have h':¬(okK k=true):=by rw[h];exact Bool.false_ne_true
 simp[okK,aH,fJ,dH]at h';unfold fF
 repeat rw[if_neg (by simp;omega)]
theorem DT(n:Int):(askP n).named=false:=by unfold askP;split<;>(try split)<;>rfl
theorem KM{k:Int}(n:Int)(h:okK k=true):∃s,fF k n=some s∧s.named=dX k:=by
 rcases nM h with rfl|rfl|rfl|rfl|rfl|rfl|rfl|rfl|rfl|rfl|rfl|rfl|rfl|rfl|rfl|rfl|rfl|rfl|rfl|rfl|rfl|rfl|rfl|rfl|rfl|rfl|rfl|rfl|rfl|rfl|rfl|rfl|rfl|rfl|rfl|rfl|rfl|rfl
 all_goals exact⟨_,rfl,by first|rfl|exact DT n⟩
theorem LX(n:Int)(ks:List Int)(hl:ks.length≤801):(dU (askP n).parts ks&&(zv n (askP n).lo (askP n).hi||(46:Int)==1&&zv n (-9999) (-1)))=(zO 46 n ks.length&&zw 46 n&&allK 46 ks):=by
 have e:(askP n).lo=1∧(askP n).hi=8:=by unfold askP;split<;>(try split)<;>exact⟨rfl,rfl⟩
 rw[e.1,e.2,zx aH (by intro m j d;simp[kidK])];unfold askP;by_cases h7:n=7
 ·subst h7
  cases ks with
  |nil=>simp[aW,zO,zw,zv]
  |cons a r=>simp[aW,zO];omega
 ·by_cases h8:n=8
  ·subst h8
   simp only[show((8:Int)==7)=false from rfl,show((8:Int)==8)=true from rfl,if_true,if_false,Bool.false_eq_true];rw[zF];simp only[PK.B];generalize ks.all _=A;cases A
   ·simp
   ·rw[Bool.eq_iff_iff];simp[zO,zw,inRange_iff];omega
  ·simp only[show(n==7)=false by simpa using h7,show(n==8)=false by simpa using h8,if_false,Bool.false_eq_true]
   rw[zF];simp only[PK.B];generalize ks.all _=A;cases A
   ·simp
   ·rw[Bool.eq_iff_iff];simp[zO,zw,inRange_iff,h7,h8];omega
theorem LW(n:Int)(ks:List Int)(hl:ks.length≤801)(hn : -9223372036854775808≤n∧n≤9223372036854775807) :
 (dU [(0,801,.param),(1,1,.kind),(1,1,.expr)] ks&&(zv n 0 9223372036854775807||(42:Int)==1&&zv n (-9999) (-1)))=(zO 42 n ks.length&&zw 42 n&&allK 42 ks):=by
 have e1:(zv n 0 9223372036854775807||(42:Int)==1&&zv n (-9999) (-1))=zw 42 n:=by
  rw[Bool.eq_iff_iff];simp[zw,inRange_iff];omega
 rw[e1]
 have e2:dU [(0,801,.param),(1,1,.kind),(1,1,.expr)] ks=(zO 42 n ks.length&&allK 42 ks):=by
  rw[Bool.eq_iff_iff,JA];have hm:zO 42 n ks.length=decide (2≤(ks.length:Int)):=rfl;rw[hm,Bool.and_eq_true,decide_eq_true_eq];have hk:∀m j d:Int,kidK 42 m j d=if j==m-1 then aH d else if j==m-2 then fJ d else d==34:=fun m j d=>by simp[kidK]
  constructor
  ·rintro⟨l,a,b,rfl,h1,h2,h3,h4⟩
   refine⟨by simp;omega,?_⟩;unfold allK;simp only[List.all_eq_true,List.mem_range,hk];intro j hj;simp only[List.length_append,List.length_cons,List.length_nil]at hj⊢;by_cases c1:j=l.length+1
   ·subst c1
    rw[if_pos (by simp;omega)];simpa[List.getD_eq_getElem?_getD,List.getElem?_append_right]using h4
   ·rw[if_neg (by simp;omega)]
    by_cases c2:j=l.length
    ·subst c2
     rw[if_pos (by simp)];simpa[List.getD_eq_getElem?_getD,List.getElem?_append_right]using h3
    ·rw[if_neg (by simp;omega)]
     have hjl:j<l.length:=by omega
     rw[List.getD_eq_getElem?_getD,List.getElem?_append_left hjl,List.getElem?_eq_getElem hjl];exact List.all_eq_true.1 h2 _ (List.getElem_mem hjl)
  ·rintro⟨h1,h2⟩
   obtain⟨m,hm⟩:∃m:Nat,ks.length=m+2:=⟨ks.length-2,by omega⟩
   obtain⟨a,b,hab⟩:∃a b,ks.drop m=[a,b]:=by
    have hl:(ks.drop m).length=2:=by simp;omega
    match hx:ks.drop m,hl with
    | [a,b],_=>exact⟨a,b,rfl⟩
   have hks:ks=ks.take m++[a,b]:=by rw[←hab,List.take_append_drop]
   have hlm:(ks.take m).length=m:=by simp;omega
   unfold allK at h2;simp only[List.all_eq_true,List.mem_range,hk]at h2;refine⟨ks.take m,a,b,hks,by omega,?_,?_,?_⟩
   ·rw[List.all_eq_true]
    intro x hx;obtain⟨j,hj,rfl⟩:=List.getElem_of_mem hx;have:=h2 j (by omega);rw[if_neg (by simp;omega),if_neg (by simp;omega)]at this;simpa[show j<ks.length by omega]using this
   ·have:=h2 m (by omega)
    rw[if_neg (by simp;omega),if_pos (by simp;omega)]at this;rw[hks,List.getD_eq_getElem?_getD,List.getElem?_append_right (by omega),hlm]at this;simpa using this
   ·have:=h2 (m+1) (by omega)
    rw[if_pos (by simp;omega)]at this;rw[hks,List.getD_eq_getElem?_getD,List.getElem?_append_right (by omega),hlm]at this;simpa using this
 rw[e2];cases zO 42 n ks.length<;>cases allK 42 ks<;>cases zw 42 n<;>rfl
theorem BV{k n:Int}{s:Shape}(hs:fF k n=some s)(ks:List Int)(hl:ks.length≤801)(hn : -9223372036854775808≤n∧n≤9223372036854775807) :
 (dU s.parts ks&&(zv n s.lo s.hi||k==1&&zv n (-9999) (-1)))=(zO k n ks.length&&zw k n&&allK k ks):=by
 have hok:okK k=true:=by
  cases h:okK k with
  |true=>rfl
  |false=>rw[jI h]at hs;cases hs
 have e1:∀a b:Int,zv n a b=true↔a≤n∧n≤b:=fun _ _=>inRange_iff;have hl0:(ks.length:Int)≤801:=by omega
 rcases nM hok with rfl|rfl|rfl|rfl|rfl|rfl|rfl|rfl|rfl|rfl|rfl|rfl|rfl|rfl|rfl|rfl|rfl|rfl|rfl|rfl|rfl|rfl|rfl|rfl|rfl|rfl|rfl|rfl|rfl|rfl|rfl|rfl|rfl|rfl|rfl|rfl|rfl|rfl
 all_goals simp[fF]at hs
 all_goals try subst hs
 ·cases ks with
  |nil=>rw[Bool.eq_iff_iff];simp[aW,zO,zw,allK,inRange_iff];try omega
  |cons a r=>rw[aW];simp[zO];try omega
 ·cases ks with
  |nil=>rw[Bool.eq_iff_iff];simp[aW,zO,zw,allK,inRange_iff];try omega
  |cons a r=>rw[aW];simp[zO];try omega
 ·cases ks with
  |nil=>rw[Bool.eq_iff_iff];simp[aW,zO,zw,allK,inRange_iff];try omega
  |cons a r=>rw[aW];simp[zO];try omega
 ·rw[zF,zx aH (by intro m j d;simp[kidK])];simp only[PK.B];generalize ks.all _=A;cases A
  ·simp
  ·rw[Bool.eq_iff_iff];simp[zO,zw,inRange_iff];try omega
 ·rw[zF,zx aH (by intro m j d;simp[kidK])];simp only[PK.B];generalize ks.all _=A;cases A
  ·simp
  ·rw[Bool.eq_iff_iff];simp[zO,zw,inRange_iff];try omega
 ·rw[zF,zx aH (by intro m j d;simp[kidK])];simp only[PK.B];generalize ks.all _=A;cases A
  ·simp
  ·rw[Bool.eq_iff_iff];simp[zO,zw,inRange_iff];try omega
 ·rw[zF,zx aH (by intro m j d;simp[kidK])];simp only[PK.B];generalize ks.all _=A;cases A
  ·simp
  ·rw[Bool.eq_iff_iff];simp[zO,zw,inRange_iff];try omega
 ·rw[zF,zx aH (by intro m j d;simp[kidK])];simp only[PK.B];generalize ks.all _=A;cases A
  ·simp
  ·rw[Bool.eq_iff_iff];simp[zO,zw,inRange_iff];try omega
 ·rw[zF,zx aH (by intro m j d;simp[kidK])];simp only[PK.B];generalize ks.all _=A;cases A
  ·simp
  ·rw[Bool.eq_iff_iff];simp[zO,zw,inRange_iff];try omega
 ·rw[zF,zx aH (by intro m j d;simp[kidK])];simp only[PK.B];generalize ks.all _=A;cases A
  ·simp
  ·rw[Bool.eq_iff_iff];simp[zO,zw,inRange_iff];try omega
 ·rw[zF,zx aH (by intro m j d;simp[kidK])];simp only[PK.B];generalize ks.all _=A;cases A
  ·simp
  ·rw[Bool.eq_iff_iff];simp[zO,zw,inRange_iff];try omega
 ·rw[zF,zx aH (by intro m j d;simp[kidK])];simp only[PK.B];generalize ks.all _=A;cases A
  ·simp
  ·rw[Bool.eq_iff_iff];simp[zO,zw,inRange_iff];try omega
 ·rw[zF,zx aH (by intro m j d;simp[kidK])];simp only[PK.B];generalize ks.all _=A;cases A
  ·simp
  ·rw[Bool.eq_iff_iff];simp[zO,zw,inRange_iff];try omega
 ·rw[zF,zx aH (by intro m j d;simp[kidK])];simp only[PK.B];generalize ks.all _=A;cases A
  ·simp
  ·rw[Bool.eq_iff_iff];simp[zO,zw,inRange_iff];try omega
 ·rw[zF,zx aH (by intro m j d;simp[kidK])];simp only[PK.B];generalize ks.all _=A;cases A
  ·simp
  ·rw[Bool.eq_iff_iff];simp[zO,zw,inRange_iff];try omega
 ·rw[zF,zx aH (by intro m j d;simp[kidK])];simp only[PK.B];generalize ks.all _=A;cases A
  ·simp
  ·rw[Bool.eq_iff_iff];simp[zO,zw,inRange_iff];try omega
 ·rw[zF,zx aH (by intro m j d;simp[kidK])];simp only[PK.B];generalize ks.all _=A;cases A
  ·simp
  ·rw[Bool.eq_iff_iff];simp[zO,zw,inRange_iff];try omega
 ·rw[zF,zx aH (by intro m j d;simp[kidK])];simp only[PK.B];generalize ks.all _=A;cases A
  ·simp
  ·rw[Bool.eq_iff_iff];simp[zO,zw,inRange_iff];try omega
 ·rw[zF,zx aH (by intro m j d;simp[kidK])];simp only[PK.B];generalize ks.all _=A;cases A
  ·simp
  ·rw[Bool.eq_iff_iff];simp[zO,zw,inRange_iff];try omega
 ·rw[zF,zx aH (by intro m j d;simp[kidK])];simp only[PK.B];generalize ks.all _=A;cases A
  ·simp
  ·rw[Bool.eq_iff_iff];simp[zO,zw,inRange_iff];try omega
 ·rw[zF,zx aH (by intro m j d;simp[kidK])];simp only[PK.B];generalize ks.all _=A;cases A
  ·simp
  ·rw[Bool.eq_iff_iff];simp[zO,zw,inRange_iff];try omega
 ·rw[zF,zx aH (by intro m j d;simp[kidK])];simp only[PK.B];generalize ks.all _=A;cases A
  ·simp
  ·rw[Bool.eq_iff_iff];simp[zO,zw,inRange_iff];try omega
 ·rw[zF,zx aH (by intro m j d;simp[kidK])];simp only[PK.B];generalize ks.all _=A;cases A
  ·simp
  ·rw[Bool.eq_iff_iff];simp[zO,zw,inRange_iff];try omega
 ·rw[zF,zx (fun k=>k==25) (by intro m j d;simp[kidK])];simp only[PK.B];generalize ks.all _=A;cases A
  ·simp
  ·rw[Bool.eq_iff_iff];simp[zO,zw,inRange_iff];try omega
 ·rw[zF,zx aH (by intro m j d;simp[kidK])];simp only[PK.B];generalize ks.all _=A;cases A
  ·simp
  ·rw[Bool.eq_iff_iff];simp[zO,zw,inRange_iff];try omega
 ·rw[zF,zx aH (by intro m j d;simp[kidK])];simp only[PK.B];generalize ks.all _=A;cases A
  ·simp
  ·rw[Bool.eq_iff_iff];simp[zO,zw,inRange_iff];try omega
 ·cases ks with
  |nil=>rw[Bool.eq_iff_iff];simp[aW,zO,zw,allK,inRange_iff];try omega
  |cons a r=>rw[aW];simp[zO];try omega
 ·cases ks with
  |nil=>rw[Bool.eq_iff_iff];simp[aW,zO,zw,allK,inRange_iff];try omega
  |cons a r=>rw[aW];simp[zO];try omega
 ·cases ks with
  |nil=>rw[Bool.eq_iff_iff];simp[aW,zO,zw,allK,inRange_iff];try omega
  |cons a r=>rw[aW];simp[zO];try omega
 ·rw[zF,zx fJ (by intro m j d;simp[kidK])];simp only[PK.B];generalize ks.all _=A;cases A
  ·simp
  ·rw[Bool.eq_iff_iff];simp[zO,zw,inRange_iff];try omega
 ·rw[zF,zx fJ (by intro m j d;simp[kidK])];simp only[PK.B];generalize ks.all _=A;cases A
  ·simp
  ·rw[Bool.eq_iff_iff];simp[zO,zw,inRange_iff];try omega
 ·rw[zF,zx (fun k=>k==1) (by intro m j d;simp[kidK])];simp only[PK.B];generalize ks.all _=A;cases A
  ·simp
  ·rw[Bool.eq_iff_iff];simp[zO,zw,inRange_iff];try omega
 ·rw[zF,zx (fun k=>k==34) (by intro m j d;simp[kidK])];simp only[PK.B];generalize ks.all _=A;cases A
  ·simp
  ·rw[Bool.eq_iff_iff];simp[zO,zw,inRange_iff];try omega
 ·exact LW n ks hl hn
 ·rw[zF,zx aH (by intro m j d;simp[kidK])];simp only[PK.B];generalize ks.all _=A;cases A
  ·simp
  ·rw[Bool.eq_iff_iff];simp[zO,zw,inRange_iff];try omega
 ·rw[zF,zx aH (by intro m j d;simp[kidK])];simp only[PK.B];generalize ks.all _=A;cases A
  ·simp
  ·rw[Bool.eq_iff_iff];simp[zO,zw,inRange_iff];try omega
 ·cases ks with
  |nil=>rw[Bool.eq_iff_iff];simp[aW,zO,zw,allK,inRange_iff];try omega
  |cons a r=>rw[aW];simp[zO];try omega
 ·exact LX n ks hl
def negs(t:Tr)(i:Nat):Bool:=(t.nd i).kids.all fun k=>!((t.nd k).kind==1&&decide ((t.nd k).n<0)&&(t.nd i).kind != 40)
theorem uI(t:Tr)(i:Nat):lB t (t.nd i)=(allK (t.nd i).kind (aY t i)&&negs t i):=by
 rw[Bool.eq_iff_iff];have hg:∀j,j<(t.nd i).kids.length→(aY t i).getD j 0=(t.nd ((t.nd i).kids.getD j 0)).kind:=fun j hj=>by simp[aY,hj]
 have hl:(aY t i).length=(t.nd i).kids.length:=by simp[aY]
 simp only[lB,allK,negs,hl,Bool.and_eq_true,List.all_eq_true,List.mem_range,mF];constructor
 ·intro h
  refine⟨fun j hj=>by rw[hg j hj];exact(h j hj).1,fun k hk=>?_⟩;obtain⟨j,hj,rfl⟩:=List.getElem_of_mem hk;have:=(h j hj).2;simpa[hj]using this
 ·rintro⟨h1,h2⟩ j hj
  refine⟨by rw[←hg j hj];exact h1 j hj,?_⟩;have:=h2 (t.nd i).kids[j] (List.getElem_mem hj);simpa[hj]using this
theorem rJ:zQ []=false:=rfl
theorem EN{l:List UInt8}(h:zQ l=true):l≠[]:=by
 rintro rfl;rw[rJ]at h;cases h
def Rg(t:Tr):Prop:=∀i,i<t.nodes.length → -9223372036854775808≤(t.nd i).n∧(t.nd i).n≤9223372036854775807
theorem tZ{t:Tr}{i:Nat}(rg : -9223372036854775808≤(t.nd i).n∧(t.nd i).n≤9223372036854775807)(hl:(t.nd i).kids.length≤801)(hk:(t.nd i).kids.all (fun k=>zv k 0 ((i:Int)-1))=true) :
 (cR t i&&negs t i)=cB t i:=by
 have hkl:(aY t i).length=(t.nd i).kids.length:=by simp[aY]
 cases hok:okK (t.nd i).kind with
 |false=>simp[cR,jI hok,cB,hok]
 | true=>
   obtain⟨s,hs,hn⟩:=KM (t.nd i).n hok;have hf:=BV hs (aY t i) (by omega) rg;have hpos:zv (t.nd i).pos 0 2000=(decide (0≤(t.nd i).pos)&&decide ((t.nd i).pos≤2000)):=rfl
   have hnm:((s.named==((t.nd i).text != []))&&(!s.named||zQ (t.nd i).text))=((dX (t.nd i).kind==zQ (t.nd i).text)&&(dX (t.nd i).kind||(t.nd i).text==[])):=by
    rw[hn]
    cases dX (t.nd i).kind with
    | true=>
      cases hx:zQ (t.nd i).text with
      |false=>simp
      |true=>have:=EN hx;simp[this]
    | false=>
      by_cases he:(t.nd i).text=[]
      ·rw[he,rJ];rfl
      ·have e1:((t.nd i).text==[])=false:=by simpa using he
       rw[show((t.nd i).text != []) = !((t.nd i).text==[])from rfl,e1];cases zQ (t.nd i).text<;>rfl
   simp only[cR,hs,cB,hok,hk,uI,hf,hkl,hpos,Bool.true_and];rw[Bool.and_assoc,Bool.and_assoc];have hnm':=hnm;revert hnm';generalize (s.named==((t.nd i).text != []))=a1;generalize (!s.named||zQ (t.nd i).text)=a2;generalize (dX (t.nd i).kind==zQ (t.nd i).text)=a3;generalize (dX (t.nd i).kind||(t.nd i).text==[])=a4;generalize zO (t.nd i).kind (t.nd i).n (t.nd i).kids.length=a5;generalize zw (t.nd i).kind (t.nd i).n=a6;generalize allK (t.nd i).kind (aY t i)=a7;generalize negs t i=a8;generalize decide (0≤(t.nd i).pos)=a9;generalize decide ((t.nd i).pos≤2000)=a10;intro h;revert h;revert a1 a2 a3 a4 a5 a6 a7 a8 a9 a10;decide
theorem rB:∀(l:List Int) (a b:Int),a≤b→l.Pairwise (· < ·)→(∀k∈l,a≤k∧k<b)→(l.length:Int)≤b-a
 | [],a,b,hab,_,h=>by simp;omega
 | x::l,a,b,hab,hp,h=>by
   obtain⟨h1,h2⟩:=List.pairwise_cons.1 hp;have hx:=h x (by simp);have:=rB l (x+1) b (by omega) h2 (fun k hk=>⟨by have:=h1 k hk;omega,(h k (by simp[hk])).2⟩);simp only[List.length_cons];omega
theorem Placed.kids_length{t:Tr}{S:List Int}(P:Placed t S){i:Nat}(hi:i<t.nodes.length):(t.nd i).kids.length≤i:=by
 have:=rB (t.nd i).kids 0 i (by omega) ?_ (fun k hk=>by have:=P.kid hi k hk;omega)
 ·omega
 ·have h:=P.asc hi
  rw[List.pairwise_iff_getElem]at h⊢;intro x y hx hy hxy;have h1:=h x y hx hy hxy;have h2:=P.kid hi _ (List.getElem_mem hy);omega
theorem Placed.kidsIn{t:Tr}{S:List Int}(P:Placed t S){i:Nat}(hi:i<t.nodes.length):(t.nd i).kids.all (fun k=>zv k 0 ((i:Int)-1))=true:=by
 rw[List.all_eq_true];intro k hk;have:=P.kid hi k hk;rw[inRange_iff];omega
theorem Good.sized{t:Tr}{S:List Int}(G:Good t S){i:Nat}(hi:i<t.nodes.length):dY t i=iU t i:=by
 have hm:=G.many hi;unfold dY iU;split
 ·rw[Bool.eq_iff_iff];simp only[inRange_iff,Bool.and_eq_true,decide_eq_true_eq];omega
 split
 ·rfl
 split
 ·rfl
 split
 ·rfl
 split
 ·rfl
 split
 ·rename_i hk
  have hk:(t.nd i).kind=46:=by simpa using hk
  rw[hk]at hm;by_cases h8:(t.nd i).n=8
  ·simp[h8]
  ·have hle:(t.nd i).kids.length≤1:=by
    have e:zO 46 (t.nd i).n (t.nd i).kids.length=if (t.nd i).n==7 then ((t.nd i).kids.length:Int)==0 else if (t.nd i).n==8 then decide (1≤((t.nd i).kids.length:Int))else ((t.nd i).kids.length:Int)==1:=rfl;rw[e]at hm;by_cases h7:(t.nd i).n=7
    ·rw[h7]at hm
     simp at hm;simp[hm]
    ·rw[if_neg (by simpa using h7),if_neg (by simpa using h8)]at hm
     simp at hm;omega
   have e1:((t.nd i).n != 8)=true:=by simpa using h8
   have e2:decide (((t.nd i).kids.length:Int)≤4)=true:=by simp;omega
   rw[e1,e2];rfl
 ·rfl
theorem Good.signed{t:Tr}{S:List Int}(G:Good t S):cV t=true:=by
 unfold cV;rw[List.all_eq_true];intro i hi;have hi:=List.mem_range.1 hi;by_cases hneg:(t.nd i).kind=1∧(t.nd i).n<0
 ·rcases G.kidOrItem hi with h|⟨p,hp,h⟩
  ·have:=(G.item _ h).2.2.2.2
   rw[hneg.1]at this;cases this
  ·have hr:=G.right p hp
   simp only[cB,uI,Bool.and_eq_true]at hr;have h1:=List.all_eq_true.1 hr.2.2 _ h;have h40:(t.nd p).kind=40:=by simpa[hneg.1,hneg.2]using h1
   have hpi:(p:Int)∈t.items:=by
    rcases G.kidOrItem hp with h2|⟨q,hq,h2⟩
    ·exact h2
    ·have:=G.kidKind hq h2
     rw[h40]at this;cases this
   have:(t.items.any fun it=>(t.nd it).kind==40&&hasI (t.nd it).kids i)=true:=by
    rw[List.any_eq_true];refine⟨p,hpi,?_⟩;rw[h40];exact List.contains_iff_mem.2 h
   rw[this];simp
 ·have:((t.nd i).kind==1&&decide ((t.nd i).n<0))=false:=by
   rw[Bool.eq_false_iff];simpa using hneg
  rw[this];simp
theorem iJ(p:Nat→Bool)(n:Nat):0≤first p n 0↔((List.range n).all fun i=>!p i)=false:=by
 constructor
 ·intro h
  obtain⟨m,_,_,h3,h4⟩:=dT _ _ nlr h;rw[Bool.eq_false_iff];intro hc;have:=List.all_eq_true.1 hc m (List.mem_range.2 h3);rw[h4]at this;cases this
 ·intro h
  have key:∀(f k:Nat),n-k≤f→first p n k<0→∀j,k≤j→j<n→p j=false:=by
   intro f
   induction f with
   |zero=>intro k hf _ j h1 h2;omega
   | succ f ih=>
     intro k hf hlt j h1 h2
     cases hp:p k with
     |true=>rw[aE (by omega) hp]at hlt;omega
     | false=>
       rw[bR (by omega) hp]at hlt;by_cases e:j=k
       ·subst e;exact hp
       ·exact ih (k+1) (by omega) hlt j (by omega) h2
  by_cases hc:0≤first p n 0
  ·exact hc
  ·exfalso
   have:=key n 0 (by omega) (by omega);rw[Bool.eq_false_iff]at h;apply h;rw[List.all_eq_true];intro i hi;rw[this i (by omega) (List.mem_range.1 hi)];rfl
theorem yD{t:Tr}(rg:Rg t):eW t=aU t:=by
 unfold eW aU;by_cases hsz:800<t.nodes.length∨60<t.items.length
 ·rw[if_pos hsz,if_pos hsz]
 ·rw[if_neg hsz,if_neg hsz]
  cases hf:eD t with
  | true=>
    have G:=fS hf
    have h1:bS t=true:=by
     unfold bS;rw[List.all_eq_true];intro i hi;have hi:=List.mem_range.1 hi;have:=tZ (rg i hi) (by have:=G.kids_length hi;omega) (G.kidsIn hi);rw[G.right i hi,Bool.and_eq_true]at this;exact this.1
    have h2:(0≤zZ t) = ¬(gT t=true):=by
     unfold zZ;rw[iJ,gT]
     have:((List.range t.nodes.length).all fun i=>!!dY t i)=((List.range t.nodes.length).all fun i=>iU t i):=by
      rw[Bool.eq_iff_iff];simp only[List.all_eq_true,List.mem_range,Bool.not_not];exact⟨fun h i hi=>by rw[←G.sized hi];exact h i hi,fun h i hi=>by rw[G.sized hi];exact h i hi⟩
     rw[this];simp
    rw[h1,G.ordered,G.signed];simp only[h2,Bool.not_true,Bool.and_self,Bool.false_eq_true,if_false,if_true];split
    ·rfl
    ·cases gT t<;>simp
  | false=>
    have:¬(bS t=true∧aC t=true∧cV t=true):=by
     rintro⟨h1,h2,h3⟩;obtain⟨h4,h5⟩:=qH h2;have P:=uW (gV h4)
     have:kE t=true:=by
      unfold kE;rw[List.all_eq_true];intro i hi';have hi:=List.mem_range.1 hi';rw[←tZ (rg i hi) (by have:=P.kids_length hi;omega) (P.kidsIn hi),List.all_eq_true.1 h1 i hi',Bool.true_and];unfold negs;rw[List.all_eq_true];intro k hk;obtain⟨_,_,k3,k4⟩:=P.kid hi k hk;obtain⟨k,rfl⟩:=Int.eq_ofNat_of_zero_le k4;by_cases hneg:(t.nd k).kind=1∧(t.nd k).n<0
      ·have h6:=List.all_eq_true.1 h3 k (List.mem_range.2 (by omega))
       have h7:((t.nd k).kind==1&&decide ((t.nd k).n<0))=true:=by simpa using hneg
       rw[h7,Bool.not_true,Bool.false_or,List.any_eq_true]at h6;obtain⟨it,h8,h9⟩:=h6;rw[Bool.and_eq_true]at h9;obtain⟨_,h10,h11,h12,_⟩:=(nH P.one _ _ (by omega) h5).2 it (by simpa using h8) |>.imp id id
       obtain⟨it,rfl⟩:=Int.eq_ofNat_of_zero_le h12;have:=P.unique (by omega) hi (List.contains_iff_mem.1 h9.2) hk;subst this;have h40:(t.nd it).kind=40:=by simpa using h9.1
       rw[h40];simp
      ·have:((t.nd k).kind==1&&decide ((t.nd k).n<0))=false:=by
        rw[Bool.eq_false_iff];simpa using hneg
       rw[this];rfl
     rw[eD,this,h5,h4]at hf;simp at hf
    rw[if_neg Bool.false_ne_true]
    cases h1:bS t with
    |false=>rfl
    | true=>
      cases h2:aC t with
      |false=>rfl
      | true=>
        cases h3:cV t with
        |false=>rfl
        |true=>exact(this ⟨h1,h2,h3⟩).elim
theorem qC{W:World}{B:Nat}{av:Option Addr}{cv:Nat}{l:List Int}(hown:OwnI W B av cv l){ax:Option Addr}{m c:Nat}{news:List Int}(hr:Row 1 W ax m c (zo news))
 (hbytes:l.length+m≤4398046511104)(hB:B≤W.heap.size) :
 ∃a' c' w' l',(Builtin.append_ #[23,23] 23 #[.slice av l.length cv,.slice ax m c]).run prog W=.ok (.slice a' l'.length c') w'∧Hid (l'=l++news)∧l'.length=l.length+m∧OwnI w' B a' c' l'∧(∀B' A,B'≤B→Below B' A W→Below B' A w'):=by
 have hm:m=news.length:=by have:=hr.1;simpa using this.symm
 subst hm;obtain⟨i0,hi,hz0,hz1,hz2⟩:=info_parts lA;obtain⟨v',w',hrun,h2,h3⟩:=bP (P:=prog) W B 23 23 3 i0 (.int .i64 0) 1 8 bJ hi hz0 hz1 hz2 rfl (by decide) (.slice av l.length cv) l.length _ hown ax news.length c _ hr (gP _) (by unfold maxLen;omega) (by omega) hB;obtain⟨a',c',rfl,_⟩:=bG h2;have e:l.length+news.length=(l++news).length:=by simp
 have e2:zo l++zo news=zo (l++news):=by simp
 rw[e,e2]at h2;rw[e]at hrun;exact⟨a',c',w',l++news,hrun,Hd rfl,by simp,h2,dM hown h3 hB⟩
theorem uE{w:World}:Ints w none 0 []:=⟨rfl,nlr,fun _=>rfl,.inl rfl⟩
theorem oN{w wr:World}{v:TreeV}{t:Tr}{a:Option Addr}{c:Nat}{l:List Int}(hb:Below (w.heap.size+1+1) (boxN (boxT w v t) a c l) wr):wr.frozen? ⟨w.heap.size+1,0,none⟩=false:=by
 have h1:Below (boxN (boxT w v t) a c l).heap.size (boxN (boxT w v t) a c l) wr:=by simpa using hb
 exact((bcell h1).2 _ _ (by simp)).trans (by simp)
def eB(t:Tr):Nat→Nat→Option (Nat×Int)
 |0,_=>none
 |f+1,k=>if cI t k != 0 then some (k,cI t k)else eB t f (k+1)
def zc(t:Tr):List Int×Int×Int:=
 if aU t != 0 then ([],0,aU t)else
 match eB t t.nodes.length 0 with
 |some (k,e)=>([],k,e)
 |none=>((List.range t.nodes.length).map (fun k:Nat=>means t (k:Int)),0,0)
def kO(w:World)(p:List Int×Int×Int)(e:Ending)(w':World):Prop:=
 ∃a c,e=.returned (.tuple #[.agg #[.slice a p.1.length c],intV p.2.1,intV p.2.2])∧w'.ownsRow w.heap.size 3 1 (.slice a p.1.length c) p.1.length (zo p.1)∧Below w.heap.size w w'
theorem pR{w w':World}{p:List Int×Int×Int}{g:Nat}{a:Option Addr}{c:Nat}{A:Act}(hc:w'.cell? ⟨g,0,none⟩=some (.slice a p.1.length c))(h2:A.tmps.getD 2 undef=.pointer (some ⟨g,0,none⟩))
 (h3:A.tmps.getD 3 undef=intV p.2.1)(h4:A.tmps.getD 4 undef=intV p.2.2)(hd:A.defers=[])(ho:w'.ownsRow w.heap.size 3 1 (.slice a p.1.length c) p.1.length (zo p.1))(hb:Below w.heap.size w w') :
 bodyPost prog Tryz.f17 (kO w p) Exit.ret A w':=by
 refine bodyPost_ret (v:=.tuple #[.agg #[.slice a p.1.length c],intV p.2.1,intV p.2.2]) ?_ hd ⟨a,c,rfl,ho,hb⟩;simp only[Array.getD_eq_getD_getElem?]at h2 h3 h4;simp[results,results17,go_sem,loadVar,h2,h3,h4,hc,Result.andThen]
theorem dR(v:TreeV)(t:Tr)(w:World)(bd:Bd t)(wf:aU t=0→WF t)(h:IsTree w v t) :
 Calls prog 17 #[v.val t] w (kO w (zc t)):=by
 have hmo:prog.follows .mixedOrders=true:=by kernel_rfl
 have HT:=Hd h;have BD:=Hd bd;have HWF:=Hd wf;have hn3:=bd.n;clear h bd wf;obtain⟨na,nc,ia,ic⟩:=v;unfold TreeV.val;obtain⟨E,hE⟩:∃E,E=aU t:=⟨_,rfl⟩
 cases hx:(E != 0)with
 | true=>
   have HE:=Hd hE;have HX:=Hd hx;clear hE;go_enter func17,ntmps17
   go_wp2_with (go_at_call 52;refine(qJ ⟨na,nc,ia,ic⟩ t _ BD.out (HT.out.mono (((Below.refl _ w).alloc nlr _).alloc (by simp) _) nlr)).mono ?_;rw[←HE.out];rintro e w1 ⟨rfl,hb1⟩;have HB1:=Hd (show Below (w.heap.size+1+1) (boxN (boxT w ⟨na,nc,ia,ic⟩ t) none 0 []) w1 from hb1.mono (by simp));obtain⟨b0,b1,b2,-,-,⟨hs,hs1,hs2,hs3⟩,hbw⟩:=cQ HB1.out HT.out uE;have f2:=oN HB1.out;clear hb1)
   have hres:zc t=([],0,E):=by unfold zc;rw[←HE.out,HX.out];rfl
   rw[hres];exact pR (p:=([],0,E)) (a:=none) (c:=0) (World.cell?_setCell_same _ _ _ b2) rfl rfl rfl rfl ⟨rfl,.inl ⟨rfl,rfl⟩⟩ (hbw.setCell (by simp) _)
 | false=>
   have HE:=Hd hE;have HX:=Hd hx;clear hE;go_enter func17,ntmps17
   go_wp2_with (go_at_call 52;refine(qJ ⟨na,nc,ia,ic⟩ t _ BD.out (HT.out.mono (((Below.refl _ w).alloc nlr _).alloc (by simp) _) nlr)).mono ?_;rw[←HE.out];rintro e w1 ⟨rfl,hb1⟩;have HB1:=Hd (show Below (w.heap.size+1+1) (boxN (boxT w ⟨na,nc,ia,ic⟩ t) none 0 []) w1 from hb1.mono (by simp));obtain⟨b0,b1,b2,-,-,⟨hs,hs1,hs2,hs3⟩,hbw⟩:=cQ HB1.out HT.out uE;have f2:=oN HB1.out;clear hb1)
   have h0:E=0:=by simpa using HX.out
   have WFH:=Hd (HWF.out (HE.out.symm.trans h0));have HRES:=Hd (show zc t=(match eB t t.nodes.length 0 with|some (k,e)=>([],(k:Int),e)|none=>((List.range t.nodes.length).map (fun k:Nat=>means t (k:Int)),0,0))from by unfold zc;rw[←HE.out,h0];rfl);clear h0
   go_loopw [7] (fun t7 wr=>∃(k:Nat) (av:Option Addr) (cv:Nat) (q:List Int),t7=.int .i64 k∧k≤t.nodes.length∧q.length=k∧Hid (q=(List.range k).map (fun k:Nat=>means t (k:Int)))∧Hid (eB t t.nodes.length 0=eB t (t.nodes.length-k) k) ∧
    Hid (OwnI wr (w1.heap.size+1) av cv q)∧Hid (wr.cell? ⟨w1.heap.size,0,none⟩=some (.slice av q.length cv))∧Hid (wr.frozen? ⟨w1.heap.size,0,none⟩=false)∧Hid (w1.heap.size+1≤wr.heap.size)∧Hid (Below w1.heap.size w1 wr)) (fun i _=>t.nodes.length-(intOf i).toNat)
   case atStart=>
    exact⟨0,none,0,[],rfl,Nat.zero_le _,rfl,Hd rfl,Hd (by simp),Hd ⟨rfl,.inl ⟨rfl,rfl⟩⟩,Hd (by simp),Hd (by simp),Hd (by simp),Hd (brf.alloc nlr _)⟩
   case round=>
    obtain⟨k,av,cv,q,rfl,hk,hq,HQ,HER,HO,HC,HF,HSZ,HBW⟩:=hrel;obtain⟨hcB,hfB⟩:=bcell HBW.out;have hsz:=HSZ.out;have hbw0:Below w.heap.size w wr:=hbw.trans (HBW.out.mono hs2);have HB0:=Hd hbw0;have hg:=HC.out;have hgf:=HF.out;clear hbw0;by_cases hlt:k<t.nodes.length
    ·have HLT:=Hd hlt
     obtain⟨x,hx⟩:∃x,x=cI t k:=⟨_,rfl⟩
     have HXE:=Hd hx;clear hx;cases hx0:(x != 0)with
     | true=>
       have HX0:=Hd hx0
       go_wp2_with (go_at_call 53;refine(qW ⟨na,nc,ia,ic⟩ t k _ WFH.out HLT.out (HT.out.mono HB0.out nlr)).mono ?_;rw[←HXE.out];rintro e w2 ⟨rfl,hb2⟩;obtain⟨hc2,hf2⟩:=bcell hb2;have e2:w2.cell? ⟨w.heap.size+1,0,none⟩=some (.slice none 0 0):=(hc2 _ _ (by omega)).trans ((hcB _ _ hs3).trans b2);have ef:w2.frozen? ⟨w.heap.size+1,0,none⟩=false:=(hf2 _ _ (by omega)).trans ((hfB _ _ hs3).trans f2))
       have hres:zc t=([],(k:Int),x):=by
        rw[HRES.out,HER.out];obtain⟨f,hf⟩:∃f,t.nodes.length-k=f+1:=⟨t.nodes.length-k-1,by have:=HLT.out;omega⟩
        rw[hf];simp only[eB];rw[←HXE.out,HX0.out];rfl
       rw[hres];exact pR (p:=([],(k:Int),x)) (a:=none) (c:=0) (World.cell?_setCell_same _ _ _ e2) rfl rfl rfl rfl ⟨rfl,.inl ⟨rfl,rfl⟩⟩ ((HB0.out.trans (hb2.mono (by omega))).setCell (by simp) _)
     | false=>
       have HX0:=Hd hx0
       go_wp2_with (go_at_call 53;refine(qW ⟨na,nc,ia,ic⟩ t k _ WFH.out HLT.out (HT.out.mono HB0.out nlr)).mono ?_;rw[←HXE.out];rintro e w2 ⟨rfl,hb2⟩;obtain⟨hc2,hf2⟩:=bcell hb2)
       have e6:w2.cell? ⟨w1.heap.size,0,none⟩=some (.slice av q.length cv):=(hc2 _ _ (by omega)).trans hg;have e6f:w2.frozen? ⟨w1.heap.size,0,none⟩=false:=(hf2 _ _ (by omega)).trans hgf;have e0:w2.cell? ⟨w.heap.size,0,none⟩=some (.slice na t.nodes.length nc):=(hc2 _ _ (by omega)).trans ((hcB _ _ hs1).trans b0);have e1:w2.cell? ⟨w.heap.size,1,none⟩=some (.slice ia t.items.length ic):=(hc2 _ _ (by omega)).trans ((hcB _ _ hs1).trans b1);have hz2:=hb2.size;have hT2:=HT.out.mono ((HB0.out.trans (hb2.mono (by omega))).drew) nlr;have HT2:=Hd hT2;have HO2:=Hd (zg HO.out hb2);refine(wpIn_wide (n:=0)).1 ?_;refine N.regionIn_L 4 hmo (by kernel_rfl) (by kernel_rfl) (by kernel_rfl) rfl (by kernel_rfl) (by kernel_rfl) (fun W=>Below (w1.heap.size+1) w2 W) (brf.drew) ?_;simp only[List.take_succ_cons,List.take_zero,List.drop_succ_cons,List.drop_zero];refine N.WalkL.cons ?v0 (N.Still.pure (by intro c e;cases e) rfl (fun _=>rfl) ?h0) ?r0;case h0=>intro W hJ;have j6:=(hJ.cell (p:=⟨w1.heap.size,0,none⟩) (by simp)).trans e6;have j0:=(hJ.cell (p:=⟨w.heap.size,0,none⟩) (by simp;omega)).trans e0;have j1:=(hJ.cell (p:=⟨w.heap.size,1,none⟩) (by simp;omega)).trans e1;go_simp;rfl
       simp only[N.pz];refine N.WalkL.cons ?v1 (N.Still.pure (by intro c e;cases e) rfl (fun _=>rfl) ?h1) ?r1;case h1=>intro W hJ;have j6:=(hJ.cell (p:=⟨w1.heap.size,0,none⟩) (by simp)).trans e6;have j0:=(hJ.cell (p:=⟨w.heap.size,0,none⟩) (by simp;omega)).trans e0;have j1:=(hJ.cell (p:=⟨w.heap.size,1,none⟩) (by simp;omega)).trans e1;go_simp;rfl
       simp only[N.pz];refine N.WalkL.cons ?v2 (N.Still.pure (by intro c e;cases e) rfl (fun _=>rfl) ?h2) ?r2;case h2=>intro W hJ;have j6:=(hJ.cell (p:=⟨w1.heap.size,0,none⟩) (by simp)).trans e6;have j0:=(hJ.cell (p:=⟨w.heap.size,0,none⟩) (by simp;omega)).trans e0;have j1:=(hJ.cell (p:=⟨w.heap.size,1,none⟩) (by simp;omega)).trans e1;go_simp;rfl
       simp only[N.pz];refine N.WalkL.cons ?v3 (N.Still.pure (by intro c e;cases e) rfl (fun _=>rfl) ?h3) ?r3;case h3=>intro W hJ;have j6:=(hJ.cell (p:=⟨w1.heap.size,0,none⟩) (by simp)).trans e6;have j0:=(hJ.cell (p:=⟨w.heap.size,0,none⟩) (by simp;omega)).trans e0;have j1:=(hJ.cell (p:=⟨w.heap.size,1,none⟩) (by simp;omega)).trans e1;go_simp;rfl
       simp only[N.pz];refine .nil ?_;refine N.TailW.call (f:=54) (args:=#[.agg #[.slice na t.nodes.length nc,.slice ia t.items.length ic],intV k]) (fun _=>trivial) rfl (by intro c e;cases e) rfl ?hcr ?hcc;case hcr=>go_simp;try rfl
       case hcc=>
        refine(callsIn_wide.2 (jB ⟨na,nc,ia,ic⟩ t k _ WFH.out HLT.out HT2.out)).mono ?_;rintro e w3⟨rfl,hb3⟩;have hz3:=hb3.size;simp only[World.size_drew]at hz3;have hJ3:Below (w1.heap.size+1) w2 w3:=((Below.refl _ w2).drew).trans (hb3.mono (by simp;omega));refine⟨_,rfl,(fun _=>hJ3),?_⟩;simp only[N.pz];have hJ4:=hJ3.alloc (by omega) (.cells #[intV (means t k)] 3);refine N.TailW.run (v:=.slice (some ⟨w3.heap.size,0,none⟩) 1 1) (w':=w3.alloc (.cells #[intV (means t k)] 3)) (by intro c e;cases e) rfl rfl ?hb (fun _=>hJ4) ?_;case hb=>go_simp;try rfl
        simp only[N.pz];obtain⟨a',c',w5,q',hrun,HQ',hq',hown',hkeep⟩:=qC (W:=w3.alloc (.cells #[intV (means t k)] 3)) (news:=[means t k]) ((zg (zg HO2.out ((Below.refl _ w2).drew)) hb3).alloc _) (zR w3 (intV (means t k)) 3) (by omega) (by simp;omega);have hJ5:=hkeep _ _ nlr hJ4;have HLQ:=Hd (hq'.trans (by rw[hq]));clear hq';rw[hq]at hrun;refine N.TailW.append rfl (.tmp 32) (.tmp 36) 23 rfl rfl rfl hrun (fun _=>hJ5) ?_;simp only[N.pz];refine N.TailW.run (v:=.pointer (some ⟨w1.heap.size,0,none⟩)) (w':=w5) (by intro c e;cases e) rfl rfl ?hfa (fun _=>hJ5) ?_;case hfa=>go_simp;try rfl
        simp only[N.pz];have e7:=(hJ5.cell (p:=⟨w1.heap.size,0,none⟩) (by simp)).trans e6;have e7f:=(hJ5.frozen (p:=⟨w1.heap.size,0,none⟩) (by simp)).trans e6f;refine N.TailW.skip (w':=w5.setCell ⟨w1.heap.size,0,none⟩ (.slice a' q'.length c')) (by intro c e;cases e) rfl rfl ?hst (fun h=>absurd rfl h) ?_;case hst=>go_simp;try rfl
        refine .nil ?_;have hz5:=hJ5.size;have HBW6:=Hd (show Below w1.heap.size w1 (w5.setCell ⟨w1.heap.size,0,none⟩ (.slice a' q'.length c'))from((HBW.out.trans (hb2.mono (by omega))).trans (hJ5.mono (by omega))).setCell (by simp) _);have HO6:=Hd (ownsRow_setCell_below hown' (a:=⟨w1.heap.size,0,none⟩) (by simp) (.slice a' q'.length c'));have HC6:=Hd (World.cell?_setCell_same w5 ⟨w1.heap.size,0,none⟩ (.slice a' q'.length c') e7);have HF6:=Hd (show(w5.setCell ⟨w1.heap.size,0,none⟩ (.slice a' q'.length c')).frozen? ⟨w1.heap.size,0,none⟩=false by rw[World.frozen?_setCell];exact e7f);generalize hW6:w5.setCell ⟨w1.heap.size,0,none⟩ (.slice a' q'.length c')=w6 at HBW6 HO6 HC6 HF6⊢;have HZ6:=Hd (show w1.heap.size+1≤w6.heap.size by rw[←hW6];simp;omega);clear hW6;go_wp2
        go_roundw
        case rel=>
         refine⟨k+1,a',c',q',by go_num,by omega,HLQ.out,Hd ?_,Hd ?_,HO6,HC6,HF6,HZ6,HBW6⟩
         ·rw[HQ'.out,HQ.out,List.range_succ,List.map_append];rfl
         ·rw[HER.out]
          obtain⟨f,hf⟩:∃f,t.nodes.length-k=f+1:=⟨t.nodes.length-k-1,by omega⟩
          have hf':t.nodes.length-(k+1)=f:=by omega
          rw[hf,hf'];simp only[eB];rw[←HXE.out,HX0.out];rfl
        case measure=>simp[intOf];omega
    ·obtain rfl:k=t.nodes.length:=by omega
     have k2:wr.cell? ⟨w.heap.size+1,0,none⟩=some (.slice none 0 0):=(hcB _ _ hs3).trans b2;have kf:wr.frozen? ⟨w.heap.size+1,0,none⟩=false:=(hfB _ _ hs3).trans f2;go_wp2
     have hres:zc t=(q,0,0):=by
      rw[HRES.out,HER.out,Nat.sub_self];simp only[eB];rw[HQ.out]
     rw[hres];exact pR (p:=(q,0,0)) (a:=av) (c:=cv) (by simp only;rw[hq];exact World.cell?_setCell_same _ _ _ k2) rfl rfl rfl rfl (aL (ownsRow_setCell_below HO.out (by simp;omega) _) (by omega)) (HB0.out.setCell (by simp) _)
def renB(l:List Int)(node:Int)(i:Nat):Bool:=(i:Int)==node||l.getD i 0==node
def renK(ns:List Nd)(l:List Int)(node:Int)(name:List UInt8)(k:Nat):List Nd:=ns.mapIdx fun i d=>if decide (i<k)&&renB l node i then { d with text:=name } else d
def renT(t:Tr)(l:List Int)(node:Int)(name:List UInt8):Tr:=⟨renK t.nodes l node name t.nodes.length,t.items⟩
theorem dO(ns:List Nd)(l:List Int)(node:Int)(name:List UInt8)(k:Nat):(renK ns l node name k).length=ns.length:=by simp[renK]
theorem lK(ns:List Nd)(l:List Int)(node:Int)(name:List UInt8)(k:Nat){i:Nat}(h:i<ns.length):(renK ns l node name k)[i]'(by rw[dO];exact h)=if decide (i<k)&&renB l node i then { ns[i]with text:=name } else ns[i]:=by simp[renK]
theorem aT(t:Tr)(l:List Int)(node:Int)(name:List UInt8):(renT t l node name).nodes.length=t.nodes.length:=dO _ _ _ _ _
theorem xN{t:Tr}{l:List Int}{node:Int}{name:List UInt8}(bd:Bd t)(hn:name.length≤1000000000):Bd (renT t l node name):=by
 refine⟨by rw[aT];exact bd.n,bd.i,fun d hd=>?_,fun d hd=>?_⟩
 ·obtain⟨i,hi,rfl⟩:=List.getElem_of_mem hd
  have hi':i<t.nodes.length:=by rw[aT]at hi;exact hi
  have hb:=bd.k _ (List.getElem_mem hi');simp only[renT];rw[lK _ _ _ _ _ hi'];split
  ·exact hb
  ·exact hb
 ·obtain⟨i,hi,rfl⟩:=List.getElem_of_mem hd
  have hi':i<t.nodes.length:=by rw[aT]at hi;exact hi
  have hb:=bd.s _ (List.getElem_mem hi');simp only[renT];rw[lK _ _ _ _ _ hi'];split
  ·exact hn
  ·exact hb
theorem dK(t:Tr):(zc t).1.length≤t.nodes.length:=by
 unfold zc;split
 ·simp
 ·split<;>simp
def cA(t:Tr)(l:List Int)(node:Int)(name:List UInt8):Option Tr:=
 if (zc (renT t l node name)).2.2 != 0 || !((zc (renT t l node name)).1==l)then none else some (renT t l node name)
theorem rC:∀(ns:List Nd) (ks:List (Option Addr×Nat)) (k:Nat) (hk:k<ns.length) (name:List UInt8),ks.length=ns.length→aB (ns.set k { ns[k]with text:=name }) ks=(aB ns ks).set (k*5+1) (strV name)
 |d::ns,a::ks,0,_,name,_=>by simp[aB,Nd.cells]
 | d::ns,a::ks,k+1,hk,name,h=>by
   simp only[List.set_cons_succ,aB,List.getElem_cons_succ];rw[rC ns ks k (by simpa using hk) name (by simpa using h)];have e:(k+1)*5+1=(d.cells a).length+(k*5+1):=by simp[Nd.cells];omega
   rw[e,List.set_append_right _ _ (by omega)];simp
 | [],_,_,hk,_,_=>by simp at hk
 |_::_,[],_,_,_,h=>by simp at h
theorem OwnN.setText{w:World}{B nb c:Nat}{ns:List Nd}{ks:List (Option Addr×Nat)}(h:OwnN w B (some ⟨nb,0,none⟩) c ns ks){k:Nat}(hk:k<ns.length)(name:List UInt8) :
 OwnN (w.setCell ⟨nb,k*5+1,none⟩ (strV name)) B (some ⟨nb,0,none⟩) c (ns.set k { ns[k]with text:=name }) ks:=by
 refine⟨by simp[h.len],?_,fun i hi hik=>?_⟩
 ·have:=(h.own.stored (k*5+1) (strV name)).1
  rw[←rC ns ks k hk name h.len]at this;simpa using this
 ·have hi':i<ns.length:=by simpa using hi
  have hkr:=h.kids i hi' hik
  have e:(ns.set k { ns[k]with text:=name })[i].kids=ns[i].kids:=by
   rw[List.getElem_set];split
   ·rename_i e;subst e;rfl
   ·rfl
  rw[e];exact⟨aA hkr.1 _ fun h0 x ex=>(hkr.2 h0 x ex).2 ⟨nb,0,none⟩ rfl,hkr.2⟩
theorem OwnN.at{w:World}{B c:Nat}{a:Option Addr}{ns:List Nd}{ks:List (Option Addr×Nat)}(h:OwnN w B a c ns ks)(h0:0<ns.length) :
 ∃nb,a=some ⟨nb,0,none⟩∧B≤nb∧nb<w.heap.size∧(∀j,w.frozen? ⟨nb,j,none⟩=false):=by
 rcases h.own.2 with⟨h',h1⟩|⟨g,cap,cur,h',hb,hg,_⟩
 ·have:=h.own.1
  rw[h1]at this;simp at this;omega
 ·simp only[Value.slice.injEq,true_and]at h'
  obtain⟨rfl,rfl⟩:=h';exact⟨g,rfl,hb,(Array.getElem?_eq_some_iff.1 hg).1,fun i=>h.own.frozenAt i⟩
abbrev boxW(w:World)(a:Option Addr)(n c:Nat)(a2:Option Addr)(m c2:Nat):World:=w.alloc (.cells #[.slice a n c,.slice a2 m c2] 25)
theorem sA(W:World)(a:Option Addr)(n c:Nat)(a2:Option Addr)(m c2:Nat){k:Nat}(hk:W.heap.size=k) :
 (boxW W a n c a2 m c2).cell? ⟨k,0,none⟩=some (.slice a n c)∧(boxW W a n c a2 m c2).cell? ⟨k,1,none⟩=some (.slice a2 m c2)∧∀j,(boxW W a n c a2 m c2).frozen? ⟨k,j,none⟩=false:=by
 subst hk;exact⟨by simp,by simp,by simp⟩
end
end Go.Proofs.YtipjhljnkocioaaGreatDoor
