/- Part of a proof. -/
import Derived.Test.YtcdkdiedphhdhaaGreatDoorK11
set_option maxRecDepth 100000
set_option maxHeartbeats 8000000
set_option linter.unusedVariables false
set_option linter.unusedSimpArgs false
namespace Go.Proofs.YtcdkdiedphhdhaaGreatDoor
section
open Go.RowKit
def eatI(t:Tr)(sizes:List Int):List Int->Int->Bool
 | [],p=>p == -1
 |k::r,p=>if decide (p<0)||k != p || !cQ (t.nd p).kind then false else eatI t sizes r (p-sizes.getD p.toNat 0)
def nK(t:Tr):Bool:=(List.range t.nodes.length).all fun i=>cM t i
def gO(t:Tr):Bool:=(dN t).length==t.nodes.length&&(nK t&&eatI t (dN t) t.items.reverse ((t.nodes.length:Int)-1))
theorem lJ{t:Tr}(h:(dN t).length=t.nodes.length):zI t t.nodes.length=some (dN t):=by
 unfold dN at *
 cases hx:zI t t.nodes.length with
 |some o=>rfl
 | none=>
   rw[hx]at h;have h0:t.nodes.length=0:=by simpa using h.symm
   rw[h0]at hx;cases hx
def jU(t:Tr):Bool:=(List.range t.nodes.length).all fun i=>eX t i
def aD(t:Tr):Int:=if 800<t.nodes.length\/60<t.items.length then 5 else if gO t then (if 30<aM t then 5 else if jU t then 0 else 3)else 4
theorem yV{t:Tr}(h:gO t=true):zI t t.nodes.length=some (dN t):=by
 simp only[gO,Bool.and_eq_true,beq_iff_eq]at h;exact lJ h.1
theorem pV{t:Tr}(h:gO t=true){i:Nat}(hi:i<t.nodes.length):cM t i=true:=by
 simp only[gO,Bool.and_eq_true]at h;exact List.all_eq_true.1 h.2.1 i (List.mem_range.2 hi)
theorem EG{t:Tr}(h:gO t=true){i:Nat}(hi:i<t.nodes.length):∀k∈(t.nd i).kids,0<=k/\k<(i:Int):=
 wQ (n:=t.nodes.length) (by rw[yV h];rfl) hi
theorem lG{t:Tr}{i:Nat}(h:cM t i=true):okK (t.nd i).kind=true/\eQ (t.nd i).kind=zG (t.nd i).text/\(eQ (t.nd i).kind=true\/(t.nd i).text=[])/\zC (t.nd i).kind (t.nd i).n (t.nd i).kids.length=true/\zA (t.nd i).kind (t.nd i).n=true/\0<=(t.nd i).pos/\(t.nd i).pos<=2000 /\
 ∀j,j<(t.nd i).kids.length->qM t (t.nd i) j=true:=by
 simp only[cM,Bool.and_eq_true,beq_iff_eq,Bool.or_eq_true,decide_eq_true_eq]at h;obtain⟨⟨⟨⟨⟨⟨⟨h1,h2⟩,h3⟩,h4⟩,h5⟩,h6⟩,h7⟩,h8⟩:=h;exact⟨h1,h2,h3,h4,h5,h6,h7,fun j hj=>List.all_eq_true.1 h8 j (List.mem_range.2 hj)⟩
theorem yW{t:Tr}(h:gO t=true){i:Nat}(hi:i<t.nodes.length)(hk:(t.nd i).kind=40) :
 ∃k0 k1:Nat,k0<t.nodes.length/\k1<t.nodes.length/\(t.nd i).kids=[(k0:Int),(k1:Int)] /\ -9999<=(t.nd k0).n/\(t.nd k0).n<=9999 /\ -9999<=(t.nd k1).n/\(t.nd k1).n<=9999:=by
 obtain⟨_,_,_,hm,_,_,_,ho⟩:=lG (pV h hi);have hc:=EG h hi;rw[hk]at hm;have hh:((t.nd i).kids.length:Int)=2:=by simpa[zC]using hm
 have hl:(t.nd i).kids.length=2:=by omega
 obtain⟨a,b,hf⟩:∃a b,(t.nd i).kids=[a,b]:=by
  match hx:(t.nd i).kids with
  | [a,b]=>exact⟨a,b,rfl⟩
  | []=>rw[hx]at hl;simp at hl
  | [_]=>rw[hx]at hl;simp at hl
  |_::_::_::_=>rw[hx]at hl;simp at hl
 rw[hf]at hc;have ha:=hc a (by simp);have hb:=hc b (by simp);obtain⟨k0,rfl⟩:=Int.eq_ofNat_of_zero_le ha.1;obtain⟨k1,rfl⟩:=Int.eq_ofNat_of_zero_le hb.1
 have num:∀(k:Nat) (j:Nat),k<i->j<2->(t.nd i).kids.getD j 0=(k:Int) -> -9999<=(t.nd k).n/\(t.nd k).n<=9999:=by
  intro k j hg hj he;have h1:=ho j (by omega);simp only[qM,he,Bool.and_eq_true,hk]at h1;have hd:(t.nd k).kind=1:=by simpa[kidK]using h1.1
  obtain⟨_,_,_,_,hn,_⟩:=lG (pV h (show k<t.nodes.length by omega));rw[hd]at hn;simpa[zA]using hn
 have n0:=num k0 0 (by omega) (by omega) (by rw[hf];rfl);have n1:=num k1 1 (by omega) (by omega) (by rw[hf];rfl);exact⟨k0,k1,by omega,by omega,hf,n0.1,n0.2,n1.1,n1.2⟩
def jI(t:Tr):Nat->Nat->Option (Nat×Int)
 |0,_=>none
 |f+1,k=>if bV t k != 0 then some (k,bV t k)else jI t f (k+1)
def zb(t:Tr):List Int×Int×Int:=
 if aD t != 0 then ([],0,aD t)else
 match jI t t.nodes.length 0 with
 |some (k,e)=>([],k,e)
 |none=>((List.range t.nodes.length).map (fun k:Nat=>means t (k:Int)),0,0)
def BG(w:World)(p:List Int×Int×Int)(e:Ending)(w':World):Prop:=
 ∃a c,e=.returned (.tuple #[.agg #[.slice a p.1.length c],intV p.2.1,intV p.2.2])/\w'.ownsRow w.heap.size 3 1 (.slice a p.1.length c) p.1.length (zq p.1)/\Below w.heap.size w w'
end
section
open Go Go.RowKit
def fI(t:Tr)(rec:List UInt8):Int:=(t.items.find? fun x=>(t.nd x).kind==41&&(t.nd x).text==rec).getD (-1)
def kQ(t:Tr):Nat->Int->List UInt8
 |0,_=>[]
 |f+1,i=>if (t.nd i).kind==30 then intT else if (t.nd i).kind==31 then zz else if (t.nd i).kind==32 then (t.nd i).text else bC (kQ t f ((t.nd i).kids.getD 0 0)) (t.nd i).n.toNat
def eZ(t:Tr)(i:Int):List UInt8:=kQ t (i.toNat+1) i
def pU(t:Tr)(rec:List UInt8):List (List UInt8):=if fI t rec<0 then []else (t.nd (fI t rec)).kids.map fun k=>(t.nd k).text
def gM(t:Tr)(rec:List UInt8):List (List UInt8):=if fI t rec<0 then []else (t.nd (fI t rec)).kids.map fun k=>eZ t ((t.nd k).kids.getD 0 0)
def sumO:List (Option Int)->Option Int
 | []=>some 0
 |x::l=>x.bind fun a=>(sumO l).map fun b=>a+b
def dP(t:Tr):Nat->List UInt8->Option Int
 |0,_=>none
 | f+1,k=>
   match aW k with
   |some (of,many)=>(dP t f of).map fun n=>min 10000 (many*n)
   |none=>if k==intT||k==zz then some 1 else sumO ((gM t k).map (dP t f))
def pT(t:Tr)(k field:List UInt8):List UInt8:=(((pU t k).zip (gM t k)).find? fun p=>p.1==field).elim [] (·.2)
def KB(t:Tr)(f:Int):List (List UInt8):=((t.nd f).kids.take ((t.nd f).kids.length-2)).map fun k=>eZ t ((t.nd k).kids.getD 0 0)
def KC(t:Tr)(f:Int):List UInt8:=eZ t ((t.nd f).kids.getD ((t.nd f).kids.length-2) 0)
def ofK(L:List (List UInt8))(i:Int):List UInt8:=L.getD i.toNat []
def sA(t:Tr)(L:List (List UInt8))(d:Int):List UInt8:=
 if (t.nd d).kind==40 then intT else if (t.nd d).kind==34 then eZ t ((t.nd d).kids.getD 0 0)else ofK L ((t.nd d).kids.getD 0 0)
def oH(k:Int):Option (List (List UInt8)×List UInt8):=
 if k==1 then some ([],intT)else if k==2 then some ([],zz)else if k==4 then some ([intT],intT)else if k==5 then some ([zz],zz)
 else if decide (6<=k)&&decide (k<=10)then some ([intT,intT],intT)else if decide (13<=k)&&decide (k<=16)then some ([intT,intT],zz)
 else if k==17||k==18 then some ([zz,zz],zz)else none
def lC(t:Tr)(L:List (List UInt8))(d:Nd):List (List UInt8):=d.kids.map fun k=>ofK L (if (t.nd k).kind==25 then (t.nd k).kids.getD 0 0 else k)
def JA(t:Tr)(d:Nd)(kids:List (List UInt8)):List UInt8:=
 if d.kind==22 then pT t (kids.getD 0 []) d.text
 else if d.kind==23 then (match aW (kids.getD 0 [])with|some (of,_)=>if kids.getD 1 []==intT then of else []|none=>[])
 else if d.kind==24 then (if pU t d.text==d.kids.map (fun k=>(t.nd k).text)&&gM t d.text==kids then d.text else [])
 else if (kids.drop 1).all (fun k=>k==kids.getD 0 [])then bC (kids.getD 0 []) kids.length else []
def ofAt(t:Tr)(L:List (List UInt8))(i:Int):List UInt8:=
 match oH (t.nd i).kind with
 |some (want,own)=>if want==lC t L (t.nd i)then own else []
 | none=>
   if (t.nd i).kind==3 then sA t L (means t i)
   else if (t.nd i).kind==11||(t.nd i).kind==12 then (if (lC t L (t.nd i)).getD 0 []==(lC t L (t.nd i)).getD 1 []&&((lC t L (t.nd i)).getD 0 []==intT||(lC t L (t.nd i)).getD 0 []==zz)then zz else [])
   else if (t.nd i).kind==19 then (if (lC t L (t.nd i)).getD 0 []==zz&&(lC t L (t.nd i)).getD 1 []==(lC t L (t.nd i)).getD 2 []then (lC t L (t.nd i)).getD 1 []else [])
   else if (t.nd i).kind==20 then (lC t L (t.nd i)).getD 1 []
   else if (t.nd i).kind==21 then (if KB t (means t i)==lC t L (t.nd i)then KC t (means t i)else [])
   else JA t (t.nd i) (lC t L (t.nd i))
def nY(t:Tr)(f:Nat)(k:List UInt8):Option Int:=(dP t f k).map fun n=>if 8<n then 5 else 0
def yK(n:Int)(k:List UInt8):Bool:=!((k != intT&&k != zz)||((n==4||n==5)&&k != intT)||(!(n==4||n==5)&&n != 8&&k != zz))
def errK(t:Tr)(f:Nat)(L:List (List UInt8))(i:Int):Option Int:=
 if zl (t.nd i).kind&&ofK L i==[]then some 11
 else if (t.nd i).kind==26 then nY t f (ofK L i)
 else if (t.nd i).kind==33 then nY t f (eZ t i)
 else if (t.nd i).kind==41 then nY t f (t.nd i).text
 else if (t.nd i).kind==42 then (if ofK L ((t.nd i).kids.getD ((t.nd i).kids.length-1) 0)==KC t i then some 0 else some 11)
 else if (t.nd i).kind==44 then (if ofK L ((t.nd i).kids.getD 0 0)==zz then some 0 else some 11)
 else if (t.nd i).kind==46 then (if (t.nd i).kids.all (fun k=>yK (t.nd i).n (ofK L k))then some 0 else some 11)
 else some 0
def ofTo(t:Tr):Nat->List (List UInt8)
 |0=>[]
 |k+1=>ofTo t k++[if zl (t.nd k).kind then ofAt t (ofTo t k) k else []]
theorem iR(t:Tr):∀k,(ofTo t k).length=k
 |0=>rfl
 |k+1=>by rw[ofTo,List.length_append,iR t k];rfl
theorem CL(t:Tr){i:Nat}:∀{k:Nat},i<k->(ofTo t k).getD i []=if zl (t.nd i).kind then ofAt t (ofTo t i) i else []
 |0,h=>by omega
 | k+1,h=>by
   rw[ofTo];by_cases e:i<k
   .rw[List.getD_eq_getElem?_getD,List.getElem?_append_left (by rw[iR];exact e),<-List.getD_eq_getElem?_getD]
    exact CL t e
   .obtain rfl:i=k:=by omega
    rw[List.getD_eq_getElem?_getD,List.getElem?_append_right (by rw[iR];exact nlr),iR];simp
def recT(t:Tr)(b:Nat)(k:List UInt8):Option Nat:=((List.range b).filter fun i:Nat=>(t.nd (i:Int)).kind==41&&(t.nd (i:Int)).text==k).getLast?
def capS{α:Type}(f:α->Option (Int×Bool)):List α->Int->Option Int
 | [],n=>some n
 |x::l,n=>(f x).bind fun r=>capS f l (min 10000 (n+r.1))
def zU(t:Tr)(L:List (List UInt8))(b:Nat):Nat->List UInt8->Option (Int×Bool)
 |0,_=>none
 | f+1,k=>
   if k==intT||k==zz then some (1,true)
   else match aW k with
    |some (of,m)=>(zU t L b f of).map fun r=>(min 10000 (r.1*m),r.2)
    | none=>match recT t b k with
      |none=>some (0,false)
      |some r=>(capS (fun kid=>zU t L b f (ofK L kid)) (t.nd r).kids 0).map fun n=>(n,true)
theorem lU{α:Type}{f g:α->Option (Int×Bool)}(h:∀x r,f x=some r->g x=some r):∀(l:List α) (n r:Int),capS f l n=some r->capS g l n=some r
 | [],_,_,e=>e
 | x::l,n,r,e=>by
   rw[capS]at e|-
   cases hf:f x with
   |none=>rw[hf]at e;cases e
   | some y=>
     rw[hf]at e;rw[h x y hf];exact lU h l _ _ e
theorem aG{t:Tr}{L:List (List UInt8)}{b:Nat}:∀(f g:Nat) (k:List UInt8) (r:Int×Bool),f<=g->zU t L b f k=some r->zU t L b g k=some r
 |0,_,_,_,_,e=>by cases e
 |f+1,0,_,_,h,_=>by omega
 | f+1,g+1,k,r,h,e=>by
   rw[zU]at e|-;split
   .rename_i hc;rwa[if_pos hc]at e
   .rename_i hc
    rw[if_neg hc]at e;split
    .rename_i of m he
     rw[he]at e;simp only at e
     cases hf:zU t L b f of with
     |none=>rw[hf]at e;cases e
     | some y=>
       rw[hf]at e;rw[aG f g of y (by omega) hf];exact e
    .rename_i he
     rw[he]at e;simp only at e;split
     .rename_i hr;rw[hr]at e;exact e
     .rename_i r' hr
      rw[hr]at e;simp only at e
      cases hf:capS (fun kid=>zU t L b f (ofK L kid)) (t.nd r').kids 0 with
      |none=>rw[hf]at e;cases e
      | some y=>
        rw[hf]at e;rw[lU (fun x r hx=>aG f g _ _ (by omega) hx) _ _ _ hf];exact e
def HasC(t:Tr)(L:List (List UInt8))(b:Nat)(k:List UInt8)(n:Int)(ok:Bool):Prop:=∃f,zU t L b f k=some (n,ok)
theorem HasC.unique{t:Tr}{L:List (List UInt8)}{b:Nat}{k:List UInt8}{n m:Int}{o p:Bool}(h:HasC t L b k n o)(h':HasC t L b k m p):n=m/\o=p:=by
 obtain⟨f,h⟩:=h;obtain⟨g,h'⟩:=h';have h1:=aG f (f+g) k _ (by omega) h;rw[aG g (f+g) k _ (by omega) h']at h1;cases h1
 exact⟨rfl,rfl⟩
def gZ(t:Tr)(L:List (List UInt8))(b:Nat)(rec field:List UInt8):List UInt8:=
 match recT t b rec with
 |none=>[]
 |some r=>((t.nd r).kids.find? fun k=>(t.nd k).text==field).elim [] (ofK L)
def dY(t:Tr)(L:List (List UInt8))(f:Int):List (List UInt8):=((t.nd f).kids.take ((t.nd f).kids.length-2)).map (ofK L)
def fB(t:Tr)(L:List (List UInt8))(f:Int):List UInt8:=ofK L ((t.nd f).kids.getD ((t.nd f).kids.length-2) 0)
def eP(t:Tr)(L:List (List UInt8))(d:Int):List UInt8:=
 if (t.nd d).kind==43||(t.nd d).kind==20 then ofK L ((t.nd d).kids.getD 0 0)else if (t.nd d).kind==34 then ofK L d else intT
def cW(t:Tr)(L:List (List UInt8))(put field:Int):Bool:=(t.nd put).text==(t.nd field).text&&ofK L put==ofK L field
def eqF(f:Int->Int->Bool):List Int->List Int->Bool
 | [],[]=>true
 |a::l,b::m=>f a b&&eqF f l m
 |_,_=>false
def areB(k:List UInt8)(l:List (List UInt8)):Bool:=l.all fun x=>x==k
def zS(t:Tr)(L:List (List UInt8))(b:Nat)(i:Int)(l:List (List UInt8)):List UInt8:=
 if (t.nd i).kind==21 then (if dY t L (means t i)==l then fB t L (means t i)else [])
 else if (t.nd i).kind==22 then gZ t L b (l.getD 0 []) (t.nd i).text
 else if (t.nd i).kind==23 then (match aW (l.getD 0 [])with|some (of,_)=>if l.getD 1 []==intT then of else []|none=>[])
 else if (t.nd i).kind==24 then (if eqF (cW t L) (t.nd i).kids (t.nd (means t i)).kids then (t.nd i).text else [])
 else if (t.nd i).kind==26 then (if areB (l.getD 0 []) l then bC (l.getD 0 []) l.length else [])
 else []
def aJ(t:Tr)(L:List (List UInt8))(b:Nat)(i:Int):List UInt8:=
 let k:=(t.nd i).kind
 let l:=(t.nd i).kids.map (ofK L)
 if k==1 then intT else if k==2 then zz else if k==3 then eP t L (means t i)
 else if k==4||k==6||k==7||k==8||k==9||k==10 then (if areB intT l then intT else [])
 else if k==5||k==17||k==18 then (if areB zz l then zz else [])
 else if k==11||k==12 then (if areB intT l||areB zz l then zz else [])
 else if k==13||k==14||k==15||k==16 then (if areB intT l then zz else [])
 else if k==19 then (if l.getD 0 []==zz&&l.getD 1 []==l.getD 2 []then l.getD 1 []else [])
 else if k==20 then l.getD 1 []
 else zS t L b i l
def typP(t:Tr)(L:List (List UInt8))(i:Nat):List UInt8:=
 let k:=(t.nd (i:Int)).kind
 if zl k then aJ t L i i
 else if k==30 then intT else if k==31 then zz else if k==32 then (t.nd (i:Int)).text
 else if k==25||k==34 then ofK L ((t.nd (i:Int)).kids.getD 0 0)
 else if k==33 then bC (ofK L ((t.nd (i:Int)).kids.getD 0 0)) (t.nd (i:Int)).n.toNat
 else []
def tysP(t:Tr):Nat->List (List UInt8)
 |0=>List.replicate t.nodes.length []
 |k+1=>(tysP t k).set k (typP t (tysP t k) k)
theorem jB(t:Tr):∀k,(tysP t k).length=t.nodes.length
 |0=>by simp[tysP]
 |k+1=>by rw[tysP,List.length_set,jB t k]
theorem sU(t:Tr){i k:Nat}(h:k<=i):(tysP t k).getD i []=[]:=by
 induction k with
 |zero=>rw[tysP,List.getD_eq_getElem?_getD,List.getElem?_replicate];split<;>rfl
 |succ k ih=>rw[tysP,List.getD_eq_getElem?_getD,List.getElem?_set_ne (by omega),<-List.getD_eq_getElem?_getD,ih (by omega)]
theorem FI(t:Tr){i:Nat}(hi:i<t.nodes.length):∀{k:Nat},i<k->(tysP t k).getD i []=typP t (tysP t i) i
 |0,h=>by omega
 | k+1,h=>by
   rw[tysP];by_cases e:i=k
   .subst e
    rw[List.getD_eq_getElem?_getD,List.getElem?_set_self (by rw[jB];exact hi)];rfl
   .rw[List.getD_eq_getElem?_getD,List.getElem?_set_ne (by omega),<-List.getD_eq_getElem?_getD]
    exact FI t hi (by omega)
def sZ(n:Int)(l:List (List UInt8)):Bool:=if n==4||n==5 then areB intT l else if n==8 then l.all (fun x=>x==intT||x==zz)else areB zz l
def cV(t:Tr)(L:List (List UInt8))(i:Nat):Option (List UInt8):=
 if (t.nd (i:Int)).kind==26||(t.nd (i:Int)).kind==33 then some (ofK L i)else if (t.nd (i:Int)).kind==41 then some (t.nd (i:Int)).text else none
def aR(t:Tr)(L:List (List UInt8))(i:Nat):Int:=
 let k:=(t.nd (i:Int)).kind
 let l:=(t.nd (i:Int)).kids.map (ofK L)
 if zl k then (if ofK L i==[]then 11 else 0)
 else if k==42 then (if l.getD (l.length-1) []==l.getD (l.length-2) []then 0 else 11)
 else if k==44 then (if l.getD 0 []==zz then 0 else 11)
 else if k==46 then (if sZ (t.nd (i:Int)).n l then 0 else 11)
 else 0
def recB(t:Tr)(i:Nat):Nat:=if (t.nd (i:Int)).kind==41 then i+1 else i
def errP(t:Tr)(f:Nat)(i:Nat):Option Int:=
 if aR t (tysP t (i+1)) i≠0 then some (aR t (tysP t (i+1)) i)
 else match cV t (tysP t (i+1)) i with
  |some k=>(zU t (tysP t (i+1)) (recB t i) f k).map fun r=>if 8<r.1 then 5 else 0
  |none=>some 0
end
section
open Go.RowKit
structure Placed (t:Tr) (S:List Int):Prop where
 bd:∀j,j<t.nodes.length->1<=S.getD j 0/\S.getD j 0<=j+1
 eat:∀i,i<t.nodes.length->eatK S (t.nd i).kids.reverse ((i:Int)-1)=some ((i:Int)-S.getD i 0)
theorem kH{o o':List Int}{m:Nat}(h:∀j,j<m->o.getD j 0=o'.getD j 0)(hb:∀j,j<m->1<=o.getD j 0):∀(l:List Int) (p:Int),p<m->eatK o l p=eatK o' l p
 | [],p,_=>rfl
 | k::l,p,hp=>by
   simp only[eatK];by_cases hc:(k != p||decide (p<0))=true
   .rw[if_pos hc,if_pos hc]
   .rw[if_neg hc,if_neg hc]
    simp only[Bool.or_eq_true,bne_iff_ne,ne_eq,decide_eq_true_eq,not_or,Classical.not_not]at hc;rw[<-h p.toNat (by omega)];have:=hb p.toNat (by omega);exact kH h hb l _ (by omega)
theorem jV{t:Tr}{n:Nat}{S:List Int}(h:zI t n=some S):∀i,i<=n->zI t i=some (S.take i):=by
 induction n generalizing S with
 | zero => intro i hi;obtain rfl:i=0:=by omega
           simp[zI]
 | succ n ih=>
   intro i hi;have hl:=bQ _ _ h;by_cases e:i=n+1
   .subst e;rw[h,List.take_of_length_le (by omega)]
   .have h':=h
    simp only[zI,Option.bind_eq_some_iff,Option.map_eq_some_iff]at h';obtain⟨o,h1,p,h2,rfl⟩:=h';rw[ih h1 i (by omega),List.take_append_of_le_length (by rw[bQ _ _ h1];omega)]
theorem wG{t:Tr}{S:List Int}(h:zI t t.nodes.length=some S):Placed t S:=by
 have hb:=dZ _ _ h;have hl:=bQ _ _ h;refine⟨hb,fun i hi=>?_⟩;have h1:=jV h (i+1) (by omega);simp only[zI,Option.bind_eq_some_iff,Option.map_eq_some_iff]at h1;obtain⟨o,h2,p,h3,h4⟩:=h1;have h5:=jV h i (by omega);rw[h5]at h2;obtain rfl:=Option.some.inj h2
 have hg:∀j,j<i->(S.take i).getD j 0=S.getD j 0:=fun j hj=>by
  rw[List.getD_eq_getElem?_getD,List.getElem?_take,if_pos hj,<-List.getD_eq_getElem?_getD]
 rw[<-kH hg (fun j hj=>by rw[hg j hj];exact(hb j (by omega)).1) _ _ (by omega),h3]
 have:S.getD i 0=(i:Int)-p:=by
  have:(S.take (i+1)).getD i 0=S.getD i 0:=by rw[List.getD_eq_getElem?_getD,List.getElem?_take,if_pos (by omega),<-List.getD_eq_getElem?_getD]
  rw[<-this,<-h4,List.getD_eq_getElem?_getD,List.getElem?_append_right (by simp;omega)];simp;rw[Nat.min_eq_left (by omega)];simp
 rw[this];congr 1;omega
def stt(S:List Int)(i:Int):Int:=i-S.getD i.toNat 0
theorem sD{S:List Int}:∀(l:List Int) (p q:Int),eatK S l p=some q->∀j,q<j->j<=p->∃k∈l,stt S k<j/\j<=k
 | [],p,q,h,j,h1,h2=>by simp[eatK]at h;omega
 | k::l,p,q,h,j,h1,h2=>by
   rw[eatK]at h;split at h
   .cases h
   .rename_i hc
    simp only[Bool.or_eq_true,bne_iff_ne,ne_eq,decide_eq_true_eq,not_or,Classical.not_not]at hc;obtain⟨rfl,hc⟩:=hc;by_cases hj:stt S k<j
    .exact⟨k,by simp,hj,h2⟩
    .obtain⟨k',h3,h4⟩:=sD l _ q h j h1 (by unfold stt at hj;omega)
     exact⟨k',by simp[h3],h4⟩
theorem tC{S:List Int}{m:Nat}(hb:∀j,j<m->1<=S.getD j 0):∀(l:List Int) (p q:Int),p<m->eatK S l p=some q->q<=p/\∀k∈l,q<=stt S k/\stt S k<k/\k<=p/\0<=k
 | [],p,q,hp,h=>by simp only[eatK,Option.some.injEq]at h;subst h;exact⟨Int.le_refl _,fun _ h=>by simp at h⟩
 | k::l,p,q,hp,h=>by
   rw[eatK]at h;split at h
   .cases h
   .rename_i hc
    simp only[Bool.or_eq_true,bne_iff_ne,ne_eq,decide_eq_true_eq,not_or,Classical.not_not]at hc;obtain⟨rfl,hc⟩:=hc;have h1:=hb k.toNat (by omega);obtain⟨h2,h3⟩:=tC hb l _ q (by omega) h;refine⟨by omega,fun x hx=>?_⟩;rcases List.mem_cons.1 hx with rfl|hx
    .exact⟨by unfold stt;omega,by unfold stt;omega,Int.le_refl _,by omega⟩
    .have:=h3 x hx
     exact⟨this.1,this.2.1,by omega,this.2.2.2⟩
theorem vJ{S:List Int}{m:Nat}(hb:∀j,j<m->1<=S.getD j 0):∀(l:List Int) (p q:Int),p<m->eatK S l p=some q->l.Pairwise (fun a b=>b<=stt S a)
 | [],p,q,hp,h=>.nil
 | k::l,p,q,hp,h=>by
   rw[eatK]at h;split at h
   .cases h
   .rename_i hc
    simp only[Bool.or_eq_true,bne_iff_ne,ne_eq,decide_eq_true_eq,not_or,Classical.not_not]at hc;obtain⟨rfl,hc⟩:=hc;have h1:=hb k.toNat (by omega);refine .cons (fun x hx=>?_) (vJ hb l _ q (by omega) h);obtain⟨_,h3⟩:=tC hb l _ q (by omega) h;exact(h3 x hx).2.2.1
section
variable {t : Tr} {S : List Int} (P : Placed t S)
include P
theorem Placed.one:∀j,j<t.nodes.length->1<=S.getD j 0:=fun j h=>(P.bd j h).1
theorem Placed.kid{i:Nat}(hi:i<t.nodes.length):∀k∈(t.nd i).kids,stt S i<=stt S k/\stt S k<k/\k<(i:Int)/\0<=k:=fun k hk=>by
 obtain⟨_,h⟩:=tC P.one _ _ _ (by omega) (P.eat i hi);have:=h k (by simpa using hk);refine⟨?_,this.2.1,by omega,this.2.2.2⟩;have:=this.1;simpa[stt]using this
theorem Placed.cover{i:Nat}(hi:i<t.nodes.length){j:Int}(h1:stt S i<j)(h2:j<i):∃k∈(t.nd i).kids,stt S k<j/\j<=k:=by
 obtain⟨k,h3,h4⟩:=sD _ _ _ (P.eat i hi) j (by simpa[stt]using h1) (by omega);exact⟨k,by simpa using h3,h4⟩
theorem Placed.asc{i:Nat}(hi:i<t.nodes.length):(t.nd i).kids.Pairwise (fun a b=>a<=stt S b):=by
 have:=vJ P.one _ _ _ (by omega) (P.eat i hi);rwa[List.pairwise_reverse]at this
theorem Placed.nest:∀(f:Nat) (k:Nat) (a:Nat),k<=f->k<t.nodes.length->stt S k<a->a<=k->stt S k<=stt S a
 | f,k,a,hf,hk,h1,h2=>by
   by_cases e:a=k
   .subst e;exact Int.le_refl _
   .obtain⟨c,hc,h3,h4⟩:=P.cover hk (j:=a) h1 (by omega)
    obtain⟨h5,h6,h7,h8⟩:=P.kid hk c hc;obtain⟨c,rfl⟩:=Int.eq_ofNat_of_zero_le h8
    cases f with
    |zero=>omega
    | succ f=>
      have:=Placed.nest f c a (by omega) (by omega) h3 (by omega);omega
theorem Placed.unique{a b:Nat}{j:Int}(ha:a<t.nodes.length)(hb:b<t.nodes.length)(h1:j∈(t.nd a).kids)(h2:j∈(t.nd b).kids):a=b:=by
 have key:∀a b:Nat,a<b->b<t.nodes.length->j∈(t.nd a).kids->j∈(t.nd b).kids->False:=by
  intro a b hd hb h1 h2;obtain⟨a1,a2,a3,a4⟩:=P.kid (by omega) j h1;obtain⟨b1,b2,b3,b4⟩:=P.kid hb j h2;obtain⟨c,hc,h3,h4⟩:=P.cover hb (j:=a) (by omega) (by omega);obtain⟨c1,c2,c3,c4⟩:=P.kid hb c hc;obtain⟨c,rfl⟩:=Int.eq_ofNat_of_zero_le c4;have hn:=P.nest c c a nlr (by omega) h3 (by omega);have hp:=P.asc hb;obtain⟨x,hx,ex⟩:=List.getElem_of_mem hc;obtain⟨y,hy,ey⟩:=List.getElem_of_mem h2;rw[List.pairwise_iff_getElem]at hp;rcases Nat.lt_trichotomy x y with h|h|h
  .have:=hp x y hx hy h
   rw[ex,ey]at this;omega
  .subst h
   rw[ex]at ey;omega
  .have:=hp y x hy hx h
   rw[ex,ey]at this;omega
 rcases Nat.lt_trichotomy a b with h|h|h
 .exact(key a b h hb h1 h2).elim
 .exact h
 .exact(key b a h ha h2 h1).elim
end
theorem oK{t:Tr}{S:List Int}{m:Nat}(hb:∀j,j<m->1<=S.getD j 0):∀(l:List Int) (p:Int),p<m->eatI t S l p=true -> -1<=p/\∀k∈l,-1<=stt S k/\stt S k<k/\k<=p/\0<=k/\cQ (t.nd k).kind=true
 | [],p,hp,h=>by simp[eatI]at h;simp;omega
 | k::l,p,hp,h=>by
   rw[eatI]at h;split at h
   .cases h
   .rename_i hc
    simp only[Bool.or_eq_true,bne_iff_ne,ne_eq,decide_eq_true_eq,not_or,Classical.not_not,Bool.not_eq_true',Bool.not_eq_false]at hc;obtain⟨⟨hc1,rfl⟩,hc3⟩:=hc;have h1:=hb k.toNat (by omega);obtain⟨h2,h3⟩:=oK hb l _ (by omega) h;refine⟨by omega,fun x hx=>?_⟩;rcases List.mem_cons.1 hx with rfl|hx
    .exact⟨by unfold stt;omega,by unfold stt;omega,Int.le_refl _,by omega,hc3⟩
    .have:=h3 x hx
     exact⟨this.1,this.2.1,by omega,this.2.2.2⟩
theorem sB{t:Tr}{S:List Int}:∀(l:List Int) (p:Int),eatI t S l p=true->∀j,0<=j->j<=p->∃k∈l,stt S k<j/\j<=k
 | [],p,h,j,h1,h2=>by simp[eatI]at h;omega
 | k::l,p,h,j,h1,h2=>by
   rw[eatI]at h;split at h
   .cases h
   .rename_i hc
    simp only[Bool.or_eq_true,bne_iff_ne,ne_eq,decide_eq_true_eq,not_or,Classical.not_not,Bool.not_eq_true',Bool.not_eq_false]at hc;obtain⟨⟨hc1,rfl⟩,hc3⟩:=hc;by_cases hj:stt S k<j
    .exact⟨k,by simp,hj,h2⟩
    .obtain⟨k',h3,h4⟩:=sB l _ h j h1 (by unfold stt at hj;omega)
     exact⟨k',by simp[h3],h4⟩
theorem vI{t:Tr}{S:List Int}{m:Nat}(hb:∀j,j<m->1<=S.getD j 0):∀(l:List Int) (p:Int),p<m->eatI t S l p=true->l.Pairwise (fun a b=>b<=stt S a)
 | [],p,hp,h=>.nil
 | k::l,p,hp,h=>by
   rw[eatI]at h;split at h
   .cases h
   .rename_i hc
    simp only[Bool.or_eq_true,bne_iff_ne,ne_eq,decide_eq_true_eq,not_or,Classical.not_not,Bool.not_eq_true',Bool.not_eq_false]at hc;obtain⟨⟨hc1,rfl⟩,hc3⟩:=hc;have h1:=hb k.toNat (by omega);refine .cons (fun x hx=>?_) (vI hb l _ (by omega) h);exact((oK hb l _ (by omega) h).2 x hx).2.2.1
structure Good (t:Tr) (S:List Int):Prop extends Placed t S where
 right:∀i,i<t.nodes.length->cM t i=true
 root:eatI t S t.items.reverse ((t.nodes.length:Int)-1)=true
theorem pY{t:Tr}(h:gO t=true):Good t (dN t):=by
 simp only[gO,Bool.and_eq_true,beq_iff_eq]at h;obtain⟨h1,h2,h3⟩:=h;exact⟨wG (lJ h1),fun i hi=>List.all_eq_true.1 h2 i (List.mem_range.2 hi),h3⟩
section
variable {t : Tr} {S : List Int} (G : Good t S)
include G
theorem Good.item:∀k∈t.items,-1<=stt S k/\stt S k<k/\k<(t.nodes.length:Int)/\0<=k/\cQ (t.nd k).kind=true:=fun k hk=>by
 have:=(oK G.one _ _ (by omega) G.root).2 k (by simpa using hk);exact⟨this.1,this.2.1,by omega,this.2.2.2⟩
theorem Good.items:t.items.Pairwise (fun a b=>a<=stt S b):=by
 have:=vI G.one _ _ (by omega) G.root;rwa[List.pairwise_reverse]at this
theorem Good.coverI{j:Int}(h0:0<=j)(h1:j<t.nodes.length):∃k∈t.items,stt S k<j/\j<=k:=by
 obtain⟨k,h3,h4⟩:=sB _ _ G.root j h0 (by omega);exact⟨k,by simpa using h3,h4⟩
theorem Good.kidOrItem{j:Nat}(hj:j<t.nodes.length):(j:Int)∈t.items\/∃i:Nat,i<t.nodes.length/\(j:Int)∈(t.nd i).kids:=by
 obtain⟨k,hk,h1,h2⟩:=G.coverI (j:=j) (by omega) (by omega);obtain⟨h3,h4,h5,h6,hz⟩:=G.item k hk;obtain⟨k,rfl⟩:=Int.eq_ofNat_of_zero_le h6;by_cases e:j=k
 .subst e;exact .inl hk
 .refine .inr ?_
  have ha:k<t.nodes.length:=by omega
  have hb:j<k:=by omega
  clear hk h3 h5 h6 e h2 h4 hz;revert h1 ha hb
  induction k using Nat.strongRecOn with
  | _ k ih=>
    intro h1 ha hb;obtain⟨c,hc,h7,h8⟩:=G.cover ha h1 (by omega);obtain⟨c1,c2,c3,c4⟩:=G.kid ha c hc;obtain⟨c,rfl⟩:=Int.eq_ofNat_of_zero_le c4;by_cases e:j=c
    .subst e;exact⟨k,ha,hc⟩
    .exact ih c (by omega) h7 (by omega) (by omega)
end
theorem oF{t:Tr}{i:Nat}(h:i<t.nodes.length):t.nd (i:Int)=t.nodes[i]:=t.nd_at h
theorem Good.parent_of{t:Tr}{S:List Int}(G:Good t S){i:Nat}{j:Int}(hi:i<t.nodes.length)(h:j∈(t.nd i).kids):parent t j=i:=by
 obtain⟨a1,a2,a3,a4⟩:=G.kid hi j h;obtain⟨j,rfl⟩:=Int.eq_ofNat_of_zero_le a4
 have ha:dR t.nodes (j:Int) i=true:=by
  simp only[dR,hasI,List.getElem?_eq_getElem hi,Option.map_some,Option.getD_some];rw[oF hi]at h;exact List.contains_iff_mem.2 h
 unfold parent
 have key:∀(f k:Nat),i-k<=f->k<=i->(j:Int)<k->first (dR t.nodes (j:Int)) t.nodes.length k=i:=by
  intro f
  induction f with
  | zero => intro k hf hk _;obtain rfl:k=i:=by omega
            exact zV hi ha
  | succ f ih=>
    intro k hf hk hd;by_cases e:k=i
    .subst e;exact zV hi ha
    .have hb:dR t.nodes (j:Int) k=false:=by
      rw[Bool.eq_false_iff];intro hc;simp only[dR,hasI,List.getElem?_eq_getElem (show k<t.nodes.length by omega),Option.map_some,Option.getD_some]at hc;have hc:=List.contains_iff_mem.1 hc;rw[<-oF]at hc;exact e (G.unique (by omega) hi hc h)
     rw[bW (by omega) hb];exact ih (k+1) (by omega) (by omega) (by omega)
 exact key i _ (by omega) (by omega) (by omega)
theorem zy{t:Tr}{j:Int}(h:0<=parent t j):∃i:Nat,parent t j=i/\i<t.nodes.length/\j∈(t.nd i).kids:=by
 obtain⟨m,h1,h2,h3,h4⟩:=eM _ _ nlr h;refine⟨m,h1,h3,?_⟩;simp only[dR,hasI,List.getElem?_eq_getElem h3,Option.map_some,Option.getD_some]at h4;rw[oF h3];exact List.contains_iff_mem.1 h4
theorem Good.kidKind{t:Tr}{S:List Int}(G:Good t S){i:Nat}{j:Int}(hi:i<t.nodes.length)(h:j∈(t.nd i).kids):cQ (t.nd j).kind=false:=by
 have hr:=G.right i hi;simp only[cM,iA,Bool.and_eq_true]at hr;obtain⟨x,hx,rfl⟩:=List.getElem_of_mem h;have:=List.all_eq_true.1 hr.2 x (List.mem_range.2 hx);simp only[qM,Bool.and_eq_true,List.getD_eq_getElem?_getD,List.getElem?_eq_getElem hx,Option.getD_some]at this;have h1:=this.1;revert h1;generalize (t.nd (t.nd i).kids[x]).kind=d;generalize (t.nd i).kind=k;intro h1;rw[Bool.eq_false_iff];intro hd;simp only[cQ,Bool.and_eq_true,decide_eq_true_eq]at hd;simp only[kidK,cG,zl]at h1;split at h1
 .simp at h1;omega
 split at h1
 .simp at h1;omega
 split at h1
 .simp at h1;omega
 split at h1
 .simp at h1;omega
 split at h1
 .split at h1
  .simp at h1;omega
  .split at h1
   .simp at h1;omega
   .simp at h1;omega
 .simp at h1;omega
theorem Good.noParent{t:Tr}{S:List Int}(G:Good t S){j:Int}(h:j∈t.items):parent t j = -1:=by
 by_cases hp:0<=parent t j
 .obtain⟨i,h1,h2,h3⟩:=zy hp
  have:=(G.item j h).2.2.2.2;rw[G.kidKind h2 h3]at this;cases this
 .have:=oL (p:=dR t.nodes j) (n:=t.nodes.length) _ (j+1).toNat nlr
  have : -1<=parent t j:=this;omega
theorem Good.parent_yes{t:Tr}{S:List Int}(G:Good t S){j:Nat}(hj:j<t.nodes.length)(h:(j:Int) ∉ t.items):0<=parent t j:=by
 rcases G.kidOrItem hj with h1|⟨i,h1,h2⟩
 .exact(h h1).elim
 .rw[G.parent_of h1 h2];omega
theorem Good.many{t:Tr}{S:List Int}(G:Good t S){i:Nat}(hi:i<t.nodes.length):zC (t.nd i).kind (t.nd i).n (t.nd i).kids.length=true:=by
 have hr:=G.right i hi;simp only[cM,Bool.and_eq_true]at hr;exact hr.1.1.1.1.2
theorem iV{t:Tr}(bd:Bd t)(h:aD t=0):WF t:=by
 have hf:gO t=true:=by
  unfold aD at h;split at h
  .cases h
  .split at h
   .assumption
   .cases h
 have G:=pY hf;refine⟨bd,fun i hi k hk=>?_,fun k hk=>?_,fun i hi hk=>?_,fun i hi hk=>?_,fun i hi hk=>?_⟩
 .rw[<-oF hi]at hk
  have:=G.kid hi k hk;omega
 .have:=G.item k hk
  omega
 .have:=G.many hi
  rw[oF hi,hk]at this;simp[zC]at this;omega
 .have:=G.many hi
  rw[oF hi,hk]at this;simp[zC]at this;omega
 .refine G.parent_yes hi fun hc=>?_
  have:=(G.item _ hc).2.2.2.2;rw[oF hi,hk]at this;cases this
end
section
open Go.RowKit
def goK(g:Int->Int->Option Int):List Int->Int->Option Int
 | [],p=>some p
 |k::l,p=>(g k p).bind (goK g l)
def dO(t:Tr):Nat->Int->Int->Int->Option Int
 |0,_,_,_=>none
 |f+1,i,d,p=>(goK (fun k q=>dO t f k (d+1) q) (t.nd i).kids p).bind fun m=>if i != m then none else if cQ (t.nd i).kind==(d==1)then some (m+1)else none
def ordF(t:Tr):List Int->Int->Option Int
 | [],p=>some p
 |i::l,p=>if decide (p<=i)&&decide (i<=(t.nodes.length:Int)-1)then (dO t (i+1).toNat i 1 p).bind (ordF t l)else none
def aC(t:Tr):Bool:=ordF t t.items 0==some (t.nodes.length:Int)
theorem tE(g:Int->Int->Option Int):∀(l:List Int) (k p:Int),goK g (l++[k]) p=(goK g l p).bind (g k)
 | [],k,p=>by simp[goK]
 | a::l,k,p=>by
   simp only[List.cons_append,goK]
   cases g a p with
   |none=>rfl
   |some m=>simp only[Option.bind_some];exact tE g l k m
theorem qO(t:Tr):∀(l:List Int) (k p:Int),ordF t (l++[k]) p=(ordF t l p).bind (fun q=>ordF t [k] q)
 | [],k,p=>by simp[ordF]
 | a::l,k,p=>by
   simp only[List.cons_append];rw[ordF,ordF];split
   .cases dO t (a+1).toNat a 1 p with
    |none=>rfl
    |some m=>simp only[Option.bind_some];exact qO t l k m
   .rfl
theorem wR{t:Tr}{a b:Nat}{o o':List Int}(h:zI t a=some o)(h':zI t b=some o')(hab:a<=b):∀j,j<a->o.getD j 0=o'.getD j 0:=by
 have:=jV h' a hab;rw[h]at this;obtain rfl:=Option.some.inj this;intro j hj;rw[List.getD_eq_getElem?_getD,List.getElem?_take,if_pos hj,<-List.getD_eq_getElem?_getD]
theorem oD(t:Tr):∀(f:Nat) (i d:Int) (p:Nat) (m:Int) (o:List Int),zI t p=some o->dO t f i d p=some m ->
 m=i+1/\(p:Int)<=i/\cQ (t.nd i).kind=(d==1)/\∃o',zI t m.toNat=some o'/\o'.getD i.toNat 0=i+1-p
 |0,i,d,p,m,o,ho,h=>by simp[dO]at h
 | f+1,i,d,p,m,o,ho,h=>by
   simp only[dO,Option.bind_eq_some_iff]at h;obtain⟨q,h1,h2⟩:=h
   have key:∀(l:List Int) (q:Int),goK (fun k q=>dO t f k (d+1) q) l p=some q->(p:Int)<=q/\∃o',zI t q.toNat=some o'/\eatK o' l.reverse (q-1)=some ((p:Int)-1):=by
    intro l
    induction hl:l.length generalizing l with
    | zero=>
      intro q hq;obtain rfl:=List.eq_nil_of_length_eq_zero hl;simp only[goK,Option.some.injEq]at hq;subst hq;exact⟨Int.le_refl _,o,by simpa using ho,by simp[eatK]⟩
    | succ n ih=>
      intro q hq;obtain⟨l',k,rfl⟩:∃l' k,l=l'++[k]:=⟨l.dropLast,l.getLast (by intro e;simp[e]at hl),(List.dropLast_concat_getLast _).symm⟩
      rw[tE,Option.bind_eq_some_iff]at hq;obtain⟨q1,hk,hm⟩:=hq;obtain⟨hp,o1,hb,hh⟩:=ih l' (by simpa using hl) q1 hk;obtain⟨q1,rfl⟩:=Int.eq_ofNat_of_zero_le (show 0<=q1 by omega);obtain⟨rfl,hle,_,o2,hf,hg⟩:=oD t f k (d+1) q1 q o1 (by simpa using hb) hm;refine⟨by omega,o2,hf,?_⟩;simp only[List.reverse_append,List.reverse_cons,List.reverse_nil,List.nil_append,List.cons_append,eatK];rw[if_neg (by simp;omega)];have e1:(k+1-1).toNat=k.toNat:=by omega
      rw[e1,hg,show k+1-1-(k+1-(q1:Int))=q1-1 by omega];have hd:=wR (a:=q1) (by simpa using hb) hf (by omega);rw[<-kH hd (fun j hj=>(dZ _ _ (by simpa using hb) j hj).1) _ _ (by omega),<-hh]
   obtain⟨hi,o',ha,he⟩:=key _ q h1;split at h2
   .cases h2
   .rename_i hc
    obtain rfl:i=q:=by simpa using hc
    split at h2
    .rename_i hc2
     obtain rfl:i+1=m:=by simpa using h2
     refine⟨rfl,hi,by simpa using hc2,?_⟩;obtain⟨i,rfl⟩:=Int.eq_ofNat_of_zero_le (show 0<=i by omega);refine⟨o'++[(i:Int)-((p:Int)-1)],?_,?_⟩
     .rw[show((i:Int)+1).toNat=i+1 by omega,zI]
      rw[show(i:Int).toNat=i from rfl]at ha;rw[ha];simp[he]
     .have hl:=bQ _ _ ha
      rw[List.getD_eq_getElem?_getD,List.getElem?_append_right (by omega),hl];simp;omega
    .cases h2
theorem AG(t:Tr):∀(l:List Int) (q:Int),ordF t l 0=some q->0<=q/\∃o,zI t q.toNat=some o/\eatI t o l.reverse (q-1)=true:=by
 intro l
 induction hl:l.length generalizing l with
 | zero=>
   intro q hq;obtain rfl:=List.eq_nil_of_length_eq_zero hl;simp only[ordF,Option.some.injEq]at hq;subst hq;exact⟨Int.le_refl _,[],by simp[zI],by simp[eatI]⟩
 | succ n ih=>
   intro q hq;obtain⟨l',k,rfl⟩:∃l' k,l=l'++[k]:=⟨l.dropLast,l.getLast (by intro e;simp[e]at hl),(List.dropLast_concat_getLast _).symm⟩
   rw[qO,Option.bind_eq_some_iff]at hq;obtain⟨q1,hj,ha⟩:=hq;obtain⟨hp,o1,hd,hi⟩:=ih l' (by simpa using hl) q1 hj;obtain⟨q1,rfl⟩:=Int.eq_ofNat_of_zero_le hp;simp only[ordF]at ha;split at ha
   .rename_i hc
    simp only[Bool.and_eq_true,decide_eq_true_eq]at hc;rw[Option.bind_eq_some_iff]at ha;obtain⟨q2,ha,hh⟩:=ha;simp only[Option.some.injEq]at hh;subst hh;obtain⟨rfl,hle,hk,o2,hf,hg⟩:=oD t _ k 1 q1 q2 o1 (by simpa using hd) ha;refine⟨by omega,o2,hf,?_⟩;simp only[List.reverse_append,List.reverse_cons,List.reverse_nil,List.nil_append,List.cons_append,eatI];have e1:(k+1-1:Int)=k:=by omega
    rw[e1,if_neg (by simp[hk];omega),hg,show k-(k+1-(q1:Int))=q1-1 by omega];have he:=wR (a:=q1) (by simpa using hd) hf (by omega)
    have hb:∀(l:List Int) (p:Int),p<q1->eatI t o1 l p=eatI t o2 l p:=by
     intro l
     induction l with
     |nil=>intro p _;rfl
     | cons x l ih2=>
       intro p hp;simp only[eatI];by_cases hc:(decide (p<0)||x != p || !cQ (t.nd p).kind)=true
       .rw[if_pos hc,if_pos hc]
       .rw[if_neg hc,if_neg hc]
        simp only[Bool.or_eq_true,bne_iff_ne,ne_eq,decide_eq_true_eq,not_or,Classical.not_not]at hc;rw[<-he p.toNat (by omega)];have:=(dZ _ _ (by simpa using hd) p.toNat (show p.toNat<q1 by omega)).1;exact ih2 _ (by omega)
    rw[<-hb _ _ (by omega)];exact hi
   .cases ha
theorem Good.walk{t:Tr}{S:List Int}(G:Good t S):∀(f:Nat) (i:Nat) (d:Int),i<f->i<t.nodes.length->cQ (t.nd i).kind=(d==1)->1<=d->dO t f i d (stt S i+1)=some ((i:Int)+1)
 |0,i,d,h,_,_,_=>by omega
 | f+1,i,d,h,hi,hk,hd=>by
   have key:∀(l:List Int) (p q:Int),p<t.nodes.length->(∀k∈l,dO t f k (d+1) (stt S k+1)=some (k+1))->eatK S l.reverse p=some q->goK (fun k q=>dO t f k (d+1) q) l (q+1)=some (p+1):=by
    intro l
    induction hl:l.length generalizing l with
    | zero=>
      intro p q _ _ he;obtain rfl:=List.eq_nil_of_length_eq_zero hl;simp only[List.reverse_nil,eatK,Option.some.injEq]at he;subst he;rfl
    | succ n ih=>
      intro p q hp hw he;obtain⟨l',k,rfl⟩:∃l' k,l=l'++[k]:=⟨l.dropLast,l.getLast (by intro e;simp[e]at hl),(List.dropLast_concat_getLast _).symm⟩
      simp only[List.reverse_append,List.reverse_cons,List.reverse_nil,List.nil_append,List.cons_append,eatK]at he;split at he
      .cases he
      .rename_i hc
       simp only[Bool.or_eq_true,bne_iff_ne,ne_eq,decide_eq_true_eq,not_or,Classical.not_not]at hc;obtain⟨rfl,hc⟩:=hc;have hb:=G.one k.toNat (by omega);rw[tE,ih l' (by simpa using hl) (k-S.getD k.toNat 0) q (by omega) (fun x hx=>hw x (by simp[hx])) he];simp only[Option.bind_some];exact hw k (by simp)
   simp only[dO];have he:=G.eat i hi;have hs:stt S i+1=(i:Int)-S.getD i 0+1:=by simp[stt]
   rw[hs,key (t.nd i).kids ((i:Int)-1) ((i:Int)-S.getD i 0) (by omega) (fun k hk=>?_) he]
   .simp only[Option.bind_some]
    rw[if_neg (by simp),if_pos (by simp[hk])];simp
   .obtain⟨h1,h2,h3,h4⟩:=G.kid hi k hk
    have ha:=G.kidKind hi hk;obtain⟨k,rfl⟩:=Int.eq_ofNat_of_zero_le h4;exact Good.walk G f k (d+1) (by omega) (by omega) (by rw[ha];symm;simp;omega) (by omega)
theorem Good.ordered{t:Tr}{S:List Int}(G:Good t S):aC t=true:=by
 have key:∀(l:List Int) (p:Int),p<t.nodes.length -> -1<=p->eatI t S l.reverse p=true->ordF t l 0=some (p+1):=by
  intro l
  induction hl:l.length generalizing l with
  | zero=>
    intro p _ _ he;obtain rfl:=List.eq_nil_of_length_eq_zero hl;simp only[List.reverse_nil,eatI,beq_iff_eq]at he;subst he;rfl
  | succ n ih=>
    intro p hp hd he;obtain⟨l',k,rfl⟩:∃l' k,l=l'++[k]:=⟨l.dropLast,l.getLast (by intro e;simp[e]at hl),(List.dropLast_concat_getLast _).symm⟩
    simp only[List.reverse_append,List.reverse_cons,List.reverse_nil,List.nil_append,List.cons_append,eatI]at he;split at he
    .cases he
    .rename_i hc
     simp only[Bool.or_eq_true,bne_iff_ne,ne_eq,decide_eq_true_eq,not_or,Classical.not_not,Bool.not_eq_true',Bool.not_eq_false]at hc;obtain⟨⟨hc,rfl⟩,ha⟩:=hc;have hb:=G.bd k.toNat (by omega);rw[qO,ih l' (by simpa using hl) (k-S.getD k.toNat 0) (by omega) (by omega) he];simp only[Option.bind_some,ordF];rw[if_pos (by simp only[Bool.and_eq_true,decide_eq_true_eq];omega)];obtain⟨k,rfl⟩:=Int.eq_ofNat_of_zero_le (show 0<=k by omega);have:=G.walk ((k:Int)+1).toNat k 1 (by omega) (by omega) (by rw[ha];rfl) (Int.le_refl _);rw[show(k:Int)-S.getD (k:Int).toNat 0+1=stt S k+1 from rfl,this];rfl
 have:=key _ _ (by omega) (by omega) G.root;unfold aC;rw[this];simp
theorem rK{t:Tr}(h:aC t=true):(dN t).length=t.nodes.length/\eatI t (dN t) t.items.reverse ((t.nodes.length:Int)-1)=true:=by
 obtain⟨_,o,h1,h2⟩:=AG t _ _ (by simpa[aC]using h);have h1:zI t t.nodes.length=some o:=by simpa using h1
 have:dN t=o:=by unfold dN;rw[h1];rfl
 rw[this];exact⟨bQ _ _ h1,h2⟩
inductive PK where
 |expr|kind|param|put|num
deriving DecidableEq
def PK.B:PK->Int->Bool
 |.expr=>zl
 |.kind=>cG
 |.param=>fun k=>k==34
 |.put=>fun k=>k==25
 |.num=>fun k=>k==1
abbrev Part:=Int×Int×PK
structure Shape where
 named:Bool
 lo:Int
 hi:Int
 parts:List Part
def askP(n:Int):Shape:=if n==7 then ⟨false,1,8,[]⟩else if n==8 then ⟨false,1,8,[(1,801,.expr)]⟩else ⟨false,1,8,[(1,1,.expr)]⟩
def fV(k n:Int):Option Shape:=
 if k==1 then some ⟨false,0,9999,[]⟩
 else if k==2 then some ⟨false,0,1,[]⟩
 else if k==3||k==32||k==45 then some ⟨true,0,0,[]⟩
 else if k==4||k==5 then some ⟨false,0,0,[(1,1,.expr)]⟩
 else if k==19 then some ⟨false,0,0,[(3,3,.expr)]⟩
 else if k==20 then some ⟨true,0,0,[(2,2,.expr)]⟩
 else if k==21 then some ⟨true,0,0,[(0,801,.expr)]⟩
 else if k==22||k==25||k==43||k==44 then some ⟨true,0,0,[(1,1,.expr)]⟩
 else if k==24 then some ⟨true,0,0,[(1,801,.put)]⟩
 else if k==26 then some ⟨false,0,0,[(1,801,.expr)]⟩
 else if k==30||k==31 then some ⟨false,0,0,[]⟩
 else if k==33 then some ⟨false,-9223372036854775808,9223372036854775807,[(1,1,.kind)]⟩
 else if k==34 then some ⟨true,0,0,[(1,1,.kind)]⟩
 else if k==40 then some ⟨true,0,0,[(2,2,.num)]⟩
 else if k==41 then some ⟨true,0,0,[(1,801,.param)]⟩
 else if k==42 then some ⟨true,0,9223372036854775807,[(0,801,.param),(1,1,.kind),(1,1,.expr)]⟩
 else if k==46 then some (askP n)
 else if (decide (6<=k)&&decide (k<=18))||k==23 then some ⟨false,0,0,[(2,2,.expr)]⟩
 else none
def zu(n lo hi:Int):Bool:=decide (lo<=n)&&decide (n<=hi)
theorem inRange_iff{n lo hi:Int}:zu n lo hi=true↔lo<=n/\n<=hi:=by simp[zu]
def leasts:List Part->Int
 | []=>0
 |p::r=>p.1+leasts r
def eN:List Part->List Int->Bool
 | [],ks=>ks.length==0
 | (lo,hi,k)::r,ks=>(zu ((ks.length:Int)-leasts r) lo hi&&(ks.take ((ks.length:Int)-leasts r).toNat).all k.B)&&eN r (ks.drop ((ks.length:Int)-leasts r).toNat)
def bK(t:Tr)(i:Nat):List Int:=(t.nd i).kids.map fun k=>(t.nd k).kind
def dC(t:Tr)(i:Nat):Bool:=
 match fV (t.nd i).kind (t.nd i).n with
 |none=>false
 |some s=>(zu (t.nd i).pos 0 2000&&(s.named==((t.nd i).text != []))&&(!s.named||zG (t.nd i).text))&&((t.nd i).kids.all (fun k=>zu k 0 ((i:Int)-1)) &&
  (eN s.parts (bK t i)&&(zu (t.nd i).n s.lo s.hi||(t.nd i).kind==1&&zu (t.nd i).n (-9999) (-1))))
def dG(t:Tr):Bool:=(List.range t.nodes.length).all fun i=>!((t.nd i).kind==1&&decide ((t.nd i).n<0))||t.items.any fun it=>(t.nd it).kind==40&&hasI (t.nd it).kids i
def eW(t:Tr)(i:Nat):Bool:=
 if (t.nd i).kind==40 then zu ((t.nd ((t.nd i).kids.getD 1 0)).n-(t.nd ((t.nd i).kids.getD 0 0)).n+1) 1 12
 else if (t.nd i).kind==41 then decide (((t.nd i).kids.length:Int)<=6)
 else if (t.nd i).kind==42 then decide (((t.nd i).kids.length:Int)-2<=4)&&decide ((t.nd i).n<=8)
 else if (t.nd i).kind==33 then zu (t.nd i).n 1 6
 else if (t.nd i).kind==26 then decide (((t.nd i).kids.length:Int)<=6)
 else if (t.nd i).kind==46 then (t.nd i).n != 8||decide (((t.nd i).kids.length:Int)<=4)
 else true
def aA(t:Tr):Int:=first (fun i=>!eW t i) t.nodes.length 0
def cD(t:Tr):Bool:=(List.range t.nodes.length).all fun i=>dC t i
def fQ(t:Tr):Int:=
 if 800<t.nodes.length\/60<t.items.length then 5
 else if !cD t then 4
 else if !(aC t&&dG t)then 4
 else if 30<aM t then 5
 else if 0<=aA t then 3 else 0
theorem bJ(ks:List Int):eN [] ks=(ks.length==0):=rfl
theorem zM(l m:Int)(p:PK)(ks:List Int):eN [(l,m,p)] ks=(zu ks.length l m&&ks.all p.B):=by
 simp only[eN,leasts,Int.sub_zero,Int.toNat_natCast,List.take_length,List.drop_length,List.length_nil];simp
theorem MI(ks:List Int):eN [(0,801,.param),(1,1,.kind),(1,1,.expr)] ks=true↔∃l a b,ks=l++[a,b]/\l.length<=801/\l.all (fun k=>k==34)=true/\cG a=true/\zl b=true:=by
 constructor
 .intro h
  simp only[eN,leasts,Bool.and_eq_true,inRange_iff]at h;obtain⟨⟨⟨h1,h2⟩,h3⟩,⟨⟨h4,h5⟩,h6⟩,⟨⟨h7,h8⟩,h9⟩,hb⟩:=h;obtain⟨n,hn⟩:∃n:Nat,ks.length=n+2:=⟨ks.length-2,by omega⟩
  have e1:((ks.length:Int)-(1+(1+0))).toNat=n:=by omega
  rw[e1]at h3 h4 h5 h6 h7 h8 h9 hb
  obtain⟨a,b,ha⟩:∃a b,ks.drop n=[a,b]:=by
   have hl:(ks.drop n).length=2:=by simp;omega
   match hx:ks.drop n,hl with
   | [a,b],_=>exact⟨a,b,rfl⟩
  rw[ha]at h6 h9;refine⟨ks.take n,a,b,by rw[<-ha,List.take_append_drop],by simp;omega,h3,by simpa[PK.B]using h6,by simpa[PK.B]using h9⟩
 .rintro⟨l,a,b,rfl,h1,h2,h3,h4⟩
  have e1:(((l++[a,b]).length:Int)-(1+(1+0))).toNat=l.length:=by simp
  have e2:(l++[a,b]).take l.length=l:=by simp
  have e3:(l++[a,b]).drop l.length=[a,b]:=by simp
  simp only[eN,leasts,e1,e2,e3,Bool.and_eq_true,inRange_iff];exact⟨⟨⟨by simp,by simp;omega⟩,h2⟩,⟨⟨by simp,by simp⟩,by simpa[PK.B]using h3⟩,⟨⟨by simp,by simp⟩,by simpa[PK.B]using h4⟩,by simp⟩
def allK(k:Int)(ks:List Int):Bool:=(List.range ks.length).all fun j=>kidK k ks.length j (ks.getD j 0)
theorem GU(p:Int->Bool)(ks:List Int):((List.range ks.length).all fun j=>p (ks.getD j 0))=ks.all p:=by
 rw[Bool.eq_iff_iff];simp only[List.all_eq_true,List.mem_range];constructor
 .intro h k hk
  obtain⟨j,hj,rfl⟩:=List.getElem_of_mem hk;have:=h j hj;simpa[hj]using this
 .intro h j hj
  have:=h ks[j] (List.getElem_mem hj);simpa[hj]using this
theorem zv{k:Int}{ks:List Int}(p:Int->Bool)(h:∀m j d:Int,kidK k m j d=p d):allK k ks=ks.all p:=by
 unfold allK;simp only[h];exact GU p ks
theorem oM{k:Int}(h:okK k=true):k=1\/k=2\/k=3\/k=4\/k=5\/k=6\/k=7\/k=8\/k=9\/k=10\/k=11\/k=12\/k=13\/k=14\/k=15\/k=16\/k=17\/k=18\/k=19\/k=20\/k=21\/k=22\/k=23\/k=24\/k=25\/k=26\/k=30\/k=31\/k=32\/k=33\/k=34\/k=40\/k=41\/k=42\/k=43\/k=44\/k=45\/k=46:=by
 simp[okK,zl,cG,cQ]at h;omega
theorem kN{k n:Int}(h:okK k=false):fV k n=none:=by
 have h':¬(okK k=true):=by rw[h];exact Bool.false_ne_true
 simp[okK,zl,cG,cQ]at h';unfold fV
 repeat rw[if_neg (by simp;omega)]
theorem GW(n:Int):(askP n).named=false:=by unfold askP;split<;>(try split)<;>rfl
theorem NP{k:Int}(n:Int)(h:okK k=true):∃s,fV k n=some s/\s.named=eQ k:=by
 rcases oM h with rfl|rfl|rfl|rfl|rfl|rfl|rfl|rfl|rfl|rfl|rfl|rfl|rfl|rfl|rfl|rfl|rfl|rfl|rfl|rfl|rfl|rfl|rfl|rfl|rfl|rfl|rfl|rfl|rfl|rfl|rfl|rfl|rfl|rfl|rfl|rfl|rfl|rfl
 all_goals exact⟨_,rfl,by first|rfl|exact GW n⟩
theorem PP(n:Int)(ks:List Int)(hl:ks.length<=801):(eN (askP n).parts ks&&(zu n (askP n).lo (askP n).hi||(46:Int)==1&&zu n (-9999) (-1)))=(zC 46 n ks.length&&zA 46 n&&allK 46 ks):=by
 have e:(askP n).lo=1/\(askP n).hi=8:=by unfold askP;split<;>(try split)<;>exact⟨rfl,rfl⟩
 rw[e.1,e.2,zv zl (by intro m j d;simp[kidK])];unfold askP;by_cases h7:n=7
 .subst h7
  cases ks with
  |nil=>simp[bJ,zC,zA,zu]
  |cons a r=>simp[bJ,zC];omega
 .by_cases h8:n=8
  .subst h8
   simp only[show((8:Int)==7)=false from rfl,show((8:Int)==8)=true from rfl,if_true,if_false,Bool.false_eq_true];rw[zM];simp only[PK.B];generalize ks.all _=A;cases A
   .simp
   .rw[Bool.eq_iff_iff];simp[zC,zA,inRange_iff];omega
  .simp only[show(n==7)=false by simpa using h7,show(n==8)=false by simpa using h8,if_false,Bool.false_eq_true]
   rw[zM];simp only[PK.B];generalize ks.all _=A;cases A
   .simp
   .rw[Bool.eq_iff_iff];simp[zC,zA,inRange_iff,h7,h8];omega
theorem PO(n:Int)(ks:List Int)(hl:ks.length<=801)(hn : -9223372036854775808<=n/\n<=9223372036854775807) :
 (eN [(0,801,.param),(1,1,.kind),(1,1,.expr)] ks&&(zu n 0 9223372036854775807||(42:Int)==1&&zu n (-9999) (-1)))=(zC 42 n ks.length&&zA 42 n&&allK 42 ks):=by
 have e1:(zu n 0 9223372036854775807||(42:Int)==1&&zu n (-9999) (-1))=zA 42 n:=by
  rw[Bool.eq_iff_iff];simp[zA,inRange_iff];omega
 rw[e1]
 have e2:eN [(0,801,.param),(1,1,.kind),(1,1,.expr)] ks=(zC 42 n ks.length&&allK 42 ks):=by
  rw[Bool.eq_iff_iff,MI];have hm:zC 42 n ks.length=decide (2<=(ks.length:Int)):=rfl;rw[hm,Bool.and_eq_true,decide_eq_true_eq];have hk:∀m j d:Int,kidK 42 m j d=if j==m-1 then zl d else if j==m-2 then cG d else d==34:=fun m j d=>by simp[kidK]
  constructor
  .rintro⟨l,a,b,rfl,h1,h2,h3,h4⟩
   refine⟨by simp;omega,?_⟩;unfold allK;simp only[List.all_eq_true,List.mem_range,hk];intro j hj;simp only[List.length_append,List.length_cons,List.length_nil]at hj|-;by_cases c1:j=l.length+1
   .subst c1
    rw[if_pos (by simp;omega)];simpa[List.getD_eq_getElem?_getD,List.getElem?_append_right]using h4
   .rw[if_neg (by simp;omega)]
    by_cases c2:j=l.length
    .subst c2
     rw[if_pos (by simp)];simpa[List.getD_eq_getElem?_getD,List.getElem?_append_right]using h3
    .rw[if_neg (by simp;omega)]
     have ha:j<l.length:=by omega
     rw[List.getD_eq_getElem?_getD,List.getElem?_append_left ha,List.getElem?_eq_getElem ha];exact List.all_eq_true.1 h2 _ (List.getElem_mem ha)
  .rintro⟨h1,h2⟩
   obtain⟨m,hm⟩:∃m:Nat,ks.length=m+2:=⟨ks.length-2,by omega⟩
   obtain⟨a,b,hd⟩:∃a b,ks.drop m=[a,b]:=by
    have hl:(ks.drop m).length=2:=by simp;omega
    match hx:ks.drop m,hl with
    | [a,b],_=>exact⟨a,b,rfl⟩
   have hb:ks=ks.take m++[a,b]:=by rw[<-hd,List.take_append_drop]
   have hc:(ks.take m).length=m:=by simp;omega
   unfold allK at h2;simp only[List.all_eq_true,List.mem_range,hk]at h2;refine⟨ks.take m,a,b,hb,by omega,?_,?_,?_⟩
   .rw[List.all_eq_true]
    intro x hx;obtain⟨j,hj,rfl⟩:=List.getElem_of_mem hx;have:=h2 j (by omega);rw[if_neg (by simp;omega),if_neg (by simp;omega)]at this;simpa[show j<ks.length by omega]using this
   .have:=h2 m (by omega)
    rw[if_neg (by simp;omega),if_pos (by simp;omega)]at this;rw[hb,List.getD_eq_getElem?_getD,List.getElem?_append_right (by omega),hc]at this;simpa using this
   .have:=h2 (m+1) (by omega)
    rw[if_pos (by simp;omega)]at this;rw[hb,List.getD_eq_getElem?_getD,List.getElem?_append_right (by omega),hc]at this;simpa using this
 rw[e2];cases zC 42 n ks.length<;>cases allK 42 ks<;>cases zA 42 n<;>rfl
theorem EV{k n:Int}{s:Shape}(hs:fV k n=some s)(ks:List Int)(hl:ks.length<=801)(hn : -9223372036854775808<=n/\n<=9223372036854775807) :
 (eN s.parts ks&&(zu n s.lo s.hi||k==1&&zu n (-9999) (-1)))=(zC k n ks.length&&zA k n&&allK k ks):=by
 have ha:okK k=true:=by
  cases h:okK k with
  |true=>rfl
  |false=>rw[kN h]at hs;cases hs
 have e1:∀a b:Int,zu n a b=true↔a<=n/\n<=b:=fun _ _=>inRange_iff;have hb:(ks.length:Int)<=801:=by omega
 rcases oM ha with rfl|rfl|rfl|rfl|rfl|rfl|rfl|rfl|rfl|rfl|rfl|rfl|rfl|rfl|rfl|rfl|rfl|rfl|rfl|rfl|rfl|rfl|rfl|rfl|rfl|rfl|rfl|rfl|rfl|rfl|rfl|rfl|rfl|rfl|rfl|rfl|rfl|rfl
 all_goals simp[fV]at hs
 all_goals try subst hs
 .cases ks with
  |nil=>rw[Bool.eq_iff_iff];simp[bJ,zC,zA,allK,inRange_iff];try omega
  |cons a r=>rw[bJ];simp[zC];try omega
 .cases ks with
  |nil=>rw[Bool.eq_iff_iff];simp[bJ,zC,zA,allK,inRange_iff];try omega
  |cons a r=>rw[bJ];simp[zC];try omega
 .cases ks with
  |nil=>rw[Bool.eq_iff_iff];simp[bJ,zC,zA,allK,inRange_iff];try omega
  |cons a r=>rw[bJ];simp[zC];try omega
 .rw[zM,zv zl (by intro m j d;simp[kidK])];simp only[PK.B];generalize ks.all _=A;cases A
  .simp
  .rw[Bool.eq_iff_iff];simp[zC,zA,inRange_iff];try omega
 .rw[zM,zv zl (by intro m j d;simp[kidK])];simp only[PK.B];generalize ks.all _=A;cases A
  .simp
  .rw[Bool.eq_iff_iff];simp[zC,zA,inRange_iff];try omega
 .rw[zM,zv zl (by intro m j d;simp[kidK])];simp only[PK.B];generalize ks.all _=A;cases A
  .simp
  .rw[Bool.eq_iff_iff];simp[zC,zA,inRange_iff];try omega
 .rw[zM,zv zl (by intro m j d;simp[kidK])];simp only[PK.B];generalize ks.all _=A;cases A
  .simp
  .rw[Bool.eq_iff_iff];simp[zC,zA,inRange_iff];try omega
 .rw[zM,zv zl (by intro m j d;simp[kidK])];simp only[PK.B];generalize ks.all _=A;cases A
  .simp
  .rw[Bool.eq_iff_iff];simp[zC,zA,inRange_iff];try omega
 .rw[zM,zv zl (by intro m j d;simp[kidK])];simp only[PK.B];generalize ks.all _=A;cases A
  .simp
  .rw[Bool.eq_iff_iff];simp[zC,zA,inRange_iff];try omega
 .rw[zM,zv zl (by intro m j d;simp[kidK])];simp only[PK.B];generalize ks.all _=A;cases A
  .simp
  .rw[Bool.eq_iff_iff];simp[zC,zA,inRange_iff];try omega
 .rw[zM,zv zl (by intro m j d;simp[kidK])];simp only[PK.B];generalize ks.all _=A;cases A
  .simp
  .rw[Bool.eq_iff_iff];simp[zC,zA,inRange_iff];try omega
 .rw[zM,zv zl (by intro m j d;simp[kidK])];simp only[PK.B];generalize ks.all _=A;cases A
  .simp
  .rw[Bool.eq_iff_iff];simp[zC,zA,inRange_iff];try omega
 .rw[zM,zv zl (by intro m j d;simp[kidK])];simp only[PK.B];generalize ks.all _=A;cases A
  .simp
  .rw[Bool.eq_iff_iff];simp[zC,zA,inRange_iff];try omega
 .rw[zM,zv zl (by intro m j d;simp[kidK])];simp only[PK.B];generalize ks.all _=A;cases A
  .simp
  .rw[Bool.eq_iff_iff];simp[zC,zA,inRange_iff];try omega
 .rw[zM,zv zl (by intro m j d;simp[kidK])];simp only[PK.B];generalize ks.all _=A;cases A
  .simp
  .rw[Bool.eq_iff_iff];simp[zC,zA,inRange_iff];try omega
 .rw[zM,zv zl (by intro m j d;simp[kidK])];simp only[PK.B];generalize ks.all _=A;cases A
  .simp
  .rw[Bool.eq_iff_iff];simp[zC,zA,inRange_iff];try omega
 .rw[zM,zv zl (by intro m j d;simp[kidK])];simp only[PK.B];generalize ks.all _=A;cases A
  .simp
  .rw[Bool.eq_iff_iff];simp[zC,zA,inRange_iff];try omega
 .rw[zM,zv zl (by intro m j d;simp[kidK])];simp only[PK.B];generalize ks.all _=A;cases A
  .simp
  .rw[Bool.eq_iff_iff];simp[zC,zA,inRange_iff];try omega
 .rw[zM,zv zl (by intro m j d;simp[kidK])];simp only[PK.B];generalize ks.all _=A;cases A
  .simp
  .rw[Bool.eq_iff_iff];simp[zC,zA,inRange_iff];try omega
 .rw[zM,zv zl (by intro m j d;simp[kidK])];simp only[PK.B];generalize ks.all _=A;cases A
  .simp
  .rw[Bool.eq_iff_iff];simp[zC,zA,inRange_iff];try omega
 .rw[zM,zv zl (by intro m j d;simp[kidK])];simp only[PK.B];generalize ks.all _=A;cases A
  .simp
  .rw[Bool.eq_iff_iff];simp[zC,zA,inRange_iff];try omega
 .rw[zM,zv zl (by intro m j d;simp[kidK])];simp only[PK.B];generalize ks.all _=A;cases A
  .simp
  .rw[Bool.eq_iff_iff];simp[zC,zA,inRange_iff];try omega
 .rw[zM,zv zl (by intro m j d;simp[kidK])];simp only[PK.B];generalize ks.all _=A;cases A
  .simp
  .rw[Bool.eq_iff_iff];simp[zC,zA,inRange_iff];try omega
 .rw[zM,zv (fun k=>k==25) (by intro m j d;simp[kidK])];simp only[PK.B];generalize ks.all _=A;cases A
  .simp
  .rw[Bool.eq_iff_iff];simp[zC,zA,inRange_iff];try omega
 .rw[zM,zv zl (by intro m j d;simp[kidK])];simp only[PK.B];generalize ks.all _=A;cases A
  .simp
  .rw[Bool.eq_iff_iff];simp[zC,zA,inRange_iff];try omega
 .rw[zM,zv zl (by intro m j d;simp[kidK])];simp only[PK.B];generalize ks.all _=A;cases A
  .simp
  .rw[Bool.eq_iff_iff];simp[zC,zA,inRange_iff];try omega
 .cases ks with
  |nil=>rw[Bool.eq_iff_iff];simp[bJ,zC,zA,allK,inRange_iff];try omega
  |cons a r=>rw[bJ];simp[zC];try omega
 .cases ks with
  |nil=>rw[Bool.eq_iff_iff];simp[bJ,zC,zA,allK,inRange_iff];try omega
  |cons a r=>rw[bJ];simp[zC];try omega
 .cases ks with
  |nil=>rw[Bool.eq_iff_iff];simp[bJ,zC,zA,allK,inRange_iff];try omega
  |cons a r=>rw[bJ];simp[zC];try omega
 .rw[zM,zv cG (by intro m j d;simp[kidK])];simp only[PK.B];generalize ks.all _=A;cases A
  .simp
  .rw[Bool.eq_iff_iff];simp[zC,zA,inRange_iff];try omega
 .rw[zM,zv cG (by intro m j d;simp[kidK])];simp only[PK.B];generalize ks.all _=A;cases A
  .simp
  .rw[Bool.eq_iff_iff];simp[zC,zA,inRange_iff];try omega
 .rw[zM,zv (fun k=>k==1) (by intro m j d;simp[kidK])];simp only[PK.B];generalize ks.all _=A;cases A
  .simp
  .rw[Bool.eq_iff_iff];simp[zC,zA,inRange_iff];try omega
 .rw[zM,zv (fun k=>k==34) (by intro m j d;simp[kidK])];simp only[PK.B];generalize ks.all _=A;cases A
  .simp
  .rw[Bool.eq_iff_iff];simp[zC,zA,inRange_iff];try omega
 .exact PO n ks hl hn
 .rw[zM,zv zl (by intro m j d;simp[kidK])];simp only[PK.B];generalize ks.all _=A;cases A
  .simp
  .rw[Bool.eq_iff_iff];simp[zC,zA,inRange_iff];try omega
 .rw[zM,zv zl (by intro m j d;simp[kidK])];simp only[PK.B];generalize ks.all _=A;cases A
  .simp
  .rw[Bool.eq_iff_iff];simp[zC,zA,inRange_iff];try omega
 .cases ks with
  |nil=>rw[Bool.eq_iff_iff];simp[bJ,zC,zA,allK,inRange_iff];try omega
  |cons a r=>rw[bJ];simp[zC];try omega
 .exact PP n ks hl
def negs(t:Tr)(i:Nat):Bool:=(t.nd i).kids.all fun k=>!((t.nd k).kind==1&&decide ((t.nd k).n<0)&&(t.nd i).kind != 40)
theorem vS(t:Tr)(i:Nat):iA t (t.nd i)=(allK (t.nd i).kind (bK t i)&&negs t i):=by
 rw[Bool.eq_iff_iff];have hg:∀j,j<(t.nd i).kids.length->(bK t i).getD j 0=(t.nd ((t.nd i).kids.getD j 0)).kind:=fun j hj=>by simp[bK,hj]
 have hl:(bK t i).length=(t.nd i).kids.length:=by simp[bK]
 simp only[iA,allK,negs,hl,Bool.and_eq_true,List.all_eq_true,List.mem_range,qM];constructor
 .intro h
  refine⟨fun j hj=>by rw[hg j hj];exact(h j hj).1,fun k hk=>?_⟩;obtain⟨j,hj,rfl⟩:=List.getElem_of_mem hk;have:=(h j hj).2;simpa[hj]using this
 .rintro⟨h1,h2⟩ j hj
  refine⟨by rw[<-hg j hj];exact h1 j hj,?_⟩;have:=h2 (t.nd i).kids[j] (List.getElem_mem hj);simpa[hj]using this
theorem sF:zG []=false:=rfl
theorem IU{l:List UInt8}(h:zG l=true):l≠[]:=by
 rintro rfl;rw[sF]at h;cases h
def Rg(t:Tr):Prop:=∀i,i<t.nodes.length -> -9223372036854775808<=(t.nd i).n/\(t.nd i).n<=9223372036854775807
theorem vN{t:Tr}{i:Nat}(rg : -9223372036854775808<=(t.nd i).n/\(t.nd i).n<=9223372036854775807)(hl:(t.nd i).kids.length<=801)(hk:(t.nd i).kids.all (fun k=>zu k 0 ((i:Int)-1))=true) :
 (dC t i&&negs t i)=cM t i:=by
 have hc:(bK t i).length=(t.nd i).kids.length:=by simp[bK]
 cases hok:okK (t.nd i).kind with
 |false=>simp[dC,kN hok,cM,hok]
 | true=>
   obtain⟨s,hs,hn⟩:=NP (t.nd i).n hok;have hf:=EV hs (bK t i) (by omega) rg;have hb:zu (t.nd i).pos 0 2000=(decide (0<=(t.nd i).pos)&&decide ((t.nd i).pos<=2000)):=rfl
   have hd:((s.named==((t.nd i).text != []))&&(!s.named||zG (t.nd i).text))=((eQ (t.nd i).kind==zG (t.nd i).text)&&(eQ (t.nd i).kind||(t.nd i).text==[])):=by
    rw[hn]
    cases eQ (t.nd i).kind with
    | true=>
      cases hx:zG (t.nd i).text with
      |false=>simp
      |true=>have:=IU hx;simp[this]
    | false=>
      by_cases he:(t.nd i).text=[]
      .rw[he,sF];rfl
      .have e1:((t.nd i).text==[])=false:=by simpa using he
       rw[show((t.nd i).text != []) = !((t.nd i).text==[])from rfl,e1];cases zG (t.nd i).text<;>rfl
   simp only[dC,hs,cM,hok,hk,vS,hf,hc,hb,Bool.true_and];rw[Bool.and_assoc,Bool.and_assoc];have ha:=hd;revert ha;generalize (s.named==((t.nd i).text != []))=a1;generalize (!s.named||zG (t.nd i).text)=a2;generalize (eQ (t.nd i).kind==zG (t.nd i).text)=a3;generalize (eQ (t.nd i).kind||(t.nd i).text==[])=a4;generalize zC (t.nd i).kind (t.nd i).n (t.nd i).kids.length=a5;generalize zA (t.nd i).kind (t.nd i).n=a6;generalize allK (t.nd i).kind (bK t i)=a7;generalize negs t i=a8;generalize decide (0<=(t.nd i).pos)=a9;generalize decide ((t.nd i).pos<=2000)=a10;intro h;revert h;revert a1 a2 a3 a4 a5 a6 a7 a8 a9 a10;decide
theorem rV:∀(l:List Int) (a b:Int),a<=b->l.Pairwise (· < ·)->(∀k∈l,a<=k/\k<b)->(l.length:Int)<=b-a
 | [],a,b,hab,_,h=>by simp;omega
 | x::l,a,b,hab,hp,h=>by
   obtain⟨h1,h2⟩:=List.pairwise_cons.1 hp;have hx:=h x (by simp);have:=rV l (x+1) b (by omega) h2 (fun k hk=>⟨by have:=h1 k hk;omega,(h k (by simp[hk])).2⟩);simp only[List.length_cons];omega
theorem Placed.kids_length{t:Tr}{S:List Int}(P:Placed t S){i:Nat}(hi:i<t.nodes.length):(t.nd i).kids.length<=i:=by
 have:=rV (t.nd i).kids 0 i (by omega) ?_ (fun k hk=>by have:=P.kid hi k hk;omega)
 .omega
 .have h:=P.asc hi
  rw[List.pairwise_iff_getElem]at h|-;intro x y hx hy ha;have h1:=h x y hx hy ha;have h2:=P.kid hi _ (List.getElem_mem hy);omega
theorem Placed.kidsIn{t:Tr}{S:List Int}(P:Placed t S){i:Nat}(hi:i<t.nodes.length):(t.nd i).kids.all (fun k=>zu k 0 ((i:Int)-1))=true:=by
 rw[List.all_eq_true];intro k hk;have:=P.kid hi k hk;rw[inRange_iff];omega
theorem Good.sized{t:Tr}{S:List Int}(G:Good t S){i:Nat}(hi:i<t.nodes.length):eW t i=eX t i:=by
 have hm:=G.many hi;unfold eW eX;split
 .rw[Bool.eq_iff_iff];simp only[inRange_iff,Bool.and_eq_true,decide_eq_true_eq];omega
 split
 .rfl
 split
 .rfl
 split
 .rfl
 split
 .rfl
 split
 .rename_i hk
  have hk:(t.nd i).kind=46:=by simpa using hk
  rw[hk]at hm;by_cases h8:(t.nd i).n=8
  .simp[h8]
  .have hle:(t.nd i).kids.length<=1:=by
    have e:zC 46 (t.nd i).n (t.nd i).kids.length=if (t.nd i).n==7 then ((t.nd i).kids.length:Int)==0 else if (t.nd i).n==8 then decide (1<=((t.nd i).kids.length:Int))else ((t.nd i).kids.length:Int)==1:=rfl;rw[e]at hm;by_cases h7:(t.nd i).n=7
    .rw[h7]at hm
     simp at hm;simp[hm]
    .rw[if_neg (by simpa using h7),if_neg (by simpa using h8)]at hm
     simp at hm;omega
   have e1:((t.nd i).n != 8)=true:=by simpa using h8
   have e2:decide (((t.nd i).kids.length:Int)<=4)=true:=by simp;omega
   rw[e1,e2];rfl
 .rfl
theorem Good.signed{t:Tr}{S:List Int}(G:Good t S):dG t=true:=by
 unfold dG;rw[List.all_eq_true];intro i hi;have hi:=List.mem_range.1 hi;by_cases hneg:(t.nd i).kind=1/\(t.nd i).n<0
 .rcases G.kidOrItem hi with h|⟨p,hp,h⟩
  .have:=(G.item _ h).2.2.2.2
   rw[hneg.1]at this;cases this
  .have hr:=G.right p hp
   simp only[cM,vS,Bool.and_eq_true]at hr;have h1:=List.all_eq_true.1 hr.2.2 _ h;have ha:(t.nd p).kind=40:=by simpa[hneg.1,hneg.2]using h1
   have hb:(p:Int)∈t.items:=by
    rcases G.kidOrItem hp with h2|⟨q,hq,h2⟩
    .exact h2
    .have:=G.kidKind hq h2
     rw[ha]at this;cases this
   have:(t.items.any fun it=>(t.nd it).kind==40&&hasI (t.nd it).kids i)=true:=by
    rw[List.any_eq_true];refine⟨p,hb,?_⟩;rw[ha];exact List.contains_iff_mem.2 h
   rw[this];simp
 .have:((t.nd i).kind==1&&decide ((t.nd i).n<0))=false:=by
   rw[Bool.eq_false_iff];simpa using hneg
  rw[this];simp
theorem gF(p:Nat->Bool)(n:Nat):0<=first p n 0↔((List.range n).all fun i=>!p i)=false:=by
 constructor
 .intro h
  obtain⟨m,_,_,h3,h4⟩:=eM _ _ nlr h;rw[Bool.eq_false_iff];intro hc;have:=List.all_eq_true.1 hc m (List.mem_range.2 h3);rw[h4]at this;cases this
 .intro h
  have key:∀(f k:Nat),n-k<=f->first p n k<0->∀j,k<=j->j<n->p j=false:=by
   intro f
   induction f with
   |zero=>intro k hf _ j h1 h2;omega
   | succ f ih=>
     intro k hf ha j h1 h2
     cases hp:p k with
     |true=>rw[zV (by omega) hp]at ha;omega
     | false=>
       rw[bW (by omega) hp]at ha;by_cases e:j=k
       .subst e;exact hp
       .exact ih (k+1) (by omega) ha j (by omega) h2
  by_cases hc:0<=first p n 0
  .exact hc
  .exfalso
   have:=key n 0 (by omega) (by omega);rw[Bool.eq_false_iff]at h;apply h;rw[List.all_eq_true];intro i hi;rw[this i (by omega) (List.mem_range.1 hi)];rfl
theorem BJ{t:Tr}(rg:Rg t):fQ t=aD t:=by
 unfold fQ aD;by_cases hsz:800<t.nodes.length\/60<t.items.length
 .rw[if_pos hsz,if_pos hsz]
 .rw[if_neg hsz,if_neg hsz]
  cases hf:gO t with
  | true=>
    have G:=pY hf
    have h1:cD t=true:=by
     unfold cD;rw[List.all_eq_true];intro i hi;have hi:=List.mem_range.1 hi;have:=vN (rg i hi) (by have:=G.kids_length hi;omega) (G.kidsIn hi);rw[G.right i hi,Bool.and_eq_true]at this;exact this.1
    have h2:(0<=aA t) = ¬(jU t=true):=by
     unfold aA;rw[gF,jU]
     have:((List.range t.nodes.length).all fun i=>!!eW t i)=((List.range t.nodes.length).all fun i=>eX t i):=by
      rw[Bool.eq_iff_iff];simp only[List.all_eq_true,List.mem_range,Bool.not_not];exact⟨fun h i hi=>by rw[<-G.sized hi];exact h i hi,fun h i hi=>by rw[G.sized hi];exact h i hi⟩
     rw[this];simp
    rw[h1,G.ordered,G.signed];simp only[h2,Bool.not_true,Bool.and_self,Bool.false_eq_true,if_false,if_true];split
    .rfl
    .cases jU t<;>simp
  | false=>
    have:¬(cD t=true/\aC t=true/\dG t=true):=by
     rintro⟨h1,h2,h3⟩;obtain⟨h4,h5⟩:=rK h2;have P:=wG (lJ h4)
     have:nK t=true:=by
      unfold nK;rw[List.all_eq_true];intro i ha;have hi:=List.mem_range.1 ha;rw[<-vN (rg i hi) (by have:=P.kids_length hi;omega) (P.kidsIn hi),List.all_eq_true.1 h1 i ha,Bool.true_and];unfold negs;rw[List.all_eq_true];intro k hk;obtain⟨_,_,k3,k4⟩:=P.kid hi k hk;obtain⟨k,rfl⟩:=Int.eq_ofNat_of_zero_le k4;by_cases hneg:(t.nd k).kind=1/\(t.nd k).n<0
      .have h6:=List.all_eq_true.1 h3 k (List.mem_range.2 (by omega))
       have h7:((t.nd k).kind==1&&decide ((t.nd k).n<0))=true:=by simpa using hneg
       rw[h7,Bool.not_true,Bool.false_or,List.any_eq_true]at h6;obtain⟨it,h8,h9⟩:=h6;rw[Bool.and_eq_true]at h9;obtain⟨_,hd,he,hb,_⟩:=(oK P.one _ _ (by omega) h5).2 it (by simpa using h8) |>.imp id id
       obtain⟨it,rfl⟩:=Int.eq_ofNat_of_zero_le hb;have:=P.unique (by omega) hi (List.contains_iff_mem.1 h9.2) hk;subst this;have hc:(t.nd it).kind=40:=by simpa using h9.1
       rw[hc];simp
      .have:((t.nd k).kind==1&&decide ((t.nd k).n<0))=false:=by
        rw[Bool.eq_false_iff];simpa using hneg
       rw[this];rfl
     rw[gO,this,h5,h4]at hf;simp at hf
    rw[if_neg Bool.false_ne_true]
    cases h1:cD t with
    |false=>rfl
    | true=>
      cases h2:aC t with
      |false=>rfl
      | true=>
        cases h3:dG t with
        |false=>rfl
        |true=>exact(this ⟨h1,h2,h3⟩).elim
end
end Go.Proofs.YtcdkdiedphhdhaaGreatDoor
