/- Part of a proof. -/
import Derived.Test.YthjpoaannjgdmaaGreatDoorK10
import Derived.BigRegion
set_option maxRecDepth 100000
set_option maxHeartbeats 8000000
set_option linter.unusedVariables false
set_option linter.unusedSimpArgs false
open Go.Proofs.Tryz
namespace Go.Proofs.YthjpoaannjgdmaaGreatDoor
section
open Go.RowKit
def eatK(out:List Int):List Int->Int->Option Int
 | [],p=>some p
 |k::r,p=>if k != p||decide (p<0)then none else eatK out r (p-out.getD p.toNat 0)
def zJ(t:Tr):Nat->Option (List Int)
 |0=>some []
 |i+1=>(zJ t i).bind fun out=>(eatK out (t.nd i).kids.reverse ((i:Int)-1)).map fun p=>out++[(i:Int)-p]
def dO(t:Tr):List Int:=(zJ t t.nodes.length).getD []
theorem sG{out:List Int}{n:Nat}(ho:∀j,j<n->1<=out.getD j 0/\out.getD j 0<=j+1):∀(l:List Int) (p q:Int),p<n -> -1<=p->eatK out l p=some q -> -1<=q/\q<=p
 | [],p,q,_,h1,h=>by simp[eatK]at h;omega
 | k::l,p,q,h0,h1,h=>by
   rw[eatK]at h;split at h
   .cases h
   .rename_i hc
    simp only[Bool.or_eq_true,bne_iff_ne,ne_eq,decide_eq_true_eq,not_or,Classical.not_not]at hc;have hj:=ho p.toNat (by omega);have:=sG ho l _ q (by omega) (by omega) h;omega
theorem IK{out:List Int}{n:Nat}(ho:∀j,j<n->1<=out.getD j 0/\out.getD j 0<=j+1):∀(l:List Int) (p q:Int),p<n -> -1<=p->eatK out l p=some q->∀k∈l,0<=k/\k<=p
 | [],p,q,_,h1,h=>by simp
 | k::l,p,q,h0,h1,h=>by
   rw[eatK]at h;split at h
   .cases h
   .rename_i hc
    simp only[Bool.or_eq_true,bne_iff_ne,ne_eq,decide_eq_true_eq,not_or,Classical.not_not]at hc;have hj:=ho p.toNat (by omega);intro x hx;rcases List.mem_cons.1 hx with rfl|hx
    .omega
    .have:=IK ho l _ q (by omega) (by omega) h x hx
     omega
theorem bO{t:Tr}:∀(i:Nat) (out:List Int),zJ t i=some out->out.length=i
 |0,out,h=>by simp[zJ]at h;subst h;rfl
 | i+1,out,h=>by
   simp only[zJ,Option.bind_eq_some_iff,Option.map_eq_some_iff]at h;obtain⟨o,h1,p,h2,rfl⟩:=h;simp[bO i o h1]
theorem dY{t:Tr}:∀(i:Nat) (out:List Int),zJ t i=some out->∀j,j<i->1<=out.getD j 0/\out.getD j 0<=j+1
 |0,out,h,j,hj=>by omega
 | i+1,out,h,j,hj=>by
   simp only[zJ,Option.bind_eq_some_iff,Option.map_eq_some_iff]at h;obtain⟨o,h1,p,h2,rfl⟩:=h;have hl:=bO i o h1;have ih:=dY i o h1;by_cases hji:j<i
   .have:=ih j hji
    rwa[List.getD_eq_getElem?_getD,List.getElem?_append_left (by omega),<-List.getD_eq_getElem?_getD]
   .obtain rfl:j=i:=by omega
    have hb:=sG ih _ _ p (by omega) (by omega) h2;rw[List.getD_eq_getElem?_getD,List.getElem?_append_right (by omega),hl];simp;omega
theorem oC{t:Tr}{i n:Nat}(h:i<=n)(hn:(zJ t n).isSome):(zJ t i).isSome:=by
 induction n with
 | zero=>
   have e:i=0:=by omega
   rw[e];rfl
 | succ n ih=>
   by_cases e:i=n+1
   .subst e;exact hn
   .refine ih (by omega) ?_
    simp only[zJ]at hn
    cases hx:zJ t n with
    |none=>rw[hx]at hn;simp at hn
    |some o=>rfl
theorem wR{t:Tr}{n i:Nat}(hn:(zJ t n).isSome)(hi:i<n):∀k∈(t.nd i).kids,0<=k/\k<(i:Int):=by
 have h1:=oC (t:=t) (show i+1<=n by omega) hn;simp only[zJ]at h1
 cases hx:zJ t i with
 |none=>rw[hx]at h1;simp at h1
 | some o=>
   rw[hx]at h1;simp only[Option.bind_some]at h1;cases hy:eatK o (t.nd i).kids.reverse ((i:Int)-1)with
   |none=>rw[hy]at h1;simp at h1
   | some p=>
     intro k hk;have:=IK (dY i o hx) _ _ p (by omega) (by omega) hy k (by simpa using hk);omega
def eW(n:Nat):Array Value:=Array.replicate n (intV 0)
theorem BA(n:Nat):(eW n).toList=zr (List.replicate n 0):=by simp[eW]
theorem sP(W:World)(n:Nat)(h:n<=4398046511104) :
 (Instr.makeSlice 23 (.int .i64 n) (.int .i64 n)).run prog W=.ok (.slice (some ⟨W.heap.size,0,none⟩) n n) (W.alloc (.cells (eW n) 3)):=by
 obtain⟨i0,hi,ha,hb,hc⟩:=info_parts kJ;rw[run_make (P:=prog) W 23 3 i0 (.int .i64 0) cB hi ha .i64 .i64 n n (by omega) (Int.le_refl _) (by rw[hc];omega) (by omega),hb,Nat.mul_one,Int.toNat_natCast]
 have:madeCells (Value.int .i64 0).cells n=eW n:=by
  apply Array.ext';rw[show(Value.int IntKind.i64 0).cells = #[Value.int .i64 0]from rfl,toList_madeCells_one,eW];simp
 rw[this]
theorem ES(W:World){B n k:Nat}(hk:W.heap.size=k)(hB:B<=k)(hn:n<=4398046511104):(W.alloc (.cells (eW n) 3)).ownsRow B 3 1 (.slice (some ⟨k,0,none⟩) n n) n (zr (List.replicate n 0)):=by
 subst hk;rw[<-BA];exact World.ownsRow_lit W (eW n) n hB (by unfold maxLen;omega) (by simp[eW])
def aK(o:List Int)(d:Int):List Int->List Int
 | []=>o
 |k::r=>aK (o.set k.toNat d) d r
def jH(t:Tr)(o:List Int)(i:Nat):List Int:=aK (o.set i (max (o.getD i 0) 1)) (max (o.getD i 0) 1+1) (t.nd i).kids
def eH(t:Tr):Nat->List Int
 |0=>List.replicate t.nodes.length 0
 |m+1=>jH t (eH t m) (t.nodes.length-1-m)
def dR(t:Tr):List Int:=eH t t.nodes.length
theorem gM(d:Int):∀(l o:List Int),(aK o d l).length=o.length
 | [],o=>rfl
 |k::l,o=>by rw[aK,gM d l];simp
theorem aR(t:Tr):∀m,(eH t m).length=t.nodes.length
 |0=>by simp[eH]
 |m+1=>by rw[eH,jH,gM];simp[aR t m]
theorem mA{d:Int}{n:Nat}{i:Nat}(hd:0<=d/\d+i<=n+1):∀(l o:List Int),(∀k∈l,0<=k/\k<(i:Int))->(∀j,0<=o.getD j 0/\(j<n->o.getD j 0+j<=n))->∀j,0<=(aK o d l).getD j 0/\(j<n->(aK o d l).getD j 0+j<=n)
 | [],o,_,h=>h
 | k::l,o,hk,h=>by
   refine mA hd l _ (fun x hx=>hk x (List.mem_cons_of_mem _ hx)) fun j=>?_;have hk0:=hk k (by simp);rw[List.getD_eq_getElem?_getD,List.getElem?_set];split
   .rename_i e
    split
    .exact⟨hd.1,fun _=>by simp only[Option.getD_some];omega⟩
    .exact⟨by simp,fun _=>by simp only[Option.getD_none];omega⟩
   .rw[<-List.getD_eq_getElem?_getD];exact h j
theorem lD{t:Tr}(hk:∀i,i<t.nodes.length->∀k∈(t.nd i).kids,0<=k/\k<(i:Int)):∀m,m<=t.nodes.length->∀j,0<=(eH t m).getD j 0/\(j<t.nodes.length->(eH t m).getD j 0+j<=t.nodes.length)
 | 0,_,j=>by
   rw[eH,List.getD_eq_getElem?_getD,List.getElem?_replicate];split<;>simp<;>omega
 | m+1,hm,j=>by
   have ih:=lD hk m (by omega);rw[eH,jH];have hi:=ih (t.nodes.length-1-m);refine mA (n:=t.nodes.length) (i:=t.nodes.length-1-m) (by have:=hi.2 (by omega);omega) _ _ (hk _ (by omega)) (fun j=>?_) j;rw[List.getD_eq_getElem?_getD,List.getElem?_set];have h2:=hi.2 (by omega);have h1:=hi.1;generalize (eH t m).getD (t.nodes.length-1-m) 0=x at *;split
   .rename_i e
    split
    .exact⟨by simp only[Option.getD_some];omega,fun _=>by simp only[Option.getD_some];omega⟩
    .exact⟨by simp,fun _=>by simp only[Option.getD_none];omega⟩
   .rw[<-List.getD_eq_getElem?_getD];exact ih j
theorem iJ{d:Int}{i:Nat}:∀(l o:List Int),(∀k∈l,0<=k/\k<(i:Int))->(aK o d l).getD i 0=o.getD i 0
 | [],o,_=>rfl
 | k::l,o,hk=>by
   have hk0:=hk k (by simp);rw[aK,iJ l _ fun x hx=>hk x (List.mem_cons_of_mem _ hx),List.getD_eq_getElem?_getD,List.getElem?_set,if_neg (by omega),<-List.getD_eq_getElem?_getD]
theorem jG{d:Int}:∀(l o:List Int) (k:Int),aK o d (l++[k])=(aK o d l).set k.toNat d
 | [],o,k=>rfl
 |x::l,o,k=>by rw[List.cons_append,aK,jG l];rfl
def okK(k:Int):Bool:=zn k||k==25||cH k||k==34||cS k
def qR(t:Tr)(d:Nd)(j:Nat):Bool:=kidK d.kind d.kids.length j (t.nd (d.kids.getD j 0)).kind && !((t.nd (d.kids.getD j 0)).kind==1&&decide ((t.nd (d.kids.getD j 0)).n<0)&&d.kind != 40)
def iB(t:Tr)(d:Nd):Bool:=(List.range d.kids.length).all fun j=>qR t d j
def cO(t:Tr)(i:Nat):Bool:=
 (okK (t.nd i).kind&&(eO (t.nd i).kind==zI (t.nd i).text)&&(eO (t.nd i).kind||(t.nd i).text==[])&&zD (t.nd i).kind (t.nd i).n (t.nd i).kids.length&&zB (t.nd i).kind (t.nd i).n&&decide (0<=(t.nd i).pos)&&decide ((t.nd i).pos<=2000))&&iB t (t.nd i)
theorem iH{w wr:World}{v:TreeV}{t:Tr}{ka:Option Addr}{kc:Nat}{d:Nd}(hb:Below (w.heap.size+1+1) (boxD (boxT w v t) ka kc d) wr):wr.cell? ⟨w.heap.size+1,4,none⟩=some (intV d.pos):=by
 have ha:Below (boxD (boxT w v t) ka kc d).heap.size (boxD (boxT w v t) ka kc d) wr:=by simpa using hb
 obtain⟨hc,_⟩:=bcell ha;have e1:(boxD (boxT w v t) ka kc d).cell? ⟨w.heap.size+1,4,none⟩=some (intV d.pos):=by simp
 exact(hc _ _ (by simp)).trans e1
def maxL(l:List Int):Int:=l.foldl max 0
theorem qP{l:List Int}{k:Nat}(h:k<l.length):maxL (l.take (k+1))=max (maxL (l.take k)) l[k]:=by
 rw[List.take_succ_eq_append_getElem h,maxL,List.foldl_append];rfl
def aP(t:Tr):Int:=maxL (dR t)
def eV(t:Tr)(i:Nat):Bool:=
 if (t.nd i).kind==40 then decide ((t.nd ((t.nd i).kids.getD 0 0)).n<=(t.nd ((t.nd i).kids.getD 1 0)).n)&&decide ((t.nd ((t.nd i).kids.getD 1 0)).n-(t.nd ((t.nd i).kids.getD 0 0)).n+1<=12)
 else if (t.nd i).kind==41 then decide (((t.nd i).kids.length:Int)<=6)
 else if (t.nd i).kind==42 then decide (((t.nd i).kids.length:Int)-2<=4)&&decide ((t.nd i).n<=8)
 else if (t.nd i).kind==33 then decide (1<=(t.nd i).n)&&decide ((t.nd i).n<=6)
 else if (t.nd i).kind==26 then decide (((t.nd i).kids.length:Int)<=6)
 else if (t.nd i).kind==46 then decide (((t.nd i).kids.length:Int)<=4)
 else true
def eatI(t:Tr)(sizes:List Int):List Int->Int->Bool
 | [],p=>p == -1
 |k::r,p=>if decide (p<0)||k != p || !cS (t.nd p).kind then false else eatI t sizes r (p-sizes.getD p.toNat 0)
def nN(t:Tr):Bool:=(List.range t.nodes.length).all fun i=>cO t i
def gP(t:Tr):Bool:=(dO t).length==t.nodes.length&&(nN t&&eatI t (dO t) t.items.reverse ((t.nodes.length:Int)-1))
theorem lM{t:Tr}(h:(dO t).length=t.nodes.length):zJ t t.nodes.length=some (dO t):=by
 unfold dO at *
 cases hx:zJ t t.nodes.length with
 |some o=>rfl
 | none=>
   rw[hx]at h;have h0:t.nodes.length=0:=by simpa using h.symm
   rw[h0]at hx;cases hx
def jW(t:Tr):Bool:=(List.range t.nodes.length).all fun i=>eV t i
def aG(t:Tr):Int:=if 800<t.nodes.length\/60<t.items.length then 5 else if gP t then (if 30<aP t then 5 else if jW t then 0 else 3)else 4
theorem yX{t:Tr}(h:gP t=true):zJ t t.nodes.length=some (dO t):=by
 simp only[gP,Bool.and_eq_true,beq_iff_eq]at h;exact lM h.1
theorem qA{t:Tr}(h:gP t=true){i:Nat}(hi:i<t.nodes.length):cO t i=true:=by
 simp only[gP,Bool.and_eq_true]at h;exact List.all_eq_true.1 h.2.1 i (List.mem_range.2 hi)
theorem EJ{t:Tr}(h:gP t=true){i:Nat}(hi:i<t.nodes.length):∀k∈(t.nd i).kids,0<=k/\k<(i:Int):=
 wR (n:=t.nodes.length) (by rw[yX h];rfl) hi
theorem lJ{t:Tr}{i:Nat}(h:cO t i=true):okK (t.nd i).kind=true/\eO (t.nd i).kind=zI (t.nd i).text/\(eO (t.nd i).kind=true\/(t.nd i).text=[])/\zD (t.nd i).kind (t.nd i).n (t.nd i).kids.length=true/\zB (t.nd i).kind (t.nd i).n=true/\0<=(t.nd i).pos/\(t.nd i).pos<=2000 /\
 ∀j,j<(t.nd i).kids.length->qR t (t.nd i) j=true:=by
 simp only[cO,Bool.and_eq_true,beq_iff_eq,Bool.or_eq_true,decide_eq_true_eq]at h;obtain⟨⟨⟨⟨⟨⟨⟨h1,h2⟩,h3⟩,h4⟩,h5⟩,h6⟩,h7⟩,h8⟩:=h;exact⟨h1,h2,h3,h4,h5,h6,h7,fun j hj=>List.all_eq_true.1 h8 j (List.mem_range.2 hj)⟩
theorem yY{t:Tr}(h:gP t=true){i:Nat}(hi:i<t.nodes.length)(hk:(t.nd i).kind=40) :
 ∃k0 k1:Nat,k0<t.nodes.length/\k1<t.nodes.length/\(t.nd i).kids=[(k0:Int),(k1:Int)] /\ -9999<=(t.nd k0).n/\(t.nd k0).n<=9999 /\ -9999<=(t.nd k1).n/\(t.nd k1).n<=9999:=by
 obtain⟨_,_,_,hm,_,_,_,ho⟩:=lJ (qA h hi);have hc:=EJ h hi;rw[hk]at hm;have hh:((t.nd i).kids.length:Int)=2:=by simpa[zD]using hm
 have hl:(t.nd i).kids.length=2:=by omega
 obtain⟨a,b,hf⟩:∃a b,(t.nd i).kids=[a,b]:=by
  match hx:(t.nd i).kids with
  | [a,b]=>exact⟨a,b,rfl⟩
  | []=>rw[hx]at hl;simp at hl
  | [_]=>rw[hx]at hl;simp at hl
  |_::_::_::_=>rw[hx]at hl;simp at hl
 rw[hf]at hc;have ha:=hc a (by simp);have hb:=hc b (by simp);obtain⟨k0,rfl⟩:=Int.eq_ofNat_of_zero_le ha.1;obtain⟨k1,rfl⟩:=Int.eq_ofNat_of_zero_le hb.1
 have num:∀(k:Nat) (j:Nat),k<i->j<2->(t.nd i).kids.getD j 0=(k:Int) -> -9999<=(t.nd k).n/\(t.nd k).n<=9999:=by
  intro k j hg hj he;have h1:=ho j (by omega);simp only[qR,he,Bool.and_eq_true,hk]at h1;have hd:(t.nd k).kind=1:=by simpa[kidK]using h1.1
  obtain⟨_,_,_,_,hn,_⟩:=lJ (qA h (show k<t.nodes.length by omega));rw[hd]at hn;simpa[zB]using hn
 have n0:=num k0 0 (by omega) (by omega) (by rw[hf];rfl);have n1:=num k1 1 (by omega) (by omega) (by rw[hf];rfl);exact⟨k0,k1,by omega,by omega,hf,n0.1,n0.2,n1.1,n1.2⟩
def jI(t:Tr):Nat->Nat->Option (Nat×Int)
 |0,_=>none
 |f+1,k=>if bU t k != 0 then some (k,bU t k)else jI t f (k+1)
def zb(t:Tr):List Int×Int×Int:=
 if aG t != 0 then ([],0,aG t)else
 match jI t t.nodes.length 0 with
 |some (k,e)=>([],k,e)
 |none=>((List.range t.nodes.length).map (fun k:Nat=>means t (k:Int)),0,0)
def BG(w:World)(p:List Int×Int×Int)(e:Ending)(w':World):Prop:=
 ∃a c,e=.returned (.tuple #[.agg #[.slice a p.1.length c],intV p.2.1,intV p.2.2])/\w'.ownsRow w.heap.size 3 1 (.slice a p.1.length c) p.1.length (zr p.1)/\Below w.heap.size w w'
end
section
open Go Go.RowKit
def fI(t:Tr)(rec:List UInt8):Int:=(t.items.find? fun x=>(t.nd x).kind==41&&(t.nd x).text==rec).getD (-1)
def kS(t:Tr):Nat->Int->List UInt8
 |0,_=>[]
 |f+1,i=>if (t.nd i).kind==30 then intT else if (t.nd i).kind==31 then zA else if (t.nd i).kind==32 then (t.nd i).text else bE (kS t f ((t.nd i).kids.getD 0 0)) (t.nd i).n.toNat
def eY(t:Tr)(i:Int):List UInt8:=kS t (i.toNat+1) i
def pZ(t:Tr)(rec:List UInt8):List (List UInt8):=if fI t rec<0 then []else (t.nd (fI t rec)).kids.map fun k=>(t.nd k).text
def gO(t:Tr)(rec:List UInt8):List (List UInt8):=if fI t rec<0 then []else (t.nd (fI t rec)).kids.map fun k=>eY t ((t.nd k).kids.getD 0 0)
def sumO:List (Option Int)->Option Int
 | []=>some 0
 |x::l=>x.bind fun a=>(sumO l).map fun b=>a+b
def dQ(t:Tr):Nat->List UInt8->Option Int
 |0,_=>none
 | f+1,k=>
   match aZ k with
   |some (of,many)=>(dQ t f of).map fun n=>min 10000 (many*n)
   |none=>if k==intT||k==zA then some 1 else sumO ((gO t k).map (dQ t f))
def pY(t:Tr)(k field:List UInt8):List UInt8:=(((pZ t k).zip (gO t k)).find? fun p=>p.1==field).elim [] (·.2)
def KB(t:Tr)(f:Int):List (List UInt8):=((t.nd f).kids.take ((t.nd f).kids.length-2)).map fun k=>eY t ((t.nd k).kids.getD 0 0)
def KC(t:Tr)(f:Int):List UInt8:=eY t ((t.nd f).kids.getD ((t.nd f).kids.length-2) 0)
def ofK(L:List (List UInt8))(i:Int):List UInt8:=L.getD i.toNat []
def sE(t:Tr)(L:List (List UInt8))(d:Int):List UInt8:=
 if (t.nd d).kind==40 then intT else if (t.nd d).kind==34 then eY t ((t.nd d).kids.getD 0 0)else ofK L ((t.nd d).kids.getD 0 0)
def oK(k:Int):Option (List (List UInt8)×List UInt8):=
 if k==1 then some ([],intT)else if k==2 then some ([],zA)else if k==4 then some ([intT],intT)else if k==5 then some ([zA],zA)
 else if decide (6<=k)&&decide (k<=10)then some ([intT,intT],intT)else if decide (13<=k)&&decide (k<=16)then some ([intT,intT],zA)
 else if k==17||k==18 then some ([zA,zA],zA)else none
def lF(t:Tr)(L:List (List UInt8))(d:Nd):List (List UInt8):=d.kids.map fun k=>ofK L (if (t.nd k).kind==25 then (t.nd k).kids.getD 0 0 else k)
def JA(t:Tr)(d:Nd)(kids:List (List UInt8)):List UInt8:=
 if d.kind==22 then pY t (kids.getD 0 []) d.text
 else if d.kind==23 then (match aZ (kids.getD 0 [])with|some (of,_)=>if kids.getD 1 []==intT then of else []|none=>[])
 else if d.kind==24 then (if pZ t d.text==d.kids.map (fun k=>(t.nd k).text)&&gO t d.text==kids then d.text else [])
 else if (kids.drop 1).all (fun k=>k==kids.getD 0 [])then bE (kids.getD 0 []) kids.length else []
def ofAt(t:Tr)(L:List (List UInt8))(i:Int):List UInt8:=
 match oK (t.nd i).kind with
 |some (want,own)=>if want==lF t L (t.nd i)then own else []
 | none=>
   if (t.nd i).kind==3 then sE t L (means t i)
   else if (t.nd i).kind==11||(t.nd i).kind==12 then (if (lF t L (t.nd i)).getD 0 []==(lF t L (t.nd i)).getD 1 []&&((lF t L (t.nd i)).getD 0 []==intT||(lF t L (t.nd i)).getD 0 []==zA)then zA else [])
   else if (t.nd i).kind==19 then (if (lF t L (t.nd i)).getD 0 []==zA&&(lF t L (t.nd i)).getD 1 []==(lF t L (t.nd i)).getD 2 []then (lF t L (t.nd i)).getD 1 []else [])
   else if (t.nd i).kind==20 then (lF t L (t.nd i)).getD 1 []
   else if (t.nd i).kind==21 then (if KB t (means t i)==lF t L (t.nd i)then KC t (means t i)else [])
   else JA t (t.nd i) (lF t L (t.nd i))
def oB(t:Tr)(f:Nat)(k:List UInt8):Option Int:=(dQ t f k).map fun n=>if 8<n then 5 else 0
def yM(n:Int)(k:List UInt8):Bool:=!((k != intT&&k != zA)||((n==4||n==5)&&k != intT)||(!(n==4||n==5)&&n != 8&&k != zA))
def errK(t:Tr)(f:Nat)(L:List (List UInt8))(i:Int):Option Int:=
 if zn (t.nd i).kind&&ofK L i==[]then some 11
 else if (t.nd i).kind==26 then oB t f (ofK L i)
 else if (t.nd i).kind==33 then oB t f (eY t i)
 else if (t.nd i).kind==41 then oB t f (t.nd i).text
 else if (t.nd i).kind==42 then (if ofK L ((t.nd i).kids.getD ((t.nd i).kids.length-1) 0)==KC t i then some 0 else some 11)
 else if (t.nd i).kind==44 then (if ofK L ((t.nd i).kids.getD 0 0)==zA then some 0 else some 11)
 else if (t.nd i).kind==46 then (if (t.nd i).kids.all (fun k=>yM (t.nd i).n (ofK L k))then some 0 else some 11)
 else some 0
def ofTo(t:Tr):Nat->List (List UInt8)
 |0=>[]
 |k+1=>ofTo t k++[if zn (t.nd k).kind then ofAt t (ofTo t k) k else []]
theorem iP(t:Tr):∀k,(ofTo t k).length=k
 |0=>rfl
 |k+1=>by rw[ofTo,List.length_append,iP t k];rfl
theorem CL(t:Tr){i:Nat}:∀{k:Nat},i<k->(ofTo t k).getD i []=if zn (t.nd i).kind then ofAt t (ofTo t i) i else []
 |0,h=>by omega
 | k+1,h=>by
   rw[ofTo];by_cases e:i<k
   .rw[List.getD_eq_getElem?_getD,List.getElem?_append_left (by rw[iP];exact e),<-List.getD_eq_getElem?_getD]
    exact CL t e
   .obtain rfl:i=k:=by omega
    rw[List.getD_eq_getElem?_getD,List.getElem?_append_right (by rw[iP];exact nlr),iP];simp
def recT(t:Tr)(b:Nat)(k:List UInt8):Option Nat:=((List.range b).filter fun i:Nat=>(t.nd (i:Int)).kind==41&&(t.nd (i:Int)).text==k).getLast?
def capS{α:Type}(f:α->Option (Int×Bool)):List α->Int->Option Int
 | [],n=>some n
 |x::l,n=>(f x).bind fun r=>capS f l (min 10000 (n+r.1))
def zW(t:Tr)(L:List (List UInt8))(b:Nat):Nat->List UInt8->Option (Int×Bool)
 |0,_=>none
 | f+1,k=>
   if k==intT||k==zA then some (1,true)
   else match aZ k with
    |some (of,m)=>(zW t L b f of).map fun r=>(min 10000 (r.1*m),r.2)
    | none=>match recT t b k with
      |none=>some (0,false)
      |some r=>(capS (fun kid=>zW t L b f (ofK L kid)) (t.nd r).kids 0).map fun n=>(n,true)
theorem lY{α:Type}{f g:α->Option (Int×Bool)}(h:∀x r,f x=some r->g x=some r):∀(l:List α) (n r:Int),capS f l n=some r->capS g l n=some r
 | [],_,_,e=>e
 | x::l,n,r,e=>by
   rw[capS]at e|-
   cases hf:f x with
   |none=>rw[hf]at e;cases e
   | some y=>
     rw[hf]at e;rw[h x y hf];exact lY h l _ _ e
theorem aJ{t:Tr}{L:List (List UInt8)}{b:Nat}:∀(f g:Nat) (k:List UInt8) (r:Int×Bool),f<=g->zW t L b f k=some r->zW t L b g k=some r
 |0,_,_,_,_,e=>by cases e
 |f+1,0,_,_,h,_=>by omega
 | f+1,g+1,k,r,h,e=>by
   rw[zW]at e|-;split
   .rename_i hc;rwa[if_pos hc]at e
   .rename_i hc
    rw[if_neg hc]at e;split
    .rename_i of m he
     rw[he]at e;simp only at e
     cases hf:zW t L b f of with
     |none=>rw[hf]at e;cases e
     | some y=>
       rw[hf]at e;rw[aJ f g of y (by omega) hf];exact e
    .rename_i he
     rw[he]at e;simp only at e;split
     .rename_i hr;rw[hr]at e;exact e
     .rename_i r' hr
      rw[hr]at e;simp only at e
      cases hf:capS (fun kid=>zW t L b f (ofK L kid)) (t.nd r').kids 0 with
      |none=>rw[hf]at e;cases e
      | some y=>
        rw[hf]at e;rw[lY (fun x r hx=>aJ f g _ _ (by omega) hx) _ _ _ hf];exact e
def HasC(t:Tr)(L:List (List UInt8))(b:Nat)(k:List UInt8)(n:Int)(ok:Bool):Prop:=∃f,zW t L b f k=some (n,ok)
theorem HasC.unique{t:Tr}{L:List (List UInt8)}{b:Nat}{k:List UInt8}{n m:Int}{o p:Bool}(h:HasC t L b k n o)(h':HasC t L b k m p):n=m/\o=p:=by
 obtain⟨f,h⟩:=h;obtain⟨g,h'⟩:=h';have h1:=aJ f (f+g) k _ (by omega) h;rw[aJ g (f+g) k _ (by omega) h']at h1;cases h1
 exact⟨rfl,rfl⟩
def iA(t:Tr)(L:List (List UInt8))(b:Nat)(rec field:List UInt8):List UInt8:=
 match recT t b rec with
 |none=>[]
 |some r=>((t.nd r).kids.find? fun k=>(t.nd k).text==field).elim [] (ofK L)
def dX(t:Tr)(L:List (List UInt8))(f:Int):List (List UInt8):=((t.nd f).kids.take ((t.nd f).kids.length-2)).map (ofK L)
def fA(t:Tr)(L:List (List UInt8))(f:Int):List UInt8:=ofK L ((t.nd f).kids.getD ((t.nd f).kids.length-2) 0)
def eN(t:Tr)(L:List (List UInt8))(d:Int):List UInt8:=
 if (t.nd d).kind==43||(t.nd d).kind==20 then ofK L ((t.nd d).kids.getD 0 0)else if (t.nd d).kind==34 then ofK L d else intT
def cY(t:Tr)(L:List (List UInt8))(put field:Int):Bool:=(t.nd put).text==(t.nd field).text&&ofK L put==ofK L field
def eqF(f:Int->Int->Bool):List Int->List Int->Bool
 | [],[]=>true
 |a::l,b::m=>f a b&&eqF f l m
 |_,_=>false
def areB(k:List UInt8)(l:List (List UInt8)):Bool:=l.all fun x=>x==k
def zU(t:Tr)(L:List (List UInt8))(b:Nat)(i:Int)(l:List (List UInt8)):List UInt8:=
 if (t.nd i).kind==21 then (if dX t L (means t i)==l then fA t L (means t i)else [])
 else if (t.nd i).kind==22 then iA t L b (l.getD 0 []) (t.nd i).text
 else if (t.nd i).kind==23 then (match aZ (l.getD 0 [])with|some (of,_)=>if l.getD 1 []==intT then of else []|none=>[])
 else if (t.nd i).kind==24 then (if eqF (cY t L) (t.nd i).kids (t.nd (means t i)).kids then (t.nd i).text else [])
 else if (t.nd i).kind==26 then (if areB (l.getD 0 []) l then bE (l.getD 0 []) l.length else [])
 else []
def aM(t:Tr)(L:List (List UInt8))(b:Nat)(i:Int):List UInt8:=
 let k:=(t.nd i).kind
 let l:=(t.nd i).kids.map (ofK L)
 if k==1 then intT else if k==2 then zA else if k==3 then eN t L (means t i)
 else if k==4||k==6||k==7||k==8||k==9||k==10 then (if areB intT l then intT else [])
 else if k==5||k==17||k==18 then (if areB zA l then zA else [])
 else if k==11||k==12 then (if areB intT l||areB zA l then zA else [])
 else if k==13||k==14||k==15||k==16 then (if areB intT l then zA else [])
 else if k==19 then (if l.getD 0 []==zA&&l.getD 1 []==l.getD 2 []then l.getD 1 []else [])
 else if k==20 then l.getD 1 []
 else zU t L b i l
def typP(t:Tr)(L:List (List UInt8))(i:Nat):List UInt8:=
 let k:=(t.nd (i:Int)).kind
 if zn k then aM t L i i
 else if k==30 then intT else if k==31 then zA else if k==32 then (t.nd (i:Int)).text
 else if k==25||k==34 then ofK L ((t.nd (i:Int)).kids.getD 0 0)
 else if k==33 then bE (ofK L ((t.nd (i:Int)).kids.getD 0 0)) (t.nd (i:Int)).n.toNat
 else []
def tysP(t:Tr):Nat->List (List UInt8)
 |0=>List.replicate t.nodes.length []
 |k+1=>(tysP t k).set k (typP t (tysP t k) k)
theorem jA(t:Tr):∀k,(tysP t k).length=t.nodes.length
 |0=>by simp[tysP]
 |k+1=>by rw[tysP,List.length_set,jA t k]
theorem sX(t:Tr){i k:Nat}(h:k<=i):(tysP t k).getD i []=[]:=by
 induction k with
 |zero=>rw[tysP,List.getD_eq_getElem?_getD,List.getElem?_replicate];split<;>rfl
 |succ k ih=>rw[tysP,List.getD_eq_getElem?_getD,List.getElem?_set_ne (by omega),<-List.getD_eq_getElem?_getD,ih (by omega)]
theorem FL(t:Tr){i:Nat}(hi:i<t.nodes.length):∀{k:Nat},i<k->(tysP t k).getD i []=typP t (tysP t i) i
 |0,h=>by omega
 | k+1,h=>by
   rw[tysP];by_cases e:i=k
   .subst e
    rw[List.getD_eq_getElem?_getD,List.getElem?_set_self (by rw[jA];exact hi)];rfl
   .rw[List.getD_eq_getElem?_getD,List.getElem?_set_ne (by omega),<-List.getD_eq_getElem?_getD]
    exact FL t hi (by omega)
def tD(n:Int)(l:List (List UInt8)):Bool:=if n==4||n==5 then areB intT l else if n==8 then l.all (fun x=>x==intT||x==zA)else areB zA l
def cX(t:Tr)(L:List (List UInt8))(i:Nat):Option (List UInt8):=
 if (t.nd (i:Int)).kind==26||(t.nd (i:Int)).kind==33 then some (ofK L i)else if (t.nd (i:Int)).kind==41 then some (t.nd (i:Int)).text else none
def aT(t:Tr)(L:List (List UInt8))(i:Nat):Int:=
 let k:=(t.nd (i:Int)).kind
 let l:=(t.nd (i:Int)).kids.map (ofK L)
 if zn k then (if ofK L i==[]then 11 else 0)
 else if k==42 then (if l.getD (l.length-1) []==l.getD (l.length-2) []then 0 else 11)
 else if k==44 then (if l.getD 0 []==zA then 0 else 11)
 else if k==46 then (if tD (t.nd (i:Int)).n l then 0 else 11)
 else 0
def recB(t:Tr)(i:Nat):Nat:=if (t.nd (i:Int)).kind==41 then i+1 else i
def errP(t:Tr)(f:Nat)(i:Nat):Option Int:=
 if aT t (tysP t (i+1)) i≠0 then some (aT t (tysP t (i+1)) i)
 else match cX t (tysP t (i+1)) i with
  |some k=>(zW t (tysP t (i+1)) (recB t i) f k).map fun r=>if 8<r.1 then 5 else 0
  |none=>some 0
end
section
open Go.RowKit
structure Placed (t:Tr) (S:List Int):Prop where
 bd:∀j,j<t.nodes.length->1<=S.getD j 0/\S.getD j 0<=j+1
 eat:∀i,i<t.nodes.length->eatK S (t.nd i).kids.reverse ((i:Int)-1)=some ((i:Int)-S.getD i 0)
theorem kI{o o':List Int}{m:Nat}(h:∀j,j<m->o.getD j 0=o'.getD j 0)(hb:∀j,j<m->1<=o.getD j 0):∀(l:List Int) (p:Int),p<m->eatK o l p=eatK o' l p
 | [],p,_=>rfl
 | k::l,p,hp=>by
   simp only[eatK];by_cases hc:(k != p||decide (p<0))=true
   .rw[if_pos hc,if_pos hc]
   .rw[if_neg hc,if_neg hc]
    simp only[Bool.or_eq_true,bne_iff_ne,ne_eq,decide_eq_true_eq,not_or,Classical.not_not]at hc;rw[<-h p.toNat (by omega)];have:=hb p.toNat (by omega);exact kI h hb l _ (by omega)
theorem jX{t:Tr}{n:Nat}{S:List Int}(h:zJ t n=some S):∀i,i<=n->zJ t i=some (S.take i):=by
 induction n generalizing S with
 | zero => intro i hi;obtain rfl:i=0:=by omega
           simp[zJ]
 | succ n ih=>
   intro i hi;have hl:=bO _ _ h;by_cases e:i=n+1
   .subst e;rw[h,List.take_of_length_le (by omega)]
   .have h':=h
    simp only[zJ,Option.bind_eq_some_iff,Option.map_eq_some_iff]at h';obtain⟨o,h1,p,h2,rfl⟩:=h';rw[ih h1 i (by omega),List.take_append_of_le_length (by rw[bO _ _ h1];omega)]
theorem wH{t:Tr}{S:List Int}(h:zJ t t.nodes.length=some S):Placed t S:=by
 have hb:=dY _ _ h;have hl:=bO _ _ h;refine⟨hb,fun i hi=>?_⟩;have h1:=jX h (i+1) (by omega);simp only[zJ,Option.bind_eq_some_iff,Option.map_eq_some_iff]at h1;obtain⟨o,h2,p,h3,h4⟩:=h1;have h5:=jX h i (by omega);rw[h5]at h2;obtain rfl:=Option.some.inj h2
 have hg:∀j,j<i->(S.take i).getD j 0=S.getD j 0:=fun j hj=>by
  rw[List.getD_eq_getElem?_getD,List.getElem?_take,if_pos hj,<-List.getD_eq_getElem?_getD]
 rw[<-kI hg (fun j hj=>by rw[hg j hj];exact(hb j (by omega)).1) _ _ (by omega),h3]
 have:S.getD i 0=(i:Int)-p:=by
  have:(S.take (i+1)).getD i 0=S.getD i 0:=by rw[List.getD_eq_getElem?_getD,List.getElem?_take,if_pos (by omega),<-List.getD_eq_getElem?_getD]
  rw[<-this,<-h4,List.getD_eq_getElem?_getD,List.getElem?_append_right (by simp;omega)];simp;rw[Nat.min_eq_left (by omega)];simp
 rw[this];congr 1;omega
def stt(S:List Int)(i:Int):Int:=i-S.getD i.toNat 0
theorem sH{S:List Int}:∀(l:List Int) (p q:Int),eatK S l p=some q->∀j,q<j->j<=p->∃k∈l,stt S k<j/\j<=k
 | [],p,q,h,j,h1,h2=>by simp[eatK]at h;omega
 | k::l,p,q,h,j,h1,h2=>by
   rw[eatK]at h;split at h
   .cases h
   .rename_i hc
    simp only[Bool.or_eq_true,bne_iff_ne,ne_eq,decide_eq_true_eq,not_or,Classical.not_not]at hc;obtain⟨rfl,hc⟩:=hc;by_cases hj:stt S k<j
    .exact⟨k,by simp,hj,h2⟩
    .obtain⟨k',h3,h4⟩:=sH l _ q h j h1 (by unfold stt at hj;omega)
     exact⟨k',by simp[h3],h4⟩
theorem tG{S:List Int}{m:Nat}(hb:∀j,j<m->1<=S.getD j 0):∀(l:List Int) (p q:Int),p<m->eatK S l p=some q->q<=p/\∀k∈l,q<=stt S k/\stt S k<k/\k<=p/\0<=k
 | [],p,q,hp,h=>by simp only[eatK,Option.some.injEq]at h;subst h;exact⟨Int.le_refl _,fun _ h=>by simp at h⟩
 | k::l,p,q,hp,h=>by
   rw[eatK]at h;split at h
   .cases h
   .rename_i hc
    simp only[Bool.or_eq_true,bne_iff_ne,ne_eq,decide_eq_true_eq,not_or,Classical.not_not]at hc;obtain⟨rfl,hc⟩:=hc;have h1:=hb k.toNat (by omega);obtain⟨h2,h3⟩:=tG hb l _ q (by omega) h;refine⟨by omega,fun x hx=>?_⟩;rcases List.mem_cons.1 hx with rfl|hx
    .exact⟨by unfold stt;omega,by unfold stt;omega,Int.le_refl _,by omega⟩
    .have:=h3 x hx
     exact⟨this.1,this.2.1,by omega,this.2.2.2⟩
theorem vM{S:List Int}{m:Nat}(hb:∀j,j<m->1<=S.getD j 0):∀(l:List Int) (p q:Int),p<m->eatK S l p=some q->l.Pairwise (fun a b=>b<=stt S a)
 | [],p,q,hp,h=>.nil
 | k::l,p,q,hp,h=>by
   rw[eatK]at h;split at h
   .cases h
   .rename_i hc
    simp only[Bool.or_eq_true,bne_iff_ne,ne_eq,decide_eq_true_eq,not_or,Classical.not_not]at hc;obtain⟨rfl,hc⟩:=hc;have h1:=hb k.toNat (by omega);refine .cons (fun x hx=>?_) (vM hb l _ q (by omega) h);obtain⟨_,h3⟩:=tG hb l _ q (by omega) h;exact(h3 x hx).2.2.1
section
variable {t : Tr} {S : List Int} (P : Placed t S)
include P
theorem Placed.one:∀j,j<t.nodes.length->1<=S.getD j 0:=fun j h=>(P.bd j h).1
theorem Placed.kid{i:Nat}(hi:i<t.nodes.length):∀k∈(t.nd i).kids,stt S i<=stt S k/\stt S k<k/\k<(i:Int)/\0<=k:=fun k hk=>by
 obtain⟨_,h⟩:=tG P.one _ _ _ (by omega) (P.eat i hi);have:=h k (by simpa using hk);refine⟨?_,this.2.1,by omega,this.2.2.2⟩;have:=this.1;simpa[stt]using this
theorem Placed.cover{i:Nat}(hi:i<t.nodes.length){j:Int}(h1:stt S i<j)(h2:j<i):∃k∈(t.nd i).kids,stt S k<j/\j<=k:=by
 obtain⟨k,h3,h4⟩:=sH _ _ _ (P.eat i hi) j (by simpa[stt]using h1) (by omega);exact⟨k,by simpa using h3,h4⟩
theorem Placed.asc{i:Nat}(hi:i<t.nodes.length):(t.nd i).kids.Pairwise (fun a b=>a<=stt S b):=by
 have:=vM P.one _ _ _ (by omega) (P.eat i hi);rwa[List.pairwise_reverse]at this
theorem Placed.nest:∀(f:Nat) (k:Nat) (a:Nat),k<=f->k<t.nodes.length->stt S k<a->a<=k->stt S k<=stt S a
 | f,k,a,hf,hk,h1,h2=>by
   by_cases e:a=k
   .subst e;exact Int.le_refl _
   .obtain⟨c,hc,h3,h4⟩:=P.cover hk (j:=a) h1 (by omega)
    obtain⟨h5,h6,h7,h8⟩:=P.kid hk c hc;obtain⟨c,rfl⟩:=Int.eq_ofNat_of_zero_le h8
    cases f with
    |zero=>omega
    | succ f=>
      have:=Placed.nest f c a (by omega) (by omega) h3 (by omega);omega
theorem Placed.unique{a b:Nat}{j:Int}(ha:a<t.nodes.length)(hb:b<t.nodes.length)(h1:j∈(t.nd a).kids)(h2:j∈(t.nd b).kids):a=b:=by
 have key:∀a b:Nat,a<b->b<t.nodes.length->j∈(t.nd a).kids->j∈(t.nd b).kids->False:=by
  intro a b hd hb h1 h2;obtain⟨a1,a2,a3,a4⟩:=P.kid (by omega) j h1;obtain⟨b1,b2,b3,b4⟩:=P.kid hb j h2;obtain⟨c,hc,h3,h4⟩:=P.cover hb (j:=a) (by omega) (by omega);obtain⟨c1,c2,c3,c4⟩:=P.kid hb c hc;obtain⟨c,rfl⟩:=Int.eq_ofNat_of_zero_le c4;have hn:=P.nest c c a nlr (by omega) h3 (by omega);have hp:=P.asc hb;obtain⟨x,hx,ex⟩:=List.getElem_of_mem hc;obtain⟨y,hy,ey⟩:=List.getElem_of_mem h2;rw[List.pairwise_iff_getElem]at hp;rcases Nat.lt_trichotomy x y with h|h|h
  .have:=hp x y hx hy h
   rw[ex,ey]at this;omega
  .subst h
   rw[ex]at ey;omega
  .have:=hp y x hy hx h
   rw[ex,ey]at this;omega
 rcases Nat.lt_trichotomy a b with h|h|h
 .exact(key a b h hb h1 h2).elim
 .exact h
 .exact(key b a h ha h2 h1).elim
end
theorem oO{t:Tr}{S:List Int}{m:Nat}(hb:∀j,j<m->1<=S.getD j 0):∀(l:List Int) (p:Int),p<m->eatI t S l p=true -> -1<=p/\∀k∈l,-1<=stt S k/\stt S k<k/\k<=p/\0<=k/\cS (t.nd k).kind=true
 | [],p,hp,h=>by simp[eatI]at h;simp;omega
 | k::l,p,hp,h=>by
   rw[eatI]at h;split at h
   .cases h
   .rename_i hc
    simp only[Bool.or_eq_true,bne_iff_ne,ne_eq,decide_eq_true_eq,not_or,Classical.not_not,Bool.not_eq_true',Bool.not_eq_false]at hc;obtain⟨⟨hc1,rfl⟩,hc3⟩:=hc;have h1:=hb k.toNat (by omega);obtain⟨h2,h3⟩:=oO hb l _ (by omega) h;refine⟨by omega,fun x hx=>?_⟩;rcases List.mem_cons.1 hx with rfl|hx
    .exact⟨by unfold stt;omega,by unfold stt;omega,Int.le_refl _,by omega,hc3⟩
    .have:=h3 x hx
     exact⟨this.1,this.2.1,by omega,this.2.2.2⟩
theorem sF{t:Tr}{S:List Int}:∀(l:List Int) (p:Int),eatI t S l p=true->∀j,0<=j->j<=p->∃k∈l,stt S k<j/\j<=k
 | [],p,h,j,h1,h2=>by simp[eatI]at h;omega
 | k::l,p,h,j,h1,h2=>by
   rw[eatI]at h;split at h
   .cases h
   .rename_i hc
    simp only[Bool.or_eq_true,bne_iff_ne,ne_eq,decide_eq_true_eq,not_or,Classical.not_not,Bool.not_eq_true',Bool.not_eq_false]at hc;obtain⟨⟨hc1,rfl⟩,hc3⟩:=hc;by_cases hj:stt S k<j
    .exact⟨k,by simp,hj,h2⟩
    .obtain⟨k',h3,h4⟩:=sF l _ h j h1 (by unfold stt at hj;omega)
     exact⟨k',by simp[h3],h4⟩
theorem vL{t:Tr}{S:List Int}{m:Nat}(hb:∀j,j<m->1<=S.getD j 0):∀(l:List Int) (p:Int),p<m->eatI t S l p=true->l.Pairwise (fun a b=>b<=stt S a)
 | [],p,hp,h=>.nil
 | k::l,p,hp,h=>by
   rw[eatI]at h;split at h
   .cases h
   .rename_i hc
    simp only[Bool.or_eq_true,bne_iff_ne,ne_eq,decide_eq_true_eq,not_or,Classical.not_not,Bool.not_eq_true',Bool.not_eq_false]at hc;obtain⟨⟨hc1,rfl⟩,hc3⟩:=hc;have h1:=hb k.toNat (by omega);refine .cons (fun x hx=>?_) (vL hb l _ (by omega) h);exact((oO hb l _ (by omega) h).2 x hx).2.2.1
structure Good (t:Tr) (S:List Int):Prop extends Placed t S where
 right:∀i,i<t.nodes.length->cO t i=true
 root:eatI t S t.items.reverse ((t.nodes.length:Int)-1)=true
theorem tJ{t:Tr}(h:gP t=true):Good t (dO t):=by
 simp only[gP,Bool.and_eq_true,beq_iff_eq]at h;obtain⟨h1,h2,h3⟩:=h;exact⟨wH (lM h1),fun i hi=>List.all_eq_true.1 h2 i (List.mem_range.2 hi),h3⟩
section
variable {t : Tr} {S : List Int} (G : Good t S)
include G
theorem Good.item:∀k∈t.items,-1<=stt S k/\stt S k<k/\k<(t.nodes.length:Int)/\0<=k/\cS (t.nd k).kind=true:=fun k hk=>by
 have:=(oO G.one _ _ (by omega) G.root).2 k (by simpa using hk);exact⟨this.1,this.2.1,by omega,this.2.2.2⟩
theorem Good.items:t.items.Pairwise (fun a b=>a<=stt S b):=by
 have:=vL G.one _ _ (by omega) G.root;rwa[List.pairwise_reverse]at this
theorem Good.coverI{j:Int}(h0:0<=j)(h1:j<t.nodes.length):∃k∈t.items,stt S k<j/\j<=k:=by
 obtain⟨k,h3,h4⟩:=sF _ _ G.root j h0 (by omega);exact⟨k,by simpa using h3,h4⟩
theorem Good.kidOrItem{j:Nat}(hj:j<t.nodes.length):(j:Int)∈t.items\/∃i:Nat,i<t.nodes.length/\(j:Int)∈(t.nd i).kids:=by
 obtain⟨k,hk,h1,h2⟩:=G.coverI (j:=j) (by omega) (by omega);obtain⟨h3,h4,h5,h6,hz⟩:=G.item k hk;obtain⟨k,rfl⟩:=Int.eq_ofNat_of_zero_le h6;by_cases e:j=k
 .subst e;exact .inl hk
 .refine .inr ?_
  have ha:k<t.nodes.length:=by omega
  have hb:j<k:=by omega
  clear hk h3 h5 h6 e h2 h4 hz;revert h1 ha hb
  induction k using Nat.strongRecOn with
  | _ k ih=>
    intro h1 ha hb;obtain⟨c,hc,h7,h8⟩:=G.cover ha h1 (by omega);obtain⟨c1,c2,c3,c4⟩:=G.kid ha c hc;obtain⟨c,rfl⟩:=Int.eq_ofNat_of_zero_le c4;by_cases e:j=c
    .subst e;exact⟨k,ha,hc⟩
    .exact ih c (by omega) h7 (by omega) (by omega)
end
theorem oI{t:Tr}{i:Nat}(h:i<t.nodes.length):t.nd (i:Int)=t.nodes[i]:=t.nd_at h
theorem Good.parent_of{t:Tr}{S:List Int}(G:Good t S){i:Nat}{j:Int}(hi:i<t.nodes.length)(h:j∈(t.nd i).kids):parent t j=i:=by
 obtain⟨a1,a2,a3,a4⟩:=G.kid hi j h;obtain⟨j,rfl⟩:=Int.eq_ofNat_of_zero_le a4
 have ha:dS t.nodes (j:Int) i=true:=by
  simp only[dS,hasI,List.getElem?_eq_getElem hi,Option.map_some,Option.getD_some];rw[oI hi]at h;exact List.contains_iff_mem.2 h
 unfold parent
 have key:∀(f k:Nat),i-k<=f->k<=i->(j:Int)<k->first (dS t.nodes (j:Int)) t.nodes.length k=i:=by
  intro f
  induction f with
  | zero => intro k hf hk _;obtain rfl:k=i:=by omega
            exact zX hi ha
  | succ f ih=>
    intro k hf hk hd;by_cases e:k=i
    .subst e;exact zX hi ha
    .have hb:dS t.nodes (j:Int) k=false:=by
      rw[Bool.eq_false_iff];intro hc;simp only[dS,hasI,List.getElem?_eq_getElem (show k<t.nodes.length by omega),Option.map_some,Option.getD_some]at hc;have hc:=List.contains_iff_mem.1 hc;rw[<-oI]at hc;exact e (G.unique (by omega) hi hc h)
     rw[bV (by omega) hb];exact ih (k+1) (by omega) (by omega) (by omega)
 exact key i _ (by omega) (by omega) (by omega)
theorem zz{t:Tr}{j:Int}(h:0<=parent t j):∃i:Nat,parent t j=i/\i<t.nodes.length/\j∈(t.nd i).kids:=by
 obtain⟨m,h1,h2,h3,h4⟩:=eJ _ _ nlr h;refine⟨m,h1,h3,?_⟩;simp only[dS,hasI,List.getElem?_eq_getElem h3,Option.map_some,Option.getD_some]at h4;rw[oI h3];exact List.contains_iff_mem.1 h4
theorem Good.kidKind{t:Tr}{S:List Int}(G:Good t S){i:Nat}{j:Int}(hi:i<t.nodes.length)(h:j∈(t.nd i).kids):cS (t.nd j).kind=false:=by
 have hr:=G.right i hi;simp only[cO,iB,Bool.and_eq_true]at hr;obtain⟨x,hx,rfl⟩:=List.getElem_of_mem h;have:=List.all_eq_true.1 hr.2 x (List.mem_range.2 hx);simp only[qR,Bool.and_eq_true,List.getD_eq_getElem?_getD,List.getElem?_eq_getElem hx,Option.getD_some]at this;have h1:=this.1;revert h1;generalize (t.nd (t.nd i).kids[x]).kind=d;generalize (t.nd i).kind=k;intro h1;rw[Bool.eq_false_iff];intro hd;simp only[cS,Bool.and_eq_true,decide_eq_true_eq]at hd;simp only[kidK,cH,zn]at h1;split at h1
 .simp at h1;omega
 split at h1
 .simp at h1;omega
 split at h1
 .simp at h1;omega
 split at h1
 .simp at h1;omega
 split at h1
 .split at h1
  .simp at h1;omega
  .split at h1
   .simp at h1;omega
   .simp at h1;omega
 .simp at h1;omega
theorem Good.noParent{t:Tr}{S:List Int}(G:Good t S){j:Int}(h:j∈t.items):parent t j = -1:=by
 by_cases hp:0<=parent t j
 .obtain⟨i,h1,h2,h3⟩:=zz hp
  have:=(G.item j h).2.2.2.2;rw[G.kidKind h2 h3]at this;cases this
 .have:=oP (p:=dS t.nodes j) (n:=t.nodes.length) _ (j+1).toNat nlr
  have : -1<=parent t j:=this;omega
theorem Good.parent_yes{t:Tr}{S:List Int}(G:Good t S){j:Nat}(hj:j<t.nodes.length)(h:(j:Int) ∉ t.items):0<=parent t j:=by
 rcases G.kidOrItem hj with h1|⟨i,h1,h2⟩
 .exact(h h1).elim
 .rw[G.parent_of h1 h2];omega
theorem Good.many{t:Tr}{S:List Int}(G:Good t S){i:Nat}(hi:i<t.nodes.length):zD (t.nd i).kind (t.nd i).n (t.nd i).kids.length=true:=by
 have hr:=G.right i hi;simp only[cO,Bool.and_eq_true]at hr;exact hr.1.1.1.1.2
theorem lP{t:Tr}(bd:Bd t)(h:aG t=0):WF t:=by
 have hf:gP t=true:=by
  unfold aG at h;split at h
  .cases h
  .split at h
   .assumption
   .cases h
 have G:=tJ hf;refine⟨bd,fun i hi k hk=>?_,fun k hk=>?_,fun i hi hk=>?_,fun i hi hk=>?_,fun i hi hk=>?_⟩
 .rw[<-oI hi]at hk
  have:=G.kid hi k hk;omega
 .have:=G.item k hk
  omega
 .have:=G.many hi
  rw[oI hi,hk]at this;simp[zD]at this;omega
 .have:=G.many hi
  rw[oI hi,hk]at this;simp[zD]at this;omega
 .refine G.parent_yes hi fun hc=>?_
  have:=(G.item _ hc).2.2.2.2;rw[oI hi,hk]at this;cases this
end
section
open Go.RowKit
def goK(g:Int->Int->Option Int):List Int->Int->Option Int
 | [],p=>some p
 |k::l,p=>(g k p).bind (goK g l)
def dP(t:Tr):Nat->Int->Int->Int->Option Int
 |0,_,_,_=>none
 |f+1,i,d,p=>(goK (fun k q=>dP t f k (d+1) q) (t.nd i).kids p).bind fun m=>if i != m then none else if cS (t.nd i).kind==(d==1)then some (m+1)else none
def ordF(t:Tr):List Int->Int->Option Int
 | [],p=>some p
 |i::l,p=>if decide (p<=i)&&decide (i<=(t.nodes.length:Int)-1)then (dP t (i+1).toNat i 1 p).bind (ordF t l)else none
def aF(t:Tr):Bool:=ordF t t.items 0==some (t.nodes.length:Int)
theorem tI(g:Int->Int->Option Int):∀(l:List Int) (k p:Int),goK g (l++[k]) p=(goK g l p).bind (g k)
 | [],k,p=>by simp[goK]
 | a::l,k,p=>by
   simp only[List.cons_append,goK]
   cases g a p with
   |none=>rfl
   |some m=>simp only[Option.bind_some];exact tI g l k m
theorem qT(t:Tr):∀(l:List Int) (k p:Int),ordF t (l++[k]) p=(ordF t l p).bind (fun q=>ordF t [k] q)
 | [],k,p=>by simp[ordF]
 | a::l,k,p=>by
   simp only[List.cons_append];rw[ordF,ordF];split
   .cases dP t (a+1).toNat a 1 p with
    |none=>rfl
    |some m=>simp only[Option.bind_some];exact qT t l k m
   .rfl
theorem wS{t:Tr}{a b:Nat}{o o':List Int}(h:zJ t a=some o)(h':zJ t b=some o')(hab:a<=b):∀j,j<a->o.getD j 0=o'.getD j 0:=by
 have:=jX h' a hab;rw[h]at this;obtain rfl:=Option.some.inj this;intro j hj;rw[List.getD_eq_getElem?_getD,List.getElem?_take,if_pos hj,<-List.getD_eq_getElem?_getD]
theorem oG(t:Tr):∀(f:Nat) (i d:Int) (p:Nat) (m:Int) (o:List Int),zJ t p=some o->dP t f i d p=some m ->
 m=i+1/\(p:Int)<=i/\cS (t.nd i).kind=(d==1)/\∃o',zJ t m.toNat=some o'/\o'.getD i.toNat 0=i+1-p
 |0,i,d,p,m,o,ho,h=>by simp[dP]at h
 | f+1,i,d,p,m,o,ho,h=>by
   simp only[dP,Option.bind_eq_some_iff]at h;obtain⟨q,h1,h2⟩:=h
   have key:∀(l:List Int) (q:Int),goK (fun k q=>dP t f k (d+1) q) l p=some q->(p:Int)<=q/\∃o',zJ t q.toNat=some o'/\eatK o' l.reverse (q-1)=some ((p:Int)-1):=by
    intro l
    induction hl:l.length generalizing l with
    | zero=>
      intro q hq;obtain rfl:=List.eq_nil_of_length_eq_zero hl;simp only[goK,Option.some.injEq]at hq;subst hq;exact⟨Int.le_refl _,o,by simpa using ho,by simp[eatK]⟩
    | succ n ih=>
      intro q hq;obtain⟨l',k,rfl⟩:∃l' k,l=l'++[k]:=⟨l.dropLast,l.getLast (by intro e;simp[e]at hl),(List.dropLast_concat_getLast _).symm⟩
      rw[tI,Option.bind_eq_some_iff]at hq;obtain⟨q1,hk,hm⟩:=hq;obtain⟨hp,o1,hb,hh⟩:=ih l' (by simpa using hl) q1 hk;obtain⟨q1,rfl⟩:=Int.eq_ofNat_of_zero_le (show 0<=q1 by omega);obtain⟨rfl,hle,_,o2,hf,hg⟩:=oG t f k (d+1) q1 q o1 (by simpa using hb) hm;refine⟨by omega,o2,hf,?_⟩;simp only[List.reverse_append,List.reverse_cons,List.reverse_nil,List.nil_append,List.cons_append,eatK];rw[if_neg (by simp;omega)];have e1:(k+1-1).toNat=k.toNat:=by omega
      rw[e1,hg,show k+1-1-(k+1-(q1:Int))=q1-1 by omega];have hd:=wS (a:=q1) (by simpa using hb) hf (by omega);rw[<-kI hd (fun j hj=>(dY _ _ (by simpa using hb) j hj).1) _ _ (by omega),<-hh]
   obtain⟨hi,o',ha,he⟩:=key _ q h1;split at h2
   .cases h2
   .rename_i hc
    obtain rfl:i=q:=by simpa using hc
    split at h2
    .rename_i hc2
     obtain rfl:i+1=m:=by simpa using h2
     refine⟨rfl,hi,by simpa using hc2,?_⟩;obtain⟨i,rfl⟩:=Int.eq_ofNat_of_zero_le (show 0<=i by omega);refine⟨o'++[(i:Int)-((p:Int)-1)],?_,?_⟩
     .rw[show((i:Int)+1).toNat=i+1 by omega,zJ]
      rw[show(i:Int).toNat=i from rfl]at ha;rw[ha];simp[he]
     .have hl:=bO _ _ ha
      rw[List.getD_eq_getElem?_getD,List.getElem?_append_right (by omega),hl];simp;omega
    .cases h2
theorem AH(t:Tr):∀(l:List Int) (q:Int),ordF t l 0=some q->0<=q/\∃o,zJ t q.toNat=some o/\eatI t o l.reverse (q-1)=true:=by
 intro l
 induction hl:l.length generalizing l with
 | zero=>
   intro q hq;obtain rfl:=List.eq_nil_of_length_eq_zero hl;simp only[ordF,Option.some.injEq]at hq;subst hq;exact⟨Int.le_refl _,[],by simp[zJ],by simp[eatI]⟩
 | succ n ih=>
   intro q hq;obtain⟨l',k,rfl⟩:∃l' k,l=l'++[k]:=⟨l.dropLast,l.getLast (by intro e;simp[e]at hl),(List.dropLast_concat_getLast _).symm⟩
   rw[qT,Option.bind_eq_some_iff]at hq;obtain⟨q1,hj,ha⟩:=hq;obtain⟨hp,o1,hd,hi⟩:=ih l' (by simpa using hl) q1 hj;obtain⟨q1,rfl⟩:=Int.eq_ofNat_of_zero_le hp;simp only[ordF]at ha;split at ha
   .rename_i hc
    simp only[Bool.and_eq_true,decide_eq_true_eq]at hc;rw[Option.bind_eq_some_iff]at ha;obtain⟨q2,ha,hh⟩:=ha;simp only[Option.some.injEq]at hh;subst hh;obtain⟨rfl,hle,hk,o2,hf,hg⟩:=oG t _ k 1 q1 q2 o1 (by simpa using hd) ha;refine⟨by omega,o2,hf,?_⟩;simp only[List.reverse_append,List.reverse_cons,List.reverse_nil,List.nil_append,List.cons_append,eatI];have e1:(k+1-1:Int)=k:=by omega
    rw[e1,if_neg (by simp[hk];omega),hg,show k-(k+1-(q1:Int))=q1-1 by omega];have he:=wS (a:=q1) (by simpa using hd) hf (by omega)
    have hb:∀(l:List Int) (p:Int),p<q1->eatI t o1 l p=eatI t o2 l p:=by
     intro l
     induction l with
     |nil=>intro p _;rfl
     | cons x l ih2=>
       intro p hp;simp only[eatI];by_cases hc:(decide (p<0)||x != p || !cS (t.nd p).kind)=true
       .rw[if_pos hc,if_pos hc]
       .rw[if_neg hc,if_neg hc]
        simp only[Bool.or_eq_true,bne_iff_ne,ne_eq,decide_eq_true_eq,not_or,Classical.not_not]at hc;rw[<-he p.toNat (by omega)];have:=(dY _ _ (by simpa using hd) p.toNat (show p.toNat<q1 by omega)).1;exact ih2 _ (by omega)
    rw[<-hb _ _ (by omega)];exact hi
   .cases ha
theorem Good.walk{t:Tr}{S:List Int}(G:Good t S):∀(f:Nat) (i:Nat) (d:Int),i<f->i<t.nodes.length->cS (t.nd i).kind=(d==1)->1<=d->dP t f i d (stt S i+1)=some ((i:Int)+1)
 |0,i,d,h,_,_,_=>by omega
 | f+1,i,d,h,hi,hk,hd=>by
   have key:∀(l:List Int) (p q:Int),p<t.nodes.length->(∀k∈l,dP t f k (d+1) (stt S k+1)=some (k+1))->eatK S l.reverse p=some q->goK (fun k q=>dP t f k (d+1) q) l (q+1)=some (p+1):=by
    intro l
    induction hl:l.length generalizing l with
    | zero=>
      intro p q _ _ he;obtain rfl:=List.eq_nil_of_length_eq_zero hl;simp only[List.reverse_nil,eatK,Option.some.injEq]at he;subst he;rfl
    | succ n ih=>
      intro p q hp hw he;obtain⟨l',k,rfl⟩:∃l' k,l=l'++[k]:=⟨l.dropLast,l.getLast (by intro e;simp[e]at hl),(List.dropLast_concat_getLast _).symm⟩
      simp only[List.reverse_append,List.reverse_cons,List.reverse_nil,List.nil_append,List.cons_append,eatK]at he;split at he
      .cases he
      .rename_i hc
       simp only[Bool.or_eq_true,bne_iff_ne,ne_eq,decide_eq_true_eq,not_or,Classical.not_not]at hc;obtain⟨rfl,hc⟩:=hc;have hb:=G.one k.toNat (by omega);rw[tI,ih l' (by simpa using hl) (k-S.getD k.toNat 0) q (by omega) (fun x hx=>hw x (by simp[hx])) he];simp only[Option.bind_some];exact hw k (by simp)
   simp only[dP];have he:=G.eat i hi;have hs:stt S i+1=(i:Int)-S.getD i 0+1:=by simp[stt]
   rw[hs,key (t.nd i).kids ((i:Int)-1) ((i:Int)-S.getD i 0) (by omega) (fun k hk=>?_) he]
   .simp only[Option.bind_some]
    rw[if_neg (by simp),if_pos (by simp[hk])];simp
   .obtain⟨h1,h2,h3,h4⟩:=G.kid hi k hk
    have ha:=G.kidKind hi hk;obtain⟨k,rfl⟩:=Int.eq_ofNat_of_zero_le h4;exact Good.walk G f k (d+1) (by omega) (by omega) (by rw[ha];symm;simp;omega) (by omega)
theorem Good.ordered{t:Tr}{S:List Int}(G:Good t S):aF t=true:=by
 have key:∀(l:List Int) (p:Int),p<t.nodes.length -> -1<=p->eatI t S l.reverse p=true->ordF t l 0=some (p+1):=by
  intro l
  induction hl:l.length generalizing l with
  | zero=>
    intro p _ _ he;obtain rfl:=List.eq_nil_of_length_eq_zero hl;simp only[List.reverse_nil,eatI,beq_iff_eq]at he;subst he;rfl
  | succ n ih=>
    intro p hp hd he;obtain⟨l',k,rfl⟩:∃l' k,l=l'++[k]:=⟨l.dropLast,l.getLast (by intro e;simp[e]at hl),(List.dropLast_concat_getLast _).symm⟩
    simp only[List.reverse_append,List.reverse_cons,List.reverse_nil,List.nil_append,List.cons_append,eatI]at he;split at he
    .cases he
    .rename_i hc
     simp only[Bool.or_eq_true,bne_iff_ne,ne_eq,decide_eq_true_eq,not_or,Classical.not_not,Bool.not_eq_true',Bool.not_eq_false]at hc;obtain⟨⟨hc,rfl⟩,ha⟩:=hc;have hb:=G.bd k.toNat (by omega);rw[qT,ih l' (by simpa using hl) (k-S.getD k.toNat 0) (by omega) (by omega) he];simp only[Option.bind_some,ordF];rw[if_pos (by simp only[Bool.and_eq_true,decide_eq_true_eq];omega)];obtain⟨k,rfl⟩:=Int.eq_ofNat_of_zero_le (show 0<=k by omega);have:=G.walk ((k:Int)+1).toNat k 1 (by omega) (by omega) (by rw[ha];rfl) (Int.le_refl _);rw[show(k:Int)-S.getD (k:Int).toNat 0+1=stt S k+1 from rfl,this];rfl
 have:=key _ _ (by omega) (by omega) G.root;unfold aF;rw[this];simp
theorem rP{t:Tr}(h:aF t=true):(dO t).length=t.nodes.length/\eatI t (dO t) t.items.reverse ((t.nodes.length:Int)-1)=true:=by
 obtain⟨_,o,h1,h2⟩:=AH t _ _ (by simpa[aF]using h);have h1:zJ t t.nodes.length=some o:=by simpa using h1
 have:dO t=o:=by unfold dO;rw[h1];rfl
 rw[this];exact⟨bO _ _ h1,h2⟩
inductive PK where
 |expr|kind|param|put|num
deriving DecidableEq
def PK.B:PK->Int->Bool
 |.expr=>zn
 |.kind=>cH
 |.param=>fun k=>k==34
 |.put=>fun k=>k==25
 |.num=>fun k=>k==1
abbrev Part:=Int×Int×PK
structure Shape where
 named:Bool
 lo:Int
 hi:Int
 parts:List Part
def askP(n:Int):Shape:=if n==7 then ⟨false,1,8,[]⟩else if n==8 then ⟨false,1,8,[(1,801,.expr)]⟩else ⟨false,1,8,[(1,1,.expr)]⟩
def fV(k n:Int):Option Shape:=
 if k==1 then some ⟨false,0,9999,[]⟩
 else if k==2 then some ⟨false,0,1,[]⟩
 else if k==3||k==32||k==45 then some ⟨true,0,0,[]⟩
 else if k==4||k==5 then some ⟨false,0,0,[(1,1,.expr)]⟩
 else if k==19 then some ⟨false,0,0,[(3,3,.expr)]⟩
 else if k==20 then some ⟨true,0,0,[(2,2,.expr)]⟩
 else if k==21 then some ⟨true,0,0,[(0,801,.expr)]⟩
 else if k==22||k==25||k==43||k==44 then some ⟨true,0,0,[(1,1,.expr)]⟩
 else if k==24 then some ⟨true,0,0,[(1,801,.put)]⟩
 else if k==26 then some ⟨false,0,0,[(1,801,.expr)]⟩
 else if k==30||k==31 then some ⟨false,0,0,[]⟩
 else if k==33 then some ⟨false,-9223372036854775808,9223372036854775807,[(1,1,.kind)]⟩
 else if k==34 then some ⟨true,0,0,[(1,1,.kind)]⟩
 else if k==40 then some ⟨true,0,0,[(2,2,.num)]⟩
 else if k==41 then some ⟨true,0,0,[(1,801,.param)]⟩
 else if k==42 then some ⟨true,0,9223372036854775807,[(0,801,.param),(1,1,.kind),(1,1,.expr)]⟩
 else if k==46 then some (askP n)
 else if (decide (6<=k)&&decide (k<=18))||k==23 then some ⟨false,0,0,[(2,2,.expr)]⟩
 else none
def zv(n lo hi:Int):Bool:=decide (lo<=n)&&decide (n<=hi)
theorem inRange_iff{n lo hi:Int}:zv n lo hi=true↔lo<=n/\n<=hi:=by simp[zv]
def leasts:List Part->Int
 | []=>0
 |p::r=>p.1+leasts r
def eK:List Part->List Int->Bool
 | [],ks=>ks.length==0
 | (lo,hi,k)::r,ks=>(zv ((ks.length:Int)-leasts r) lo hi&&(ks.take ((ks.length:Int)-leasts r).toNat).all k.B)&&eK r (ks.drop ((ks.length:Int)-leasts r).toNat)
def bJ(t:Tr)(i:Nat):List Int:=(t.nd i).kids.map fun k=>(t.nd k).kind
def dE(t:Tr)(i:Nat):Bool:=
 match fV (t.nd i).kind (t.nd i).n with
 |none=>false
 |some s=>(zv (t.nd i).pos 0 2000&&(s.named==((t.nd i).text != []))&&(!s.named||zI (t.nd i).text))&&((t.nd i).kids.all (fun k=>zv k 0 ((i:Int)-1)) &&
  (eK s.parts (bJ t i)&&(zv (t.nd i).n s.lo s.hi||(t.nd i).kind==1&&zv (t.nd i).n (-9999) (-1))))
def dI(t:Tr):Bool:=(List.range t.nodes.length).all fun i=>!((t.nd i).kind==1&&decide ((t.nd i).n<0))||t.items.any fun it=>(t.nd it).kind==40&&hasI (t.nd it).kids i
def eU(t:Tr)(i:Nat):Bool:=
 if (t.nd i).kind==40 then zv ((t.nd ((t.nd i).kids.getD 1 0)).n-(t.nd ((t.nd i).kids.getD 0 0)).n+1) 1 12
 else if (t.nd i).kind==41 then decide (((t.nd i).kids.length:Int)<=6)
 else if (t.nd i).kind==42 then decide (((t.nd i).kids.length:Int)-2<=4)&&decide ((t.nd i).n<=8)
 else if (t.nd i).kind==33 then zv (t.nd i).n 1 6
 else if (t.nd i).kind==26 then decide (((t.nd i).kids.length:Int)<=6)
 else if (t.nd i).kind==46 then (t.nd i).n != 8||decide (((t.nd i).kids.length:Int)<=4)
 else true
def aD(t:Tr):Int:=first (fun i=>!eU t i) t.nodes.length 0
def cD(t:Tr):Bool:=(List.range t.nodes.length).all fun i=>dE t i
def fR(t:Tr):Int:=
 if 800<t.nodes.length\/60<t.items.length then 5
 else if !cD t then 4
 else if !(aF t&&dI t)then 4
 else if 30<aP t then 5
 else if 0<=aD t then 3 else 0
theorem bI(ks:List Int):eK [] ks=(ks.length==0):=rfl
theorem zN(l m:Int)(p:PK)(ks:List Int):eK [(l,m,p)] ks=(zv ks.length l m&&ks.all p.B):=by
 simp only[eK,leasts,Int.sub_zero,Int.toNat_natCast,List.take_length,List.drop_length,List.length_nil];simp
theorem MH(ks:List Int):eK [(0,801,.param),(1,1,.kind),(1,1,.expr)] ks=true↔∃l a b,ks=l++[a,b]/\l.length<=801/\l.all (fun k=>k==34)=true/\cH a=true/\zn b=true:=by
 constructor
 .intro h
  simp only[eK,leasts,Bool.and_eq_true,inRange_iff]at h;obtain⟨⟨⟨h1,h2⟩,h3⟩,⟨⟨h4,h5⟩,h6⟩,⟨⟨h7,h8⟩,h9⟩,hb⟩:=h;obtain⟨n,hn⟩:∃n:Nat,ks.length=n+2:=⟨ks.length-2,by omega⟩
  have e1:((ks.length:Int)-(1+(1+0))).toNat=n:=by omega
  rw[e1]at h3 h4 h5 h6 h7 h8 h9 hb
  obtain⟨a,b,ha⟩:∃a b,ks.drop n=[a,b]:=by
   have hl:(ks.drop n).length=2:=by simp;omega
   match hx:ks.drop n,hl with
   | [a,b],_=>exact⟨a,b,rfl⟩
  rw[ha]at h6 h9;refine⟨ks.take n,a,b,by rw[<-ha,List.take_append_drop],by simp;omega,h3,by simpa[PK.B]using h6,by simpa[PK.B]using h9⟩
 .rintro⟨l,a,b,rfl,h1,h2,h3,h4⟩
  have e1:(((l++[a,b]).length:Int)-(1+(1+0))).toNat=l.length:=by simp
  have e2:(l++[a,b]).take l.length=l:=by simp
  have e3:(l++[a,b]).drop l.length=[a,b]:=by simp
  simp only[eK,leasts,e1,e2,e3,Bool.and_eq_true,inRange_iff];exact⟨⟨⟨by simp,by simp;omega⟩,h2⟩,⟨⟨by simp,by simp⟩,by simpa[PK.B]using h3⟩,⟨⟨by simp,by simp⟩,by simpa[PK.B]using h4⟩,by simp⟩
def allK(k:Int)(ks:List Int):Bool:=(List.range ks.length).all fun j=>kidK k ks.length j (ks.getD j 0)
theorem GX(p:Int->Bool)(ks:List Int):((List.range ks.length).all fun j=>p (ks.getD j 0))=ks.all p:=by
 rw[Bool.eq_iff_iff];simp only[List.all_eq_true,List.mem_range];constructor
 .intro h k hk
  obtain⟨j,hj,rfl⟩:=List.getElem_of_mem hk;have:=h j hj;simpa[hj]using this
 .intro h j hj
  have:=h ks[j] (List.getElem_mem hj);simpa[hj]using this
theorem zx{k:Int}{ks:List Int}(p:Int->Bool)(h:∀m j d:Int,kidK k m j d=p d):allK k ks=ks.all p:=by
 unfold allK;simp only[h];exact GX p ks
theorem oQ{k:Int}(h:okK k=true):k=1\/k=2\/k=3\/k=4\/k=5\/k=6\/k=7\/k=8\/k=9\/k=10\/k=11\/k=12\/k=13\/k=14\/k=15\/k=16\/k=17\/k=18\/k=19\/k=20\/k=21\/k=22\/k=23\/k=24\/k=25\/k=26\/k=30\/k=31\/k=32\/k=33\/k=34\/k=40\/k=41\/k=42\/k=43\/k=44\/k=45\/k=46:=by
 simp[okK,zn,cH,cS]at h;omega
theorem kO{k n:Int}(h:okK k=false):fV k n=none:=by
 have h':¬(okK k=true):=by rw[h];exact Bool.false_ne_true
 simp[okK,zn,cH,cS]at h';unfold fV
 repeat rw[if_neg (by simp;omega)]
theorem GY(n:Int):(askP n).named=false:=by unfold askP;split<;>(try split)<;>rfl
theorem NL{k:Int}(n:Int)(h:okK k=true):∃s,fV k n=some s/\s.named=eO k:=by
 rcases oQ h with rfl|rfl|rfl|rfl|rfl|rfl|rfl|rfl|rfl|rfl|rfl|rfl|rfl|rfl|rfl|rfl|rfl|rfl|rfl|rfl|rfl|rfl|rfl|rfl|rfl|rfl|rfl|rfl|rfl|rfl|rfl|rfl|rfl|rfl|rfl|rfl|rfl|rfl
 all_goals exact⟨_,rfl,by first|rfl|exact GY n⟩
theorem PL(n:Int)(ks:List Int)(hl:ks.length<=801):(eK (askP n).parts ks&&(zv n (askP n).lo (askP n).hi||(46:Int)==1&&zv n (-9999) (-1)))=(zD 46 n ks.length&&zB 46 n&&allK 46 ks):=by
 have e:(askP n).lo=1/\(askP n).hi=8:=by unfold askP;split<;>(try split)<;>exact⟨rfl,rfl⟩
 rw[e.1,e.2,zx zn (by intro m j d;simp[kidK])];unfold askP;by_cases h7:n=7
 .subst h7
  cases ks with
  |nil=>simp[bI,zD,zB,zv]
  |cons a r=>simp[bI,zD];omega
 .by_cases h8:n=8
  .subst h8
   simp only[show((8:Int)==7)=false from rfl,show((8:Int)==8)=true from rfl,if_true,if_false,Bool.false_eq_true];rw[zN];simp only[PK.B];generalize ks.all _=A;cases A
   .simp
   .rw[Bool.eq_iff_iff];simp[zD,zB,inRange_iff];omega
  .simp only[show(n==7)=false by simpa using h7,show(n==8)=false by simpa using h8,if_false,Bool.false_eq_true]
   rw[zN];simp only[PK.B];generalize ks.all _=A;cases A
   .simp
   .rw[Bool.eq_iff_iff];simp[zD,zB,inRange_iff,h7,h8];omega
theorem PJ(n:Int)(ks:List Int)(hl:ks.length<=801)(hn : -9223372036854775808<=n/\n<=9223372036854775807) :
 (eK [(0,801,.param),(1,1,.kind),(1,1,.expr)] ks&&(zv n 0 9223372036854775807||(42:Int)==1&&zv n (-9999) (-1)))=(zD 42 n ks.length&&zB 42 n&&allK 42 ks):=by
 have e1:(zv n 0 9223372036854775807||(42:Int)==1&&zv n (-9999) (-1))=zB 42 n:=by
  rw[Bool.eq_iff_iff];simp[zB,inRange_iff];omega
 rw[e1]
 have e2:eK [(0,801,.param),(1,1,.kind),(1,1,.expr)] ks=(zD 42 n ks.length&&allK 42 ks):=by
  rw[Bool.eq_iff_iff,MH];have hm:zD 42 n ks.length=decide (2<=(ks.length:Int)):=rfl;rw[hm,Bool.and_eq_true,decide_eq_true_eq];have hk:∀m j d:Int,kidK 42 m j d=if j==m-1 then zn d else if j==m-2 then cH d else d==34:=fun m j d=>by simp[kidK]
  constructor
  .rintro⟨l,a,b,rfl,h1,h2,h3,h4⟩
   refine⟨by simp;omega,?_⟩;unfold allK;simp only[List.all_eq_true,List.mem_range,hk];intro j hj;simp only[List.length_append,List.length_cons,List.length_nil]at hj|-;by_cases c1:j=l.length+1
   .subst c1
    rw[if_pos (by simp;omega)];simpa[List.getD_eq_getElem?_getD,List.getElem?_append_right]using h4
   .rw[if_neg (by simp;omega)]
    by_cases c2:j=l.length
    .subst c2
     rw[if_pos (by simp)];simpa[List.getD_eq_getElem?_getD,List.getElem?_append_right]using h3
    .rw[if_neg (by simp;omega)]
     have ha:j<l.length:=by omega
     rw[List.getD_eq_getElem?_getD,List.getElem?_append_left ha,List.getElem?_eq_getElem ha];exact List.all_eq_true.1 h2 _ (List.getElem_mem ha)
  .rintro⟨h1,h2⟩
   obtain⟨m,hm⟩:∃m:Nat,ks.length=m+2:=⟨ks.length-2,by omega⟩
   obtain⟨a,b,hd⟩:∃a b,ks.drop m=[a,b]:=by
    have hl:(ks.drop m).length=2:=by simp;omega
    match hx:ks.drop m,hl with
    | [a,b],_=>exact⟨a,b,rfl⟩
   have hb:ks=ks.take m++[a,b]:=by rw[<-hd,List.take_append_drop]
   have hc:(ks.take m).length=m:=by simp;omega
   unfold allK at h2;simp only[List.all_eq_true,List.mem_range,hk]at h2;refine⟨ks.take m,a,b,hb,by omega,?_,?_,?_⟩
   .rw[List.all_eq_true]
    intro x hx;obtain⟨j,hj,rfl⟩:=List.getElem_of_mem hx;have:=h2 j (by omega);rw[if_neg (by simp;omega),if_neg (by simp;omega)]at this;simpa[show j<ks.length by omega]using this
   .have:=h2 m (by omega)
    rw[if_neg (by simp;omega),if_pos (by simp;omega)]at this;rw[hb,List.getD_eq_getElem?_getD,List.getElem?_append_right (by omega),hc]at this;simpa using this
   .have:=h2 (m+1) (by omega)
    rw[if_pos (by simp;omega)]at this;rw[hb,List.getD_eq_getElem?_getD,List.getElem?_append_right (by omega),hc]at this;simpa using this
 rw[e2];cases zD 42 n ks.length<;>cases allK 42 ks<;>cases zB 42 n<;>rfl
theorem EY{k n:Int}{s:Shape}(hs:fV k n=some s)(ks:List Int)(hl:ks.length<=801)(hn : -9223372036854775808<=n/\n<=9223372036854775807) :
 (eK s.parts ks&&(zv n s.lo s.hi||k==1&&zv n (-9999) (-1)))=(zD k n ks.length&&zB k n&&allK k ks):=by
 have ha:okK k=true:=by
  cases h:okK k with
  |true=>rfl
  |false=>rw[kO h]at hs;cases hs
 have e1:∀a b:Int,zv n a b=true↔a<=n/\n<=b:=fun _ _=>inRange_iff;have hb:(ks.length:Int)<=801:=by omega
 rcases oQ ha with rfl|rfl|rfl|rfl|rfl|rfl|rfl|rfl|rfl|rfl|rfl|rfl|rfl|rfl|rfl|rfl|rfl|rfl|rfl|rfl|rfl|rfl|rfl|rfl|rfl|rfl|rfl|rfl|rfl|rfl|rfl|rfl|rfl|rfl|rfl|rfl|rfl|rfl
 all_goals simp[fV]at hs
 all_goals try subst hs
 .cases ks with
  |nil=>rw[Bool.eq_iff_iff];simp[bI,zD,zB,allK,inRange_iff];try omega
  |cons a r=>rw[bI];simp[zD];try omega
 .cases ks with
  |nil=>rw[Bool.eq_iff_iff];simp[bI,zD,zB,allK,inRange_iff];try omega
  |cons a r=>rw[bI];simp[zD];try omega
 .cases ks with
  |nil=>rw[Bool.eq_iff_iff];simp[bI,zD,zB,allK,inRange_iff];try omega
  |cons a r=>rw[bI];simp[zD];try omega
 .rw[zN,zx zn (by intro m j d;simp[kidK])];simp only[PK.B];generalize ks.all _=A;cases A
  .simp
  .rw[Bool.eq_iff_iff];simp[zD,zB,inRange_iff];try omega
 .rw[zN,zx zn (by intro m j d;simp[kidK])];simp only[PK.B];generalize ks.all _=A;cases A
  .simp
  .rw[Bool.eq_iff_iff];simp[zD,zB,inRange_iff];try omega
 .rw[zN,zx zn (by intro m j d;simp[kidK])];simp only[PK.B];generalize ks.all _=A;cases A
  .simp
  .rw[Bool.eq_iff_iff];simp[zD,zB,inRange_iff];try omega
 .rw[zN,zx zn (by intro m j d;simp[kidK])];simp only[PK.B];generalize ks.all _=A;cases A
  .simp
  .rw[Bool.eq_iff_iff];simp[zD,zB,inRange_iff];try omega
 .rw[zN,zx zn (by intro m j d;simp[kidK])];simp only[PK.B];generalize ks.all _=A;cases A
  .simp
  .rw[Bool.eq_iff_iff];simp[zD,zB,inRange_iff];try omega
 .rw[zN,zx zn (by intro m j d;simp[kidK])];simp only[PK.B];generalize ks.all _=A;cases A
  .simp
  .rw[Bool.eq_iff_iff];simp[zD,zB,inRange_iff];try omega
 .rw[zN,zx zn (by intro m j d;simp[kidK])];simp only[PK.B];generalize ks.all _=A;cases A
  .simp
  .rw[Bool.eq_iff_iff];simp[zD,zB,inRange_iff];try omega
 .rw[zN,zx zn (by intro m j d;simp[kidK])];simp only[PK.B];generalize ks.all _=A;cases A
  .simp
  .rw[Bool.eq_iff_iff];simp[zD,zB,inRange_iff];try omega
 .rw[zN,zx zn (by intro m j d;simp[kidK])];simp only[PK.B];generalize ks.all _=A;cases A
  .simp
  .rw[Bool.eq_iff_iff];simp[zD,zB,inRange_iff];try omega
 .rw[zN,zx zn (by intro m j d;simp[kidK])];simp only[PK.B];generalize ks.all _=A;cases A
  .simp
  .rw[Bool.eq_iff_iff];simp[zD,zB,inRange_iff];try omega
 .rw[zN,zx zn (by intro m j d;simp[kidK])];simp only[PK.B];generalize ks.all _=A;cases A
  .simp
  .rw[Bool.eq_iff_iff];simp[zD,zB,inRange_iff];try omega
 .rw[zN,zx zn (by intro m j d;simp[kidK])];simp only[PK.B];generalize ks.all _=A;cases A
  .simp
  .rw[Bool.eq_iff_iff];simp[zD,zB,inRange_iff];try omega
 .rw[zN,zx zn (by intro m j d;simp[kidK])];simp only[PK.B];generalize ks.all _=A;cases A
  .simp
  .rw[Bool.eq_iff_iff];simp[zD,zB,inRange_iff];try omega
 .rw[zN,zx zn (by intro m j d;simp[kidK])];simp only[PK.B];generalize ks.all _=A;cases A
  .simp
  .rw[Bool.eq_iff_iff];simp[zD,zB,inRange_iff];try omega
 .rw[zN,zx zn (by intro m j d;simp[kidK])];simp only[PK.B];generalize ks.all _=A;cases A
  .simp
  .rw[Bool.eq_iff_iff];simp[zD,zB,inRange_iff];try omega
 .rw[zN,zx zn (by intro m j d;simp[kidK])];simp only[PK.B];generalize ks.all _=A;cases A
  .simp
  .rw[Bool.eq_iff_iff];simp[zD,zB,inRange_iff];try omega
 .rw[zN,zx zn (by intro m j d;simp[kidK])];simp only[PK.B];generalize ks.all _=A;cases A
  .simp
  .rw[Bool.eq_iff_iff];simp[zD,zB,inRange_iff];try omega
 .rw[zN,zx zn (by intro m j d;simp[kidK])];simp only[PK.B];generalize ks.all _=A;cases A
  .simp
  .rw[Bool.eq_iff_iff];simp[zD,zB,inRange_iff];try omega
 .rw[zN,zx zn (by intro m j d;simp[kidK])];simp only[PK.B];generalize ks.all _=A;cases A
  .simp
  .rw[Bool.eq_iff_iff];simp[zD,zB,inRange_iff];try omega
 .rw[zN,zx zn (by intro m j d;simp[kidK])];simp only[PK.B];generalize ks.all _=A;cases A
  .simp
  .rw[Bool.eq_iff_iff];simp[zD,zB,inRange_iff];try omega
 .rw[zN,zx (fun k=>k==25) (by intro m j d;simp[kidK])];simp only[PK.B];generalize ks.all _=A;cases A
  .simp
  .rw[Bool.eq_iff_iff];simp[zD,zB,inRange_iff];try omega
 .rw[zN,zx zn (by intro m j d;simp[kidK])];simp only[PK.B];generalize ks.all _=A;cases A
  .simp
  .rw[Bool.eq_iff_iff];simp[zD,zB,inRange_iff];try omega
 .rw[zN,zx zn (by intro m j d;simp[kidK])];simp only[PK.B];generalize ks.all _=A;cases A
  .simp
  .rw[Bool.eq_iff_iff];simp[zD,zB,inRange_iff];try omega
 .cases ks with
  |nil=>rw[Bool.eq_iff_iff];simp[bI,zD,zB,allK,inRange_iff];try omega
  |cons a r=>rw[bI];simp[zD];try omega
 .cases ks with
  |nil=>rw[Bool.eq_iff_iff];simp[bI,zD,zB,allK,inRange_iff];try omega
  |cons a r=>rw[bI];simp[zD];try omega
 .cases ks with
  |nil=>rw[Bool.eq_iff_iff];simp[bI,zD,zB,allK,inRange_iff];try omega
  |cons a r=>rw[bI];simp[zD];try omega
 .rw[zN,zx cH (by intro m j d;simp[kidK])];simp only[PK.B];generalize ks.all _=A;cases A
  .simp
  .rw[Bool.eq_iff_iff];simp[zD,zB,inRange_iff];try omega
 .rw[zN,zx cH (by intro m j d;simp[kidK])];simp only[PK.B];generalize ks.all _=A;cases A
  .simp
  .rw[Bool.eq_iff_iff];simp[zD,zB,inRange_iff];try omega
 .rw[zN,zx (fun k=>k==1) (by intro m j d;simp[kidK])];simp only[PK.B];generalize ks.all _=A;cases A
  .simp
  .rw[Bool.eq_iff_iff];simp[zD,zB,inRange_iff];try omega
 .rw[zN,zx (fun k=>k==34) (by intro m j d;simp[kidK])];simp only[PK.B];generalize ks.all _=A;cases A
  .simp
  .rw[Bool.eq_iff_iff];simp[zD,zB,inRange_iff];try omega
 .exact PJ n ks hl hn
 .rw[zN,zx zn (by intro m j d;simp[kidK])];simp only[PK.B];generalize ks.all _=A;cases A
  .simp
  .rw[Bool.eq_iff_iff];simp[zD,zB,inRange_iff];try omega
 .rw[zN,zx zn (by intro m j d;simp[kidK])];simp only[PK.B];generalize ks.all _=A;cases A
  .simp
  .rw[Bool.eq_iff_iff];simp[zD,zB,inRange_iff];try omega
 .cases ks with
  |nil=>rw[Bool.eq_iff_iff];simp[bI,zD,zB,allK,inRange_iff];try omega
  |cons a r=>rw[bI];simp[zD];try omega
 .exact PL n ks hl
def negs(t:Tr)(i:Nat):Bool:=(t.nd i).kids.all fun k=>!((t.nd k).kind==1&&decide ((t.nd k).n<0)&&(t.nd i).kind != 40)
theorem vV(t:Tr)(i:Nat):iB t (t.nd i)=(allK (t.nd i).kind (bJ t i)&&negs t i):=by
 rw[Bool.eq_iff_iff];have hg:∀j,j<(t.nd i).kids.length->(bJ t i).getD j 0=(t.nd ((t.nd i).kids.getD j 0)).kind:=fun j hj=>by simp[bJ,hj]
 have hl:(bJ t i).length=(t.nd i).kids.length:=by simp[bJ]
 simp only[iB,allK,negs,hl,Bool.and_eq_true,List.all_eq_true,List.mem_range,qR];constructor
 .intro h
  refine⟨fun j hj=>by rw[hg j hj];exact(h j hj).1,fun k hk=>?_⟩;obtain⟨j,hj,rfl⟩:=List.getElem_of_mem hk;have:=(h j hj).2;simpa[hj]using this
 .rintro⟨h1,h2⟩ j hj
  refine⟨by rw[<-hg j hj];exact h1 j hj,?_⟩;have:=h2 (t.nd i).kids[j] (List.getElem_mem hj);simpa[hj]using this
theorem sJ:zI []=false:=rfl
theorem IW{l:List UInt8}(h:zI l=true):l≠[]:=by
 rintro rfl;rw[sJ]at h;cases h
def Rg(t:Tr):Prop:=∀i,i<t.nodes.length -> -9223372036854775808<=(t.nd i).n/\(t.nd i).n<=9223372036854775807
theorem vQ{t:Tr}{i:Nat}(rg : -9223372036854775808<=(t.nd i).n/\(t.nd i).n<=9223372036854775807)(hl:(t.nd i).kids.length<=801)(hk:(t.nd i).kids.all (fun k=>zv k 0 ((i:Int)-1))=true) :
 (dE t i&&negs t i)=cO t i:=by
 have hc:(bJ t i).length=(t.nd i).kids.length:=by simp[bJ]
 cases hok:okK (t.nd i).kind with
 |false=>simp[dE,kO hok,cO,hok]
 | true=>
   obtain⟨s,hs,hn⟩:=NL (t.nd i).n hok;have hf:=EY hs (bJ t i) (by omega) rg;have hb:zv (t.nd i).pos 0 2000=(decide (0<=(t.nd i).pos)&&decide ((t.nd i).pos<=2000)):=rfl
   have hd:((s.named==((t.nd i).text != []))&&(!s.named||zI (t.nd i).text))=((eO (t.nd i).kind==zI (t.nd i).text)&&(eO (t.nd i).kind||(t.nd i).text==[])):=by
    rw[hn]
    cases eO (t.nd i).kind with
    | true=>
      cases hx:zI (t.nd i).text with
      |false=>simp
      |true=>have:=IW hx;simp[this]
    | false=>
      by_cases he:(t.nd i).text=[]
      .rw[he,sJ];rfl
      .have e1:((t.nd i).text==[])=false:=by simpa using he
       rw[show((t.nd i).text != []) = !((t.nd i).text==[])from rfl,e1];cases zI (t.nd i).text<;>rfl
   simp only[dE,hs,cO,hok,hk,vV,hf,hc,hb,Bool.true_and];rw[Bool.and_assoc,Bool.and_assoc];have ha:=hd;revert ha;generalize (s.named==((t.nd i).text != []))=a1;generalize (!s.named||zI (t.nd i).text)=a2;generalize (eO (t.nd i).kind==zI (t.nd i).text)=a3;generalize (eO (t.nd i).kind||(t.nd i).text==[])=a4;generalize zD (t.nd i).kind (t.nd i).n (t.nd i).kids.length=a5;generalize zB (t.nd i).kind (t.nd i).n=a6;generalize allK (t.nd i).kind (bJ t i)=a7;generalize negs t i=a8;generalize decide (0<=(t.nd i).pos)=a9;generalize decide ((t.nd i).pos<=2000)=a10;intro h;revert h;revert a1 a2 a3 a4 a5 a6 a7 a8 a9 a10;decide
theorem rZ:∀(l:List Int) (a b:Int),a<=b->l.Pairwise (· < ·)->(∀k∈l,a<=k/\k<b)->(l.length:Int)<=b-a
 | [],a,b,hab,_,h=>by simp;omega
 | x::l,a,b,hab,hp,h=>by
   obtain⟨h1,h2⟩:=List.pairwise_cons.1 hp;have hx:=h x (by simp);have:=rZ l (x+1) b (by omega) h2 (fun k hk=>⟨by have:=h1 k hk;omega,(h k (by simp[hk])).2⟩);simp only[List.length_cons];omega
theorem Placed.kids_length{t:Tr}{S:List Int}(P:Placed t S){i:Nat}(hi:i<t.nodes.length):(t.nd i).kids.length<=i:=by
 have:=rZ (t.nd i).kids 0 i (by omega) ?_ (fun k hk=>by have:=P.kid hi k hk;omega)
 .omega
 .have h:=P.asc hi
  rw[List.pairwise_iff_getElem]at h|-;intro x y hx hy ha;have h1:=h x y hx hy ha;have h2:=P.kid hi _ (List.getElem_mem hy);omega
theorem Placed.kidsIn{t:Tr}{S:List Int}(P:Placed t S){i:Nat}(hi:i<t.nodes.length):(t.nd i).kids.all (fun k=>zv k 0 ((i:Int)-1))=true:=by
 rw[List.all_eq_true];intro k hk;have:=P.kid hi k hk;rw[inRange_iff];omega
theorem Good.sized{t:Tr}{S:List Int}(G:Good t S){i:Nat}(hi:i<t.nodes.length):eU t i=eV t i:=by
 have hm:=G.many hi;unfold eU eV;split
 .rw[Bool.eq_iff_iff];simp only[inRange_iff,Bool.and_eq_true,decide_eq_true_eq];omega
 split
 .rfl
 split
 .rfl
 split
 .rfl
 split
 .rfl
 split
 .rename_i hk
  have hk:(t.nd i).kind=46:=by simpa using hk
  rw[hk]at hm;by_cases h8:(t.nd i).n=8
  .simp[h8]
  .have hle:(t.nd i).kids.length<=1:=by
    have e:zD 46 (t.nd i).n (t.nd i).kids.length=if (t.nd i).n==7 then ((t.nd i).kids.length:Int)==0 else if (t.nd i).n==8 then decide (1<=((t.nd i).kids.length:Int))else ((t.nd i).kids.length:Int)==1:=rfl;rw[e]at hm;by_cases h7:(t.nd i).n=7
    .rw[h7]at hm
     simp at hm;simp[hm]
    .rw[if_neg (by simpa using h7),if_neg (by simpa using h8)]at hm
     simp at hm;omega
   have e1:((t.nd i).n != 8)=true:=by simpa using h8
   have e2:decide (((t.nd i).kids.length:Int)<=4)=true:=by simp;omega
   rw[e1,e2];rfl
 .rfl
theorem Good.signed{t:Tr}{S:List Int}(G:Good t S):dI t=true:=by
 unfold dI;rw[List.all_eq_true];intro i hi;have hi:=List.mem_range.1 hi;by_cases hneg:(t.nd i).kind=1/\(t.nd i).n<0
 .rcases G.kidOrItem hi with h|⟨p,hp,h⟩
  .have:=(G.item _ h).2.2.2.2
   rw[hneg.1]at this;cases this
  .have hr:=G.right p hp
   simp only[cO,vV,Bool.and_eq_true]at hr;have h1:=List.all_eq_true.1 hr.2.2 _ h;have ha:(t.nd p).kind=40:=by simpa[hneg.1,hneg.2]using h1
   have hb:(p:Int)∈t.items:=by
    rcases G.kidOrItem hp with h2|⟨q,hq,h2⟩
    .exact h2
    .have:=G.kidKind hq h2
     rw[ha]at this;cases this
   have:(t.items.any fun it=>(t.nd it).kind==40&&hasI (t.nd it).kids i)=true:=by
    rw[List.any_eq_true];refine⟨p,hb,?_⟩;rw[ha];exact List.contains_iff_mem.2 h
   rw[this];simp
 .have:((t.nd i).kind==1&&decide ((t.nd i).n<0))=false:=by
   rw[Bool.eq_false_iff];simpa using hneg
  rw[this];simp
theorem gF(p:Nat->Bool)(n:Nat):0<=first p n 0↔((List.range n).all fun i=>!p i)=false:=by
 constructor
 .intro h
  obtain⟨m,_,_,h3,h4⟩:=eJ _ _ nlr h;rw[Bool.eq_false_iff];intro hc;have:=List.all_eq_true.1 hc m (List.mem_range.2 h3);rw[h4]at this;cases this
 .intro h
  have key:∀(f k:Nat),n-k<=f->first p n k<0->∀j,k<=j->j<n->p j=false:=by
   intro f
   induction f with
   |zero=>intro k hf _ j h1 h2;omega
   | succ f ih=>
     intro k hf ha j h1 h2
     cases hp:p k with
     |true=>rw[zX (by omega) hp]at ha;omega
     | false=>
       rw[bV (by omega) hp]at ha;by_cases e:j=k
       .subst e;exact hp
       .exact ih (k+1) (by omega) ha j (by omega) h2
  by_cases hc:0<=first p n 0
  .exact hc
  .exfalso
   have:=key n 0 (by omega) (by omega);rw[Bool.eq_false_iff]at h;apply h;rw[List.all_eq_true];intro i hi;rw[this i (by omega) (List.mem_range.1 hi)];rfl
theorem BJ{t:Tr}(rg:Rg t):fR t=aG t:=by
 unfold fR aG;by_cases hsz:800<t.nodes.length\/60<t.items.length
 .rw[if_pos hsz,if_pos hsz]
 .rw[if_neg hsz,if_neg hsz]
  cases hf:gP t with
  | true=>
    have G:=tJ hf
    have h1:cD t=true:=by
     unfold cD;rw[List.all_eq_true];intro i hi;have hi:=List.mem_range.1 hi;have:=vQ (rg i hi) (by have:=G.kids_length hi;omega) (G.kidsIn hi);rw[G.right i hi,Bool.and_eq_true]at this;exact this.1
    have h2:(0<=aD t) = ¬(jW t=true):=by
     unfold aD;rw[gF,jW]
     have:((List.range t.nodes.length).all fun i=>!!eU t i)=((List.range t.nodes.length).all fun i=>eV t i):=by
      rw[Bool.eq_iff_iff];simp only[List.all_eq_true,List.mem_range,Bool.not_not];exact⟨fun h i hi=>by rw[<-G.sized hi];exact h i hi,fun h i hi=>by rw[G.sized hi];exact h i hi⟩
     rw[this];simp
    rw[h1,G.ordered,G.signed];simp only[h2,Bool.not_true,Bool.and_self,Bool.false_eq_true,if_false,if_true];split
    .rfl
    .cases jW t<;>simp
  | false=>
    have:¬(cD t=true/\aF t=true/\dI t=true):=by
     rintro⟨h1,h2,h3⟩;obtain⟨h4,h5⟩:=rP h2;have P:=wH (lM h4)
     have:nN t=true:=by
      unfold nN;rw[List.all_eq_true];intro i ha;have hi:=List.mem_range.1 ha;rw[<-vQ (rg i hi) (by have:=P.kids_length hi;omega) (P.kidsIn hi),List.all_eq_true.1 h1 i ha,Bool.true_and];unfold negs;rw[List.all_eq_true];intro k hk;obtain⟨_,_,k3,k4⟩:=P.kid hi k hk;obtain⟨k,rfl⟩:=Int.eq_ofNat_of_zero_le k4;by_cases hneg:(t.nd k).kind=1/\(t.nd k).n<0
      .have h6:=List.all_eq_true.1 h3 k (List.mem_range.2 (by omega))
       have h7:((t.nd k).kind==1&&decide ((t.nd k).n<0))=true:=by simpa using hneg
       rw[h7,Bool.not_true,Bool.false_or,List.any_eq_true]at h6;obtain⟨it,h8,h9⟩:=h6;rw[Bool.and_eq_true]at h9;obtain⟨_,hd,he,hb,_⟩:=(oO P.one _ _ (by omega) h5).2 it (by simpa using h8) |>.imp id id
       obtain⟨it,rfl⟩:=Int.eq_ofNat_of_zero_le hb;have:=P.unique (by omega) hi (List.contains_iff_mem.1 h9.2) hk;subst this;have hc:(t.nd it).kind=40:=by simpa using h9.1
       rw[hc];simp
      .have:((t.nd k).kind==1&&decide ((t.nd k).n<0))=false:=by
        rw[Bool.eq_false_iff];simpa using hneg
       rw[this];rfl
     rw[gP,this,h5,h4]at hf;simp at hf
    rw[if_neg Bool.false_ne_true]
    cases h1:cD t with
    |false=>rfl
    | true=>
      cases h2:aF t with
      |false=>rfl
      | true=>
        cases h3:dI t with
        |false=>rfl
        |true=>exact(this ⟨h1,h2,h3⟩).elim
end
end Go.Proofs.YthjpoaannjgdmaaGreatDoor
