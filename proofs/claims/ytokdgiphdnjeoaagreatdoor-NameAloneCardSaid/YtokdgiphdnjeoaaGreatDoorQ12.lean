/- Part of a proof. -/
import Derived.Test.YtokdgiphdnjeoaaGreatDoorQ11
import Derived.BigRegion
set_option maxRecDepth 100000
set_option maxHeartbeats 8000000
set_option linter.unusedVariables false
set_option linter.unusedSimpArgs false
open Go.Proofs.Tryz
namespace Go.Proofs.YtokdgiphdnjeoaaGreatDoor
section
open Go.RowKit
def eatK(out:List Int):List Int→Int→Option Int
 | [],p=>some p
 |k::r,p=>if k != p||decide (p<0)then none else eatK out r (p-out.getD p.toNat 0)
def zC(t:Tr):Nat→Option (List Int)
 |0=>some []
 |i+1=>(zC t i).bind fun out=>(eatK out (t.nd i).kids.reverse ((i:Int)-1)).map fun p=>out++[(i:Int)-p]
def aG(t:Tr):List Int:=(zC t t.nodes.length).getD []
theorem qZ{out:List Int}{n:Nat}(ho:∀j,j<n→1≤out.getD j 0∧out.getD j 0≤j+1):∀(l:List Int) (p q:Int),p<n → -1≤p→eatK out l p=some q → -1≤q∧q≤p
 | [],p,q,_,h1,h=>by simp[eatK]at h;omega
 | k::l,p,q,h0,h1,h=>by
   rw[eatK]at h;split at h
   ·cases h
   ·rename_i hc
    simp only[Bool.or_eq_true,bne_iff_ne,ne_eq,decide_eq_true_eq,not_or,Classical.not_not]at hc;have hj:=ho p.toNat (by omega);have:=qZ ho l _ q (by omega) (by omega) h;omega
theorem DZ{out:List Int}{n:Nat}(ho:∀j,j<n→1≤out.getD j 0∧out.getD j 0≤j+1):∀(l:List Int) (p q:Int),p<n → -1≤p→eatK out l p=some q→∀k∈l,0≤k∧k≤p
 | [],p,q,_,h1,h=>by simp
 | k::l,p,q,h0,h1,h=>by
   rw[eatK]at h;split at h
   ·cases h
   ·rename_i hc
    simp only[Bool.or_eq_true,bne_iff_ne,ne_eq,decide_eq_true_eq,not_or,Classical.not_not]at hc;have hj:=ho p.toNat (by omega);intro x hx;rcases List.mem_cons.1 hx with rfl|hx
    ·omega
    ·have:=DZ ho l _ q (by omega) (by omega) h x hx
     omega
theorem aM{t:Tr}:∀(i:Nat) (out:List Int),zC t i=some out→out.length=i
 |0,out,h=>by simp[zC]at h;subst h;rfl
 | i+1,out,h=>by
   simp only[zC,Option.bind_eq_some_iff,Option.map_eq_some_iff]at h;obtain⟨o,h1,p,h2,rfl⟩:=h;simp[aM i o h1]
theorem cC{t:Tr}:∀(i:Nat) (out:List Int),zC t i=some out→∀j,j<i→1≤out.getD j 0∧out.getD j 0≤j+1
 |0,out,h,j,hj=>by omega
 | i+1,out,h,j,hj=>by
   simp only[zC,Option.bind_eq_some_iff,Option.map_eq_some_iff]at h;obtain⟨o,h1,p,h2,rfl⟩:=h;have hl:=aM i o h1;have ih:=cC i o h1;by_cases hji:j<i
   ·have:=ih j hji
    rwa[List.getD_eq_getElem?_getD,List.getElem?_append_left (by omega),←List.getD_eq_getElem?_getD]
   ·obtain rfl:j=i:=by omega
    have hb:=qZ ih _ _ p (by omega) (by omega) h2;rw[List.getD_eq_getElem?_getD,List.getElem?_append_right (by omega),hl];simp;omega
theorem nB{t:Tr}{i n:Nat}(h:i≤n)(hn:(zC t n).isSome):(zC t i).isSome:=by
 induction n with
 | zero=>
   have e:i=0:=by omega
   rw[e];rfl
 | succ n ih=>
   by_cases e:i=n+1
   ·subst e;exact hn
   ·refine ih (by omega) ?_
    simp only[zC]at hn
    cases hx:zC t n with
    |none=>rw[hx]at hn;simp at hn
    |some o=>rfl
theorem nA{t:Tr}{n i:Nat}(hn:(zC t n).isSome)(hi:i<n):∀k∈(t.nd i).kids,0≤k∧k<(i:Int):=by
 have h1:=nB (t:=t) (show i+1≤n by omega) hn;simp only[zC]at h1
 cases hx:zC t i with
 |none=>rw[hx]at h1;simp at h1
 | some o=>
   rw[hx]at h1;simp only[Option.bind_some]at h1;cases hy:eatK o (t.nd i).kids.reverse ((i:Int)-1)with
   |none=>rw[hy]at h1;simp at h1
   | some p=>
     intro k hk;have:=DZ (cC i o hx) _ _ p (by omega) (by omega) hy k (by simpa using hk);omega
def cF(n:Nat):Array Value:=Array.replicate n (intV 0)
theorem lA(n:Nat):(cF n).toList=zm (List.replicate n 0):=by simp[cF]
theorem gW(W:World)(n:Nat)(h:n≤4398046511104) :
 (Instr.makeSlice 23 (.int .i64 n) (.int .i64 n)).run prog W=.ok (.slice (some ⟨W.heap.size,0,none⟩) n n) (W.alloc (.cells (cF n) 3)):=by
 obtain⟨i0,hi,hz0,hz1,hz2⟩:=info_parts jU;rw[run_make (P:=prog) W 23 3 i0 (.int .i64 0) bM hi hz0 .i64 .i64 n n (by omega) (Int.le_refl _) (by rw[hz2];omega) (by omega),hz1,Nat.mul_one,Int.toNat_natCast]
 have:madeCells (Value.int .i64 0).cells n=cF n:=by
  apply Array.ext';rw[show(Value.int IntKind.i64 0).cells = #[Value.int .i64 0]from rfl,toList_madeCells_one,cF];simp
 rw[this]
theorem rL(W:World){B n k:Nat}(hk:W.heap.size=k)(hB:B≤k)(hn:n≤4398046511104):(W.alloc (.cells (cF n) 3)).ownsRow B 3 1 (.slice (some ⟨k,0,none⟩) n n) n (zm (List.replicate n 0)):=by
 subst hk;rw[←lA];exact World.ownsRow_lit W (cF n) n hB (by unfold maxLen;omega) (by simp[cF])
def aH(o:List Int)(d:Int):List Int→List Int
 | []=>o
 |k::r=>aH (o.set k.toNat d) d r
def gF(t:Tr)(o:List Int)(i:Nat):List Int:=aH (o.set i (max (o.getD i 0) 1)) (max (o.getD i 0) 1+1) (t.nd i).kids
def dQ(t:Tr):Nat→List Int
 |0=>List.replicate t.nodes.length 0
 |m+1=>gF t (dQ t m) (t.nodes.length-1-m)
def bX(t:Tr):List Int:=dQ t t.nodes.length
theorem gC(d:Int):∀(l o:List Int),(aH o d l).length=o.length
 | [],o=>rfl
 |k::l,o=>by rw[aH,gC d l];simp
theorem zS(t:Tr):∀m,(dQ t m).length=t.nodes.length
 |0=>by simp[dQ]
 |m+1=>by rw[dQ,gF,gC];simp[zS t m]
theorem lK{d:Int}{n:Nat}{i:Nat}(hd:0≤d∧d+i≤n+1):∀(l o:List Int),(∀k∈l,0≤k∧k<(i:Int))→(∀j,0≤o.getD j 0∧(j<n→o.getD j 0+j≤n))→∀j,0≤(aH o d l).getD j 0∧(j<n→(aH o d l).getD j 0+j≤n)
 | [],o,_,h=>h
 | k::l,o,hk,h=>by
   refine lK hd l _ (fun x hx=>hk x (List.mem_cons_of_mem _ hx)) fun j=>?_;have hk0:=hk k (by simp);rw[List.getD_eq_getElem?_getD,List.getElem?_set];split
   ·rename_i e
    split
    ·exact⟨hd.1,fun _=>by simp only[Option.getD_some];omega⟩
    ·exact⟨by simp,fun _=>by simp only[Option.getD_none];omega⟩
   ·rw[←List.getD_eq_getElem?_getD];exact h j
theorem iB{t:Tr}(hk:∀i,i<t.nodes.length→∀k∈(t.nd i).kids,0≤k∧k<(i:Int)):∀m,m≤t.nodes.length→∀j,0≤(dQ t m).getD j 0∧(j<t.nodes.length→(dQ t m).getD j 0+j≤t.nodes.length)
 | 0,_,j=>by
   rw[dQ,List.getD_eq_getElem?_getD,List.getElem?_replicate];split<;>simp<;>omega
 | m+1,hm,j=>by
   have ih:=iB hk m (by omega);rw[dQ,gF];have hi:=ih (t.nodes.length-1-m);refine lK (n:=t.nodes.length) (i:=t.nodes.length-1-m) (by have:=hi.2 (by omega);omega) _ _ (hk _ (by omega)) (fun j=>?_) j;rw[List.getD_eq_getElem?_getD,List.getElem?_set];have h2:=hi.2 (by omega);have h1:=hi.1;generalize (dQ t m).getD (t.nodes.length-1-m) 0=x at *;split
   ·rename_i e
    split
    ·exact⟨by simp only[Option.getD_some];omega,fun _=>by simp only[Option.getD_some];omega⟩
    ·exact⟨by simp,fun _=>by simp only[Option.getD_none];omega⟩
   ·rw[←List.getD_eq_getElem?_getD];exact ih j
theorem dU{d:Int}{i:Nat}:∀(l o:List Int),(∀k∈l,0≤k∧k<(i:Int))→(aH o d l).getD i 0=o.getD i 0
 | [],o,_=>rfl
 | k::l,o,hk=>by
   have hk0:=hk k (by simp);rw[aH,dU l _ fun x hx=>hk x (List.mem_cons_of_mem _ hx),List.getD_eq_getElem?_getD,List.getElem?_set,if_neg (by omega),←List.getD_eq_getElem?_getD]
theorem eK{d:Int}:∀(l o:List Int) (k:Int),aH o d (l++[k])=(aH o d l).set k.toNat d
 | [],o,k=>rfl
 |x::l,o,k=>by rw[List.cons_append,aH,eK l];rfl
def okK(k:Int):Bool:=bB k||k==25||fT k||k==34||cH k
def kS(t:Tr)(d:Nd)(j:Nat):Bool:=kidK d.kind d.kids.length j (t.nd (d.kids.getD j 0)).kind && !((t.nd (d.kids.getD j 0)).kind==1&&decide ((t.nd (d.kids.getD j 0)).n<0)&&d.kind != 40)
def gR(t:Tr)(d:Nd):Bool:=(List.range d.kids.length).all fun j=>kS t d j
def bJ(t:Tr)(i:Nat):Bool:=
 (okK (t.nd i).kind&&(cQ (t.nd i).kind==zX (t.nd i).text)&&(cQ (t.nd i).kind||(t.nd i).text==[])&&zN (t.nd i).kind (t.nd i).n (t.nd i).kids.length&&zw (t.nd i).kind (t.nd i).n&&decide (0≤(t.nd i).pos)&&decide ((t.nd i).pos≤2000))&&gR t (t.nd i)
theorem eZ{w wr:World}{v:TreeV}{t:Tr}{ka:Option Addr}{kc:Nat}{d:Nd}(hb:Below (w.heap.size+1+1) (boxD (boxT w v t) ka kc d) wr):wr.cell? ⟨w.heap.size+1,4,none⟩=some (intV d.pos):=by
 have hb':Below (boxD (boxT w v t) ka kc d).heap.size (boxD (boxT w v t) ka kc d) wr:=by simpa using hb
 obtain⟨hc,_⟩:=bcell hb';have e1:(boxD (boxT w v t) ka kc d).cell? ⟨w.heap.size+1,4,none⟩=some (intV d.pos):=by simp
 exact(hc _ _ (by simp)).trans e1
def maxL(l:List Int):Int:=l.foldl max 0
theorem lQ{l:List Int}{k:Nat}(h:k<l.length):maxL (l.take (k+1))=max (maxL (l.take k)) l[k]:=by
 rw[List.take_succ_eq_append_getElem h,maxL,List.foldl_append];rfl
def zW(t:Tr):Int:=maxL (bX t)
def eQ(t:Tr)(i:Nat):Bool:=
 if (t.nd i).kind==40 then decide ((t.nd ((t.nd i).kids.getD 0 0)).n≤(t.nd ((t.nd i).kids.getD 1 0)).n)&&decide ((t.nd ((t.nd i).kids.getD 1 0)).n-(t.nd ((t.nd i).kids.getD 0 0)).n+1≤12)
 else if (t.nd i).kind==41 then decide (((t.nd i).kids.length:Int)≤6)
 else if (t.nd i).kind==42 then decide (((t.nd i).kids.length:Int)-2≤4)&&decide ((t.nd i).n≤8)
 else if (t.nd i).kind==33 then decide (1≤(t.nd i).n)&&decide ((t.nd i).n≤6)
 else if (t.nd i).kind==26 then decide (((t.nd i).kids.length:Int)≤6)
 else if (t.nd i).kind==46 then decide (((t.nd i).kids.length:Int)≤4)
 else true
def eatI(t:Tr)(sizes:List Int):List Int→Int→Bool
 | [],p=>p == -1
 |k::r,p=>if decide (p<0)||k != p || !cH (t.nd p).kind then false else eatI t sizes r (p-sizes.getD p.toNat 0)
def jH(t:Tr):Bool:=(List.range t.nodes.length).all fun i=>bJ t i
def dR(t:Tr):Bool:=(aG t).length==t.nodes.length&&(jH t&&eatI t (aG t) t.items.reverse ((t.nodes.length:Int)-1))
theorem iL{t:Tr}(h:(aG t).length=t.nodes.length):zC t t.nodes.length=some (aG t):=by
 unfold aG at *
 cases hx:zC t t.nodes.length with
 |some o=>rfl
 | none=>
   rw[hx]at h;have h0:t.nodes.length=0:=by simpa using h.symm
   rw[h0]at hx;cases hx
def eG(t:Tr):Bool:=(List.range t.nodes.length).all fun i=>eQ t i
def zJ(t:Tr):Int:=if 800<t.nodes.length∨60<t.items.length then 5 else if dR t then (if 30<zW t then 5 else if eG t then 0 else 3)else 4
theorem wZ{t:Tr}(h:dR t=true):zC t t.nodes.length=some (aG t):=by
 simp only[dR,Bool.and_eq_true,beq_iff_eq]at h;exact iL h.1
theorem oV{t:Tr}(h:dR t=true){i:Nat}(hi:i<t.nodes.length):bJ t i=true:=by
 simp only[dR,Bool.and_eq_true]at h;exact List.all_eq_true.1 h.2.1 i (List.mem_range.2 hi)
theorem rB{t:Tr}(h:dR t=true){i:Nat}(hi:i<t.nodes.length):∀k∈(t.nd i).kids,0≤k∧k<(i:Int):=
 nA (n:=t.nodes.length) (by rw[wZ h];rfl) hi
theorem pV{t:Tr}{i:Nat}(h:bJ t i=true):okK (t.nd i).kind=true∧cQ (t.nd i).kind=zX (t.nd i).text∧(cQ (t.nd i).kind=true∨(t.nd i).text=[])∧zN (t.nd i).kind (t.nd i).n (t.nd i).kids.length=true∧zw (t.nd i).kind (t.nd i).n=true∧0≤(t.nd i).pos∧(t.nd i).pos≤2000 ∧
 ∀j,j<(t.nd i).kids.length→kS t (t.nd i) j=true:=by
 simp only[bJ,Bool.and_eq_true,beq_iff_eq,Bool.or_eq_true,decide_eq_true_eq]at h;obtain⟨⟨⟨⟨⟨⟨⟨h1,h2⟩,h3⟩,h4⟩,h5⟩,h6⟩,h7⟩,h8⟩:=h;exact⟨h1,h2,h3,h4,h5,h6,h7,fun j hj=>List.all_eq_true.1 h8 j (List.mem_range.2 hj)⟩
theorem oW{t:Tr}(h:dR t=true){i:Nat}(hi:i<t.nodes.length)(hk:(t.nd i).kind=40) :
 ∃k0 k1:Nat,k0<t.nodes.length∧k1<t.nodes.length∧(t.nd i).kids=[(k0:Int),(k1:Int)] ∧ -9999≤(t.nd k0).n∧(t.nd k0).n≤9999 ∧ -9999≤(t.nd k1).n∧(t.nd k1).n≤9999:=by
 obtain⟨_,_,_,hm,_,_,_,ho⟩:=pV (oV h hi);have hkid:=rB h hi;rw[hk]at hm;have hl':((t.nd i).kids.length:Int)=2:=by simpa[zN]using hm
 have hl:(t.nd i).kids.length=2:=by omega
 obtain⟨a,b,hab⟩:∃a b,(t.nd i).kids=[a,b]:=by
  match hx:(t.nd i).kids with
  | [a,b]=>exact⟨a,b,rfl⟩
  | []=>rw[hx]at hl;simp at hl
  | [_]=>rw[hx]at hl;simp at hl
  |_::_::_::_=>rw[hx]at hl;simp at hl
 rw[hab]at hkid;have ha:=hkid a (by simp);have hb:=hkid b (by simp);obtain⟨k0,rfl⟩:=Int.eq_ofNat_of_zero_le ha.1;obtain⟨k1,rfl⟩:=Int.eq_ofNat_of_zero_le hb.1
 have num:∀(k:Nat) (j:Nat),k<i→j<2→(t.nd i).kids.getD j 0=(k:Int) → -9999≤(t.nd k).n∧(t.nd k).n≤9999:=by
  intro k j hki hj he;have h1:=ho j (by omega);simp only[kS,he,Bool.and_eq_true,hk]at h1;have hkind:(t.nd k).kind=1:=by simpa[kidK]using h1.1
  obtain⟨_,_,_,_,hn,_⟩:=pV (oV h (show k<t.nodes.length by omega));rw[hkind]at hn;simpa[zw]using hn
 have n0:=num k0 0 (by omega) (by omega) (by rw[hab];rfl);have n1:=num k1 1 (by omega) (by omega) (by rw[hab];rfl);exact⟨k0,k1,by omega,by omega,hab,n0.1,n0.2,n1.1,n1.2⟩
end
section
open Go.RowKit
structure Placed (t:Tr) (S:List Int):Prop where
 bd:∀j,j<t.nodes.length→1≤S.getD j 0∧S.getD j 0≤j+1
 eat:∀i,i<t.nodes.length→eatK S (t.nd i).kids.reverse ((i:Int)-1)=some ((i:Int)-S.getD i 0)
theorem jT{o o':List Int}{m:Nat}(h:∀j,j<m→o.getD j 0=o'.getD j 0)(hb:∀j,j<m→1≤o.getD j 0):∀(l:List Int) (p:Int),p<m→eatK o l p=eatK o' l p
 | [],p,_=>rfl
 | k::l,p,hp=>by
   simp only[eatK];by_cases hc:(k != p||decide (p<0))=true
   ·rw[if_pos hc,if_pos hc]
   ·rw[if_neg hc,if_neg hc]
    simp only[Bool.or_eq_true,bne_iff_ne,ne_eq,decide_eq_true_eq,not_or,Classical.not_not]at hc;rw[←h p.toNat (by omega)];have:=hb p.toNat (by omega);exact jT h hb l _ (by omega)
theorem jK{t:Tr}{n:Nat}{S:List Int}(h:zC t n=some S):∀i,i≤n→zC t i=some (S.take i):=by
 induction n generalizing S with
 | zero => intro i hi;obtain rfl:i=0:=by omega
           simp[zC]
 | succ n ih=>
   intro i hi;have hl:=aM _ _ h;by_cases e:i=n+1
   ·subst e;rw[h,List.take_of_length_le (by omega)]
   ·have h':=h
    simp only[zC,Option.bind_eq_some_iff,Option.map_eq_some_iff]at h';obtain⟨o,h1,p,h2,rfl⟩:=h';rw[ih h1 i (by omega),List.take_append_of_le_length (by rw[aM _ _ h1];omega)]
theorem uX{t:Tr}{S:List Int}(h:zC t t.nodes.length=some S):Placed t S:=by
 have hb:=cC _ _ h;have hl:=aM _ _ h;refine⟨hb,fun i hi=>?_⟩;have h1:=jK h (i+1) (by omega);simp only[zC,Option.bind_eq_some_iff,Option.map_eq_some_iff]at h1;obtain⟨o,h2,p,h3,h4⟩:=h1;have h5:=jK h i (by omega);rw[h5]at h2;obtain rfl:=Option.some.inj h2
 have hg:∀j,j<i→(S.take i).getD j 0=S.getD j 0:=fun j hj=>by
  rw[List.getD_eq_getElem?_getD,List.getElem?_take,if_pos hj,←List.getD_eq_getElem?_getD]
 rw[←jT hg (fun j hj=>by rw[hg j hj];exact(hb j (by omega)).1) _ _ (by omega),h3]
 have:S.getD i 0=(i:Int)-p:=by
  have:(S.take (i+1)).getD i 0=S.getD i 0:=by rw[List.getD_eq_getElem?_getD,List.getElem?_take,if_pos (by omega),←List.getD_eq_getElem?_getD]
  rw[←this,←h4,List.getD_eq_getElem?_getD,List.getElem?_append_right (by simp;omega)];simp;rw[Nat.min_eq_left (by omega)];simp
 rw[this];congr 1;omega
def stt(S:List Int)(i:Int):Int:=i-S.getD i.toNat 0
theorem rA{S:List Int}:∀(l:List Int) (p q:Int),eatK S l p=some q→∀j,q<j→j≤p→∃k∈l,stt S k<j∧j≤k
 | [],p,q,h,j,h1,h2=>by simp[eatK]at h;omega
 | k::l,p,q,h,j,h1,h2=>by
   rw[eatK]at h;split at h
   ·cases h
   ·rename_i hc
    simp only[Bool.or_eq_true,bne_iff_ne,ne_eq,decide_eq_true_eq,not_or,Classical.not_not]at hc;obtain⟨rfl,hc⟩:=hc;by_cases hj:stt S k<j
    ·exact⟨k,by simp,hj,h2⟩
    ·obtain⟨k',h3,h4⟩:=rA l _ q h j h1 (by unfold stt at hj;omega)
     exact⟨k',by simp[h3],h4⟩
theorem sC{S:List Int}{m:Nat}(hb:∀j,j<m→1≤S.getD j 0):∀(l:List Int) (p q:Int),p<m→eatK S l p=some q→q≤p∧∀k∈l,q≤stt S k∧stt S k<k∧k≤p∧0≤k
 | [],p,q,hp,h=>by simp only[eatK,Option.some.injEq]at h;subst h;exact⟨Int.le_refl _,fun _ h=>by simp at h⟩
 | k::l,p,q,hp,h=>by
   rw[eatK]at h;split at h
   ·cases h
   ·rename_i hc
    simp only[Bool.or_eq_true,bne_iff_ne,ne_eq,decide_eq_true_eq,not_or,Classical.not_not]at hc;obtain⟨rfl,hc⟩:=hc;have h1:=hb k.toNat (by omega);obtain⟨h2,h3⟩:=sC hb l _ q (by omega) h;refine⟨by omega,fun x hx=>?_⟩;rcases List.mem_cons.1 hx with rfl|hx
    ·exact⟨by unfold stt;omega,by unfold stt;omega,Int.le_refl _,by omega⟩
    ·have:=h3 x hx
     exact⟨this.1,this.2.1,by omega,this.2.2.2⟩
theorem uA{S:List Int}{m:Nat}(hb:∀j,j<m→1≤S.getD j 0):∀(l:List Int) (p q:Int),p<m→eatK S l p=some q→l.Pairwise (fun a b=>b≤stt S a)
 | [],p,q,hp,h=>.nil
 | k::l,p,q,hp,h=>by
   rw[eatK]at h;split at h
   ·cases h
   ·rename_i hc
    simp only[Bool.or_eq_true,bne_iff_ne,ne_eq,decide_eq_true_eq,not_or,Classical.not_not]at hc;obtain⟨rfl,hc⟩:=hc;have h1:=hb k.toNat (by omega);refine .cons (fun x hx=>?_) (uA hb l _ q (by omega) h);obtain⟨_,h3⟩:=sC hb l _ q (by omega) h;exact(h3 x hx).2.2.1
section
variable {t : Tr} {S : List Int} (P : Placed t S)
include P
theorem Placed.one:∀j,j<t.nodes.length→1≤S.getD j 0:=fun j h=>(P.bd j h).1
theorem Placed.kid{i:Nat}(hi:i<t.nodes.length):∀k∈(t.nd i).kids,stt S i≤stt S k∧stt S k<k∧k<(i:Int)∧0≤k:=fun k hk=>by
 obtain⟨_,h⟩:=sC P.one _ _ _ (by omega) (P.eat i hi);have:=h k (by simpa using hk);refine⟨?_,this.2.1,by omega,this.2.2.2⟩;have:=this.1;simpa[stt]using this
theorem Placed.cover{i:Nat}(hi:i<t.nodes.length){j:Int}(h1:stt S i<j)(h2:j<i):∃k∈(t.nd i).kids,stt S k<j∧j≤k:=by
 obtain⟨k,h3,h4⟩:=rA _ _ _ (P.eat i hi) j (by simpa[stt]using h1) (by omega);exact⟨k,by simpa using h3,h4⟩
theorem Placed.asc{i:Nat}(hi:i<t.nodes.length):(t.nd i).kids.Pairwise (fun a b=>a≤stt S b):=by
 have:=uA P.one _ _ _ (by omega) (P.eat i hi);rwa[List.pairwise_reverse]at this
theorem Placed.nest:∀(f:Nat) (k:Nat) (a:Nat),k≤f→k<t.nodes.length→stt S k<a→a≤k→stt S k≤stt S a
 | f,k,a,hf,hk,h1,h2=>by
   by_cases e:a=k
   ·subst e;exact Int.le_refl _
   ·obtain⟨c,hc,h3,h4⟩:=P.cover hk (j:=a) h1 (by omega)
    obtain⟨h5,h6,h7,h8⟩:=P.kid hk c hc;obtain⟨c,rfl⟩:=Int.eq_ofNat_of_zero_le h8
    cases f with
    |zero=>omega
    | succ f=>
      have:=Placed.nest f c a (by omega) (by omega) h3 (by omega);omega
theorem Placed.unique{a b:Nat}{j:Int}(ha:a<t.nodes.length)(hb:b<t.nodes.length)(h1:j∈(t.nd a).kids)(h2:j∈(t.nd b).kids):a=b:=by
 have key:∀a b:Nat,a<b→b<t.nodes.length→j∈(t.nd a).kids→j∈(t.nd b).kids→False:=by
  intro a b hab hb h1 h2;obtain⟨a1,a2,a3,a4⟩:=P.kid (by omega) j h1;obtain⟨b1,b2,b3,b4⟩:=P.kid hb j h2;obtain⟨c,hc,h3,h4⟩:=P.cover hb (j:=a) (by omega) (by omega);obtain⟨c1,c2,c3,c4⟩:=P.kid hb c hc;obtain⟨c,rfl⟩:=Int.eq_ofNat_of_zero_le c4;have hn:=P.nest c c a nlr (by omega) h3 (by omega);have hp:=P.asc hb;obtain⟨x,hx,ex⟩:=List.getElem_of_mem hc;obtain⟨y,hy,ey⟩:=List.getElem_of_mem h2;rw[List.pairwise_iff_getElem]at hp;rcases Nat.lt_trichotomy x y with h|h|h
  ·have:=hp x y hx hy h
   rw[ex,ey]at this;omega
  ·subst h
   rw[ex]at ey;omega
  ·have:=hp y x hy hx h
   rw[ex,ey]at this;omega
 rcases Nat.lt_trichotomy a b with h|h|h
 ·exact(key a b h hb h1 h2).elim
 ·exact h
 ·exact(key b a h ha h2 h1).elim
end
theorem nI{t:Tr}{S:List Int}{m:Nat}(hb:∀j,j<m→1≤S.getD j 0):∀(l:List Int) (p:Int),p<m→eatI t S l p=true → -1≤p∧∀k∈l,-1≤stt S k∧stt S k<k∧k≤p∧0≤k∧cH (t.nd k).kind=true
 | [],p,hp,h=>by simp[eatI]at h;simp;omega
 | k::l,p,hp,h=>by
   rw[eatI]at h;split at h
   ·cases h
   ·rename_i hc
    simp only[Bool.or_eq_true,bne_iff_ne,ne_eq,decide_eq_true_eq,not_or,Classical.not_not,Bool.not_eq_true',Bool.not_eq_false]at hc;obtain⟨⟨hc1,rfl⟩,hc3⟩:=hc;have h1:=hb k.toNat (by omega);obtain⟨h2,h3⟩:=nI hb l _ (by omega) h;refine⟨by omega,fun x hx=>?_⟩;rcases List.mem_cons.1 hx with rfl|hx
    ·exact⟨by unfold stt;omega,by unfold stt;omega,Int.le_refl _,by omega,hc3⟩
    ·have:=h3 x hx
     exact⟨this.1,this.2.1,by omega,this.2.2.2⟩
theorem qY{t:Tr}{S:List Int}:∀(l:List Int) (p:Int),eatI t S l p=true→∀j,0≤j→j≤p→∃k∈l,stt S k<j∧j≤k
 | [],p,h,j,h1,h2=>by simp[eatI]at h;omega
 | k::l,p,h,j,h1,h2=>by
   rw[eatI]at h;split at h
   ·cases h
   ·rename_i hc
    simp only[Bool.or_eq_true,bne_iff_ne,ne_eq,decide_eq_true_eq,not_or,Classical.not_not,Bool.not_eq_true',Bool.not_eq_false]at hc;obtain⟨⟨hc1,rfl⟩,hc3⟩:=hc;by_cases hj:stt S k<j
    ·exact⟨k,by simp,hj,h2⟩
    ·obtain⟨k',h3,h4⟩:=qY l _ h j h1 (by unfold stt at hj;omega)
     exact⟨k',by simp[h3],h4⟩
theorem tZ{t:Tr}{S:List Int}{m:Nat}(hb:∀j,j<m→1≤S.getD j 0):∀(l:List Int) (p:Int),p<m→eatI t S l p=true→l.Pairwise (fun a b=>b≤stt S a)
 | [],p,hp,h=>.nil
 | k::l,p,hp,h=>by
   rw[eatI]at h;split at h
   ·cases h
   ·rename_i hc
    simp only[Bool.or_eq_true,bne_iff_ne,ne_eq,decide_eq_true_eq,not_or,Classical.not_not,Bool.not_eq_true',Bool.not_eq_false]at hc;obtain⟨⟨hc1,rfl⟩,hc3⟩:=hc;have h1:=hb k.toNat (by omega);refine .cons (fun x hx=>?_) (tZ hb l _ (by omega) h);exact((nI hb l _ (by omega) h).2 x hx).2.2.1
structure Good (t:Tr) (S:List Int):Prop extends Placed t S where
 right:∀i,i<t.nodes.length→bJ t i=true
 root:eatI t S t.items.reverse ((t.nodes.length:Int)-1)=true
theorem gH{t:Tr}(h:dR t=true):Good t (aG t):=by
 simp only[dR,Bool.and_eq_true,beq_iff_eq]at h;obtain⟨h1,h2,h3⟩:=h;exact⟨uX (iL h1),fun i hi=>List.all_eq_true.1 h2 i (List.mem_range.2 hi),h3⟩
section
variable {t : Tr} {S : List Int} (G : Good t S)
include G
theorem Good.item:∀k∈t.items,-1≤stt S k∧stt S k<k∧k<(t.nodes.length:Int)∧0≤k∧cH (t.nd k).kind=true:=fun k hk=>by
 have:=(nI G.one _ _ (by omega) G.root).2 k (by simpa using hk);exact⟨this.1,this.2.1,by omega,this.2.2.2⟩
theorem Good.items:t.items.Pairwise (fun a b=>a≤stt S b):=by
 have:=tZ G.one _ _ (by omega) G.root;rwa[List.pairwise_reverse]at this
theorem Good.coverI{j:Int}(h0:0≤j)(h1:j<t.nodes.length):∃k∈t.items,stt S k<j∧j≤k:=by
 obtain⟨k,h3,h4⟩:=qY _ _ G.root j h0 (by omega);exact⟨k,by simpa using h3,h4⟩
theorem Good.kidOrItem{j:Nat}(hj:j<t.nodes.length):(j:Int)∈t.items∨∃i:Nat,i<t.nodes.length∧(j:Int)∈(t.nd i).kids:=by
 obtain⟨k,hk,h1,h2⟩:=G.coverI (j:=j) (by omega) (by omega);obtain⟨h3,h4,h5,h6,hz⟩:=G.item k hk;obtain⟨k,rfl⟩:=Int.eq_ofNat_of_zero_le h6;by_cases e:j=k
 ·subst e;exact .inl hk
 ·refine .inr ?_
  have hk':k<t.nodes.length:=by omega
  have hjk:j<k:=by omega
  clear hk h3 h5 h6 e h2 h4 hz;revert h1 hk' hjk
  induction k using Nat.strongRecOn with
  | _ k ih=>
    intro h1 hk' hjk;obtain⟨c,hc,h7,h8⟩:=G.cover hk' h1 (by omega);obtain⟨c1,c2,c3,c4⟩:=G.kid hk' c hc;obtain⟨c,rfl⟩:=Int.eq_ofNat_of_zero_le c4;by_cases e:j=c
    ·subst e;exact⟨k,hk',hc⟩
    ·exact ih c (by omega) h7 (by omega) (by omega)
end
theorem kC{t:Tr}{i:Nat}(h:i<t.nodes.length):t.nd (i:Int)=t.nodes[i]:=t.nd_at h
theorem Good.parent_of{t:Tr}{S:List Int}(G:Good t S){i:Nat}{j:Int}(hi:i<t.nodes.length)(h:j∈(t.nd i).kids):parent t j=i:=by
 obtain⟨a1,a2,a3,a4⟩:=G.kid hi j h;obtain⟨j,rfl⟩:=Int.eq_ofNat_of_zero_le a4
 have hkid:cP t.nodes (j:Int) i=true:=by
  simp only[cP,hasI,List.getElem?_eq_getElem hi,Option.map_some,Option.getD_some];rw[kC hi]at h;exact List.contains_iff_mem.2 h
 unfold parent
 have key:∀(f k:Nat),i-k≤f→k≤i→(j:Int)<k→first (cP t.nodes (j:Int)) t.nodes.length k=i:=by
  intro f
  induction f with
  | zero => intro k hf hk _;obtain rfl:k=i:=by omega
            exact aE hi hkid
  | succ f ih=>
    intro k hf hk hjk;by_cases e:k=i
    ·subst e;exact aE hi hkid
    ·have hno:cP t.nodes (j:Int) k=false:=by
      rw[Bool.eq_false_iff];intro hc;simp only[cP,hasI,List.getElem?_eq_getElem (show k<t.nodes.length by omega),Option.map_some,Option.getD_some]at hc;have hc:=List.contains_iff_mem.1 hc;rw[←kC]at hc;exact e (G.unique (by omega) hi hc h)
     rw[cI (by omega) hno];exact ih (k+1) (by omega) (by omega) (by omega)
 exact key i _ (by omega) (by omega) (by omega)
theorem zF{t:Tr}{j:Int}(h:0≤parent t j):∃i:Nat,parent t j=i∧i<t.nodes.length∧j∈(t.nd i).kids:=by
 obtain⟨m,h1,h2,h3,h4⟩:=eL _ _ nlr h;refine⟨m,h1,h3,?_⟩;simp only[cP,hasI,List.getElem?_eq_getElem h3,Option.map_some,Option.getD_some]at h4;rw[kC h3];exact List.contains_iff_mem.1 h4
theorem Good.kidKind{t:Tr}{S:List Int}(G:Good t S){i:Nat}{j:Int}(hi:i<t.nodes.length)(h:j∈(t.nd i).kids):cH (t.nd j).kind=false:=by
 have hr:=G.right i hi;simp only[bJ,gR,Bool.and_eq_true]at hr;obtain⟨x,hx,rfl⟩:=List.getElem_of_mem h;have:=List.all_eq_true.1 hr.2 x (List.mem_range.2 hx);simp only[kS,Bool.and_eq_true,List.getD_eq_getElem?_getD,List.getElem?_eq_getElem hx,Option.getD_some]at this;have h1:=this.1;revert h1;generalize (t.nd (t.nd i).kids[x]).kind=d;generalize (t.nd i).kind=k;intro h1;rw[Bool.eq_false_iff];intro hd;simp only[cH,Bool.and_eq_true,decide_eq_true_eq]at hd;simp only[kidK,fT,bB]at h1;split at h1
 ·simp at h1;omega
 split at h1
 ·simp at h1;omega
 split at h1
 ·simp at h1;omega
 split at h1
 ·simp at h1;omega
 split at h1
 ·split at h1
  ·simp at h1;omega
  ·split at h1
   ·simp at h1;omega
   ·simp at h1;omega
 ·simp at h1;omega
theorem Good.noParent{t:Tr}{S:List Int}(G:Good t S){j:Int}(h:j∈t.items):parent t j = -1:=by
 by_cases hp:0≤parent t j
 ·obtain⟨i,h1,h2,h3⟩:=zF hp
  have:=(G.item j h).2.2.2.2;rw[G.kidKind h2 h3]at this;cases this
 ·have:=nJ (p:=cP t.nodes j) (n:=t.nodes.length) _ (j+1).toNat nlr
  have : -1≤parent t j:=this;omega
theorem Good.parent_yes{t:Tr}{S:List Int}(G:Good t S){j:Nat}(hj:j<t.nodes.length)(h:(j:Int) ∉ t.items):0≤parent t j:=by
 rcases G.kidOrItem hj with h1|⟨i,h1,h2⟩
 ·exact(h h1).elim
 ·rw[G.parent_of h1 h2];omega
theorem Good.many{t:Tr}{S:List Int}(G:Good t S){i:Nat}(hi:i<t.nodes.length):zN (t.nd i).kind (t.nd i).n (t.nd i).kids.length=true:=by
 have hr:=G.right i hi;simp only[bJ,Bool.and_eq_true]at hr;exact hr.1.1.1.1.2
theorem aT{t:Tr}(bd:Bd t)(h:zJ t=0):WF t:=by
 have hf:dR t=true:=by
  unfold zJ at h;split at h
  ·cases h
  ·split at h
   ·assumption
   ·cases h
 have G:=gH hf;refine⟨bd,fun i hi k hk=>?_,fun k hk=>?_,fun i hi hk=>?_,fun i hi hk=>?_,fun i hi hk=>?_⟩
 ·rw[←kC hi]at hk
  have:=G.kid hi k hk;omega
 ·have:=G.item k hk
  omega
 ·have:=G.many hi
  rw[kC hi,hk]at this;simp[zN]at this;omega
 ·have:=G.many hi
  rw[kC hi,hk]at this;simp[zN]at this;omega
 ·refine G.parent_yes hi fun hc=>?_
  have:=(G.item _ hc).2.2.2.2;rw[kC hi,hk]at this;cases this
end
section
open Go.RowKit
def goK(g:Int→Int→Option Int):List Int→Int→Option Int
 | [],p=>some p
 |k::l,p=>(g k p).bind (goK g l)
def dT(t:Tr):Nat→Int→Int→Int→Option Int
 |0,_,_,_=>none
 |f+1,i,d,p=>(goK (fun k q=>dT t f k (d+1) q) (t.nd i).kids p).bind fun m=>if i != m then none else if cH (t.nd i).kind==(d==1)then some (m+1)else none
def ordF(t:Tr):List Int→Int→Option Int
 | [],p=>some p
 |i::l,p=>if decide (p≤i)&&decide (i≤(t.nodes.length:Int)-1)then (dT t (i+1).toNat i 1 p).bind (ordF t l)else none
def aL(t:Tr):Bool:=ordF t t.items 0==some (t.nodes.length:Int)
theorem sE(g:Int→Int→Option Int):∀(l:List Int) (k p:Int),goK g (l++[k]) p=(goK g l p).bind (g k)
 | [],k,p=>by simp[goK]
 | a::l,k,p=>by
   simp only[List.cons_append,goK]
   cases g a p with
   |none=>rfl
   |some m=>simp only[Option.bind_some];exact sE g l k m
theorem pP(t:Tr):∀(l:List Int) (k p:Int),ordF t (l++[k]) p=(ordF t l p).bind (fun q=>ordF t [k] q)
 | [],k,p=>by simp[ordF]
 | a::l,k,p=>by
   simp only[List.cons_append];rw[ordF,ordF];split
   ·cases dT t (a+1).toNat a 1 p with
    |none=>rfl
    |some m=>simp only[Option.bind_some];exact pP t l k m
   ·rfl
theorem vJ{t:Tr}{a b:Nat}{o o':List Int}(h:zC t a=some o)(h':zC t b=some o')(hab:a≤b):∀j,j<a→o.getD j 0=o'.getD j 0:=by
 have:=jK h' a hab;rw[h]at this;obtain rfl:=Option.some.inj this;intro j hj;rw[List.getD_eq_getElem?_getD,List.getElem?_take,if_pos hj,←List.getD_eq_getElem?_getD]
theorem nD(t:Tr):∀(f:Nat) (i d:Int) (p:Nat) (m:Int) (o:List Int),zC t p=some o→dT t f i d p=some m →
 m=i+1∧(p:Int)≤i∧cH (t.nd i).kind=(d==1)∧∃o',zC t m.toNat=some o'∧o'.getD i.toNat 0=i+1-p
 |0,i,d,p,m,o,ho,h=>by simp[dT]at h
 | f+1,i,d,p,m,o,ho,h=>by
   simp only[dT,Option.bind_eq_some_iff]at h;obtain⟨q,h1,h2⟩:=h
   have key:∀(l:List Int) (q:Int),goK (fun k q=>dT t f k (d+1) q) l p=some q→(p:Int)≤q∧∃o',zC t q.toNat=some o'∧eatK o' l.reverse (q-1)=some ((p:Int)-1):=by
    intro l
    induction hl:l.length generalizing l with
    | zero=>
      intro q hq;obtain rfl:=List.eq_nil_of_length_eq_zero hl;simp only[goK,Option.some.injEq]at hq;subst hq;exact⟨Int.le_refl _,o,by simpa using ho,by simp[eatK]⟩
    | succ n ih=>
      intro q hq;obtain⟨l',k,rfl⟩:∃l' k,l=l'++[k]:=⟨l.dropLast,l.getLast (by intro e;simp[e]at hl),(List.dropLast_concat_getLast _).symm⟩
      rw[sE,Option.bind_eq_some_iff]at hq;obtain⟨q1,hq1,hq2⟩:=hq;obtain⟨hp,o1,ho1,he1⟩:=ih l' (by simpa using hl) q1 hq1;obtain⟨q1,rfl⟩:=Int.eq_ofNat_of_zero_le (show 0≤q1 by omega);obtain⟨rfl,hle,_,o2,ho2,hg⟩:=nD t f k (d+1) q1 q o1 (by simpa using ho1) hq2;refine⟨by omega,o2,ho2,?_⟩;simp only[List.reverse_append,List.reverse_cons,List.reverse_nil,List.nil_append,List.cons_append,eatK];rw[if_neg (by simp;omega)];have e1:(k+1-1).toNat=k.toNat:=by omega
      rw[e1,hg,show k+1-1-(k+1-(q1:Int))=q1-1 by omega];have hpre:=vJ (a:=q1) (by simpa using ho1) ho2 (by omega);rw[←jT hpre (fun j hj=>(cC _ _ (by simpa using ho1) j hj).1) _ _ (by omega),←he1]
   obtain⟨hpq,o',ho',he⟩:=key _ q h1;split at h2
   ·cases h2
   ·rename_i hc
    obtain rfl:i=q:=by simpa using hc
    split at h2
    ·rename_i hc2
     obtain rfl:i+1=m:=by simpa using h2
     refine⟨rfl,hpq,by simpa using hc2,?_⟩;obtain⟨i,rfl⟩:=Int.eq_ofNat_of_zero_le (show 0≤i by omega);refine⟨o'++[(i:Int)-((p:Int)-1)],?_,?_⟩
     ·rw[show((i:Int)+1).toNat=i+1 by omega,zC]
      rw[show(i:Int).toNat=i from rfl]at ho';rw[ho'];simp[he]
     ·have hl:=aM _ _ ho'
      rw[List.getD_eq_getElem?_getD,List.getElem?_append_right (by omega),hl];simp;omega
    ·cases h2
theorem xJ(t:Tr):∀(l:List Int) (q:Int),ordF t l 0=some q→0≤q∧∃o,zC t q.toNat=some o∧eatI t o l.reverse (q-1)=true:=by
 intro l
 induction hl:l.length generalizing l with
 | zero=>
   intro q hq;obtain rfl:=List.eq_nil_of_length_eq_zero hl;simp only[ordF,Option.some.injEq]at hq;subst hq;exact⟨Int.le_refl _,[],by simp[zC],by simp[eatI]⟩
 | succ n ih=>
   intro q hq;obtain⟨l',k,rfl⟩:∃l' k,l=l'++[k]:=⟨l.dropLast,l.getLast (by intro e;simp[e]at hl),(List.dropLast_concat_getLast _).symm⟩
   rw[pP,Option.bind_eq_some_iff]at hq;obtain⟨q1,hq1,hq2⟩:=hq;obtain⟨hp,o1,ho1,he1⟩:=ih l' (by simpa using hl) q1 hq1;obtain⟨q1,rfl⟩:=Int.eq_ofNat_of_zero_le hp;simp only[ordF]at hq2;split at hq2
   ·rename_i hc
    simp only[Bool.and_eq_true,decide_eq_true_eq]at hc;rw[Option.bind_eq_some_iff]at hq2;obtain⟨q2,hq2,hq3⟩:=hq2;simp only[Option.some.injEq]at hq3;subst hq3;obtain⟨rfl,hle,hk,o2,ho2,hg⟩:=nD t _ k 1 q1 q2 o1 (by simpa using ho1) hq2;refine⟨by omega,o2,ho2,?_⟩;simp only[List.reverse_append,List.reverse_cons,List.reverse_nil,List.nil_append,List.cons_append,eatI];have e1:(k+1-1:Int)=k:=by omega
    rw[e1,if_neg (by simp[hk];omega),hg,show k-(k+1-(q1:Int))=q1-1 by omega];have hpre:=vJ (a:=q1) (by simpa using ho1) ho2 (by omega)
    have hcong:∀(l:List Int) (p:Int),p<q1→eatI t o1 l p=eatI t o2 l p:=by
     intro l
     induction l with
     |nil=>intro p _;rfl
     | cons x l ih2=>
       intro p hp;simp only[eatI];by_cases hc:(decide (p<0)||x != p || !cH (t.nd p).kind)=true
       ·rw[if_pos hc,if_pos hc]
       ·rw[if_neg hc,if_neg hc]
        simp only[Bool.or_eq_true,bne_iff_ne,ne_eq,decide_eq_true_eq,not_or,Classical.not_not]at hc;rw[←hpre p.toNat (by omega)];have:=(cC _ _ (by simpa using ho1) p.toNat (show p.toNat<q1 by omega)).1;exact ih2 _ (by omega)
    rw[←hcong _ _ (by omega)];exact he1
   ·cases hq2
theorem Good.walk{t:Tr}{S:List Int}(G:Good t S):∀(f:Nat) (i:Nat) (d:Int),i<f→i<t.nodes.length→cH (t.nd i).kind=(d==1)→1≤d→dT t f i d (stt S i+1)=some ((i:Int)+1)
 |0,i,d,h,_,_,_=>by omega
 | f+1,i,d,h,hi,hk,hd=>by
   have key:∀(l:List Int) (p q:Int),p<t.nodes.length→(∀k∈l,dT t f k (d+1) (stt S k+1)=some (k+1))→eatK S l.reverse p=some q→goK (fun k q=>dT t f k (d+1) q) l (q+1)=some (p+1):=by
    intro l
    induction hl:l.length generalizing l with
    | zero=>
      intro p q _ _ he;obtain rfl:=List.eq_nil_of_length_eq_zero hl;simp only[List.reverse_nil,eatK,Option.some.injEq]at he;subst he;rfl
    | succ n ih=>
      intro p q hp hw he;obtain⟨l',k,rfl⟩:∃l' k,l=l'++[k]:=⟨l.dropLast,l.getLast (by intro e;simp[e]at hl),(List.dropLast_concat_getLast _).symm⟩
      simp only[List.reverse_append,List.reverse_cons,List.reverse_nil,List.nil_append,List.cons_append,eatK]at he;split at he
      ·cases he
      ·rename_i hc
       simp only[Bool.or_eq_true,bne_iff_ne,ne_eq,decide_eq_true_eq,not_or,Classical.not_not]at hc;obtain⟨rfl,hc⟩:=hc;have hb:=G.one k.toNat (by omega);rw[sE,ih l' (by simpa using hl) (k-S.getD k.toNat 0) q (by omega) (fun x hx=>hw x (by simp[hx])) he];simp only[Option.bind_some];exact hw k (by simp)
   simp only[dT];have he:=G.eat i hi;have hs:stt S i+1=(i:Int)-S.getD i 0+1:=by simp[stt]
   rw[hs,key (t.nd i).kids ((i:Int)-1) ((i:Int)-S.getD i 0) (by omega) (fun k hk=>?_) he]
   ·simp only[Option.bind_some]
    rw[if_neg (by simp),if_pos (by simp[hk])];simp
   ·obtain⟨h1,h2,h3,h4⟩:=G.kid hi k hk
    have hkk:=G.kidKind hi hk;obtain⟨k,rfl⟩:=Int.eq_ofNat_of_zero_le h4;exact Good.walk G f k (d+1) (by omega) (by omega) (by rw[hkk];symm;simp;omega) (by omega)
theorem Good.ordered{t:Tr}{S:List Int}(G:Good t S):aL t=true:=by
 have key:∀(l:List Int) (p:Int),p<t.nodes.length → -1≤p→eatI t S l.reverse p=true→ordF t l 0=some (p+1):=by
  intro l
  induction hl:l.length generalizing l with
  | zero=>
    intro p _ _ he;obtain rfl:=List.eq_nil_of_length_eq_zero hl;simp only[List.reverse_nil,eatI,beq_iff_eq]at he;subst he;rfl
  | succ n ih=>
    intro p hp hp0 he;obtain⟨l',k,rfl⟩:∃l' k,l=l'++[k]:=⟨l.dropLast,l.getLast (by intro e;simp[e]at hl),(List.dropLast_concat_getLast _).symm⟩
    simp only[List.reverse_append,List.reverse_cons,List.reverse_nil,List.nil_append,List.cons_append,eatI]at he;split at he
    ·cases he
    ·rename_i hc
     simp only[Bool.or_eq_true,bne_iff_ne,ne_eq,decide_eq_true_eq,not_or,Classical.not_not,Bool.not_eq_true',Bool.not_eq_false]at hc;obtain⟨⟨hc,rfl⟩,hc3⟩:=hc;have hb:=G.bd k.toNat (by omega);rw[pP,ih l' (by simpa using hl) (k-S.getD k.toNat 0) (by omega) (by omega) he];simp only[Option.bind_some,ordF];rw[if_pos (by simp only[Bool.and_eq_true,decide_eq_true_eq];omega)];obtain⟨k,rfl⟩:=Int.eq_ofNat_of_zero_le (show 0≤k by omega);have:=G.walk ((k:Int)+1).toNat k 1 (by omega) (by omega) (by rw[hc3];rfl) (Int.le_refl _);rw[show(k:Int)-S.getD (k:Int).toNat 0+1=stt S k+1 from rfl,this];rfl
 have:=key _ _ (by omega) (by omega) G.root;unfold aL;rw[this];simp
theorem qF{t:Tr}(h:aL t=true):(aG t).length=t.nodes.length∧eatI t (aG t) t.items.reverse ((t.nodes.length:Int)-1)=true:=by
 obtain⟨_,o,h1,h2⟩:=xJ t _ _ (by simpa[aL]using h);have h1:zC t t.nodes.length=some o:=by simpa using h1
 have:aG t=o:=by unfold aG;rw[h1];rfl
 rw[this];exact⟨aM _ _ h1,h2⟩
inductive PK where
 |expr|kind|param|put|num
deriving DecidableEq
def PK.B:PK→Int→Bool
 |.expr=>bB
 |.kind=>fT
 |.param=>fun k=>k==34
 |.put=>fun k=>k==25
 |.num=>fun k=>k==1
abbrev Part:=Int×Int×PK
structure Shape where
 named:Bool
 lo:Int
 hi:Int
 parts:List Part
def askP(n:Int):Shape:=if n==7 then ⟨false,1,8,[]⟩else if n==8 then ⟨false,1,8,[(1,801,.expr)]⟩else ⟨false,1,8,[(1,1,.expr)]⟩
def fQ(k n:Int):Option Shape:=
 if k==1 then some ⟨false,0,9999,[]⟩
 else if k==2 then some ⟨false,0,1,[]⟩
 else if k==3||k==32||k==45 then some ⟨true,0,0,[]⟩
 else if k==4||k==5 then some ⟨false,0,0,[(1,1,.expr)]⟩
 else if k==19 then some ⟨false,0,0,[(3,3,.expr)]⟩
 else if k==20 then some ⟨true,0,0,[(2,2,.expr)]⟩
 else if k==21 then some ⟨true,0,0,[(0,801,.expr)]⟩
 else if k==22||k==25||k==43||k==44 then some ⟨true,0,0,[(1,1,.expr)]⟩
 else if k==24 then some ⟨true,0,0,[(1,801,.put)]⟩
 else if k==26 then some ⟨false,0,0,[(1,801,.expr)]⟩
 else if k==30||k==31 then some ⟨false,0,0,[]⟩
 else if k==33 then some ⟨false,-9223372036854775808,9223372036854775807,[(1,1,.kind)]⟩
 else if k==34 then some ⟨true,0,0,[(1,1,.kind)]⟩
 else if k==40 then some ⟨true,0,0,[(2,2,.num)]⟩
 else if k==41 then some ⟨true,0,0,[(1,801,.param)]⟩
 else if k==42 then some ⟨true,0,9223372036854775807,[(0,801,.param),(1,1,.kind),(1,1,.expr)]⟩
 else if k==46 then some (askP n)
 else if (decide (6≤k)&&decide (k≤18))||k==23 then some ⟨false,0,0,[(2,2,.expr)]⟩
 else none
def zv(n lo hi:Int):Bool:=decide (lo≤n)&&decide (n≤hi)
theorem inRange_iff{n lo hi:Int}:zv n lo hi=true↔lo≤n∧n≤hi:=by simp[zv]
def leasts:List Part→Int
 | []=>0
 |p::r=>p.1+leasts r
def eM:List Part→List Int→Bool
 | [],ks=>ks.length==0
 | (lo,hi,k)::r,ks=>(zv ((ks.length:Int)-leasts r) lo hi&&(ks.take ((ks.length:Int)-leasts r).toNat).all k.B)&&eM r (ks.drop ((ks.length:Int)-leasts r).toNat)
def bO(t:Tr)(i:Nat):List Int:=(t.nd i).kids.map fun k=>(t.nd k).kind
def dJ(t:Tr)(i:Nat):Bool:=
 match fQ (t.nd i).kind (t.nd i).n with
 |none=>false
 |some s=>(zv (t.nd i).pos 0 2000&&(s.named==((t.nd i).text != []))&&(!s.named||zX (t.nd i).text))&&((t.nd i).kids.all (fun k=>zv k 0 ((i:Int)-1)) &&
  (eM s.parts (bO t i)&&(zv (t.nd i).n s.lo s.hi||(t.nd i).kind==1&&zv (t.nd i).n (-9999) (-1))))
def dK(t:Tr):Bool:=(List.range t.nodes.length).all fun i=>!((t.nd i).kind==1&&decide ((t.nd i).n<0))||t.items.any fun it=>(t.nd it).kind==40&&hasI (t.nd it).kids i
def eP(t:Tr)(i:Nat):Bool:=
 if (t.nd i).kind==40 then zv ((t.nd ((t.nd i).kids.getD 1 0)).n-(t.nd ((t.nd i).kids.getD 0 0)).n+1) 1 12
 else if (t.nd i).kind==41 then decide (((t.nd i).kids.length:Int)≤6)
 else if (t.nd i).kind==42 then decide (((t.nd i).kids.length:Int)-2≤4)&&decide ((t.nd i).n≤8)
 else if (t.nd i).kind==33 then zv (t.nd i).n 1 6
 else if (t.nd i).kind==26 then decide (((t.nd i).kids.length:Int)≤6)
 else if (t.nd i).kind==46 then (t.nd i).n != 8||decide (((t.nd i).kids.length:Int)≤4)
 else true
def aF(t:Tr):Int:=first (fun i=>!eP t i) t.nodes.length 0
def cJ(t:Tr):Bool:=(List.range t.nodes.length).all fun i=>dJ t i
def fK(t:Tr):Int:=
 if 800<t.nodes.length∨60<t.items.length then 5
 else if !cJ t then 4
 else if !(aL t&&dK t)then 4
 else if 30<zW t then 5
 else if 0≤aF t then 3 else 0
theorem bN(ks:List Int):eM [] ks=(ks.length==0):=rfl
theorem zH(l m:Int)(p:PK)(ks:List Int):eM [(l,m,p)] ks=(zv ks.length l m&&ks.all p.B):=by
 simp only[eM,leasts,Int.sub_zero,Int.toNat_natCast,List.take_length,List.drop_length,List.length_nil];simp
theorem IZ(ks:List Int):eM [(0,801,.param),(1,1,.kind),(1,1,.expr)] ks=true↔∃l a b,ks=l++[a,b]∧l.length≤801∧l.all (fun k=>k==34)=true∧fT a=true∧bB b=true:=by
 constructor
 ·intro h
  simp only[eM,leasts,Bool.and_eq_true,inRange_iff]at h;obtain⟨⟨⟨h1,h2⟩,h3⟩,⟨⟨h4,h5⟩,h6⟩,⟨⟨h7,h8⟩,h9⟩,h10⟩:=h;obtain⟨n,hn⟩:∃n:Nat,ks.length=n+2:=⟨ks.length-2,by omega⟩
  have e1:((ks.length:Int)-(1+(1+0))).toNat=n:=by omega
  rw[e1]at h3 h4 h5 h6 h7 h8 h9 h10
  obtain⟨a,b,hab⟩:∃a b,ks.drop n=[a,b]:=by
   have hl:(ks.drop n).length=2:=by simp;omega
   match hx:ks.drop n,hl with
   | [a,b],_=>exact⟨a,b,rfl⟩
  rw[hab]at h6 h9;refine⟨ks.take n,a,b,by rw[←hab,List.take_append_drop],by simp;omega,h3,by simpa[PK.B]using h6,by simpa[PK.B]using h9⟩
 ·rintro⟨l,a,b,rfl,h1,h2,h3,h4⟩
  have e1:(((l++[a,b]).length:Int)-(1+(1+0))).toNat=l.length:=by simp
  have e2:(l++[a,b]).take l.length=l:=by simp
  have e3:(l++[a,b]).drop l.length=[a,b]:=by simp
  simp only[eM,leasts,e1,e2,e3,Bool.and_eq_true,inRange_iff];exact⟨⟨⟨by simp,by simp;omega⟩,h2⟩,⟨⟨by simp,by simp⟩,by simpa[PK.B]using h3⟩,⟨⟨by simp,by simp⟩,by simpa[PK.B]using h4⟩,by simp⟩
def allK(k:Int)(ks:List Int):Bool:=(List.range ks.length).all fun j=>kidK k ks.length j (ks.getD j 0)
theorem DQ(p:Int→Bool)(ks:List Int):((List.range ks.length).all fun j=>p (ks.getD j 0))=ks.all p:=by
 rw[Bool.eq_iff_iff];simp only[List.all_eq_true,List.mem_range];constructor
 ·intro h k hk
  obtain⟨j,hj,rfl⟩:=List.getElem_of_mem hk;have:=h j hj;simpa[hj]using this
 ·intro h j hj
  have:=h ks[j] (List.getElem_mem hj);simpa[hj]using this
theorem zx{k:Int}{ks:List Int}(p:Int→Bool)(h:∀m j d:Int,kidK k m j d=p d):allK k ks=ks.all p:=by
 unfold allK;simp only[h];exact DQ p ks
theorem nM{k:Int}(h:okK k=true):k=1∨k=2∨k=3∨k=4∨k=5∨k=6∨k=7∨k=8∨k=9∨k=10∨k=11∨k=12∨k=13∨k=14∨k=15∨k=16∨k=17∨k=18∨k=19∨k=20∨k=21∨k=22∨k=23∨k=24∨k=25∨k=26∨k=30∨k=31∨k=32∨k=33∨k=34∨k=40∨k=41∨k=42∨k=43∨k=44∨k=45∨k=46:=by
 simp[okK,bB,fT,cH]at h;omega
theorem jX{k n:Int}(h:okK k=false):fQ k n=none:=by
 have h':¬(okK k=true):=by rw[h];exact Bool.false_ne_true
 simp[okK,bB,fT,cH]at h';unfold fQ
 repeat rw[if_neg (by simp;omega)]
theorem DR(n:Int):(askP n).named=false:=by unfold askP;split<;>(try split)<;>rfl
theorem KS{k:Int}(n:Int)(h:okK k=true):∃s,fQ k n=some s∧s.named=cQ k:=by
 rcases nM h with rfl|rfl|rfl|rfl|rfl|rfl|rfl|rfl|rfl|rfl|rfl|rfl|rfl|rfl|rfl|rfl|rfl|rfl|rfl|rfl|rfl|rfl|rfl|rfl|rfl|rfl|rfl|rfl|rfl|rfl|rfl|rfl|rfl|rfl|rfl|rfl|rfl|rfl
 all_goals exact⟨_,rfl,by first|rfl|exact DR n⟩
theorem MB(n:Int)(ks:List Int)(hl:ks.length≤801):(eM (askP n).parts ks&&(zv n (askP n).lo (askP n).hi||(46:Int)==1&&zv n (-9999) (-1)))=(zN 46 n ks.length&&zw 46 n&&allK 46 ks):=by
 have e:(askP n).lo=1∧(askP n).hi=8:=by unfold askP;split<;>(try split)<;>exact⟨rfl,rfl⟩
 rw[e.1,e.2,zx bB (by intro m j d;simp[kidK])];unfold askP;by_cases h7:n=7
 ·subst h7
  cases ks with
  |nil=>simp[bN,zN,zw,zv]
  |cons a r=>simp[bN,zN];omega
 ·by_cases h8:n=8
  ·subst h8
   simp only[show((8:Int)==7)=false from rfl,show((8:Int)==8)=true from rfl,if_true,if_false,Bool.false_eq_true];rw[zH];simp only[PK.B];generalize ks.all _=A;cases A
   ·simp
   ·rw[Bool.eq_iff_iff];simp[zN,zw,inRange_iff];omega
  ·simp only[show(n==7)=false by simpa using h7,show(n==8)=false by simpa using h8,if_false,Bool.false_eq_true]
   rw[zH];simp only[PK.B];generalize ks.all _=A;cases A
   ·simp
   ·rw[Bool.eq_iff_iff];simp[zN,zw,inRange_iff,h7,h8];omega
theorem MA(n:Int)(ks:List Int)(hl:ks.length≤801)(hn : -9223372036854775808≤n∧n≤9223372036854775807) :
 (eM [(0,801,.param),(1,1,.kind),(1,1,.expr)] ks&&(zv n 0 9223372036854775807||(42:Int)==1&&zv n (-9999) (-1)))=(zN 42 n ks.length&&zw 42 n&&allK 42 ks):=by
 have e1:(zv n 0 9223372036854775807||(42:Int)==1&&zv n (-9999) (-1))=zw 42 n:=by
  rw[Bool.eq_iff_iff];simp[zw,inRange_iff];omega
 rw[e1]
 have e2:eM [(0,801,.param),(1,1,.kind),(1,1,.expr)] ks=(zN 42 n ks.length&&allK 42 ks):=by
  rw[Bool.eq_iff_iff,IZ];have hm:zN 42 n ks.length=decide (2≤(ks.length:Int)):=rfl;rw[hm,Bool.and_eq_true,decide_eq_true_eq];have hk:∀m j d:Int,kidK 42 m j d=if j==m-1 then bB d else if j==m-2 then fT d else d==34:=fun m j d=>by simp[kidK]
  constructor
  ·rintro⟨l,a,b,rfl,h1,h2,h3,h4⟩
   refine⟨by simp;omega,?_⟩;unfold allK;simp only[List.all_eq_true,List.mem_range,hk];intro j hj;simp only[List.length_append,List.length_cons,List.length_nil]at hj⊢;by_cases c1:j=l.length+1
   ·subst c1
    rw[if_pos (by simp;omega)];simpa[List.getD_eq_getElem?_getD,List.getElem?_append_right]using h4
   ·rw[if_neg (by simp;omega)]
    by_cases c2:j=l.length
    ·subst c2
     rw[if_pos (by simp)];simpa[List.getD_eq_getElem?_getD,List.getElem?_append_right]using h3
    ·rw[if_neg (by simp;omega)]
     have hjl:j<l.length:=by omega
     rw[List.getD_eq_getElem?_getD,List.getElem?_append_left hjl,List.getElem?_eq_getElem hjl];exact List.all_eq_true.1 h2 _ (List.getElem_mem hjl)
  ·rintro⟨h1,h2⟩
   obtain⟨m,hm⟩:∃m:Nat,ks.length=m+2:=⟨ks.length-2,by omega⟩
   obtain⟨a,b,hab⟩:∃a b,ks.drop m=[a,b]:=by
    have hl:(ks.drop m).length=2:=by simp;omega
    match hx:ks.drop m,hl with
    | [a,b],_=>exact⟨a,b,rfl⟩
   have hks:ks=ks.take m++[a,b]:=by rw[←hab,List.take_append_drop]
   have hlm:(ks.take m).length=m:=by simp;omega
   unfold allK at h2;simp only[List.all_eq_true,List.mem_range,hk]at h2;refine⟨ks.take m,a,b,hks,by omega,?_,?_,?_⟩
   ·rw[List.all_eq_true]
    intro x hx;obtain⟨j,hj,rfl⟩:=List.getElem_of_mem hx;have:=h2 j (by omega);rw[if_neg (by simp;omega),if_neg (by simp;omega)]at this;simpa[show j<ks.length by omega]using this
   ·have:=h2 m (by omega)
    rw[if_neg (by simp;omega),if_pos (by simp;omega)]at this;rw[hks,List.getD_eq_getElem?_getD,List.getElem?_append_right (by omega),hlm]at this;simpa using this
   ·have:=h2 (m+1) (by omega)
    rw[if_pos (by simp;omega)]at this;rw[hks,List.getD_eq_getElem?_getD,List.getElem?_append_right (by omega),hlm]at this;simpa using this
 rw[e2];cases zN 42 n ks.length<;>cases allK 42 ks<;>cases zw 42 n<;>rfl
theorem BW{k n:Int}{s:Shape}(hs:fQ k n=some s)(ks:List Int)(hl:ks.length≤801)(hn : -9223372036854775808≤n∧n≤9223372036854775807) :
 (eM s.parts ks&&(zv n s.lo s.hi||k==1&&zv n (-9999) (-1)))=(zN k n ks.length&&zw k n&&allK k ks):=by
 have hok:okK k=true:=by
  cases h:okK k with
  |true=>rfl
  |false=>rw[jX h]at hs;cases hs
 have e1:∀a b:Int,zv n a b=true↔a≤n∧n≤b:=fun _ _=>inRange_iff;have hl0:(ks.length:Int)≤801:=by omega
 rcases nM hok with rfl|rfl|rfl|rfl|rfl|rfl|rfl|rfl|rfl|rfl|rfl|rfl|rfl|rfl|rfl|rfl|rfl|rfl|rfl|rfl|rfl|rfl|rfl|rfl|rfl|rfl|rfl|rfl|rfl|rfl|rfl|rfl|rfl|rfl|rfl|rfl|rfl|rfl
 all_goals simp[fQ]at hs
 all_goals try subst hs
 ·cases ks with
  |nil=>rw[Bool.eq_iff_iff];simp[bN,zN,zw,allK,inRange_iff];try omega
  |cons a r=>rw[bN];simp[zN];try omega
 ·cases ks with
  |nil=>rw[Bool.eq_iff_iff];simp[bN,zN,zw,allK,inRange_iff];try omega
  |cons a r=>rw[bN];simp[zN];try omega
 ·cases ks with
  |nil=>rw[Bool.eq_iff_iff];simp[bN,zN,zw,allK,inRange_iff];try omega
  |cons a r=>rw[bN];simp[zN];try omega
 ·rw[zH,zx bB (by intro m j d;simp[kidK])];simp only[PK.B];generalize ks.all _=A;cases A
  ·simp
  ·rw[Bool.eq_iff_iff];simp[zN,zw,inRange_iff];try omega
 ·rw[zH,zx bB (by intro m j d;simp[kidK])];simp only[PK.B];generalize ks.all _=A;cases A
  ·simp
  ·rw[Bool.eq_iff_iff];simp[zN,zw,inRange_iff];try omega
 ·rw[zH,zx bB (by intro m j d;simp[kidK])];simp only[PK.B];generalize ks.all _=A;cases A
  ·simp
  ·rw[Bool.eq_iff_iff];simp[zN,zw,inRange_iff];try omega
 ·rw[zH,zx bB (by intro m j d;simp[kidK])];simp only[PK.B];generalize ks.all _=A;cases A
  ·simp
  ·rw[Bool.eq_iff_iff];simp[zN,zw,inRange_iff];try omega
 ·rw[zH,zx bB (by intro m j d;simp[kidK])];simp only[PK.B];generalize ks.all _=A;cases A
  ·simp
  ·rw[Bool.eq_iff_iff];simp[zN,zw,inRange_iff];try omega
 ·rw[zH,zx bB (by intro m j d;simp[kidK])];simp only[PK.B];generalize ks.all _=A;cases A
  ·simp
  ·rw[Bool.eq_iff_iff];simp[zN,zw,inRange_iff];try omega
 ·rw[zH,zx bB (by intro m j d;simp[kidK])];simp only[PK.B];generalize ks.all _=A;cases A
  ·simp
  ·rw[Bool.eq_iff_iff];simp[zN,zw,inRange_iff];try omega
 ·rw[zH,zx bB (by intro m j d;simp[kidK])];simp only[PK.B];generalize ks.all _=A;cases A
  ·simp
  ·rw[Bool.eq_iff_iff];simp[zN,zw,inRange_iff];try omega
 ·rw[zH,zx bB (by intro m j d;simp[kidK])];simp only[PK.B];generalize ks.all _=A;cases A
  ·simp
  ·rw[Bool.eq_iff_iff];simp[zN,zw,inRange_iff];try omega
 ·rw[zH,zx bB (by intro m j d;simp[kidK])];simp only[PK.B];generalize ks.all _=A;cases A
  ·simp
  ·rw[Bool.eq_iff_iff];simp[zN,zw,inRange_iff];try omega
 ·rw[zH,zx bB (by intro m j d;simp[kidK])];simp only[PK.B];generalize ks.all _=A;cases A
  ·simp
  ·rw[Bool.eq_iff_iff];simp[zN,zw,inRange_iff];try omega
 ·rw[zH,zx bB (by intro m j d;simp[kidK])];simp only[PK.B];generalize ks.all _=A;cases A
  ·simp
  ·rw[Bool.eq_iff_iff];simp[zN,zw,inRange_iff];try omega
 ·rw[zH,zx bB (by intro m j d;simp[kidK])];simp only[PK.B];generalize ks.all _=A;cases A
  ·simp
  ·rw[Bool.eq_iff_iff];simp[zN,zw,inRange_iff];try omega
 ·rw[zH,zx bB (by intro m j d;simp[kidK])];simp only[PK.B];generalize ks.all _=A;cases A
  ·simp
  ·rw[Bool.eq_iff_iff];simp[zN,zw,inRange_iff];try omega
 ·rw[zH,zx bB (by intro m j d;simp[kidK])];simp only[PK.B];generalize ks.all _=A;cases A
  ·simp
  ·rw[Bool.eq_iff_iff];simp[zN,zw,inRange_iff];try omega
 ·rw[zH,zx bB (by intro m j d;simp[kidK])];simp only[PK.B];generalize ks.all _=A;cases A
  ·simp
  ·rw[Bool.eq_iff_iff];simp[zN,zw,inRange_iff];try omega
 ·rw[zH,zx bB (by intro m j d;simp[kidK])];simp only[PK.B];generalize ks.all _=A;cases A
  ·simp
  ·rw[Bool.eq_iff_iff];simp[zN,zw,inRange_iff];try omega
 ·rw[zH,zx bB (by intro m j d;simp[kidK])];simp only[PK.B];generalize ks.all _=A;cases A
  ·simp
  ·rw[Bool.eq_iff_iff];simp[zN,zw,inRange_iff];try omega
 ·rw[zH,zx bB (by intro m j d;simp[kidK])];simp only[PK.B];generalize ks.all _=A;cases A
  ·simp
  ·rw[Bool.eq_iff_iff];simp[zN,zw,inRange_iff];try omega
 ·rw[zH,zx bB (by intro m j d;simp[kidK])];simp only[PK.B];generalize ks.all _=A;cases A
  ·simp
  ·rw[Bool.eq_iff_iff];simp[zN,zw,inRange_iff];try omega
 ·rw[zH,zx (fun k=>k==25) (by intro m j d;simp[kidK])];simp only[PK.B];generalize ks.all _=A;cases A
  ·simp
  ·rw[Bool.eq_iff_iff];simp[zN,zw,inRange_iff];try omega
 ·rw[zH,zx bB (by intro m j d;simp[kidK])];simp only[PK.B];generalize ks.all _=A;cases A
  ·simp
  ·rw[Bool.eq_iff_iff];simp[zN,zw,inRange_iff];try omega
 ·rw[zH,zx bB (by intro m j d;simp[kidK])];simp only[PK.B];generalize ks.all _=A;cases A
  ·simp
  ·rw[Bool.eq_iff_iff];simp[zN,zw,inRange_iff];try omega
 ·cases ks with
  |nil=>rw[Bool.eq_iff_iff];simp[bN,zN,zw,allK,inRange_iff];try omega
  |cons a r=>rw[bN];simp[zN];try omega
 ·cases ks with
  |nil=>rw[Bool.eq_iff_iff];simp[bN,zN,zw,allK,inRange_iff];try omega
  |cons a r=>rw[bN];simp[zN];try omega
 ·cases ks with
  |nil=>rw[Bool.eq_iff_iff];simp[bN,zN,zw,allK,inRange_iff];try omega
  |cons a r=>rw[bN];simp[zN];try omega
 ·rw[zH,zx fT (by intro m j d;simp[kidK])];simp only[PK.B];generalize ks.all _=A;cases A
  ·simp
  ·rw[Bool.eq_iff_iff];simp[zN,zw,inRange_iff];try omega
 ·rw[zH,zx fT (by intro m j d;simp[kidK])];simp only[PK.B];generalize ks.all _=A;cases A
  ·simp
  ·rw[Bool.eq_iff_iff];simp[zN,zw,inRange_iff];try omega
 ·rw[zH,zx (fun k=>k==1) (by intro m j d;simp[kidK])];simp only[PK.B];generalize ks.all _=A;cases A
  ·simp
  ·rw[Bool.eq_iff_iff];simp[zN,zw,inRange_iff];try omega
 ·rw[zH,zx (fun k=>k==34) (by intro m j d;simp[kidK])];simp only[PK.B];generalize ks.all _=A;cases A
  ·simp
  ·rw[Bool.eq_iff_iff];simp[zN,zw,inRange_iff];try omega
 ·exact MA n ks hl hn
 ·rw[zH,zx bB (by intro m j d;simp[kidK])];simp only[PK.B];generalize ks.all _=A;cases A
  ·simp
  ·rw[Bool.eq_iff_iff];simp[zN,zw,inRange_iff];try omega
 ·rw[zH,zx bB (by intro m j d;simp[kidK])];simp only[PK.B];generalize ks.all _=A;cases A
  ·simp
  ·rw[Bool.eq_iff_iff];simp[zN,zw,inRange_iff];try omega
 ·cases ks with
  |nil=>rw[Bool.eq_iff_iff];simp[bN,zN,zw,allK,inRange_iff];try omega
  |cons a r=>rw[bN];simp[zN];try omega
 ·exact MB n ks hl
def negs(t:Tr)(i:Nat):Bool:=(t.nd i).kids.all fun k=>!((t.nd k).kind==1&&decide ((t.nd k).n<0)&&(t.nd i).kind != 40)
theorem uL(t:Tr)(i:Nat):gR t (t.nd i)=(allK (t.nd i).kind (bO t i)&&negs t i):=by
 rw[Bool.eq_iff_iff];have hg:∀j,j<(t.nd i).kids.length→(bO t i).getD j 0=(t.nd ((t.nd i).kids.getD j 0)).kind:=fun j hj=>by simp[bO,hj]
 have hl:(bO t i).length=(t.nd i).kids.length:=by simp[bO]
 simp only[gR,allK,negs,hl,Bool.and_eq_true,List.all_eq_true,List.mem_range,kS];constructor
 ·intro h
  refine⟨fun j hj=>by rw[hg j hj];exact(h j hj).1,fun k hk=>?_⟩;obtain⟨j,hj,rfl⟩:=List.getElem_of_mem hk;have:=(h j hj).2;simpa[hj]using this
 ·rintro⟨h1,h2⟩ j hj
  refine⟨by rw[←hg j hj];exact h1 j hj,?_⟩;have:=h2 (t.nd i).kids[j] (List.getElem_mem hj);simpa[hj]using this
theorem rD:zX []=false:=rfl
theorem EG{l:List UInt8}(h:zX l=true):l≠[]:=by
 rintro rfl;rw[rD]at h;cases h
def Rg(t:Tr):Prop:=∀i,i<t.nodes.length → -9223372036854775808≤(t.nd i).n∧(t.nd i).n≤9223372036854775807
theorem uD{t:Tr}{i:Nat}(rg : -9223372036854775808≤(t.nd i).n∧(t.nd i).n≤9223372036854775807)(hl:(t.nd i).kids.length≤801)(hk:(t.nd i).kids.all (fun k=>zv k 0 ((i:Int)-1))=true) :
 (dJ t i&&negs t i)=bJ t i:=by
 have hkl:(bO t i).length=(t.nd i).kids.length:=by simp[bO]
 cases hok:okK (t.nd i).kind with
 |false=>simp[dJ,jX hok,bJ,hok]
 | true=>
   obtain⟨s,hs,hn⟩:=KS (t.nd i).n hok;have hf:=BW hs (bO t i) (by omega) rg;have hpos:zv (t.nd i).pos 0 2000=(decide (0≤(t.nd i).pos)&&decide ((t.nd i).pos≤2000)):=rfl
   have hnm:((s.named==((t.nd i).text != []))&&(!s.named||zX (t.nd i).text))=((cQ (t.nd i).kind==zX (t.nd i).text)&&(cQ (t.nd i).kind||(t.nd i).text==[])):=by
    rw[hn]
    cases cQ (t.nd i).kind with
    | true=>
      cases hx:zX (t.nd i).text with
      |false=>simp
      |true=>have:=EG hx;simp[this]
    | false=>
      by_cases he:(t.nd i).text=[]
      ·rw[he,rD];rfl
      ·have e1:((t.nd i).text==[])=false:=by simpa using he
       rw[show((t.nd i).text != []) = !((t.nd i).text==[])from rfl,e1];cases zX (t.nd i).text<;>rfl
   simp only[dJ,hs,bJ,hok,hk,uL,hf,hkl,hpos,Bool.true_and];rw[Bool.and_assoc,Bool.and_assoc];have hnm':=hnm;revert hnm';generalize (s.named==((t.nd i).text != []))=a1;generalize (!s.named||zX (t.nd i).text)=a2;generalize (cQ (t.nd i).kind==zX (t.nd i).text)=a3;generalize (cQ (t.nd i).kind||(t.nd i).text==[])=a4;generalize zN (t.nd i).kind (t.nd i).n (t.nd i).kids.length=a5;generalize zw (t.nd i).kind (t.nd i).n=a6;generalize allK (t.nd i).kind (bO t i)=a7;generalize negs t i=a8;generalize decide (0≤(t.nd i).pos)=a9;generalize decide ((t.nd i).pos≤2000)=a10;intro h;revert h;revert a1 a2 a3 a4 a5 a6 a7 a8 a9 a10;decide
theorem qR:∀(l:List Int) (a b:Int),a≤b→l.Pairwise (· < ·)→(∀k∈l,a≤k∧k<b)→(l.length:Int)≤b-a
 | [],a,b,hab,_,h=>by simp;omega
 | x::l,a,b,hab,hp,h=>by
   obtain⟨h1,h2⟩:=List.pairwise_cons.1 hp;have hx:=h x (by simp);have:=qR l (x+1) b (by omega) h2 (fun k hk=>⟨by have:=h1 k hk;omega,(h k (by simp[hk])).2⟩);simp only[List.length_cons];omega
theorem Placed.kids_length{t:Tr}{S:List Int}(P:Placed t S){i:Nat}(hi:i<t.nodes.length):(t.nd i).kids.length≤i:=by
 have:=qR (t.nd i).kids 0 i (by omega) ?_ (fun k hk=>by have:=P.kid hi k hk;omega)
 ·omega
 ·have h:=P.asc hi
  rw[List.pairwise_iff_getElem]at h⊢;intro x y hx hy hxy;have h1:=h x y hx hy hxy;have h2:=P.kid hi _ (List.getElem_mem hy);omega
theorem Placed.kidsIn{t:Tr}{S:List Int}(P:Placed t S){i:Nat}(hi:i<t.nodes.length):(t.nd i).kids.all (fun k=>zv k 0 ((i:Int)-1))=true:=by
 rw[List.all_eq_true];intro k hk;have:=P.kid hi k hk;rw[inRange_iff];omega
theorem Good.sized{t:Tr}{S:List Int}(G:Good t S){i:Nat}(hi:i<t.nodes.length):eP t i=eQ t i:=by
 have hm:=G.many hi;unfold eP eQ;split
 ·rw[Bool.eq_iff_iff];simp only[inRange_iff,Bool.and_eq_true,decide_eq_true_eq];omega
 split
 ·rfl
 split
 ·rfl
 split
 ·rfl
 split
 ·rfl
 split
 ·rename_i hk
  have hk:(t.nd i).kind=46:=by simpa using hk
  rw[hk]at hm;by_cases h8:(t.nd i).n=8
  ·simp[h8]
  ·have hle:(t.nd i).kids.length≤1:=by
    have e:zN 46 (t.nd i).n (t.nd i).kids.length=if (t.nd i).n==7 then ((t.nd i).kids.length:Int)==0 else if (t.nd i).n==8 then decide (1≤((t.nd i).kids.length:Int))else ((t.nd i).kids.length:Int)==1:=rfl;rw[e]at hm;by_cases h7:(t.nd i).n=7
    ·rw[h7]at hm
     simp at hm;simp[hm]
    ·rw[if_neg (by simpa using h7),if_neg (by simpa using h8)]at hm
     simp at hm;omega
   have e1:((t.nd i).n != 8)=true:=by simpa using h8
   have e2:decide (((t.nd i).kids.length:Int)≤4)=true:=by simp;omega
   rw[e1,e2];rfl
 ·rfl
theorem Good.signed{t:Tr}{S:List Int}(G:Good t S):dK t=true:=by
 unfold dK;rw[List.all_eq_true];intro i hi;have hi:=List.mem_range.1 hi;by_cases hneg:(t.nd i).kind=1∧(t.nd i).n<0
 ·rcases G.kidOrItem hi with h|⟨p,hp,h⟩
  ·have:=(G.item _ h).2.2.2.2
   rw[hneg.1]at this;cases this
  ·have hr:=G.right p hp
   simp only[bJ,uL,Bool.and_eq_true]at hr;have h1:=List.all_eq_true.1 hr.2.2 _ h;have h40:(t.nd p).kind=40:=by simpa[hneg.1,hneg.2]using h1
   have hpi:(p:Int)∈t.items:=by
    rcases G.kidOrItem hp with h2|⟨q,hq,h2⟩
    ·exact h2
    ·have:=G.kidKind hq h2
     rw[h40]at this;cases this
   have:(t.items.any fun it=>(t.nd it).kind==40&&hasI (t.nd it).kids i)=true:=by
    rw[List.any_eq_true];refine⟨p,hpi,?_⟩;rw[h40];exact List.contains_iff_mem.2 h
   rw[this];simp
 ·have:((t.nd i).kind==1&&decide ((t.nd i).n<0))=false:=by
   rw[Bool.eq_false_iff];simpa using hneg
  rw[this];simp
theorem iY(p:Nat→Bool)(n:Nat):0≤first p n 0↔((List.range n).all fun i=>!p i)=false:=by
 constructor
 ·intro h
  obtain⟨m,_,_,h3,h4⟩:=eL _ _ nlr h;rw[Bool.eq_false_iff];intro hc;have:=List.all_eq_true.1 hc m (List.mem_range.2 h3);rw[h4]at this;cases this
 ·intro h
  have key:∀(f k:Nat),n-k≤f→first p n k<0→∀j,k≤j→j<n→p j=false:=by
   intro f
   induction f with
   |zero=>intro k hf _ j h1 h2;omega
   | succ f ih=>
     intro k hf hlt j h1 h2
     cases hp:p k with
     |true=>rw[aE (by omega) hp]at hlt;omega
     | false=>
       rw[cI (by omega) hp]at hlt;by_cases e:j=k
       ·subst e;exact hp
       ·exact ih (k+1) (by omega) hlt j (by omega) h2
  by_cases hc:0≤first p n 0
  ·exact hc
  ·exfalso
   have:=key n 0 (by omega) (by omega);rw[Bool.eq_false_iff]at h;apply h;rw[List.all_eq_true];intro i hi;rw[this i (by omega) (List.mem_range.1 hi)];rfl
theorem yD{t:Tr}(rg:Rg t):fK t=zJ t:=by
 unfold fK zJ;by_cases hsz:800<t.nodes.length∨60<t.items.length
 ·rw[if_pos hsz,if_pos hsz]
 ·rw[if_neg hsz,if_neg hsz]
  cases hf:dR t with
  | true=>
    have G:=gH hf
    have h1:cJ t=true:=by
     unfold cJ;rw[List.all_eq_true];intro i hi;have hi:=List.mem_range.1 hi;have:=uD (rg i hi) (by have:=G.kids_length hi;omega) (G.kidsIn hi);rw[G.right i hi,Bool.and_eq_true]at this;exact this.1
    have h2:(0≤aF t) = ¬(eG t=true):=by
     unfold aF;rw[iY,eG]
     have:((List.range t.nodes.length).all fun i=>!!eP t i)=((List.range t.nodes.length).all fun i=>eQ t i):=by
      rw[Bool.eq_iff_iff];simp only[List.all_eq_true,List.mem_range,Bool.not_not];exact⟨fun h i hi=>by rw[←G.sized hi];exact h i hi,fun h i hi=>by rw[G.sized hi];exact h i hi⟩
     rw[this];simp
    rw[h1,G.ordered,G.signed];simp only[h2,Bool.not_true,Bool.and_self,Bool.false_eq_true,if_false,if_true];split
    ·rfl
    ·cases eG t<;>simp
  | false=>
    have:¬(cJ t=true∧aL t=true∧dK t=true):=by
     rintro⟨h1,h2,h3⟩;obtain⟨h4,h5⟩:=qF h2;have P:=uX (iL h4)
     have:jH t=true:=by
      unfold jH;rw[List.all_eq_true];intro i hi';have hi:=List.mem_range.1 hi';rw[←uD (rg i hi) (by have:=P.kids_length hi;omega) (P.kidsIn hi),List.all_eq_true.1 h1 i hi',Bool.true_and];unfold negs;rw[List.all_eq_true];intro k hk;obtain⟨_,_,k3,k4⟩:=P.kid hi k hk;obtain⟨k,rfl⟩:=Int.eq_ofNat_of_zero_le k4;by_cases hneg:(t.nd k).kind=1∧(t.nd k).n<0
      ·have h6:=List.all_eq_true.1 h3 k (List.mem_range.2 (by omega))
       have h7:((t.nd k).kind==1&&decide ((t.nd k).n<0))=true:=by simpa using hneg
       rw[h7,Bool.not_true,Bool.false_or,List.any_eq_true]at h6;obtain⟨it,h8,h9⟩:=h6;rw[Bool.and_eq_true]at h9;obtain⟨_,h10,h11,h12,_⟩:=(nI P.one _ _ (by omega) h5).2 it (by simpa using h8) |>.imp id id
       obtain⟨it,rfl⟩:=Int.eq_ofNat_of_zero_le h12;have:=P.unique (by omega) hi (List.contains_iff_mem.1 h9.2) hk;subst this;have h40:(t.nd it).kind=40:=by simpa using h9.1
       rw[h40];simp
      ·have:((t.nd k).kind==1&&decide ((t.nd k).n<0))=false:=by
        rw[Bool.eq_false_iff];simpa using hneg
       rw[this];rfl
     rw[dR,this,h5,h4]at hf;simp at hf
    rw[if_neg Bool.false_ne_true]
    cases h1:cJ t with
    |false=>rfl
    | true=>
      cases h2:aL t with
      |false=>rfl
      | true=>
        cases h3:dK t with
        |false=>rfl
        |true=>exact(this ⟨h1,h2,h3⟩).elim
end
end Go.Proofs.YtokdgiphdnjeoaaGreatDoor
