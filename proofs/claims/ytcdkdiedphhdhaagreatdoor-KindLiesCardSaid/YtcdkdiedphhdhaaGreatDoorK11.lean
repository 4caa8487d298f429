/- Part of a proof. -/
import Derived.Test.YtcdkdiedphhdhaaGreatDoorK10
import Derived.BigRegion
set_option maxRecDepth 100000
set_option maxHeartbeats 8000000
set_option linter.unusedVariables false
set_option linter.unusedSimpArgs false
open Go.Proofs.Tryz
namespace Go.Proofs.YtcdkdiedphhdhaaGreatDoor
section
open Go.RowKit
def eatK(out:List Int):List Int->Int->Option Int
 | [],p=>some p
 |k::r,p=>if k != p||decide (p<0)then none else eatK out r (p-out.getD p.toNat 0)
def zI(t:Tr):Nat->Option (List Int)
 |0=>some []
 |i+1=>(zI t i).bind fun out=>(eatK out (t.nd i).kids.reverse ((i:Int)-1)).map fun p=>out++[(i:Int)-p]
def dN(t:Tr):List Int:=(zI t t.nodes.length).getD []
theorem sC{out:List Int}{n:Nat}(ho:∀j,j<n->1<=out.getD j 0/\out.getD j 0<=j+1):∀(l:List Int) (p q:Int),p<n -> -1<=p->eatK out l p=some q -> -1<=q/\q<=p
 | [],p,q,_,h1,h=>by simp[eatK]at h;omega
 | k::l,p,q,h0,h1,h=>by
   rw[eatK]at h;split at h
   .cases h
   .rename_i hc
    simp only[Bool.or_eq_true,bne_iff_ne,ne_eq,decide_eq_true_eq,not_or,Classical.not_not]at hc;have hj:=ho p.toNat (by omega);have:=sC ho l _ q (by omega) (by omega) h;omega
theorem II{out:List Int}{n:Nat}(ho:∀j,j<n->1<=out.getD j 0/\out.getD j 0<=j+1):∀(l:List Int) (p q:Int),p<n -> -1<=p->eatK out l p=some q->∀k∈l,0<=k/\k<=p
 | [],p,q,_,h1,h=>by simp
 | k::l,p,q,h0,h1,h=>by
   rw[eatK]at h;split at h
   .cases h
   .rename_i hc
    simp only[Bool.or_eq_true,bne_iff_ne,ne_eq,decide_eq_true_eq,not_or,Classical.not_not]at hc;have hj:=ho p.toNat (by omega);intro x hx;rcases List.mem_cons.1 hx with rfl|hx
    .omega
    .have:=II ho l _ q (by omega) (by omega) h x hx
     omega
theorem bQ{t:Tr}:∀(i:Nat) (out:List Int),zI t i=some out->out.length=i
 |0,out,h=>by simp[zI]at h;subst h;rfl
 | i+1,out,h=>by
   simp only[zI,Option.bind_eq_some_iff,Option.map_eq_some_iff]at h;obtain⟨o,h1,p,h2,rfl⟩:=h;simp[bQ i o h1]
theorem dZ{t:Tr}:∀(i:Nat) (out:List Int),zI t i=some out->∀j,j<i->1<=out.getD j 0/\out.getD j 0<=j+1
 |0,out,h,j,hj=>by omega
 | i+1,out,h,j,hj=>by
   simp only[zI,Option.bind_eq_some_iff,Option.map_eq_some_iff]at h;obtain⟨o,h1,p,h2,rfl⟩:=h;have hl:=bQ i o h1;have ih:=dZ i o h1;by_cases hji:j<i
   .have:=ih j hji
    rwa[List.getD_eq_getElem?_getD,List.getElem?_append_left (by omega),<-List.getD_eq_getElem?_getD]
   .obtain rfl:j=i:=by omega
    have hb:=sC ih _ _ p (by omega) (by omega) h2;rw[List.getD_eq_getElem?_getD,List.getElem?_append_right (by omega),hl];simp;omega
theorem nZ{t:Tr}{i n:Nat}(h:i<=n)(hn:(zI t n).isSome):(zI t i).isSome:=by
 induction n with
 | zero=>
   have e:i=0:=by omega
   rw[e];rfl
 | succ n ih=>
   by_cases e:i=n+1
   .subst e;exact hn
   .refine ih (by omega) ?_
    simp only[zI]at hn
    cases hx:zI t n with
    |none=>rw[hx]at hn;simp at hn
    |some o=>rfl
theorem wQ{t:Tr}{n i:Nat}(hn:(zI t n).isSome)(hi:i<n):∀k∈(t.nd i).kids,0<=k/\k<(i:Int):=by
 have h1:=nZ (t:=t) (show i+1<=n by omega) hn;simp only[zI]at h1
 cases hx:zI t i with
 |none=>rw[hx]at h1;simp at h1
 | some o=>
   rw[hx]at h1;simp only[Option.bind_some]at h1;cases hy:eatK o (t.nd i).kids.reverse ((i:Int)-1)with
   |none=>rw[hy]at h1;simp at h1
   | some p=>
     intro k hk;have:=II (dZ i o hx) _ _ p (by omega) (by omega) hy k (by simpa using hk);omega
def eY(n:Nat):Array Value:=Array.replicate n (intV 0)
theorem BA(n:Nat):(eY n).toList=zq (List.replicate n 0):=by simp[eY]
theorem sL(W:World)(n:Nat)(h:n<=4398046511104) :
 (Instr.makeSlice 23 (.int .i64 n) (.int .i64 n)).run prog W=.ok (.slice (some ⟨W.heap.size,0,none⟩) n n) (W.alloc (.cells (eY n) 3)):=by
 obtain⟨i0,hi,ha,hb,hc⟩:=info_parts kI;rw[run_make (P:=prog) W 23 3 i0 (.int .i64 0) bI hi ha .i64 .i64 n n (by omega) (Int.le_refl _) (by rw[hc];omega) (by omega),hb,Nat.mul_one,Int.toNat_natCast]
 have:madeCells (Value.int .i64 0).cells n=eY n:=by
  apply Array.ext';rw[show(Value.int IntKind.i64 0).cells = #[Value.int .i64 0]from rfl,toList_madeCells_one,eY];simp
 rw[this]
theorem EP(W:World){B n k:Nat}(hk:W.heap.size=k)(hB:B<=k)(hn:n<=4398046511104):(W.alloc (.cells (eY n) 3)).ownsRow B 3 1 (.slice (some ⟨k,0,none⟩) n n) n (zq (List.replicate n 0)):=by
 subst hk;rw[<-BA];exact World.ownsRow_lit W (eY n) n hB (by unfold maxLen;omega) (by simp[eY])
def aH(o:List Int)(d:Int):List Int->List Int
 | []=>o
 |k::r=>aH (o.set k.toNat d) d r
def jH(t:Tr)(o:List Int)(i:Nat):List Int:=aH (o.set i (max (o.getD i 0) 1)) (max (o.getD i 0) 1+1) (t.nd i).kids
def eK(t:Tr):Nat->List Int
 |0=>List.replicate t.nodes.length 0
 |m+1=>jH t (eK t m) (t.nodes.length-1-m)
def dQ(t:Tr):List Int:=eK t t.nodes.length
theorem gK(d:Int):∀(l o:List Int),(aH o d l).length=o.length
 | [],o=>rfl
 |k::l,o=>by rw[aH,gK d l];simp
theorem aP(t:Tr):∀m,(eK t m).length=t.nodes.length
 |0=>by simp[eK]
 |m+1=>by rw[eK,jH,gK];simp[aP t m]
theorem lX{d:Int}{n:Nat}{i:Nat}(hd:0<=d/\d+i<=n+1):∀(l o:List Int),(∀k∈l,0<=k/\k<(i:Int))->(∀j,0<=o.getD j 0/\(j<n->o.getD j 0+j<=n))->∀j,0<=(aH o d l).getD j 0/\(j<n->(aH o d l).getD j 0+j<=n)
 | [],o,_,h=>h
 | k::l,o,hk,h=>by
   refine lX hd l _ (fun x hx=>hk x (List.mem_cons_of_mem _ hx)) fun j=>?_;have hk0:=hk k (by simp);rw[List.getD_eq_getElem?_getD,List.getElem?_set];split
   .rename_i e
    split
    .exact⟨hd.1,fun _=>by simp only[Option.getD_some];omega⟩
    .exact⟨by simp,fun _=>by simp only[Option.getD_none];omega⟩
   .rw[<-List.getD_eq_getElem?_getD];exact h j
theorem lA{t:Tr}(hk:∀i,i<t.nodes.length->∀k∈(t.nd i).kids,0<=k/\k<(i:Int)):∀m,m<=t.nodes.length->∀j,0<=(eK t m).getD j 0/\(j<t.nodes.length->(eK t m).getD j 0+j<=t.nodes.length)
 | 0,_,j=>by
   rw[eK,List.getD_eq_getElem?_getD,List.getElem?_replicate];split<;>simp<;>omega
 | m+1,hm,j=>by
   have ih:=lA hk m (by omega);rw[eK,jH];have hi:=ih (t.nodes.length-1-m);refine lX (n:=t.nodes.length) (i:=t.nodes.length-1-m) (by have:=hi.2 (by omega);omega) _ _ (hk _ (by omega)) (fun j=>?_) j;rw[List.getD_eq_getElem?_getD,List.getElem?_set];have h2:=hi.2 (by omega);have h1:=hi.1;generalize (eK t m).getD (t.nodes.length-1-m) 0=x at *;split
   .rename_i e
    split
    .exact⟨by simp only[Option.getD_some];omega,fun _=>by simp only[Option.getD_some];omega⟩
    .exact⟨by simp,fun _=>by simp only[Option.getD_none];omega⟩
   .rw[<-List.getD_eq_getElem?_getD];exact ih j
theorem iM{d:Int}{i:Nat}:∀(l o:List Int),(∀k∈l,0<=k/\k<(i:Int))->(aH o d l).getD i 0=o.getD i 0
 | [],o,_=>rfl
 | k::l,o,hk=>by
   have hk0:=hk k (by simp);rw[aH,iM l _ fun x hx=>hk x (List.mem_cons_of_mem _ hx),List.getD_eq_getElem?_getD,List.getElem?_set,if_neg (by omega),<-List.getD_eq_getElem?_getD]
theorem jG{d:Int}:∀(l o:List Int) (k:Int),aH o d (l++[k])=(aH o d l).set k.toNat d
 | [],o,k=>rfl
 |x::l,o,k=>by rw[List.cons_append,aH,jG l];rfl
def okK(k:Int):Bool:=zl k||k==25||cG k||k==34||cQ k
def qM(t:Tr)(d:Nd)(j:Nat):Bool:=kidK d.kind d.kids.length j (t.nd (d.kids.getD j 0)).kind && !((t.nd (d.kids.getD j 0)).kind==1&&decide ((t.nd (d.kids.getD j 0)).n<0)&&d.kind != 40)
def iA(t:Tr)(d:Nd):Bool:=(List.range d.kids.length).all fun j=>qM t d j
def cM(t:Tr)(i:Nat):Bool:=
 (okK (t.nd i).kind&&(eQ (t.nd i).kind==zG (t.nd i).text)&&(eQ (t.nd i).kind||(t.nd i).text==[])&&zC (t.nd i).kind (t.nd i).n (t.nd i).kids.length&&zA (t.nd i).kind (t.nd i).n&&decide (0<=(t.nd i).pos)&&decide ((t.nd i).pos<=2000))&&iA t (t.nd i)
theorem iK{w wr:World}{v:TreeV}{t:Tr}{ka:Option Addr}{kc:Nat}{d:Nd}(hb:Below (w.heap.size+1+1) (boxD (boxT w v t) ka kc d) wr):wr.cell? ⟨w.heap.size+1,4,none⟩=some (intV d.pos):=by
 have ha:Below (boxD (boxT w v t) ka kc d).heap.size (boxD (boxT w v t) ka kc d) wr:=by simpa using hb
 obtain⟨hc,_⟩:=bcell ha;have e1:(boxD (boxT w v t) ka kc d).cell? ⟨w.heap.size+1,4,none⟩=some (intV d.pos):=by simp
 exact(hc _ _ (by simp)).trans e1
def maxL(l:List Int):Int:=l.foldl max 0
theorem qK{l:List Int}{k:Nat}(h:k<l.length):maxL (l.take (k+1))=max (maxL (l.take k)) l[k]:=by
 rw[List.take_succ_eq_append_getElem h,maxL,List.foldl_append];rfl
def aM(t:Tr):Int:=maxL (dQ t)
def eX(t:Tr)(i:Nat):Bool:=
 if (t.nd i).kind==40 then decide ((t.nd ((t.nd i).kids.getD 0 0)).n<=(t.nd ((t.nd i).kids.getD 1 0)).n)&&decide ((t.nd ((t.nd i).kids.getD 1 0)).n-(t.nd ((t.nd i).kids.getD 0 0)).n+1<=12)
 else if (t.nd i).kind==41 then decide (((t.nd i).kids.length:Int)<=6)
 else if (t.nd i).kind==42 then decide (((t.nd i).kids.length:Int)-2<=4)&&decide ((t.nd i).n<=8)
 else if (t.nd i).kind==33 then decide (1<=(t.nd i).n)&&decide ((t.nd i).n<=6)
 else if (t.nd i).kind==26 then decide (((t.nd i).kids.length:Int)<=6)
 else if (t.nd i).kind==46 then decide (((t.nd i).kids.length:Int)<=4)
 else true
end
end Go.Proofs.YtcdkdiedphhdhaaGreatDoor
