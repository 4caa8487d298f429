/- Part of a proof. -/
import Derived.Test.YtcdkdiedphhdhaaGreatDoorK09
import Derived.Test.YtcdkdiedphhdhaaGreatDoorK28
import Derived.Test.YtcdkdiedphhdhaaGreatDoorK34
import Derived.Maps.OwnIn
set_option maxRecDepth 100000
set_option maxHeartbeats 8000000
set_option linter.unusedVariables false
set_option linter.unusedSimpArgs false
namespace Go.Proofs.YtcdkdiedphhdhaaGreatDoor
section
open Go Go.RowKit
theorem zt{t:Tr}(h:(zb t).2.2=0):Resolved t:=by
 by_cases hc:aD t=0
 .refine⟨hc,?_⟩
  suffices hs:∀f m,m<f->m<t.nodes.length->bV t m=0 from fun m hm=>hs (m+1) m (by omega) hm
  intro f
  induction f with
  |zero=>intro m hm;omega
  | succ f ih=>
    intro m hm hl;by_cases he:bV t m=0
    .exact he
    .exfalso
     have:=qW hc hl (fun j hj=>ih j (by omega) (by omega)) he;rw[this]at h;exact he h
 .exfalso
  unfold zb at h;rw[if_pos (by simpa using hc)]at h;exact hc h
theorem zi{t:Tr}(bd:Bd t)(h:(zb t).2.2=0):WF t/\Good t (dN t):=⟨iV bd (zt h).check,pY (fE (zt h).check)⟩
def yJ(t:Tr)(i d:Int):Bool:=inside t i d&&((t.nd d).kind==42||(t.nd d).kind==20&&((t.nd d).kids.length==2&&inside t i ((t.nd d).kids.getD 1 0)))
def CM(t:Tr)(i d:Int):Bool:=(t.nd d).kind==34&&inside t i (parent t d)
def OJ(t:Tr)(i d:Int):Bool:=decide (d<i)&&decide (parent t d<0)
theorem cX{t:Tr}(bd:Bd t)(h:(zb t).2.2=0){i:Nat}(hi:i<t.nodes.length)(hk:bD (t.nd i).kind=true) :
 ∃d:Nat,means t i=d/\d<t.nodes.length/\zn t d=true/\(t.nd d).text=(t.nd i).text/\mM (t.nd i).kind (t.nd d).kind=true/\(yJ t i d=true\/CM t i d=true\/OJ t i d=true):=by
 obtain⟨wf,G⟩:=zi bd h;have h0:=AD ((zt h).err i hi) hk;have hr:=dE wf (node:=i);obtain⟨d,hd⟩:=Int.eq_ofNat_of_zero_le h0;have hc:means t i ≠ -1:=by omega
 have hb:d<t.nodes.length:=by omega
 obtain⟨h1,h2,_⟩:=nC hc;have hs:=lD hc;obtain⟨h3,h4,h5⟩:=lH G hi hs;have h6:=sO G hi hs;rw[hd]at h1 h2 h3 h6;refine⟨d,hd,hb,h6,h1,by rw[KN hk];exact h2,?_⟩;rcases h3 with(⟨k20,⟨k,hf,hg⟩,ha⟩|⟨k42,ha⟩|⟨k34,hp,hj,ha⟩) | ⟨he,hh,_⟩
 .have hl:(t.nd d).kids.length=2:=by rw[t.nd_at hb];exact wf.letK d hb (by rw[<-t.nd_at hb];exact k20)
  refine .inl ?_;unfold yJ;rw[ha,k20,hl,List.getD_eq_getElem?_getD,hf,Option.getD_some,hg];rfl
 .refine .inl ?_
  unfold yJ;rw[ha,k42];rfl
 .refine .inr (.inl ?_)
  unfold CM;rw[k34,ha];rfl
 .refine .inr (.inr ?_)
  unfold OJ;rw[G.noParent he,decide_eq_true hh];rfl
theorem yS{t:Tr}{i:Nat}(hi:i<t.nodes.length):(zg t t.nodes.length)[i]?=some (means t i):=by
 rw[bE,List.getElem?_map,List.getElem?_range hi];rfl
def Before(t:Tr)(node x:Int):Prop:=
 ((t.nd x).kind=20/\∀a,(t.nd x).kids[0]?=some a->a<node) \/
 ((t.nd x).kind=42/\∀(j:Nat) (a:Int),j+1<(t.nd x).kids.length->(t.nd x).kids[j]?=some a->a<node)\/x<node
theorem wY{t:Tr}{S:List Int}(G:Good t S){node:Nat}(hn:node<t.nodes.length):∀(f last:Nat) (acc:List Int),last<t.nodes.length->inside t node last=true->(∀x∈acc,Before t node x) ->
 ∀x∈(upF t (fun last n acc=>acc++zK (t.nd n) last n) f last (parent t last) acc).1,Before t node x
 |0,last,acc,hl,hin,ha=>ha
 | f+1,last,acc,hl,hin,ha=>by
   rw[upF];by_cases hp:parent t last<0
   .rw[if_pos hp];exact ha
   .rw[if_neg hp]
    obtain⟨i,he,hi,hm⟩:=zy (show 0<=parent t last by omega);have hk:=G.kid hi _ hm;rw[he];have hd:=mB he (by omega) (by omega) _ node nlr hn hin;have hh:=((G.inside_iff hl hn).1 hin).1;have hb:=List.pairwise_iff_getElem.1 (G.asc hi);refine wY G hn f i _ hi hd fun x hx=>?_;rcases List.mem_append.1 hx with hx|hx
    .exact ha x hx
    .unfold zK at hx
     rcases List.mem_append.1 hx with hx|hx
     .split at hx
      .rename_i hc
       obtain rfl:=List.mem_singleton.1 hx;simp only[Bool.and_eq_true,beq_iff_eq]at hc;refine .inl ⟨hc.1,fun a ha=>?_⟩;obtain⟨h0,e0⟩:=List.getElem?_eq_some_iff.1 ha;obtain⟨h1,e1⟩:=List.getElem?_eq_some_iff.1 hc.2;have:=hb 0 1 h0 h1 (by omega);rw[e0,e1]at this;omega
      .cases hx
     .split at hx
      .rename_i hc
       simp only[Bool.and_eq_true,beq_iff_eq]at hc;obtain⟨h1,e1⟩:=List.getElem?_eq_some_iff.1 hc.2
       have key:∀(j:Nat) (a:Int),j+1<(t.nd i).kids.length->(t.nd i).kids[j]?=some a->a<(node:Int):=fun j a hj ha=>by
        obtain⟨h0,e0⟩:=List.getElem?_eq_some_iff.1 ha;have:=hb j _ h0 h1 (by omega);rw[e0,e1]at this;omega
       rcases List.mem_append.1 hx with hx|hx
       .obtain⟨k,hf,rfl⟩:=List.getElem_of_mem hx
        have hg:k<(t.nd i).kids.length-2/\k<(t.nd i).kids.length:=by simp at hf;omega
        rw[List.getElem_take];exact .inr (.inr (key k _ (by omega) (List.getElem?_eq_getElem hg.2)))
       .obtain rfl:=List.mem_singleton.1 hx
        exact .inr (.inl ⟨hc.1,key⟩)
      .cases hx
theorem eO{t:Tr}{S:List Int}(G:Good t S){node:Nat}(hn:node<t.nodes.length)(h:means t node ≠ -1):Before t node (means t node):=by
 have hs:=lD h;unfold sight at hs;rcases List.mem_append.1 hs with hs|hs
 .exact wY G hn (t.nodes.length+1) node [] hn (fS (by omega) (by omega)) (fun x h=>by cases h) _ hs
 .rw[G.ahead hn]at hs
  simp only[List.mem_filter,Bool.and_eq_true,decide_eq_true_eq]at hs;exact .inr (.inr hs.2.1)
theorem Good.kidOk{t:Tr}{S:List Int}(G:Good t S){i:Nat}(hi:i<t.nodes.length){j:Nat}(hj:j<(t.nd i).kids.length):kidK (t.nd i).kind (t.nd i).kids.length j (t.nd (t.nd i).kids[j]).kind=true:=by
 have hr:=G.right i hi;simp only[cM,iA,Bool.and_eq_true]at hr;have h1:=List.all_eq_true.1 hr.2 j (List.mem_range.2 hj);simp only[qM,Bool.and_eq_true,List.getD_eq_getElem?_getD,List.getElem?_eq_getElem hj,Option.getD_some]at h1;exact h1.1
theorem Good.ok{t:Tr}{S:List Int}(G:Good t S){i:Nat}(hi:i<t.nodes.length):okK (t.nd i).kind=true/\eQ (t.nd i).kind=zG (t.nd i).text/\zA (t.nd i).kind (t.nd i).n=true:=by
 obtain⟨h1,h2,_,_,h5,_⟩:=lG (G.right i hi);exact⟨h1,h2,h5⟩
theorem Good.kid1{t:Tr}{S:List Int}(G:Good t S){i:Nat}(hi:i<t.nodes.length)(hm:((t.nd i).kids.length:Int)=1):∃a:Nat,(t.nd i).kids=[(a:Int)]/\a<i/\kidK (t.nd i).kind 1 0 (t.nd a).kind=true:=by
 have h0:0<(t.nd i).kids.length:=by omega
 obtain⟨h1,h2,h3,h4⟩:=G.kid hi _ (List.getElem_mem h0);have h5:=G.kidOk hi h0;obtain⟨a,ha⟩:=Int.eq_ofNat_of_zero_le h4;rw[hm,ha]at h5;rw[ha]at h3;refine⟨a,List.ext_getElem (by simp;omega) fun j j1 j2=>?_,by omega,h5⟩;obtain rfl:j=0:=by simp at j2;omega
 exact ha
def tyP(t:Tr)(i:Nat):List UInt8:=typP t (tysP t i) i
def tyR(t:Tr)(i:Nat):List UInt8:=if zl (t.nd (i:Int)).kind then ofAt t (ofTo t i) i else []
theorem eS{t:Tr}{i k:Nat}(hk:k<i)(hn:k<t.nodes.length):ofK (tysP t i) (k:Int)=tyP t k:=FI t hn hk
theorem CK{t:Tr}{i k:Nat}(hk:k<i):ofK (ofTo t i) (k:Int)=tyR t k:=CL t hk
theorem CT{t:Tr}{S:List Int}(G:Good t S):∀(f g i:Nat),i<f->i<g->i<t.nodes.length->cG (t.nd (i:Int)).kind=true->kQ t f i=kQ t g i
 |0,_,i,h,_,_,_=>by omega
 |f+1,0,i,_,h,_,_=>by omega
 | f+1,g+1,i,h1,h2,hi,hk=>by
   rw[kQ,kQ];split
   .rfl
   .split
    .rfl
    .split
     .rfl
     .rename_i a b c
      have k33:(t.nd (i:Int)).kind=33:=by simp[cG]at hk a b c;omega
      have hm:=G.many hi;rw[k33]at hm;obtain⟨a,ha,hc,hb⟩:=G.kid1 hi (by simpa[zC]using hm);rw[k33]at hb;rw[ha];simp only[List.getD_cons_zero];rw[CT G f g a (by omega) (by omega) (by omega) (by simpa[kidK]using hb)]
theorem nM{t:Tr}{S:List Int}(G:Good t S){i:Nat}(hi:i<t.nodes.length)(k33:(t.nd (i:Int)).kind=33):∃a:Nat,(t.nd i).kids=[(a:Int)]/\a<i/\cG (t.nd a).kind=true/\eZ t i=bC (eZ t a) (t.nd (i:Int)).n.toNat:=by
 have hm:=G.many hi;rw[k33]at hm;obtain⟨a,ha,hc,hb⟩:=G.kid1 hi (by simpa[zC]using hm);rw[k33]at hb;have hb:cG (t.nd (a:Int)).kind=true:=by simpa[kidK]using hb
 refine⟨a,ha,hc,hb,?_⟩;unfold eZ;rw[kQ,k33,if_neg (by decide),if_neg (by decide),if_neg (by decide),ha];simp only[List.getD_cons_zero,Int.toNat_natCast];rw[CT G i (a+1) a (by omega) (by omega) (by omega) hb]
theorem fU{t:Tr}{S:List Int}(G:Good t S):∀(i:Nat),i<t.nodes.length->cG (t.nd (i:Int)).kind=true->tyP t i=eZ t i:=fun i hi hk=>by
 induction i using Nat.strongRecOn with
 | ind i ih=>
   have hx:zl (t.nd (i:Int)).kind=false:=by simp[cG]at hk;simp[zl];omega
   have hc:(t.nd (i:Int)).kind=30\/(t.nd (i:Int)).kind=31\/(t.nd (i:Int)).kind=32\/(t.nd (i:Int)).kind=33:=by simp[cG]at hk;omega
   rcases hc with e|e|e|e
   .simp[tyP,typP,eZ,kQ,e,zl]
   .simp[tyP,typP,eZ,kQ,e,zl]
   .simp[tyP,typP,eZ,kQ,e,zl]
   .obtain⟨a,ha,hb,hd,he⟩:=nM G hi e
    rw[he,<-ih a hb (by omega) hd];unfold tyP;rw[typP];simp only[hx,Bool.false_eq_true,if_false,e,ha,List.getD_cons_zero];rw[eS hb (by omega)];rfl
theorem mE{t:Tr}{S:List Int}(G:Good t S){i:Nat}(hi:i<t.nodes.length)(hk:(t.nd (i:Int)).kind=25\/(t.nd (i:Int)).kind=34):∃a:Nat,(t.nd i).kids=[(a:Int)]/\a<i/\kidK (t.nd i).kind 1 0 (t.nd a).kind=true/\tyP t i=tyP t a:=by
 have hm:=G.many hi;obtain⟨a,ha,hb,hc⟩:=G.kid1 hi (by rcases hk with e|e<;>rw[e]at hm<;>simpa[zC]using hm);refine⟨a,ha,hb,hc,?_⟩;unfold tyP
 conv=>lhs;rw[typP]
 rcases hk with e|e<;>simp only[e,ha,List.getD_cons_zero]<;>exact eS hb (by omega)
end
section
open Go Go.RowKit
section
variable {t : Tr} {S : List Int}
theorem nJ(G:Good t S)(h:∀n:Nat,n<t.nodes.length->bV t n=0){a b:Nat}(ha:a<t.nodes.length)(hb:b<t.nodes.length)(ka:(t.nd (a:Int)).kind=41)(kb:(t.nd (b:Int)).kind=41)(e:(t.nd (a:Int)).text=(t.nd (b:Int)).text):a=b:=by
 have top:∀x:Nat,x<t.nodes.length->(t.nd (x:Int)).kind=41->(x:Int)∈t.items:=fun x hx k=>by
  apply Classical.byContradiction;intro hn;obtain⟨i,_,hi,hm⟩:=zy (G.parent_yes hx hn);have:=G.kidKind hi hm;rw[k]at this;simp[cQ]at this
 have one:∀x y:Nat,x<t.nodes.length->y<t.nodes.length->(t.nd (x:Int)).kind=41->(t.nd (y:Int)).kind=41->(t.nd (x:Int)).text=(t.nd (y:Int)).text->x<y->False:=fun x y hx hy kx ky e hlt=>by
  have h1:=wV (h y hy);have h2:bT t y=true:=by unfold bT hasI;exact List.contains_iff_mem.2 (top y hy ky)
  have h3:zn t y=true:=by unfold zn tB;rw[ky];rfl
  have h4:aE t y=true:=by
   unfold aE;refine(eA G.itemsAsc).2 ⟨x,top x hx kx,by omega,?_⟩;have:zn t x=true:=by unfold zn tB;rw[kx];rfl
   simp[this,e]
  rw[h2,h3,h4]at h1;cases h1
 rcases Nat.lt_trichotomy a b with hl|hl|hl
 .exact(one a b ha hb ka kb e hl).elim
 .exact hl
 .exact(one b a hb ha kb ka e.symm hl).elim
theorem jQ{b:Nat}{k:List UInt8}{r:Nat}(h:recT t b k=some r):r<b/\(t.nd (r:Int)).kind=41/\(t.nd (r:Int)).text=k:=by
 unfold recT at h;have:=List.mem_of_getLast? h;simp only[List.mem_filter,List.mem_range,Bool.and_eq_true,beq_iff_eq]at this;exact⟨this.1,this.2.1,this.2.2⟩
theorem JV{b:Nat}{k:List UInt8}(h:recT t b k=none){r:Nat}(hr:r<b)(hk:(t.nd (r:Int)).kind=41):(t.nd (r:Int)).text≠k:=fun e=>by
 unfold recT at h;rw[List.getLast?_eq_none_iff]at h;have:r∈(List.range b).filter fun i:Nat=>(t.nd (i:Int)).kind==41&&(t.nd (i:Int)).text==k:=List.mem_filter.2 ⟨List.mem_range.2 hr,by simp[hk,e]⟩;rw[h]at this;cases this
theorem qT(G:Good t S)(h:∀n:Nat,n<t.nodes.length->bV t n=0){b r:Nat}{k:List UInt8}(hb:b<=t.nodes.length)(hr:r<b)(hk:(t.nd (r:Int)).kind=41)(e:(t.nd (r:Int)).text=k):recT t b k=some r:=by
 cases hc:recT t b k with
 |none=>exact absurd e (JV hc hr hk)
 | some r'=>
   obtain⟨h1,h2,h3⟩:=jQ hc;rw[nJ G h (by omega) (by omega) h2 hk (h3.trans e.symm)]
theorem eJ(G:Good t S)(k:List UInt8):(fI t k = -1/\∀r:Nat,r<t.nodes.length->(t.nd (r:Int)).kind=41->(t.nd (r:Int)).text≠k)\/∃r:Nat,fI t k=r/\r<t.nodes.length/\(t.nd (r:Int)).kind=41/\(t.nd (r:Int)).text=k:=by
 unfold fI
 cases hf:t.items.find? fun x=>(t.nd x).kind==41&&(t.nd x).text==k with
 | none=>
   refine .inl ⟨rfl,fun r hr hk e=>?_⟩
   have hm:(r:Int)∈t.items:=by
    apply Classical.byContradiction;intro hn;obtain⟨i,_,hi,hm⟩:=zy (G.parent_yes hr hn);have:=G.kidKind hi hm;rw[hk]at this;simp[cQ]at this
   have:=List.find?_eq_none.1 hf r hm;simp[hk,e]at this
 | some x=>
   have h1:=List.find?_some hf;have h2:=List.mem_of_find?_eq_some hf;obtain⟨_,_,h3,h4,_⟩:=G.item x h2;obtain⟨r,rfl⟩:=Int.eq_ofNat_of_zero_le h4;simp only[Bool.and_eq_true,beq_iff_eq]at h1;exact .inr ⟨r,rfl,by omega,h1.1,h1.2⟩
theorem AW(G:Good t S)(h:∀n:Nat,n<t.nodes.length->bV t n=0){r:Nat}{k:List UInt8}(hr:r<t.nodes.length)(hk:(t.nd (r:Int)).kind=41)(e:(t.nd (r:Int)).text=k):fI t k=r:=by
 rcases eJ G k with⟨_,h1⟩|⟨r',h1,h2,h3,h4⟩
 .exact absurd e (h1 r hr hk)
 .rw[h1,nJ G h h2 hr h3 hk (h4.trans e.symm)]
def vB:Nat->List UInt8->List UInt8
 |0,k=>k
 |f+1,k=>match cutK k with|some (of,_)=>vB f of|none=>k
def yM(k:List UInt8):List UInt8:=vB k.length k
theorem BI:∀(f g:Nat) (k:List UInt8),k.length<=f->k.length<=g->vB f k=vB g k
 |0,0,_,_,_=>rfl
 | 0,g+1,k,h,_=>by
   obtain rfl:k=[]:=List.length_eq_zero_iff.1 (by omega);rfl
 | f+1,0,k,_,h=>by
   obtain rfl:k=[]:=List.length_eq_zero_iff.1 (by omega);rfl
 | f+1,g+1,k,h1,h2=>by
   rw[vB,vB]
   cases hc:cutK k with
   |none=>rfl
   | some p=>
     have:=pQ (n:=p.2) (of:=p.1) hc;exact BI f g p.1 (by omega) (by omega)
theorem vC{k of:List UInt8}{n:Nat}(h:cutK k=some (of,n)):yM k=yM of:=by
 have:=pQ h;unfold yM;obtain⟨m,hm⟩:∃m,k.length=m+1:=⟨k.length-1,by omega⟩
 rw[hm,vB,h];exact BI _ _ _ (by omega) (by omega)
theorem oI{k:List UInt8}(h:cutK k=none):yM k=k:=by
 unfold yM
 cases hl:k.length with
 |zero=>rfl
 |succ m=>rw[vB,h]
theorem vG{k of:List UInt8}{n:Nat}(h:cutK k=some (of,n)):k.head?=some 91:=by
 obtain⟨_,_,rfl⟩:=jF h;rfl
theorem jK(l:List UInt8):zG (91::l)=false:=by
 unfold zG tokF;have h1:mL 91=false:=by decide
 have h2:aF 91=false:=by decide
 simp only[h1,h2,Bool.false_eq_true,if_false];split<;>rfl
theorem qD{k:List UInt8}(h:zG k=true):k.head?≠some 91:=by
 intro e
 cases k with
 |nil=>cases e
 | cons x l=>
   simp only[List.head?_cons,Option.some.injEq]at e;subst e;rw[jK]at h;cases h
theorem jE{k:List UInt8}(h:zG k=true):cutK k=none:=by
 cases hc:cutK k with
 |none=>rfl
 |some p=>exact absurd (vG (n:=p.2) (of:=p.1) hc) (qD h)
theorem qB:zG intT=false:=by decide +kernel
theorem mT:zG zz=false:=by decide +kernel
def TyOk(t:Tr)(b:Nat)(k:List UInt8):Prop:=∀r:Nat,r<t.nodes.length->(t.nd (r:Int)).kind=41->(t.nd (r:Int)).text=yM k->r<b
theorem TyOk.mono{b c:Nat}{k:List UInt8}(h:TyOk t b k)(hbc:b<=c):TyOk t c k:=fun r h1 h2 h3=>Nat.lt_of_lt_of_le (h r h1 h2 h3) hbc
theorem TyOk.notName(G:Good t S){b:Nat}{k:List UInt8}(h:zG (yM k)=false):TyOk t b k:=fun r h1 h2 h3=>by
 obtain⟨-,h4,-⟩:=G.ok h1;rw[h2,h3,h]at h4;cases h4
theorem TyOk.int(G:Good t S){b:Nat}:TyOk t b intT:=.notName G qB
theorem TyOk.bool(G:Good t S){b:Nat}:TyOk t b zz:=.notName G mT
theorem TyOk.nil(G:Good t S){b:Nat}:TyOk t b []:=.notName G rfl
theorem TyOk.list(G:Good t S){b:Nat}{of:List UInt8}{n:Nat}(h:TyOk t b of):TyOk t b (bC of n):=by
 cases hc:cutK (bC of n)with
 | none=>
   refine .notName G ?_;rw[oI hc];cases hn:zG (bC of n)with
   |false=>rfl
   |true=>exact absurd rfl (qD hn)
 | some p=>
   obtain⟨of',n'⟩:=p;obtain⟨h1,h2,h3⟩:=jF hc;obtain rfl:=vV h1 h2 h3;unfold TyOk;rw[vC (pP of h1 h2)];exact h
theorem TyOk.elem{b:Nat}{k of:List UInt8}{n:Nat}(h:TyOk t b k)(he:cutK k=some (of,n)):TyOk t b of:=by
 unfold TyOk at *;rwa[<-vC he]
theorem TyOk.record(G:Good t S)(h:∀n:Nat,n<t.nodes.length->bV t n=0){r b:Nat}(hr:r<b)(hb:r<t.nodes.length)(hk:(t.nd (r:Int)).kind=41):TyOk t b (t.nd (r:Int)).text:=fun r' h1 h2 h3=>by
 obtain⟨-,h4,-⟩:=G.ok hb;rw[hk]at h4;rw[oI (jE h4.symm)]at h3;rw[nJ G h h1 hb h2 hk h3];exact hr
theorem kJ{k:List UInt8}(h:zG k=true):k.length<=12:=by
 cases k with
 |nil=>simp
 | cons c l=>
   unfold zG tokF at h;simp only at h;split at h
   .split at h
    .simp at h
    .split at h
     .rename_i h12
      simp only[BEq.rfl,Bool.true_and,beq_iff_eq]at h;rw[h]at h12;exact h12
     .simp at h
   .split at h
    .split at h<;>simp at h
    .split at h<;>simp at h
structure TyCl (t:Tr) (P:List UInt8->Prop):Prop where
 int:P intT
 bool:P zz
 nil:P []
 elem:∀{k of:List UInt8}{n:Nat},P k->aW k=some (of,n)->P of
 record:∀{r:Nat},r<t.nodes.length->(t.nd (r:Int)).kind=41->(∀a:Nat,(a:Int)∈(t.nd (r:Int)).kids->P (tyP t a))->P (t.nd (r:Int)).text
 list:∀{i a m:Nat},i<t.nodes.length->(t.nd (i:Int)).kind=26\/(t.nd (i:Int)).kind=33->a<i->zl (t.nd (a:Int)).kind=true\/cG (t.nd (a:Int)).kind=true->P (tyP t a)->1<=m->m<=6->tyP t i=bC (tyP t a) m->P (bC (tyP t a) m)
structure TyG (P:List UInt8->Prop) (t:Tr) (b:Nat) (k:List UInt8):Prop where
 ok:TyOk t b k
 len:k.length<=12+5*b
 p:P k
theorem TyG.mono{P:List UInt8->Prop}{b c:Nat}{k:List UInt8}(h:TyG P t b k)(hbc:b<=c):TyG P t c k:=⟨h.ok.mono hbc,Nat.le_trans h.len (by omega),h.p⟩
theorem TyG.int{P:List UInt8->Prop}(C:TyCl t P)(G:Good t S){b:Nat}:TyG P t b intT:=⟨.int G,by simp[intT];omega,C.int⟩
theorem TyG.bool{P:List UInt8->Prop}(C:TyCl t P)(G:Good t S){b:Nat}:TyG P t b zz:=⟨.bool G,by simp[zz];omega,C.bool⟩
theorem TyG.nil{P:List UInt8->Prop}(C:TyCl t P)(G:Good t S){b:Nat}:TyG P t b []:=⟨.nil G,by simp,C.nil⟩
theorem TyG.list{P:List UInt8->Prop}(G:Good t S){a b:Nat}{of:List UInt8}{n:Nat}(h:TyG P t a of)(hab:a<b)(hn:n<10)(hp:P (bC of n)):TyG P t b (bC of n):=
 ⟨(h.ok.mono (by omega)).list G,by rw[dT of hn];have:=h.len;simp;omega,hp⟩
theorem TyG.elem{P:List UInt8->Prop}(C:TyCl t P){b:Nat}{k of:List UInt8}{n:Nat}(h:TyG P t b k)(he:cutK k=some (of,n))(he2:aW k=some (of,n)):TyG P t b of:=⟨h.ok.elem he,by have:=pQ he;have:=h.len;omega,C.elem h.p he2⟩
theorem TyG.record{P:List UInt8->Prop}(G:Good t S)(h:∀n:Nat,n<t.nodes.length->bV t n=0){r b:Nat}(hr:r<b)(hb:r<t.nodes.length)(hk:(t.nd (r:Int)).kind=41)(hp:P (t.nd (r:Int)).text):TyG P t b (t.nd (r:Int)).text:=
 ⟨.record G h hr hb hk,by
  obtain⟨-,h4,-⟩:=G.ok hb;rw[hk]at h4;have:=kJ h4.symm
  omega,hp⟩
theorem Good.sizedOk{t:Tr}(hc:aD t=0){i:Nat}(hi:i<t.nodes.length):eX t i=true:=by
 unfold aD at hc;split at hc
 .cases hc
 .split at hc
  .split at hc
   .cases hc
   .split at hc
    .rename_i hs
     exact List.all_eq_true.1 hs i (List.mem_range.2 hi)
    .cases hc
  .cases hc
end
end
section
open Go Go.RowKit
def EU(k:Int)(l:List (List UInt8)):List UInt8:=
 if k==1 then intT else if k==2 then zz
 else if k==4||k==6||k==7||k==8||k==9||k==10 then (if areB intT l then intT else [])
 else if k==5||k==17||k==18 then (if areB zz l then zz else [])
 else if k==11||k==12 then (if areB intT l||areB zz l then zz else [])
 else if k==13||k==14||k==15||k==16 then (if areB intT l then zz else [])else []
def OD(k:Int)(l:List (List UInt8)):List UInt8:=
 match oH k with
 |some (want,own)=>if want==l then own else []
 |none=>if k==11||k==12 then (if l.getD 0 []==l.getD 1 []&&(l.getD 0 []==intT||l.getD 0 []==zz)then zz else [])else []
theorem are1(k a:List UInt8):areB k [a]=([k]==[a]):=by
 unfold areB;by_cases h:a=k
 .subst h;simp
 .have h2:(k==a)=false:=by simpa using fun e=>h e.symm
  have h3:(a==k)=false:=by simpa using h
  simp[h3,h2]
theorem are2(k a b:List UInt8):areB k [a,b]=([k,k]==[a,b]):=by
 unfold areB;by_cases h:a=k
 .subst h
  by_cases h':b=a
  .subst h';simp
  .have h3:(b==a)=false:=by simpa using h'
   simp[h3];exact fun e=>h' e.symm
 .have h3:(a==k)=false:=by simpa using h
  simp[h3];exact fun e=>absurd e.symm h
theorem eq2(a b:List UInt8):([intT,intT]==[a,b]||[zz,zz]==[a,b])=(a==b&&(a==intT||a==zz)):=by
 rw[<-are2,<-are2,Bool.eq_iff_iff];simp only[areB,List.all_cons,List.all_nil,Bool.and_true,Bool.or_eq_true,Bool.and_eq_true,beq_iff_eq];constructor
 .rintro(⟨rfl,rfl⟩|⟨rfl,rfl⟩)
  .exact⟨rfl,.inl rfl⟩
  .exact⟨rfl,.inr rfl⟩
 .rintro⟨rfl,rfl|rfl⟩
  .exact .inl ⟨rfl,rfl⟩
  .exact .inr ⟨rfl,rfl⟩
theorem KF{k n:Int}{l:List (List UInt8)}(hm:zC k n l.length=true)(hk:k=1\/k=2\/4<=k/\k<=18):EU k l=OD k l:=by
 have hk:k=1\/k=2\/k=4\/k=5\/k=6\/k=7\/k=8\/k=9\/k=10\/k=11\/k=12\/k=13\/k=14\/k=15\/k=16\/k=17\/k=18:=by omega
 rcases hk with e|e|e|e|e|e|e|e|e|e|e|e|e|e|e|e|e<;>subst e<;>simp[zC]at hm
 .rcases l with _|⟨a,l⟩
  .rfl
  .simp at hm
 .rcases l with _|⟨a,l⟩
  .rfl
  .simp at hm
 all_goals
  rcases l with _|⟨a,_|⟨b,_|⟨c,l⟩⟩⟩<;>simp at hm
  all_goals try omega
  all_goals simp only[EU,OD,oH,are1,are2,eq2,List.getD_cons_zero,List.getD_cons_succ];rfl
theorem wM{t:Tr}{L:List (List UInt8)}{b:Nat}{i:Int}(hk:(t.nd i).kind=1\/(t.nd i).kind=2\/4<=(t.nd i).kind/\(t.nd i).kind<=18):aJ t L b i=EU (t.nd i).kind ((t.nd i).kids.map (ofK L)):=by
 have hk:(t.nd i).kind=1\/(t.nd i).kind=2\/(t.nd i).kind=4\/(t.nd i).kind=5\/(t.nd i).kind=6\/(t.nd i).kind=7\/(t.nd i).kind=8\/(t.nd i).kind=9\/(t.nd i).kind=10\/(t.nd i).kind=11\/(t.nd i).kind=12\/(t.nd i).kind=13\/(t.nd i).kind=14\/(t.nd i).kind=15\/(t.nd i).kind=16\/(t.nd i).kind=17\/(t.nd i).kind=18:=by omega
 rcases hk with e|e|e|e|e|e|e|e|e|e|e|e|e|e|e|e|e<;>simp[aJ,EU,e]
theorem AF{t:Tr}{L:List (List UInt8)}{i:Int}(hk:(t.nd i).kind=1\/(t.nd i).kind=2\/4<=(t.nd i).kind/\(t.nd i).kind<=18):ofAt t L i=OD (t.nd i).kind (lC t L (t.nd i)):=by
 have hk:(t.nd i).kind=1\/(t.nd i).kind=2\/(t.nd i).kind=4\/(t.nd i).kind=5\/(t.nd i).kind=6\/(t.nd i).kind=7\/(t.nd i).kind=8\/(t.nd i).kind=9\/(t.nd i).kind=10\/(t.nd i).kind=11\/(t.nd i).kind=12\/(t.nd i).kind=13\/(t.nd i).kind=14\/(t.nd i).kind=15\/(t.nd i).kind=16\/(t.nd i).kind=17\/(t.nd i).kind=18:=by omega
 rcases hk with e|e|e|e|e|e|e|e|e|e|e|e|e|e|e|e|e<;>simp[ofAt,OD,oH,e]
theorem NO{t:Tr}{S:List Int}{P:List UInt8->Prop}(C:TyCl t P)(G:Good t S){b:Nat}(k:Int)(l:List (List UInt8)):TyG P t b (EU k l):=by
 unfold EU
 repeat' split
 all_goals first|exact .int C G|exact .bool C G|exact .nil C G
theorem IL(p q p' q':Int->List UInt8):∀l m:List Int,eqF (fun a b=>p a==p' b&&q a==q' b) l m=(m.map p'==l.map p&&m.map q'==l.map q)
 | [],[]=>rfl
 | [],b::m=>rfl
 |a::l,[]=>rfl
 | a::l,b::m=>by
   rw[eqF,IL p q p' q' l m];simp only[List.map_cons];by_cases h1:p a=p' b
   .by_cases h2:q a=q' b
    .simp[h1,h2]
    .have:(q a==q' b)=false:=by simpa using h2
     have h3:(q' b==q a)=false:=by simpa using fun e=>h2 e.symm
     simp[this,h3]
   .have:(p a==p' b)=false:=by simpa using h1
    have h3:(p' b==p a)=false:=by simpa using fun e=>h1 e.symm
    simp[this,h3]
theorem BT(p q:Int->List UInt8)(f:List UInt8):∀l:List Int,((l.map p).zip (l.map q)).find? (fun x=>x.1==f)=(l.find? fun k=>p k==f).map fun k=>(p k,q k)
 | []=>rfl
 | a::l=>by
   simp only[List.map_cons,List.zip_cons_cons,List.find?_cons]
   cases p a==f with
   |true=>rfl
   |false=>exact BT p q f l
section
variable {t : Tr}
theorem vA{P:List UInt8->Prop}(C:TyCl t P)(bd:Bd t)(hr:(zb t).2.2=0):∀i:Nat,i<t.nodes.length->(zl (t.nd (i:Int)).kind=true->tyP t i=tyR t i)/\TyG P t i (tyP t i):=by
 obtain⟨wf,G⟩:=zi bd hr;have h0:=(zt hr).err;intro i
 induction i using Nat.strongRecOn with
 |ind i ih=>
 intro hi;have hL:∀k:Nat,k<i->ofK (tysP t i) (k:Int)=tyP t k:=fun k hk=>eS hk (by omega);have hO:∀k:Nat,k<i->ofK (ofTo t i) (k:Int)=tyR t k:=fun k hk=>CK hk
 have hp:∀{m:Nat},m<t.nodes.length->∀k∈(t.nd (m:Int)).kids,∃a:Nat,k=a/\a<m:=fun hm k hk=>by
  obtain⟨_,_,h1,h2⟩:=G.kid hm k hk;obtain⟨a,ha⟩:=Int.eq_ofNat_of_zero_le h2;exact⟨a,ha,by omega⟩
 have hB:∀{r:Nat},r<i->(t.nd (r:Int)).kind=41->∀k∈(t.nd (r:Int)).kids,∃a:Nat,k=a/\a<r/\ofK (tysP t i) k=eZ t ((t.nd k).kids.getD 0 0)/\TyG P t i (ofK (tysP t i) k):=fun {r} hr k41 k hk=>by
  obtain⟨j,hj,rfl⟩:=List.getElem_of_mem hk;have h1:=G.kidOk (show r<t.nodes.length by omega) hj;obtain⟨a,ha,hF⟩:=hp (show r<t.nodes.length by omega) _ hk;rw[k41,ha]at h1;have k34:(t.nd (a:Int)).kind=34:=by simpa[kidK]using h1
  obtain⟨c,hc,hQ,hw,hu⟩:=mE G (show a<t.nodes.length by omega) (.inr k34);rw[k34]at hw;refine⟨a,ha,hF,?_,?_⟩
  .rw[ha,hL a (by omega),hu,hc,List.getD_cons_zero,fU G c (by omega) (by simpa[kidK]using hw)]
  .rw[ha,hL a (by omega)]
   exact(ih a (by omega) (by omega)).2.mono (by omega)
 have hD:∀{r:Nat},r<i->(t.nd (r:Int)).kind=41->P (t.nd (r:Int)).text:=fun {r} hr k41=>C.record (by omega) k41 fun a ha=>by
  obtain⟨a',h7,hF⟩:=hp (show r<t.nodes.length by omega) _ ha;exact(ih a (by omega) (by omega)).2.p
 by_cases hx:zl (t.nd (i:Int)).kind=true
 .have e1:tyP t i=aJ t (tysP t i) i i:=by unfold tyP typP;simp only[hx,if_true]
  have e2:tyR t i=ofAt t (ofTo t i) i:=by unfold tyR;rw[if_pos hx]
  have hX:∀(j:Nat) (hj:j<(t.nd (i:Int)).kids.length),(t.nd ((t.nd (i:Int)).kids[j])).kind=25\/zl (t.nd ((t.nd (i:Int)).kids[j])).kind=true:=fun j hj=>by
   have h1:=G.kidOk hi hj;unfold kidK at h1;split at h1
   .exact .inl (by simpa using h1)
   .rw[if_neg (by intro e;simp at e;rw[e]at hx;cases hx),if_neg (by intro e;simp at e;rcases e with e|e<;>(rw[e]at hx;cases hx)),if_neg (by intro e;simp at e;rw[e]at hx;cases hx),if_neg (by intro e;simp at e;rw[e]at hx;cases hx)]at h1
    exact .inr h1
  have ek:(t.nd (i:Int)).kids.map (ofK (tysP t i))=lC t (ofTo t i) (t.nd (i:Int)):=by
   unfold lC;refine List.map_congr_left fun k hk=>?_;obtain⟨j,hj,rfl⟩:=List.getElem_of_mem hk;obtain⟨a,ha,hh⟩:=hp hi _ hk;have h1:=hX j hj;rw[ha]at h1|-;rw[hL a hh];by_cases k25:(t.nd (a:Int)).kind=25
   .obtain⟨c,hc,hQ,hw,hu⟩:=mE G (show a<t.nodes.length by omega) (.inl k25)
    rw[k25]at hw;rw[if_pos (by rw[k25];rfl),hu,hc,List.getD_cons_zero,hO c (by omega)];exact(ih c (by omega) (by omega)).1 (by simpa[kidK]using hw)
   .rw[if_neg (by simpa using k25),hO a hh]
    exact(ih a hh (by omega)).1 (h1.resolve_left k25)
  have hE:∀j:Nat,TyG P t (i-1) (((t.nd (i:Int)).kids.map (ofK (tysP t i))).getD j []):=fun j=>by
   by_cases hj:j<(t.nd (i:Int)).kids.length
   .rw[List.getD_eq_getElem?_getD,List.getElem?_eq_getElem (by simpa using hj),Option.getD_some,List.getElem_map]
    obtain⟨a,ha,hh⟩:=hp hi _ (List.getElem_mem hj);rw[ha,hL a hh];exact(ih a hh (by omega)).2.mono (by omega)
   .rw[List.getD_eq_getElem?_getD,List.getElem?_eq_none (by simpa using hj)]
    exact .nil C G
  have hH:∀j:Nat,TyG P t i (((t.nd (i:Int)).kids.map (ofK (tysP t i))).getD j []):=fun j=>(hE j).mono (by omega);have hm:=G.many hi;rw[e1,e2];by_cases hs:(t.nd (i:Int)).kind=1\/(t.nd (i:Int)).kind=2\/4<=(t.nd (i:Int)).kind/\(t.nd (i:Int)).kind<=18
  .rw[wM hs,AF hs,<-ek]
   exact⟨fun _=>KF (n:=(t.nd (i:Int)).n) (by simpa using hm) hs,NO C G _ _⟩
  have hc:(t.nd (i:Int)).kind=3\/(t.nd (i:Int)).kind=19\/(t.nd (i:Int)).kind=20\/(t.nd (i:Int)).kind=21\/(t.nd (i:Int)).kind=22\/(t.nd (i:Int)).kind=23\/(t.nd (i:Int)).kind=24\/(t.nd (i:Int)).kind=26:=by
   simp[zl]at hx;omega
  clear hs;rcases hc with k|k|k|k|k|k|k|k
  .
   obtain⟨d,hd,ho,-,hv,hq,-⟩:=cX bd hr hi (by rw[k];rfl);have hb:=eO G hi (by omega);rw[hd]at hb;rw[k]at hq;have e3:aJ t (tysP t i) i i=eP t (tysP t i) d:=by simp[aJ,k,hd]
   have e4:ofAt t (ofTo t i) i=sA t (ofTo t i) d:=by simp[ofAt,oH,k,hd]
   rw[e3,e4];have hz:=G.many ho;have hq:(t.nd (d:Int)).kind=40\/(t.nd (d:Int)).kind=43\/(t.nd (d:Int)).kind=20\/(t.nd (d:Int)).kind=34:=by simp[mM]at hq;omega
   rcases hq with q|q|q|q
   .simp only[eP,sA,q]
    exact⟨fun _=>rfl,.int C G⟩
   .have hy:d<i:=by
     rcases hb with⟨h1,_⟩|⟨h1,_⟩|h1
     .rw[q]at h1;cases h1
     .rw[q]at h1;cases h1
     .omega
    rw[q]at hz;obtain⟨a,ha,hI,hn⟩:=G.kid1 ho (by simpa[zC]using hz);rw[q]at hn;simp only[eP,sA,q,ha,List.getD_cons_zero];have h1:=ih a (by omega) (by omega);have e5:(if (43:Int)==43||(43:Int)==20 then ofK (tysP t i) (a:Int)else if (43:Int)==34 then ofK (tysP t i) (d:Int)else intT)=tyP t a:=hL a (by omega);have e6:(if (43:Int)==40 then intT else if (43:Int)==34 then eZ t (a:Int)else ofK (ofTo t i) (a:Int))=tyR t a:=hO a (by omega);rw[e5,e6];exact⟨fun _=>h1.1 (by simpa[kidK]using hn),h1.2.mono (by omega)⟩
   .rw[q]at hz
    have h2:(t.nd (d:Int)).kids.length=2:=by
     have:((t.nd (d:Int)).kids.length:Int)=2:=by simpa[zC]using hz
     omega
    obtain⟨a,ha,hI⟩:=hp ho _ (List.getElem_mem (show 0<(t.nd (d:Int)).kids.length by omega));have hg:(t.nd (d:Int)).kids[0]?=some (a:Int):=by rw[List.getElem?_eq_getElem (by omega),ha]
    have hh:a<i:=by
     rcases hb with⟨_,h1⟩|⟨h1,_⟩|h1
     .have:=h1 _ hg;omega
     .rw[q]at h1;cases h1
     .omega
    have hn:=G.kidOk ho (show 0<(t.nd (d:Int)).kids.length by omega);rw[q,ha]at hn;simp only[eP,sA,q,List.getD_eq_getElem?_getD,hg,Option.getD_some];have h1:=ih a (by omega) (by omega);have e5:(if (20:Int)==43||(20:Int)==20 then ofK (tysP t i) (a:Int)else if (20:Int)==34 then ofK (tysP t i) (d:Int)else intT)=tyP t a:=hL a (by omega);have e6:(if (20:Int)==40 then intT else if (20:Int)==34 then eZ t (a:Int)else ofK (ofTo t i) (a:Int))=tyR t a:=hO a (by omega);rw[e5,e6];exact⟨fun _=>h1.1 (by simpa[kidK]using hn),h1.2.mono (by omega)⟩
   .have hy:d<i:=by
     rcases hb with⟨h1,_⟩|⟨h1,_⟩|h1
     .rw[q]at h1;cases h1
     .rw[q]at h1;cases h1
     .omega
    obtain⟨a,ha,hI,hn,hu⟩:=mE G ho (.inr q);rw[q]at hn;simp only[eP,sA,q,ha,List.getD_cons_zero];have h1:=ih d (by omega) (by omega);have e5:(if (34:Int)==43||(34:Int)==20 then ofK (tysP t i) (a:Int)else if (34:Int)==34 then ofK (tysP t i) (d:Int)else intT)=tyP t d:=hL d (by omega);have e6:(if (34:Int)==40 then intT else if (34:Int)==34 then eZ t (a:Int)else ofK (ofTo t i) (a:Int))=eZ t a:=rfl;rw[e5,e6];exact⟨fun _=>by rw[hu,fU G a (by omega) (by simpa[kidK]using hn)],h1.2.mono (by omega)⟩
  .
   have e3:aJ t (tysP t i) i i=ofAt t (ofTo t i) i:=by
    simp only[aJ,ofAt,oH,k,<-ek];rfl
   rw[<-e3];refine⟨fun _=>rfl,?_⟩;have e5:aJ t (tysP t i) i i=if ((t.nd (i:Int)).kids.map (ofK (tysP t i))).getD 0 []==zz&&((t.nd (i:Int)).kids.map (ofK (tysP t i))).getD 1 []==((t.nd (i:Int)).kids.map (ofK (tysP t i))).getD 2 []then ((t.nd (i:Int)).kids.map (ofK (tysP t i))).getD 1 []else []:=by simp only[aJ,k];rfl
   rw[e5];split
   .exact hH 1
   .exact .nil C G
  .
   have e3:aJ t (tysP t i) i i=ofAt t (ofTo t i) i:=by
    simp only[aJ,ofAt,oH,k,<-ek];rfl
   rw[<-e3];refine⟨fun _=>rfl,?_⟩;simp only[aJ,k];exact hH 1
  .
   obtain⟨d,hd,ho,-,hv,hq,-⟩:=cX bd hr hi (by rw[k];rfl);have hb:=eO G hi (by omega);rw[hd]at hb;rw[k]at hq;have q:(t.nd (d:Int)).kind=42:=by simpa[mM]using hq
   have hz:=G.many ho;rw[q]at hz
   have h2:2<=(t.nd (d:Int)).kids.length:=by
    have:(2:Int)<=((t.nd (d:Int)).kids.length:Int):=by simpa[zC]using hz
    omega
   have hP:∀(j:Nat) (hj:j+1<(t.nd (d:Int)).kids.length),∃a:Nat,(t.nd (d:Int)).kids[j]=a/\a<i/\a<t.nodes.length:=fun j hj=>by
    obtain⟨a,ha,hI⟩:=hp ho _ (List.getElem_mem (show j<(t.nd (d:Int)).kids.length by omega));refine⟨a,ha,?_,by omega⟩;rcases hb with⟨h1,_⟩|⟨_,h1⟩|h1
    .rw[q]at h1;cases h1
    .have:=h1 j a hj (by rw[List.getElem?_eq_getElem (by omega),ha]);omega
    .omega
   have e5:dY t (tysP t i) d=KB t d:=by
    unfold dY KB;refine List.map_congr_left fun x hx=>?_;obtain⟨j,hj,rfl⟩:=List.getElem_of_mem hx;have hW:j<(t.nd (d:Int)).kids.length-2/\j<(t.nd (d:Int)).kids.length:=by simp at hj;omega
    rw[List.getElem_take];obtain⟨a,ha,hh,hJ⟩:=hP j (by omega);have hn:=G.kidOk ho hW.2;rw[q,ha]at hn
    have k34:(t.nd (a:Int)).kind=34:=by
     unfold kidK at hn;rw[if_neg (by decide),if_neg (by decide),if_neg (by decide),if_neg (by decide),if_pos (by decide),if_neg (by simp;omega),if_neg (by simp;omega)]at hn;simpa using hn
    obtain⟨c,hc,hQ,hw,hu⟩:=mE G hJ (.inr k34);rw[k34]at hw;rw[ha,hL a hh,hu,hc,List.getD_cons_zero,fU G c (by omega) (by simpa[kidK]using hw)]
   have e6:∃a:Nat,a<i/\fB t (tysP t i) d=tyP t a/\KC t d=tyP t a:=by
    obtain⟨a,ha,hh,hJ⟩:=hP ((t.nd (d:Int)).kids.length-2) (by omega);have hn:=G.kidOk ho (show(t.nd (d:Int)).kids.length-2<(t.nd (d:Int)).kids.length by omega);rw[q,ha]at hn
    have kt:cG (t.nd (a:Int)).kind=true:=by
     unfold kidK at hn;rw[if_neg (by decide),if_neg (by decide),if_neg (by decide),if_neg (by decide),if_pos (by decide),if_neg (by simp;omega),if_pos (by simp;omega)]at hn;exact hn
    have hg:(t.nd (d:Int)).kids.getD ((t.nd (d:Int)).kids.length-2) 0=a:=by rw[List.getD_eq_getElem?_getD,List.getElem?_eq_getElem (by omega),Option.getD_some,ha]
    refine⟨a,hh,?_,?_⟩
    .unfold fB;rw[hg,hL a hh]
    .unfold KC;rw[hg,fU G a hJ kt]
   obtain⟨a,hh,e6,e7⟩:=e6
   have e3:aJ t (tysP t i) i i=if KB t d==(t.nd (i:Int)).kids.map (ofK (tysP t i))then tyP t a else []:=by
    simp only[aJ,zS,k,hd,e5,e6];rfl
   have e4:ofAt t (ofTo t i) i=if KB t d==(t.nd (i:Int)).kids.map (ofK (tysP t i))then tyP t a else []:=by
    simp only[ofAt,oH,k,hd,<-ek,e7];rfl
   rw[e3,e4];refine⟨fun _=>rfl,?_⟩;split
   .exact(ih a hh (by omega)).2.mono (by omega)
   .exact .nil C G
  .
   have h1:=hH 0;obtain⟨k0,hA⟩:∃k0,((t.nd (i:Int)).kids.map (ofK (tysP t i))).getD 0 []=k0:=⟨_,rfl⟩
   rw[hA]at h1
   have e3:aJ t (tysP t i) i i=gZ t (tysP t i) i k0 (t.nd (i:Int)).text:=by
    simp only[aJ,zS,k,hA];rfl
   have e4:ofAt t (ofTo t i) i=pT t k0 (t.nd (i:Int)).text:=by
    simp only[ofAt,oH,JA,k,<-ek,hA];rfl
   rw[e3,e4];unfold gZ pT pU gM;rcases eJ G k0 with⟨h2,h3⟩|⟨r,h2,h3,h4,h5⟩
   .rw[h2]
    cases hc:recT t i k0 with
    |none=>exact⟨fun _=>rfl,.nil C G⟩
    | some r=>
      obtain⟨g1,g2,g3⟩:=jQ hc;exact absurd g3 (h3 r (by omega) g2)
   .obtain⟨-,hT,-⟩:=G.ok h3
    rw[h4,h5]at hT;have hU:r<i:=h1.ok r h3 h4 (by rw[h5,oI (jE hT.symm)]);rw[qT G h0 (by omega) hU h4 h5,h2,if_neg (by omega),if_neg (by omega),BT];simp only
    cases hf:(t.nd (r:Int)).kids.find? fun x=>(t.nd x).text==(t.nd (i:Int)).text with
    |none=>exact⟨fun _=>rfl,.nil C G⟩
    | some x=>
      obtain⟨a,ha,hF,g1,g2⟩:=hB hU h4 x (List.mem_of_find?_eq_some hf);exact⟨fun _=>g1,g2⟩
  .
   have h1:=hH 0
   have e3:aJ t (tysP t i) i i=ofAt t (ofTo t i) i:=by
    simp only[aJ,zS,ofAt,oH,JA,k,<-ek];rfl
   rw[<-e3];refine⟨fun _=>rfl,?_⟩;obtain⟨k0,hA⟩:∃k0,((t.nd (i:Int)).kids.map (ofK (tysP t i))).getD 0 []=k0:=⟨_,rfl⟩
   rw[hA]at h1;have e5:aJ t (tysP t i) i i=match aW k0 with|some (of,_)=>if ((t.nd (i:Int)).kids.map (ofK (tysP t i))).getD 1 []==intT then of else []|none=>[]:=by simp only[aJ,zS,k,hA];rfl
   rw[e5]
   cases he:aW k0 with
   |none=>exact .nil C G
   | some p=>
     obtain⟨of,n⟩:=p;simp only;split
     .have hV:cutK k0=some (of,n):=by
       unfold aW at he
       cases hc:cutK k0 with
       |none=>rw[hc]at he;cases he
       | some p=>
         rw[hc]at he;simp only at he;split at he
         .exact he
         .cases he
      exact h1.elem C hV he
     .exact .nil C G
  .
   obtain⟨d,hd,ho,-,hv,hq,-⟩:=cX bd hr hi (by rw[k];rfl);have hb:=eO G hi (by omega);rw[hd]at hb;rw[k]at hq;have q:(t.nd (d:Int)).kind=41:=by simpa[mM]using hq
   have hy:d<i:=by
    rcases hb with⟨h1,_⟩|⟨h1,_⟩|h1
    .rw[q]at h1;cases h1
    .rw[q]at h1;cases h1
    .omega
   have e5:eqF (cW t (tysP t i)) (t.nd (i:Int)).kids (t.nd (d:Int)).kids=(pU t (t.nd (i:Int)).text==(t.nd (i:Int)).kids.map (fun k=>(t.nd k).text)&&gM t (t.nd (i:Int)).text==(t.nd (i:Int)).kids.map (ofK (tysP t i))):=by
    unfold pU gM;rw[AW G h0 ho q hv,if_neg (by omega),if_neg (by omega)];have:=IL (fun x=>(t.nd x).text) (ofK (tysP t i)) (fun x=>(t.nd x).text) (ofK (tysP t i)) (t.nd (i:Int)).kids (t.nd (d:Int)).kids;have e:(fun a b=>(t.nd a).text==(t.nd b).text&&ofK (tysP t i) a==ofK (tysP t i) b)=cW t (tysP t i):=by funext a b;rfl
    rw[e]at this;rw[this];congr 2
    exact List.map_congr_left fun x hx=>by
     obtain⟨a,ha,hF,g1,g2⟩:=hB hy q x hx;exact g1
   have e6:aJ t (tysP t i) i i=if eqF (cW t (tysP t i)) (t.nd (i:Int)).kids (t.nd (d:Int)).kids then (t.nd (i:Int)).text else []:=by
    simp only[aJ,zS,k,hd];rfl
   have e3:aJ t (tysP t i) i i=ofAt t (ofTo t i) i:=by
    rw[e6,e5];simp only[ofAt,oH,JA,k,<-ek];rfl
   rw[<-e3];refine⟨fun _=>rfl,?_⟩;rw[e6];split
   .rw[<-hv];exact .record G h0 hy ho q (hD hy q)
   .exact .nil C G
  .
   have h1:=hE 0;have hM:=Good.sizedOk (zt hr).check hi
   have hZ:(t.nd (i:Int)).kids.length<=6:=by
    simp[eX,k]at hM;omega
   have hY:1<=(t.nd (i:Int)).kids.length:=by
    rw[k]at hm;have:(1:Int)<=((t.nd (i:Int)).kids.length:Int):=by simpa[zC]using hm
    omega
   obtain⟨a,ha,hh⟩:=hp hi _ (List.getElem_mem (show 0<(t.nd (i:Int)).kids.length by omega))
   have hN:((t.nd (i:Int)).kids.map (ofK (tysP t i))).getD 0 []=tyP t a:=by
    rw[List.getD_eq_getElem?_getD,List.getElem?_eq_getElem (by rw[List.length_map];omega),Option.getD_some,List.getElem_map,ha,hL a hh]
   have hn:=G.kidOk hi (show 0<(t.nd (i:Int)).kids.length by omega);rw[k,ha]at hn;have hn:zl (t.nd (a:Int)).kind=true:=by simpa[kidK]using hn
   have h8:0<i:=by omega
   have hR:((t.nd (i:Int)).kids.map (ofK (tysP t i))).length<=6:=by simpa using hZ
   obtain⟨l,hl⟩:∃l,(t.nd (i:Int)).kids.map (ofK (tysP t i))=l:=⟨_,rfl⟩
   have e6:aJ t (tysP t i) i i=if areB (l.getD 0 []) l then bC (l.getD 0 []) l.length else []:=by
    simp only[aJ,zS,k,hl];rfl
   have e4:ofAt t (ofTo t i) i=if (l.drop 1).all (fun k=>k==l.getD 0 [])then bC (l.getD 0 []) l.length else []:=by
    simp only[ofAt,oH,JA,k,<-ek,hl];rfl
   have e3:aJ t (tysP t i) i i=ofAt t (ofTo t i) i:=by
    rw[e6,e4]
    cases l with
    |nil=>rfl
    |cons a l=>simp[areB]
   rw[<-e3];refine⟨fun _=>rfl,?_⟩;have hK:1<=l.length:=by rw[<-hl,List.length_map];exact hY
   rw[hl]at h1 hR hN;rw[hN]at h1 e6;have e7:=e1.trans e6;rw[e6];split
   .rename_i hc
    rw[if_pos hc]at e7;exact h1.list G (by omega) (by omega) (C.list hi (.inl k) hh (.inl hn) (ih a hh (by omega)).2.p hK hR e7)
   .exact .nil C G
 .refine⟨fun h=>absurd h hx,?_⟩
  have h6:=(G.ok hi).1;by_cases ht:cG (t.nd (i:Int)).kind=true
  .have hC:=fU G i hi ht
   have hc:(t.nd (i:Int)).kind=30\/(t.nd (i:Int)).kind=31\/(t.nd (i:Int)).kind=32\/(t.nd (i:Int)).kind=33:=by simp[cG]at ht;omega
   rcases hc with e|e|e|e
   .rw[hC];simp only[eZ,kQ,e];exact .int C G
   .rw[hC];simp only[eZ,kQ,e];exact .bool C G
   .obtain⟨d,hd,ho,-,hv,hq,-⟩:=cX bd hr hi (by rw[e];rfl)
    have hb:=eO G hi (by omega);rw[hd]at hb;rw[e]at hq;have q:(t.nd (d:Int)).kind=41:=by simpa[mM]using hq
    have hy:d<i:=by
     rcases hb with⟨h1,_⟩|⟨h1,_⟩|h1
     .rw[q]at h1;cases h1
     .rw[q]at h1;cases h1
     .omega
    rw[hC];simp only[eZ,kQ,e];show TyG P t i (t.nd (i:Int)).text
    rw[<-hv];exact .record G h0 hy ho q (hD hy q)
   .obtain⟨a,ha,hh,hG,hv⟩:=nM G hi e
    rw[hC,hv,<-fU G a (by omega) hG];have hM:=Good.sizedOk (zt hr).check hi
    have hS:1<=(t.nd (i:Int)).n.toNat/\(t.nd (i:Int)).n.toNat<=6:=by
     simp[eX,e]at hM;omega
    exact(ih a hh (by omega)).2.list G hh (by omega) (C.list hi (.inr e) hh (.inr hG) (ih a hh (by omega)).2.p hS.1 hS.2 (by rw[hC,hv,fU G a (by omega) hG]))
  .by_cases h3:(t.nd (i:Int)).kind=25\/(t.nd (i:Int)).kind=34
   .obtain⟨a,ha,hh,hG,hu⟩:=mE G hi h3
    rw[hu];exact(ih a hh (by omega)).2.mono (by omega)
   .have:tyP t i=[]:=by
     unfold tyP typP;simp[okK]at h6;simp[cG]at ht;simp only[not_or]at h3;have q:¬(t.nd (i:Int)).kind=30/\¬(t.nd (i:Int)).kind=31/\¬(t.nd (i:Int)).kind=32/\¬(t.nd (i:Int)).kind=33:=by omega
     simp[hx,q,h3]
    rw[this];exact .nil C G
theorem fO(bd:Bd t)(hr:(zb t).2.2=0):∀i:Nat,i<t.nodes.length->(zl (t.nd (i:Int)).kind=true->tyP t i=tyR t i)/\TyG (fun _=>True) t i (tyP t i):=
 vA ⟨trivial,trivial,trivial,fun _ _=>trivial,fun _ _ _=>trivial,fun _ _ _ _ _ _ _ _=>trivial⟩ bd hr
end
end
section
open Go Go.RowKit
theorem rA{f g:List UInt8->Option Int}(h:∀x r,f x=some r->g x=some r):∀(l:List (List UInt8)) (r:Int),sumO (l.map f)=some r->sumO (l.map g)=some r
 | [],_,e=>e
 | x::l,r,e=>by
   simp only[List.map_cons,sumO]at e|-
   cases hf:f x with
   |none=>rw[hf]at e;cases e
   | some y=>
     rw[hf]at e;rw[h x y hf];simp only[Option.bind_some]at e|-;cases hs:sumO (l.map f)with
     |none=>rw[hs]at e;cases e
     | some z=>
       rw[hs]at e;rw[rA h l z hs];exact e
theorem dB{t:Tr}:∀(f g:Nat) (k:List UInt8) (r:Int),f<=g->dP t f k=some r->dP t g k=some r
 |0,_,_,_,_,e=>by cases e
 |f+1,0,_,_,h,_=>by omega
 | f+1,g+1,k,r,h,e=>by
   rw[dP]at e|-;split
   .rename_i of m he
    rw[he]at e;simp only at e
    cases hf:dP t f of with
    |none=>rw[hf]at e;cases e
    | some y=>
      rw[hf]at e;rw[dB f g of y (by omega) hf];exact e
   .rename_i he
    rw[he]at e;simp only at e;split
    .rename_i hc;rwa[if_pos hc]at e
    .rename_i hc
     rw[if_neg hc]at e;exact rA (fun x r hx=>dB f g x r (by omega) hx) _ _ e
def OT(t:Tr)(L:List (List UInt8))(b:Nat)(k:List UInt8):Prop:=∃(f:Nat) (n:Int) (ok:Bool) (n':Int),zU t L b f k=some (n,ok)/\dP t f k=some n'/\n=min 10000 n'/\0<=n'
theorem vD{t:Tr}{L:List (List UInt8)}{b:Nat}(p:Int->List UInt8):∀(l:List Int),(∀x∈l,OT t L b (ofK L x)/\p x=ofK L x)->∃(f:Nat) (m:Int),0<=m/\sumO (l.map fun x=>dP t f (p x))=some m/\∀n,0<=n->n<=10000->capS (fun x=>zU t L b f (ofK L x)) l n=some (min 10000 (n+m))
 | [],_=>⟨0,0,by omega,rfl,fun n _ h=>by rw[capS];congr 1;omega⟩
 | x::l,h=>by
   obtain⟨⟨f,n,ok,n',h1,h2,h3,h4⟩,h5⟩:=h x (by simp);obtain⟨g,m,h6,h7,h8⟩:=vD p l fun y hy=>h y (by simp[hy]);refine⟨f+g,n'+m,by omega,?_,fun z hz0 hz=>?_⟩
   .simp only[List.map_cons,sumO]
    rw[h5,dB f (f+g) _ _ (by omega) h2];have e:l.map (fun x=>dP t (f+g) (p x))=(l.map p).map (dP t (f+g)):=by simp
    have e':l.map (fun x=>dP t g (p x))=(l.map p).map (dP t g):=by simp
    rw[e']at h7;rw[e,rA (fun x r hx=>dB g (f+g) x r (by omega) hx) _ _ h7];rfl
   .rw[capS,aG f (f+g) _ _ (by omega) h1]
    simp only[Option.bind_some];rw[lU (fun x r hx=>aG g (f+g) _ _ (by omega) hx) _ _ _ (h8 _ (by omega) (by omega))];congr 1;omega
theorem IJ{k of:List UInt8}{n:Nat}(h:aW k=some (of,n)):cutK k=some (of,n):=by
 unfold aW at h
 cases hc:cutK k with
 |none=>rw[hc]at h;cases h
 | some p=>
   rw[hc]at h;simp only at h;split at h
   .exact h
   .cases h
section
variable {t : Tr}
theorem MG(bd:Bd t)(hr:(zb t).2.2=0){r m:Nat}(hrm:r<=m)(hm:m<=t.nodes.length)(hrn:r<t.nodes.length)(k41:(t.nd (r:Int)).kind=41):∀k∈(t.nd (r:Int)).kids,∃a:Nat,k=a/\a<r/\ofK (tysP t m) k=tyP t a/\eZ t ((t.nd k).kids.getD 0 0)=tyP t a/\TyOk t r (tyP t a):=by
 obtain⟨wf,G⟩:=zi bd hr;intro k hk;obtain⟨j,hj,rfl⟩:=List.getElem_of_mem hk;have h1:=G.kidOk hrn hj;obtain⟨_,_,g1,g2⟩:=G.kid hrn _ hk;obtain⟨a,ha⟩:=Int.eq_ofNat_of_zero_le g2;rw[k41,ha]at h1;have k34:(t.nd (a:Int)).kind=34:=by simpa[kidK]using h1
 obtain⟨c,hc,he,hb,hd⟩:=mE G (show a<t.nodes.length by omega) (.inr k34);rw[k34]at hb;refine⟨a,ha,by omega,?_,?_,(fO bd hr a (by omega)).2.ok.mono (by omega)⟩
 .rw[ha,eS (by omega) (by omega)]
 .rw[ha,hd,hc,List.getD_cons_zero,fU G c (by omega) (by simpa[kidK]using hb)]
theorem kG(bd:Bd t)(hr:(zb t).2.2=0):∀(b:Nat) (len:Nat) (k:List UInt8) (b' m:Nat),k.length<=len->TyOk t b k->b<=b'->b'<=t.nodes.length->b<=m+1->m<=t.nodes.length->OT t (tysP t m) b' k:=by
 obtain⟨wf,G⟩:=zi bd hr;have h0:=(zt hr).err;intro b
 induction b using Nat.strongRecOn with
 |ind b ihb=>
 intro len
 induction len with
 | zero=>
   intro k b' m hl hh _ _ _ _;obtain rfl:k=[]:=List.length_eq_zero_iff.1 (by omega);have he:aW []=none:=rfl
   have h1:recT t b' []=none:=by
    cases hc:recT t b' []with
    |none=>rfl
    | some r=>
      obtain⟨g1,g2,g3⟩:=jQ hc;obtain⟨-,hn,-⟩:=G.ok (show r<t.nodes.length by omega);rw[g2,g3]at hn;cases hn
   have h2:gM t []=[]:=by
    unfold gM;rcases eJ G []with⟨g,_⟩|⟨r,g,g1,g2,g3⟩
    .rw[g];rfl
    .obtain⟨-,hn,-⟩:=G.ok g1
     rw[g2,g3]at hn;cases hn
   refine⟨1,0,false,0,?_,?_,by omega,by omega⟩
   .rw[zU,if_neg (by decide),he]
    simp only[h1]
   .rw[dP,he]
    simp only;rw[if_neg (by decide),h2];rfl
 | succ len ih=>
   intro k b' m hl hh hb hd hj hg
   cases he:aW k with
   | some p=>
     obtain⟨of,n⟩:=p;obtain⟨n1,n2,hk,-⟩:=gY he;have hq:=BQ he;obtain⟨f,x,ok,x',h1,h2,h3,h4⟩:=ih of b' m (by omega) (hh.elem (IJ he)) hb hd hj hg
     have hm:(k==intT||k==zz)=false:=by
      rw[hk,Bool.or_eq_false_iff];exact⟨by rw[beq_eq_false_iff_ne];intro e;have:=congrArg List.head? e;simp[bC,intT]at this,by rw[beq_eq_false_iff_ne];intro e;have:=congrArg List.head? e;simp[bC,zz]at this⟩
     refine⟨f+1,min 10000 (x*n),ok,min 10000 (n*x'),?_,?_,?_,?_⟩
     .rw[zU,hm,he]
      simp only[Bool.false_eq_true,if_false,h1,Option.map_some]
     .rw[dP,he]
      simp only[h2,Option.map_some]
     .subst h3
      rcases Int.le_total x' 10000 with q|q
      .rw[Int.min_eq_right q,Int.mul_comm];omega
      .rw[Int.min_eq_left q]
       have:(n:Int)*x' ≥ 1*10000:=Int.mul_le_mul (by omega) q (by omega) (by omega);omega
     .have:0<=(n:Int)*x':=Int.mul_nonneg (by omega) h4
      omega
   | none=>
     by_cases hi:(k==intT||k==zz)=true
     .refine⟨1,1,true,1,?_,?_,by omega,by omega⟩
      .rw[zU,if_pos hi]
      .rw[dP,he]
       simp only;rw[if_pos hi]
     .rcases eJ G k with⟨g,g'⟩|⟨r,g,g1,g2,g3⟩
      .have h1:recT t b' k=none:=by
        cases hc:recT t b' k with
        |none=>rfl
        | some r=>
          obtain⟨q1,q2,q3⟩:=jQ hc;exact absurd q3 (g' r (by omega) q2)
       refine⟨1,0,false,0,?_,?_,by omega,by omega⟩
       .rw[zU,if_neg hi,he]
        simp only[h1]
       .rw[dP,he]
        simp only;rw[if_neg hi];unfold gM;rw[g];rfl
      .obtain⟨-,hn,-⟩:=G.ok g1
       rw[g2,g3]at hn;have ho:r<b:=hh r g1 g2 (by rw[g3,oI (jE hn.symm)]);have h1:=qT G h0 hd (by omega) g2 g3;have hf:=MG bd hr (show r<=m by omega) hg g1 g2
       obtain⟨f,y,y0,y1,y2⟩:=vD (t:=t) (L:=tysP t m) (b:=b') (fun x=>eZ t ((t.nd x).kids.getD 0 0)) (t.nd (r:Int)).kids fun x hx=>by
        obtain⟨a,ha,hp,q1,q2,q3⟩:=hf x hx;refine⟨?_,by rw[q1,q2]⟩;rw[q1];exact ihb r ho (tyP t a).length _ b' m nlr q3 (by omega) hd (by omega) hg
       refine⟨f+1,min 10000 (0+y),true,y,?_,?_,by rw[Int.zero_add],y0⟩
       .rw[zU,if_neg hi,he]
        simp only[h1];rw[y2 0 (by omega) (by omega)];rfl
       .rw[dP,he]
        simp only;rw[if_neg hi];unfold gM;rw[g,if_neg (by omega),List.map_map];exact y1
theorem QY(n:Int)(l:List (List UInt8)):sZ n l=l.all (yK n):=by
 have key:∀(p q:List UInt8->Bool),(∀x,p x=q x)->l.all p=l.all q:=fun p q h=>by
  congr 1;funext x;exact h x
 unfold sZ areB;split
 .rename_i h
  refine key _ _ fun x=>?_;simp only[yK,h,bne];cases (x==intT)<;>cases (x==zz)<;>rfl
 .rename_i h
  have h:(n==4||n==5)=false:=by simpa using h
  split
  .rename_i h8
   refine key _ _ fun x=>?_;simp only[yK,h,bne,h8];cases (x==intT)<;>cases (x==zz)<;>rfl
  .rename_i h8
   have h8:(n==8)=false:=by simpa using h8
   refine key _ _ fun x=>?_;simp only[yK,h,bne,h8];cases (x==intT)<;>cases (x==zz)<;>rfl
theorem GY{L:List (List UInt8)}{b:Nat}{k:List UInt8}(h:OT t L b k):∃(f:Nat) (e:Int),(zU t L b f k).map (fun r=>if 8<r.1 then (5:Int)else 0)=some e/\nY t f k=some e:=by
 obtain⟨f,n,ok,n',h1,h2,h3,h4⟩:=h;refine⟨f,if 8<n then 5 else 0,by rw[h1];rfl,?_⟩;unfold nY;rw[h2];simp only[Option.map_some];congr 1;have:(8<n')↔(8<n):=by omega
 simp only[this]
theorem PL(bd:Bd t)(hr:(zb t).2.2=0){i:Nat}(hi:i<t.nodes.length):∃(f:Nat) (e:Int),errP t f i=some e/\errK t f (ofTo t (i+1)) i=some e:=by
 obtain⟨wf,G⟩:=zi bd hr;have h0:=(zt hr).err;have he:ofK (tysP t (i+1)) i=tyP t i:=eS (by omega) hi;have hg:ofK (ofTo t (i+1)) i=tyR t i:=CK (by omega);obtain⟨hp,hf⟩:=fO bd hr i hi;have hh:=hf.ok;have hv:=(G.ok hi).1
 have hk:∀(j:Nat) (hj:j<(t.nd (i:Int)).kids.length),∃a:Nat,(t.nd (i:Int)).kids[j]=a/\a<i/\ofK (tysP t (i+1)) a=tyP t a/\ofK (ofTo t (i+1)) a=tyR t a:=fun j hj=>by
  obtain⟨_,_,g1,g2⟩:=G.kid hi _ (List.getElem_mem hj);obtain⟨a,ha⟩:=Int.eq_ofNat_of_zero_le g2;exact⟨a,ha,by omega,eS (by omega) (by omega),CK (by omega)⟩
 by_cases hx:zl (t.nd (i:Int)).kind=true
 .have e1:=hp hx
  have n41:((t.nd (i:Int)).kind==41)=false:=by rw[beq_eq_false_iff_ne];intro e;rw[e]at hx;cases hx
  by_cases hn:tyP t i=[]
  .refine⟨0,11,?_,?_⟩
   .unfold errP
    have:aR t (tysP t (i+1)) i=11:=by unfold aR;simp only[hx,he,hn,if_true];rfl
    rw[this];rfl
   .unfold errK
    rw[hx,hg,<-e1,hn];rfl
  .have hs:aR t (tysP t (i+1)) i=0:=by
    unfold aR;simp only[hx,he,if_true];rw[if_neg (by simpa using hn)]
   have hb:(zl (t.nd (i:Int)).kind&&ofK (ofTo t (i+1)) i==[])=false:=by
    rw[hx,hg,<-e1];simpa using hn
   by_cases h26:(t.nd (i:Int)).kind=26
   .obtain⟨f,e,g1,g2⟩:=GY (kG bd hr i _ (tyP t i) i (i+1) nlr hh nlr (by omega) (by omega) (by omega))
    refine⟨f,e,?_,?_⟩
    .unfold errP
     rw[hs,if_neg (by simp)];have:cV t (tysP t (i+1)) i=some (tyP t i):=by unfold cV;rw[h26,he];rfl
     rw[this];simp only;have:recB t i=i:=by unfold recB;rw[n41];rfl
     rw[this];exact g1
    .unfold errK
     rw[hb,h26,hg,<-e1];exact g2
   .refine⟨0,0,?_,?_⟩
    .unfold errP
     rw[hs,if_neg (by simp)]
     have:cV t (tysP t (i+1)) i=none:=by
      unfold cV;rw[if_neg (by intro e;simp at e;rcases e with e|e;exact h26 e;(rw[e]at hx;cases hx)),n41];rfl
     rw[this]
    .unfold errK
     have q:¬(t.nd (i:Int)).kind=33/\¬(t.nd (i:Int)).kind=41/\¬(t.nd (i:Int)).kind=42/\¬(t.nd (i:Int)).kind=44/\¬(t.nd (i:Int)).kind=46:=by simp[zl]at hx;omega
     rw[hb];simp[h26,q]
 .have hd:zl (t.nd (i:Int)).kind=false:=by simpa using hx
  have hc:(t.nd (i:Int)).kind=33\/(t.nd (i:Int)).kind=41\/(t.nd (i:Int)).kind=42\/(t.nd (i:Int)).kind=44\/(t.nd (i:Int)).kind=46\/(¬(t.nd (i:Int)).kind=26/\¬(t.nd (i:Int)).kind=33/\¬(t.nd (i:Int)).kind=41/\¬(t.nd (i:Int)).kind=42/\¬(t.nd (i:Int)).kind=44/\¬(t.nd (i:Int)).kind=46):=by
   have:¬(t.nd (i:Int)).kind=26:=by intro e;rw[e]at hd;cases hd
   omega
  have hm:=G.many hi;rcases hc with k|k|k|k|k|k
  .obtain⟨f,e,g1,g2⟩:=GY (kG bd hr i _ (tyP t i) i (i+1) nlr hh nlr (by omega) (by omega) (by omega))
   refine⟨f,e,?_,?_⟩
   .unfold errP
    have hs:aR t (tysP t (i+1)) i=0:=by unfold aR;simp only[hd];simp[k]
    have:cV t (tysP t (i+1)) i=some (tyP t i):=by unfold cV;rw[k,he];rfl
    have hr:recB t i=i:=by unfold recB;rw[k];rfl
    rw[hs,this,hr];exact g1
   .unfold errK
    rw[hd,k];rw[fU G i hi (by rw[k];rfl)]at g2;exact g2
  .obtain⟨f,e,g1,g2⟩:=GY (kG bd hr (i+1) _ (t.nd (i:Int)).text (i+1) (i+1) nlr (TyOk.record G h0 (by omega) hi k) nlr (by omega) (by omega) (by omega))
   refine⟨f,e,?_,?_⟩
   .unfold errP
    have hs:aR t (tysP t (i+1)) i=0:=by unfold aR;simp only[hd];simp[k]
    have:cV t (tysP t (i+1)) i=some (t.nd (i:Int)).text:=by unfold cV;rw[k];rfl
    have hr:recB t i=i+1:=by unfold recB;rw[k];rfl
    rw[hs,this,hr];exact g1
   .unfold errK
    rw[hd,k];exact g2
  .rw[k]at hm
   have h2:2<=(t.nd (i:Int)).kids.length:=by
    have:(2:Int)<=((t.nd (i:Int)).kids.length:Int):=by simpa[zC]using hm
    omega
   obtain⟨a,ha,hl,g1,g2⟩:=hk ((t.nd (i:Int)).kids.length-1) (by omega);obtain⟨c,hc,hu,g3,g4⟩:=hk ((t.nd (i:Int)).kids.length-2) (by omega);have ka:=G.kidOk hi (show(t.nd (i:Int)).kids.length-1<(t.nd (i:Int)).kids.length by omega);have kc:=G.kidOk hi (show(t.nd (i:Int)).kids.length-2<(t.nd (i:Int)).kids.length by omega);rw[k,ha]at ka;rw[k,hc]at kc;unfold kidK at ka kc;rw[if_neg (by decide),if_neg (by decide),if_neg (by decide),if_neg (by decide),if_pos (by decide),if_pos (by simp;omega)]at ka;rw[if_neg (by decide),if_neg (by decide),if_neg (by decide),if_neg (by decide),if_pos (by decide),if_neg (by simp;omega),if_pos (by simp;omega)]at kc;have ea:(t.nd (i:Int)).kids.getD ((t.nd (i:Int)).kids.length-1) 0=a:=by rw[List.getD_eq_getElem?_getD,List.getElem?_eq_getElem (by omega),Option.getD_some,ha]
   have ec:(t.nd (i:Int)).kids.getD ((t.nd (i:Int)).kids.length-2) 0=c:=by rw[List.getD_eq_getElem?_getD,List.getElem?_eq_getElem (by omega),Option.getD_some,hc]
   have ma:((t.nd (i:Int)).kids.map (ofK (tysP t (i+1)))).getD (((t.nd (i:Int)).kids.map (ofK (tysP t (i+1)))).length-1) []=tyP t a:=by
    rw[List.length_map,List.getD_eq_getElem?_getD,List.getElem?_eq_getElem (by simp;omega),Option.getD_some,List.getElem_map,ha,g1]
   have mc:((t.nd (i:Int)).kids.map (ofK (tysP t (i+1)))).getD (((t.nd (i:Int)).kids.map (ofK (tysP t (i+1)))).length-2) []=tyP t c:=by
    rw[List.length_map,List.getD_eq_getElem?_getD,List.getElem?_eq_getElem (by simp;omega),Option.getD_some,List.getElem_map,hc,g3]
   have hs:aR t (tysP t (i+1)) i=if tyP t a==tyP t c then 0 else 11:=by
    unfold aR;simp only[hd,k,ma,mc];rfl
   have hb:cV t (tysP t (i+1)) i=none:=by unfold cV;rw[k];rfl
   refine⟨0,if tyP t a==tyP t c then 0 else 11,?_,?_⟩
   .unfold errP
    rw[hs,hb];cases tyP t a==tyP t c<;>rfl
   .unfold errK KC
    rw[hd,k,ea,ec,g2,<- (fO bd hr a (by omega)).1 ka,<-fU G c (by omega) kc];show(if tyP t a==tyP t c then some (0:Int)else some 11)=_
    cases tyP t a==tyP t c<;>rfl
  .rw[k]at hm
   obtain⟨a,ha,hl,ho⟩:=G.kid1 hi (by simpa[zC]using hm);rw[k]at ho;have g1:ofK (tysP t (i+1)) a=tyP t a:=eS (by omega) (by omega);have g2:ofK (ofTo t (i+1)) a=tyR t a:=CK (by omega)
   have hs:aR t (tysP t (i+1)) i=if tyP t a==zz then 0 else 11:=by
    unfold aR;simp only[hd,k,ha,List.map_cons,List.getD_cons_zero,g1];rfl
   have hb:cV t (tysP t (i+1)) i=none:=by unfold cV;rw[k];rfl
   refine⟨0,if tyP t a==zz then 0 else 11,?_,?_⟩
   .unfold errP
    rw[hs,hb];cases tyP t a==zz<;>rfl
   .unfold errK
    rw[hd,k,ha,List.getD_cons_zero,g2,<- (fO bd hr a (by omega)).1 (by simpa[kidK]using ho)];show(if tyP t a==zz then some (0:Int)else some 11)=_
    cases tyP t a==zz<;>rfl
  .have ht:(t.nd (i:Int)).kids.map (ofK (tysP t (i+1)))=(t.nd (i:Int)).kids.map (ofK (ofTo t (i+1))):=by
    refine List.map_congr_left fun x hx=>?_;obtain⟨j,hj,rfl⟩:=List.getElem_of_mem hx;obtain⟨a,ha,hl,g1,g2⟩:=hk j hj;have ka:=G.kidOk hi hj;rw[k,ha]at ka;rw[ha,g1,g2];exact(fO bd hr a (by omega)).1 (by simpa[kidK]using ka)
   have ha:sZ (t.nd (i:Int)).n ((t.nd (i:Int)).kids.map (ofK (tysP t (i+1))))=(t.nd (i:Int)).kids.all fun x=>yK (t.nd (i:Int)).n (ofK (ofTo t (i+1)) x):=by
    rw[QY,ht,List.all_map];rfl
   obtain⟨q,hq⟩:∃q,((t.nd (i:Int)).kids.all fun x=>yK (t.nd (i:Int)).n (ofK (ofTo t (i+1)) x))=q:=⟨_,rfl⟩
   rw[hq]at ha
   have hs:aR t (tysP t (i+1)) i=if q then 0 else 11:=by
    unfold aR;simp only[hd,k,ha];rfl
   have hb:cV t (tysP t (i+1)) i=none:=by unfold cV;rw[k];rfl
   refine⟨0,if q then 0 else 11,?_,?_⟩
   .unfold errP
    rw[hs,hb];cases q<;>rfl
   .unfold errK
    rw[hd,k,hq];cases q<;>rfl
  .refine⟨0,0,?_,?_⟩
   .unfold errP aR cV
    simp[hd,k]
   .unfold errK
    simp[hd,k]
end
end
section
open Go Go.RowKit
theorem lY{t:Tr}{f g i:Nat}{e:Int}(h:errP t f i=some e)(hfg:f<=g):errP t g i=some e:=by
 unfold errP at h|-;split
 .rename_i hs;rwa[if_pos hs]at h
 .rename_i hs
  rw[if_neg hs]at h;split
  .rename_i k hk
   rw[hk]at h;simp only at h
   cases hc:zU t (tysP t (i+1)) (recB t i) f k with
   |none=>rw[hc]at h;cases h
   |some r=>rw[hc]at h;rw[aG f g k r hfg hc];exact h
  .rename_i hk;rw[hk]at h;exact h
def ErrAt(t:Tr)(i:Nat)(e:Int):Prop:=∃f,errP t f i=some e/\errK t f (ofTo t (i+1)) i=some e
theorem ErrAt.unique{t:Tr}{i:Nat}{e e':Int}(h:ErrAt t i e)(h':ErrAt t i e'):e=e':=by
 obtain⟨f,h,-⟩:=h;obtain⟨g,h',-⟩:=h';have h1:=lY h (show f<=f+g by omega);rw[lY h' (show g<=f+g by omega)]at h1;exact(Option.some.inj h1).symm
theorem ErrAt.prog{t:Tr}{i:Nat}{e:Int}(h:ErrAt t i e):∃f,errP t f i=some e:=by
 obtain⟨f,h,-⟩:=h;exact⟨f,h⟩
structure InferAt (t:Tr) (k:Nat) (e:Int):Prop where
 le:k<=t.nodes.length
 zero:∀j,j<k->ErrAt t j 0
 last:(k=t.nodes.length/\e=0)\/(k<t.nodes.length/\e≠0/\ErrAt t k e)
theorem BY{t:Tr}(bd:Bd t)(hr:(zb t).2.2=0):∀n,n<=t.nodes.length->(∀j,j<n->ErrAt t j 0)\/∃k e,k<n/\e≠0/\ErrAt t k e/\∀j,j<k->ErrAt t j 0
 |0,_=>.inl fun j h=>absurd h (Nat.not_lt_zero _)
 | n+1,hn=>by
   rcases BY bd hr n (by omega)with h|⟨k,e,h1,h2,h3,h4⟩
   .obtain⟨f,e,g1,g2⟩:=PL bd hr (show n<t.nodes.length by omega)
    by_cases he:e=0
    .subst he
     refine .inl fun j hj=>?_;by_cases e:j<n
     .exact h j e
     .obtain rfl:j=n:=by omega
      exact⟨f,g1,g2⟩
    .exact .inr ⟨n,e,by omega,he,⟨f,g1,g2⟩,h⟩
   .exact .inr ⟨k,e,by omega,h2,h3,h4⟩
theorem BX{t:Tr}(bd:Bd t)(hr:(zb t).2.2=0):∃k e,InferAt t k e:=by
 rcases BY bd hr _ nlr with h|⟨k,e,h1,h2,h3,h4⟩
 .exact⟨_,0,nlr,h,.inl ⟨rfl,rfl⟩⟩
 .exact⟨k,e,by omega,h4,.inr ⟨h1,h2,h3⟩⟩
theorem InferAt.unique{t:Tr}{k k':Nat}{e e':Int}(h:InferAt t k e)(h':InferAt t k' e'):k=k'/\e=e':=by
 have one:∀{k k':Nat}{e e':Int},InferAt t k e->InferAt t k' e'->k<k'->False:=fun {k k' e e'} h h' hl=>by
  have h0:=h'.zero k hl;rcases h.last with⟨h1,_⟩|⟨_,h2,h3⟩
  .have:=h'.le;omega
  .exact h2 (h3.unique h0)
 rcases Nat.lt_trichotomy k k' with hl|hl|hl
 .exact(one h h' hl).elim
 .subst hl
  refine⟨rfl,?_⟩;rcases h.last with⟨h1,h2⟩|⟨h1,h2,h3⟩
  .rcases h'.last with⟨_,g2⟩|⟨g1,_⟩
   .rw[h2,g2]
   .omega
  .rcases h'.last with⟨g1,_⟩|⟨_,_,g3⟩
   .omega
   .exact h3.unique g3
 .exact(one h' h hl).elim
end
section
open Go Go.RowKit
structure TyC (t:Tr) (k:List UInt8) (c:Int):Prop where
 is:aX k=true
 has:HasC t (tysP t t.nodes.length) t.nodes.length k c true
 lo:1<=c
theorem TyC.unique{t:Tr}{k:List UInt8}{c d:Int}(h:TyC t k c)(h':TyC t k d):c=d:=(h.has.unique h'.has).1
theorem rZ{t:Tr}(bd:Bd t)(hr:(zb t).2.2=0){b b' m:Nat}{k:List UInt8}{x y:Int}{o o':Bool}(hty:TyOk t b k)(h1:b<=b')(h2:b'<=t.nodes.length)(h3:b<=m+1)(h4:m<=t.nodes.length)
 (h:HasC t (tysP t m) b' k x o)(h':HasC t (tysP t t.nodes.length) t.nodes.length k y o'):x=y:=by
 obtain⟨f,n1,o1,m1,g1,g2,g3,-⟩:=kG bd hr b k.length k b' m nlr hty h1 h2 h3 h4;obtain⟨f',n2,o2,m2,q1,q2,q3,-⟩:=kG bd hr b k.length k t.nodes.length t.nodes.length nlr hty (by omega) nlr (by omega) nlr;have e1:=(h.unique ⟨f,g1⟩).1;have e2:=(h'.unique ⟨f',q1⟩).1;have e3:=dB f (f+f') k m1 (by omega) g2;rw[dB f' (f+f') k m2 (by omega) q2]at e3;have e4:=Option.some.inj e3;rw[e1,e2,g3,q3,e4]
theorem OL{t:Tr}{L:List (List UInt8)}{b:Nat}:∀(l:List Int),(∀x∈l,∃c,HasC t L b (ofK L x) c true/\1<=c)->∀n:Int,0<=n->n<=10000->∃(f:Nat) (m:Int),capS (fun kid=>zU t L b f (ofK L kid)) l n=some m/\n<=m/\(l≠[]->1<=m)
 | [],_,n,_,_=>⟨0,n,rfl,Int.le_refl _,fun h=>absurd rfl h⟩
 | x::l,h,n,h0,h1=>by
   obtain⟨c,⟨f,hf⟩,hc⟩:=h x (by simp);obtain⟨g,m,hg,hm,-⟩:=OL l (fun y hy=>h y (by simp[hy])) (min 10000 (n+c)) (by omega) (by omega);refine⟨f+g,m,?_,by omega,fun _=>by omega⟩;rw[capS,aG f (f+g) _ _ (by omega) hf];exact lU (fun y r hy=>aG g (f+g) _ _ (by omega) hy) _ _ _ hg
theorem lZ{t:Tr}{i:Nat}(h:ErrAt t i 0):aR t (tysP t (i+1)) i=0/\∀k,cV t (tysP t (i+1)) i=some k->∃c o,HasC t (tysP t (i+1)) (recB t i) k c o/\c<=8:=by
 obtain⟨f,he,-⟩:=h;unfold errP at he;split at he
 .rename_i hs;exact absurd (Option.some.inj he) hs
 .rename_i hs
  refine⟨by simpa using hs,fun k hk=>?_⟩;rw[hk]at he;simp only at he;obtain⟨r,hb,ha⟩:=Option.map_eq_some_iff.1 he;refine⟨r.1,r.2,⟨f,hb⟩,?_⟩;split at ha
  .cases ha
  .omega
theorem yU{t:Tr}{i:Nat}(hi:i<t.nodes.length)(h:ErrAt t i 0)(hx:zl (t.nd (i:Int)).kind=true):tyP t i≠[]:=by
 have h1:=(lZ h).1;unfold aR at h1;simp only[hx,if_true]at h1;rw[eS (Nat.lt_succ_self i) hi]at h1;intro e;rw[e]at h1;cases h1
theorem tZ{t:Tr}{S:List Int}(G:Good t S){i:Nat}(hi:i<t.nodes.length)(hk:cG (t.nd (i:Int)).kind=true):tyP t i≠[]:=by
 rw[fU G i hi hk];have hc:(t.nd (i:Int)).kind=30\/(t.nd (i:Int)).kind=31\/(t.nd (i:Int)).kind=32\/(t.nd (i:Int)).kind=33:=by simp[cG]at hk;omega
 obtain⟨-,h2,-⟩:=G.ok hi;rcases hc with e|e|e|e
 .simp[eZ,kQ,e,intT]
 .simp[eZ,kQ,e,zz]
 .rw[e]at h2
  simp only[eZ,kQ,e];intro h;change (t.nd (i:Int)).text=[]at h;rw[h]at h2;cases h2
 .obtain⟨a,-,-,-,h⟩:=nM G hi e
  rw[h];simp[bC]
theorem TyC.int{t:Tr}:TyC t intT 1:=⟨by rw[fL];rfl,⟨1,rfl⟩,Int.le_refl _⟩
theorem TyC.bool{t:Tr}:TyC t zz 1:=⟨by rw[fL];rfl,⟨1,rfl⟩,Int.le_refl _⟩
theorem tH(of:List UInt8)(n:Nat):(bC of n==intT||bC of n==zz)=false:=by
 simp[bC,intT,zz]
theorem TyC.list{t:Tr}{of:List UInt8}{c:Int}(h:TyC t of c){m:Nat}(h1:1<=m)(h2:m<=6):TyC t (bC of m) (min 10000 (c*m)):=by
 refine⟨?_,?_,?_⟩
 .rw[fL,mX h1 h2 h.is];simp
 .obtain⟨f,hf⟩:=h.has
  refine⟨f+1,?_⟩;rw[zU,if_neg (by rw[tH];exact Bool.false_ne_true),mX h1 h2 h.is];simp only;rw[hf];rfl
 .have:=h.lo
  have hm:m=1\/m=2\/m=3\/m=4\/m=5\/m=6:=by omega
  rcases hm with rfl|rfl|rfl|rfl|rfl|rfl<;>omega
theorem TyC.elem{t:Tr}{k of:List UInt8}{c:Int}{m:Nat}(h:TyC t k c)(h8:c<=8)(he:aW k=some (of,m)):∃d,TyC t of d/\d<=8:=by
 obtain⟨h1,h2,h3,h4⟩:=gY he;obtain⟨f,hf⟩:=h.has
 cases f with
 |zero=>cases hf
 | succ f=>
   rw[zU,h3,if_neg (by rw[tH];exact Bool.false_ne_true),<-h3,he]at hf;simp only at hf;obtain⟨y,hy,hz⟩:=Option.map_eq_some_iff.1 hf;obtain⟨d,o⟩:=y;simp only[Prod.mk.injEq]at hz;obtain⟨z1,rfl⟩:=hz;have:=h.lo;have hm:m=1\/m=2\/m=3\/m=4\/m=5\/m=6:=by omega
   have hd:1<=d/\d<=8:=by rcases hm with rfl|rfl|rfl|rfl|rfl|rfl<;>omega
   exact⟨d,⟨h4,⟨f,hy⟩,hd.1⟩,hd.2⟩
theorem IS{t:Tr}(bd:Bd t)(hr:(zb t).2.2=0)(k:List UInt8):∃c o,HasC t (tysP t t.nodes.length) t.nodes.length k c o:=by
 obtain⟨f,n,o,_,h,_⟩:=kG bd hr t.nodes.length k.length k t.nodes.length t.nodes.length nlr (fun r h _ _=>h) nlr nlr (by omega) nlr;exact⟨n,o,f,h⟩
section
variable {t : Tr}
theorem aN{S:List Int}(G:Good t S){r:Nat}(hr:r<t.nodes.length){x:Int}(hx:x∈(t.nd (r:Int)).kids):∃a:Nat,x=a/\a<r:=by
 obtain⟨_,_,h1,h2⟩:=G.kid hr x hx;obtain⟨a,ha⟩:=Int.eq_ofNat_of_zero_le h2;exact⟨a,ha,by omega⟩
theorem sQ(bd:Bd t)(hr:(zb t).2.2=0)(ha:InferAt t t.nodes.length 0){r:Nat}(hrn:r<t.nodes.length)(k41:(t.nd (r:Int)).kind=41)(h:∀a:Nat,(a:Int)∈(t.nd (r:Int)).kids->∃c,TyC t (tyP t a) c) :
 ∃c,TyC t (t.nd (r:Int)).text c/\c<=8:=by
 obtain⟨wf,G⟩:=zi bd hr;have h0:=(zt hr).err;obtain⟨-,hd,-⟩:=G.ok hrn;rw[k41]at hd;have hd:zG (t.nd (r:Int)).text=true:=hd.symm
 have hg:(t.nd (r:Int)).kids≠[]:=by
  have hm:=G.many hrn;rw[k41]at hm;intro e;rw[e]at hm;cases hm
 obtain⟨f,m,hm,-,hf⟩:=OL (t:=t) (L:=tysP t t.nodes.length) (b:=t.nodes.length) (t.nd (r:Int)).kids (fun x hx=>by
  obtain⟨a,rfl,hi⟩:=aN G hrn hx;obtain⟨c,hc⟩:=h a hx;rw[eS (by omega) (by omega)]
  exact⟨c,hc.has,hc.lo⟩) 0 (by omega) (by omega)
 have he:aW (t.nd (r:Int)).text=none:=by unfold aW;rw[jE hd]
 have hh:¬((t.nd (r:Int)).text==intT||(t.nd (r:Int)).text==zz)=true:=by
  intro e;simp only[Bool.or_eq_true,beq_iff_eq]at e;rcases e with e|e<;>rw[e]at hd
  .rw[qB]at hd;cases hd
  .rw[mT]at hd;cases hd
 have hc:TyC t (t.nd (r:Int)).text m:=by
  refine⟨by rw[fL,hd];simp,⟨f+1,?_⟩,hf hg⟩;rw[zU,if_neg hh,he];simp only;rw[qT G h0 nlr hrn k41 rfl];simp only;rw[hm];rfl
 refine⟨m,hc,?_⟩;obtain⟨c,o,g1,g2⟩:=(lZ (ha.zero r hrn)).2 (t.nd (r:Int)).text (by unfold cV;rw[k41];rfl);have hb:recB t r=r+1:=by unfold recB;rw[k41];rfl
 rw[hb]at g1;have:=rZ bd hr (TyOk.record G h0 (Nat.lt_succ_self r) hrn k41) nlr (by omega) (by omega) (by omega) g1 hc.has;omega
def Ty8(t:Tr)(k:List UInt8):Prop:=k=[]\/∃c,TyC t k c/\c<=8
theorem Ty8.cl(bd:Bd t)(hr:(zb t).2.2=0)(ha:InferAt t t.nodes.length 0):TyCl t (Ty8 t):=by
 obtain⟨wf,G⟩:=zi bd hr;refine⟨.inr ⟨1,TyC.int,by omega⟩,.inr ⟨1,TyC.bool,by omega⟩,.inl rfl,fun {k of n} h he=>?_,fun {r} hrn k41 h=>.inr (sQ bd hr ha hrn k41 fun a hf=>?_),fun {i a m} hi hk hai hm h h1 h2 e=>?_⟩
 .rcases h with rfl|⟨c,h1,h2⟩
  .cases he
  .exact .inr (h1.elem h2 he)
 .obtain⟨j,hj,hh⟩:=List.getElem_of_mem hf
  have h1:=G.kidOk hrn hj;rw[k41,hh]at h1;have k34:(t.nd (a:Int)).kind=34:=by simpa[kidK]using h1
  obtain⟨a',ho,hp⟩:=aN G hrn hf;obtain⟨c,hc,hq,hg,hn⟩:=mE G (show a<t.nodes.length by omega) (.inr k34);rw[k34]at hg;have hd:=tZ G (show c<t.nodes.length by omega) (by simpa[kidK]using hg);rw[<-hn]at hd;rcases h a hf with h2|⟨c,h2,-⟩
  .exact absurd h2 hd
  .exact⟨c,h2⟩
 .have hd:tyP t a≠[]:=by
   rcases hm with q|q
   .exact yU (by omega) (ha.zero a (by omega)) q
   .exact tZ G (by omega) q
  rcases h with h|⟨c,hc,-⟩
  .exact absurd h hd
  .have hl:=hc.list h1 h2
   refine .inr ⟨_,hl,?_⟩;rw[<-e]at hl
   obtain⟨d,o,g1,g2⟩:=(lZ (ha.zero i hi)).2 (tyP t i) (by
    have:=eS (t:=t) (Nat.lt_succ_self i) hi
    unfold cV;rw[this];rcases hk with k|k<;>rw[k]<;>rfl)
   have hb:recB t i=i:=by unfold recB;rcases hk with k|k<;>rw[k]<;>rfl
   rw[hb]at g1;have:=rZ bd hr (fO bd hr i hi).2.ok nlr (by omega) (by omega) (by omega) g1 hl.has;omega
def vP(k:Int):Bool:=zl k||cG k||k==25||k==34
theorem KS(bd:Bd t)(hr:(zb t).2.2=0)(ha:InferAt t t.nodes.length 0){i:Nat}(hi:i<t.nodes.length)(hk:vP (t.nd (i:Int)).kind=true):tyP t i≠[]:=by
 obtain⟨wf,G⟩:=zi bd hr;simp only[vP,Bool.or_eq_true,beq_iff_eq]at hk;rcases hk with((q|q) | q) | q
 .exact yU hi (ha.zero i hi) q
 .exact tZ G hi q
 .obtain⟨c,hc,he,hb,hd⟩:=mE G hi (.inl q)
  rw[q]at hb;rw[hd];exact yU (by omega) (ha.zero c (by omega)) (by simpa[kidK]using hb)
 .obtain⟨c,hc,he,hb,hd⟩:=mE G hi (.inr q)
  rw[q]at hb;rw[hd];exact tZ G (by omega) (by simpa[kidK]using hb)
theorem AV(bd:Bd t)(hr:(zb t).2.2=0)(ha:InferAt t t.nodes.length 0){i:Nat}(hi:i<t.nodes.length)(hk:vP (t.nd (i:Int)).kind=true):∃c,TyC t (tyP t i) c/\c<=8:=by
 rcases(vA (Ty8.cl bd hr ha) bd hr i hi).2.p with h|h
 .exact absurd h (KS bd hr ha hi hk)
 .exact h
end
end
section
open Go Go.RowKit
def sumW:List (Option Nat)->Option Nat
 | []=>some 0
 |x::l=>x.bind fun a=>(sumW l).map fun b=>a+b
def jD(t:Tr)(g:Int):Int:=(t.nd g).kids.getD ((t.nd g).kids.length-1) 0
def cS(t:Tr)(F d i:Int):Option (Int×Int):=if means t i=F then (if d<(t.nd F).n then some (F,d+1)else none)else some (means t i,0)
def wOne(t:Tr):Nat->Int->Int->Int->Option Nat
 |0,_,_,_=>none
 | f + 1,F,d,i=>(sumW ((t.nd i).kids.map (wOne t f F d))).bind fun s=>
     if (t.nd i).kind==21 then (match cS t F d i with
      |some (g,e)=>(wOne t f g e (jD t g)).map fun b=>1+s+b
      |none=>some (1+s))
     else some (1+s)
theorem jW{p q:Int->Option Nat}(h:∀x r,p x=some r->q x=some r):∀(l:List Int) (r:Nat),sumW (l.map p)=some r->sumW (l.map q)=some r
 | [],_,e=>e
 | x::l,r,e=>by
   simp only[List.map_cons,sumW]at e|-
   cases hp:p x with
   |none=>rw[hp]at e;cases e
   | some y=>
     rw[hp]at e;rw[h x y hp];simp only[Option.bind_some]at e|-;cases hs:sumW (l.map p)with
     |none=>rw[hs]at e;cases e
     | some z=>
       rw[hs]at e;rw[jW h l z hs];exact e
theorem cZ{t:Tr}:∀(f g:Nat) (F d i:Int) (r:Nat),f<=g->wOne t f F d i=some r->wOne t g F d i=some r
 |0,_,_,_,_,_,_,e=>by cases e
 |f+1,0,_,_,_,_,h,_=>by omega
 | f+1,g+1,F,d,i,r,h,e=>by
   rw[wOne]at e|-;cases hs:sumW ((t.nd i).kids.map (wOne t f F d))with
   |none=>rw[hs]at e;cases e
   | some s=>
     rw[hs]at e;rw[jW (fun x r hx=>cZ f g F d x r (by omega) hx) _ _ hs];simp only[Option.bind_some]at e|-;split
     .rename_i hk
      rw[if_pos hk]at e;split
      .rename_i a b hc
       rw[hc]at e;simp only at e;cases hb:wOne t f a b (jD t a)with
       |none=>rw[hb]at e;cases e
       | some y=>
         rw[hb]at e;rw[cZ f g a b _ y (by omega) hb];exact e
      .rename_i hc
       rw[hc]at e;exact e
     .rename_i hk
      rwa[if_neg hk]at e
theorem KO{x:Option Nat}{l:List (Option Nat)}{r:Nat}(h:sumW (x::l)=some r):∃a b,x=some a/\sumW l=some b/\r=a+b:=by
 rw[sumW]at h
 cases x with
 |none=>cases h
 | some a=>
   cases hl:sumW l with
   |none=>rw[hl]at h;cases h
   |some b=>rw[hl]at h;exact⟨a,b,rfl,rfl,(Option.some.inj h).symm⟩
def BodyW(t:Tr)(g e:Int)(b:Nat):Prop:=∃f,wOne t f g e (jD t g)=some b
theorem BodyW.unique{t:Tr}{g e:Int}{b c:Nat}(h:BodyW t g e b)(h':BodyW t g e c):b=c:=by
 obtain⟨f,h⟩:=h;obtain⟨f',h'⟩:=h';have h1:=cZ f (f+f') _ _ _ _ (by omega) h;rw[cZ f' (f+f') _ _ _ _ (by omega) h']at h1;exact(Option.some.inj h1).symm
def jL(t:Tr)(f:Nat)(i:Int):Option Nat:=
 if (t.nd i).kind==42 then wOne t f i 0 (jD t i)
 else if (t.nd i).kind==43||(t.nd i).kind==44||(t.nd i).kind==46 then sumW ((t.nd i).kids.map (wOne t f (-1) 0))
 else some 0
theorem kK{t:Tr}{f g:Nat}{i:Int}{r:Nat}(h:jL t f i=some r)(hfg:f<=g):jL t g i=some r:=by
 unfold jL at h|-;split
 .rename_i hk;rw[if_pos hk]at h;exact cZ f g _ _ _ _ hfg h
 .rename_i hk
  rw[if_neg hk]at h;split
  .rename_i hk;rw[if_pos hk]at h;exact jW (fun x r hx=>cZ f g _ _ x r hfg hx) _ _ h
  .rename_i hk;rwa[if_neg hk]at h
def iY(t:Tr)(i:Int)(x:Int×Int×Int):Int×Int×Int:=
 if (t.nd i).kind==40 then (x.1+1,min 2001 (x.2.1*((t.nd ((t.nd i).kids.getD 1 0)).n-(t.nd ((t.nd i).kids.getD 0 0)).n+1)),x.2.2)
 else if (t.nd i).kind==44 then (x.1,x.2.1,x.2.2+1)
 else if (t.nd i).kind==45 then (x.1,x.2.1,x.2.2-1)
 else x
def tooB(x:Int×Int×Int):Bool:=decide (6<x.1)||decide (2000<x.2.1)||decide (8<x.2.2)
def gC(t:Tr)(f:Nat):List Int->Int×Int×Int->Option (Int×Int)
 | [],_=>some (0,0)
 |i::l,x=>if tooB (iY t i x)then some (i,5)else (jL t f i).bind fun w=>if 3000<w then some (i,5)else gC t f l (iY t i x)
theorem iN{t:Tr}{f g:Nat}(hfg:f<=g):∀(l:List Int) (x:Int×Int×Int) (r:Int×Int),gC t f l x=some r->gC t g l x=some r
 | [],_,_,h=>h
 | i::l,x,r,h=>by
   rw[gC]at h|-;split
   .rename_i hk;rwa[if_pos hk]at h
   .rename_i hk
    rw[if_neg hk]at h
    cases hi:jL t f i with
    |none=>rw[hi]at h;cases h
    | some w=>
      rw[hi]at h;rw[kK hi hfg];simp only[Option.bind_some]at h|-;split
      .rename_i hw;rwa[if_pos hw]at h
      .rename_i hw;rw[if_neg hw]at h;exact iN hfg l _ r h
def sumS(S:List Int):List Int->Int
 | []=>0
 |k::l=>S.getD k.toNat 0+sumS S l
theorem iT(S:List Int):∀(l r:List Int),sumS S (l++r)=sumS S l+sumS S r
 | [],r=>by simp[sumS]
 |k::l,r=>by rw[List.cons_append,sumS,sumS,iT S l r];omega
theorem oA(S:List Int):∀l:List Int,sumS S l.reverse=sumS S l
 | []=>rfl
 |k::l=>by rw[List.reverse_cons,iT,oA S l];simp[sumS];omega
theorem BP{S:List Int}:∀(l:List Int) (p q:Int),eatK S l p=some q->p-q=sumS S l
 | [],p,q,h=>by simp[eatK]at h;simp[sumS];omega
 | k::l,p,q,h=>by
   rw[eatK]at h;split at h
   .cases h
   .rename_i hc
    simp only[Bool.or_eq_true,bne_iff_ne,ne_eq,decide_eq_true_eq,not_or,Classical.not_not]at hc;have:=BP l _ q h;rw[sumS,hc.1];omega
theorem Placed.size{t:Tr}{S:List Int}(P:Placed t S){i:Nat}(hi:i<t.nodes.length):S.getD i 0=1+sumS S (t.nd i).kids:=by
 have:=BP _ _ _ (P.eat i hi);rw[oA]at this;omega
theorem zQ{w:World}{g i k:Nat}{v:Value}(h:k≠g):(w.setCell ⟨g,i,none⟩ v).heap[k]?=w.heap[k]?:=Below.heap_setCell w ⟨g,i,none⟩ v k h
end
end Go.Proofs.YtcdkdiedphhdhaaGreatDoor
