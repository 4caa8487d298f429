/- Part of a proof. -/
import Derived.Test.YtipjhljnkocioaaGreatDoorP24
import Derived.Test.YtipjhljnkocioaaGreatDoorP37
set_option maxRecDepth 100000
set_option maxHeartbeats 8000000
set_option linter.unusedVariables false
set_option linter.unusedSimpArgs false
namespace Go.Proofs.YtipjhljnkocioaaGreatDoor
section
open Go Go.RowKit
theorem MK{t:Tr}{i:Nat}(hi:i<t.nodes.length):(ze t t.nodes.length)[i]?=some (means t i):=by
 rw[bD,List.getElem?_map,List.getElem?_range hi];rfl
end
section
open Go Go.RowKit
structure SameForm (t t':Tr):Prop where
 len:t'.nodes.length=t.nodes.length
 items:t'.items=t.items
 kind:∀i:Int,(t'.nd i).kind=(t.nd i).kind
 n:∀i:Int,(t'.nd i).n=(t.nd i).n
 kids:∀i:Int,(t'.nd i).kids=(t.nd i).kids
 pos:∀i:Int,(t'.nd i).pos=(t.nd i).pos
section
variable {t t' : Tr} (F : SameForm t t')
include F
theorem SameForm.isKid(n:Int):dQ t'.nodes n=dQ t.nodes n:=by
 funext i;unfold dQ;by_cases hi:i<t.nodes.length
 ·have h:=F.kids i
  have hi':i<t'.nodes.length:=by rw[F.len];exact hi
  rw[t'.nd_at hi',t.nd_at hi]at h;rw[List.getElem?_eq_getElem hi',List.getElem?_eq_getElem hi,Option.map_some,Option.map_some,h]
 ·rw[List.getElem?_eq_none (by rw[F.len];omega),List.getElem?_eq_none (by omega)]
theorem SameForm.par(n:Int):parent t' n=parent t n:=by unfold parent;rw[F.isKid,F.len]
theorem SameForm.isD(i:Int):zi t' i=zi t i:=by unfold zi;rw[F.kind,F.par,F.kind]
theorem SameForm.sAt(n last:Int):zy (t'.nd n) last n=zy (t.nd n) last n:=by unfold zy;rw[F.kind,F.kids]
theorem SameForm.upS:∀(f:Nat) (last n:Int) (acc:List Int),upF t' (fun last n acc=>acc++zy (t'.nd n) last n) f last n acc=upF t (fun last n acc=>acc++zy (t.nd n) last n) f last n acc
 |0,last,n,acc=>rfl
 |f+1,last,n,acc=>by rw[upF,upF,F.par,F.sAt,SameForm.upS f]
theorem SameForm.sUp(i:Int):aZ t' i=aZ t i:=by unfold aZ upw;rw[F.par,F.len,F.upS]
theorem SameForm.sg(i:Int):sight t' i=sight t i:=by unfold sight;rw[F.sUp,F.items];simp only[F.isD]
theorem SameForm.sizesTo':∀m,zE t' m=zE t m
 |0=>rfl
 |m+1=>by rw[zE,zE,SameForm.sizesTo' m,F.kids]
theorem SameForm.sizes:bV t'=bV t:=by unfold bV;rw[F.len,F.sizesTo']
theorem SameForm.depTo':∀m,eM t' m=eM t m
 |0=>by rw[eM,eM,F.len]
 |m+1=>by rw[eM,eM,SameForm.depTo' m,F.len];unfold iK;rw[F.kids]
theorem SameForm.deep:aI t'=aI t:=by unfold aI dX;rw[F.len,F.depTo']
theorem SameForm.sized(i:Nat):fR t' i=fR t i:=by simp only[fR,F.kind,F.kids,F.n]
theorem SameForm.kidsO(i:Int):iE t' (t'.nd i)=iE t (t.nd i):=by simp only[iE,kZ,F.kind,F.kids,F.n]
theorem SameForm.eatI'(S:List Int):∀(l:List Int) (p:Int),eatI t' S l p=eatI t S l p
 | [],p=>rfl
 |k::r,p=>by rw[eatI,eatI,F.kind,SameForm.eatI' S r]
theorem SameForm.right{i:Nat}(h:bR t i=true)(ht:(t'.nd i).text=(t.nd i).text∨cT (t.nd i).kind=true∧zT (t'.nd i).text=true):bR t' i=true:=by
 unfold bR at h⊢;rw[F.kind,F.n,F.kids,F.pos,F.kidsO];rcases ht with e|⟨e1,e2⟩
 ·rw[e];exact h
 ·rw[e1,e2]
  rw[e1]at h;simp only[Bool.and_eq_true]at h⊢;obtain⟨⟨⟨⟨⟨⟨⟨h1,_⟩,_⟩,h2⟩,h3⟩,h4⟩,h5⟩,h6⟩:=h;exact⟨⟨⟨⟨⟨⟨⟨h1,by rfl⟩,by rfl⟩,h2⟩,h3⟩,h4⟩,h5⟩,h6⟩
theorem SameForm.check(h:aN t=0)(ht:∀i:Nat,i<t.nodes.length→(t'.nd i).text=(t.nd i).text∨cT (t.nd i).kind=true∧zT (t'.nd i).text=true):aN t'=0:=by
 have hf:dU t=true:=aP h
 have hf':dU t'=true:=by
  have h2:=hf;simp only[dU,Bool.and_eq_true,beq_iff_eq]at h2⊢;rw[F.sizes,F.len,F.items,F.eatI'];refine⟨h2.1,List.all_eq_true.2 fun i hi=>?_,h2.2.2⟩;rw[F.len,List.mem_range]at hi;exact F.right (List.all_eq_true.1 h2.2.1 i (List.mem_range.2 hi)) (ht i hi)
 have hs:eQ t'=eQ t:=by
  unfold eQ;rw[F.len];simp only[F.sized]
 unfold aN at h⊢;rw[F.len,F.items,hf',F.deep,hs];rw[hf]at h;exact h
theorem SameForm.bd(h:Bd t)(ht:∀i:Nat,i<t.nodes.length→(t'.nd i).text.length≤1000000000):Bd t':=by
 refine⟨by rw[F.len];exact h.n,by rw[F.items];exact h.i,fun d hd=>?_,fun d hd=>?_⟩
 ·obtain⟨i,hi,rfl⟩:=List.getElem_of_mem hd
  have hi2:i<t.nodes.length:=by rw[←F.len];exact hi
  have e:=F.kids i;rw[t'.nd_at hi,t.nd_at hi2]at e;rw[e];exact h.k _ (List.getElem_mem hi2)
 ·obtain⟨i,hi,rfl⟩:=List.getElem_of_mem hd
  have:=ht i (by rw[←F.len];exact hi);rwa[t'.nd_at hi]at this
end
end
section
open Go Go.RowKit
def nmC(x:Nat):List UInt8:=if x % 3=0 then [97]else if x % 3=1 then [98]else [99]
theorem LQ(x:Nat):(x % 3=0∧nmC x=[97])∨(x % 3=1∧nmC x=[98])∨(x % 3=2∧nmC x=[99]):=by
 unfold nmC;have:x % 3<3:=Nat.mod_lt _ (by omega);by_cases h0:x % 3=0
 ·exact .inl ⟨h0,by rw[if_pos h0]⟩
 ·by_cases h1:x % 3=1
  ·exact .inr (.inl ⟨h1,by rw[if_neg h0,if_pos h1]⟩)
  ·exact .inr (.inr ⟨by omega,by rw[if_neg h0,if_neg h1]⟩)
def preC:List UInt8:=[108,101,116,32,97,32,61,32,49,59,32,108,101,116,32,98,32,61,32,50,59,32,108,101,116,32,99,32,61,32,51,59,32,108,101,116,32,115,32,61,32]
def MI:List UInt8:=[97,32,43,32,98,32,43,32,99,59]
def letC(x y:Nat):List UInt8:=[108,101,116,32]++nmC x++[32,61,32]++nmC y++[32,105,110,32]
def LU(X Y:Nat→Nat):Nat→Nat→List UInt8
 |0,_=>[]
 |d+1,i=>letC (X i) (Y i)++LU X Y d (i+1)
def LY(X Y:Nat→Nat)(d:Nat):List UInt8:=preC++LU X Y d 0++MI
def ME:List Tk:=[⟨3,wLet,0⟩,⟨1,[97],4⟩,⟨4,sEq,6⟩,⟨2,[49],8⟩,⟨4,JQ,9⟩,⟨3,wLet,11⟩,⟨1,[98],15⟩,⟨4,sEq,17⟩,⟨2,[50],19⟩,⟨4,JQ,20⟩,⟨3,wLet,22⟩,⟨1,[99],26⟩,⟨4,sEq,28⟩,⟨2,[51],30⟩,⟨4,JQ,31⟩,⟨3,wLet,33⟩,⟨1,[115],37⟩,⟨4,sEq,39⟩]
def MD(x y:Nat)(p:Nat):List Tk:=[⟨3,wLet,p⟩,⟨1,nmC x,(p+4:Nat)⟩,⟨4,sEq,(p+6:Nat)⟩,⟨1,nmC y,(p+8:Nat)⟩,⟨3,wIn,(p+10:Nat)⟩]
def LT(X Y:Nat→Nat):Nat→Nat→List Tk
 |0,_=>[]
 |d+1,i=>MD (X i) (Y i) (41+13*i)++LT X Y d (i+1)
def MB(p:Nat):List Tk:=[⟨1,[97],p⟩,⟨4,[43],(p+2:Nat)⟩,⟨1,[98],(p+4:Nat)⟩,⟨4,[43],(p+6:Nat)⟩,⟨1,[99],(p+8:Nat)⟩,⟨4,JQ,(p+9:Nat)⟩]
def LZ(X Y:Nat→Nat)(d:Nat):List Tk:=ME++LT X Y d 0++MB (41+13*d)
theorem LP{s r r':List UInt8}(a f:Nat)(l:List Tk)(k:Int)(tx:List UInt8)(m:Nat)(hr:s.drop a=r)(h0:r≠[])(ht:tokF r=(k,tx))(hk:(k==0)=false)(hl:l.length<800)(hs:tx.length+cG false (r.drop tx.length)=m)(hr':r.drop m=r') :
 lV s (f+1) a l=lV s f (a+m) (l++[⟨k,tx,a⟩])∧s.drop (a+m)=r':=by
 have ha:a<s.length:=by
  apply Classical.byContradiction;intro h;exact h0 (by rw[←hr,List.drop_eq_nil_iff];omega)
 have e1:s.drop (a+tx.length)=r.drop tx.length:=by rw[←hr,List.drop_drop]
 refine⟨?_,by rw[←hr',←hr,List.drop_drop]⟩;rw[lV,if_pos ha,hr,ht];simp only;rw[if_neg (by rw[hk];exact Bool.false_ne_true),if_neg (by omega),e1,Nat.add_assoc,hs]
theorem PB{s rest:List UInt8}{a f:Nat}{l:List Tk}(cx cy:UInt8)(hx:cx=97∨cx=98∨cx=99)(hy:cy=97∨cy=98∨cy=99)(hr:s.drop a=108::101::116::32::cx::32::61::32::cy::32::105::110::32::rest)(hl:l.length+5<800)(hs:cG false rest=0) :
 lV s (f+5) a l=lV s f (a+13) (l++[⟨3,wLet,a⟩,⟨1,[cx],(a+4:Nat)⟩,⟨4,sEq,(a+6:Nat)⟩,⟨1,[cy],(a+8:Nat)⟩,⟨3,wIn,(a+10:Nat)⟩])∧s.drop (a+13)=rest:=by
 obtain⟨r1,d1⟩:=LP a (f+4) l 3 wLet 4 hr (by simp) rfl rfl (by omega) (by rcases hx with rfl|rfl|rfl<;>rfl) rfl;obtain⟨r2,d2⟩:=LP (a+4) (f+3) (l++[⟨3,wLet,a⟩]) 1 [cx] 2 d1 (by simp) (by rcases hx with rfl|rfl|rfl<;>rfl) rfl (by simp;omega) rfl rfl;obtain⟨r3,d3⟩:=LP (a+4+2) (f+2) (l++[⟨3,wLet,a⟩]++[⟨1,[cx],(a+4:Nat)⟩]) 4 sEq 2 d2 (by simp) rfl rfl (by simp;omega) (by rcases hy with rfl|rfl|rfl<;>rfl) rfl;obtain⟨r4,d4⟩:=LP (a+4+2+2) (f+1) (l++[⟨3,wLet,a⟩]++[⟨1,[cx],(a+4:Nat)⟩]++[⟨4,sEq,(a+4+2:Nat)⟩]) 1 [cy] 2 d3 (by simp) (by rcases hy with rfl|rfl|rfl<;>rfl) rfl (by simp;omega) rfl rfl;obtain⟨r5,d5⟩:=LP (a+4+2+2+2) f (l++[⟨3,wLet,a⟩]++[⟨1,[cx],(a+4:Nat)⟩]++[⟨4,sEq,(a+4+2:Nat)⟩]++[⟨1,[cy],(a+4+2+2:Nat)⟩]) 3 wIn 3 d4 (by simp) rfl rfl (by simp;omega) (by show 2+(cG false rest+1)=3;omega) rfl;refine⟨?_,d5⟩;rw[r1,r2,r3,r4,r5];simp only[List.append_assoc,List.cons_append,List.nil_append]
theorem RI{s rest:List UInt8}{a f:Nat}{l:List Tk}(x y:Nat)(hr:s.drop a=letC x y++rest)(hl:l.length+5<800)(hs:cG false rest=0) :
 lV s (f+5) a l=lV s f (a+13) (l++MD x y a)∧s.drop (a+13)=rest:=by
 unfold letC at hr;unfold MD;rcases LQ x with⟨_,hx⟩|⟨_,hx⟩|⟨_,hx⟩<;>rcases LQ y with⟨_,hy⟩|⟨_,hy⟩|⟨_,hy⟩<;>rw[hx,hy]at hr⊢<;>exact PB _ _ (by decide) (by decide) hr hl hs
theorem MT(X Y:Nat→Nat):∀d i,cG false (LU X Y d i++MI)=0
 |0,_=>rfl
 |d+1,i=>rfl
theorem MS{s:List UInt8}(X Y:Nat→Nat):∀(d i f:Nat) (l:List Tk),s.drop (41+13*i)=LU X Y d i++MI→l.length+5*d<800 →
 lV s (f+5*d) (41+13*i) l=lV s f (41+13*(i+d)) (l++LT X Y d i)∧s.drop (41+13*(i+d))=MI
 |0,i,f,l,h,_=>by simp only[LT,List.append_nil];exact⟨rfl,h⟩
 | d+1,i,f,l,h,hl=>by
   rw[LU,List.append_assoc]at h;obtain⟨h1,h2⟩:=RI (f:=f+5*d) (l:=l) (X i) (Y i) h (by omega) (MT X Y d (i+1));rw[show 41+13*i+13=41+13*(i+1) by omega]at h1 h2;obtain⟨h3,h4⟩:=MS X Y d (i+1) f (l++MD (X i) (Y i) (41+13*i)) h2 (by simp[MD];omega);rw[show i+1+d=i+(d+1) by omega]at h3 h4;exact⟨by rw[show f+5*(d+1)=f+5*d+5 by omega,h1,h3,LT,List.append_assoc],h4⟩
theorem RJ{s rest:List UInt8}{f:Nat}(h:s=preC++rest)(hs:cG false rest=0):lV s (f+18) 0 []=lV s f 41 ME∧s.drop 41=rest:=by
 have hr:s.drop 0=preC++rest:=by rw[List.drop_zero];exact h
 unfold preC at hr;obtain⟨r1,d1⟩:=LP (0) (f+17) ([]) 3 wLet 4 hr (by simp) rfl rfl (by simp) rfl rfl;obtain⟨r2,d2⟩:=LP (4) (f+16) ([]++[⟨3,wLet,(0:Nat)⟩]) 1 [97] 2 d1 (by simp) rfl rfl (by simp) rfl rfl;obtain⟨r3,d3⟩:=LP (6) (f+15) ([]++[⟨3,wLet,(0:Nat)⟩]++[⟨1,[97],(4:Nat)⟩]) 4 sEq 2 d2 (by simp) rfl rfl (by simp) rfl rfl;obtain⟨r4,d4⟩:=LP (8) (f+14) ([]++[⟨3,wLet,(0:Nat)⟩]++[⟨1,[97],(4:Nat)⟩]++[⟨4,sEq,(6:Nat)⟩]) 2 [49] 1 d3 (by simp) rfl rfl (by simp) rfl rfl;obtain⟨r5,d5⟩:=LP (9) (f+13) ([]++[⟨3,wLet,(0:Nat)⟩]++[⟨1,[97],(4:Nat)⟩]++[⟨4,sEq,(6:Nat)⟩]++[⟨2,[49],(8:Nat)⟩]) 4 JQ 2 d4 (by simp) rfl rfl (by simp) rfl rfl;obtain⟨r6,d6⟩:=LP (11) (f+12) ([]++[⟨3,wLet,(0:Nat)⟩]++[⟨1,[97],(4:Nat)⟩]++[⟨4,sEq,(6:Nat)⟩]++[⟨2,[49],(8:Nat)⟩]++[⟨4,JQ,(9:Nat)⟩]) 3 wLet 4 d5 (by simp) rfl rfl (by simp) rfl rfl;obtain⟨r7,d7⟩:=LP (15) (f+11) ([]++[⟨3,wLet,(0:Nat)⟩]++[⟨1,[97],(4:Nat)⟩]++[⟨4,sEq,(6:Nat)⟩]++[⟨2,[49],(8:Nat)⟩]++[⟨4,JQ,(9:Nat)⟩]++[⟨3,wLet,(11:Nat)⟩]) 1 [98] 2 d6 (by simp) rfl rfl (by simp) rfl rfl;obtain⟨r8,d8⟩:=LP (17) (f+10) ([]++[⟨3,wLet,(0:Nat)⟩]++[⟨1,[97],(4:Nat)⟩]++[⟨4,sEq,(6:Nat)⟩]++[⟨2,[49],(8:Nat)⟩]++[⟨4,JQ,(9:Nat)⟩]++[⟨3,wLet,(11:Nat)⟩]++[⟨1,[98],(15:Nat)⟩]) 4 sEq 2 d7 (by simp) rfl rfl (by simp) rfl rfl;obtain⟨r9,d9⟩:=LP (19) (f+9) ([]++[⟨3,wLet,(0:Nat)⟩]++[⟨1,[97],(4:Nat)⟩]++[⟨4,sEq,(6:Nat)⟩]++[⟨2,[49],(8:Nat)⟩]++[⟨4,JQ,(9:Nat)⟩]++[⟨3,wLet,(11:Nat)⟩]++[⟨1,[98],(15:Nat)⟩]++[⟨4,sEq,(17:Nat)⟩]) 2 [50] 1 d8 (by simp) rfl rfl (by simp) rfl rfl;obtain⟨r10,d10⟩:=LP (20) (f+8) ([]++[⟨3,wLet,(0:Nat)⟩]++[⟨1,[97],(4:Nat)⟩]++[⟨4,sEq,(6:Nat)⟩]++[⟨2,[49],(8:Nat)⟩]++[⟨4,JQ,(9:Nat)⟩]++[⟨3,wLet,(11:Nat)⟩]++[⟨1,[98],(15:Nat)⟩]++[⟨4,sEq,(17:Nat)⟩]++[⟨2,[50],(19:Nat)⟩]) 4 JQ 2 d9 (by simp) rfl rfl (by simp) rfl rfl;obtain⟨r11,d11⟩:=LP (22) (f+7) ([]++[⟨3,wLet,(0:Nat)⟩]++[⟨1,[97],(4:Nat)⟩]++[⟨4,sEq,(6:Nat)⟩]++[⟨2,[49],(8:Nat)⟩]++[⟨4,JQ,(9:Nat)⟩]++[⟨3,wLet,(11:Nat)⟩]++[⟨1,[98],(15:Nat)⟩]++[⟨4,sEq,(17:Nat)⟩]++[⟨2,[50],(19:Nat)⟩]++[⟨4,JQ,(20:Nat)⟩]) 3 wLet 4 d10 (by simp) rfl rfl (by simp) rfl rfl;obtain⟨r12,d12⟩:=LP (26) (f+6) ([]++[⟨3,wLet,(0:Nat)⟩]++[⟨1,[97],(4:Nat)⟩]++[⟨4,sEq,(6:Nat)⟩]++[⟨2,[49],(8:Nat)⟩]++[⟨4,JQ,(9:Nat)⟩]++[⟨3,wLet,(11:Nat)⟩]++[⟨1,[98],(15:Nat)⟩]++[⟨4,sEq,(17:Nat)⟩]++[⟨2,[50],(19:Nat)⟩]++[⟨4,JQ,(20:Nat)⟩]++[⟨3,wLet,(22:Nat)⟩]) 1 [99] 2 d11 (by simp) rfl rfl (by simp) rfl rfl;obtain⟨r13,d13⟩:=LP (28) (f+5) ([]++[⟨3,wLet,(0:Nat)⟩]++[⟨1,[97],(4:Nat)⟩]++[⟨4,sEq,(6:Nat)⟩]++[⟨2,[49],(8:Nat)⟩]++[⟨4,JQ,(9:Nat)⟩]++[⟨3,wLet,(11:Nat)⟩]++[⟨1,[98],(15:Nat)⟩]++[⟨4,sEq,(17:Nat)⟩]++[⟨2,[50],(19:Nat)⟩]++[⟨4,JQ,(20:Nat)⟩]++[⟨3,wLet,(22:Nat)⟩]++[⟨1,[99],(26:Nat)⟩]) 4 sEq 2 d12 (by simp) rfl rfl (by simp) rfl rfl;obtain⟨r14,d14⟩:=LP (30) (f+4) ([]++[⟨3,wLet,(0:Nat)⟩]++[⟨1,[97],(4:Nat)⟩]++[⟨4,sEq,(6:Nat)⟩]++[⟨2,[49],(8:Nat)⟩]++[⟨4,JQ,(9:Nat)⟩]++[⟨3,wLet,(11:Nat)⟩]++[⟨1,[98],(15:Nat)⟩]++[⟨4,sEq,(17:Nat)⟩]++[⟨2,[50],(19:Nat)⟩]++[⟨4,JQ,(20:Nat)⟩]++[⟨3,wLet,(22:Nat)⟩]++[⟨1,[99],(26:Nat)⟩]++[⟨4,sEq,(28:Nat)⟩]) 2 [51] 1 d13 (by simp) rfl rfl (by simp) rfl rfl;obtain⟨r15,d15⟩:=LP (31) (f+3) ([]++[⟨3,wLet,(0:Nat)⟩]++[⟨1,[97],(4:Nat)⟩]++[⟨4,sEq,(6:Nat)⟩]++[⟨2,[49],(8:Nat)⟩]++[⟨4,JQ,(9:Nat)⟩]++[⟨3,wLet,(11:Nat)⟩]++[⟨1,[98],(15:Nat)⟩]++[⟨4,sEq,(17:Nat)⟩]++[⟨2,[50],(19:Nat)⟩]++[⟨4,JQ,(20:Nat)⟩]++[⟨3,wLet,(22:Nat)⟩]++[⟨1,[99],(26:Nat)⟩]++[⟨4,sEq,(28:Nat)⟩]++[⟨2,[51],(30:Nat)⟩]) 4 JQ 2 d14 (by simp) rfl rfl (by simp) rfl rfl;obtain⟨r16,d16⟩:=LP (33) (f+2) ([]++[⟨3,wLet,(0:Nat)⟩]++[⟨1,[97],(4:Nat)⟩]++[⟨4,sEq,(6:Nat)⟩]++[⟨2,[49],(8:Nat)⟩]++[⟨4,JQ,(9:Nat)⟩]++[⟨3,wLet,(11:Nat)⟩]++[⟨1,[98],(15:Nat)⟩]++[⟨4,sEq,(17:Nat)⟩]++[⟨2,[50],(19:Nat)⟩]++[⟨4,JQ,(20:Nat)⟩]++[⟨3,wLet,(22:Nat)⟩]++[⟨1,[99],(26:Nat)⟩]++[⟨4,sEq,(28:Nat)⟩]++[⟨2,[51],(30:Nat)⟩]++[⟨4,JQ,(31:Nat)⟩]) 3 wLet 4 d15 (by simp) rfl rfl (by simp) rfl rfl;obtain⟨r17,d17⟩:=LP (37) (f+1) ([]++[⟨3,wLet,(0:Nat)⟩]++[⟨1,[97],(4:Nat)⟩]++[⟨4,sEq,(6:Nat)⟩]++[⟨2,[49],(8:Nat)⟩]++[⟨4,JQ,(9:Nat)⟩]++[⟨3,wLet,(11:Nat)⟩]++[⟨1,[98],(15:Nat)⟩]++[⟨4,sEq,(17:Nat)⟩]++[⟨2,[50],(19:Nat)⟩]++[⟨4,JQ,(20:Nat)⟩]++[⟨3,wLet,(22:Nat)⟩]++[⟨1,[99],(26:Nat)⟩]++[⟨4,sEq,(28:Nat)⟩]++[⟨2,[51],(30:Nat)⟩]++[⟨4,JQ,(31:Nat)⟩]++[⟨3,wLet,(33:Nat)⟩]) 1 [115] 2 d16 (by simp) rfl rfl (by simp) rfl rfl;obtain⟨r18,d18⟩:=LP (39) (f+0) ([]++[⟨3,wLet,(0:Nat)⟩]++[⟨1,[97],(4:Nat)⟩]++[⟨4,sEq,(6:Nat)⟩]++[⟨2,[49],(8:Nat)⟩]++[⟨4,JQ,(9:Nat)⟩]++[⟨3,wLet,(11:Nat)⟩]++[⟨1,[98],(15:Nat)⟩]++[⟨4,sEq,(17:Nat)⟩]++[⟨2,[50],(19:Nat)⟩]++[⟨4,JQ,(20:Nat)⟩]++[⟨3,wLet,(22:Nat)⟩]++[⟨1,[99],(26:Nat)⟩]++[⟨4,sEq,(28:Nat)⟩]++[⟨2,[51],(30:Nat)⟩]++[⟨4,JQ,(31:Nat)⟩]++[⟨3,wLet,(33:Nat)⟩]++[⟨1,[115],(37:Nat)⟩]) 4 sEq 2 d17 (by simp) rfl rfl (by simp) (by show 1+(cG false rest+1)=2;omega) rfl;refine⟨?_,d18⟩;rw[r1,r2,r3,r4,r5,r6,r7,r8,r9,r10,r11,r12,r13,r14,r15,r16,r17,r18];rfl
theorem PD{s:List UInt8}{a f:Nat}{l:List Tk}(hr:s.drop a=MI)(hl:l.length+6<800):lV s (f+6) a l=.ok (l++MB a):=by
 unfold MI at hr;obtain⟨r1,d1⟩:=LP (a) (f+5) (l) 1 [97] 2 hr (by simp) rfl rfl (by omega) rfl rfl;obtain⟨r2,d2⟩:=LP (a+2) (f+4) (l++[⟨1,[97],(a:Nat)⟩]) 4 [43] 2 d1 (by simp) rfl rfl (by simp;omega) rfl rfl;obtain⟨r3,d3⟩:=LP (a+4) (f+3) (l++[⟨1,[97],(a:Nat)⟩]++[⟨4,[43],(a+2:Nat)⟩]) 1 [98] 2 d2 (by simp) rfl rfl (by simp;omega) rfl rfl;obtain⟨r4,d4⟩:=LP (a+6) (f+2) (l++[⟨1,[97],(a:Nat)⟩]++[⟨4,[43],(a+2:Nat)⟩]++[⟨1,[98],(a+4:Nat)⟩]) 4 [43] 2 d3 (by simp) rfl rfl (by simp;omega) rfl rfl;obtain⟨r5,d5⟩:=LP (a+8) (f+1) (l++[⟨1,[97],(a:Nat)⟩]++[⟨4,[43],(a+2:Nat)⟩]++[⟨1,[98],(a+4:Nat)⟩]++[⟨4,[43],(a+6:Nat)⟩]) 1 [99] 1 d4 (by simp) rfl rfl (by simp;omega) rfl rfl;obtain⟨r6,d6⟩:=LP (a+9) (f+0) (l++[⟨1,[97],(a:Nat)⟩]++[⟨4,[43],(a+2:Nat)⟩]++[⟨1,[98],(a+4:Nat)⟩]++[⟨4,[43],(a+6:Nat)⟩]++[⟨1,[99],(a+8:Nat)⟩]) 4 JQ 1 d5 (by simp) rfl rfl (by simp;omega) rfl rfl
 have he:lV s f (a+10) (l++MB a)=.ok (l++MB a):=by
  have hn:¬a+10<s.length:=by
   have:=List.drop_eq_nil_iff.1 d6;omega
  cases f with
  |zero=>rfl
  |succ f=>rw[lV,if_neg hn]
 rw[r1,r2,r3,r4,r5,r6];unfold MB at he⊢;simp only[List.append_assoc,List.cons_append,List.nil_append];exact he
theorem LR(X Y:Nat→Nat):∀d i,(LU X Y d i).length=13*d
 |0,_=>rfl
 | d+1,i=>by
   have h:∀x,(nmC x).length=1:=fun x=>by rcases LQ x with⟨_,h⟩|⟨_,h⟩|⟨_,h⟩<;>rw[h]<;>rfl
   rw[LU,List.length_append,LR X Y d (i+1),letC];simp[h];omega
theorem LW(X Y:Nat→Nat)(d:Nat):(LY X Y d).length=51+13*d:=by
 unfold LY;rw[List.length_append,List.length_append,LR];simp[preC,MI];omega
theorem MG(X Y:Nat→Nat):∀d i,∀c∈LU X Y d i,lF c=true
 |0,_,c,h=>by cases h
 | d+1,i,c,h=>by
   rw[LU,List.mem_append]at h;rcases h with h|h
   ·unfold letC at h
    revert c;rcases LQ (X i)with⟨_,hx⟩|⟨_,hx⟩|⟨_,hx⟩<;>rcases LQ (Y i)with⟨_,hy⟩|⟨_,hy⟩|⟨_,hy⟩<;>rw[hx,hy]<;>decide
   ·exact MG X Y d (i+1) c h
theorem MW(X Y:Nat→Nat)(d:Nat):∀c∈LY X Y d,lF c=true:=by
 intro c h;unfold LY at h;rw[List.mem_append,List.mem_append]at h;rcases h with(h|h) | h
 ·revert c;decide
 ·exact MG X Y d 0 c h
 ·revert c;decide
theorem LX(X Y:Nat→Nat):∀d i,(LT X Y d i).length=5*d
 |0,_=>rfl
 |d+1,i=>by rw[LT,List.length_append,LX X Y d (i+1)];simp[MD];omega
theorem SB(X Y:Nat→Nat){d:Nat}(hd:d≤12):lW (LY X Y d)=.ok (LZ X Y d):=by
 have hl:=LW X Y d
 have hc:fD (LY X Y d)=(0,0):=by
  unfold fD;rw[if_neg (by omega),List.findIdx?_eq_none_iff.2 (fun c h=>by rw[MW X Y d c h];rfl)]
 have hk:cG false (LU X Y d 0++MI)=0:=MT X Y d 0;have h0:cG false (LY X Y d)=0:=by unfold LY;rfl
 unfold lW;rw[hc,h0];simp only[bne_self_eq_false,Bool.false_eq_true,if_false];obtain⟨r1,d1⟩:=RJ (s:=LY X Y d) (f:=51+13*d+1-18) (rest:=LU X Y d 0++MI) (by unfold LY;rw[List.append_assoc]) hk;rw[hl,show 51+13*d+1=51+13*d+1-18+18 by omega,r1];obtain⟨r2,d2⟩:=MS (s:=LY X Y d) X Y d 0 (51+13*d+1-18-5*d) ME d1 (by simp[ME];omega);rw[show 51+13*d+1-18=51+13*d+1-18-5*d+5*d by omega];rw[Nat.mul_zero,Nat.add_zero]at r2;rw[r2];rw[Nat.zero_add]at d2⊢;have r3:=PD (s:=LY X Y d) (a:=41+13*d) (f:=51+13*d+1-18-5*d-6) (l:=ME++LT X Y d 0) d2 (by rw[List.length_append,LX];simp[ME];omega);rw[show 51+13*d+1-18-5*d=51+13*d+1-18-5*d-6+6 by omega,r3];rfl
def MX(Y:Nat→Nat)(d:Nat):List Nd:=(List.range d).map fun i=>⟨3,nmC (Y i),0,[],(41+13*i+8:Nat)⟩
def letN(X:Nat→Nat)(d i:Nat):Nd:=⟨20,nmC (X i),0,[(6+i:Nat),(9+2*d-i:Nat)],(41+13*i:Nat)⟩
def MV(X:Nat→Nat)(d:Nat):List Nd:=(List.range d).map fun j=>letN X d (d-1-j)
def EE(X Y:Nat→Nat)(d:Nat):Tr:=
 ⟨[⟨1,[],1,[],8⟩,⟨43,[97],0,[0],0⟩,⟨1,[],2,[],19⟩,⟨43,[98],0,[2],11⟩,⟨1,[],3,[],30⟩,⟨43,[99],0,[4],22⟩]++MX Y d ++
  [⟨3,[97],0,[],(41+13*d:Nat)⟩,⟨3,[98],0,[],(45+13*d:Nat)⟩,⟨6,[],0,[(6+d:Nat),(7+d:Nat)],(43+13*d:Nat)⟩,⟨3,[99],0,[],(49+13*d:Nat)⟩,⟨6,[],0,[(8+d:Nat),(9+d:Nat)],(47+13*d:Nat)⟩] ++
  MV X d++[⟨43,[115],0,[(10+2*d:Nat)],33⟩],[1,3,5,(11+2*d:Nat)]⟩
theorem RR(X Y:Nat→Nat)(e:Int):mN ⟨LZ X Y 0,e⟩=.ok (EE X Y 0):=by kernel_rfl
theorem RS(X Y:Nat→Nat)(e:Int):mN ⟨LZ X Y 1,e⟩=.ok (EE X Y 1):=by kernel_rfl
theorem RT(X Y:Nat→Nat)(e:Int):mN ⟨LZ X Y 2,e⟩=.ok (EE X Y 2):=by kernel_rfl
theorem RU(X Y:Nat→Nat)(e:Int):mN ⟨LZ X Y 3,e⟩=.ok (EE X Y 3):=by kernel_rfl
theorem RV(X Y:Nat→Nat)(e:Int):mN ⟨LZ X Y 4,e⟩=.ok (EE X Y 4):=by kernel_rfl
theorem RW(X Y:Nat→Nat)(e:Int):mN ⟨LZ X Y 5,e⟩=.ok (EE X Y 5):=by kernel_rfl
theorem RX(X Y:Nat→Nat)(e:Int):mN ⟨LZ X Y 6,e⟩=.ok (EE X Y 6):=by kernel_rfl
theorem RY(X Y:Nat→Nat)(e:Int):mN ⟨LZ X Y 7,e⟩=.ok (EE X Y 7):=by kernel_rfl
theorem RZ(X Y:Nat→Nat)(e:Int):mN ⟨LZ X Y 8,e⟩=.ok (EE X Y 8):=by kernel_rfl
theorem SA(X Y:Nat→Nat)(e:Int):mN ⟨LZ X Y 9,e⟩=.ok (EE X Y 9):=by kernel_rfl
theorem RD(X Y:Nat→Nat)(e:Int):mN ⟨LZ X Y 10,e⟩=.ok (EE X Y 10):=by kernel_rfl
theorem RE(X Y:Nat→Nat)(e:Int):mN ⟨LZ X Y 11,e⟩=.ok (EE X Y 11):=by kernel_rfl
theorem RF(X Y:Nat→Nat)(e:Int):mN ⟨LZ X Y 12,e⟩=.ok (EE X Y 12):=by kernel_rfl
theorem SE(X Y:Nat→Nat)(e:Int){d:Nat}(hd:d≤12):mN ⟨LZ X Y d,e⟩=.ok (EE X Y d):=by
 match d,hd with
 |0,_=>exact RR X Y e
 |1,_=>exact RS X Y e
 |2,_=>exact RT X Y e
 |3,_=>exact RU X Y e
 |4,_=>exact RV X Y e
 |5,_=>exact RW X Y e
 |6,_=>exact RX X Y e
 |7,_=>exact RY X Y e
 |8,_=>exact RZ X Y e
 |9,_=>exact SA X Y e
 |10,_=>exact RD X Y e
 |11,_=>exact RE X Y e
 |12,_=>exact RF X Y e
 |d+13,h=>omega
end
section
open Go Go.RowKit
def LO(d:Nat):Tr:=EE (fun _=>0) (fun _=>0) d
def erT(d:Nd):Nd:={ d with text:=[] }
theorem NH{t t':Tr}(h:t'.nodes.map erT=t.nodes.map erT)(hi:t'.items=t.items):SameForm t t':=by
 have hl:t'.nodes.length=t.nodes.length:=by
  have:=congrArg List.length h;simpa using this
 have key:∀i:Int,erT (t'.nd i)=erT (t.nd i):=by
  intro i;unfold Tr.nd;have h0:erT nd0=nd0:=rfl;by_cases hlt:i.toNat<t.nodes.length
  ·have e:=congrArg (fun l=>l[i.toNat]?) h
   simp only[List.getElem?_map]at e;rw[List.getElem?_eq_getElem hlt,List.getElem?_eq_getElem (by omega)]at e;rw[List.getD_eq_getElem?_getD,List.getD_eq_getElem?_getD,List.getElem?_eq_getElem hlt,List.getElem?_eq_getElem (by omega),Option.getD_some,Option.getD_some];simpa using e
  ·rw[List.getD_eq_getElem?_getD,List.getD_eq_getElem?_getD,List.getElem?_eq_none (by omega),List.getElem?_eq_none (by omega)]
 exact⟨hl,hi,fun i=>by have h:=congrArg Nd.kind (key i);exact h,fun i=>by have h:=congrArg Nd.n (key i);exact h,fun i=>by have h:=congrArg Nd.kids (key i);exact h,fun i=>by have h:=congrArg Nd.pos (key i);exact h⟩
theorem OP(X Y:Nat→Nat)(d:Nat):SameForm (LO d) (EE X Y d):=by
 refine NH ?_ rfl;unfold LO EE MX MV letN;simp[List.map_append,List.map_map,erT,Function.comp_def]
theorem OQ(X Y:Nat→Nat)(d:Nat):(EE X Y d).nodes.length=12+2*d:=by
 unfold EE MX MV;simp;omega
theorem MR{l r:List Nd}{i j:Nat}(h:i=l.length+j):(l++r).getD i nd0=r.getD j nd0:=by
 subst h;rw[List.getD_eq_getElem?_getD,List.getD_eq_getElem?_getD,List.getElem?_append_right (by omega),Nat.add_sub_cancel_left]
theorem LV{l r:List Nd}{i:Nat}(h:i<l.length):(l++r).getD i nd0=l.getD i nd0:=by
 rw[List.getD_eq_getElem?_getD,List.getD_eq_getElem?_getD,List.getElem?_append_left h]
theorem MZ{f:Nat→Nd}{d i:Nat}(h:i<d):((List.range d).map f).getD i nd0=f i:=by
 rw[List.getD_eq_getElem?_getD,List.getElem?_map,List.getElem?_range h];rfl
theorem NA(X Y:Nat→Nat){d i:Nat}(h:i<d):(EE X Y d).nd (6+i:Nat)=⟨3,nmC (Y i),0,[],(41+13*i+8:Nat)⟩:=by
 unfold Tr.nd EE MX MV;rw[Int.toNat_natCast];rw[LV (by simp<;>omega),LV (by simp<;>omega),LV (by simp<;>omega),MR (j:=i) (by simp),MZ h]
theorem MY(X Y:Nat→Nat){d i:Nat}(h:i<d):(EE X Y d).nd (10+2*d-i:Nat)=letN X d i:=by
 unfold Tr.nd EE MX MV;rw[Int.toNat_natCast];rw[LV (by simp<;>omega),MR (j:=d-1-i) (by simp<;>omega),MZ (by omega)];congr 1;omega
theorem MH(X Y:Nat→Nat){d k:Nat}(h:k<5):(EE X Y d).nd (6+d+k:Nat)=[⟨3,[97],0,[],(41+13*d:Nat)⟩,⟨3,[98],0,[],(45+13*d:Nat)⟩,⟨6,[],0,[(6+d:Nat),(7+d:Nat)],(43+13*d:Nat)⟩,⟨3,[99],0,[],(49+13*d:Nat)⟩,⟨6,[],0,[(8+d:Nat),(9+d:Nat)],(47+13*d:Nat)⟩].getD k nd0:=by
 unfold Tr.nd EE MX MV;rw[Int.toNat_natCast];rw[LV (by simp<;>omega),LV (by simp<;>omega),MR (j:=k) (by simp<;>omega)]
def upC(d:Nat):Nat→List Int
 |0=>[1,3,5]
 |i+1=>(10+2*d-i:Nat)::upC d i
def envC(X:Nat→Nat)(d:Nat):Nat→Nat→Nat
 |0,y=>if y % 3=0 then 1 else if y % 3=1 then 3 else 5
 |i+1,y=>if X i % 3=y % 3 then 10+2*d-i else envC X d i y
theorem SH(x y:Nat):(nmC x==nmC y)=decide (x % 3=y % 3):=by
 rcases LQ x with⟨h1,hx⟩|⟨h1,hx⟩|⟨h1,hx⟩<;>rcases LQ y with⟨h2,hy⟩|⟨h2,hy⟩|⟨h2,hy⟩<;>rw[hx,hy,h1,h2]<;>rfl
theorem RL(X Y:Nat→Nat){d:Nat}(y:Nat):∀i,i≤d→(upC d i).find? (fun z=>((EE X Y d).nd z).text==nmC y)=some ((envC X d i y:Nat):Int)
 | 0,_=>by
   have h1:((EE X Y d).nd 1).text=[97]:=rfl;have h3:((EE X Y d).nd 3).text=[98]:=rfl;have h5:((EE X Y d).nd 5).text=[99]:=rfl;unfold upC envC;rcases LQ y with⟨h2,hy⟩|⟨h2,hy⟩|⟨h2,hy⟩<;>rw[hy,h2]<;>simp[List.find?_cons,h1,h3,h5]
 | i+1,h=>by
   have hl:=MY X Y (d:=d) (i:=i) (by omega);unfold upC envC;rw[List.find?_cons,hl];unfold letN;simp only[SH];by_cases e:X i % 3=y % 3
   ·simp[e]
   ·simp only[e,decide_false,if_false]
    exact RL X Y y i (by omega)
theorem MO(X Y:Nat→Nat){d:Nat}(y:Nat):∀i,i≤d→((EE X Y d).nd (envC X d i y:Nat)).kind=20∨((EE X Y d).nd (envC X d i y:Nat)).kind=43
 | 0,_=>by
   right;unfold envC;split
   ·rfl
   ·split<;>rfl
 | i+1,h=>by
   unfold envC;split
   ·left
    rw[MY X Y (by omega)];rfl
   ·exact MO X Y y i (by omega)
theorem OC  : aN (LO 0)=0:=by kernel_rfl
theorem OD  : aN (LO 1)=0:=by kernel_rfl
theorem OE  : aN (LO 2)=0:=by kernel_rfl
theorem OF  : aN (LO 3)=0:=by kernel_rfl
theorem OG  : aN (LO 4)=0:=by kernel_rfl
theorem OH  : aN (LO 5)=0:=by kernel_rfl
theorem OI  : aN (LO 6)=0:=by kernel_rfl
theorem OJ  : aN (LO 7)=0:=by kernel_rfl
theorem OK  : aN (LO 8)=0:=by kernel_rfl
theorem OL  : aN (LO 9)=0:=by kernel_rfl
theorem NE  : aN (LO 10)=0:=by kernel_rfl
theorem NF  : aN (LO 11)=0:=by kernel_rfl
theorem NG  : aN (LO 12)=0:=by kernel_rfl
theorem RO  {d:Nat}(hd:d≤12):aN (LO d)=0:=by
 match d,hd with
 |0,_=>exact OC
 |1,_=>exact OD
 |2,_=>exact OE
 |3,_=>exact OF
 |4,_=>exact OG
 |5,_=>exact OH
 |6,_=>exact OI
 |7,_=>exact OJ
 |8,_=>exact OK
 |9,_=>exact OL
 |10,_=>exact NE
 |11,_=>exact NF
 |12,_=>exact NG
 |d+13,h=>omega
theorem QQ(X Y:Nat→Nat):decide (30<aI (EE X Y 0))=false:=by kernel_rfl
theorem QR(X Y:Nat→Nat):decide (30<aI (EE X Y 1))=false:=by kernel_rfl
theorem QS(X Y:Nat→Nat):decide (30<aI (EE X Y 2))=false:=by kernel_rfl
theorem QT(X Y:Nat→Nat):decide (30<aI (EE X Y 3))=false:=by kernel_rfl
theorem QU(X Y:Nat→Nat):decide (30<aI (EE X Y 4))=false:=by kernel_rfl
theorem QV(X Y:Nat→Nat):decide (30<aI (EE X Y 5))=false:=by kernel_rfl
theorem QW(X Y:Nat→Nat):decide (30<aI (EE X Y 6))=false:=by kernel_rfl
theorem QX(X Y:Nat→Nat):decide (30<aI (EE X Y 7))=false:=by kernel_rfl
theorem QY(X Y:Nat→Nat):decide (30<aI (EE X Y 8))=false:=by kernel_rfl
theorem QZ(X Y:Nat→Nat):decide (30<aI (EE X Y 9))=false:=by kernel_rfl
theorem OM(X Y:Nat→Nat):decide (30<aI (EE X Y 10))=false:=by kernel_rfl
theorem ON(X Y:Nat→Nat):decide (30<aI (EE X Y 11))=false:=by kernel_rfl
theorem OO(X Y:Nat→Nat):decide (30<aI (EE X Y 12))=false:=by kernel_rfl
theorem SG(X Y:Nat→Nat){d:Nat}(hd:d≤12):decide (30<aI (EE X Y d))=false:=by
 match d,hd with
 |0,_=>exact QQ X Y
 |1,_=>exact QR X Y
 |2,_=>exact QS X Y
 |3,_=>exact QT X Y
 |4,_=>exact QU X Y
 |5,_=>exact QV X Y
 |6,_=>exact QW X Y
 |7,_=>exact QX X Y
 |8,_=>exact QY X Y
 |9,_=>exact QZ X Y
 |10,_=>exact OM X Y
 |11,_=>exact ON X Y
 |12,_=>exact OO X Y
 |d+13,h=>omega
theorem PU(X Y:Nat→Nat):decide (0≤aB (EE X Y 0))=false:=by kernel_rfl
theorem PV(X Y:Nat→Nat):decide (0≤aB (EE X Y 1))=false:=by kernel_rfl
theorem PW(X Y:Nat→Nat):decide (0≤aB (EE X Y 2))=false:=by kernel_rfl
theorem PX(X Y:Nat→Nat):decide (0≤aB (EE X Y 3))=false:=by kernel_rfl
theorem PY(X Y:Nat→Nat):decide (0≤aB (EE X Y 4))=false:=by kernel_rfl
theorem PZ(X Y:Nat→Nat):decide (0≤aB (EE X Y 5))=false:=by kernel_rfl
theorem QA(X Y:Nat→Nat):decide (0≤aB (EE X Y 6))=false:=by kernel_rfl
theorem QB(X Y:Nat→Nat):decide (0≤aB (EE X Y 7))=false:=by kernel_rfl
theorem QC(X Y:Nat→Nat):decide (0≤aB (EE X Y 8))=false:=by kernel_rfl
theorem QD(X Y:Nat→Nat):decide (0≤aB (EE X Y 9))=false:=by kernel_rfl
theorem NV(X Y:Nat→Nat):decide (0≤aB (EE X Y 10))=false:=by kernel_rfl
theorem NW(X Y:Nat→Nat):decide (0≤aB (EE X Y 11))=false:=by kernel_rfl
theorem NX(X Y:Nat→Nat):decide (0≤aB (EE X Y 12))=false:=by kernel_rfl
theorem SD(X Y:Nat→Nat){d:Nat}(hd:d≤12):decide (0≤aB (EE X Y d))=false:=by
 match d,hd with
 |0,_=>exact PU X Y
 |1,_=>exact PV X Y
 |2,_=>exact PW X Y
 |3,_=>exact PX X Y
 |4,_=>exact PY X Y
 |5,_=>exact PZ X Y
 |6,_=>exact QA X Y
 |7,_=>exact QB X Y
 |8,_=>exact QC X Y
 |9,_=>exact QD X Y
 |10,_=>exact NV X Y
 |11,_=>exact NW X Y
 |12,_=>exact NX X Y
 |d+13,h=>omega
theorem PG  : ((List.range 0).all (fun i=>sight (LO 0) (6+i:Nat)==upC 0 i)&&((sight (LO 0) (6+0:Nat)==upC 0 0)&&((sight (LO 0) (7+0:Nat)==upC 0 0)&&(sight (LO 0) (9+0:Nat)==upC 0 0))))=true:=by kernel_rfl
theorem PH  : ((List.range 1).all (fun i=>sight (LO 1) (6+i:Nat)==upC 1 i)&&((sight (LO 1) (6+1:Nat)==upC 1 1)&&((sight (LO 1) (7+1:Nat)==upC 1 1)&&(sight (LO 1) (9+1:Nat)==upC 1 1))))=true:=by kernel_rfl
theorem PI  : ((List.range 2).all (fun i=>sight (LO 2) (6+i:Nat)==upC 2 i)&&((sight (LO 2) (6+2:Nat)==upC 2 2)&&((sight (LO 2) (7+2:Nat)==upC 2 2)&&(sight (LO 2) (9+2:Nat)==upC 2 2))))=true:=by kernel_rfl
theorem PJ  : ((List.range 3).all (fun i=>sight (LO 3) (6+i:Nat)==upC 3 i)&&((sight (LO 3) (6+3:Nat)==upC 3 3)&&((sight (LO 3) (7+3:Nat)==upC 3 3)&&(sight (LO 3) (9+3:Nat)==upC 3 3))))=true:=by kernel_rfl
theorem PL  : ((List.range 4).all (fun i=>sight (LO 4) (6+i:Nat)==upC 4 i)&&((sight (LO 4) (6+4:Nat)==upC 4 4)&&((sight (LO 4) (7+4:Nat)==upC 4 4)&&(sight (LO 4) (9+4:Nat)==upC 4 4))))=true:=by kernel_rfl
theorem PM  : ((List.range 5).all (fun i=>sight (LO 5) (6+i:Nat)==upC 5 i)&&((sight (LO 5) (6+5:Nat)==upC 5 5)&&((sight (LO 5) (7+5:Nat)==upC 5 5)&&(sight (LO 5) (9+5:Nat)==upC 5 5))))=true:=by kernel_rfl
theorem PN  : ((List.range 6).all (fun i=>sight (LO 6) (6+i:Nat)==upC 6 i)&&((sight (LO 6) (6+6:Nat)==upC 6 6)&&((sight (LO 6) (7+6:Nat)==upC 6 6)&&(sight (LO 6) (9+6:Nat)==upC 6 6))))=true:=by kernel_rfl
theorem PO  : ((List.range 7).all (fun i=>sight (LO 7) (6+i:Nat)==upC 7 i)&&((sight (LO 7) (6+7:Nat)==upC 7 7)&&((sight (LO 7) (7+7:Nat)==upC 7 7)&&(sight (LO 7) (9+7:Nat)==upC 7 7))))=true:=by kernel_rfl
theorem PP  : ((List.range 8).all (fun i=>sight (LO 8) (6+i:Nat)==upC 8 i)&&((sight (LO 8) (6+8:Nat)==upC 8 8)&&((sight (LO 8) (7+8:Nat)==upC 8 8)&&(sight (LO 8) (9+8:Nat)==upC 8 8))))=true:=by kernel_rfl
theorem PT  : ((List.range 9).all (fun i=>sight (LO 9) (6+i:Nat)==upC 9 i)&&((sight (LO 9) (6+9:Nat)==upC 9 9)&&((sight (LO 9) (7+9:Nat)==upC 9 9)&&(sight (LO 9) (9+9:Nat)==upC 9 9))))=true:=by kernel_rfl
theorem NQ  : ((List.range 10).all (fun i=>sight (LO 10) (6+i:Nat)==upC 10 i)&&((sight (LO 10) (6+10:Nat)==upC 10 10)&&((sight (LO 10) (7+10:Nat)==upC 10 10)&&(sight (LO 10) (9+10:Nat)==upC 10 10))))=true:=by kernel_rfl
theorem NR  : ((List.range 11).all (fun i=>sight (LO 11) (6+i:Nat)==upC 11 i)&&((sight (LO 11) (6+11:Nat)==upC 11 11)&&((sight (LO 11) (7+11:Nat)==upC 11 11)&&(sight (LO 11) (9+11:Nat)==upC 11 11))))=true:=by kernel_rfl
theorem NU  : ((List.range 12).all (fun i=>sight (LO 12) (6+i:Nat)==upC 12 i)&&((sight (LO 12) (6+12:Nat)==upC 12 12)&&((sight (LO 12) (7+12:Nat)==upC 12 12)&&(sight (LO 12) (9+12:Nat)==upC 12 12))))=true:=by kernel_rfl
theorem SC  {d:Nat}(hd:d≤12):((List.range d).all (fun i=>sight (LO d) (6+i:Nat)==upC d i)&&((sight (LO d) (6+d:Nat)==upC d d)&&((sight (LO d) (7+d:Nat)==upC d d)&&(sight (LO d) (9+d:Nat)==upC d d))))=true:=by
 match d,hd with
 |0,_=>exact PG
 |1,_=>exact PH
 |2,_=>exact PI
 |3,_=>exact PJ
 |4,_=>exact PL
 |5,_=>exact PM
 |6,_=>exact PN
 |7,_=>exact PO
 |8,_=>exact PP
 |9,_=>exact PT
 |10,_=>exact NQ
 |11,_=>exact NR
 |12,_=>exact NU
 |d+13,h=>omega
theorem QE(X Y:Nat→Nat):((List.range (12+2*0)).all fun n=>!(bO (EE X Y 0) (n:Int)&&zi (EE X Y 0) (n:Int)&&bL (EE X Y 0) (n:Int))&&((EE X Y 0).nd (n:Int)).kind != 34)=true:=by kernel_rfl
theorem QF(X Y:Nat→Nat):((List.range (12+2*1)).all fun n=>!(bO (EE X Y 1) (n:Int)&&zi (EE X Y 1) (n:Int)&&bL (EE X Y 1) (n:Int))&&((EE X Y 1).nd (n:Int)).kind != 34)=true:=by kernel_rfl
theorem QG(X Y:Nat→Nat):((List.range (12+2*2)).all fun n=>!(bO (EE X Y 2) (n:Int)&&zi (EE X Y 2) (n:Int)&&bL (EE X Y 2) (n:Int))&&((EE X Y 2).nd (n:Int)).kind != 34)=true:=by kernel_rfl
theorem QH(X Y:Nat→Nat):((List.range (12+2*3)).all fun n=>!(bO (EE X Y 3) (n:Int)&&zi (EE X Y 3) (n:Int)&&bL (EE X Y 3) (n:Int))&&((EE X Y 3).nd (n:Int)).kind != 34)=true:=by kernel_rfl
theorem QI(X Y:Nat→Nat):((List.range (12+2*4)).all fun n=>!(bO (EE X Y 4) (n:Int)&&zi (EE X Y 4) (n:Int)&&bL (EE X Y 4) (n:Int))&&((EE X Y 4).nd (n:Int)).kind != 34)=true:=by kernel_rfl
theorem QJ(X Y:Nat→Nat):((List.range (12+2*5)).all fun n=>!(bO (EE X Y 5) (n:Int)&&zi (EE X Y 5) (n:Int)&&bL (EE X Y 5) (n:Int))&&((EE X Y 5).nd (n:Int)).kind != 34)=true:=by kernel_rfl
theorem QK(X Y:Nat→Nat):((List.range (12+2*6)).all fun n=>!(bO (EE X Y 6) (n:Int)&&zi (EE X Y 6) (n:Int)&&bL (EE X Y 6) (n:Int))&&((EE X Y 6).nd (n:Int)).kind != 34)=true:=by kernel_rfl
theorem QL(X Y:Nat→Nat):((List.range (12+2*7)).all fun n=>!(bO (EE X Y 7) (n:Int)&&zi (EE X Y 7) (n:Int)&&bL (EE X Y 7) (n:Int))&&((EE X Y 7).nd (n:Int)).kind != 34)=true:=by kernel_rfl
theorem QM(X Y:Nat→Nat):((List.range (12+2*8)).all fun n=>!(bO (EE X Y 8) (n:Int)&&zi (EE X Y 8) (n:Int)&&bL (EE X Y 8) (n:Int))&&((EE X Y 8).nd (n:Int)).kind != 34)=true:=by kernel_rfl
theorem QN(X Y:Nat→Nat):((List.range (12+2*9)).all fun n=>!(bO (EE X Y 9) (n:Int)&&zi (EE X Y 9) (n:Int)&&bL (EE X Y 9) (n:Int))&&((EE X Y 9).nd (n:Int)).kind != 34)=true:=by kernel_rfl
theorem NY(X Y:Nat→Nat):((List.range (12+2*10)).all fun n=>!(bO (EE X Y 10) (n:Int)&&zi (EE X Y 10) (n:Int)&&bL (EE X Y 10) (n:Int))&&((EE X Y 10).nd (n:Int)).kind != 34)=true:=by kernel_rfl
theorem NZ(X Y:Nat→Nat):((List.range (12+2*11)).all fun n=>!(bO (EE X Y 11) (n:Int)&&zi (EE X Y 11) (n:Int)&&bL (EE X Y 11) (n:Int))&&((EE X Y 11).nd (n:Int)).kind != 34)=true:=by kernel_rfl
theorem OA(X Y:Nat→Nat):((List.range (12+2*12)).all fun n=>!(bO (EE X Y 12) (n:Int)&&zi (EE X Y 12) (n:Int)&&bL (EE X Y 12) (n:Int))&&((EE X Y 12).nd (n:Int)).kind != 34)=true:=by kernel_rfl
theorem SF(X Y:Nat→Nat){d:Nat}(hd:d≤12):((List.range (12+2*d)).all fun n=>!(bO (EE X Y d) (n:Int)&&zi (EE X Y d) (n:Int)&&bL (EE X Y d) (n:Int))&&((EE X Y d).nd (n:Int)).kind != 34)=true:=by
 match d,hd with
 |0,_=>exact QE X Y
 |1,_=>exact QF X Y
 |2,_=>exact QG X Y
 |3,_=>exact QH X Y
 |4,_=>exact QI X Y
 |5,_=>exact QJ X Y
 |6,_=>exact QK X Y
 |7,_=>exact QL X Y
 |8,_=>exact QM X Y
 |9,_=>exact QN X Y
 |10,_=>exact NY X Y
 |11,_=>exact NZ X Y
 |12,_=>exact OA X Y
 |d+13,h=>omega
theorem OR  : ((List.range (12+2*0)).all fun n=>!bU ((LO 0).nd (n:Int)).kind||(((LO 0).nd (n:Int)).kind==3&&(decide (6≤n)&&(decide (n<8+0)||n==9+0))))=true:=by kernel_rfl
theorem OS  : ((List.range (12+2*1)).all fun n=>!bU ((LO 1).nd (n:Int)).kind||(((LO 1).nd (n:Int)).kind==3&&(decide (6≤n)&&(decide (n<8+1)||n==9+1))))=true:=by kernel_rfl
theorem OT  : ((List.range (12+2*2)).all fun n=>!bU ((LO 2).nd (n:Int)).kind||(((LO 2).nd (n:Int)).kind==3&&(decide (6≤n)&&(decide (n<8+2)||n==9+2))))=true:=by kernel_rfl
theorem OU  : ((List.range (12+2*3)).all fun n=>!bU ((LO 3).nd (n:Int)).kind||(((LO 3).nd (n:Int)).kind==3&&(decide (6≤n)&&(decide (n<8+3)||n==9+3))))=true:=by kernel_rfl
theorem OV  : ((List.range (12+2*4)).all fun n=>!bU ((LO 4).nd (n:Int)).kind||(((LO 4).nd (n:Int)).kind==3&&(decide (6≤n)&&(decide (n<8+4)||n==9+4))))=true:=by kernel_rfl
theorem OW  : ((List.range (12+2*5)).all fun n=>!bU ((LO 5).nd (n:Int)).kind||(((LO 5).nd (n:Int)).kind==3&&(decide (6≤n)&&(decide (n<8+5)||n==9+5))))=true:=by kernel_rfl
theorem OX  : ((List.range (12+2*6)).all fun n=>!bU ((LO 6).nd (n:Int)).kind||(((LO 6).nd (n:Int)).kind==3&&(decide (6≤n)&&(decide (n<8+6)||n==9+6))))=true:=by kernel_rfl
theorem OY  : ((List.range (12+2*7)).all fun n=>!bU ((LO 7).nd (n:Int)).kind||(((LO 7).nd (n:Int)).kind==3&&(decide (6≤n)&&(decide (n<8+7)||n==9+7))))=true:=by kernel_rfl
theorem OZ  : ((List.range (12+2*8)).all fun n=>!bU ((LO 8).nd (n:Int)).kind||(((LO 8).nd (n:Int)).kind==3&&(decide (6≤n)&&(decide (n<8+8)||n==9+8))))=true:=by kernel_rfl
theorem PA  : ((List.range (12+2*9)).all fun n=>!bU ((LO 9).nd (n:Int)).kind||(((LO 9).nd (n:Int)).kind==3&&(decide (6≤n)&&(decide (n<8+9)||n==9+9))))=true:=by kernel_rfl
theorem NJ  : ((List.range (12+2*10)).all fun n=>!bU ((LO 10).nd (n:Int)).kind||(((LO 10).nd (n:Int)).kind==3&&(decide (6≤n)&&(decide (n<8+10)||n==9+10))))=true:=by kernel_rfl
theorem NK  : ((List.range (12+2*11)).all fun n=>!bU ((LO 11).nd (n:Int)).kind||(((LO 11).nd (n:Int)).kind==3&&(decide (6≤n)&&(decide (n<8+11)||n==9+11))))=true:=by kernel_rfl
theorem NM  : ((List.range (12+2*12)).all fun n=>!bU ((LO 12).nd (n:Int)).kind||(((LO 12).nd (n:Int)).kind==3&&(decide (6≤n)&&(decide (n<8+12)||n==9+12))))=true:=by kernel_rfl
theorem RQ  {d:Nat}(hd:d≤12):((List.range (12+2*d)).all fun n=>!bU ((LO d).nd (n:Int)).kind||(((LO d).nd (n:Int)).kind==3&&(decide (6≤n)&&(decide (n<8+d)||n==9+d))))=true:=by
 match d,hd with
 |0,_=>exact OR
 |1,_=>exact OS
 |2,_=>exact OT
 |3,_=>exact OU
 |4,_=>exact OV
 |5,_=>exact OW
 |6,_=>exact OX
 |7,_=>exact OY
 |8,_=>exact OZ
 |9,_=>exact PA
 |10,_=>exact NJ
 |11,_=>exact NK
 |12,_=>exact NM
 |d+13,h=>omega
theorem MF(X Y:Nat→Nat){d i y n:Nat}(hi:i≤d)(hs:sight (EE X Y d) n=upC d i)(hk:((EE X Y d).nd n).kind=3)(ht:((EE X Y d).nd n).text=nmC y):means (EE X Y d) n=(envC X d i y:Nat):=by
 have hn:nearest (EE X Y d) n ((EE X Y d).nd n).text=(envC X d i y:Nat):=by
  unfold nearest;rw[hs,ht,RL X Y y i hi];rfl
 have hsu:suits 3 ((EE X Y d).nd (envC X d i y:Nat)).kind=true:=by
  rcases MO X Y (d:=d) y i hi with h|h<;>rw[h]<;>rfl
 unfold means;rw[hk,hn,if_pos (by rfl),hsu,if_neg (by simp)]
theorem SI(X Y:Nat→Nat)(d:Nat):(EE X Y d).nd (6+d:Nat)=⟨3,[97],0,[],(41+13*d:Nat)⟩∧(EE X Y d).nd (7+d:Nat)=⟨3,[98],0,[],(45+13*d:Nat)⟩∧(EE X Y d).nd (9+d:Nat)=⟨3,[99],0,[],(49+13*d:Nat)⟩:=by
 have h0:=MH X Y (d:=d) (k:=0) (by omega);have h1:=MH X Y (d:=d) (k:=1) (by omega);have h3:=MH X Y (d:=d) (k:=3) (by omega);exact⟨h0,by rw[show 7+d=6+d+1 by omega];exact h1,by rw[show 9+d=6+d+3 by omega];exact h3⟩
section
variable (X Y : Nat → Nat) {d : Nat} (hd : d ≤ 12)
include hd
theorem NC:(∀i,i<d→sight (EE X Y d) (6+i:Nat)=upC d i)∧sight (EE X Y d) (6+d:Nat)=upC d d∧sight (EE X Y d) (7+d:Nat)=upC d d∧sight (EE X Y d) (9+d:Nat)=upC d d:=by
 have h:=SC hd;simp only[Bool.and_eq_true,List.all_eq_true,List.mem_range,beq_iff_eq]at h;have F:=OP X Y d;exact⟨fun i hi=>by rw[F.sg];exact h.1 i hi,by rw[F.sg];exact h.2.1,by rw[F.sg];exact h.2.2.1,by rw[F.sg];exact h.2.2.2⟩
theorem MQ{i:Nat}(hi:i<d):means (EE X Y d) (6+i:Nat)=(envC X d i (Y i):Nat):=
 MF X Y (by omega) ((NC X Y hd).1 i hi) (by rw[NA X Y hi]) (by rw[NA X Y hi])
theorem MA:means (EE X Y d) (6+d:Nat)=(envC X d d 0:Nat)∧means (EE X Y d) (7+d:Nat)=(envC X d d 1:Nat)∧means (EE X Y d) (9+d:Nat)=(envC X d d 2:Nat):=by
 obtain⟨h1,h2,h3⟩:=SI X Y d;obtain⟨_,s1,s2,s3⟩:=NC X Y hd;exact⟨MF X Y nlr s1 (by rw[h1]) (by rw[h1];rfl),MF X Y nlr s2 (by rw[h2]) (by rw[h2];rfl),MF X Y nlr s3 (by rw[h3]) (by rw[h3];rfl)⟩
theorem RP(n:Nat)(hn:n<12+2*d)(hk:bU ((EE X Y d).nd n).kind=true):((EE X Y d).nd n).kind=3∧∃e:Nat,means (EE X Y d) n=(e:Nat):=by
 have h:=List.all_eq_true.1 (RQ hd) n (List.mem_range.2 hn);have F:=OP X Y d;rw[←F.kind,hk]at h;simp only[Bool.not_true,Bool.false_or,Bool.and_eq_true,Bool.or_eq_true,beq_iff_eq,decide_eq_true_eq]at h;obtain⟨h1,h2,h3⟩:=h;refine⟨h1,?_⟩;obtain⟨m1,m2,m3⟩:=MA X Y hd;by_cases e1:n<6+d
 ·obtain⟨i,rfl⟩:∃i,n=6+i:=⟨n-6,by omega⟩
  exact⟨_,MQ X Y hd (by omega)⟩
 ·by_cases e2:n=6+d
  ·subst e2;exact⟨_,m1⟩
  ·by_cases e3:n=7+d
   ·subst e3;exact⟨_,m2⟩
   ·obtain rfl:n=9+d:=by omega
    exact⟨_,m3⟩
theorem SN(n:Nat)(hn:n<12+2*d):bT (EE X Y d) n=0:=by
 have h:=List.all_eq_true.1 (SF X Y hd) n (List.mem_range.2 hn);rw[Bool.and_eq_true,Bool.not_eq_true']at h;unfold bT;rw[if_neg (by rw[h.1];exact Bool.false_ne_true),if_neg (by have h2:=h.2;rw[bne_iff_ne]at h2;simp[h2])]
 cases hk:bU ((EE X Y d).nd n).kind with
 |false=>simp
 | true=>
   obtain⟨h3,e,he⟩:=RP X Y hd n hn hk;rw[he,h3];simp<;>omega
theorem SL(i:Nat)(hi:i<12+2*d):((EE X Y d).nd i).text=((LO d).nd i).text∨cT ((LO d).nd i).kind=true∧zT ((EE X Y d).nd i).text=true:=by
 have hnm:∀x,zT (nmC x)=true:=fun x=>by rcases LQ x with⟨_,h⟩|⟨_,h⟩|⟨_,h⟩<;>rw[h]<;>rfl
 by_cases h1:i<6
 ·left
  unfold LO EE Tr.nd;rw[Int.toNat_natCast];simp only[List.append_assoc];rw[LV (by simpa using h1),LV (by simpa using h1)]
 ·by_cases h2:i<6+d
  ·right
   obtain⟨k,rfl⟩:∃k,i=6+k:=⟨i-6,by omega⟩
   unfold LO;rw[NA X Y (by omega),NA _ _ (by omega)];exact⟨rfl,hnm _⟩
  ·by_cases h3:i<11+d
   ·left
    obtain⟨k,hk,rfl⟩:∃k,k<5∧i=6+d+k:=⟨i-6-d,by omega,by omega⟩
    unfold LO;rw[MH X Y hk,MH _ _ hk]
   ·by_cases h4:i<11+2*d
    ·right
     obtain⟨k,hk,rfl⟩:∃k,k<d∧i=10+2*d-k:=⟨10+2*d-i,by omega,by omega⟩
     unfold LO;rw[MY X Y hk,MY _ _ hk];exact⟨rfl,hnm _⟩
    ·left
     unfold LO EE Tr.nd MX MV;rw[Int.toNat_natCast];rw[MR (j:=0) (by simp<;>omega),MR (j:=0) (by simp<;>omega)]
theorem RN:aN (EE X Y d)=0:=by
 refine(OP X Y d).check (RO hd) fun i hi=>?_;unfold LO at hi;rw[OQ]at hi;exact SL X Y hd i hi
theorem PF:zc (EE X Y d)=(ze (EE X Y d) (12+2*d),0,0):=by
 have:=cX (RN X Y hd) (fun n hn=>SN X Y hd n (by rw[OQ]at hn;exact hn));rwa[OQ]at this
theorem RC:cL (LY X Y d)=.ok (EE X Y d):=by
 unfold cL tF;rw[SB X Y hd];simp only;rw[SE X Y _ hd];simp only;rw[if_neg (by rw[OQ];unfold EE;simp;omega),if_neg (by have:=SG X Y hd;simpa using this),if_neg (by have:=SD X Y hd;simpa using this)]
end
end
end Go.Proofs.YtipjhljnkocioaaGreatDoor
