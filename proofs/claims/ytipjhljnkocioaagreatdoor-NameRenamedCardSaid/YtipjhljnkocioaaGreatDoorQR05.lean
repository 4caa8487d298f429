/- Part of a proof. -/
import Derived.Test.YtipjhljnkocioaaGreatDoorP37
import Derived.Test.YtipjhljnkocioaaGreatDoorQR02
import Derived.Test.YtipjhljnkocioaaGreatDoorQR04
set_option maxRecDepth 100000
set_option maxHeartbeats 8000000
set_option linter.unusedVariables false
set_option linter.unusedSimpArgs false
namespace Go.Proofs.YtipjhljnkocioaaGreatDoor
section
open Go Go.RowKit
structure SameForm (t t':Tr):Prop where
 len:t'.nodes.length=t.nodes.length
 items:t'.items=t.items
 kind:∀i:Int,(t'.nd i).kind=(t.nd i).kind
 n:∀i:Int,(t'.nd i).n=(t.nd i).n
 kids:∀i:Int,(t'.nd i).kids=(t.nd i).kids
 pos:∀i:Int,(t'.nd i).pos=(t.nd i).pos
section
variable {t t' : Tr} (F : SameForm t t')
include F
theorem SameForm.isKid(n:Int):dQ t'.nodes n=dQ t.nodes n:=by
 funext i;unfold dQ;by_cases hi:i<t.nodes.length
 ·have h:=F.kids i
  have hi':i<t'.nodes.length:=by rw[F.len];exact hi
  rw[t'.nd_at hi',t.nd_at hi]at h;rw[List.getElem?_eq_getElem hi',List.getElem?_eq_getElem hi,Option.map_some,Option.map_some,h]
 ·rw[List.getElem?_eq_none (by rw[F.len];omega),List.getElem?_eq_none (by omega)]
theorem SameForm.par(n:Int):parent t' n=parent t n:=by unfold parent;rw[F.isKid,F.len]
theorem SameForm.isD(i:Int):zi t' i=zi t i:=by unfold zi;rw[F.kind,F.par,F.kind]
theorem SameForm.insF(o:Int):∀(f:Nat) (n:Int),bZ t' o f n=bZ t o f n
 |0,n=>rfl
 |f+1,n=>by rw[bZ,bZ,F.par,SameForm.insF o f]
theorem SameForm.ins(n o:Int):inside t' n o=inside t n o:=by unfold inside;rw[F.len,F.insF]
theorem SameForm.sAt(n last:Int):zy (t'.nd n) last n=zy (t.nd n) last n:=by unfold zy;rw[F.kind,F.kids]
theorem SameForm.upS:∀(f:Nat) (last n:Int) (acc:List Int),upF t' (fun last n acc=>acc++zy (t'.nd n) last n) f last n acc=upF t (fun last n acc=>acc++zy (t.nd n) last n) f last n acc
 |0,last,n,acc=>rfl
 |f+1,last,n,acc=>by rw[upF,upF,F.par,F.sAt,SameForm.upS f]
theorem SameForm.sUp(i:Int):aZ t' i=aZ t i:=by unfold aZ upw;rw[F.par,F.len,F.upS]
theorem SameForm.sg(i:Int):sight t' i=sight t i:=by unfold sight;rw[F.sUp,F.items];simp only[F.isD]
theorem SameForm.sizesTo':∀m,zE t' m=zE t m
 |0=>rfl
 |m+1=>by rw[zE,zE,SameForm.sizesTo' m,F.kids]
theorem SameForm.sizes:bV t'=bV t:=by unfold bV;rw[F.len,F.sizesTo']
theorem SameForm.depTo':∀m,eM t' m=eM t m
 |0=>by rw[eM,eM,F.len]
 |m+1=>by rw[eM,eM,SameForm.depTo' m,F.len];unfold iK;rw[F.kids]
theorem SameForm.deep:aI t'=aI t:=by unfold aI dX;rw[F.len,F.depTo']
theorem SameForm.sized(i:Nat):fR t' i=fR t i:=by simp only[fR,F.kind,F.kids,F.n]
theorem SameForm.kidsO(i:Int):iE t' (t'.nd i)=iE t (t.nd i):=by simp only[iE,kZ,F.kind,F.kids,F.n]
theorem SameForm.eatI'(S:List Int):∀(l:List Int) (p:Int),eatI t' S l p=eatI t S l p
 | [],p=>rfl
 |k::r,p=>by rw[eatI,eatI,F.kind,SameForm.eatI' S r]
theorem SameForm.right{i:Nat}(h:bR t i=true)(ht:(t'.nd i).text=(t.nd i).text∨cT (t.nd i).kind=true∧zT (t'.nd i).text=true):bR t' i=true:=by
 unfold bR at h⊢;rw[F.kind,F.n,F.kids,F.pos,F.kidsO];rcases ht with e|⟨e1,e2⟩
 ·rw[e];exact h
 ·rw[e1,e2]
  rw[e1]at h;simp only[Bool.and_eq_true]at h⊢;obtain⟨⟨⟨⟨⟨⟨⟨h1,_⟩,_⟩,h2⟩,h3⟩,h4⟩,h5⟩,h6⟩:=h;exact⟨⟨⟨⟨⟨⟨⟨h1,by rfl⟩,by rfl⟩,h2⟩,h3⟩,h4⟩,h5⟩,h6⟩
theorem SameForm.check(h:aN t=0)(ht:∀i:Nat,i<t.nodes.length→(t'.nd i).text=(t.nd i).text∨cT (t.nd i).kind=true∧zT (t'.nd i).text=true):aN t'=0:=by
 have hf:dU t=true:=aP h
 have hf':dU t'=true:=by
  have h2:=hf;simp only[dU,Bool.and_eq_true,beq_iff_eq]at h2⊢;rw[F.sizes,F.len,F.items,F.eatI'];refine⟨h2.1,List.all_eq_true.2 fun i hi=>?_,h2.2.2⟩;rw[F.len,List.mem_range]at hi;exact F.right (List.all_eq_true.1 h2.2.1 i (List.mem_range.2 hi)) (ht i hi)
 have hs:eQ t'=eQ t:=by
  unfold eQ;rw[F.len];simp only[F.sized]
 unfold aN at h⊢;rw[F.len,F.items,hf',F.deep,hs];rw[hf]at h;exact h
theorem SameForm.bd(h:Bd t)(ht:∀i:Nat,i<t.nodes.length→(t'.nd i).text.length≤1000000000):Bd t':=by
 refine⟨by rw[F.len];exact h.n,by rw[F.items];exact h.i,fun d hd=>?_,fun d hd=>?_⟩
 ·obtain⟨i,hi,rfl⟩:=List.getElem_of_mem hd
  have hi2:i<t.nodes.length:=by rw[←F.len];exact hi
  have e:=F.kids i;rw[t'.nd_at hi,t.nd_at hi2]at e;rw[e];exact h.k _ (List.getElem_mem hi2)
 ·obtain⟨i,hi,rfl⟩:=List.getElem_of_mem hd
  have:=ht i (by rw[←F.len];exact hi);rwa[t'.nd_at hi]at this
theorem SameForm.itemOf'(n:Int):zV t' n=zV t n:=by
 unfold zV;rw[F.items];simp only[F.ins]
end
end
end Go.Proofs.YtipjhljnkocioaaGreatDoor
