/- Part of a proof. -/
import Derived.Test.YtcdkdiedphhdhaaGreatDoorK01
import Derived.Test.YtcdkdiedphhdhaaGreatDoorK11
import Derived.Test.YtcdkdiedphhdhaaGreatDoorK13
import Derived.Laws.CopyOwn
import Derived.Deep.WholeRow
set_option maxRecDepth 100000
set_option maxHeartbeats 8000000
set_option linter.unusedVariables false
set_option linter.unusedSimpArgs false
open Go.Proofs.Tryz
namespace Go.Proofs.YtcdkdiedphhdhaaGreatDoor
section
open Go Go.RowKit
theorem tV:(prog.info? 3).map (·.size)=some 1:=by kernel_rfl
def repI(n:Nat)(x:Int)(k:Nat):List Int:=List.replicate k x++List.replicate (n-k) 0
theorem qV{n:Nat}{x:Int}{k c:Nat}(h:k+c<=n):splice (zq (repI n x k)) k (zq (List.replicate c x))=zq (repI n x (k+c)):=by
 unfold splice repI;rw[<-List.map_take,List.length_map,List.length_replicate,<-List.map_drop,<-List.map_append,<-List.map_append];congr 1;rw[List.take_append_of_le_length (by simp),List.take_of_length_le (by simp),List.drop_append,List.drop_of_length_le (by simp),List.nil_append,List.length_replicate,List.drop_replicate,<-List.append_assoc,List.replicate_append_replicate];congr 2;omega
theorem JW(n:Nat)(x:Int):(zq (repI n x 0)).toArray=eY n:=by
 simp[repI,eY,zq]
theorem NM(n:Nat)(x:Int):repI n x n=List.replicate n x:=by simp[repI]
theorem pG(n:Nat)(x:Int)(b o c:Nat)(w:World)(hn:n<=1000000)(h:Ints w (some ⟨b,o,none⟩) c [x]) :
 Calls prog 79 #[.slice (some ⟨b,o,none⟩) 1 c,intV n] w (RetInts w (List.replicate n x)):=by
 have HM:∀W,Calls prog 120 #[.int .u64 1,.int .u64 n] W fun e w'=>e=.returned (.tuple #[.int .u64 0,.int .u64 n])/\W=w':=by
  intro W;have:=Tryz.bits_Mul 1 n (by omega) (by omega) W;have e1:1*n / 18446744073709551616=0:=by omega
  have e2:1*n % 18446744073709551616=n:=by omega
  rw[e1,e2]at this;exact this.mono fun e w' h=>⟨h.1,h.2.symm⟩
 have He:=Hd HM;have hr:=fun W=>sL W n (by omega);have hw:IntKind.u64.wrap (n:Int)=n:=by rw[IntKind.wrap_u64];omega
 clear HM;have HR:=Hd h
 have hy:b<w.heap.size:=by
  obtain⟨b',o',e,hh,-⟩:=Ints.at h (i:=0) (by simp);simp only[Option.some.injEq,Addr.mk.injEq,and_true]at e;omega
 clear h;by_cases h0:n=0
 .subst h0
  have ha:=run_copy_none (P:=prog) (w.alloc (.cells (eY 0) 3)) 23 23 3 3 (some ⟨w.heap.size,0,none⟩) (some ⟨b,o,none⟩) 0 0 1 c bI tV (Nat.min_zero _);have hv:(Instr.makeSlice 23 (.int .i64 0) (.int .i64 0)).run prog w=.ok (.slice (some ⟨w.heap.size,0,none⟩) 0 0) (w.alloc (.cells (eY 0) 3)):=hr w;have hB:IntKind.u64.wrap 0=0:=by decide
  have Hj:Hid (∀W,Calls prog 120 #[.int .u64 1,.int .u64 0] W fun e w'=>e=.returned (.tuple #[.int .u64 0,.int .u64 0])/\W=w'):=Hd He.o;clear hr hw;go_enter func79,ntmps79
  go_wp2_with (go_at_call 120;refine(Hj.o _).mono ?_;rintro e w' ⟨rfl,rfl⟩)
  go_loopw [8] (fun t8 wr=>t8=.int .i64 0/\wr=w.alloc (.cells (eY 0) 3)) (fun t8 _=>0)
  case atStart=>exact⟨rfl,rfl⟩
  case round=>
   obtain⟨rfl,rfl⟩:=hrel;go_wp2;go_ret;exact⟨some ⟨w.heap.size,0,none⟩,0,rfl,World.ownsRow_made w #[] 0 nlr (by decide) (by simp),(Below.refl _ w).alloc nlr _⟩
 .go_enter func79,ntmps79
  have ho:Hid ((w.alloc (.cells (eY n) 3)).heap[w.heap.size]?=some (.cells (zq (repI n x 0)).toArray 3 (0,0))):=Hd (by rw[JW];exact World.alloc_heap_new w _);have Hc:=Hd ((Below.refl w.heap.size w).alloc nlr (.cells (eY n) 3))
  have Ha:Hid (∀j v,(zq (List.replicate 1 x))[j]?=some v->(w.alloc (.cells (eY n) 3)).cell? ((⟨b,o,none⟩:Addr).add j)=some v):=Hd (by
   intro j v hj;obtain⟨b',o',e,hh,hc⟩:=HR.o.some (by simp);simp only[Option.some.injEq,Addr.mk.injEq,and_true]at e;obtain⟨rfl,rfl⟩:=e
   have hs:j=0:=by
    cases j with
    |zero=>rfl
    |succ j=>simp at hj
   subst hs;have:=hc 0 (by simp);rw[show(⟨b,o,none⟩:Addr).add 0=⟨b,o+0,none⟩ by unfold Addr.add;split<;>simp_all];rw[Hc.o.cell (p:=⟨b,o+0,none⟩) hh,this]
   simpa using hj)
  have ha:=run_copy_row (P:=prog) (w.alloc (.cells (eY n) 3)) 23 23 3 3 w.heap.size 0 n n ⟨b,o,none⟩ 1 c (zq (repI n x 0)).toArray 3 (zq (List.replicate 1 x)) bI tV ho.out (Nat.min_eq_left (show 1<=n by omega)).symm Ha.o (by simp[repI];omega) (by simp[Value.oneCell']);have e1:=qV (n:=n) (x:=x) (k:=0) (c:=1) (by omega);unfold splice at e1;rw[List.append_assoc]at ha;simp only[List.toList_toArray]at ha;rw[e1,World.setRow_alloc_new]at ha;obtain⟨W1,he⟩:∃W1,w.alloc (.cells (zq (repI n x (0+1))).toArray 3)=W1:=⟨_,rfl⟩
  have hp:W1.heap[w.heap.size]?=some (.cells (zq (repI n x 1)).toArray 3 (0,0)):=by rw[<-he];exact World.alloc_heap_new w _
  have hl:Below w.heap.size w W1:=by rw[<-he];exact(Below.refl _ w).alloc nlr _
  rw[he]at ha;have Hh:=Hd hp;have Hf:=Hd hl;clear e1 he hp hl Ha Hc ho;simp only[List.length_map,List.length_replicate]at ha
  go_wp2_with (go_at_call 120;refine(He.o _).mono ?_;rintro e w' ⟨rfl,rfl⟩)
  clear ha
  go_loopw [8] (fun t8 wr=>∃k:Nat,t8=.int .i64 k/\1<=k/\k<=n/\Hid (wr.heap[w.heap.size]?=some (.cells (zq (repI n x k)).toArray 3 (0,0)))/\Hid (Below w.heap.size w wr)) (fun t8 _=>n-(intOf t8).toNat)
  case atStart=>exact⟨1,rfl,nlr,by omega,Hh,Hf⟩
  case round=>
   obtain⟨k,rfl,hu,hk,HG,HB⟩:=hrel;by_cases hh:k<n
   .obtain⟨m,hm⟩:∃m,Nat.min k (n-k)=m:=⟨_,rfl⟩
    have hz:1<=m:=by rw[<-hm];exact Nat.le_min.2 ⟨hu,by omega⟩
    have hq:k+m<=n:=by have:=Nat.min_le_right k (n-k);rw[show min k (n-k)=m from hm]at this;omega
    have hA:m<=k:=by rw[<-hm];exact Nat.min_le_left _ _
    have hd:∀j v,(zq (List.replicate m x))[j]?=some v->wr.drew.cell? ((⟨w.heap.size,0,none⟩:Addr).add j)=some v:=by
     intro j v hj
     have ht:j<m:=by
      have:=(List.getElem?_eq_some_iff.1 hj).1;simpa using this
     rw[show(⟨w.heap.size,0,none⟩:Addr).add j=⟨w.heap.size,0+j,none⟩ by unfold Addr.add;split<;>simp_all];show wr.cell? _=_
     simp only[World.cell?,HG.o];rw[List.getElem?_map,List.getElem?_replicate,if_pos ht]at hj;simp only[Nat.zero_add,List.getElem?_toArray,List.getElem?_map,repI];rw[List.getElem?_append_left (by rw[List.length_replicate];omega),List.getElem?_replicate,if_pos (show j<k by omega)];exact hj
    have ha:=run_copy_row (P:=prog) wr.drew 23 23 3 3 w.heap.size k (n-k) (n-k) ⟨w.heap.size,0,none⟩ k n (zq (repI n x k)).toArray 3 (zq (List.replicate m x)) bI tV HG.o (by simp;exact hm.symm) hd (by simp[repI];omega) (fF _);have e1:=qV (n:=n) (x:=x) (k:=k) (c:=m) hq;unfold splice at e1;rw[List.append_assoc]at ha;simp only[List.toList_toArray]at ha;rw[e1]at ha;simp only[List.length_map,List.length_replicate]at ha;have hg:=setRow_heap wr.drew w.heap.size _ (zq (repI n x (k+m))).toArray _ _ HG.o;have hf:=below_setRow (HB.o.drew) nlr (zq (repI n x (k+m))).toArray;obtain⟨W2,hi⟩:∃W2,wr.drew.setRow w.heap.size (zq (repI n x (k+m))).toArray=W2:=⟨_,rfl⟩
    rw[hi]at ha hg hf;have Hi:=Hd hg;have Hg:=Hd hf;have hx:IntKind.i64.wrap ((k:Int)+(m:Int))=((k+m:Nat):Int):=by rw[IntKind.wrap_i64];omega
    clear hi hg hf hd e1 hm;go_wp2;go_region
    go_roundw
    case rel=>exact⟨_,_,_,_,_,_,_,_,_,_,_,_,_,_,⟨k+m,rfl,by omega,hq,Hi,Hg⟩,rfl⟩
    case measure=>simp[intOf];omega
   .obtain rfl:k=n:=by omega
    have hb:wr.ownsRow w.heap.size 3 1 (.slice (some ⟨w.heap.size,0,none⟩) (List.replicate k x).length k) (List.replicate k x).length (zq (List.replicate k x)):=
     ⟨by simp,.inr ⟨w.heap.size,k,_,rfl,nlr,HG.o,by simp,by unfold maxLen;omega,by simp[repI],by rw[NM];simp⟩⟩
    have Hb:=Hd hb;clear hb;go_wp2;go_ret;have:=Hb.o;rw[List.length_replicate]at this;exact⟨some ⟨w.heap.size,0,none⟩,k,by rw[List.length_replicate];rfl,by rw[List.length_replicate];exact this,HB.o⟩
end
end Go.Proofs.YtcdkdiedphhdhaaGreatDoor
