/- Part of a proof. -/
import Derived.Test.YtokdgiphdnjeoaaGreatDoorQ01
import Derived.Test.YtokdgiphdnjeoaaGreatDoorQ12
import Derived.Test.YtokdgiphdnjeoaaGreatDoorQ13
import Derived.Laws.CopyOwn
import Derived.Deep.WholeRow
set_option maxRecDepth 100000
set_option maxHeartbeats 8000000
set_option linter.unusedVariables false
set_option linter.unusedSimpArgs false
open Go.Proofs.Tryz
namespace Go.Proofs.YtokdgiphdnjeoaaGreatDoor
section
open Go Go.RowKit
theorem sS:(prog.info? 3).map (·.size)=some 1:=by kernel_rfl
def repI(n:Nat)(x:Int)(k:Nat):List Int:=List.replicate k x++List.replicate (n-k) 0
theorem pT{n:Nat}{x:Int}{k c:Nat}(h:k+c≤n):splice (zm (repI n x k)) k (zm (List.replicate c x))=zm (repI n x (k+c)):=by
 unfold splice repI;rw[←List.map_take,List.length_map,List.length_replicate,←List.map_drop,←List.map_append,←List.map_append];congr 1;rw[List.take_append_of_le_length (by simp),List.take_of_length_le (by simp),List.drop_append,List.drop_of_length_le (by simp),List.nil_append,List.length_replicate,List.drop_replicate,←List.append_assoc,List.replicate_append_replicate];congr 2;omega
theorem FJ(n:Nat)(x:Int):(zm (repI n x 0)).toArray=cF n:=by
 simp[repI,cF,zm]
theorem KQ(n:Nat)(x:Int):repI n x n=List.replicate n x:=by simp[repI]
theorem nX(n:Nat)(x:Int)(b o c:Nat)(w:World)(hn:n≤1000000)(h:Ints w (some ⟨b,o,none⟩) c [x]) :
 Calls prog 182 #[.slice (some ⟨b,o,none⟩) 1 c,intV n] w (RetInts w (List.replicate n x)):=by
 have HM:∀W,Calls prog 246 #[.int .u64 1,.int .u64 n] W fun e w'=>e=.returned (.tuple #[.int .u64 0,.int .u64 n])∧W=w':=by
  intro W;have:=Tryz.bits_Mul 1 n (by omega) (by omega) W;have e1:1*n / 18446744073709551616=0:=by omega
  have e2:1*n % 18446744073709551616=n:=by omega
  rw[e1,e2]at this;exact this.mono fun e w' h=>⟨h.1,h.2.symm⟩
 have HMH:=Hd HM;have hmk:=fun W=>gW W n (by omega);have hw1:IntKind.u64.wrap (n:Int)=n:=by rw[IntKind.wrap_u64];omega
 clear HM;have HR:=Hd h
 have hbo:b<w.heap.size:=by
  obtain⟨b',o',e,hlt,-⟩:=Ints.at h (i:=0) (by simp);simp only[Option.some.injEq,Addr.mk.injEq,and_true]at e;omega
 clear h;by_cases h0:n=0
 ·subst h0
  have hcp:=run_copy_none (P:=prog) (w.alloc (.cells (cF 0) 3)) 23 23 3 3 (some ⟨w.heap.size,0,none⟩) (some ⟨b,o,none⟩) 0 0 1 c bM sS (Nat.min_zero _);have hmk0:(Instr.makeSlice 23 (.int .i64 0) (.int .i64 0)).run prog w=.ok (.slice (some ⟨w.heap.size,0,none⟩) 0 0) (w.alloc (.cells (cF 0) 3)):=hmk w;have hw0:IntKind.u64.wrap 0=0:=by decide
  have HM0:Hid (∀W,Calls prog 246 #[.int .u64 1,.int .u64 0] W fun e w'=>e=.returned (.tuple #[.int .u64 0,.int .u64 0])∧W=w'):=Hd HMH.out;clear hmk hw1;go_enter func182,ntmps182
  go_wp2_with (go_at_call 246;refine(HM0.out _).mono ?_;rintro e w' ⟨rfl,rfl⟩)
  go_loopw [8] (fun t8 wr=>t8=.int .i64 0∧wr=w.alloc (.cells (cF 0) 3)) (fun t8 _=>0)
  case atStart=>exact⟨rfl,rfl⟩
  case round=>
   obtain⟨rfl,rfl⟩:=hrel;go_wp2;go_ret;exact⟨some ⟨w.heap.size,0,none⟩,0,rfl,World.ownsRow_made w #[] 0 nlr (by decide) (by simp),(Below.refl _ w).alloc nlr _⟩
 ·go_enter func182,ntmps182
  have hg0:Hid ((w.alloc (.cells (cF n) 3)).heap[w.heap.size]?=some (.cells (zm (repI n x 0)).toArray 3 (0,0))):=Hd (by rw[FJ];exact World.alloc_heap_new w _);have HB0:=Hd ((Below.refl w.heap.size w).alloc nlr (.cells (cF n) 3))
  have HSRC:Hid (∀j v,(zm (List.replicate 1 x))[j]?=some v→(w.alloc (.cells (cF n) 3)).cell? ((⟨b,o,none⟩:Addr).add j)=some v):=Hd (by
   intro j v hj;obtain⟨b',o',e,hlt,hc⟩:=HR.out.some (by simp);simp only[Option.some.injEq,Addr.mk.injEq,and_true]at e;obtain⟨rfl,rfl⟩:=e
   have hj0:j=0:=by
    cases j with
    |zero=>rfl
    |succ j=>simp at hj
   subst hj0;have:=hc 0 (by simp);rw[show(⟨b,o,none⟩:Addr).add 0=⟨b,o+0,none⟩ by unfold Addr.add;split<;>simp_all];rw[HB0.out.cell (p:=⟨b,o+0,none⟩) hlt,this]
   simpa using hj)
  have hcp:=run_copy_row (P:=prog) (w.alloc (.cells (cF n) 3)) 23 23 3 3 w.heap.size 0 n n ⟨b,o,none⟩ 1 c (zm (repI n x 0)).toArray 3 (zm (List.replicate 1 x)) bM sS hg0.out (Nat.min_eq_left (show 1≤n by omega)).symm HSRC.out (by simp[repI];omega) (by simp[Value.oneCell']);have e1:=pT (n:=n) (x:=x) (k:=0) (c:=1) (by omega);unfold splice at e1;rw[List.append_assoc]at hcp;simp only[List.toList_toArray]at hcp;rw[e1,World.setRow_alloc_new]at hcp;obtain⟨W1,hW1⟩:∃W1,w.alloc (.cells (zm (repI n x (0+1))).toArray 3)=W1:=⟨_,rfl⟩
  have hg1:W1.heap[w.heap.size]?=some (.cells (zm (repI n x 1)).toArray 3 (0,0)):=by rw[←hW1];exact World.alloc_heap_new w _
  have hb1:Below w.heap.size w W1:=by rw[←hW1];exact(Below.refl _ w).alloc nlr _
  rw[hW1]at hcp;have HG1:=Hd hg1;have HB1:=Hd hb1;clear e1 hW1 hg1 hb1 HSRC HB0 hg0;simp only[List.length_map,List.length_replicate]at hcp
  go_wp2_with (go_at_call 246;refine(HMH.out _).mono ?_;rintro e w' ⟨rfl,rfl⟩)
  clear hcp
  go_loopw [8] (fun t8 wr=>∃k:Nat,t8=.int .i64 k∧1≤k∧k≤n∧Hid (wr.heap[w.heap.size]?=some (.cells (zm (repI n x k)).toArray 3 (0,0)))∧Hid (Below w.heap.size w wr)) (fun t8 _=>n-(intOf t8).toNat)
  case atStart=>exact⟨1,rfl,nlr,by omega,HG1,HB1⟩
  case round=>
   obtain⟨k,rfl,hk1,hk,HG,HB⟩:=hrel;by_cases hlt:k<n
   ·obtain⟨m,hm⟩:∃m,Nat.min k (n-k)=m:=⟨_,rfl⟩
    have hm1:1≤m:=by rw[←hm];exact Nat.le_min.2 ⟨hk1,by omega⟩
    have hm2:k+m≤n:=by have:=Nat.min_le_right k (n-k);rw[show min k (n-k)=m from hm]at this;omega
    have hm3:m≤k:=by rw[←hm];exact Nat.min_le_left _ _
    have hsrc:∀j v,(zm (List.replicate m x))[j]?=some v→wr.drew.cell? ((⟨w.heap.size,0,none⟩:Addr).add j)=some v:=by
     intro j v hj
     have hjm:j<m:=by
      have:=(List.getElem?_eq_some_iff.1 hj).1;simpa using this
     rw[show(⟨w.heap.size,0,none⟩:Addr).add j=⟨w.heap.size,0+j,none⟩ by unfold Addr.add;split<;>simp_all];show wr.cell? _=_
     simp only[World.cell?,HG.out];rw[List.getElem?_map,List.getElem?_replicate,if_pos hjm]at hj;simp only[Nat.zero_add,List.getElem?_toArray,List.getElem?_map,repI];rw[List.getElem?_append_left (by rw[List.length_replicate];omega),List.getElem?_replicate,if_pos (show j<k by omega)];exact hj
    have hcp:=run_copy_row (P:=prog) wr.drew 23 23 3 3 w.heap.size k (n-k) (n-k) ⟨w.heap.size,0,none⟩ k n (zm (repI n x k)).toArray 3 (zm (List.replicate m x)) bM sS HG.out (by simp;exact hm.symm) hsrc (by simp[repI];omega) (fC _);have e1:=pT (n:=n) (x:=x) (k:=k) (c:=m) hm2;unfold splice at e1;rw[List.append_assoc]at hcp;simp only[List.toList_toArray]at hcp;rw[e1]at hcp;simp only[List.length_map,List.length_replicate]at hcp;have hg2:=setRow_heap wr.drew w.heap.size _ (zm (repI n x (k+m))).toArray _ _ HG.out;have hb2:=below_setRow (HB.out.drew) nlr (zm (repI n x (k+m))).toArray;obtain⟨W2,hW2⟩:∃W2,wr.drew.setRow w.heap.size (zm (repI n x (k+m))).toArray=W2:=⟨_,rfl⟩
    rw[hW2]at hcp hg2 hb2;have HG2:=Hd hg2;have HB2:=Hd hb2;have hwrm:IntKind.i64.wrap ((k:Int)+(m:Int))=((k+m:Nat):Int):=by rw[IntKind.wrap_i64];omega
    clear hW2 hg2 hb2 hsrc e1 hm;go_wp2;go_region
    go_roundw
    case rel=>exact⟨_,_,_,_,_,_,_,_,_,_,_,_,_,_,⟨k+m,rfl,by omega,hm2,HG2,HB2⟩,rfl⟩
    case measure=>simp[intOf];omega
   ·obtain rfl:k=n:=by omega
    have hown:wr.ownsRow w.heap.size 3 1 (.slice (some ⟨w.heap.size,0,none⟩) (List.replicate k x).length k) (List.replicate k x).length (zm (List.replicate k x)):=
     ⟨by simp,.inr ⟨w.heap.size,k,_,rfl,nlr,HG.out,by simp,by unfold maxLen;omega,by simp[repI],by rw[KQ];simp⟩⟩
    have HOWN:=Hd hown;clear hown;go_wp2;go_ret;have:=HOWN.out;rw[List.length_replicate]at this;exact⟨some ⟨w.heap.size,0,none⟩,k,by rw[List.length_replicate];rfl,by rw[List.length_replicate];exact this,HB.out⟩
end
end Go.Proofs.YtokdgiphdnjeoaaGreatDoor
