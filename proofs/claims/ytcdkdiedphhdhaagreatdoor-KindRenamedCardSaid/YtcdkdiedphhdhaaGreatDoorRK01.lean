/- Part of a proof. -/
import Derived.Test.YtcdkdiedphhdhaaGreatDoorK08
import Derived.Shelf.Slices.SearchI
import Derived.Shelf.Slices.Equal
import Derived.Shelf.Slices.Empties
import Derived.Shelf.Slices.Empties2
import Derived.Shelf.LaysM
set_option maxRecDepth 100000
set_option maxHeartbeats 8000000
set_option linter.unusedVariables false
set_option linter.unusedSimpArgs false
open Go.Proofs.Tryz
namespace Go.Proofs.YtcdkdiedphhdhaaGreatDoor.N
open Go
section
variable {P : Program} {ops : Array Oper} {md : Region.Mode} {Q : Exit -> Act -> World -> Prop} {J : World -> Prop} {K : World -> World -> Prop} {G : List PanicEntry -> World -> Prop}
section
variable {ks : List Kd} {D : List (List Nat)} (hD : D = ks.map Kd.deps)
include hD
end
def NewB(B:Nat)(z:Array Value)(T:TypeId):List Value->Value->World->Prop:=fun _ v w=>∃g,v=.pointer (some ⟨g,0,none⟩)/\B<=g/\w.heap[g]?=some (.cells z T (0,0))
theorem NewB.st{B:Nat}{z:Array Value}{T:TypeId}{ds:List Nat}:(Kd.dep ds (NewB B z T)).St (fun w w'=>RowKit.Below w.heap.size w w'):=by
 rintro l v w w' hk⟨g,h1,h2,h3⟩;exact⟨g,h1,h2,(hk.block g (Array.getElem?_eq_some_iff.1 h3).1).trans h3⟩
end
end Go.Proofs.YtcdkdiedphhdhaaGreatDoor.N
namespace Go.Proofs
open Go.Shelf
def Tryz.lays111_ren:Go.Shelf.Ren:=⟨fun|111=>38|n=>n,fun|28=>23|3=>3|4=>4|0=>0|n=>n,fun|n=>n⟩
theorem Tryz.lays111:Go.Proofs.Lays.n111 prog Tryz.lays111_ren:={
 mixed:=by kernel_rfl
 f111:=func38.trans (congrArg some (by kernel_rfl))
 t0:=underlying0
 a0:=isAgg0
 z0:=sizeOf0
 v0:=zeroValue0
 t3:=underlying3
 a3:=isAgg3
 z3:=sizeOf3
 v3:=zeroValue3
 t4:=underlying4
 a4:=isAgg4
 z4:=sizeOf4
 v4:=zeroValue4
 t28:=underlying23
 a28:=isAgg23
 z28:=sizeOf23
 v28:=zeroValue23 }
open Go.RowKit Go.Lib in
theorem Tryz.slices_Equal_int (b1 o1 n c b2 o2 m d:Nat) (xs ys:List Int) (w:World) (hx:n<=xs.length) (hy:m<=ys.length) (hbig:n<=9223372036854775807) (hbig2:m<=9223372036854775807) (hc1:∀j,j<xs.length->w.cell? ⟨b1,o1+j,none⟩=some (.int .i64 (xs.getD j 0))) (hc2:∀j,j<ys.length->w.cell? ⟨b2,o2+j,none⟩=some (.int .i64 (ys.getD j 0))) :
 Calls prog 38 #[.slice (some ⟨b1,o1,none⟩) n c,.slice (some ⟨b2,o2,none⟩) m d] w fun e w'=>e=.returned (.bool (xs.take n==ys.take m))/\∃q,w'=w.drewN q:=Any.slices_Equal_int Tryz.lays111 b1 o1 n c b2 o2 m d xs ys w hx hy hbig hbig2 hc1 hc2
open Go.RowKit Go.Lib in
theorem Tryz.slices_Equal_int_empty (a1 a2:Option Addr) (c m d:Nat) (w:World) (hbig2:m<=9223372036854775807) :
 Calls prog 38 #[.slice a1 0 c,.slice a2 m d] w fun e w'=>e=.returned (.bool (decide (m=0)))/\w'=w:=Any.slices_Equal_int_empty Tryz.lays111 a1 a2 c m d w hbig2
open Go.RowKit Go.Lib in
theorem Tryz.slices_Equal_int_lens (a1 a2:Option Addr) (n c m d:Nat) (w:World) (hnm:n≠m) :
 Calls prog 38 #[.slice a1 n c,.slice a2 m d] w fun e w'=>e=.returned (.bool false)/\w'=w:=Any.slices_Equal_int_lens Tryz.lays111 a1 a2 n c m d w hnm
end Go.Proofs
namespace Go.Proofs.YtcdkdiedphhdhaaGreatDoor
section
open Go.RowKit
theorem VR{w W W':World}{B:Nat}{e:TypeId}{size:Nat}{v:Value}{n:Nat}{xs:List Value}(hb:Below B w W)(h:W.ownsRow B e size v n xs)(hg:W.grownBy W' v.ownBlock)(hB:B<=W.heap.size):Below B w W':=
 hb.grown hg hB (fun k e=>(h.lt k e).1)
def idxs(p:Nat->Bool)(k:Nat):List Int:=((List.range k).filter p).map Int.ofNat
theorem TS(p:Nat->Bool)(k:Nat):idxs p (k+1)=idxs p k++(if p k then [(k:Int)]else []):=by
 unfold idxs;rw[List.range_succ,List.filter_append,List.map_append];congr 1;cases h:p k<;>simp[List.filter_cons,h]
theorem TK{p:Nat->Bool}{k:Nat}(h:p k=true):idxs p (k+1)=idxs p k++[(k:Int)]:=by rw[TS,if_pos h]
theorem UR{p:Nat->Bool}{k:Nat}(h:p k=false):idxs p (k+1)=idxs p k:=by rw[TS,if_neg (by rw[h];exact Bool.false_ne_true),List.append_nil]
theorem TD(p:Nat->Bool)(k:Nat):(idxs p k).length<=k:=by
 unfold idxs;rw[List.length_map];exact Nat.le_trans (List.length_filter_le _ _) (by simp)
def uses(decl:List Int)(node:Int):List Int:=idxs (fun i=>decl[i]?==some node) decl.length
theorem WS(l:List Int)(n:Int):(uses l n).length<=l.length:=TD _ _
theorem UX{p:Nat->Bool}{k:Nat}{x:Int}(h:x∈idxs p k):0<=x/\x<k:=by
 obtain⟨y,hy,rfl⟩:=List.mem_map.1 h;have:=List.mem_range.1 (List.mem_filter.1 hy).1;exact⟨Int.natCast_nonneg _,by show((y:Nat):Int)<k;omega⟩
end
end Go.Proofs.YtcdkdiedphhdhaaGreatDoor
