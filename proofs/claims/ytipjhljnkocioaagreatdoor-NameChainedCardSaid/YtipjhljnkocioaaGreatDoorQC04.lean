/- Part of a proof. -/
import Derived.Test.YtipjhljnkocioaaGreatDoorRows
import Derived.Test.YtipjhljnkocioaaGreatDoorQC01
import Derived.Test.YtipjhljnkocioaaGreatDoorQC03
set_option maxRecDepth 100000
set_option maxHeartbeats 8000000
set_option linter.unusedVariables false
set_option linter.unusedSimpArgs false
open Go.Proofs.Tryz
namespace Go.Proofs.YtipjhljnkocioaaGreatDoor
section
open Go Go.ChangeShapes Go.WideShapes Go.ChangeAt Go.RowKit
section
variable {H : Type} {enc : TypeId × Value → H} {W : World} {v : Value} {d : DataW H} {ps : List MemPlace} {base : Nat}
theorem ND:prog.cellsOf 64=2:=by kernel_rfl
theorem QP:prog.cellsOf 5=1:=by kernel_rfl
theorem RK:prog.underlying 64=some (.array 2 5):=by kernel_rfl
theorem MU:prog.underlying 63=some (.slice 64):=by kernel_rfl
theorem RM:prog.underlying 5=some (.int .u8):=by kernel_rfl
theorem OB(b o i:Nat):(⟨b,o,none⟩:Addr).add i=⟨b,o+i,none⟩:=by
 unfold Addr.add;split
 ·simp_all
 ·rfl
theorem MM{k:Nat}(hk:0<k){a:Addr}{n c:Nat}{xs:List Value}(hl:xs.length=n*k)(hn:n≤c)(hc:∀i (h:i<xs.length),W.cell? (a.add i)=some xs[i]):Row k W (some a) n c xs:=by
 refine⟨hl,hn,(fun h=>by cases h),?_⟩;by_cases h0:n=0
 ·exact .inl h0
 ·have hpos:0<xs.length:=by rw[hl];exact Nat.mul_pos (by omega) hk
  have hc0:=hc 0 hpos;have ha:a.add 0=a:=by simp[Addr.add]
  rw[ha]at hc0
  have hspot:a.spot=none:=by
   unfold World.cell? at hc0;split at hc0
   ·split at hc0
    ·cases hc0
    ·rename_i h;simpa using h
   ·cases hc0
  obtain⟨b,o,sp⟩:=a;simp only at hspot;subst hspot;refine .inr ⟨b,o,rfl,World.block_lt_of_cell? W _ hc0,fun i hi=>?_⟩;have:=hc i hi;rwa[OB]at this
theorem QO(a:Addr)(i j:Nat):(a.add i).add j=a.add (i+j):=by
 unfold Addr.add;by_cases h:i=0<;>by_cases h2:j=0<;>simp_all<;>omega
theorem SM{z:Int}(h:(Lit.int .u8 z).wf=true):∃x:Nat,z=x∧x<256:=by
 simp[Lit.wf,IntKind.min,IntKind.max,IntKind.signed,IntKind.bits]at h;exact⟨z.toNat,by omega,by omega⟩
theorem NN(hval:Value.okWide prog W .any base 63 v)(h:DataW.Trod enc prog W 0 (fun _=>true) true 63 v d ps) :
 ∃(X Y:Nat→Nat) (n c:Nat) (a:Option Addr),v=.slice a n c∧n≤maxLen∧(∀i,X i<256)∧(∀i,Y i<256)∧Row 2 W a n c (ML X Y n):=by
 obtain⟨a,n,c,rfl⟩:=okWide_slice MU hval;obtain⟨fuel,hf⟩:=h;rcases Go.Deep.open_slice MU hf with⟨e,_⟩|⟨a',len,cap,m,k,D,Pl,e,_,hl,hm,hmm,hx,hc⟩
 ·simp[Value.cells]at e
  obtain⟨rfl,rfl,rfl⟩:=e;exact⟨fun _=>0,fun _=>0,0,0,none,rfl,by unfold maxLen;omega,fun _=>by show 0<256;omega,fun _=>by show 0<256;omega,⟨by simp[ML],nlr,(fun _=>rfl),.inl rfl⟩⟩
 ·simp[Value.cells]at e
  obtain⟨rfl,rfl,rfl⟩:=e;rw[if_pos rfl]at hmm
  have each:∀i,i<n→∃q:Nat×Nat,(W.cell? (a'.add (i*2))=some (.int .u8 q.1)∧W.cell? (a'.add (i*2+1))=some (.int .u8 q.2))∧q.1<256∧q.2<256:=by
   intro i hi;obtain⟨cs',h1,h2⟩:=hc i (by omega);rw[ND]at h1;obtain⟨_,hlen,hcell⟩:=World.cells?_some h1;obtain⟨xs,k2,_,_,_,hxl,hf2⟩:=DataW.trod_array RK h2
   match xs,hxl,cs',hlen with
   | [y0,y1],_,[v0,v1],_=>
     have g0:=hf2 0 (by omega);have g1:=hf2 1 (by omega);rw[QP]at g0 g1;simp at g0 g1;have e0:=hcell 0 (by omega);have e1:=hcell 1 (by omega);rw[QO]at e0 e1;obtain⟨z0,f0,_,w0⟩:=DataW.trod_int RM g0;obtain⟨z1,f1,_,w1⟩:=DataW.trod_int RM g1;simp only[List.cons.injEq,and_true]at f0 f1;subst f0 f1;obtain⟨x0,rfl,l0⟩:=SM w0;obtain⟨x1,rfl,l1⟩:=SM w1;exact⟨(x0,x1),⟨by simpa using e0,by simpa using e1⟩,l0,l1⟩
  obtain⟨q,hq⟩:=Go.Deep.choose_lt each;refine⟨fun i=>(q i).1 % 256,fun i=>(q i).2 % 256,n,c,some a',rfl,by omega,fun i=>Nat.mod_lt _ (by omega),fun i=>Nat.mod_lt _ (by omega),MM (by omega) (LS _ _ _) hl fun j hj=>?_⟩;rw[LS]at hj;obtain⟨⟨h1,h2⟩,h3,h4⟩:=hq (j / 2) (by omega);unfold ML;simp only[List.getElem_map,List.getElem_range];by_cases hp:j % 2=0
  ·rw[if_pos hp,Nat.mod_eq_of_lt h3,←h1]
   congr 2;omega
  ·rw[if_neg hp,Nat.mod_eq_of_lt h4,←h2]
   congr 2;omega
end
end
end Go.Proofs.YtipjhljnkocioaaGreatDoor
