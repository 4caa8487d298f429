/- Part of a proof. -/
import Derived.Test.YtcdkdiedphhdhaaGreatDoorK36
import Derived.Lib.LastIndexLaws
import Derived.Lib.AtoiAll
import Derived.Lib.ItoaNum
set_option maxRecDepth 100000
set_option maxHeartbeats 8000000
set_option linter.unusedVariables false
set_option linter.unusedSimpArgs false
namespace Go.Proofs.YtcdkdiedphhdhaaGreatDoor
section
open Go Go.RowKit
theorem nW:∀(f n:Nat),n<f->Lib.decDigits n=digF f n
 |0,_,h=>by omega
 | f+1,n,h=>by
   rw[Lib.decDigits,digF];split
   .rfl
   .rw[nW f (n / 10) (by omega)]
theorem fD(n:Nat):Lib.decDigits n=digN n:=nW _ _ (by omega)
theorem NE(of:List UInt8)(d:UInt8):Lib.lastIndex (of++[59,32,d]) [59,32]=of.length:=by
 unfold Lib.lastIndex;rw[if_pos (by simp)];have e:(of++[59,32,d]).length-([59,32]:List UInt8).length+1=of.length+1+1:=by simp
 rw[e,Lib.lastOcc_miss,Lib.lastOcc_hit]
 .unfold Lib.occAt
  rw[List.drop_left];simp
 .unfold Lib.occAt
  have:(of++[59,32,d]).drop (of.length+1)=[32,d]:=by
   rw[<-List.drop_drop,List.drop_left];rfl
  rw[this];rfl
theorem PZ{s:List UInt8}{at_:Int}(h:Lib.lastIndex s [59,32]=at_)(h0:0<=at_):∃of rest,s=of++59::32::rest/\at_=(of.length:Int):=by
 unfold Lib.lastIndex at h;split at h
 .rename_i hl
  rcases Lib.lastOcc_spec s [59,32] (s.length-([59,32]:List UInt8).length+1)with⟨h1,_⟩|⟨i,h1,h2,h3,_⟩
  .omega
  .rw[h2]at h
   unfold Lib.occAt at h3;rw[List.isPrefixOf_iff_prefix]at h3;obtain⟨rest,hr⟩:=h3;refine⟨s.take i,rest,?_,?_⟩
   .conv=>lhs;rw[<-List.take_append_drop i s,<-hr]
    simp
   .rw[List.length_take,<-h]
    simp at h1 hl;omega
 .omega
theorem yQ{k of:List UInt8}{n:Nat}(h:cutK k=some (of,n)):∃i1 i2,k=91::i1/\i1=i2++[93]/\i2=of++[59,32,UInt8.ofNat (48+n)]/\Lib.lastIndex i2 [59,32]=of.length/\1<=n/\n<=6:=by
 obtain⟨h1,h2,h3⟩:=jF h;rw[dT of (by omega)]at h3;refine⟨_,_,h3,by simp,rfl,NE _ _,h1,h2⟩
def cF(rest:List UInt8):Option Nat:=match rest with | [d]=>if 49<=d.toNat/\d.toNat<=54 then some (d.toNat-48)else none|_=>none
theorem dW{rest:List UInt8}{n:Nat}(h:cF rest=some n):rest=[UInt8.ofNat (48+n)]/\1<=n/\n<=6:=by
 unfold cF at h;split at h
 .rename_i d
  split at h
  .cases h
   refine⟨?_,by omega,by omega⟩
   have e:UInt8.ofNat (48+(d.toNat-48))=d:=by
    apply UInt8.toNat_inj.1;rw[UInt8.toNat_ofNat',Nat.mod_eq_of_lt (by omega)];omega
   rw[e]
  .cases h
 .cases h
theorem qN{n:Nat}(h1:1<=n)(h2:n<=6):cF [UInt8.ofNat (48+n)]=some n:=by
 have e:(UInt8.ofNat (48+n)).toNat=48+n:=by
  rw[UInt8.toNat_ofNat'];exact Nat.mod_eq_of_lt (by omega)
 unfold cF;simp only[e];rw[if_pos ⟨by omega,by omega⟩];simp
theorem IE{i2 of rest:List UInt8}(h:i2=of++59::32::rest)(hl:Lib.lastIndex i2 [59,32]=of.length):cutK (91::(i2++[93]))=(cF rest).map fun n=>(of,n):=by
 cases hd:cF rest with
 | some n=>
   obtain⟨h1,h2,h3⟩:=dW hd;have:=pP of h2 h3;rw[dT of (by omega)]at this;rw[h,h1,<-show of++[59,32,UInt8.ofNat (48+n),93]=(of++59::32::[UInt8.ofNat (48+n)])++[93] by simp];exact this
 | none=>
   cases hc:cutK (91::(i2++[93]))with
   |none=>rfl
   | some p=>
     obtain⟨of',n⟩:=p;obtain⟨i1,i2',h1,h2,h3,h4,h5,h6⟩:=yQ hc
     have e1:i2=i2':=by
      rw[h2]at h1;exact List.append_cancel_right (List.cons.inj h1).2
     subst e1;have e2:of.length=of'.length:=by omega
     rw[h]at h3;obtain⟨e3,e4⟩:=List.append_inj h3 e2;have e5:rest=[UInt8.ofNat (48+n)]:=by simpa using e4
     rw[e5,qN h5 h6]at hd;cases hd
theorem kF{rest:List UInt8}{n:Nat}(h:cF rest=some n):Lib.atoiAll rest=.ok n:=by
 obtain⟨h1,h2,h3⟩:=dW h;subst h1;have:n=1\/n=2\/n=3\/n=4\/n=5\/n=6:=by omega
 rcases this with rfl|rfl|rfl|rfl|rfl|rfl<;>rfl
theorem BO{rest:List UInt8}{n:Nat}(h1:1<=n)(h2:n<=6):(cF rest=some n)↔Lib.decDigits n=rest:=by
 rw[fD,BN (by omega)];constructor
 .intro h
  exact(dW h).1.symm
 .intro h
  rw[<-h];exact qN h1 h2
theorem RM(k:List UInt8):(∃r,k=91::r/\Lib.trimPrefix k [91]=r/\Lib.hasPrefix k [91]=true)\/(Lib.hasPrefix k [91]=false/\cutK k=none):=by
 cases k with
 |nil=>exact .inr ⟨rfl,rfl⟩
 | cons x r=>
   by_cases h:x=91
   .subst h
    have hp:Lib.hasPrefix (91::r) [91]=true:=by simp[Lib.hasPrefix]
    exact .inl ⟨r,rfl,by unfold Lib.trimPrefix;rw[hp];rfl,hp⟩
   .have h2:¬(91:UInt8)=x:=fun e=>h e.symm
    refine .inr ⟨by simp[Lib.hasPrefix,List.isPrefixOf,h2],?_⟩;cases hc:cutK (x::r)with
    |none=>rfl
    | some p=>
      have:=vG (n:=p.2) (of:=p.1) hc;simp only[List.head?_cons,Option.some.injEq]at this;exact absurd this h
theorem RQ(l:List UInt8):(∃r,l=r++[93]/\Lib.trimSuffix l [93]=r/\Lib.hasSuffix l [93]=true)\/(Lib.hasSuffix l [93]=false/\∀r,l≠r++[93]):=by
 cases h:Lib.hasSuffix l [93]with
 | true=>
   have h':=h;unfold Lib.hasSuffix at h';rw[List.isSuffixOf_iff_suffix]at h';obtain⟨r,hr⟩:=h';refine .inl ⟨r,hr.symm,?_,rfl⟩;unfold Lib.trimSuffix;rw[h,if_pos rfl,<-hr];simp
 | false=>
   refine .inr ⟨rfl,fun r e=>?_⟩
   have:Lib.hasSuffix l [93]=true:=by
    unfold Lib.hasSuffix;rw[List.isSuffixOf_iff_suffix];exact⟨r,e.symm⟩
   rw[h]at this;cases this
end
end Go.Proofs.YtcdkdiedphhdhaaGreatDoor
