/- Part of a proof. -/
import Derived.Test.YtipjhljnkocioaaGreatDoorP35
import Derived.Test.YtipjhljnkocioaaGreatDoorQF01
set_option maxRecDepth 100000
set_option maxHeartbeats 8000000
set_option linter.unusedVariables false
set_option linter.unusedSimpArgs false
namespace Go.Proofs.YtipjhljnkocioaaGreatDoor
section
open Go.RowKit
theorem Good.stt_ge{t:Tr}{S:List Int}(G:Good t S){i:Nat}(hi:i<t.nodes.length) : -1≤stt S i:=by
 have key:∀(f i:Nat),t.nodes.length-i≤f→i<t.nodes.length → -1≤stt S i:=by
  intro f
  induction f with
  |zero=>intro i h hi;omega
  | succ f ih=>
    intro i h hi;rcases G.kidOrItem hi with h1|⟨j,hj,h1⟩
    ·exact(G.item i h1).1
    ·obtain⟨k1,_,k3,_⟩:=G.kid hj i h1
     have:=ih j (by omega) hj;omega
 exact key _ i nlr hi
theorem MR{l L:List Int}(h1:l.Pairwise (· < ·))(h2:L.Pairwise (· < ·))(h:∀x,x∈l↔x∈L):l=L:=by
 have n1:l.Nodup:=h1.imp fun h=>by omega
 have n2:L.Nodup:=h2.imp fun h=>by omega
 have hp:l.Perm L:=(List.perm_ext_iff_of_nodup n1 n2).2 h;have e1:=bX hp (h1.imp fun h=>by omega);have e2:=bX (List.Perm.refl L) (h2.imp fun h=>by omega);rw[e1,←e2]
theorem MK(p:Nat→Bool)(n:Nat):(idxs p n).Pairwise (· < ·):=by
 unfold idxs;rw[List.pairwise_map];exact(List.pairwise_lt_range.sublist List.filter_sublist).imp fun h=>Int.ofNat_lt.2 h
theorem LY{p:Nat→Bool}{n:Nat}{x:Int}:x∈idxs p n↔∃i:Nat,i<n∧p i=true∧x=i:=by
 unfold idxs;simp only[List.mem_map,List.mem_filter,List.mem_range];constructor
 ·rintro⟨i,⟨h1,h2⟩,h3⟩;exact⟨i,h1,h2,h3.symm⟩
 ·rintro⟨i,h1,h2,h3⟩;exact⟨i,⟨h1,h2⟩,h3.symm⟩
theorem LU{d:Array Int}(hs:∀i j,i<j→j<d.size→d[i]! ≤ d[j]!):∀m,m≤d.size→(Lib.compactUpTo d m).Pairwise (· < ·)∧∀x,x∈Lib.compactUpTo d m↔∃i,i<m∧d[i]! = x
 |0,_=>⟨by simp[Lib.compactUpTo],fun x=>by simp[Lib.compactUpTo]⟩
 | m+1,hm=>by
   obtain⟨h1,h2⟩:=LU hs m (by omega);rw[Lib.compactUpTo_succ];by_cases hk:Lib.keeps d m=true
   ·rw[if_pos hk]
    have hk':=hk;simp only[Lib.keeps,decide_eq_true_eq]at hk';refine⟨?_,fun x=>?_⟩
    ·rw[List.pairwise_append]
     refine⟨h1,by simp,fun a ha b hb=>?_⟩;obtain rfl:=List.mem_singleton.1 hb;obtain⟨i,hi,rfl⟩:=(h2 a).1 ha;rcases hk' with e|e
     ·omega
     ·have h3:d[m-1]! ≤ d[m]!:=hs (m-1) m (by omega) (by omega)
      have h4:d[i]! ≤ d[m-1]!:=by
       by_cases e2:i=m-1
       ·rw[e2];exact Int.le_refl _
       ·exact hs i (m-1) (by omega) (by omega)
      omega
    ·rw[List.mem_append,h2,List.mem_singleton]
     constructor
     ·rintro(⟨i,hi,e⟩|e)
      ·exact⟨i,by omega,e⟩
      ·exact⟨m,by omega,e.symm⟩
     ·rintro⟨i,hi,e⟩
      by_cases e2:i=m
      ·subst e2;exact .inr e.symm
      ·exact .inl ⟨i,by omega,e⟩
   ·rw[if_neg hk,List.append_nil]
    refine⟨h1,fun x=>?_⟩;rw[h2];simp only[Lib.keeps,decide_eq_true_eq,not_or,Classical.not_not]at hk;constructor
    ·rintro⟨i,hi,e⟩;exact⟨i,by omega,e⟩
    ·rintro⟨i,hi,e⟩
     by_cases e2:i=m
     ·subst e2;exact⟨i-1,by omega,by rw[←hk.2];exact e⟩
     ·exact⟨i,by omega,e⟩
theorem LT(l:List Int):(Lib.compact (bA l)).Pairwise (· < ·)∧∀x,x∈Lib.compact (bA l)↔x∈l:=by
 have hs:=bW l;have hm:∀x,x∈bA l↔x∈l:=fun x=>(bF l).mem_iff;generalize bA l=L at hs hm
 have h:=LU (d:=L.toArray) (fun i j hij hj=>by
  have hj':j<L.length:=by simpa using hj
  have:=List.pairwise_iff_getElem.1 hs i j (by omega) hj' hij
  simpa[getElem!_pos,hj',show i<L.length by omega]using this) L.length (by simp)
 refine⟨h.1,fun x=>(h.2 x).trans ?_⟩;rw[←hm];constructor
 ·rintro⟨i,hi,e⟩
  rw[←e];simp[hi]
 ·intro hx
  obtain⟨i,hi,e⟩:=List.getElem_of_mem hx;exact⟨i,hi,by simpa[hi]using e⟩
theorem mem_uses{l:List Int}{d x:Int}:x∈uses l d↔∃i:Nat,l[i]?=some d∧x=i:=by
 unfold uses;rw[LY];constructor
 ·rintro⟨i,h1,h2,h3⟩;exact⟨i,by simpa using h2,h3⟩
 ·rintro⟨i,h1,h2⟩;exact⟨i,(List.getElem?_eq_some_iff.1 h1).1,by simpa using h1,h2⟩
theorem NH{t:Tr}{S:List Int}(wf:WF t)(G:Good t S){node:Nat}(hn:node<t.nodes.length):Lib.compact (bA (qS t node))=free t (ze t t.nodes.length) node:=by
 obtain⟨h1,h2⟩:=LT (qS t node);refine MR h1 (MK _ _) fun x=>(h2 x).trans ?_;unfold free;rw[LY];have hlow:=G.low hn;have hb:=G.begins hn;have hge:=G.stt_ge hn;obtain⟨f,hf⟩:∃f:Nat,(low t node).toNat=f:=⟨_,rfl⟩
 have hff:(f:Int)=stt S node+1:=by omega
 have hfn:f≤node:=by omega
 have hll:(ze t t.nodes.length).length=t.nodes.length:=zD _ _
 have hget:∀i:Nat,(ze t t.nodes.length)[i]?=if i<t.nodes.length then some (means t i)else none:=fun i=>by
  rw[bD,List.getElem?_map];by_cases h:i<t.nodes.length
  ·rw[List.getElem?_range h,if_pos h];rfl
  ·rw[List.getElem?_eq_none (by simpa using h),if_neg h];rfl
 have hmem:x∈qS t node↔(∃i:Nat,f≤i∧i≤node∧means t i=x)∧kQ f node x=true:=by
  unfold qS JC;rw[hf,List.mem_filter];refine and_congr_left fun _=>?_;constructor
  ·intro h
   obtain⟨i,hi,e⟩:=List.getElem_of_mem h;have hi':i<node+1-f:=by simp at hi;omega
   refine⟨f+i,by omega,by omega,?_⟩;rw[List.getElem_take,List.getElem_drop]at e;have:=hget (f+i);rw[if_pos (by omega),List.getElem?_eq_getElem (by omega),Option.some.injEq]at this;rw[←this];exact e
  ·rintro⟨i,h3,h4,h5⟩
   refine List.mem_iff_getElem.2 ⟨i-f,by simp;omega,?_⟩;rw[List.getElem_take,List.getElem_drop];have:=hget (f+(i-f));rw[if_pos (by omega),List.getElem?_eq_getElem (by omega),Option.some.injEq]at this;rw[this,←h5,show f+(i-f)=i by omega]
 rw[hmem];constructor
 ·rintro⟨⟨i,h3,h4,rfl⟩,h5⟩
  have hr:=cS wf (node:=i);unfold kQ at h5;simp only[Bool.and_eq_true,bne_iff_ne,ne_eq,Bool.or_eq_true,decide_eq_true_eq]at h5;obtain⟨m,hm⟩:=Int.eq_ofNat_of_zero_le (show 0≤means t i by omega);have hm2:m<t.nodes.length:=by omega
  refine⟨m,hm2,?_,hm⟩;unfold LP;rw[Bool.and_eq_true,List.any_eq_true];refine⟨?_,(i:Int),mem_uses.2 ⟨i,by rw[hget,if_pos (by omega),hm],rfl⟩,(G.inside_iff hn (by omega)).2 ⟨by omega,by omega⟩⟩;rw[Bool.not_eq_true',Bool.eq_false_iff];intro hc;have:=(G.inside_iff hn hm2).1 hc;omega
 ·rintro⟨m,hm,hp,rfl⟩
  unfold LP at hp;rw[Bool.and_eq_true,List.any_eq_true,Bool.not_eq_true',Bool.eq_false_iff]at hp;obtain⟨h3,u,hu,h4⟩:=hp;obtain⟨i,hi,rfl⟩:=mem_uses.1 hu;rw[hget]at hi;by_cases hil:i<t.nodes.length
  ·rw[if_pos hil,Option.some.injEq]at hi
   have h5:=(G.inside_iff hn hil).1 h4;have h6:¬(stt S node<(m:Int)∧(m:Int)≤node):=fun h=>h3 ((G.inside_iff hn hm).2 h);refine⟨⟨i,by omega,by omega,hi⟩,?_⟩;unfold kQ;simp only[Bool.and_eq_true,bne_iff_ne,ne_eq,Bool.or_eq_true,decide_eq_true_eq];omega
  ·rw[if_neg hil]at hi;cases hi
end
end Go.Proofs.YtipjhljnkocioaaGreatDoor
