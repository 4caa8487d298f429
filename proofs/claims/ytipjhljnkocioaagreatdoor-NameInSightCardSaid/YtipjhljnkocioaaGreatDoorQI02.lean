/- Part of a proof. -/
import Derived.Test.YtipjhljnkocioaaGreatDoorP09
import Derived.Test.YtipjhljnkocioaaGreatDoorQI01
set_option maxRecDepth 100000
set_option maxHeartbeats 8000000
set_option linter.unusedVariables false
set_option linter.unusedSimpArgs false
open Go.Proofs.Tryz
namespace Go.Proofs.YtipjhljnkocioaaGreatDoor
section
open Go.RowKit
theorem LZ:(prog.info? 9).map (fun i=>(i.zero,i.size,i.bytes))=some (some (.string ⟨#[]⟩),1,16):=by kernel_rfl
theorem LT{l:List Int}{k:Nat}{n:Int}(h:k<l.length):hasI (l.take (k+1)) n=(hasI (l.take k) n||n==l[k]):=by
 unfold hasI;rw[List.take_succ_eq_append_getElem h];simp only[List.contains_append,List.contains_cons,List.contains_nil,Bool.or_false]
theorem ML{l:List Int}{k:Nat}(h:k<l.length):hasI l l[k]=true:=by
 unfold hasI;simp
theorem ME{α:Type}(t:Tr)(g:Int→Int→α→α)(last:Int){n:Int}(acc:α)(h:n<t.nodes.length):upw t g last n acc=if n<0 then (acc,last)else upw t g n (parent t n) (g last n acc):=by
 unfold upw;rw[upF];by_cases hn:n<0
 ·rw[if_pos hn,if_pos hn]
 ·rw[if_neg hn,if_neg hn]
  by_cases hp:0≤parent t n
  ·obtain⟨m,rfl⟩:=Int.eq_ofNat_of_zero_le (show 0≤n by omega)
   obtain⟨p,hp1,hp2⟩:=aT t m hp;have hp3:=dD t m hp;refine DU t g _ _ _ _ _ ?_ ?_ ?_<;>rw[hp1]<;>rw[hp1]at hp3<;>simp at *<;>omega
  ·have:parent t n<0:=by omega
   cases hl:t.nodes.length<;>simp[upF,this]
theorem EE{t:Tr}(wf:WF t){node:Nat}(hn:node<t.nodes.length):(sight t node).length≤2000003000000:=by
 have hbd:=wf.bd.n;have:=wC t (fun last n acc=>acc++zy (t.nd n) last n) (fun last acc=>True) (fun _ _ _ _ _ _=>trivial) (t.nodes.length+1) node (parent t node) [] (zG t (by omega)) trivial
 have key:∀(f:Nat) (last n:Int) (acc:List Int),n<t.nodes.length→(0≤n→last<n)→0≤last→last<t.nodes.length→acc.length≤2000000*(last+1).toNat →
  (upF t (fun last n acc=>acc++zy (t.nd n) last n) f last n acc).1.length≤2000000*1000000:=by
  intro f
  induction f with
  |zero=>intro last n acc hn hln h0 h1 ha;simp only[upF];omega
  | succ f ih=>
    intro last n acc hn hln h0 h1 ha;simp only[upF];split
    ·show acc.length≤_;omega
    ·refine ih _ _ _ (zG t (by omega)) (dE t (by omega)) (by omega) hn ?_
     obtain⟨m,rfl⟩:=Int.eq_ofNat_of_zero_le (show 0≤n by omega);have hl:=hln (by omega);have hk:=wf.bd.k _ (List.getElem_mem (show m<t.nodes.length by omega))
     have:(zy (t.nd m) last m).length≤1000002:=by
      rw[t.nd_at (by omega)];simp only[zy,List.length_append];split<;>split<;>simp<;>omega
     simp only[List.length_append];omega
 have h1:=key (t.nodes.length+1) node (parent t node) [] (zG t (by omega)) (dE t (by omega)) (by omega) (by omega) (by simp);have h2:(t.items.filter fun it=>decide (it<(aZ t node).2)&&zi t it).length≤t.items.length:=List.length_filter_le _ _;have h3:=wf.bd.i;simp only[sight,List.length_append];have h4:(aZ t node).1.length≤2000000*1000000:=h1;omega
def visible(t:Tr)(node:Int):List Int:=bA ((sight t node).filter fun d=>nearest t node (t.nd d).text==d&&suits 3 (t.nd d).kind)
end
end Go.Proofs.YtipjhljnkocioaaGreatDoor
