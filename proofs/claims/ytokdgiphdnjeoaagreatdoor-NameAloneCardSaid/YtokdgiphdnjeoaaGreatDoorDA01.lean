/- Part of a proof. -/
import Derived.Test.YtokdgiphdnjeoaaGreatDoorQ09
set_option maxRecDepth 100000
set_option maxHeartbeats 8000000
set_option linter.unusedVariables false
set_option linter.unusedSimpArgs false
open Go.Proofs.Tryz
namespace Go.Proofs.YtokdgiphdnjeoaaGreatDoor
section
open Go.RowKit
theorem PJ{l:List Int}{k:Nat}{n:Int}(h:k<l.length):hasI (l.take (k+1)) n=(hasI (l.take k) n||n==l[k]):=by
 unfold hasI;rw[List.take_succ_eq_append_getElem h];simp only[List.contains_append,List.contains_cons,List.contains_nil,Bool.or_false]
theorem QB{l:List Int}{k:Nat}(h:k<l.length):hasI l l[k]=true:=by
 unfold hasI;simp
theorem PV:prog.underlying 23=some (.slice (prog.elem 23)):=by kernel_rfl
theorem PM(W:World):(sizeOf (prog.elem 23)).run prog W=.ok 1 W:=by kernel_rfl
theorem OX{α:Type}(t:Tr)(g:Int→Int→α→α)(last:Int){n:Int}(acc:α)(h:n<t.nodes.length):upw t g last n acc=if n<0 then (acc,last)else upw t g n (parent t n) (g last n acc):=by
 unfold upw;rw[upF];by_cases hn:n<0
 ·rw[if_pos hn,if_pos hn]
 ·rw[if_neg hn,if_neg hn]
  by_cases hp:0≤parent t n
  ·obtain⟨m,rfl⟩:=Int.eq_ofNat_of_zero_le (show 0≤n by omega)
   obtain⟨p,hp1,hp2⟩:=cG t m hp;have hp3:=dX t m hp;refine GH t g _ _ _ _ _ ?_ ?_ ?_<;>rw[hp1]<;>rw[hp1]at hp3<;>simp at *<;>omega
  ·have:parent t n<0:=by omega
   cases hl:t.nodes.length<;>simp[upF,this]
end
end Go.Proofs.YtokdgiphdnjeoaaGreatDoor
