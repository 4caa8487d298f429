/- Part of a proof. -/
import Derived.Test.YtipjhljnkocioaaGreatDoorC39
import Derived.Test.YtipjhljnkocioaaGreatDoorDS04
set_option maxRecDepth 100000
set_option maxHeartbeats 8000000
set_option linter.unusedVariables false
set_option linter.unusedSimpArgs false
open Go.Proofs.Tryz
namespace Go.Proofs.YtipjhljnkocioaaGreatDoor
section
open Go Go.RowKit
theorem OP{t:Tr}(h:(zc t).2.2=0):Resolved t:=by
 by_cases hc:aU t=0
 ·refine⟨hc,?_⟩
  suffices hs:∀f m,m<f→m<t.nodes.length→cI t m=0 from fun m hm=>hs (m+1) m (by omega) hm
  intro f
  induction f with
  |zero=>intro m hm;omega
  | succ f ih=>
    intro m hm hl;by_cases he:cI t m=0
    ·exact he
    ·exfalso
     have:=pQ hc hl (fun j hj=>ih j (by omega) (by omega)) he;rw[this]at h;exact he h
 ·exfalso
  unfold zc at h;rw[if_pos (by simpa using hc)]at h;exact hc h
theorem PG{t:Tr}(bd:Bd t)(h:(zc t).2.2=0):WF t∧Good t (dB t):=⟨zT bd (OP h).check,fS (aX (OP h).check)⟩
theorem PU{t:Tr}{S:List Int}(G:Good t S){i:Nat}(hi:i<t.nodes.length):eC t i=aH (t.nd i).kind:=by
 have hr:=G.right i hi;unfold cB okK at hr;unfold eC aH fJ dH at *;by_cases h1:1≤(t.nd i).kind
 ·simp[h1]
 ·exfalso
  have e1:((t.nd (i:Int)).kind==25)=false:=by rw[beq_eq_false_iff_ne];omega
  have e2:((t.nd (i:Int)).kind==34)=false:=by rw[beq_eq_false_iff_ne];omega
  simp[h1,e1,e2,show ¬30≤(t.nd (i:Int)).kind by omega,show ¬40≤(t.nd (i:Int)).kind by omega]at hr
def inT(t:Tr)(node:Int):Bool:=decide (0≤node)&&decide (node<t.nodes.length)
theorem CK(v:TreeV)(t:Tr)(node:Int)(w:World):Calls prog 23 #[v.val t,intV node] w (zn w (inT t node)):=by
 unfold TreeV.val;by_cases h0:0≤node
 ·by_cases h1:node<t.nodes.length
  ·go_enter func23,ntmps23
   go_wp2;go_ret;exact⟨za (by simp[inT,h0,h1]),boxT_below⟩
  ·go_enter func23,ntmps23
   go_wp2;go_ret;exact⟨za (by simp[inT,h0,h1]),boxT_below⟩
 ·go_enter func23,ntmps23
  go_wp2;go_ret;exact⟨za (by simp[inT,h0];intro;omega),boxT_below⟩
theorem ON{t:Tr}{k:Nat}(h:(zc t).2.2=0)(hk:k<t.nodes.length)(q:Int→Bool):aG t k q=if q k then 0 else 7:=by
 unfold aG;rw[h,show decide ((k:Int)<0)=false from decide_eq_false (by omega),show decide ((t.nodes.length:Int)≤k)=false from decide_eq_false (by omega)];cases q k<;>rfl
theorem OY{t:Tr}{node:Int}(h:(zc t).2.2=0)(hk:inT t node=false)(q:Int→Bool):aG t node q=7:=by
 unfold aG;unfold inT at hk;rw[h];by_cases h0:node<0
 ·simp[h0]
 ·have:¬node<t.nodes.length:=by intro hh;simp[hh]at hk;omega
  simp[show(t.nodes.length:Int)≤node by omega]
theorem OX{t:Tr}{node:Int}(h:(zc t).2.2≠0)(q:Int→Bool):aG t node q=(zc t).2.2:=by
 unfold aG;rw[if_pos (by simpa using h)]
end
end Go.Proofs.YtipjhljnkocioaaGreatDoor
