/- Part of a proof. -/
import Derived.Test.YtokdgiphdnjeoaaGreatDoorQ12
set_option maxRecDepth 100000
set_option maxHeartbeats 8000000
set_option linter.unusedVariables false
set_option linter.unusedSimpArgs false
namespace Go.Proofs.YtokdgiphdnjeoaaGreatDoor
section
open Go.RowKit
def dV(t:Tr):Nat→Nat→Option (Nat×Int)
 |0,_=>none
 |f+1,k=>if aQ t k != 0 then some (k,aQ t k)else dV t f (k+1)
def zc(t:Tr):List Int×Int×Int:=
 if zJ t != 0 then ([],0,zJ t)else
 match dV t t.nodes.length 0 with
 |some (k,e)=>([],k,e)
 |none=>((List.range t.nodes.length).map (fun k:Nat=>means t (k:Int)),0,0)
def nH(w:World)(p:List Int×Int×Int)(e:Ending)(w':World):Prop:=
 ∃a c,e=.returned (.tuple #[.agg #[.slice a p.1.length c],intV p.2.1,intV p.2.2])∧w'.ownsRow w.heap.size 3 1 (.slice a p.1.length c) p.1.length (zm p.1)∧Below w.heap.size w w'
def renB(l:List Int)(node:Int)(i:Nat):Bool:=(i:Int)==node||l.getD i 0==node
def renK(ns:List Nd)(l:List Int)(node:Int)(name:List UInt8)(k:Nat):List Nd:=ns.mapIdx fun i d=>if decide (i<k)&&renB l node i then { d with text:=name } else d
def renT(t:Tr)(l:List Int)(node:Int)(name:List UInt8):Tr:=⟨renK t.nodes l node name t.nodes.length,t.items⟩
theorem eF(ns:List Nd)(l:List Int)(node:Int)(name:List UInt8)(k:Nat):(renK ns l node name k).length=ns.length:=by simp[renK]
theorem jW(ns:List Nd)(l:List Int)(node:Int)(name:List UInt8)(k:Nat){i:Nat}(h:i<ns.length):(renK ns l node name k)[i]'(by rw[eF];exact h)=if decide (i<k)&&renB l node i then { ns[i]with text:=name } else ns[i]:=by simp[renK]
theorem dA(t:Tr)(l:List Int)(node:Int)(name:List UInt8):(renT t l node name).nodes.length=t.nodes.length:=eF _ _ _ _ _
theorem MQ{t:Tr}{l:List Int}{node:Int}{name:List UInt8}(bd:Bd t)(hn:name.length≤1000000000):Bd (renT t l node name):=by
 refine⟨by rw[dA];exact bd.n,bd.i,fun d hd=>?_,fun d hd=>?_⟩
 ·obtain⟨i,hi,rfl⟩:=List.getElem_of_mem hd
  have hi':i<t.nodes.length:=by rw[dA]at hi;exact hi
  have hb:=bd.k _ (List.getElem_mem hi');simp only[renT];rw[jW _ _ _ _ _ hi'];split
  ·exact hb
  ·exact hb
 ·obtain⟨i,hi,rfl⟩:=List.getElem_of_mem hd
  have hi':i<t.nodes.length:=by rw[dA]at hi;exact hi
  have hb:=bd.s _ (List.getElem_mem hi');simp only[renT];rw[jW _ _ _ _ _ hi'];split
  ·exact hn
  ·exact hb
def iH(t:Tr)(l:List Int)(node:Int)(name:List UInt8):Option Tr:=
 if (zc (renT t l node name)).2.2 != 0 || !((zc (renT t l node name)).1==l)then none else some (renT t l node name)
theorem qU:∀(ns:List Nd) (ks:List (Option Addr×Nat)) (k:Nat) (hk:k<ns.length) (name:List UInt8),ks.length=ns.length→zI (ns.set k { ns[k]with text:=name }) ks=(zI ns ks).set (k*5+1) (strV name)
 |d::ns,a::ks,0,_,name,_=>by simp[zI,Nd.cells]
 | d::ns,a::ks,k+1,hk,name,h=>by
   simp only[List.set_cons_succ,zI,List.getElem_cons_succ];rw[qU ns ks k (by simpa using hk) name (by simpa using h)];have e:(k+1)*5+1=(d.cells a).length+(k*5+1):=by simp[Nd.cells];omega
   rw[e,List.set_append_right _ _ (by omega)];simp
 | [],_,_,hk,_,_=>by simp at hk
 |_::_,[],_,_,_,h=>by simp at h
theorem OwnN.setText{w:World}{B nb c:Nat}{ns:List Nd}{ks:List (Option Addr×Nat)}(h:OwnN w B (some ⟨nb,0,none⟩) c ns ks){k:Nat}(hk:k<ns.length)(name:List UInt8) :
 OwnN (w.setCell ⟨nb,k*5+1,none⟩ (strV name)) B (some ⟨nb,0,none⟩) c (ns.set k { ns[k]with text:=name }) ks:=by
 refine⟨by simp[h.len],?_,fun i hi hik=>?_⟩
 ·have:=(h.own.stored (k*5+1) (strV name)).1
  rw[←qU ns ks k hk name h.len]at this;simpa using this
 ·have hi':i<ns.length:=by simpa using hi
  have hkr:=h.kids i hi' hik
  have e:(ns.set k { ns[k]with text:=name })[i].kids=ns[i].kids:=by
   rw[List.getElem_set];split
   ·rename_i e;subst e;rfl
   ·rfl
  rw[e];exact⟨aA hkr.1 _ fun h0 x ex=>(hkr.2 h0 x ex).2 ⟨nb,0,none⟩ rfl,hkr.2⟩
theorem OwnN.at{w:World}{B c:Nat}{a:Option Addr}{ns:List Nd}{ks:List (Option Addr×Nat)}(h:OwnN w B a c ns ks)(h0:0<ns.length) :
 ∃nb,a=some ⟨nb,0,none⟩∧B≤nb∧nb<w.heap.size∧(∀j,w.frozen? ⟨nb,j,none⟩=false):=by
 rcases h.own.2 with⟨h',h1⟩|⟨g,cap,cur,h',hb,hg,_⟩
 ·have:=h.own.1
  rw[h1]at this;simp at this;omega
 ·simp only[Value.slice.injEq,true_and]at h'
  obtain⟨rfl,rfl⟩:=h';exact⟨g,rfl,hb,(Array.getElem?_eq_some_iff.1 hg).1,fun i=>h.own.frozenAt i⟩
abbrev boxW(w:World)(a:Option Addr)(n c:Nat)(a2:Option Addr)(m c2:Nat):World:=w.alloc (.cells #[.slice a n c,.slice a2 m c2] 25)
theorem yC(W:World)(a:Option Addr)(n c:Nat)(a2:Option Addr)(m c2:Nat){k:Nat}(hk:W.heap.size=k) :
 (boxW W a n c a2 m c2).cell? ⟨k,0,none⟩=some (.slice a n c)∧(boxW W a n c a2 m c2).cell? ⟨k,1,none⟩=some (.slice a2 m c2)∧∀j,(boxW W a n c a2 m c2).frozen? ⟨k,j,none⟩=false:=by
 subst hk;exact⟨by simp,by simp,by simp⟩
end
end Go.Proofs.YtokdgiphdnjeoaaGreatDoor
