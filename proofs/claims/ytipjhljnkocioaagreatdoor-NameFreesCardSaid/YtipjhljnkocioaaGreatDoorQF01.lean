/- Part of a proof. -/
import Derived.Test.YtipjhljnkocioaaGreatDoorP09
set_option maxRecDepth 100000
set_option maxHeartbeats 8000000
set_option linter.unusedVariables false
set_option linter.unusedSimpArgs false
open Go.Proofs.Tryz
namespace Go.Proofs.YtipjhljnkocioaaGreatDoor
section
open Go.RowKit
theorem MA{l:List Int}{k:Nat}{n:Int}(h:k<l.length):hasI (l.take (k+1)) n=(hasI (l.take k) n||n==l[k]):=by
 unfold hasI;rw[List.take_succ_eq_append_getElem h];simp only[List.contains_append,List.contains_cons,List.contains_nil,Bool.or_false]
theorem MY{l:List Int}{k:Nat}(h:k<l.length):hasI l l[k]=true:=by
 unfold hasI;simp
theorem ML{α:Type}(t:Tr)(g:Int→Int→α→α)(last:Int){n:Int}(acc:α)(h:n<t.nodes.length):upw t g last n acc=if n<0 then (acc,last)else upw t g n (parent t n) (g last n acc):=by
 unfold upw;rw[upF];by_cases hn:n<0
 ·rw[if_pos hn,if_pos hn]
 ·rw[if_neg hn,if_neg hn]
  by_cases hp:0≤parent t n
  ·obtain⟨m,rfl⟩:=Int.eq_ofNat_of_zero_le (show 0≤n by omega)
   obtain⟨p,hp1,hp2⟩:=aT t m hp;have hp3:=dD t m hp;refine DU t g _ _ _ _ _ ?_ ?_ ?_<;>rw[hp1]<;>rw[hp1]at hp3<;>simp at *<;>omega
  ·have:parent t n<0:=by omega
   cases hl:t.nodes.length<;>simp[upF,this]
def visible(t:Tr)(node:Int):List Int:=bA ((sight t node).filter fun d=>nearest t node (t.nd d).text==d&&suits 3 (t.nd d).kind)
def LP(t:Tr)(l:List Int)(node:Int)(d:Nat):Bool:=!inside t d node&&(uses l d).any fun u=>inside t u node
def free(t:Tr)(l:List Int)(node:Int):List Int:=idxs (LP t l node) t.nodes.length
end
section
open Go Go.RowKit
theorem MT:prog.underlying 62=some (.slice 23):=by kernel_rfl
theorem MZ:(prog.info? 23).map (fun i=>(i.zero,i.size,i.bytes))=some (some (.slice none 0 0),1,24):=by kernel_rfl
def rowV(k:Option Addr×Nat)(l:List Int):Value:=.slice k.1 l.length k.2
def LS:List (Option Addr×Nat)→List (List Int)→List Value
 |k::ks,l::L=>rowV k l::LS ks L
 |_,_=>[]
theorem LQ:∀(ks:List (Option Addr×Nat)) (L:List (List Int)),ks.length=L.length→(LS ks L).length=L.length
 | [],[],_=>rfl
 |k::ks,l::L,h=>by simp[LS,LQ ks L (by simpa using h)]
 | [],_::_,h=>by simp at h
 |_::_,[],h=>by simp at h
theorem LW:∀(ks:List (Option Addr×Nat)) (L:List (List Int)) (k:Option Addr×Nat) (l:List Int),ks.length=L.length→LS (ks++[k]) (L++[l])=LS ks L++[rowV k l]
 | [],[],k,l,_=>rfl
 |a::ks,b::L,k,l,h=>by simp[LS,LW ks L k l (by simpa using h)]
 | [],_::_,_,_,h=>by simp at h
 |_::_,[],_,_,h=>by simp at h
theorem MC:∀(ks:List (Option Addr×Nat)) (L:List (List Int)) (i:Nat) (h:i<L.length) (k:i<ks.length),(LS ks L)[i]?=some (rowV ks[i] L[i])
 |k::ks,l::L,0,_,_=>rfl
 | k::ks,l::L,i+1,h,hk=>by
   rw[LS,List.getElem?_cons_succ];exact MC ks L i (by simpa using h) (by simpa using hk)
 | [],_,_,_,hk=>by simp at hk
 |_::_,[],_,h,_=>by simp at h
structure OwnL (w:World) (B:Nat) (a:Option Addr) (c:Nat) (L:List (List Int)) (ks:List (Option Addr×Nat)):Prop where
 len:ks.length=L.length
 own:w.ownsRow B 23 1 (.slice a L.length c) L.length (LS ks L)
 rows:∀i (h:i<L.length) (k:i<ks.length),KRow w B a ks[i] L[i]
theorem OwnL.below{w w':World}{B:Nat}{a:Option Addr}{c:Nat}{L:List (List Int)}{ks:List (Option Addr×Nat)}(h:OwnL w B a c L ks)(hb:Below w.heap.size w w'):OwnL w' B a c L ks:=
 ⟨h.len,zh h.own hb,fun i hi k=>(h.rows i hi k).below hb⟩
theorem OwnL.lt{w:World}{B:Nat}{a:Option Addr}{c:Nat}{L:List (List Int)}{ks:List (Option Addr×Nat)}(h:OwnL w B a c L ks):∀y,a=some y→B≤y.block∧y.block<w.heap.size:=fun y e=>by
 subst e;exact h.own.lt y.block rfl
theorem OwnL.at{w:World}{B:Nat}{a:Option Addr}{c:Nat}{L:List (List Int)}{ks:List (Option Addr×Nat)}(h:OwnL w B a c L ks){i:Nat}(hi:i<L.length) :
 ∃b o ka kc,a=some ⟨b,o,none⟩∧b<w.heap.size∧w.cell? ⟨b,o+i,none⟩=some (.slice ka L[i].length kc)∧Ints w ka kc L[i]:=by
 obtain⟨a',c',e,hr⟩:=aQ h.own;simp at e;obtain⟨rfl,rfl⟩:=e;have hk:i<ks.length:=by have:=h.len;omega
 obtain⟨b,o,rfl,hb,hc⟩:=hr.some (by omega);have hl:i<(LS ks L).length:=by rw[LQ _ _ h.len];exact hi
 have hg:=MC ks L i hi hk;rw[List.getElem?_eq_getElem hl]at hg;exact⟨b,o,ks[i].1,ks[i].2,rfl,hb,by rw[hc i hl,Option.some.inj hg];rfl,(h.rows i hi hk).1⟩
theorem OwnL.snoc{W w':World}{B:Nat}{a a':Option Addr}{c c':Nat}{L:List (List Int)}{ks:List (Option Addr×Nat)}(h:OwnL W B a c L ks){l:List Int}{k:Option Addr×Nat}(hk:KRow W B a k l)
 (hown:w'.ownsRow B 23 1 (.slice a' (L.length+1) c') (L.length+1) (LS ks L++[rowV k l]))(hg:W.grownBy w' (Value.slice a L.length c).ownBlock)(hw:∀p,a'=some p→a=some p∨W.heap.size≤p.block) :
 OwnL w' B a' c' (L++[l]) (ks++[k]):=by
 have key:∀{k:Option Addr×Nat}{kids:List Int},KRow W B a k kids→KRow w' B a' k kids:=by
  intro k kids ⟨⟨h1,h2,h3,h4⟩,h5⟩;by_cases h0:0<kids.length
  ·rcases h4 with h4|⟨b,o,e,hlt,hc⟩
   ·omega
   ·obtain⟨h6,h7⟩:=h5 h0 _ e
    refine⟨⟨h1,h2,h3,.inr ⟨b,o,e,Nat.lt_of_lt_of_le hlt hg.size,fun i hi=>?_⟩⟩,fun _ x ex=>?_⟩
    ·have hb:w'.heap[b]?=W.heap[b]?:=hg.block b hlt (by
      cases a with
      |none=>simp[Value.ownBlock]
      |some y=>have:=h7 y rfl;simp[Value.ownBlock];exact this)
     exact(World.cell?_of_block (a:=⟨b,o+i,none⟩) hb).trans (hc i hi)
    ·rw[e]at ex
     obtain rfl:=Option.some.inj ex;refine⟨h6,fun y ey=>?_⟩;rcases hw y ey with h8|h8
     ·exact h7 y h8
     ·simp only;omega
  ·exact⟨⟨h1,h2,h3,.inl (by omega)⟩,fun h=>absurd h h0⟩
 refine⟨by simp[h.len],?_,fun i hi hik=>?_⟩
 ·rw[LW _ _ _ _ h.len,show(L++[l]).length=L.length+1 by simp]
  exact hown
 ·by_cases e:i<L.length
  ·have e2:i<ks.length:=by have:=h.len;omega
   rw[List.getElem_append_left e2,List.getElem_append_left e];exact key (h.rows i e e2)
  ·have hl:=h.len
   obtain rfl:i=L.length:=by simp at hi;omega
   rw[List.getElem_append_right (by omega),List.getElem_append_right (by omega)];simp[hl];exact key hk
theorem OwnL.new(W:World){n:Nat}(hn:W.heap.size=n):OwnL (W.alloc (.cells #[] 23)) n (some ⟨n,0,none⟩) 0 [] []:=
 ⟨rfl,cU W _ _ hn nlr,fun i h=>by simp at h⟩
theorem NC{W:World}{B B' c:Nat}{a x:Option Addr}{l:List Int}(h:W.ownsRow B' 3 1 (.slice x l.length c) l.length (zo l))(hB:B≤B')(ha:∀y,a=some y→y.block<B'):KRow W B a (x,c) l:=
 ⟨zq h,fun _ y e=>by
  have:=(h.lt y.block (by simp only at e;rw[e];rfl)).1
  exact⟨by omega,fun z ez=>by have:=ha z ez;omega⟩⟩
theorem ME{W:World}{ops:Array Oper}{rest:List Oper}{o:Oper}{a:Act}{Q:Exit→Act→World→Prop}(hgd:o.guard=none)(s x:Operand)
 (ho:o.op=.call { callee:=.builtin .append,args:=#[s,x],argTypes:=#[62,62] })
 {B:Nat}{av:Option Addr}{cv n:Nat}{L:List (List Int)}{ks:List (Option Addr×Nat)}(hs:a.eval s=.slice av n cv)(hn:L.length=n)(hown:OwnL W B av cv L ks)
 {ax:Option Addr}{c:Nat}{k:Option Addr×Nat}{l:List Int}(hx:a.eval x=.slice ax 1 c)(hr:Row 1 W ax 1 c [rowV k l])(hk:KRow W B av k l)
 (hbytes:n≤1000000000)(hB:B≤W.heap.size)
 (h:∀a' c' w',OwnL w' B a' c' (L++[l]) (ks++[k])→(∀B' A,B'≤B→Below B' A W→Below B' A w')→wpList prog ops Q rest (a.put o.dst (.slice a' (n+1) c')) w'):wpList prog ops Q (o::rest) a W:=by
 subst hn;refine cP hgd s x 62 23 (.slice none 0 0) 1 24 ho MT MZ rfl (by decide) hs hown.own hx hr (fun u hu=>?_) (by unfold maxLen;omega) (by omega) hB ?_
 ·rw[List.mem_singleton]at hu
  subst hu;rfl
 intro a' c' w' h1 h2 h3;exact h a' c' w' (hown.snoc hk h1 h2 h3) (cR hown.own h2 hB)
end
end Go.Proofs.YtipjhljnkocioaaGreatDoor
