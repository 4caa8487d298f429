/- Part of a proof. -/
import Derived.Test.YtipjhljnkocioaaGreatDoorP21
set_option maxRecDepth 100000
set_option maxHeartbeats 8000000
set_option linter.unusedVariables false
set_option linter.unusedSimpArgs false
namespace Go.Proofs.YtipjhljnkocioaaGreatDoor
section
open Go.RowKit
def gB(t:Tr):Nat→Int→Int→List (Int×Int)
 |0,_,_=>[]
 |f+1,kid,up=>if up<0 then []else (kid,up)::gB t f up (parent t up)
def jO(t:Tr)(kid up:Int):List (Int×Int):=gB t (t.nodes.length+1) kid up
def bB(t:Tr)(node:Int):List (Int×Int):=jO t node (parent t node)
def zY(t:Tr)(kid up:Int):List Int:=
 if (t.nd up).kids[(t.nd up).kids.length-1]?==some kid then
  (if (t.nd up).kind==20 then [up]else if (t.nd up).kind==42 then (t.nd up).kids.take ((t.nd up).kids.length-2)++[up]else [])
 else []
theorem oX{α:Type}(t:Tr)(h:Int→Int→List α):∀(f:Nat) (last n:Int) (acc:List α),(upF t (fun last n acc=>acc++h last n) f last n acc).1=acc++(gB t f last n).flatMap (fun p=>h p.1 p.2)
 |0,last,n,acc=>by simp[upF,gB]
 | f+1,last,n,acc=>by
   rw[upF,gB];by_cases hn:n<0
   ·rw[if_pos hn,if_pos hn];simp
   ·rw[if_neg hn,if_neg hn,oX t h f]
    simp
theorem wK(t:Tr)(f:Nat)(last n:Int):gB t f last n=(upF t (fun last n acc=>acc++[(last,n)]) f last n []).1:=by
 rw[oX t (fun last n=>[(last,n)])];simp
theorem vE(t:Tr)(last:Int){n:Int}(h:n<t.nodes.length):jO t last n=if n<0 then []else (last,n)::jO t n (parent t n):=by
 unfold jO;rw[gB];by_cases hn:n<0
 ·rw[if_pos hn,if_pos hn]
 ·rw[if_neg hn,if_neg hn]
  congr 1;rw[wK,wK];congr 1;by_cases hp:0≤parent t n
  ·obtain⟨m,rfl⟩:=Int.eq_ofNat_of_zero_le (show 0≤n by omega)
   obtain⟨p,hp1,hp2⟩:=aT t m hp;have hp3:=dD t m hp;refine DU t _ _ _ _ _ _ ?_ ?_ ?_<;>rw[hp1]<;>rw[hp1]at hp3<;>simp at *<;>omega
  ·have hp:parent t n<0:=by omega
   cases hl:t.nodes.length<;>simp[upF,hp]
theorem yD(t:Tr)(last:Int){n:Int}(h:n<0):jO t last n=[]:=by unfold jO;rw[gB,if_pos h]
theorem yE(t:Tr)(last:Int){n:Int}(h0:0≤n)(h:n<t.nodes.length):jO t last n=(last,n)::jO t n (parent t n):=by
 rw[vE t last h,if_neg (by omega)]
theorem lM{t:Tr}:∀(f:Nat) (last n:Int) (p:Int×Int),p∈gB t f last n→n<t.nodes.length→0≤p.2∧p.2<t.nodes.length∧(p.1=last∨0≤p.1∧p.1<t.nodes.length)
 |0,last,n,p,h,_=>by simp[gB]at h
 | f+1,last,n,p,h,hn=>by
   rw[gB]at h;by_cases h0:n<0
   ·rw[if_pos h0]at h;simp at h
   ·rw[if_neg h0]at h
    rcases List.mem_cons.1 h with rfl|h
    ·exact⟨by omega,hn,.inl rfl⟩
    ·obtain⟨h1,h2,h3⟩:=lM f _ _ p h (zG t (by omega))
     exact⟨h1,h2,.inr (h3.elim (fun e=>by rw[e];omega) id)⟩
theorem tZ{t:Tr}(wf:WF t)(kid:Int){up:Int}(h0:0≤up)(h1:up<t.nodes.length):zY t kid up=zy (t.nd up) kid up:=by
 obtain⟨m,rfl⟩:=Int.eq_ofNat_of_zero_le h0;have hm:m<t.nodes.length:=by omega
 have hl:=wf.letK m hm;have hnd:=t.nd_at hm;unfold zY zy;rw[hnd];cases h20:(t.nodes[m].kind==20)with
 | true=>
   have h2:=hl (by simpa using h20);have h42:(t.nodes[m].kind==42)=false:=by rw[beq_iff_eq]at h20;rw[h20];rfl
   rw[h2,h42];simp
 | false=>
   cases h42:(t.nodes[m].kind==42)<;>simp
theorem wA{t:Tr}(wf:WF t){node:Int}(h0:0≤node):(aZ t node).1=(bB t node).flatMap (fun p=>zY t p.1 p.2):=by
 unfold aZ upw bB jO;rw[oX t (fun last n=>zy (t.nd n) last n),List.nil_append]
 have key:∀l:List (Int×Int),(∀p∈l,0≤p.2∧p.2<t.nodes.length)→l.flatMap (fun p=>zy (t.nd p.2) p.1 p.2)=l.flatMap (fun p=>zY t p.1 p.2):=by
  intro l
  induction l with
  |nil=>intro _;rfl
  | cons p l ih=>
    intro h;rw[List.flatMap_cons,List.flatMap_cons,ih (fun q hq=>h q (List.mem_cons_of_mem _ hq)),tZ wf _ (h p (by simp)).1 (h p (by simp)).2]
 exact key _ fun p hp=>by
  obtain⟨h1,h2,_⟩:=lM _ _ _ p hp (zG t h0);exact⟨h1,h2⟩
theorem tQ{t:Tr}(wf:WF t){node:Int}(h0:0≤node):zB t node=(bB t node).flatMap (fun p=>zY t p.1 p.2)++(t.items.filter fun it=>decide (it<node)&&zi t it).reverse:=by
 unfold zB;rw[wA wf h0]
def visF(t:Tr):List (List UInt8)→List Int→List Int
 |_,[]=>[]
 |seen,d::r=>(if !seen.contains (t.nd d).text&&suits 3 (t.nd d).kind then [d]else [])++visF t ((t.nd d).text::seen) r
theorem Good.paramKind{t:Tr}{S:List Int}(G:Good t S){i:Nat}(hi:i<t.nodes.length)(c42:(t.nd i).kind=42){x:Nat}(hx:x<(t.nd i).kids.length)(hx2:x<(t.nd i).kids.length-2):(t.nd (t.nd i).kids[x]).kind=34:=by
 have hr:=G.right i hi;simp only[bR,iE,Bool.and_eq_true]at hr;have h1:=List.all_eq_true.1 hr.2 x (List.mem_range.2 hx);simp only[kZ,Bool.and_eq_true,List.getD_eq_getElem?_getD,List.getElem?_eq_getElem hx,Option.getD_some]at h1;have h1:=h1.1;unfold kidK at h1;rw[if_neg (by simp[c42]),if_neg (by simp[c42]),if_neg (by simp[c42]),if_neg (by simp[c42]),if_pos (by simp[c42])]at h1;rw[if_neg (by simp;omega),if_neg (by simp;omega)]at h1;simpa using h1
theorem xB{t:Tr}{S:List Int}(wf:WF t)(G:Good t S):∀(f last:Nat) (acc:List Int),last<t.nodes.length→acc.Nodup→(∀x∈acc,(t.nd x).kind=20∧x≤(last:Int)) →
 (upF t (fun last n acc=>acc++zy (t.nd n) last n) f last (parent t last) acc).1.Nodup∧∀x∈(upF t (fun last n acc=>acc++zy (t.nd n) last n) f last (parent t last) acc).1,(t.nd x).kind=20∨(t.nd x).kind=34∨(t.nd x).kind=42∧(last:Int)≤x
 |0,last,acc,hl,hnd,ha=>⟨hnd,fun x hx=>.inl (ha x hx).1⟩
 | f+1,last,acc,hl,hnd,ha=>by
   rw[upF];by_cases hp:parent t last<0
   ·rw[if_pos hp]
    exact⟨hnd,fun x hx=>.inl (ha x hx).1⟩
   ·rw[if_neg hp]
    obtain⟨i,he,hi,hm⟩:=zO (show 0≤parent t last by omega);have hk:=G.kid hi _ hm;rw[he];by_cases c42:(t.nd i).kind=42
    ·have hit:(i:Int)∈t.items:=by
      apply Classical.byContradiction;intro hn;obtain⟨j,_,hj,hmj⟩:=zO (G.parent_yes hi hn);have:=G.kidKind hj hmj;rw[c42]at this;simp[dN]at this
     have hend:∀a,(upF t (fun last n acc=>acc++zy (t.nd n) last n) f i (parent t i) a).1=a:=fun a=>by
      cases f with
      |zero=>rfl
      |succ f=>rw[upF,if_pos (by rw[G.noParent hit];omega)]
     rw[hend];unfold zy;rw[if_neg (by simp[c42]),List.nil_append];by_cases hc:((t.nd i).kind==42&&(t.nd i).kids[(t.nd i).kids.length-1]?==some (last:Int))=true
     ·rw[if_pos hc]
      have hpar:∀x∈(t.nd i).kids.take ((t.nd i).kids.length-2),(t.nd x).kind=34∧x<(i:Int):=by
       intro x hx;obtain⟨k,hk,rfl⟩:=List.getElem_of_mem hx;rw[List.getElem_take];have hk2:k<(t.nd i).kids.length-2∧k<(t.nd i).kids.length:=by simp at hk;omega
       exact⟨G.paramKind hi c42 hk2.2 hk2.1,(G.kid hi _ (List.getElem_mem hk2.2)).2.2.1⟩
      refine⟨?_,?_⟩
      ·rw[List.nodup_append]
       refine⟨hnd,?_,?_⟩
       ·rw[List.nodup_append]
        refine⟨((G.kidsAsc hi).imp (fun h=>by omega)).sublist (List.take_sublist _ _),by simp,fun a ha b hb=>?_⟩;obtain rfl:=List.mem_singleton.1 hb;have:=(hpar a ha).2;omega
       ·intro a ha' b hb e
        subst e;rcases List.mem_append.1 hb with hb|hb
        ·have:=(ha a ha').1;have:=(hpar a hb).1;omega
        ·obtain rfl:=List.mem_singleton.1 hb
         have:=(ha _ ha').1;omega
      ·intro x hx
       rcases List.mem_append.1 hx with hx|hx
       ·exact .inl (ha x hx).1
       ·rcases List.mem_append.1 hx with hx|hx
        ·exact .inr (.inl (hpar x hx).1)
        ·obtain rfl:=List.mem_singleton.1 hx
         exact .inr (.inr ⟨c42,by omega⟩)
     ·rw[if_neg hc,List.append_nil]
      exact⟨hnd,fun x hx=>.inl (ha x hx).1⟩
    ·have hsa:zy (t.nd i) last i=if (t.nd i).kind==20&&(t.nd i).kids[1]?==some (last:Int)then [(i:Int)]else []:=by
      unfold zy;rw[show((t.nd i).kind==42)=false by simpa using c42,Bool.false_and,if_neg Bool.false_ne_true,List.append_nil]
     have:=xB wf G f i (acc++zy (t.nd i) last i) hi (by
      rw[hsa];split
      ·rw[List.nodup_append]
       refine⟨hnd,by simp,fun a ha' b hb e=>?_⟩;obtain rfl:=List.mem_singleton.1 hb;have:=(ha a ha').2;omega
      ·rw[List.append_nil];exact hnd) (by
      intro x hx;rcases List.mem_append.1 hx with hx|hx
      ·exact⟨(ha x hx).1,by have:=(ha x hx).2;omega⟩
      ·rw[hsa]at hx
       split at hx
       ·rename_i hc
        obtain rfl:=List.mem_singleton.1 hx;rw[Bool.and_eq_true,beq_iff_eq]at hc;exact⟨hc.1,Int.le_refl _⟩
       ·cases hx)
     refine⟨this.1,fun x hx=>?_⟩;rcases this.2 x hx with h|h|⟨h1,h2⟩
     ·exact .inl h
     ·exact .inr (.inl h)
     ·exact .inr (.inr ⟨h1,by omega⟩)
theorem fQ{t:Tr}{S:List Int}(wf:WF t)(G:Good t S){node:Nat}(hn:node<t.nodes.length):(zB t node).Nodup:=by
 have h:=xB wf G (t.nodes.length+1) node [] hn List.nodup_nil (fun x h=>by cases h);have hu:(aZ t node).1=(upF t (fun last n acc=>acc++zy (t.nd n) last n) (t.nodes.length+1) node (parent t node) []).1:=rfl;unfold zB;rw[hu,List.nodup_append];refine⟨h.1,?_,?_⟩
 ·unfold List.Nodup
  rw[List.pairwise_reverse];exact(G.itemsAsc.sublist List.filter_sublist).imp (fun h=>by omega)
 ·intro a ha b hb e
  subst e;simp only[List.mem_reverse,List.mem_filter,Bool.and_eq_true,decide_eq_true_eq]at hb;have hk:=(G.item a hb.1).2.2.2.2;rcases h.2 a ha with h|h|⟨_,h⟩
  ·rw[h]at hk;simp[dN]at hk
  ·rw[h]at hk;simp[dN]at hk
  ·omega
end
end Go.Proofs.YtipjhljnkocioaaGreatDoor
