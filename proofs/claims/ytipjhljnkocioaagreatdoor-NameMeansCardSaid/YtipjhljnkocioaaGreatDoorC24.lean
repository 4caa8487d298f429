/- Part of a proof. -/
import Derived.Test.YtipjhljnkocioaaGreatDoorC23
set_option maxRecDepth 100000
set_option maxHeartbeats 8000000
set_option linter.unusedVariables false
set_option linter.unusedSimpArgs false
namespace Go.Proofs.YtipjhljnkocioaaGreatDoor
section
open Go.RowKit
def fY(t:Tr):Nat→Int→Int→List (Int×Int)
 |0,_,_=>[]
 |f+1,kid,up=>if up<0 then []else (kid,up)::fY t f up (parent t up)
def jQ(t:Tr)(kid up:Int):List (Int×Int):=fY t (t.nodes.length+1) kid up
def aS(t:Tr)(node:Int):List (Int×Int):=jQ t node (parent t node)
def zU(t:Tr)(kid up:Int):List Int:=
 if (t.nd up).kids[(t.nd up).kids.length-1]?==some kid then
  (if (t.nd up).kind==20 then [up]else if (t.nd up).kind==42 then (t.nd up).kids.take ((t.nd up).kids.length-2)++[up]else [])
 else []
theorem pZ{α:Type}(t:Tr)(h:Int→Int→List α):∀(f:Nat) (last n:Int) (acc:List α),(upF t (fun last n acc=>acc++h last n) f last n acc).1=acc++(fY t f last n).flatMap (fun p=>h p.1 p.2)
 |0,last,n,acc=>by simp[upF,fY]
 | f+1,last,n,acc=>by
   rw[upF,fY];by_cases hn:n<0
   ·rw[if_pos hn,if_pos hn];simp
   ·rw[if_neg hn,if_neg hn,pZ t h f]
    simp
theorem yE(t:Tr)(f:Nat)(last n:Int):fY t f last n=(upF t (fun last n acc=>acc++[(last,n)]) f last n []).1:=by
 rw[pZ t (fun last n=>[(last,n)])];simp
theorem wW(t:Tr)(last:Int){n:Int}(h:n<t.nodes.length):jQ t last n=if n<0 then []else (last,n)::jQ t n (parent t n):=by
 unfold jQ;rw[fY];by_cases hn:n<0
 ·rw[if_pos hn,if_pos hn]
 ·rw[if_neg hn,if_neg hn]
  congr 1;rw[yE,yE];congr 1;by_cases hp:0≤parent t n
  ·obtain⟨m,rfl⟩:=Int.eq_ofNat_of_zero_le (show 0≤n by omega)
   obtain⟨p,hp1,hp2⟩:=bO t m hp;have hp3:=fD t m hp;refine GK t _ _ _ _ _ _ ?_ ?_ ?_<;>rw[hp1]<;>rw[hp1]at hp3<;>simp at *<;>omega
  ·have hp:parent t n<0:=by omega
   cases hl:t.nodes.length<;>simp[upF,hp]
theorem AZ(t:Tr)(last:Int){n:Int}(h:n<0):jQ t last n=[]:=by unfold jQ;rw[fY,if_pos h]
theorem BA(t:Tr)(last:Int){n:Int}(h0:0≤n)(h:n<t.nodes.length):jQ t last n=(last,n)::jQ t n (parent t n):=by
 rw[wW t last h,if_neg (by omega)]
theorem lY{t:Tr}:∀(f:Nat) (last n:Int) (p:Int×Int),p∈fY t f last n→n<t.nodes.length→0≤p.2∧p.2<t.nodes.length∧(p.1=last∨0≤p.1∧p.1<t.nodes.length)
 |0,last,n,p,h,_=>by simp[fY]at h
 | f+1,last,n,p,h,hn=>by
   rw[fY]at h;by_cases h0:n<0
   ·rw[if_pos h0]at h;simp at h
   ·rw[if_neg h0]at h
    rcases List.mem_cons.1 h with rfl|h
    ·exact⟨by omega,hn,.inl rfl⟩
    ·obtain⟨h1,h2,h3⟩:=lY f _ _ p h (zD t (by omega))
     exact⟨h1,h2,.inr (h3.elim (fun e=>by rw[e];omega) id)⟩
theorem vP{t:Tr}(wf:WF t)(kid:Int){up:Int}(h0:0≤up)(h1:up<t.nodes.length):zU t kid up=zH (t.nd up) kid up:=by
 obtain⟨m,rfl⟩:=Int.eq_ofNat_of_zero_le h0;have hm:m<t.nodes.length:=by omega
 have hl:=wf.letK m hm;have hnd:=t.nd_at hm;unfold zU zH;rw[hnd];cases h20:(t.nodes[m].kind==20)with
 | true=>
   have h2:=hl (by simpa using h20);have h42:(t.nodes[m].kind==42)=false:=by rw[beq_iff_eq]at h20;rw[h20];rfl
   rw[h2,h42];simp
 | false=>
   cases h42:(t.nodes[m].kind==42)<;>simp
theorem xV{t:Tr}(wf:WF t){node:Int}(h0:0≤node):(bQ t node).1=(aS t node).flatMap (fun p=>zU t p.1 p.2):=by
 unfold bQ upw aS jQ;rw[pZ t (fun last n=>zH (t.nd n) last n),List.nil_append]
 have key:∀l:List (Int×Int),(∀p∈l,0≤p.2∧p.2<t.nodes.length)→l.flatMap (fun p=>zH (t.nd p.2) p.1 p.2)=l.flatMap (fun p=>zU t p.1 p.2):=by
  intro l
  induction l with
  |nil=>intro _;rfl
  | cons p l ih=>
    intro h;rw[List.flatMap_cons,List.flatMap_cons,ih (fun q hq=>h q (List.mem_cons_of_mem _ hq)),vP wf _ (h p (by simp)).1 (h p (by simp)).2]
 exact key _ fun p hp=>by
  obtain⟨h1,h2,_⟩:=lY _ _ _ p hp (zD t h0);exact⟨h1,h2⟩
theorem vF{t:Tr}(wf:WF t){node:Int}(h0:0≤node):zz t node=(aS t node).flatMap (fun p=>zU t p.1 p.2)++(t.items.filter fun it=>decide (it<node)&&zl t it).reverse:=by
 unfold zz;rw[xV wf h0]
def visF(t:Tr):List (List UInt8)→List Int→List Int
 |_,[]=>[]
 |seen,d::r=>(if !seen.contains (t.nd d).text&&suits 3 (t.nd d).kind then [d]else [])++visF t ((t.nd d).text::seen) r
theorem Good.paramKind{t:Tr}{S:List Int}(G:Good t S){i:Nat}(hi:i<t.nodes.length)(c42:(t.nd i).kind=42){x:Nat}(hx:x<(t.nd i).kids.length)(hx2:x<(t.nd i).kids.length-2):(t.nd (t.nd i).kids[x]).kind=34:=by
 have hr:=G.right i hi;simp only[cB,lB,Bool.and_eq_true]at hr;have h1:=List.all_eq_true.1 hr.2 x (List.mem_range.2 hx);simp only[mF,Bool.and_eq_true,List.getD_eq_getElem?_getD,List.getElem?_eq_getElem hx,Option.getD_some]at h1;have h1:=h1.1;unfold kidK at h1;rw[if_neg (by simp[c42]),if_neg (by simp[c42]),if_neg (by simp[c42]),if_neg (by simp[c42]),if_pos (by simp[c42])]at h1;rw[if_neg (by simp;omega),if_neg (by simp;omega)]at h1;simpa using h1
theorem yX{t:Tr}{S:List Int}(wf:WF t)(G:Good t S):∀(f last:Nat) (acc:List Int),last<t.nodes.length→acc.Nodup→(∀x∈acc,(t.nd x).kind=20∧x≤(last:Int)) →
 (upF t (fun last n acc=>acc++zH (t.nd n) last n) f last (parent t last) acc).1.Nodup∧∀x∈(upF t (fun last n acc=>acc++zH (t.nd n) last n) f last (parent t last) acc).1,(t.nd x).kind=20∨(t.nd x).kind=34∨(t.nd x).kind=42∧(last:Int)≤x
 |0,last,acc,hl,hnd,ha=>⟨hnd,fun x hx=>.inl (ha x hx).1⟩
 | f+1,last,acc,hl,hnd,ha=>by
   rw[upF];by_cases hp:parent t last<0
   ·rw[if_pos hp]
    exact⟨hnd,fun x hx=>.inl (ha x hx).1⟩
   ·rw[if_neg hp]
    obtain⟨i,he,hi,hm⟩:=aK (show 0≤parent t last by omega);have hk:=G.kid hi _ hm;rw[he];by_cases c42:(t.nd i).kind=42
    ·have hit:(i:Int)∈t.items:=by
      apply Classical.byContradiction;intro hn;obtain⟨j,_,hj,hmj⟩:=aK (G.parent_yes hi hn);have:=G.kidKind hj hmj;rw[c42]at this;simp[dH]at this
     have hend:∀a,(upF t (fun last n acc=>acc++zH (t.nd n) last n) f i (parent t i) a).1=a:=fun a=>by
      cases f with
      |zero=>rfl
      |succ f=>rw[upF,if_pos (by rw[G.noParent hit];omega)]
     rw[hend];unfold zH;rw[if_neg (by simp[c42]),List.nil_append];by_cases hc:((t.nd i).kind==42&&(t.nd i).kids[(t.nd i).kids.length-1]?==some (last:Int))=true
     ·rw[if_pos hc]
      have hpar:∀x∈(t.nd i).kids.take ((t.nd i).kids.length-2),(t.nd x).kind=34∧x<(i:Int):=by
       intro x hx;obtain⟨k,hk,rfl⟩:=List.getElem_of_mem hx;rw[List.getElem_take];have hk2:k<(t.nd i).kids.length-2∧k<(t.nd i).kids.length:=by simp at hk;omega
       exact⟨G.paramKind hi c42 hk2.2 hk2.1,(G.kid hi _ (List.getElem_mem hk2.2)).2.2.1⟩
      refine⟨?_,?_⟩
      ·rw[List.nodup_append]
       refine⟨hnd,?_,?_⟩
       ·rw[List.nodup_append]
        refine⟨((G.kidsAsc hi).imp (fun h=>by omega)).sublist (List.take_sublist _ _),by simp,fun a ha b hb=>?_⟩;obtain rfl:=List.mem_singleton.1 hb;have:=(hpar a ha).2;omega
       ·intro a ha' b hb e
        subst e;rcases List.mem_append.1 hb with hb|hb
        ·have:=(ha a ha').1;have:=(hpar a hb).1;omega
        ·obtain rfl:=List.mem_singleton.1 hb
         have:=(ha _ ha').1;omega
      ·intro x hx
       rcases List.mem_append.1 hx with hx|hx
       ·exact .inl (ha x hx).1
       ·rcases List.mem_append.1 hx with hx|hx
        ·exact .inr (.inl (hpar x hx).1)
        ·obtain rfl:=List.mem_singleton.1 hx
         exact .inr (.inr ⟨c42,by omega⟩)
     ·rw[if_neg hc,List.append_nil]
      exact⟨hnd,fun x hx=>.inl (ha x hx).1⟩
    ·have hsa:zH (t.nd i) last i=if (t.nd i).kind==20&&(t.nd i).kids[1]?==some (last:Int)then [(i:Int)]else []:=by
      unfold zH;rw[show((t.nd i).kind==42)=false by simpa using c42,Bool.false_and,if_neg Bool.false_ne_true,List.append_nil]
     have:=yX wf G f i (acc++zH (t.nd i) last i) hi (by
      rw[hsa];split
      ·rw[List.nodup_append]
       refine⟨hnd,by simp,fun a ha' b hb e=>?_⟩;obtain rfl:=List.mem_singleton.1 hb;have:=(ha a ha').2;omega
      ·rw[List.append_nil];exact hnd) (by
      intro x hx;rcases List.mem_append.1 hx with hx|hx
      ·exact⟨(ha x hx).1,by have:=(ha x hx).2;omega⟩
      ·rw[hsa]at hx
       split at hx
       ·rename_i hc
        obtain rfl:=List.mem_singleton.1 hx;rw[Bool.and_eq_true,beq_iff_eq]at hc;exact⟨hc.1,Int.le_refl _⟩
       ·cases hx)
     refine⟨this.1,fun x hx=>?_⟩;rcases this.2 x hx with h|h|⟨h1,h2⟩
     ·exact .inl h
     ·exact .inr (.inl h)
     ·exact .inr (.inr ⟨h1,by omega⟩)
theorem mZ{t:Tr}{S:List Int}(wf:WF t)(G:Good t S){node:Nat}(hn:node<t.nodes.length):(zz t node).Nodup:=by
 have h:=yX wf G (t.nodes.length+1) node [] hn List.nodup_nil (fun x h=>by cases h);have hu:(bQ t node).1=(upF t (fun last n acc=>acc++zH (t.nd n) last n) (t.nodes.length+1) node (parent t node) []).1:=rfl;unfold zz;rw[hu,List.nodup_append];refine⟨h.1,?_,?_⟩
 ·unfold List.Nodup
  rw[List.pairwise_reverse];exact(G.itemsAsc.sublist List.filter_sublist).imp (fun h=>by omega)
 ·intro a ha b hb e
  subst e;simp only[List.mem_reverse,List.mem_filter,Bool.and_eq_true,decide_eq_true_eq]at hb;have hk:=(G.item a hb.1).2.2.2.2;rcases h.2 a ha with h|h|⟨_,h⟩
  ·rw[h]at hk;simp[dH]at hk
  ·rw[h]at hk;simp[dH]at hk
  ·omega
end
end Go.Proofs.YtipjhljnkocioaaGreatDoor
