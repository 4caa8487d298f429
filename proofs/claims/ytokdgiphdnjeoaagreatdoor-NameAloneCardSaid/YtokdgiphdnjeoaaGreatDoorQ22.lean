/- Part of a proof. -/
import Derived.Test.YtokdgiphdnjeoaaGreatDoorQ21
set_option maxRecDepth 100000
set_option maxHeartbeats 8000000
set_option linter.unusedVariables false
set_option linter.unusedSimpArgs false
open Go.Proofs.Tryz
namespace Go.Proofs.YtokdgiphdnjeoaaGreatDoor
section
open Go.RowKit
def ownF(t:Tr)(d:Int):Nat→Int→Int→Bool
 |0,_,_=>false
 |f+1,kid,up=>if up<0 then false else if up=d then (t.nd d).kids[(t.nd d).kids.length-1]?==some kid else ownF t d f up (parent t up)
def eW(t:Tr)(node d:Int):Bool:=ownF t d (t.nodes.length+1) node (parent t node)
theorem EU{t:Tr}{d:Int}:∀(f:Nat) (kid up:Int),ownF t d f kid up=true→0≤up∧up≤d
 |0,kid,up,h=>by cases h
 | f+1,kid,up,h=>by
   rw[ownF]at h;split at h
   ·cases h
   ·split at h
    ·omega
    ·have:=EU f _ _ h
     have:=dH t (n:=up) (by omega) this.1;omega
theorem mM{t:Tr}{d:Int}:∀(f:Nat) (kid up:Int),ownF t d f kid up=true→bY t d f up=true
 |0,kid,up,h=>by cases h
 | f+1,kid,up,h=>by
   rw[ownF]at h;rw[bY];split at h
   ·cases h
   ·rename_i h0
    rw[if_neg h0];split at h
    ·rename_i he;rw[if_pos he]
    ·rename_i he;rw[if_neg he];exact mM f _ _ h
theorem pC{t:Tr}{d:Int}:∀(f:Nat) (n:Int),bY t d f n=true→0≤n∧n≤d
 |0,n,h=>by cases h
 | f+1,n,h=>by
   rw[bY]at h;split at h
   ·cases h
   ·split at h
    ·omega
    ·have:=pC f _ h
     have:=dH t (n:=n) (by omega) this.1;omega
theorem vG{t:Tr}{S:List Int}(G:Good t S){d:Int}(hk:(t.nd d).kind=42):∀(f:Nat) (last n:Int) (acc:List Int),n<t.nodes.length →
 d∈(upF t (fun last n acc=>acc++zz (t.nd n) last n) f last n acc).1→d∈acc∨ownF t d f last n=true
 |0,last,n,acc,_,h=>.inl h
 | f+1,last,n,acc,hn,h=>by
   rw[upF]at h;by_cases h0:n<0
   ·rw[if_pos h0]at h;exact .inl h
   ·rw[if_neg h0]at h
    rw[ownF,if_neg h0];rcases vG G hk f _ _ _ (zD t (by omega)) h with h|h
    ·rcases List.mem_append.1 h with h|h
     ·exact .inl h
     ·right
      obtain⟨m,rfl⟩:=Int.eq_ofNat_of_zero_le (show 0≤n by omega);simp only[zz,List.mem_append]at h;rcases h with h|h
      ·split at h
       ·rename_i hc
        obtain rfl:=List.mem_singleton.1 h;rw[hk]at hc;simp at hc
       ·cases h
      ·split at h
       ·rename_i hc
        rcases List.mem_append.1 h with h|h
        ·have:=G.kidKind (show m<t.nodes.length by omega) (List.mem_of_mem_take h)
         rw[hk]at this;cases this
        ·obtain rfl:=List.mem_singleton.1 h
         rw[if_pos rfl];rw[Bool.and_eq_true]at hc;exact hc.2
       ·cases h
    ·right
     have:=EU f _ _ h;have:=dH t (n:=n) (by omega) this.1;rw[if_neg (by omega)];exact h
theorem NW{t:Tr}{S:List Int}(wf:WF t)(G:Good t S){node:Nat}(hn:node<t.nodes.length)(h21:(t.nd node).kind=21)(hm:means t node ≠ -1) :
 eW t node (means t node)=inside t node (means t node):=by
 have hs:=kR hm;rw[h21]at hs;have hk:(t.nd (means t node)).kind=42:=by simpa[suits]using hs
 have hd:means t node∈sight t node:=by
  unfold means at hm⊢;split
  ·rename_i h1
   rw[if_pos h1]at hm;split
   ·rename_i h2;rw[if_pos h2]at hm;exact absurd rfl hm
   ·rename_i h2
    simp only[Bool.or_eq_true,not_or,decide_eq_true_eq]at h2;have h3:=h2.1;unfold nearest at h3⊢;cases hf:(sight t node).find? (fun d=>(t.nd d).text==(t.nd node).text)with
    |none=>rw[hf]at h3;simp at h3
    |some x=>exact List.mem_of_find?_eq_some hf
  ·rename_i h1;rw[if_neg h1]at hm;exact absurd rfl hm
 obtain⟨d,e⟩:∃d,means t node=d:=⟨_,rfl⟩
 rw[e]at hk hd⊢;have hnd:¬(node:Int)=d:=by rintro rfl;rw[h21]at hk;cases hk
 have hin:inside t node d=bY t d t.nodes.length (parent t node):=by
  unfold inside;rw[bY,if_neg (by omega),if_neg hnd]
 have hin2:bY t d (t.nodes.length+1) (parent t node)=true→inside t node d=true:=by
  intro h;rw[hin];have h0:=(pC _ _ h).1;have h1:=dH t (n:=(node:Int)) (by omega) h0;rw[←mG t d (t.nodes.length+1) t.nodes.length _ (by omega) (by omega) (zD t (by omega))];exact h
 unfold sight at hd;rcases List.mem_append.1 hd with hd|hd
 ·rcases vG G hk _ _ _ _ (zD t (by omega)) hd with h|h
  ·cases h
  ·have h1:eW t node d=true:=h
   rw[h1,hin2 (mM _ _ _ h)]
 ·rw[G.ahead hn]at hd
  simp only[List.mem_filter,Bool.and_eq_true,decide_eq_true_eq]at hd
  have hno:inside t node d=false:=by
   rw[Bool.eq_false_iff];intro h;have:=(pC _ _ h).2;omega
  rw[hno,Bool.eq_false_iff];intro h;have:=hin2 (mM _ _ _ h);rw[hno]at this;cases this
def LJ(t:Tr)(ups:List Int)(node:Nat):Int:=
 if eI t ups node then 6
 else if !aV (t.nd node).kind then 0
 else if aU t node == -1 then 10
 else if (t.nd node).kind==21&&((t.nd (aU t node)).n==0&&eW t node (aU t node))then 9
 else if (t.nd node).kind==45&&(zg t node).contains (aU t node)then 9
 else 0
theorem IX{t:Tr}{S:List Int}{ups:List Int}(wf:WF t)(G:Good t S)(hu:IsUps t ups){node:Nat}(hn:node<t.nodes.length)(ha:∀m:Nat,m<node→aQ t m=0):LJ t ups node=aQ t node:=by
 unfold LJ aQ;rw[BL wf G hu hn];cases h1:(aX t node&&zh t node&&aN t node)with
 |true=>simp
 | false=>
   cases h2:((t.nd node).kind==34&&aO t node)with
   |true=>simp
   | false=>
     cases hk:aV (t.nd node).kind with
     |false=>simp
     | true=>
       rw[pO wf G hn (ET G ha) hk];have hr:=aJ wf (node:=node);by_cases hm:means t node = -1
       ·rw[hm];simp
       ·have h3:¬means t node<0:=by omega
        have h4:(means t node == -1)=false:=by simpa using hm
        rw[h4];simp only[Bool.or_self,Bool.false_eq_true,if_false,Bool.not_true,if_neg h3]
        have e1:((t.nd node).kind==21&&((t.nd (means t node)).n==0&&eW t node (means t node)))=((t.nd node).kind==21&&(t.nd (means t node)).n==0&&inside t node (means t node)):=by
         cases hx:((t.nd node).kind==21)with
         |false=>simp
         |true=>rw[NW wf G hn (by simpa using hx) hm];simp
        have e2:((t.nd node).kind==45&&(zg t node).contains (means t node))=((t.nd node).kind==45&&zT t node):=by
         cases hx:((t.nd node).kind==45)with
         |false=>simp
         |true=>rw[BU G hn (by simpa using hx) hm]
        rw[e1,e2]
theorem zP(t:Tr)(k:Nat):(zg t k).length=t.nodes.length:=by simp[zg]
theorem wY(t:Tr):zg t 0=List.replicate t.nodes.length (-1):=by
 unfold zg;refine List.ext_getElem (by simp) fun i h1 h2=>?_;simp
theorem bL(t:Tr):zg t t.nodes.length=(List.range t.nodes.length).map (fun k:Nat=>means t (k:Int)):=by
 unfold zg;refine List.map_congr_left fun i hi=>?_;have hi:=List.mem_range.1 hi
 cases hk:aV (t.nd i).kind with
 |true=>rw[if_pos ⟨hi,rfl⟩]
 |false=>rw[if_neg (fun h=>by cases h.2),fD hk]
theorem DY{t:Tr}{k:Nat}(h:aV (t.nd k).kind=false):zg t (k+1)=zg t k:=by
 unfold zg;refine List.map_congr_left fun i _=>?_;by_cases e:i=k
 ·subst e;rw[if_neg (fun hh=>by rw[h]at hh;cases hh.2),if_neg (fun hh=>by rw[h]at hh;cases hh.2)]
 ·by_cases hi:i<k∧aV (t.nd i).kind=true
  ·rw[if_pos hi,if_pos ⟨by omega,hi.2⟩]
  ·rw[if_neg hi,if_neg (fun hh=>hi ⟨by omega,hh.2⟩)]
theorem BF{t:Tr}{k:Nat}(hk:k<t.nodes.length)(h:aV (t.nd k).kind=true):zg t (k+1)=(zg t k).set k (means t k):=by
 refine List.ext_getElem (by simp[zg]) fun i h1 h2=>?_;rw[List.getElem_set];simp only[zg,List.getElem_map,List.getElem_range];by_cases e:k=i
 ·subst e;rw[if_pos rfl,if_pos ⟨by omega,h⟩]
 ·rw[if_neg e]
  by_cases hi:i<k∧aV (t.nd i).kind=true
  ·rw[if_pos hi,if_pos ⟨by omega,hi.2⟩]
  ·rw[if_neg hi,if_neg (fun hh=>hi ⟨by omega,hh.2⟩)]
def dS(t:Tr):Nat→List Int
 |0=>List.replicate t.nodes.length (-1)
 |k+1=>aH (dS t k) (k:Int) (t.nd k).kids
theorem cW(t:Tr):∀k,(dS t k).length=t.nodes.length
 |0=>by simp[dS]
 |k+1=>by rw[dS,gC,cW t k]
theorem mX{d:Int}{j:Nat}:∀(l o:List Int),j<o.length→(∀k∈l,0≤k)→(aH o d l).getD j 0=if (j:Int)∈l then d else o.getD j 0
 | [],o,_,_=>by simp[aH]
 | k::l,o,hj,hl=>by
   have hk:=hl k (by simp);rw[aH,mX l _ (by simpa using hj) (fun x hx=>hl x (List.mem_cons_of_mem _ hx))];by_cases h1:(j:Int)∈l
   ·rw[if_pos h1,if_pos (List.mem_cons_of_mem _ h1)]
   ·rw[if_neg h1,List.getD_eq_getElem?_getD,List.getElem?_set]
    by_cases h2:(j:Int)=k
    ·subst h2
     rw[if_pos (by simp),if_pos (by simpa using hj),if_pos (by simp)];rfl
    ·rw[if_neg (by omega),if_neg (by simp[h2,h1]),←List.getD_eq_getElem?_getD]
theorem yZ{t:Tr}{S:List Int}(G:Good t S){j:Nat}(hj:j<t.nodes.length):∀k,k≤t.nodes.length→(dS t k).getD j 0=if 0≤parent t j∧parent t j<k then parent t j else -1
 | 0,_=>by
   rw[if_neg (by omega),dS,List.getD_eq_getElem?_getD,List.getElem?_replicate,if_pos hj];rfl
 | k+1,hk=>by
   rw[dS,mX _ _ (by rw[cW];exact hj) (fun x hx=>(G.kid (show k<t.nodes.length by omega) x hx).2.2.2),yZ G hj k (by omega)];by_cases h1:(j:Int)∈(t.nd k).kids
   ·have:=G.parent_of (show k<t.nodes.length by omega) h1
    rw[if_pos h1,this,if_pos (by omega)]
   ·rw[if_neg h1]
    by_cases h2:0≤parent t j∧parent t j<k
    ·rw[if_pos h2,if_pos (by omega)]
    ·rw[if_neg h2,if_neg]
     rintro⟨h3,h4⟩;obtain⟨i,e,hi,hm⟩:=zF h3;have:i=k:=by omega
     subst this;exact h1 hm
theorem eS{t:Tr}{S:List Int}(G:Good t S):IsUps t (dS t t.nodes.length):=by
 intro j hj;rw[yZ G hj _ nlr];have h1:=bV t j;have h2:=zD t (n:=(j:Int)) (by omega);split<;>omega
theorem qI(s:Nat)(node:Int)(w:World) :
 Calls prog 203 #[.pointer (some ⟨s,0,none⟩),intV node] w fun e w'=>e=.returned (.func (.func 266) #[] #[.pointer (some ⟨w.heap.size,0,none⟩),.pointer (some ⟨w.heap.size+1,0,none⟩)])∧dI w (.pointer (some ⟨s,0,none⟩)) node=w':=by
 go_enter func203,ntmps203;go_wp2;go_ret;exact⟨rfl,rfl⟩
theorem oA(s:Nat)(node:Int)(w:World) :
 Calls prog 147 #[.pointer (some ⟨s,0,none⟩),intV node] w fun e w'=>e=.returned (.func (.func 202) #[] #[.pointer (some ⟨w.heap.size,0,none⟩),.pointer (some ⟨w.heap.size+1,0,none⟩)])∧dI w (.pointer (some ⟨s,0,none⟩)) node=w':=by
 go_enter func147,ntmps147;go_wp2;go_ret;exact⟨rfl,rfl⟩
theorem wE(s:Nat)(kid up:Int)(w:World) :
 Calls prog 204 #[.pointer (some ⟨s,0,none⟩),intV kid,intV up] w fun e w'=>e=.returned (.func (.func 267) #[] #[.pointer (some ⟨w.heap.size,0,none⟩),.pointer (some ⟨w.heap.size+1+1,0,none⟩),.pointer (some ⟨w.heap.size+1,0,none⟩)])∧(dI w (.pointer (some ⟨s,0,none⟩)) kid).alloc (.cells #[intV up] 3)=w':=by
 go_enter func204,ntmps204;go_wp2;go_ret;exact⟨rfl,rfl⟩
def gP(t:Tr):Nat→Int→Int→List (Int×Int)
 |0,_,_=>[]
 |f+1,kid,up=>if up<0 then []else (kid,up)::gP t f up (parent t up)
def kF(t:Tr)(kid up:Int):List (Int×Int):=gP t (t.nodes.length+1) kid up
def bH(t:Tr)(node:Int):List (Int×Int):=kF t node (parent t node)
def aB(t:Tr)(kid up:Int):List Int:=
 if (t.nd up).kids[(t.nd up).kids.length-1]?==some kid then
  (if (t.nd up).kind==20 then [up]else if (t.nd up).kind==42 then (t.nd up).kids.take ((t.nd up).kids.length-2)++[up]else [])
 else []
theorem qB{α:Type}(t:Tr)(h:Int→Int→List α):∀(f:Nat) (last n:Int) (acc:List α),(upF t (fun last n acc=>acc++h last n) f last n acc).1=acc++(gP t f last n).flatMap (fun p=>h p.1 p.2)
 |0,last,n,acc=>by simp[upF,gP]
 | f+1,last,n,acc=>by
   rw[upF,gP];by_cases hn:n<0
   ·rw[if_pos hn,if_pos hn];simp
   ·rw[if_neg hn,if_neg hn,qB t h f]
    simp
theorem yE(t:Tr)(f:Nat)(last n:Int):gP t f last n=(upF t (fun last n acc=>acc++[(last,n)]) f last n []).1:=by
 rw[qB t (fun last n=>[(last,n)])];simp
theorem wX(t:Tr)(last:Int){n:Int}(h:n<t.nodes.length):kF t last n=if n<0 then []else (last,n)::kF t n (parent t n):=by
 unfold kF;rw[gP];by_cases hn:n<0
 ·rw[if_pos hn,if_pos hn]
 ·rw[if_neg hn,if_neg hn]
  congr 1;rw[yE,yE];congr 1;by_cases hp:0≤parent t n
  ·obtain⟨m,rfl⟩:=Int.eq_ofNat_of_zero_le (show 0≤n by omega)
   obtain⟨p,hp1,hp2⟩:=cG t m hp;have hp3:=dX t m hp;refine GH t _ _ _ _ _ _ ?_ ?_ ?_<;>rw[hp1]<;>rw[hp1]at hp3<;>simp at *<;>omega
  ·have hp:parent t n<0:=by omega
   cases hl:t.nodes.length<;>simp[upF,hp]
theorem AZ(t:Tr)(last:Int){n:Int}(h:n<0):kF t last n=[]:=by unfold kF;rw[gP,if_pos h]
theorem BC(t:Tr)(last:Int){n:Int}(h0:0≤n)(h:n<t.nodes.length):kF t last n=(last,n)::kF t n (parent t n):=by
 rw[wX t last h,if_neg (by omega)]
theorem mE{t:Tr}:∀(f:Nat) (last n:Int) (p:Int×Int),p∈gP t f last n→n<t.nodes.length→0≤p.2∧p.2<t.nodes.length∧(p.1=last∨0≤p.1∧p.1<t.nodes.length)
 |0,last,n,p,h,_=>by simp[gP]at h
 | f+1,last,n,p,h,hn=>by
   rw[gP]at h;by_cases h0:n<0
   ·rw[if_pos h0]at h;simp at h
   ·rw[if_neg h0]at h
    rcases List.mem_cons.1 h with rfl|h
    ·exact⟨by omega,hn,.inl rfl⟩
    ·obtain⟨h1,h2,h3⟩:=mE f _ _ p h (zD t (by omega))
     exact⟨h1,h2,.inr (h3.elim (fun e=>by rw[e];omega) id)⟩
theorem vR{t:Tr}(wf:WF t)(kid:Int){up:Int}(h0:0≤up)(h1:up<t.nodes.length):aB t kid up=zz (t.nd up) kid up:=by
 obtain⟨m,rfl⟩:=Int.eq_ofNat_of_zero_le h0;have hm:m<t.nodes.length:=by omega
 have hl:=wf.letK m hm;have hnd:=t.nd_at hm;unfold aB zz;rw[hnd];cases h20:(t.nodes[m].kind==20)with
 | true=>
   have h2:=hl (by simpa using h20);have h42:(t.nodes[m].kind==42)=false:=by rw[beq_iff_eq]at h20;rw[h20];rfl
   rw[h2,h42];simp
 | false=>
   cases h42:(t.nodes[m].kind==42)<;>simp
theorem xT{t:Tr}(wf:WF t){node:Int}(h0:0≤node):(zQ t node).1=(bH t node).flatMap (fun p=>aB t p.1 p.2):=by
 unfold zQ upw bH kF;rw[qB t (fun last n=>zz (t.nd n) last n),List.nil_append]
 have key:∀l:List (Int×Int),(∀p∈l,0≤p.2∧p.2<t.nodes.length)→l.flatMap (fun p=>zz (t.nd p.2) p.1 p.2)=l.flatMap (fun p=>aB t p.1 p.2):=by
  intro l
  induction l with
  |nil=>intro _;rfl
  | cons p l ih=>
    intro h;rw[List.flatMap_cons,List.flatMap_cons,ih (fun q hq=>h q (List.mem_cons_of_mem _ hq)),vR wf _ (h p (by simp)).1 (h p (by simp)).2]
 exact key _ fun p hp=>by
  obtain⟨h1,h2,_⟩:=mE _ _ _ p hp (zD t h0);exact⟨h1,h2⟩
theorem vH{t:Tr}(wf:WF t){node:Int}(h0:0≤node):zA t node=(bH t node).flatMap (fun p=>aB t p.1 p.2)++(t.items.filter fun it=>decide (it<node)&&zh t it).reverse:=by
 unfold zA;rw[xT wf h0]
end
end Go.Proofs.YtokdgiphdnjeoaaGreatDoor
