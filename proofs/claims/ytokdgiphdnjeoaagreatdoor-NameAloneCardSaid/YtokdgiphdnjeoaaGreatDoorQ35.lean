/- Part of a proof. -/
import Derived.Test.YtokdgiphdnjeoaaGreatDoorQ07
import Derived.Test.YtokdgiphdnjeoaaGreatDoorQ34
set_option maxRecDepth 100000
set_option maxHeartbeats 8000000
set_option linter.unusedVariables false
set_option linter.unusedSimpArgs false
open Go.Proofs.Tryz
namespace Go.Proofs.YtokdgiphdnjeoaaGreatDoor
section
open Go Go.RowKit Go.Sort
theorem EX{W:World}{B g n cap:Nat}{L:List Int}(h:W.ownsRow B 3 1 (.slice (some ⟨g,0,none⟩) n cap) n (zm L))(L':List Int)(hl:L'.length=n)(q:Nat)(os:Array Obj) :
 (grow (putRow (Value.int .i64) (Sort.ahead W q) g 0 L'.toArray) os).ownsRow B 3 1 (.slice (some ⟨g,0,none⟩) n cap) n (zm L')∧Turns (fun i=>i=g) W (grow (putRow (Value.int .i64) (Sort.ahead W q) g 0 L'.toArray) os):=by
 rcases h.2 with⟨h',h0⟩|⟨g',cap',cur,h',hb,hg,hnc,hcm,hcs,htake⟩
 ·simp at h'
 ·simp only[Value.slice.injEq,Option.some.injEq,Addr.mk.injEq,and_true,true_and]at h'
  obtain⟨rfl,rfl⟩:=h';have hlt:=(Array.getElem?_eq_some_iff.1 hg).1
  have hheap:(putRow (Value.int .i64) (Sort.ahead W q) g 0 L'.toArray).heap[g]?=some (.cells (putCells (Value.int .i64) 0 L'.toArray cur) 3 (0,0)):=by
   unfold putRow mapBlock;simp only[Array.getElem?_modify,if_true];rw[show(Sort.ahead W q).heap[g]?=W.heap[g]? from rfl,hg];rfl
  refine⟨⟨by simp[hl],.inr ⟨g,cap,_,rfl,hb,(heap_grow_old _ os (by simpa using hlt)).trans hheap,hnc,hcm,by simpa[putCells]using hcs,?_⟩⟩,⟨rfl,rfl,rfl,by simp,fun k hk hn=>?_⟩⟩
  ·apply List.ext_getElem?
   intro k;simp only[Nat.mul_one,List.getElem?_take];by_cases hk:k<n
   ·rw[if_pos hk]
    have hkc:k<cur.size:=by omega
    simp only[putCells,Array.getElem?_toList,Array.getElem?_mapIdx,Array.getElem?_eq_getElem hkc,Option.map_some];rw[if_pos ⟨Nat.zero_le _,by simp;omega⟩,List.getElem?_map,List.getElem?_eq_getElem (by omega)];simp[show k<L'.length by omega]
   ·rw[if_neg hk,List.getElem?_eq_none (by simp;omega)]
  ·rw[heap_grow_old _ os (by simpa using hk)]
   unfold putRow mapBlock;simp only[Array.getElem?_modify];rw[if_neg (fun e=>hn e.symm)];rfl
theorem uS{W:World}{B g n cap:Nat}{L:List Int}(h:W.ownsRow B 3 1 (.slice (some ⟨g,0,none⟩) n cap) n (zm L)):Holds (Value.int .i64) W g 0 L.toArray∧L.length=n∧g<W.heap.size∧n≤cap∧B≤g:=by
 have hl:L.length=n:=by have:=h.1;simpa using this
 rcases h.2 with⟨h',h0⟩|⟨g',cap',cur,h',hb,hg,hnc,hcm,hcs,htake⟩
 ·simp at h'
 ·simp only[Value.slice.injEq,Option.some.injEq,Addr.mk.injEq,and_true,true_and]at h'
  obtain⟨rfl,rfl⟩:=h';refine⟨fun j hj=>⟨?_,h.frozenAt _⟩,hl,(Array.getElem?_eq_some_iff.1 hg).1,hnc,hb⟩;have hj':j<L.length:=by simpa using hj
  rw[Nat.zero_add,h.cellAt j (by omega)];simp[hj']
theorem nY{W:World}{B:Nat}{a:Option Addr}{c n:Nat}{L:List Int}(h:W.ownsRow B 3 1 (.slice a n c) n (zm L))(hm:n≤4000000000000) :
 Calls prog 92 #[.slice a n c] W fun e w'=>e=.returned (.tuple #[])∧w'.ownsRow B 3 1 (.slice a n c) n (zm (cT L))∧Turns (fun i=>∃x,a=some x∧x.block=i) W w':=by
 have hl:L.length=n:=by have:=h.1;simpa using this
 cases a with
 | none=>
   rcases h.2 with⟨h',h0⟩|⟨g',cap',cur,h',_⟩
   ·simp at h'
    obtain⟨rfl,rfl⟩:=h';obtain rfl:L=[]:=List.eq_nil_of_length_eq_zero (by omega);refine(Tryz.slices_Sort_int_none none 0 W).mono ?_;rintro e w'⟨rfl,q,rfl⟩;exact⟨rfl,h,⟨rfl,rfl,rfl,nlr,fun _ _ _=>rfl⟩⟩
   ·cases h'
 | some x=>
   have hx:∃g,x=⟨g,0,none⟩:=by
    rcases h.2 with⟨h',h0⟩|⟨g',cap',cur,h',_⟩
    ·cases h'
    ·simp only[Value.slice.injEq,Option.some.injEq]at h';exact⟨g',h'.1⟩
   obtain⟨g,rfl⟩:=hx;obtain⟨h1,h2,h3,h4,h5⟩:=uS h;subst h2;refine(Tryz.slices_Sort_int g 0 c L W h1 h3 (by omega)).mono ?_;rintro e w'⟨rfl,q,os,rfl⟩
   have hs:(L.mergeSort fun x y=>decide (x≤y))=cT L:=cV (List.mergeSort_perm _ _) (by
    have:=List.pairwise_mergeSort (le:=fun x y:Int=>decide (x≤y)) (fun a b c h1 h2=>by simp at *;omega) (fun a b=>by simp;omega) L
    exact this.imp (fun h=>by simpa using h))
   rw[hs];obtain⟨k1,k2⟩:=EX h (cT L) (fY L) q os;exact⟨rfl,k1,k2.mono fun i _ hi=>⟨_,rfl,hi.symm⟩⟩
def lM(f node:Nat)(d:Int):Bool:=d != -1&&(decide (d<(f:Int))||decide ((node:Int)<d))
def MD(t:Tr)(node:Nat):List Int:=((zg t t.nodes.length).drop (low t node).toNat).take (node+1-(low t node).toNat)
def sD(t:Tr)(node:Nat):List Int:=(MD t node).filter (lM (low t node).toNat node)
def uE(t:Tr)(node:Int):List Int×Int:=if aR t node (fA t)=0 then (Lib.compact (cT (sD t node.toNat)),0)else ([],aR t node (fA t))
theorem sZ{W:World}{B:Nat}{a:Option Addr}{c n:Nat}{L:List Int}(h:W.ownsRow B 3 1 (.slice a n c) n (zm L))(hm:n≤4000000000000) :
 Calls prog 149 #[.slice a n c] W fun e w'=>∃a' c',e=.returned (.slice a' (Lib.compact L).length c')∧w'.ownsRow B 3 1 (.slice a' (Lib.compact L).length c') (Lib.compact L).length (zm (Lib.compact L))∧Turns (fun i=>∃x,a=some x∧x.block=i) W w':=by
 have hl:L.length=n:=by have:=h.1;simpa using this
 cases a with
 | none=>
   rcases h.2 with⟨h',h0⟩|⟨g',cap',cur,h',_⟩
   ·simp at h'
    obtain⟨rfl,rfl⟩:=h';obtain rfl:L=[]:=List.eq_nil_of_length_eq_zero (by omega);refine(Tryz.slices_Compact_int_empty none 0 W).mono ?_;rintro e w'⟨rfl,rfl⟩;exact⟨none,0,rfl,⟨rfl,.inl ⟨rfl,rfl⟩⟩,Turns.refl _ _⟩
   ·cases h'
 | some x=>
   have hx:∃g,x=⟨g,0,none⟩:=by
    rcases h.2 with⟨h',h0⟩|⟨g',cap',cur,h',_⟩
    ·cases h'
    ·simp only[Value.slice.injEq,Option.some.injEq]at h';exact⟨g',h'.1⟩
   obtain⟨g,rfl⟩:=hx;obtain⟨h1,h2,h3,h4,h5⟩:=uS h;subst h2
   have hle:(Lib.compact L).length≤L.length:=by
    unfold Lib.compact Lib.compactUpTo;rw[List.length_map];exact Nat.le_trans (List.length_filter_le _ _) (by simp)
   refine(Tryz.slices_Compact_int g 0 c L W h1 (by omega) h4).mono ?_;rintro e w'⟨rfl,q,rfl⟩;obtain⟨k1,k2⟩:=EX h (Lib.compact L++List.replicate (L.length-(Lib.compact L).length) 0) (by simp;omega) q #[];rw[grow_empty]at k1 k2;refine⟨_,c,rfl,?_,k2.mono fun i _ hi=>⟨_,rfl,hi.symm⟩⟩;obtain⟨m1,m2⟩:=k1;rcases m2 with⟨h',h0⟩|⟨g',cap',cur,h',hb,hg,hnc,hcm,hcs,htake⟩
   ·simp at h'
   ·simp only[Value.slice.injEq,Option.some.injEq,Addr.mk.injEq,and_true,true_and]at h'
    obtain⟨rfl,rfl⟩:=h';refine⟨by simp,.inr ⟨g,c,cur,rfl,hb,hg,by omega,hcm,hcs,?_⟩⟩;have:=congrArg (List.take ((Lib.compact L).length*1)) htake;rw[List.take_take,Nat.min_eq_left (by omega)]at this;rw[this,←List.map_take,Nat.mul_one,List.take_append_of_le_length nlr,List.take_length]
theorem rF{t:Tr}(hkid:∀i,i<t.nodes.length→∀k∈(t.nd i).kids,0≤k∧k<(i:Int)):∀(f:Nat) (i:Nat),i<t.nodes.length→0≤lowF t f i∧lowF t f i≤i
 |0,i,_=>by simp[lowF]
 | f+1,i,hi=>by
   rw[lowF]
   cases hk:(t.nd i).kids with
   |nil=>simp
   | cons k r=>
     obtain⟨h0,h1⟩:=hkid i hi k (by rw[hk];simp);obtain⟨m,rfl⟩:=Int.eq_ofNat_of_zero_le h0;have:=rF hkid f m (by omega);simp only;omega
theorem AF(v:TreeV)(t:Tr)(node:Int)(w:World)(bd:Bd t)(rg:Rg t)(hg:GV w)(h:IsTree w v t) :
 Calls prog 101 #[v.val t,intV node] w (RetIntsE w (uE t node).1 (uE t node).2):=by
 have HC:=Hd (qM v t node (boxT w v t) bd rg (hg.mono boxT_below nlr) (h.mono boxT_below nlr));have BD:=Hd bd;have hn3:=bd.n;clear h hg bd rg;obtain⟨na,nc,ia,ic⟩:=v;by_cases hz:aR t node (fA t)=0
 ·have HZ:=Hd hz
  have HU:Hid (uE t node=(Lib.compact (cT (sD t node.toNat)),0)):=Hd (by unfold uE;rw[if_pos hz]);by_cases hin:0≤node∧node<t.nodes.length
  ·obtain⟨hn0,hn1⟩:=hin
   obtain⟨m,rfl⟩:=Int.eq_ofNat_of_zero_le hn0;have hm:m<t.nodes.length:=by omega
   clear hz hn0;unfold TreeV.val;go_enter func101,ntmps101
   go_upto_region 5 with(first
    | (go_at_call 83;refine HC.out.mono ?_;rintro e w2 (⟨-,hrs,-,-,-,p,rfl,hpv,hop⟩|⟨hne,-⟩);rotate_left;(exact absurd HZ.out hne);have HWF:=Hd (aT BD.out hrs.check);have HQC:=Hd (qJ p t _ _ m w2 BD.out (fun i hi k hk=>by rw[t.nd_at hi]at hk;exact(aT BD.out hrs.check).kid i hi k hk) hm hop.prog);have HOP:=Hd hop;obtain⟨s,v',aa,ac,da,dc⟩:=p;simp only at hpv;subst hpv;clear hop hrs)
    | (go_at_call 90;refine HQC.out.mono ?_;rintro e w3 ⟨rfl,rfl⟩))
   obtain⟨f0,f1⟩:=rF (t:=t) (fun i hi k hk=>by rw[t.nd_at hi]at hk;exact HWF.out.kid i hi k hk) ((m:Int)+1).toNat m hm;have hlow:low t m=lowF t ((m:Int)+1).toNat m:=rfl;rw[←hlow]at f0 f1;obtain⟨f,hf⟩:=Int.eq_ofNat_of_zero_le f0;have hfm:f≤m:=by omega
   have HL:Hid (sD t (m:Int).toNat=(((zg t t.nodes.length).drop f).take (m+1-f)).filter (lM f m)):=Hd (by
    unfold sD MD
    rw[Int.toNat_natCast,hf,Int.toNat_natCast])
   rw[hf];obtain⟨g,hg,hgB,hgl,hdl,hgc,hgf⟩:=dG HOP.out.own (by omega);have hcap:=HOP.out.prog.decl.2.1;simp only at hg hcap;subst hg;have hc3:=HOP.out.prog.c3;have HBX:=Hd (boxT_below.trans (HOP.out.below.mono (by simp)):Below w.heap.size w w2);have HF:=Hd hf;go_wp2
   go_loopw [4,9,31] (fun t4 t9 t31 wr=>∃(k:Nat) (a4:Option Addr) (c4:Nat) (q:List Int),t31=.int .i64 k∧k≤m+1-f∧t4=.slice a4 q.length c4∧q.length≤k ∧
    Hid (q=((((zg t t.nodes.length).drop f).take (m+1-f)).take k).filter (lM f m))∧Hid (OwnI wr w2.heap.size a4 c4 q)∧Hid (Below w2.heap.size w2 wr)) (fun _ _ i _=>(m+1-f)-(intOf i).toNat)
   case atStart=>exact⟨0,_,_,[],rfl,Nat.zero_le _,rfl,by simp,Hd (by simp),Hd ⟨rfl,.inl ⟨rfl,rfl⟩⟩,Hd brf⟩
   case round=>
    obtain⟨k,a4,c4,q,rfl,hk,rfl,hq,HQ,HO,HB⟩:=hrel;have hs:=HB.out.size;by_cases hlt:k<m+1-f
    ·have hce:=(HB.out.cell (p:=⟨g,f+k,none⟩) hgl).trans (hgc (f+k) (by omega))
     obtain⟨d,hd⟩:∃d,(zg t t.nodes.length).getD (f+k) 0=d:=⟨_,rfl⟩
     rw[hd]at hce
     have HST:Hid ((((zg t t.nodes.length).drop f).take (m+1-f)).take (k+1)=(((zg t t.nodes.length).drop f).take (m+1-f)).take k++[d]):=Hd (by
      have hlk:k<(((zg t t.nodes.length).drop f).take (m+1-f)).length:=by simp;omega
      rw[List.take_add_one,List.getElem?_eq_getElem hlk];simp only[List.getElem_take,List.getElem_drop,Option.toList];rw[←hd,List.getD_eq_getElem?_getD,List.getElem?_eq_getElem (by omega)]
      rfl)
     clear hd;have no:lM f m d=false→Hid (q=((((zg t t.nodes.length).drop f).take (m+1-f)).take (k+1)).filter (lM f m)):=fun h=>Hd (by rw[HST.out,List.filter_append,←HQ.out];simp[h]);have yes:lM f m d=true→Hid (q++[d]=((((zg t t.nodes.length).drop f).take (m+1-f)).take (k+1)).filter (lM f m)):=fun h=>Hd (by rw[HST.out,List.filter_append,←HQ.out];simp[h]);by_cases h1:d = -1
     ·have HN:=no (by simp[lM,h1])
      subst h1;clear no yes;go_wp2
      go_roundw
      case rel=>exact⟨k+1,a4,c4,q,by go_num,by omega,rfl,by omega,HN,HO,HB⟩
      case measure=>simp[intOf];omega
     ·by_cases h2:d<(f:Int)
      ·have HN:=yes (by simp[lM,h1,h2])
       clear no yes
       go_wp2_with (at_builtin;refine zV (news:=[d]) rfl (.tmp 47) (.tmp 49) rfl rfl (HO.out.alloc _) rfl (aK _ _ _) (by omega) (by simp;omega) ?_;intro a9 c9 w9 l9 HL9 hle9 hown9 hkeep9)
       go_roundw
       case rel=>exact⟨k+1,a9,c9,l9,by go_num,by omega,rfl,by omega,Hd (by rw[←HN.out,←HL9.out]),Hd hown9,Hd (hkeep9 _ _ nlr (HB.out.alloc (by omega) _))⟩
       case measure=>simp[intOf];omega
      ·by_cases h3:(m:Int)<d
       ·have HN:=yes (by simp[lM,h1,h3])
        clear no yes
        go_wp2_with (at_builtin;refine zV (news:=[d]) rfl (.tmp 47) (.tmp 49) rfl rfl (HO.out.alloc _) rfl (aK _ _ _) (by omega) (by simp;omega) ?_;intro a9 c9 w9 l9 HL9 hle9 hown9 hkeep9)
        go_roundw
        case rel=>exact⟨k+1,a9,c9,l9,by go_num,by omega,rfl,by omega,Hd (by rw[←HN.out,←HL9.out]),Hd hown9,Hd (hkeep9 _ _ nlr (HB.out.alloc (by omega) _))⟩
        case measure=>simp[intOf];omega
       ·have HN:=no (by simp[lM,h1,h2,h3])
        clear no yes;go_wp2
        go_roundw
        case rel=>exact⟨k+1,a4,c4,q,by go_num,by omega,rfl,by omega,HN,HO,HB⟩
        case measure=>simp[intOf];omega
    ·obtain rfl:k=m+1-f:=by omega
     have HE:Hid (q=sD t (m:Int).toNat):=Hd (by rw[HL.out,HQ.out,List.take_take,Nat.min_self])
     go_wp2_with (first
      | (go_at_call 92;refine(nY HO.out (by omega)).mono ?_;rintro e w3 ⟨rfl,own3,tn3⟩)
      | (go_at_call 149;refine(sZ own3 (by omega)).mono ?_;rintro e w4 ⟨a',c',rfl,own4,tn4⟩))
     go_ret2
     rw[HU.out,←HE.out];refine⟨a',c',rfl,aY own4 HBX.out.size,?_⟩;have hsz3:w2.heap.size≤wr.heap.size:=HB.out.size;have b3:Below w2.heap.size wr w3:=tn3.below (fun i ⟨x,hx,hi⟩=>(HO.out.lt i (by rw[hx];simp[Value.ownBlock,hi])).1) hsz3;have b4:Below w2.heap.size w3 w4:=tn4.below (fun i ⟨x,hx,hi⟩=>(own3.lt i (by rw[hx];simp[Value.ownBlock,hi])).1) (Nat.le_trans hsz3 b3.size);exact HBX.out.trans (((HB.out.trans b3).trans b4).mono HBX.out.size)
  ·exfalso
   apply hin;have hz':=HZ.out;unfold aR at hz';split at hz'
   ·rename_i h1;simp at h1;exact absurd hz' h1
   ·split at hz'
    ·cases hz'
    ·rename_i h2
     simp only[Bool.or_eq_true,not_or,decide_eq_true_eq]at h2;omega
 ·have hne:(aR t node (fA t) != 0)=true:=by simpa using hz
  have hu:uE t node=([],aR t node (fA t)):=by unfold uE;rw[if_neg hz]
  obtain⟨E1,hE1⟩:∃E1,aR t node (fA t)=E1:=⟨_,rfl⟩
  rw[hE1]at hne hu;have HE1:=Hd hE1;have HZ:=Hd hz;have HU:=Hd hu;clear hE1 hz hu;unfold TreeV.val;go_enter func101,ntmps101
  go_wp2_with (go_at_call 83;refine HC.out.mono ?_;rintro e w2 (⟨h0,-⟩|⟨-,rfl,hb2⟩);(exact absurd h0 HZ.out);rw[HE1.out];have HB2:=Hd (boxT_below.trans (hb2.mono (by simp)):Below w.heap.size w w2);clear hb2)
  go_ret2
  rw[HU.out];exact .nil HB2.out
end
section
open Go.RowKit
theorem iD{t:Tr}{n:Int}(h0:0≤n)(h:n<t.nodes.length):inside t n n=true:=by
 rw[bE t n h,if_neg (by omega),if_pos rfl]
theorem pD{t:Tr}{k o:Int}(hk:parent t k=o)(ho0:0≤o)(ho:o<t.nodes.length):∀(f:Nat) (x:Nat),t.nodes.length-x≤f→x<t.nodes.length→inside t x k=true→inside t x o=true
 |0,x,hf,hx,_=>by omega
 | f+1,x,hf,hx,h=>by
   rw[bE t k (by omega),if_neg (by omega)]at h;rw[bE t o (by omega),if_neg (by omega)];by_cases e:(x:Int)=o
   ·rw[if_pos e]
   ·rw[if_neg e]
    by_cases e2:(x:Int)=k
    ·rw[e2,hk];exact iD ho0 ho
    ·rw[if_neg e2]at h
     by_cases hp:0≤parent t x
     ·obtain⟨i,he,hi,hm⟩:=zF hp
      have:=dH t (n:=(x:Int)) (by omega) hp;rw[he]at h⊢;exact pD hk ho0 ho f i (by omega) hi h
     ·have hb:=zD t (n:=(x:Int)) (by omega)
      rw[bE t k (by omega),if_pos (by omega)]at h;cases h
theorem Good.inside_iff{t:Tr}{S:List Int}(G:Good t S){o:Nat}(ho:o<t.nodes.length){x:Nat}(hx:x<t.nodes.length):inside t x o=true↔stt S o<x∧(x:Int)≤o:=by
 constructor
 ·have key:∀(f:Nat) (x:Nat),t.nodes.length-x≤f→x<t.nodes.length→inside t x o=true→stt S o<x∧(x:Int)≤o:=by
   intro f
   induction f with
   |zero=>intro x hf hx;omega
   | succ f ih=>
     intro x hf hx h;rw[bE t o (by omega),if_neg (by omega)]at h;by_cases e:(x:Int)=o
     ·rw[e];exact⟨G.begins ho,Int.le_refl _⟩
     ·rw[if_neg e]at h
      by_cases hp:0≤parent t x
      ·obtain⟨i,he,hi,hm⟩:=zF hp
       obtain⟨k1,k2,k3,k4⟩:=G.kid hi _ hm;rw[he]at h;obtain⟨h1,h2⟩:=ih i (by omega) hi h;have:=G.nest o o i nlr ho h1 (by omega);omega
      ·have hb:=zD t (n:=(x:Int)) (by omega)
       rw[bE t o (by omega),if_pos (by omega)]at h;cases h
  exact key _ x nlr hx
 ·have key:∀(f o:Nat),o≤f→o<t.nodes.length→stt S o<x→(x:Int)≤o→inside t x o=true:=by
   intro f
   induction f with
   | zero=>
     intro o hf ho h1 h2;obtain rfl:x=o:=by omega
     exact iD (by omega) (by omega)
   | succ f ih=>
     intro o hf ho h1 h2;by_cases e:x=o
     ·subst e;exact iD (by omega) (by omega)
     ·obtain⟨k,hk,h3,h4⟩:=G.cover ho h1 (by omega)
      obtain⟨k1,k2,k3,k4⟩:=G.kid ho k hk;obtain⟨k,rfl⟩:=Int.eq_ofNat_of_zero_le k4;exact pD (G.parent_of ho hk) (by omega) (by omega) _ x nlr hx (ih k (by omega) (by omega) h3 (by omega))
  rintro⟨h1,h2⟩;exact key o o nlr ho h1 h2
theorem Good.lowF{t:Tr}{S:List Int}(G:Good t S):∀(f i:Nat),i<f→i<t.nodes.length→lowF t f i=stt S i+1
 |0,i,h,_=>by omega
 | f+1,i,hf,hi=>by
   have hb:=G.begins hi;unfold Go.Proofs.YtokdgiphdnjeoaaGreatDoor.lowF
   cases hk:(t.nd i).kids with
   | nil=>
     simp only;apply Classical.byContradiction;intro hn;obtain⟨k,h,_⟩:=G.cover hi (j:=stt S i+1) (by omega) (by omega);rw[hk]at h;cases h
   | cons k r=>
     simp only;obtain⟨k1,k2,k3,k4⟩:=G.kid hi k (by rw[hk];simp);obtain⟨k,rfl⟩:=Int.eq_ofNat_of_zero_le k4;rw[G.lowF f k (by omega) (by omega)];obtain⟨c,hc,h3,h4⟩:=G.cover hi (j:=stt S i+1) (by omega) (by omega);have hc1:=(G.kid hi c hc).1;rw[hk]at hc;rcases List.mem_cons.1 hc with e|e
     ·subst e;omega
     ·have hp:=G.asc hi
      rw[hk]at hp;have:=(List.pairwise_cons.1 hp).1 c e;omega
theorem Good.low{t:Tr}{S:List Int}(G:Good t S){i:Nat}(hi:i<t.nodes.length):low t i=stt S i+1:=by
 unfold Go.Proofs.YtokdgiphdnjeoaaGreatDoor.low;exact G.lowF _ i (by omega) hi
theorem bW{t:Tr}{i:Nat}(hi:i<t.nodes.length):(zg t t.nodes.length).getD i 0=means t i:=by
 rw[bL,List.getD_eq_getElem?_getD,List.getElem?_map,List.getElem?_range hi];rfl
theorem IY{p:Nat→Bool}{n k:Nat}(hk:k<n)(hp:p k=true)(h:∀j,j<k→p j=false):first p n 0=k:=by
 have key:∀(f j:Nat),k-j≤f→j≤k→first p n j=k:=by
  intro f
  induction f with
  | zero => intro j h1 h2;obtain rfl:j=k:=by omega
            exact aE hk hp
  | succ f ih=>
    intro j h1 h2;by_cases e:j=k
    ·subst e;exact aE hk hp
    ·rw[cI (by omega) (h j (by omega))]
     exact ih (j+1) (by omega) (by omega)
 exact key k 0 (by omega) (Nat.zero_le _)
def kB(t:Tr)(x:Int):Nat:=(t.items.filter fun it=>decide (it<x)).length
theorem fB{x:Int}:∀{l:List Int}{k:Nat},l.Pairwise (· < ·)→(∀j (h:j<l.length),j<k→l[j]<x)→(∀j (h:j<l.length),k≤j→x≤l[j])→k≤l.length→(l.filter fun it=>decide (it<x)).length=k
 | [],k,_,_,_,hk=>by simp at hk;simp[hk]
 | a::l,0,hp,h1,h2,_=>by
   rw[List.filter_eq_nil_iff.2];rfl;intro y hy;obtain⟨j,hj,rfl⟩:=List.getElem_of_mem hy;have:=h2 j hj (Nat.zero_le _);simp;omega
 | a::l,k+1,hp,h1,h2,hk=>by
   have ha:a<x:=h1 0 (by simp) (by omega);rw[List.filter_cons,if_pos (by simpa using ha),List.length_cons];congr 1;exact fB (List.pairwise_cons.1 hp).2 (fun j hj hjk=>h1 (j+1) (by simp;omega) (by omega)) (fun j hj hjk=>h2 (j+1) (by simp;omega) (by omega)) (by simp at hk;omega)
theorem Good.itemAt{t:Tr}{S:List Int}(G:Good t S){x:Nat}(hx:x<t.nodes.length):∃k,∃h:k<t.items.length,zY t x=k∧kB t x=k∧stt S t.items[k]<x∧(x:Int)≤t.items[k]:=by
 obtain⟨it,hit,h1,h2⟩:=G.coverI (j:=(x:Int)) (by omega) (by omega);obtain⟨k,hk,rfl⟩:=List.getElem_of_mem hit;have hasc:=List.pairwise_iff_getElem.1 G.itemsAsc;have hsep:=List.pairwise_iff_getElem.1 G.items;refine⟨k,hk,?_,?_,h1,h2⟩
 ·unfold zY
  have hin:∀j (h:j<t.items.length),inside t x (t.items.getD j 0)=true↔stt S t.items[j]<(x:Int)∧(x:Int)≤t.items[j]:=fun j h=>by
   obtain⟨_,_,hl,h0,_⟩:=G.item _ (List.getElem_mem h);obtain⟨m,hm⟩:=Int.eq_ofNat_of_zero_le h0;rw[List.getD_eq_getElem?_getD,List.getElem?_eq_getElem h,Option.getD_some,hm];exact G.inside_iff (by omega) hx
  refine IY hk ((hin k hk).2 ⟨h1,h2⟩) fun j hj=>?_;rw[Bool.eq_false_iff];intro hc;have:=(hin j (by omega)).1 hc;have:=hsep j k (by omega) hk hj;omega
 ·unfold kB
  refine fB G.itemsAsc (fun j h hj=>?_) (fun j h hj=>?_) (Nat.le_of_lt hk)
  ·have:=hsep j k h hk hj;omega
  ·by_cases e:j=k
   ·subst e;exact h2
   ·have:=hasc k j hk h (by omega);omega
theorem Good.itemOf_le{t:Tr}{S:List Int}(G:Good t S){x y:Nat}(hy:y<t.nodes.length)(hx:x<t.nodes.length){it:Int}(hit:it∈t.items)(h1:stt S it<y)(h2:(y:Int)≤it)(h3:(x:Int)≤it):zY t x≤zY t y:=by
 obtain⟨i,hi,e1,_,a1,a2⟩:=G.itemAt hx;obtain⟨j,hj,e2,_,b1,b2⟩:=G.itemAt hy;rw[e1,e2];have hasc:=List.pairwise_iff_getElem.1 G.itemsAsc;have hsep:=List.pairwise_iff_getElem.1 G.items;obtain⟨k,hk,rfl⟩:=List.getElem_of_mem hit
 have hjk:j=k:=by
  rcases Nat.lt_trichotomy j k with h|h|h
  ·have:=hsep j k hj hk h;omega
  ·exact h
  ·have:=hsep k j hk hj h;omega
 subst hjk;apply Classical.byContradiction;intro hn;have:=hsep j i hj hi (by omega);omega
theorem OD{t:Tr}{S:List Int}(G:Good t S):∀(f last:Nat) (acc:List Int),last<t.nodes.length→(∀x∈acc,x≤(last:Int)) →
 ∀x∈(upF t (fun last n acc=>acc++zz (t.nd n) last n) f last (parent t last) acc).1,x≤(upF t (fun last n acc=>acc++zz (t.nd n) last n) f last (parent t last) acc).2
 |0,last,acc,hl,ha=>ha
 | f+1,last,acc,hl,ha=>by
   rw[upF];by_cases hp:parent t last<0
   ·rw[if_pos hp];exact ha
   ·rw[if_neg hp]
    obtain⟨i,he,hi,hm⟩:=zF (show 0≤parent t last by omega);have hk:=G.kid hi _ hm;rw[he];refine OD G f i _ hi fun x hx=>?_;rcases List.mem_append.1 hx with hx|hx
    ·have:=ha x hx;omega
    ·unfold zz at hx
     rcases List.mem_append.1 hx with hx|hx
     ·split at hx
      ·obtain rfl:=List.mem_singleton.1 hx;exact Int.le_refl _
      ·cases hx
     ·split at hx
      ·rcases List.mem_append.1 hx with hx|hx
       ·have:=(G.kid hi x (List.mem_of_mem_take hx)).2.2.1;omega
       ·obtain rfl:=List.mem_singleton.1 hx;exact Int.le_refl _
      ·cases hx
theorem KT{t:Tr}{S:List Int}(G:Good t S){node:Nat}(hn:node<t.nodes.length){x:Int}(h:x∈sight t node):x≤(zQ t node).2:=by
 unfold sight at h;rcases List.mem_append.1 h with h|h
 ·exact OD G (t.nodes.length+1) node [] hn (fun x h=>by cases h) x h
 ·simp only[List.mem_filter,Bool.and_eq_true,decide_eq_true_eq]at h
  omega
theorem pN{t:Tr}{node:Int}(h:means t node ≠ -1):means t node∈sight t node:=by
 unfold means at h⊢;split at h
 ·split at h
  ·exact absurd rfl h
  ·rename_i h1 h2
   rw[if_pos h1,if_neg h2];unfold nearest at h2⊢;cases hf:(sight t node).find? (fun d=>(t.nd d).text==(t.nd node).text)with
   |none=>rw[hf]at h2;simp at h2
   |some d=>exact List.mem_of_find?_eq_some hf
 ·exact absurd rfl h
theorem fW{t:Tr}{S:List Int}(wf:WF t)(G:Good t S){n:Nat}(hn:n<t.nodes.length)(h:means t n ≠ -1):zY t (means t n)≤zY t n:=by
 obtain⟨h1,h2,h3⟩:=G.top hn;have hs:=KT G hn (pN h);have hr:=aJ wf (node:=n);obtain⟨m,hm⟩:=Int.eq_ofNat_of_zero_le (show 0≤means t n by omega);rw[hm]at hs⊢;exact G.itemOf_le hn (by omega) h1 h2 h3 hs
def NS(t:Tr)(l:List Int)(item:Int):Nat→Int→Prop
 |0,j=>j=item
 |m+1,j=>NS t l item m j∨NS t l item m (item-m)∧∃n:Nat,n<t.nodes.length∧zY t n=item-m∧l.getD n 0 ≠ -1∧j=zY t (l.getD n 0)
theorem kJ(t:Tr)(l:List Int)(item:Int)(m:Nat)(j:Int):NS t l item (m+1) j=(NS t l item m j∨NS t l item m (item-m)∧∃n:Nat,n<t.nodes.length∧zY t n=item-m∧l.getD n 0 ≠ -1∧j=zY t (l.getD n 0)):=rfl
theorem NS.le{t:Tr}{S:List Int}(wf:WF t)(G:Good t S){item:Int}:∀(m:Nat) (j:Int),NS t (zg t t.nodes.length) item m j→j≤item
 |0,j,h=>by rw[h];exact Int.le_refl _
 | m+1,j,h=>by
   rcases h with h|⟨h,n,hn,h1,h2,rfl⟩
   ·exact NS.le wf G m j h
   ·rw[bW hn]at h2⊢
    have:=fW wf G hn h2;omega
theorem NS.stable{t:Tr}{S:List Int}(wf:WF t)(G:Good t S){item:Int}{m:Nat}{j:Int}(hj:item-m≤j):∀k,NS t (zg t t.nodes.length) item (m+k) j→NS t (zg t t.nodes.length) item m j
 |0,h=>h
 | k+1,h=>by
   rw[←Nat.add_assoc,kJ]at h;rcases h with h|⟨h,n,hn,h1,h2,e⟩
   ·exact NS.stable wf G hj k h
   ·have h2':=h2
    rw[bW hn]at h2';have hle:=fW wf G hn h2';rw[bW hn]at e;have h3:j=item-m:=by omega
    obtain rfl:k=0:=by omega
    rw[h3];exact h
theorem NS.mono{t:Tr}{l:List Int}{item j:Int}{m:Nat}(h:NS t l item m j):∀k,NS t l item (m+k) j
 |0=>h
 |k+1=>.inl (h.mono k)
theorem NS.reach{t:Tr}{S:List Int}(wf:WF t)(G:Good t S){item:Nat}(j:Int):NS t (zg t t.nodes.length) item (item+1) j↔Reach t (zg t t.nodes.length) item j:=by
 constructor
 ·have key:∀(m:Nat) (j:Int),NS t (zg t t.nodes.length) item m j→Reach t (zg t t.nodes.length) item j:=by
   intro m
   induction m with
   |zero=>intro j h;rw[h];exact .base
   | succ m ih=>
     intro j h;rcases h with h|⟨h,n,hn,h1,h2,rfl⟩
     ·exact ih j h
     ·have h3:=ih _ h
      rw[←h1]at h3;refine .step hn ?_ h3;rw[bW hn]at h2⊢;have:=(aJ wf (node:=n)).1;omega
  exact key _ j
 ·intro h
  induction h with
  |base=>exact NS.mono (m:=0) (by rfl) _ |> fun h=>by simpa using h
  | step hn h0 _ ih=>
    rename_i n _;have hle:=NS.le wf G _ _ ih;obtain⟨k,hk,e,_⟩:=G.itemAt hn;have hik:k≤item:=by omega
    have h1:NS t (zg t t.nodes.length) item (item-k) (zY t n):=by
     refine NS.stable wf G (by omega) (k+1) ?_;rw[show item-k+(k+1)=item+1 by omega];exact ih
    have h2:NS t (zg t t.nodes.length) item (item-k+1) (zY t ((zg t t.nodes.length).getD n 0)):=
     .inr ⟨by rw[show(item:Int)-((item-k:Nat):Int)=zY t n by omega];exact h1,n,hn,by omega,by omega,rfl⟩
    have:=h2.mono k;rwa[show item-k+1+k=item+1 by omega]at this
end
section
open Go.RowKit
def mvI(f:Nat→Nat)(k:Int):Int:=if k<0 then k else (f k.toNat:Int)
theorem zL(f:Nat→Nat)(k:Nat):mvI f (k:Int)=(f k:Int):=by unfold mvI;rw[if_neg (by omega)];simp
def pickd(u:Tr)(f:Nat→Nat)(x:Int):Bool:=(List.range u.nodes.length).any fun m=>(f m:Int)==x
theorem pickd_iff{u:Tr}{f:Nat→Nat}{x:Int}:pickd u f x=true↔∃m,m<u.nodes.length∧(f m:Int)=x:=by simp[pickd]
def szE(S:List Int)(f:Nat→Nat)(n:Nat):List Int:=(List.range n).map fun m=>S.getD (f m) 0
theorem jM{S:List Int}{f:Nat→Nat}{n m:Nat}(h:m<n):(szE S f n).getD m 0=S.getD (f m) 0:=by
 unfold szE;rw[List.getD_eq_getElem?_getD,List.getElem?_map,List.getElem?_range h];rfl
structure Emb (t u:Tr) (S:List Int) (f:Nat→Nat):Prop where
 eLt:∀m,m<u.nodes.length→f m<t.nodes.length
 eMono:∀a b,a<b→b<u.nodes.length→f a<f b
 eKind:∀m:Nat,m<u.nodes.length→(u.nd m).kind=(t.nd (f m:Nat)).kind
 eText:∀m:Nat,m<u.nodes.length→(u.nd m).text=(t.nd (f m:Nat)).text
 eNum:∀m:Nat,m<u.nodes.length→(u.nd m).n=(t.nd (f m:Nat)).n
 ePos:∀m:Nat,m<u.nodes.length→(u.nd m).pos=(t.nd (f m:Nat)).pos
 eKids:∀m:Nat,m<u.nodes.length→(t.nd (f m:Nat)).kids=(u.nd m).kids.map (mvI f)
 eKidR:∀m:Nat,m<u.nodes.length→∀k∈(u.nd m).kids,0≤k∧k<(m:Int)
 eUp:∀x:Nat,x<t.nodes.length→∀m:Nat,m<u.nodes.length→(f m:Int)∈(t.nd x).kids→∃y,y<u.nodes.length∧f y=x
 eItems:u.items.map (mvI f)=t.items.filter (pickd u f)
 eItemR:∀k∈u.items,0≤k∧k<(u.nodes.length:Int)
 eSub:∀m,m<u.nodes.length→∀j:Nat,(j:Int)<S.getD (f m) 0→j≤m∧f (m-j)+j=f m
 eTile:eatI u (szE S f u.nodes.length) u.items.reverse ((u.nodes.length:Int)-1)=true
section
variable {t u : Tr} {S : List Int} {f : Nat → Nat}
theorem Emb.einj(E:Emb t u S f){a b:Nat}(ha:a<u.nodes.length)(hb:b<u.nodes.length)(h:f a=f b):a=b:=by
 rcases Nat.lt_trichotomy a b with h1|h1|h1
 ·have:=E.eMono a b h1 hb;omega
 ·exact h1
 ·have:=E.eMono b a h1 ha;omega
theorem Emb.ekid(E:Emb t u S f){m y:Nat}(hm:m<u.nodes.length)(hy:y<u.nodes.length):(f m:Int)∈(t.nd (f y:Nat)).kids↔(m:Int)∈(u.nd y).kids:=by
 rw[E.eKids y hy];refine⟨fun h=>?_,fun h=>?_⟩
 ·obtain⟨k,hk,e⟩:=List.mem_map.1 h
  have hr:=E.eKidR y hy k hk;obtain⟨k,rfl⟩:=Int.eq_ofNat_of_zero_le hr.1;rw[zL]at e;have:=E.einj (a:=k) (b:=m) (by omega) hm (by omega);subst this;exact hk
 ·rw[←zL]
  exact List.mem_map_of_mem h
end
end
section
open Go.RowKit
section
variable {t u : Tr} {S : List Int} {f : Nat → Nat}
theorem Emb.eeat(E:Emb t u S f)(P:Placed t S){m:Nat}(hm:m<u.nodes.length):∀(l:List Int) (a b:Nat),(∀k∈l,k∈(u.nd m).kids)→eatK S (l.map (mvI f)) ((f m:Nat)-(a:Int))=some ((f m:Nat)-(b:Int))→eatK (szE S f u.nodes.length) l ((m:Int)-a)=some ((m:Int)-b)
 | [],a,b,_,h=>by
   simp only[List.map_nil,eatK,Option.some.injEq]at h⊢;omega
 | k::l,a,b,hl,h=>by
   have hk:=hl k (by simp);have hr:=E.eKidR m hm k hk;obtain⟨k,rfl⟩:=Int.eq_ofNat_of_zero_le hr.1;have hku:k<u.nodes.length:=by omega
   have hfm:=E.eLt m hm;have hkt:=(E.ekid hku hm).2 hk;obtain⟨p1,p2,p3,p4⟩:=P.kid hfm _ hkt;have hS:=(P.bd (f k) (E.eLt k hku)).1;rw[List.map_cons,zL,eatK]at h;split at h
   ·cases h
   ·rename_i hc
    simp only[Bool.or_eq_true,bne_iff_ne,ne_eq,decide_eq_true_eq,not_or,Classical.not_not]at hc;have hst:stt S (f m:Nat)=(f m:Nat)-S.getD (f m) 0:=by simp[stt]
    have ha:(a:Int)<S.getD (f m) 0:=by omega
    obtain⟨s1,s2⟩:=E.eSub m hm a ha;have hka:k=m-a:=E.einj hku (by omega) (by omega);rw[eatK,if_neg (by simp only[Bool.or_eq_true,bne_iff_ne,ne_eq,decide_eq_true_eq,not_or,Classical.not_not];omega)];have e1:((m:Int)-a).toNat=k:=by omega
    have e2:((f m:Nat)-(a:Int)).toNat=f k:=by omega
    rw[e2]at h;rw[e1,jM hku];obtain⟨z,hz⟩:=Int.eq_ofNat_of_zero_le (show 0≤S.getD (f k) 0 by omega);rw[hz]at h⊢;have:=Emb.eeat E P hm l (a+z) b (fun x hx=>hl x (List.mem_cons_of_mem _ hx)) (by rw[←h];congr 1;omega);rw[←this];congr 1;omega
theorem Emb.eplaced(E:Emb t u S f)(P:Placed t S){m:Nat}(hm:m<u.nodes.length):eatK (szE S f u.nodes.length) (u.nd m).kids.reverse ((m:Int)-1)=some ((m:Int)-S.getD (f m) 0):=by
 have h:=P.eat (f m) (E.eLt m hm);rw[E.eKids m hm,←List.map_reverse]at h;have hS:=(P.bd (f m) (E.eLt m hm)).1;obtain⟨z,hz⟩:=Int.eq_ofNat_of_zero_le (show 0≤S.getD (f m) 0 by omega);rw[hz]at h⊢;exact E.eeat P hm _ 1 z (fun k hk=>List.mem_reverse.1 hk) h
theorem Emb.esizes(E:Emb t u S f)(P:Placed t S):∀k,k≤u.nodes.length→zC u k=some (szE S f k)
 |0,_=>rfl
 | k+1,h=>by
   rw[zC,Emb.esizes E P k (by omega),Option.bind_some,jT (o':=szE S f u.nodes.length) (m:=k) (fun j hj=>by rw[jM hj,jM (by omega)]) (fun j hj=>by rw[jM hj];exact(P.bd _ (E.eLt j (by omega))).1) _ _ (by omega),E.eplaced P (by omega),Option.map_some];unfold szE;rw[List.range_succ,List.map_append];simp;omega
theorem Emb.esz(E:Emb t u S f)(P:Placed t S):aG u=szE S f u.nodes.length:=by
 unfold aG;rw[E.esizes P _ nlr];rfl
theorem Emb.eget(E:Emb t u S f){m:Nat}(hm:m<u.nodes.length){j:Nat}(hj:j<(u.nd m).kids.length):∃k:Nat,k<u.nodes.length∧(u.nd m).kids.getD j 0=k∧(t.nd (f m:Nat)).kids.getD j 0=(f k:Nat):=by
 have hr:=E.eKidR m hm _ (List.getElem_mem hj);obtain⟨k,hk⟩:=Int.eq_ofNat_of_zero_le hr.1;refine⟨k,by omega,by rw[List.getD_eq_getElem?_getD,List.getElem?_eq_getElem hj,Option.getD_some,hk],?_⟩;rw[E.eKids m hm,List.getD_eq_getElem?_getD,List.getElem?_map,List.getElem?_eq_getElem hj,Option.map_some,Option.getD_some,hk];exact zL f k
theorem Emb.eright(E:Emb t u S f){m:Nat}(hm:m<u.nodes.length):bJ u m=bJ t (f m):=by
 have hl:(t.nd (f m:Nat)).kids.length=(u.nd m).kids.length:=by rw[E.eKids m hm,List.length_map]
 unfold bJ gR;rw[hl,←E.eKind m hm,←E.eText m hm,←E.eNum m hm,←E.ePos m hm];congr 1;rw[Bool.eq_iff_iff,List.all_eq_true,List.all_eq_true];refine forall_congr' fun j=>forall_congr' fun hj=>?_;obtain⟨k,hk,e1,e2⟩:=E.eget hm (List.mem_range.1 hj);unfold kS;rw[e1,e2,hl,←E.eKind m hm,E.eKind k hk,E.eNum k hk]
theorem Emb.eform(E:Emb t u S f)(G:Good t S):dR u=true:=by
 unfold dR jH;rw[E.esz G.toPlaced,E.eTile,Bool.and_true,Bool.and_eq_true];refine⟨by simp[szE],List.all_eq_true.2 fun m hm=>?_⟩;rw[E.eright (List.mem_range.1 hm)];exact G.right _ (E.eLt m (List.mem_range.1 hm))
theorem Emb.esized(E:Emb t u S f)(G:Good t S){m:Nat}(hm:m<u.nodes.length)(h:eQ t (f m)=true):eQ u m=true:=by
 have hl:(t.nd (f m:Nat)).kids.length=(u.nd m).kids.length:=by rw[E.eKids m hm,List.length_map]
 unfold eQ at h⊢;rw[hl,←E.eKind m hm,←E.eNum m hm]at h;by_cases h40:(u.nd m).kind=40
 ·have h2:(u.nd m).kids.length=2:=by
   have:=G.many (E.eLt m hm);rw[←E.eKind m hm,h40,hl]at this;simp[zN]at this;omega
  obtain⟨k0,q0,a0,b0⟩:=E.eget hm (j:=0) (by omega);obtain⟨k1,q1,a1,b1⟩:=E.eget hm (j:=1) (by omega);rw[b0,b1,←E.eNum k0 q0,←E.eNum k1 q1]at h;rw[a0,a1];exact h
 ·have:((u.nd m).kind==40)=false:=by simpa using h40
  rw[this]at h⊢;exact h
theorem Emb.ele(E:Emb t u S f):∀m,m<u.nodes.length→m≤f m
 |0,_=>Nat.zero_le _
 | m+1,h=>by
   have:=Emb.ele E m (by omega);have:=E.eMono m (m+1) (by omega) h;omega
theorem Emb.elen(E:Emb t u S f):u.nodes.length≤t.nodes.length:=by
 rcases Nat.eq_zero_or_pos u.nodes.length with h|h
 ·omega
 ·have:=E.ele (u.nodes.length-1) (by omega)
  have:=E.eLt (u.nodes.length-1) (by omega);omega
theorem Emb.eilen(E:Emb t u S f):u.items.length≤t.items.length:=by
 have:=congrArg List.length E.eItems;rw[List.length_map]at this;rw[this];exact List.length_filter_le _ _
theorem oS(d:Int)(j:Nat):∀(l o:List Int),(∀k∈l,0≤k)→j<o.length→(aH o d l).getD j 0=if (j:Int)∈l then d else o.getD j 0
 | [],o,_,_=>by simp[aH]
 | k::l,o,hl,hj=>by
   have hk:=hl k (by simp);obtain⟨k,rfl⟩:=Int.eq_ofNat_of_zero_le hk;rw[aH,oS d j l _ (fun x hx=>hl x (List.mem_cons_of_mem _ hx)) (by rw[List.length_set];exact hj)];by_cases h1:(j:Int)∈l
   ·rw[if_pos h1,if_pos (List.mem_cons_of_mem _ h1)]
   ·rw[if_neg h1]
    by_cases h2:k=j
    ·subst h2
     rw[if_pos (by simp)];rw[List.getD_eq_getElem?_getD,List.getElem?_set];simp[hj]
    ·rw[if_neg (fun h=>(List.mem_cons.1 h).elim (fun h=>h2 (by omega)) h1),List.getD_eq_getElem?_getD,List.getElem?_set,if_neg (by simpa using h2),←List.getD_eq_getElem?_getD]
theorem oT{t:Tr}{o:List Int}{i j:Nat}(hk:∀k∈(t.nd i).kids,0≤k∧k<(i:Int))(hi:i<o.length)(hj:j<o.length):(gF t o i).getD j 0=if (j:Int)∈(t.nd i).kids then max (o.getD i 0) 1+1 else if j=i then max (o.getD i 0) 1 else o.getD j 0:=by
 unfold gF;rw[oS _ _ _ _ (fun k h=>(hk k h).1) (by rw[List.length_set];exact hj)];split
 ·rfl
 ·rw[List.getD_eq_getElem?_getD,List.getElem?_set]
  by_cases h:j=i
  ·subst h
   rw[if_pos rfl,if_pos rfl,if_pos hi,Option.getD_some]
  ·rw[if_neg (Ne.symm h),if_neg h,←List.getD_eq_getElem?_getD]
theorem Emb.edep(E:Emb t u S f)(wf:WF t):∀(K M:Nat),K≤t.nodes.length→M≤u.nodes.length→(∀m,m<u.nodes.length→(t.nodes.length≤f m+K↔u.nodes.length≤m+M))→∀m,m<u.nodes.length→(dQ u M).getD m 0=(dQ t K).getD (f m) 0
 | 0,M,_,hM,hb,m,hm=>by
   have:M=0:=by
    rcases Nat.eq_zero_or_pos M with h|h
    ·exact h
    ·have:=(hb (u.nodes.length-1) (by omega)).2 (by omega)
     have:=E.eLt (u.nodes.length-1) (by omega);omega
   subst this;have hfm:=E.eLt m hm;simp[dQ,List.getD_eq_getElem?_getD,List.getElem?_replicate,hm,hfm]
 | K+1,M,hK,hM,hb,m,hm=>by
   have hfm:=E.eLt m hm;have hx:t.nodes.length-1-K<t.nodes.length:=by omega
   have hkx:∀k∈(t.nd ((t.nodes.length-1-K:Nat):Int)).kids,0≤k∧k<((t.nodes.length-1-K:Nat):Int):=fun k hk=>by
    rw[kC hx]at hk;exact wf.kid _ hx k hk
   rw[dQ,oT hkx (by rw[zS];exact hx) (by rw[zS];exact hfm)];by_cases hp:∃y,y<u.nodes.length∧f y=t.nodes.length-1-K
   ·obtain⟨y,hy,hfy⟩:=hp
    have h1:=(hb y hy).1 (by omega)
    have hym:y=u.nodes.length-M:=by
     rcases Nat.lt_or_ge (u.nodes.length-M) y with h|h
     ·have h2:=E.eMono _ y h hy
      have h3:=(hb (u.nodes.length-M) (by omega)).2 (by omega);omega
     ·omega
    obtain⟨M,rfl⟩:∃M',M=M'+1:=⟨M-1,by omega⟩
    have hy2:u.nodes.length-1-M=y:=by omega
    have ih:=Emb.edep E wf K M (by omega) (by omega) (fun z hz=>by
     have h5:=hb z hz;rcases Nat.lt_trichotomy z y with h|h|h
     ·have:=E.eMono z y h hy;omega
     ·subst h;omega
     ·have:=E.eMono y z h hz;omega)
    rw[dQ,hy2,oT (E.eKidR y hy) (by rw[zS];exact hy) (by rw[zS];exact hm),ih m hm,ih y hy,hfy];have c1:((f m:Nat):Int)∈(t.nd ((t.nodes.length-1-K:Nat):Int)).kids↔(m:Int)∈(u.nd y).kids:=by rw[←hfy];exact E.ekid hm hy
    have c2:f m=t.nodes.length-1-K↔m=y:=by rw[←hfy];exact⟨fun h=>E.einj hm hy h,fun h=>by rw[h]⟩
    simp only[c1,c2]
   ·have ih:=Emb.edep E wf K M (by omega) hM (fun z hz=>by
     have h5:=hb z hz;have:f z≠t.nodes.length-1-K:=fun h=>hp ⟨z,hz,h⟩
     omega)
    rw[ih m hm,if_neg (fun h=>hp (E.eUp _ hx m hm h)),if_neg (fun h=>hp ⟨m,hm,h⟩)]
theorem mJ:∀(l:List Int) (a:Int),a≤l.foldl max a∧∀x∈l,x≤l.foldl max a
 | [],a=>⟨by simp,fun x h=>by cases h⟩
 | b::l,a=>by
   obtain⟨h1,h2⟩:=mJ l (max a b);rw[List.foldl_cons];refine⟨by omega,fun x hx=>?_⟩;rcases List.mem_cons.1 hx with rfl|h
   ·omega
   ·exact h2 x h
theorem lP{B:Int}:∀(l:List Int) (a:Int),a≤B→(∀x∈l,x≤B)→l.foldl max a≤B
 | [],a,h,_=>h
 | b::l,a,h,hl=>by
   rw[List.foldl_cons];exact lP l _ (by have:=hl b (by simp);omega) fun x hx=>hl x (List.mem_cons_of_mem _ hx)
theorem Emb.edeep(E:Emb t u S f)(wf:WF t):zW u≤zW t:=by
 unfold zW maxL;refine lP _ _ (mJ _ _).1 fun x hx=>?_;obtain⟨m,hm,rfl⟩:=List.getElem_of_mem hx;have hm2:m<u.nodes.length:=by unfold bX at hm;rwa[zS]at hm
 have h:=E.edep wf t.nodes.length u.nodes.length nlr nlr (fun z hz=>by omega) m hm2;have hfm:=E.eLt m hm2
 have e:(bX u)[m]=(bX t).getD (f m) 0:=by
  unfold bX at hm⊢;rw[←h,List.getD_eq_getElem?_getD];rw[List.getElem?_eq_getElem hm,Option.getD_some]
 rw[e];have hl:f m<(bX t).length:=by unfold bX;rw[zS];exact hfm
 rw[List.getD_eq_getElem?_getD,List.getElem?_eq_getElem hl,Option.getD_some];exact(mJ _ _).2 _ (List.getElem_mem hl)
theorem Emb.echeck(E:Emb t u S f)(G:Good t S)(wf:WF t)(hc:zJ t=0):zJ u=0:=by
 unfold zJ at hc⊢;have h1:=E.elen;have h2:=E.eilen;have h3:=E.edeep wf;split at hc
 ·cases hc
 ·rename_i g1
  rw[if_neg (by omega),if_pos (E.eform G)];split at hc
  ·split at hc
   ·cases hc
   ·rename_i g2
    rw[if_neg (by omega)];split at hc
    ·rename_i g3
     rw[if_pos];unfold eG at g3⊢;rw[List.all_eq_true]at g3⊢;intro m hm;have hm2:=List.mem_range.1 hm;exact E.esized G hm2 (g3 _ (List.mem_range.2 (E.eLt m hm2)))
    ·cases hc
  ·cases hc
end
end
section
open Go.RowKit
theorem xG{t:Tr}{n:Int}(h:aQ t n=0)(hk:aV (t.nd n).kind=true):0≤means t n:=by
 unfold aQ at h;split at h
 ·cases h
 ·split at h
  ·cases h
  ·rw[hk,if_neg (by simp)]at h
   split at h
   ·cases h
   ·omega
theorem mK{t:Tr}{n:Int}(h:means t n ≠ -1):(t.nd (means t n)).text=(t.nd n).text∧suits (t.nd n).kind (t.nd (means t n)).kind=true∧aV (t.nd n).kind=true:=by
 unfold means at h⊢;split at h
 ·split at h
  ·exact absurd rfl h
  ·rename_i h1 h2
   rw[if_pos h1,if_neg h2];simp only[Bool.or_eq_true,decide_eq_true_eq,Bool.not_eq_true',not_or,Bool.not_eq_false]at h2;refine⟨?_,h2.2,h1⟩;unfold nearest at h2⊢;cases hf:(sight t n).find? (fun d=>(t.nd d).text==(t.nd n).text)with
   |none=>rw[hf]at h2;simp at h2
   |some d=>simpa using List.find?_some hf
 ·exact absurd rfl h
def InSight(t:Tr)(node x:Int):Prop:=
 ((t.nd x).kind=20∧(∃k,(t.nd x).kids[1]?=some k∧inside t node k=true)∧inside t node x=true)∨((t.nd x).kind=42∧inside t node x=true)∨((t.nd x).kind=34∧0≤parent t x∧(t.nd (parent t x)).kind=42∧inside t node (parent t x)=true)
theorem yY{t:Tr}{S:List Int}(G:Good t S){node:Nat}(hn:node<t.nodes.length):∀(f last:Nat) (acc:List Int),last<t.nodes.length→inside t node last=true→(∀x∈acc,InSight t node x∧0≤x∧x<t.nodes.length) →
 ∀x∈(upF t (fun last n acc=>acc++zz (t.nd n) last n) f last (parent t last) acc).1,InSight t node x∧0≤x∧x<t.nodes.length
 |0,last,acc,hl,hin,ha=>ha
 | f+1,last,acc,hl,hin,ha=>by
   rw[upF];by_cases hp:parent t last<0
   ·rw[if_pos hp];exact ha
   ·rw[if_neg hp]
    obtain⟨i,he,hi,hm⟩:=zF (show 0≤parent t last by omega);have hk:=G.kid hi _ hm;rw[he];have hini:=pD he (by omega) (by omega) _ node nlr hn hin;refine yY G hn f i _ hi hini fun x hx=>?_;rcases List.mem_append.1 hx with hx|hx
    ·exact ha x hx
    ·unfold zz at hx
     rcases List.mem_append.1 hx with hx|hx
     ·split at hx
      ·rename_i hc
       obtain rfl:=List.mem_singleton.1 hx;simp only[Bool.and_eq_true,beq_iff_eq]at hc;exact⟨.inl ⟨hc.1,⟨_,hc.2,hin⟩,hini⟩,by omega,by omega⟩
      ·cases hx
     ·split at hx
      ·rename_i hc
       simp only[Bool.and_eq_true,beq_iff_eq]at hc;rcases List.mem_append.1 hx with hx|hx
       ·obtain⟨k,hk1,rfl⟩:=List.getElem_of_mem hx
        have hk2:k<(t.nd i).kids.length-2∧k<(t.nd i).kids.length:=by simp at hk1;omega
        rw[List.getElem_take];have hmem:=List.getElem_mem hk2.2;have hp:=G.parent_of hi hmem;have hkk:=G.kid hi _ hmem;exact⟨.inr (.inr ⟨G.paramKind hi hc.1 hk2.2 hk2.1,by omega,by rw[hp];exact hc.1,by rw[hp];exact hini⟩),by omega,by omega⟩
       ·obtain rfl:=List.mem_singleton.1 hx
        exact⟨.inr (.inl ⟨hc.1,hini⟩),by omega,by omega⟩
      ·cases hx
theorem kU{t:Tr}{S:List Int}(G:Good t S){node:Nat}(hn:node<t.nodes.length){x:Int}(h:x∈sight t node):(InSight t node x∨(x∈t.items∧x<(node:Int)∧zh t x=true))∧0≤x∧x<t.nodes.length:=by
 unfold sight at h;rcases List.mem_append.1 h with h|h
 ·obtain⟨h1,h2,h3⟩:=yY G hn (t.nodes.length+1) node [] hn (iD (by omega) (by omega)) (fun x h=>by cases h) x h
  exact⟨.inl h1,h2,h3⟩
 ·rw[G.ahead hn]at h
  simp only[List.mem_filter,Bool.and_eq_true,decide_eq_true_eq]at h;obtain⟨_,_,h2,h3,_⟩:=G.item x h.1;exact⟨.inr ⟨h.1,h.2.1,h.2.2⟩,h3,h2⟩
theorem InSight.decl{t:Tr}{node x:Int}(h:InSight t node x):zh t x=true:=by
 unfold zh sB;rcases h with⟨h,_⟩|⟨h,_⟩|⟨h,_,h2,_⟩
 ·rw[h];rfl
 ·rw[h];rfl
 ·rw[h,h2];rfl
theorem rP{t:Tr}{S:List Int}(G:Good t S){node:Nat}(hn:node<t.nodes.length){x:Int}(h:x∈sight t node):zh t x=true:=by
 rcases(kU G hn h).1 with h|h
 ·exact h.decl
 ·exact h.2.2
end
end Go.Proofs.YtokdgiphdnjeoaaGreatDoor
