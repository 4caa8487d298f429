/- Part of a proof. -/
import Derived.Test.YtokdgiphdnjeoaaGreatDoorDA04
import Derived.Test.YtokdgiphdnjeoaaGreatDoorDA05
import Derived.Test.YtokdgiphdnjeoaaGreatDoorQ41
set_option maxRecDepth 100000
set_option maxHeartbeats 8000000
set_option linter.unusedVariables false
set_option linter.unusedSimpArgs false
open Go.Proofs.Tryz
namespace Go.Proofs.YtokdgiphdnjeoaaGreatDoor
section
open Go Go.RowKit
theorem Al.put2:∀{l:List World}{X:World}{g:Nat}{y0 y1:Value},Al l X→Al.Le l g→Al l ((X.setCell ⟨g,0,none⟩ y0).setCell ⟨g,1,none⟩ y1)
 | [],_,_,_,_,_,_=>trivial
 |_::_,_,_,_,_,h,k=>⟨Below.setCell (p:=⟨_,1,none⟩) (Below.setCell (p:=⟨_,0,none⟩) h.1 k.1 _) k.1 _,Al.put2 h.2 k.2⟩
def PB(t:Tr)(i:Nat):Int:=if i=0 then 0 else t.items.getD (i-1) 0+1
theorem OY(v:TreeV)(t:Tr)(i:Nat)(w:World)(wf:WF t)(h:IsTree w v t)(hi:i<t.items.length) :
 Calls prog 57 #[v.val t,intV i] w (dL w (PB t i)):=by
 have hnl:=wf.bd.n;have hit:=wf.bd.i;obtain⟨na,nc,ia,ic⟩:=v;unfold TreeV.val;by_cases h0:i=0
 ·subst h0
  clear h wf;go_enter func57,ntmps57;go_wp2;go_ret;exact⟨rfl,(Below.refl _ w).alloc nlr _⟩
 ·obtain⟨j,rfl⟩:∃j,i=j+1:=⟨i-1,by omega⟩
  have hv:=wf.item _ (List.getElem_mem (show j<t.items.length by omega));obtain⟨b,o,rfl,hb,hc⟩:=Ints.at h.items (show j<t.items.length by omega);have hc2:=(((Below.refl _ w).alloc nlr (.cells #[.slice na t.nodes.length nc,.slice (some ⟨b,o,none⟩) t.items.length ic] 25)).cell (p:=⟨b,o+j,none⟩) hb).trans hc
  have hR:PB t (j+1)=t.items[j]+1:=by
   unfold PB;rw[if_neg (by omega),Nat.add_sub_cancel,List.getD_eq_getElem?_getD,List.getElem?_eq_getElem (by omega),Option.getD_some]
  obtain⟨x,hx⟩:∃x,t.items[j]=x:=⟨_,rfl⟩
  rw[hx]at hc2 hv hR;have HR:=Hd hR;have hv1:=hv.1;have hv2:=hv.2;clear h wf hc hx hR hv;go_enter func57,ntmps57;go_wp2;go_ret;exact⟨zo HR.out.symm,(Below.refl _ w).alloc nlr _⟩
theorem PN(v:TreeV)(t:Tr)(x:Int)(w:World)(wf:WF t)(hasc:t.items.Pairwise (· < ·))(h:IsTree w v t) :
 Calls prog 58 #[v.val t,intV x] w (dL w (kB t x)):=by
 have hnl:=wf.bd.n;have hit:=wf.bd.i;have HT:=Hd h;have HASC:=Hd hasc;obtain⟨na,nc,ia,ic⟩:=v;have HB0:Hid (Below (w.heap.size+1) (boxT w ⟨na,nc,ia,ic⟩ t) (boxT w ⟨na,nc,ia,ic⟩ t)):=Hd brf;clear h wf hasc;unfold TreeV.val at *;go_enter func58,ntmps58;go_wp2
 go_loopw [5] (fun t5 wr=>∃k:Nat,t5=.int .i64 k∧k≤t.items.length∧Hid (∀j (h:j<t.items.length),j<k→t.items[j]<x)∧Hid (Below (w.heap.size+1) (boxT w ⟨na,nc,ia,ic⟩ t) wr)) (fun t5 _=>t.items.length-(intOf t5).toNat)
 case atStart=>exact⟨0,rfl,Nat.zero_le _,Hd (fun j _ h=>absurd h (Nat.not_lt_zero _)),HB0⟩
 case round=>
  obtain⟨k,rfl,hk,HA,HB⟩:=hrel;obtain⟨b0,b1,hT,-,hbw⟩:=boxed HB.out HT.out;have HBW:=Hd hbw;have HTR:=Hd hT;clear hT hbw;by_cases hlt:k<t.items.length
  ·obtain⟨b,o,rfl,hb,hc⟩:=Ints.at HTR.out.items hlt
   obtain⟨y,hy⟩:∃y,t.items[k]=y:=⟨_,rfl⟩
   rw[hy]at hc;have HY:=Hd hy;clear hy;by_cases hle:x≤y
   ·have HR:Hid (kB t x=k):=Hd (by
     refine fB HASC.out HA.out (fun j hj hkj=>?_) hk;rcases Nat.lt_or_eq_of_le hkj with h|h
     ·have:=List.pairwise_iff_getElem.1 HASC.out k j hlt hj h
      have:=HY.out;omega
     ·subst h;have:=HY.out;omega)
    go_wp2;go_ret;exact⟨zo (by rw[HR.out]),HBW.out⟩
   ·have HLE:=Hd hle
    go_wp2
    go_roundw
    case rel=>
     refine⟨k+1,by go_num,by omega,Hd (fun j hj hjk=>?_),HB⟩;by_cases e:j=k
     ·subst e;have:=HY.out;have:=HLE.out;omega
     ·exact HA.out j hj (by omega)
    case measure=>simp[intOf];omega
  ·obtain rfl:k=t.items.length:=by omega
   have HR:Hid (kB t x=t.items.length):=Hd (fB HASC.out HA.out (fun j hj hkj=>by omega) nlr);go_wp2;go_ret;exact⟨zo (by rw[HR.out]),HBW.out⟩
end
section
open Go.RowKit
section
variable {t : Tr} {S : List Int}
theorem Good.estt(G:Good t S){i:Nat}(hi:i<t.items.length):stt S t.items[i]=(aC t S i:Int)-1:=by
 obtain⟨b1,b2,b3,b4⟩:=G.blk hi;have h0:stt S (aI t i:Nat)=(aI t i:Int)-S.getD (aI t i) 0:=by simp[stt]
 rw[b1];omega
theorem Good.eitem(G:Good t S){i x:Nat}(hi:i<t.items.length)(h1:aC t S i≤x)(h2:x≤aI t i):zY t x=i∧kB t x=i:=by
 obtain⟨b1,b2,b3,b4⟩:=G.blk hi;obtain⟨k,hk,g1,g2,g3,g4⟩:=G.itemAt (x:=x) (by omega);have hs:=G.estt hi;have he:=G.inItem (List.getElem_mem hk) (List.getElem_mem hi) g3 g4 (by omega) (by omega)
 have:k=i:=by
  have hp:=List.pairwise_iff_getElem.1 G.itemsAsc;rcases Nat.lt_trichotomy k i with h|h|h
  ·have:=hp k i hk hi h;omega
  ·exact h
  ·have:=hp i k hi hk h;omega
 subst this;exact⟨g1,g2⟩
theorem Good.eblk(G:Good t S){x:Nat}(hx:x<t.nodes.length):∃j,j<t.items.length∧zY t x=j∧kB t x=j∧aC t S j≤x∧x≤aI t j:=by
 obtain⟨k,hk,g1,g2,g3,g4⟩:=G.itemAt hx;have hs:=G.estt hk;obtain⟨b1,b2,b3,b4⟩:=G.blk hk;exact⟨k,hk,g1,g2,by omega,by omega⟩
theorem Good.efrom0(G:Good t S)(h:0<t.items.length):aC t S 0=0:=by
 obtain⟨b1,b2,b3,b4⟩:=G.blk h;obtain⟨it,hit,h1,h2⟩:=G.coverI (j:=0) (by omega) (by omega);obtain⟨k,hk,rfl⟩:=List.getElem_of_mem hit;rcases Nat.eq_zero_or_pos k with e|e
 ·subst e
  have:=G.estt h;omega
 ·have:=List.pairwise_iff_getElem.1 G.items 0 k h hk e
  omega
theorem Good.efrom(G:Good t S){i:Nat}(h:i+1<t.items.length):aC t S (i+1)=aI t i+1:=by
 obtain⟨b1,b2,b3,b4⟩:=G.blk h;obtain⟨a1,a2,a3,a4⟩:=G.blk (show i<t.items.length by omega);have hlt:=G.blkLt (show i<i+1 by omega) h;obtain⟨it,hit,h1,h2⟩:=G.coverI (j:=(aI t i:Int)+1) (by omega) (by omega);obtain⟨k,hk,rfl⟩:=List.getElem_of_mem hit;have hp:=List.pairwise_iff_getElem.1 G.itemsAsc;rcases Nat.lt_trichotomy k (i+1)with e|e|e
 ·exfalso
  rcases Nat.lt_or_eq_of_le (show k≤i by omega)with e2|e2
  ·have:=hp k i hk (by omega) e2;omega
  ·subst e2;omega
 ·subst e
  have:=G.estt hk;omega
 ·have:=List.pairwise_iff_getElem.1 G.items (i+1) k h hk e
  omega
theorem Good.ebegin(G:Good t S){i:Nat}(h:i<t.items.length):PB t i=(aC t S i:Int):=by
 unfold PB;rcases i with _|i
 ·rw[if_pos rfl,G.efrom0 h];rfl
 ·obtain⟨a1,-,-,-⟩:=G.blk (show i<t.items.length by omega)
  rw[if_neg (by omega),Nat.add_sub_cancel,G.efrom h,List.getD_eq_getElem?_getD,List.getElem?_eq_getElem (by omega),Option.getD_some,a1];omega
def Closed(t:Tr)(sel:Nat→Bool)(k:Nat):Prop:=∀i,i<k→sel i=true→∀n:Nat,n<t.nodes.length→zY t n=i→0≤means t n→∃j:Nat,j<k∧sel j=true∧zY t (means t n)=j
theorem Good.eshut(G:Good t S)(wf:WF t){sel:Nat→Bool}{k:Nat}(hk:k≤t.items.length)(hc:Closed t sel k)(h0:∀n:Nat,n<t.nodes.length→aQ t n=0):Shut t (selT t S sel k) (selF t S sel k):=by
 intro m hm hn;have D:=G.esel (sel:=sel) k hk;obtain⟨j,h1,h2,h3,h4⟩:=D.src m hm;have hx:=D.emb.eLt m hm;obtain⟨e1,-⟩:=G.eitem (show j<t.items.length by omega) h3 h4;have hd:=((err_zero.1 (h0 _ hx)).2.2 hn).1;obtain⟨j',g1,g2,g3⟩:=hc j h1 h2 _ hx e1 hd;have hr:=(aJ wf (node:=selF t S sel k m)).2;obtain⟨d,hdd⟩:=Int.eq_ofNat_of_zero_le hd;rw[hdd]at g3 hr⊢;obtain⟨j2,q1,q2,q3,q4,q5⟩:=G.eblk (x:=d) (by omega);have:j2=j':=by omega
 subst this;obtain⟨d1,d2⟩:=D.dst j2 g1 g2 (d-aC t S j2) (by omega);exact pickd_iff.2 ⟨_,d1,by rw[d2];omega⟩
theorem Good.eall(G:Good t S)(wf:WF t)(hch:zJ t=0){sel:Nat→Bool}{k:Nat}(hk:k≤t.items.length)(hc:Closed t sel k)(h0:∀n:Nat,n<t.nodes.length→aQ t n=0) :
 zJ (selT t S sel k)=0∧zc (selT t S sel k)=((List.range (selT t S sel k).nodes.length).map (fun m:Nat=>means (selT t S sel k) (m:Int)),0,0) ∧
 ∀ i,i<k→sel i=true→∀r,aC t S i+r≤aI t i→(selT t S sel i).nodes.length+r<(selT t S sel k).nodes.length ∧
   (means t ((aC t S i+r:Nat):Int)<0→means (selT t S sel k) (((selT t S sel i).nodes.length+r:Nat):Int) = -1) ∧
   (∀d:Nat,means t ((aC t S i+r:Nat):Int)=d→∃j:Nat,j<k∧sel j=true∧kB t d=j∧aC t S j≤d∧means (selT t S sel k) (((selT t S sel i).nodes.length+r:Nat):Int)=(((selT t S sel j).nodes.length+(d-aC t S j):Nat):Int)):=by
 have D:=G.esel (sel:=sel) k hk;have hs:=G.eshut wf hk hc h0;have h0':∀m,m<(selT t S sel k).nodes.length→aQ t (selF t S sel k m:Nat)=0:=fun m hm=>h0 _ (D.emb.eLt m hm);have hcu:=D.emb.echeck G wf hch;refine⟨hcu,D.emb.eres G wf hs h0' hcu,fun i hi hsi r hr=>?_⟩;obtain⟨d1,d2⟩:=D.dst i hi hsi r hr;obtain⟨m1,m2,m3⟩:=D.emb.emean G wf hs h0' d1;rw[d2]at m1;refine⟨d1,fun hneg=>?_,fun d hd=>?_⟩
 ·rw[m1]at hneg
  have hlt:means (selT t S sel k) (((selT t S sel i).nodes.length+r:Nat):Int)<0:=by
   rcases Int.lt_or_le (means (selT t S sel k) (((selT t S sel i).nodes.length+r:Nat):Int)) 0 with h|h
   ·exact h
   ·obtain⟨q,hq⟩:=Int.eq_ofNat_of_zero_le h
    rw[hq,zL]at hneg;omega
  cases hn:aV ((selT t S sel k).nd (((selT t S sel i).nodes.length+r:Nat):Int)).kind with
  |true=>have:=m3 hn;omega
  |false=>exact fD hn
 ·have hdt:d<t.nodes.length:=by
   have:=(aJ wf (node:=aC t S i+r)).2;omega
  have hxt:aC t S i+r<t.nodes.length:=by rw[←d2];exact D.emb.eLt _ d1
  obtain⟨e1,-⟩:=G.eitem (show i<t.items.length by omega) (x:=aC t S i+r) (by omega) hr;obtain⟨j,g1,g2,g3⟩:=hc i hi hsi _ hxt e1 (by omega);rw[hd]at g3;obtain⟨j2,q1,q2,q3,q4,q5⟩:=G.eblk hdt;have:j2=j:=by omega
  subst this;refine⟨j2,g1,g2,q3,q4,?_⟩;obtain⟨c1,c2⟩:=D.dst j2 g1 g2 (d-aC t S j2) (by omega);rw[hd]at m1;rcases Int.lt_or_le (means (selT t S sel k) (((selT t S sel i).nodes.length+r:Nat):Int)) 0 with h|h
  ·rw[OW h]at m1;omega
  ·obtain⟨q,hq⟩:=Int.eq_ofNat_of_zero_le h
   rw[hq]at m1 m2⊢;rw[zL]at m1;have:=D.emb.einj (a:=q) (b:=(selT t S sel j2).nodes.length+(d-aC t S j2)) (by omega) c1 (by omega);rw[this]
end
end
section
open Go.RowKit
section
variable {t : Tr} {S : List Int}
theorem Good.cloAll(G:Good t S)(wf:WF t)(k:Nat):Closed t (fun _=>true) k:=by
 intro i hi _ n hn hin hd;have h1:=fW wf G hn (by omega);have hr:=(aJ wf (node:=n)).2;obtain⟨d,hdd⟩:=Int.eq_ofNat_of_zero_le hd;rw[hdd]at h1 hr⊢;obtain⟨j,q1,q2,-⟩:=G.eblk (x:=d) (by omega);exact⟨j,by omega,rfl,q2⟩
theorem Good.selNeed(G:Good t S)(wf:WF t){k:Nat}{M:List Int}(hM:∀x,x∈M↔x≠(k:Int)∧NS t (zg t t.nodes.length) k (k+1) x)(i:Nat):selN M k i=true↔Reach t (zg t t.nodes.length) k i:=by
 unfold selN hasI;rw[Bool.or_eq_true,List.contains_iff_mem,hM,NS.reach wf G,beq_iff_eq];constructor
 ·rintro(h|rfl)
  ·exact h.2
  ·exact .base
 ·intro h
  by_cases e:i=k
  ·exact .inr e
  ·exact .inl ⟨by omega,h⟩
theorem Good.cloNeed(G:Good t S)(wf:WF t){k:Nat}{M:List Int}(hM:∀x,x∈M↔x≠(k:Int)∧NS t (zg t t.nodes.length) k (k+1) x):Closed t (selN M k) (k+1):=by
 intro i hi hs n hn hin hd;have h1:=fW wf G hn (by omega);have hr:=(aJ wf (node:=n)).2;have h2:=(G.selNeed wf hM i).1 hs;rw[←hin]at h2;have h3:=Reach.step hn (by rw[bW hn];exact hd) h2;rw[bW hn]at h3;obtain⟨d,hdd⟩:=Int.eq_ofNat_of_zero_le hd;rw[hdd]at h1 hr h3⊢;obtain⟨j,q1,q2,-⟩:=G.eblk (x:=d) (by omega);rw[q2]at h3;exact⟨j,by omega,(G.selNeed wf hM j).2 h3,q2⟩
theorem Good.needLt(G:Good t S)(wf:WF t){k:Nat}(hk:k<t.items.length){x:Int}(h1:x≠(k:Int))(h:NS t (zg t t.nodes.length) k (k+1) x):0≤x∧x<k:=by
 have h2:=NS.le wf G _ _ h;refine⟨?_,by omega⟩
 cases (NS.reach wf G x).1 h with
 |base=>omega
 | step hn h0 hr=>
   rename_i n;rw[bW hn]at h0⊢;have hr2:=(aJ wf (node:=n)).2;obtain⟨d,hdd⟩:=Int.eq_ofNat_of_zero_le h0;rw[hdd]at hr2⊢;obtain⟨j,q1,q2,-⟩:=G.eblk (x:=d) (by omega);omega
theorem Good.firstN(G:Good t S):∀i,i≤t.items.length→(i<t.items.length→(selT t S (fun _=>true) i).nodes.length=aC t S i)∧(∀m,m<(selT t S (fun _=>true) i).nodes.length→selF t S (fun _=>true) i m=m)
 |0,_=>⟨fun h=>(G.efrom0 h).symm,fun m h=>absurd h (Nat.not_lt_zero _)⟩
 | i+1,h=>by
   obtain⟨ih1,ih2⟩:=Good.firstN G i (by omega);have ih1:=ih1 (by omega);have hl:=sH (u:=selT t S (fun _=>true) i) G (show i<t.items.length by omega);obtain⟨b1,b2,b3,b4⟩:=G.blk (show i<t.items.length by omega);have e1:selT t S (fun _=>true) (i+1)=bT (selT t S (fun _=>true) i) (cutT t S i):=by rw[selT,if_pos rfl]
   have e2:selF t S (fun _=>true) (i+1)=iT (selF t S (fun _=>true) i) (selT t S (fun _=>true) i).nodes.length (aC t S i):=by rw[selF,if_pos rfl]
   refine⟨fun h2=>?_,fun m hm=>?_⟩
   ·rw[e1,hl,ih1,G.efrom h2]
    omega
   ·rw[e2]
    unfold iT;split
    ·rename_i hc;exact ih2 m hc
    ·omega
theorem Good.firstM(G:Good t S)(wf:WF t){k:Nat}(hk:k<t.items.length)(h0:∀n:Nat,n<t.nodes.length→aQ t n=0) :
 (selT t S (fun _=>true) (k+1)).nodes.length≤t.nodes.length∧(List.range (selT t S (fun _=>true) (k+1)).nodes.length).map (fun m:Nat=>means (selT t S (fun _=>true) (k+1)) (m:Int))=((List.range t.nodes.length).map (fun m:Nat=>means t (m:Int))).take (selT t S (fun _=>true) (k+1)).nodes.length:=by
 have D:=G.esel (sel:=fun _=>true) (k+1) (by omega);have hlen:=D.emb.elen;obtain⟨-,hf⟩:=G.firstN (k+1) (by omega);refine⟨hlen,?_⟩;rw[←List.map_take,List.take_range,Nat.min_eq_left hlen];refine List.map_congr_left fun m hm=>?_;have hm2:=List.mem_range.1 hm;obtain⟨m1,m2,-⟩:=D.emb.emean G wf (G.eshut wf (by omega) (G.cloAll wf _) h0) (fun z hz=>h0 _ (D.emb.eLt z hz)) hm2;rw[hf m hm2]at m1;rw[m1];rcases Int.lt_or_le (means (selT t S (fun _=>true) (k+1)) (m:Int)) 0 with h|h
 ·rw[OW h]
 ·obtain⟨q,hq⟩:=Int.eq_ofNat_of_zero_le h
  rw[hq]at m2⊢;rw[zL,hf q (by omega)]
end
end
section
open Go Go.RowKit
theorem QI{w:World}{a b:Option Addr}{c d n m:Nat}{l:List Int}(hn:l.length=n)(hm:l.length=m)(hl:l.length≤140737488355328)(h:Ints w a c l)(h':Ints w b d l) :
 Calls prog 56 #[.slice a n c,.slice b m d] w (zq w true):=by
 subst hn hm;have:=PZ a b c d l l w hl hl h h';rwa[show(l==l)=true by simp]at this
end
section
open Go Go.RowKit
structure ResD (w W:World) (g:Nat) (v:TreeV) (t:Tr) (da:Option Addr) (dc:Nat):Prop where
 c0:W.cell? ⟨g,0,none⟩=some (.slice v.na t.nodes.length v.nc)
 c1:W.cell? ⟨g,1,none⟩=some (.slice v.ia t.items.length v.ic)
 tree:IsTree W v t
 decl:Row 1 W da t.nodes.length dc (zm (zg t t.nodes.length))
 gl:g<W.heap.size
 below:Below w.heap.size w W
 gv:GV W
theorem ResD.step{w W W':World}{g:Nat}{v:TreeV}{t:Tr}{da:Option Addr}{dc:Nat}(h:ResD w W g v t da dc)(hb:Below W.heap.size W W'):ResD w W' g v t da dc:=
 ⟨(hb.cell (p:=⟨g,0,none⟩) h.gl).trans h.c0,(hb.cell (p:=⟨g,1,none⟩) h.gl).trans h.c1,h.tree.mono hb nlr,Row.mono h.decl hb nlr,Nat.lt_of_lt_of_le h.gl hb.size,h.below.trans (hb.mono h.below.size),h.gv.mono hb nlr⟩
structure BoxX (W:World) (g:Nat) (v:TreeV) (t:Tr) (N:Nat→Prop):Prop where
 c0:W.cell? ⟨g,0,none⟩=some (.slice v.na t.nodes.length v.nc)
 c1:W.cell? ⟨g,1,none⟩=some (.slice v.ia t.items.length v.ic)
 f0:W.frozen? ⟨g,0,none⟩=false
 f1:W.frozen? ⟨g,1,none⟩=false
 gl:g<W.heap.size
 tree:IsTreeX W v t N
theorem BoxX.step{W W':World}{g:Nat}{v:TreeV}{t:Tr}{N:Nat→Prop}(h:BoxX W g v t N)(hb:Below W.heap.size W W'):BoxX W' g v t N:=
 ⟨(hb.cell (p:=⟨g,0,none⟩) h.gl).trans h.c0,(hb.cell (p:=⟨g,1,none⟩) h.gl).trans h.c1,(hb.frozen (p:=⟨g,0,none⟩) h.gl).trans h.f0,(hb.frozen (p:=⟨g,1,none⟩) h.gl).trans h.f1,Nat.lt_of_lt_of_le h.gl hb.size,h.tree.keep hb.size fun i hi hN=>⟨hb.block i hi,hN⟩⟩
theorem gQ(W:World)(g:Nat)(y0 y1:Value){i:Nat}(h:i≠g):((W.setCell ⟨g,0,none⟩ y0).setCell ⟨g,1,none⟩ y1).heap[i]?=W.heap[i]?:=
 (dO h).trans (dO h)
theorem BoxX.put{W:World}{g:Nat}{v v':TreeV}{t t':Tr}{N N' M:Nat→Prop}(h:BoxX W g v t N)(ht:IsTreeX W v' t' N')(hN:∀i,i<W.heap.size→N' i→i≠g∧M i):BoxX ((W.setCell ⟨g,0,none⟩ (.slice v'.na t'.nodes.length v'.nc)).setCell ⟨g,1,none⟩ (.slice v'.ia t'.items.length v'.ic)) g v' t' M:=by
 obtain⟨k0,k1⟩:=eE h.c0 h.c1 (.slice v'.na t'.nodes.length v'.nc) (.slice v'.ia t'.items.length v'.ic);refine⟨k0,k1,by rw[World.frozen?_setCell,World.frozen?_setCell];exact h.f0,by rw[World.frozen?_setCell,World.frozen?_setCell];exact h.f1,by simpa using h.gl,ht.keep (by simp) fun i hi hn=>⟨gQ W g _ _ (hN i hi hn).1,(hN i hi hn).2⟩⟩
theorem uQ(W:World)(N:Nat→Prop):IsTreeX W ⟨none,0,none,0⟩ ⟨[],[]⟩ N:=
 ⟨⟨[],rfl,⟨rfl,nlr,fun _=>rfl,.inl rfl⟩,fun i h=>absurd h (Nat.not_lt_zero _),fun h=>absurd h (Nat.not_lt_zero _),fun i h=>absurd h (Nat.not_lt_zero _)⟩,⟨rfl,nlr,fun _=>rfl,.inl rfl⟩,fun h=>absurd h (Nat.not_lt_zero _)⟩
def rG(t:Tr)(S:List Int)(sel:Nat→Bool)(i:Nat):List Int:=(List.range i).map fun j=>if sel j then ((selT t S sel j).nodes.length:Int)else -1
theorem PO(t:Tr)(S:List Int)(sel:Nat→Bool)(i:Nat):rG t S sel (i+1)=rG t S sel i++[if sel i then ((selT t S sel i).nodes.length:Int)else -1]:=by
 unfold rG;rw[List.range_succ,List.map_append];rfl
theorem OV(t:Tr)(S:List Int)(sel:Nat→Bool)(i:Nat):(rG t S sel i).length=i:=by simp[rG]
def OffK(a:Option Addr)(g1 g2 i:Nat):Prop:=gK a i∧i≠g1∧i≠g2
structure Bag (W2:World) (g1 g2:Nat) (al:Option Addr) (cl:Nat) (q:List Int) (v1 v2:TreeV) (t1 t2:Tr) (W:World):Prop where
 below:Below W2.heap.size W2 W
 own:OwnI W W2.heap.size al cl q
 n1:gK al g1
 n2:gK al g2
 b1:BoxX W g1 v1 t1 (OffK al g1 g2)
 b2:BoxX W g2 v2 t2 (OffK al g1 g2)
 l1:W2.heap.size≤g1
 l2:W2.heap.size≤g2
 ne:g1≠g2
theorem PG(W:World)(g:Nat)(y0 y1:Value):Turns (fun i=>i=g) W ((W.setCell ⟨g,0,none⟩ y0).setCell ⟨g,1,none⟩ y1):=
 ⟨rfl,rfl,rfl,by simp,fun b _ hn=>gQ W g y0 y1 hn⟩
theorem BoxX.keep{W W':World}{g:Nat}{v:TreeV}{t:Tr}{N N':Nat→Prop}(h:BoxX W g v t N)(hs:W.heap.size≤W'.heap.size)(hg:W'.heap[g]?=W.heap[g]?)(hk:∀i,i<W.heap.size→N i→W'.heap[i]?=W.heap[i]?∧N' i):BoxX W' g v t N':=by
 have e:∀i,W'.frozen? ⟨g,i,none⟩=W.frozen? ⟨g,i,none⟩:=fun i=>by
  unfold World.frozen?;rw[hg]
 exact⟨(World.cell?_of_block (a:=⟨g,0,none⟩) hg).trans h.c0,(World.cell?_of_block (a:=⟨g,1,none⟩) hg).trans h.c1,(e 0).trans h.f0,(e 1).trans h.f1,Nat.lt_of_lt_of_le h.gl hs,h.tree.keep hs hk⟩
section
variable {W2 W W' W0 : World} {g1 g2 : Nat} {al : Option Addr} {cl : Nat} {q : List Int} {v1 v2 v' : TreeV} {t1 t2 t' : Tr}
theorem Bag.step(h:Bag W2 g1 g2 al cl q v1 v2 t1 t2 W)(hb:Below W.heap.size W W'):Bag W2 g1 g2 al cl q v1 v2 t1 t2 W':=
 ⟨h.below.trans (hb.mono h.below.size),zy h.own hb,h.n1,h.n2,h.b1.step hb,h.b2.step hb,h.l1,h.l2,h.ne⟩
theorem Bag.fresh(h:Bag W2 g1 g2 al cl q v1 v2 t1 t2 W){i:Nat}(hi:W.heap.size≤i):OffK al g1 g2 i:=
 ⟨fun p e hp=>by subst e;have:=(h.own.lt p.block rfl).2;omega,by have:=h.b1.gl;omega,by have:=h.b2.gl;omega⟩
theorem Bag.put1(h:Bag W2 g1 g2 al cl q v1 v2 t1 t2 W)(h0:Bag W2 g1 g2 al cl q v1 v2 t1 t2 W0)(ht:IsTreeX W v' t' (fun y=>W0.heap.size≤y)) :
 Bag W2 g1 g2 al cl q v' v2 t' t2 ((W.setCell ⟨g1,0,none⟩ (.slice v'.na t'.nodes.length v'.nc)).setCell ⟨g1,1,none⟩ (.slice v'.ia t'.items.length v'.ic)):=by
 have hT:=PG W g1 (.slice v'.na t'.nodes.length v'.nc) (.slice v'.ia t'.items.length v'.ic)
 exact⟨(h.below.setCell h.l1 _).setCell h.l1 _,bR h.own hT (fun i hi e=>by obtain⟨x,hx,hb⟩:=hi;exact h.n1 x hx (by omega)),h.n1,h.n2,
  h.b1.put ht fun i _ hi=>⟨(h0.fresh hi).2.1,h0.fresh hi⟩,h.b2.keep (by simp) (gQ W g1 _ _ (Ne.symm h.ne)) fun i _ hi=>⟨gQ W g1 _ _ hi.2.1,hi⟩,h.l1,h.l2,h.ne⟩
theorem Bag.put2(h:Bag W2 g1 g2 al cl q v1 v2 t1 t2 W)(h0:Bag W2 g1 g2 al cl q v1 v2 t1 t2 W0)(ht:IsTreeX W v' t' (fun y=>W0.heap.size≤y)) :
 Bag W2 g1 g2 al cl q v1 v' t1 t' ((W.setCell ⟨g2,0,none⟩ (.slice v'.na t'.nodes.length v'.nc)).setCell ⟨g2,1,none⟩ (.slice v'.ia t'.items.length v'.ic)):=by
 have hT:=PG W g2 (.slice v'.na t'.nodes.length v'.nc) (.slice v'.ia t'.items.length v'.ic)
 exact⟨(h.below.setCell h.l2 _).setCell h.l2 _,bR h.own hT (fun i hi e=>by obtain⟨x,hx,hb⟩:=hi;exact h.n2 x hx (by omega)),h.n1,h.n2,
  h.b1.keep (by simp) (gQ W g2 _ _ h.ne) (fun i _ hi=>⟨gQ W g2 _ _ hi.2.2,hi⟩),h.b2.put ht fun i _ hi=>⟨(h0.fresh hi).2.2,h0.fresh hi⟩,h.l1,h.l2,h.ne⟩
theorem Bag.grow{a':Option Addr}{c':Nat}{l':List Int}(h:Bag W2 g1 g2 al cl q v1 v2 t1 t2 W)(ho:OwnI W' W2.heap.size a' c' l')(h4:∀B' A,B'≤W2.heap.size→Below B' A W→Below B' A W')(h5:∀g,g<W.heap.size→gK al g→W'.heap[g]?=W.heap[g]?∧gK a' g) :
 Bag W2 g1 g2 a' c' l' v1 v2 t1 t2 W':=by
 have hs:W.heap.size≤W'.heap.size:=(h4 _ W nlr brf).size;have k:∀i,i<W.heap.size→OffK al g1 g2 i→W'.heap[i]?=W.heap[i]?∧OffK a' g1 g2 i:=fun i hi hn=>⟨(h5 i hi hn.1).1,(h5 i hi hn.1).2,hn.2⟩
 exact⟨h4 _ _ nlr h.below,ho,(h5 g1 h.b1.gl h.n1).2,(h5 g2 h.b2.gl h.n2).2,h.b1.keep hs (h5 g1 h.b1.gl h.n1).1 k,h.b2.keep hs (h5 g2 h.b2.gl h.n2).1 k,h.l1,h.l2,h.ne⟩
theorem Bag.set{g:Nat}(h:Bag W2 g1 g2 (some ⟨g,0,none⟩) cl q v1 v2 t1 t2 W)(i:Nat)(x:Int):Bag W2 g1 g2 (some ⟨g,0,none⟩) cl (q.set i x) v1 v2 t1 t2 (W.setCell ⟨g,i,none⟩ (intV x)):=by
 have hg:W2.heap.size≤g:=(h.own.lt g rfl).1;have ho:=gJ h.own i x
 have ho:OwnI (W.setCell ⟨g,i,none⟩ (intV x)) W2.heap.size (some ⟨g,0,none⟩) cl (q.set i x):=by
  unfold OwnI;rw[List.length_set];exact ho
 have k:∀j,gK (some ⟨g,0,none⟩) j→(W.setCell ⟨g,i,none⟩ (intV x)).heap[j]?=W.heap[j]?:=fun j hj=>dO (fun e=>hj _ rfl (by exact e.symm));exact⟨h.below.setCell hg _,ho,h.n1,h.n2,h.b1.keep (by simp) (k _ h.n1) fun j _ hj=>⟨k _ hj.1,hj⟩,h.b2.keep (by simp) (k _ h.n2) fun j _ hj=>⟨k _ hj.1,hj⟩,h.l1,h.l2,h.ne⟩
end
structure One (W:World) (al:Option Addr) (g1 g2 g:Nat) (v:TreeV) (t:Tr):Prop where
 box:BoxX W g v t (OffK al g1 g2)
 off:OffK al g1 g2 g
theorem One.move{W W':World}{al a':Option Addr}{g1 g2 g:Nat}{v:TreeV}{t:Tr}(h:One W al g1 g2 g v t)(hs:W.heap.size≤W'.heap.size)(hk:∀i,i<W.heap.size→OffK al g1 g2 i→W'.heap[i]?=W.heap[i]?∧OffK a' g1 g2 i):One W' a' g1 g2 g v t:=
 ⟨h.box.keep hs (hk g h.box.gl h.off).1 hk,(hk g h.box.gl h.off).2⟩
theorem One.step{W W':World}{al:Option Addr}{g1 g2 g:Nat}{v:TreeV}{t:Tr}(h:One W al g1 g2 g v t)(hb:Below W.heap.size W W'):One W' al g1 g2 g v t:=h.move hb.size fun i hi ho=>⟨hb.block i hi,ho⟩
theorem One.put1{W:World}{al:Option Addr}{g1 g2 g:Nat}{v:TreeV}{t:Tr}(h:One W al g1 g2 g v t)(y0 y1:Value):One ((W.setCell ⟨g1,0,none⟩ y0).setCell ⟨g1,1,none⟩ y1) al g1 g2 g v t:=h.move (by simp) fun i _ ho=>⟨gQ W g1 _ _ ho.2.1,ho⟩
theorem One.put2{W:World}{al:Option Addr}{g1 g2 g:Nat}{v:TreeV}{t:Tr}(h:One W al g1 g2 g v t)(y0 y1:Value):One ((W.setCell ⟨g2,0,none⟩ y0).setCell ⟨g2,1,none⟩ y1) al g1 g2 g v t:=h.move (by simp) fun i _ ho=>⟨gQ W g2 _ _ ho.2.2,ho⟩
theorem One.grow{W W':World}{al a':Option Addr}{g1 g2 g:Nat}{v:TreeV}{t:Tr}(h:One W al g1 g2 g v t)(hs:W.heap.size≤W'.heap.size)(h5:∀g,g<W.heap.size→gK al g→W'.heap[g]?=W.heap[g]?∧gK a' g):One W' a' g1 g2 g v t:=h.move hs fun i hi ho=>⟨(h5 i hi ho.1).1,(h5 i hi ho.1).2,ho.2⟩
theorem One.set{W:World}{b:Nat}{g1 g2 g:Nat}{v:TreeV}{t:Tr}(h:One W (some ⟨b,0,none⟩) g1 g2 g v t)(i:Nat)(x:Value):One (W.setCell ⟨b,i,none⟩ x) (some ⟨b,0,none⟩) g1 g2 g v t:=h.move (by simp) fun j _ ho=>⟨dO (fun e=>ho.1 _ rfl (by exact e.symm)),ho⟩
end
section
open Go Go.RowKit
theorem PA{t:Tr}{S:List Int}{sel:Nat→Bool}{K i:Nat}(h:i<K):(rG t S sel K)[i]?=some (if sel i then ((selT t S sel i).nodes.length:Int)else -1):=by
 unfold rG;rw[List.getElem?_map,List.getElem?_range h];rfl
def QJ(t:Tr)(S:List Int)(k:Nat)(q L:List Int)(i m n:Nat):Prop:=
 ∃p:Nat,(n:Int)-aC t S i+m=p∧p<L.length∧((means t n<0∧L[p]?=some (-1))∨∃d j mj:Nat,means t n=d∧j≤k∧kB t d=j∧aC t S j≤d∧q[j]?=some (mj:Int)∧mj≤t.nodes.length∧L[p]?=some ((d:Int)-aC t S j+mj))
theorem Good.alone{t:Tr}{S:List Int}(G:Good t S)(wf:WF t)(hch:zJ t=0){k:Nat}(hk:k<t.items.length){M:List Int}(hM:∀x,x∈M↔x≠(k:Int)∧NS t (zg t t.nodes.length) k (k+1) x)(h0:∀n:Nat,n<t.nodes.length→aQ t n=0) :
 ∃L:List Int,zc (selT t S (selN M k) (k+1))=(L,0,0)∧L.length=(selT t S (selN M k) (k+1)).nodes.length ∧
 ∀i,i≤k→((rG t S (selN M k) (k+1))[i]?=some (-1))∨(∃m:Nat,(rG t S (selN M k) (k+1))[i]?=some (m:Int)∧∀n,aC t S i≤n→n≤aI t i→QJ t S k (rG t S (selN M k) (k+1)) L i m n):=by
 obtain⟨-,h1,h2⟩:=G.eall wf hch (show k+1≤t.items.length by omega) (G.cloNeed wf hM) h0;refine⟨_,h1,by simp,fun i hi=>?_⟩
 cases hs:selN M k i with
 |false=>exact .inl (by rw[PA (by omega),hs];rfl)
 | true=>
   refine .inr ⟨(selT t S (selN M k) i).nodes.length,by rw[PA (by omega),hs];rfl,fun n hn1 hn2=>?_⟩;obtain⟨r,rfl⟩:∃r,n=aC t S i+r:=⟨n-aC t S i,by omega⟩
   obtain⟨g1,g2,g3⟩:=h2 i (by omega) hs r hn2
   have hg:((List.range (selT t S (selN M k) (k+1)).nodes.length).map (fun m:Nat=>means (selT t S (selN M k) (k+1)) (m:Int)))[(selT t S (selN M k) i).nodes.length+r]?=some (means (selT t S (selN M k) (k+1)) (((selT t S (selN M k) i).nodes.length+r:Nat):Int)):=by
    rw[List.getElem?_map,List.getElem?_range g1];rfl
   refine⟨(selT t S (selN M k) i).nodes.length+r,by omega,by simpa using g1,?_⟩;rw[hg];rcases Int.lt_or_le (means t ((aC t S i+r:Nat):Int)) 0 with h|h
   ·exact .inl ⟨h,by rw[g2 h]⟩
   ·obtain⟨d,hd⟩:=Int.eq_ofNat_of_zero_le h
    obtain⟨j,j1,j2,j3,j4,j5⟩:=g3 d hd;refine .inr ⟨d,j,(selT t S (selN M k) j).nodes.length,hd,by omega,j3,j4,by rw[PA j1,j2];rfl,(G.esel (sel:=selN M k) j (by omega)).emb.elen,?_⟩;rw[j5];congr 1;omega
theorem Good.aloneF{t:Tr}{S:List Int}(G:Good t S)(wf:WF t)(hch:zJ t=0){k:Nat}(hk:k<t.items.length)(h0:∀n:Nat,n<t.nodes.length→aQ t n=0) :
 ∃L:List Int,zc (selT t S (fun _=>true) (k+1))=(L,0,0)∧L.length=(selT t S (fun _=>true) (k+1)).nodes.length∧L.length≤(zg t t.nodes.length).length∧L=(zg t t.nodes.length).take L.length:=by
 obtain⟨-,h1,-⟩:=G.eall wf hch (show k+1≤t.items.length by omega) (G.cloAll wf (k+1)) h0;obtain⟨h2,h3⟩:=G.firstM wf hk h0
 have e:zg t t.nodes.length=(List.range t.nodes.length).map (fun m:Nat=>means t (m:Int)):=by
  refine List.ext_getElem (by rw[zP];simp) fun i a b=>?_;have:=QA (t:=t) (i:=i) (by rw[zP]at a;exact a);rw[List.getElem?_eq_getElem a]at this;rw[Option.some.inj this];simp
 refine⟨_,h1,by simp,by rw[zP];simpa using h2,?_⟩;rw[e,List.length_map,List.length_range];exact h3
theorem PW(s:List UInt8)(vn:Nat)(w:World)(hvn:vn<256)(hs:s.length≤maxLen)(hg:GV w) :
 Calls prog 13 #[strV s,.int .u8 vn] w (zq w true):=by
 have hmo:prog.follows .mixedOrders=true:=by kernel_rfl
 have HC:=Hd (rZ s w hs hg);have HG:=Hd hg;clear hg;go_enter func13,ntmps13
 go_upto_region 2 with(first
  | (go_at_call 51
     refine HC.out.mono ?_;rintro e w1⟨⟨na,nc,ia,ic⟩,t,a,c,l,ok,rfl,ht,hi,hb1,hbd,hrg,hok,-⟩;unfold TreeV.val;have HB1:=Hd hb1;have HT1:=Hd ht;have HI1:=Hd hi;have HBD:=Hd hbd;have HRG:=Hd hrg;have HOK:=Hd hok;have hn3:=hbd.n;have hi3:=hbd.i
     clear hb1 ht hi hbd hrg hok))
 have HBX:=Hd (HB1.out.alloc HB1.out.size (.cells #[.slice na t.nodes.length nc,.slice ia t.items.length ic] 25));rcases ok with _|_
 ·go_wp2_with (go_at_call 52;refine(sY _ (HG.out.mono HBX.out nlr)).mono ?_;rintro e w2 ⟨rfl,hb2⟩)
  go_ret;exact⟨rfl,HBX.out.trans (hb2.mono HBX.out.size)⟩
 by_cases hi0:t.items.length=0
 ·have hz:((t.items.length:Int)==0)=true:=by simp[hi0]
  have hz2:decide ((t.items.length:Int)=0)=true:=by simp[hi0]
  clear hi0
  go_wp2_with (go_at_call 52;refine(sY _ (HG.out.mono HBX.out nlr)).mono ?_;rintro e w2 ⟨rfl,hb2⟩)
  go_ret;exact⟨rfl,HBX.out.trans (hb2.mono HBX.out.size)⟩
 obtain⟨hr0,rfl⟩:=HOK.out rfl;obtain⟨wf,G⟩:=cS HBD.out hr0;have hdl:(zg t t.nodes.length).length=t.nodes.length:=zP t _;rw[hdl];have hi:=HI1.out;unfold Ints at hi;rw[hdl]at hi;have HR0:=Hd hr0;have HWF:=Hd wf;have HGG:=Hd G;have hkb:vn % t.items.length<t.items.length:=Nat.mod_lt _ (by omega);obtain⟨k,hk⟩:∃k,vn % t.items.length=k:=⟨_,rfl⟩
 rw[hk]at hkb;have hrm:(vn:Int).tmod (t.items.length:Int)=(k:Int):=by rw[←hk];rfl
 have hnz:decide ((t.items.length:Int)=0)=false:=by simp;exact fun h=>hi0 (by rw[h];rfl)
 have hnz2:((t.items.length:Int)==0)=false:=by simp;exact fun h=>hi0 (by rw[h];rfl)
 obtain⟨X0,hX0⟩:∃X0,w1.alloc (.cells #[.slice na t.nodes.length nc,.slice ia t.items.length ic] 25)=X0:=⟨_,rfl⟩
 have hRD:ResD w X0 w1.heap.size ⟨na,nc,ia,ic⟩ t a c:=by
  rw[←hX0];exact⟨bP rfl,bP rfl,HT1.out.mono ((Below.refl _ w1).alloc nlr _) nlr,Row.mono hi ((Below.refl _ w1).alloc nlr _) nlr,by simp,HBX.out,HG.out.mono HBX.out nlr⟩
 rw[hX0];obtain⟨g5,hg5⟩:∃g5,w1.heap.size=g5:=⟨_,rfl⟩
 rw[hg5]at hRD⊢;have HRD:=Hd hRD;have c0:=hRD.c0;have c1:=hRD.c1;have hgl:=hRD.gl;have hip:0<t.items.length:=by omega
 have HKL:=Hd hkb;have HNE:=Hd (KD hr0 hkb);clear hRD hX0 hg5 hi hdl hr0 wf G hk HBX HB1 HT1 HI1 HOK hi0 HC;have A1:=Hd True.intro
 go_upto_region 8 with(first
  | (have:=A2;clear this;go_at_call 47
     refine(nZ ⟨ma,mc,ja,jc⟩ t k _ HBD.out HRG.out HR2.out.gv HT2.out (by omega)).mono ?_;intro e v2 h2;obtain⟨M,hM1,hM2,a3,c3,rfl,hown3,hb3⟩:=KE HNE.out h2;have HSL:Hid ((cT M).length≤140737488355328):=Hd (by have:=EQ HWF.out HGG.out HKL.out HBD.out hM1 hM2;omega);have HM1:=Hd hM1;have HM2:=Hd hM2;have HI3:=Hd (zU hown3);have HR3:=Hd (HR2.out.step hb3)
     clear h2 hM1 hM2 hown3 hb3 A2)
  | (have:=A1;clear this;go_at_call 53
     refine(rY ⟨na,nc,ia,ic⟩ t _ HBD.out HRD.out.tree).mono ?_;rintro e w3⟨⟨ma,mc,ja,jc⟩,B,ks3,rfl,-,hon,hin,-,hb3⟩;unfold TreeV.val;have HT2:=Hd (show IsTree w3 ⟨ma,mc,ja,jc⟩ t from⟨hon.nodes,hin⟩);have HR2:=Hd (HRD.out.step hb3);clear hon hin hb3 A1
     have A2:=Hd True.intro))
 obtain⟨W2,hW2⟩:∃W2,v2=W2:=⟨_,rfl⟩
 rw[hW2]at HI3 HR3⊢;clear hW2 c0 c1 hgl
 go_upto_region 9 with fail
 have h3:=vM W2 (.cells #[] 3) (.cells #[.slice none 0 0,.slice none 0 0] 25) (.cells #[.slice none 0 0,.slice none 0 0] 25);have hbw:Below W2.heap.size W2 (((W2.alloc (.cells #[] 3)).alloc (.cells #[.slice none 0 0,.slice none 0 0] 25)).alloc (.cells #[.slice none 0 0,.slice none 0 0] 25)):=(((Below.refl _ W2).alloc nlr _).alloc (by simp) _).alloc (by simp;omega) _;have hwO:OwnI (((W2.alloc (.cells #[] 3)).alloc (.cells #[.slice none 0 0,.slice none 0 0] 25)).alloc (.cells #[.slice none 0 0,.slice none 0 0] 25)) W2.heap.size (some ⟨W2.heap.size,0,none⟩) 0 []:=zy (zy (iG W2 _ _ rfl nlr) (brf.alloc nlr _)) (brf.alloc nlr _);obtain⟨X1,hX1⟩:∃X1,((W2.alloc (.cells #[] 3)).alloc (.cells #[.slice none 0 0,.slice none 0 0] 25)).alloc (.cells #[.slice none 0 0,.slice none 0 0] 25)=X1:=⟨_,rfl⟩
 rw[hX1]at h3 hbw hwO⊢;have hxs:X1.heap.size=W2.heap.size+1+1+1:=by rw[←hX1];simp
 obtain⟨-,k1,k2⟩:=h3
 have HBAG:Hid (Bag W2 (W2.heap.size+1) (W2.heap.size+1+1) (some ⟨W2.heap.size,0,none⟩) 0 [] ⟨none,0,none,0⟩ ⟨none,0,none,0⟩ (selT t (aG t) (fun _=>true) 0) (selT t (aG t) (selN (cT M) k) 0) X1):=
  Hd ⟨hbw,hwO,fun p e=>by cases e;show W2.heap.size≠W2.heap.size+1;omega,fun p e=>by cases e;show W2.heap.size≠W2.heap.size+1+1;omega,⟨za k1 rfl,za k1 rfl,zl k1,zl k1,by omega,uQ _ _⟩,⟨za k2 rfl,za k2 rfl,zl k2,zl k2,by omega,uQ _ _⟩,by omega,by omega,by omega⟩
 clear hX1 hbw hwO k1 k2 hxs;go_wp2
 go_loopw [13,14] (fun t13 t14 wr=>∃(i:Nat) (q:List Int) (al:Option Addr) (cl:Nat) (v1 v2:TreeV),t14=.int .i64 i∧t13=.slice al q.length cl∧i≤k+1∧q.length≤i∧Hid (q=rG t (aG t) (selN (cT M) k) i)∧Hid (Bag W2 (W2.heap.size+1) (W2.heap.size+1+1) al cl q v1 v2 (selT t (aG t) (fun _=>true) i) (selT t (aG t) (selN (cT M) k) i) wr)) (fun _ t14 _=>k+1-(intOf t14).toNat)
 case atStart=>exact⟨0,[],_,_,_,_,rfl,rfl,Nat.zero_le _,nlr,Hd rfl,HBAG⟩
 case round=>
  obtain⟨i,q,al,cl,v1,v2,rfl,rfl,hik,hql,HQ,HG1⟩:=hrel;have HB:=Hd HG1.out.below
  have hcheck:zJ t=0:=by
   have:=HR0.out;unfold zc at this;split at this
   ·exact this
   ·rename_i h;simpa using h
  have HCK:=Hd hcheck;have HRW:=Hd (HR3.out.step HB.out);clear hcheck;by_cases hle:i≤k
  ·have hit:i<t.items.length:=by omega
   have c0:=HRW.out.c0;have c1:=HRW.out.c1;have hgl:=HRW.out.gl;have A1:=Hd True.intro
   go_upto_region 15 with(first
    | (have:=A2;clear this;go_at_call 48
       refine(GW ⟨ma2,mc2,ja2,jc2⟩ t (aG t) i _ HBD.out HRG.out HR4.out.gv HT4.out HCK.out HGG.out.toPlaced hit).mono ?_;rintro e w5⟨⟨xa,xc,xi,xj⟩,rfl,hx5,hb5⟩;unfold TreeV.val;have HX5:=Hd hx5;have HB5:=Hd (HB4.out.trans (hb5.mono HB4.out.size))
       clear hx5 hb5 A2)
    | (have:=A1;clear this;go_at_call 53
       refine(rY ⟨na,nc,ia,ic⟩ t _ HBD.out HRW.out.tree).mono ?_;rintro e w4⟨⟨ma2,mc2,ja2,jc2⟩,B2,ks2,rfl,-,hon,hin,-,hb4⟩;unfold TreeV.val;have HT4:=Hd (show IsTree w4 ⟨ma2,mc2,ja2,jc2⟩ t from⟨hon.nodes,hin⟩);have HR4:=Hd (HRW.out.step hb4);have HB4:=Hd hb4;clear hon hin hb4 A1
       have A2:=Hd True.intro))
   obtain⟨X5,hX5⟩:∃X5,w5.alloc (.cells #[.slice xa (cutT t (aG t) i).nodes.length xc,.slice xi (cutT t (aG t) i).items.length xj] 25)=X5:=⟨_,rfl⟩
   have hbX:Below wr.heap.size wr X5:=by rw[←hX5];exact HB5.out.alloc HB5.out.size _
   have e0:X5.cell? ⟨w5.heap.size,0,none⟩=some (.slice xa (cutT t (aG t) i).nodes.length xc):=by rw[←hX5];exact bP rfl
   have e1:X5.cell? ⟨w5.heap.size,1,none⟩=some (.slice xi (cutT t (aG t) i).items.length xj):=by rw[←hX5];exact bP rfl
   have e2:w5.heap.size<X5.heap.size:=by rw[←hX5];simp
   have hxt:IsTreeX X5 ⟨xa,xc,xi,xj⟩ (cutT t (aG t) i) (fun y=>wr.heap.size≤y):=HX5.out.keep (by omega) (fun y hy hN=>⟨by rw[←hX5];exact Below.heap_alloc _ _ _ hy,Nat.le_trans HB4.out.size hN⟩);have e2f:∀g j,g=w5.heap.size→X5.frozen? ⟨g,j,none⟩=false:=fun g j e=>by subst e;rw[←hX5];exact zl (World.alloc_heap_new w5 _)
   rw[hX5];obtain⟨g15,hg15⟩:∃g,w5.heap.size=g:=⟨_,rfl⟩
   rw[hg15]at e0 e1 e2⊢;have g15r:wr.heap.size≤g15:=by rw[←hg15];exact HB5.out.size
   have hone:One X5 al (W2.heap.size+1) (W2.heap.size+1+1) g15 ⟨xa,xc,xi,xj⟩ (cutT t (aG t) i):=⟨⟨e0,e1,e2f g15 0 hg15.symm,e2f g15 1 hg15.symm,e2,hxt.keep nlr fun y _ hy=>⟨rfl,HG1.out.fresh hy⟩⟩,HG1.out.fresh g15r⟩
   have HXT:=Hd hxt;have HBX:=Hd hbX;have HRX:=Hd (HRW.out.step hbX);have HGX:=Hd (HG1.out.step hbX);have HONE:=Hd hone;have p0:=HGX.out.b1.c0;have p1:=HGX.out.b1.c1;have pg:=HGX.out.b1.gl;clear hX5 hg15 hbX hxt c0 c1 hgl g15r hone e2f
   go_upto_region 18 with(first
    | (go_at_call 49
       refine(CJ v1 ⟨xa,xc,xi,xj⟩ (sel:=fun _=>true) (i:=i) (S:=aG t) X5 rfl HBD.out HRG.out HGG.out HWF.out HCK.out hit HRX.out.gv HGX.out.b1.tree.tree HXT.out.tree).mono ?_;rintro e w6⟨⟨ya,yc,yi,yj⟩,rfl,hy6,hb6⟩;unfold TreeV.val;have q0:=(hb6.cell (p:=⟨W2.heap.size+1,0,none⟩) pg).trans p0;have q1:=(hb6.cell (p:=⟨W2.heap.size+1,1,none⟩) pg).trans p1;have qf0:=(hb6.frozen (p:=⟨W2.heap.size+1,0,none⟩) pg).trans HGX.out.b1.f0;have qf1:=(hb6.frozen (p:=⟨W2.heap.size+1,1,none⟩) pg).trans HGX.out.b1.f1;have qg:=Nat.lt_of_lt_of_le pg hb6.size;have hg7:=(HGX.out.step hb6).put1 HGX.out hy6;dsimp only at hg7;have HG7:=Hd hg7;have HO7:=Hd ((HONE.out.step hb6).put1 (.slice ya (selT t (aG t) (fun _=>true) (i+1)).nodes.length yc) (.slice yi (selT t (aG t) (fun _=>true) (i+1)).items.length yj))
       clear hg7 hy6 hb6 p0 p1 e0 e1))
   obtain⟨X7,hX7⟩:∃X7,(w6.setCell ⟨W2.heap.size+1,0,none⟩ (.slice ya (selT t (aG t) (fun _=>true) (i+1)).nodes.length yc)).setCell ⟨W2.heap.size+1,1,none⟩ (.slice yi (selT t (aG t) (fun _=>true) (i+1)).items.length yj)=X7:=⟨_,rfl⟩
   rw[hX7]at HG7 HO7⊢;have hqb:q.length≤2000000:=by omega
   have hbs:=HG7.out.below.size;have HPS:Hid (0<1):=Hd (by omega);clear hX7 q0 q1 qf0 qf1 qg pg HGX HONE HXT HBX HRX HX5 HB5 HB4 HR4 HT4 HRW HB HG1 e2
   go_upto_region 19 with(first
    | (at_builtin
       refine zR (news:=[-1]) rfl (.tmp 84) (.tmp 85) rfl rfl (HG7.out.own.alloc _) rfl (aK _ _ _) (by omega) (by simp;omega) ?_;intro a9 c9 w9 l9 HL9 hle9 hown9 hkeep9 hap9;have ha:=(Below.refl X7.heap.size X7).alloc nlr (.cells #[.int .i64 (-1)] 3);have HG9:=Hd ((HG7.out.step ha).grow hown9 hkeep9 hap9);have HO9:=Hd ((HO7.out.step ha).grow (hkeep9 _ _ nlr brf).size hap9)
       clear hown9 hkeep9 hap9 ha))
   have hl9:l9.length=i+1:=by rw[HL9.out,HQ.out,List.length_append,OV];rfl
   have HI9:=Hd (show Ints w9 a3 c3 (cT M)from Row.mono HI3.out HG9.out.below nlr);have hil:i<l9.length:=by omega
   have HLN:=Hd hl9;have HQL:Hid (q.length=i):=Hd (by rw[HQ.out,OV]);clear hl9 HG7 HO7 hbs HPS hle9;have hsl:=HSL.out;have hmv:=PO t (aG t) (selN (cT M) k) i;by_cases hs:selN (cT M) k i=true
   ·rw[if_pos hs,←HQ.out]at hmv
    have hsel:selT t (aG t) (selN (cT M) k) (i+1)=bT (selT t (aG t) (selN (cT M) k) i) (cutT t (aG t) i):=by rw[selT,if_pos hs]
    have hcs:hasI (cT M) (i:Int)=true∨(hasI (cT M) (i:Int)=false∧i=k):=by
     unfold selN at hs;cases hh:hasI (cT M) (i:Int)with
     |true=>exact .inl rfl
     |false=>rw[hh]at hs;exact .inr ⟨rfl,by simpa using hs⟩
    have HSE:=Hd hs;have HMV:=Hd hmv;clear hs hmv hsel;obtain⟨b9,ha9,hb9,hbl9,-,hc9,hf9⟩:=dG HG9.out.own (by omega);subst ha9;have z9:=hc9 i hil;have zf9:=hf9 i;have u0:=HG9.out.b2.c0;have ugl:=HG9.out.b2.gl;clear hc9 hf9 hb9
    have hcs:hasI (cT M) (i:Int)=true∨(hasI (cT M) (i:Int)=false∧((i:Int)==(k:Int))=true):=by
     rcases hcs with h|⟨h1,h2⟩
     ·exact .inl h
     ·exact .inr ⟨h1,by rw[h2];simp⟩
    have hlm:(selT t (aG t) (selN (cT M) k) i).nodes.length≤1000000000:=Nat.le_trans ((HGG.out.esel (sel:=selN (cT M) k) i (by omega)).emb.ebd HBD.out).n (by omega);rcases hcs with hA|⟨hA,hB2⟩
    all_goals
     have HA:=Hd hA;clear hA
     go_upto_region 21 with(go_at_call 54;refine(PP a3 c3 (cT M) (i:Int) _ hsl HI9.out).mono ?_;rw[HA.out];rintro e w' ⟨rfl,rfl⟩)
     obtain⟨X9,hX9⟩:∃X9,w9.setCell ⟨b9,i,none⟩ (.int .i64 (selT t (aG t) (selN (cT M) k) i).nodes.length)=X9:=⟨_,rfl⟩
     have HG10:=Hd (HG9.out.set i ((selT t (aG t) (selN (cT M) k) i).nodes.length:Int));have HO10:=Hd (HO9.out.set i (.int .i64 (selT t (aG t) (selN (cT M) k) i).nodes.length));rw[hX9]at HG10 HO10⊢;clear hX9 z9 zf9 u0 ugl HG9 HO9 HI9;have p0:=HG10.out.b2.c0;have p1:=HG10.out.b2.c1;have pg:=HG10.out.b2.gl;have e0:=HO10.out.box.c0;have e1:=HO10.out.box.c1;have eg:=HO10.out.box.gl;have hgv:=Hd (HR3.out.step HG10.out.below).gv
     go_upto_region 22 with(first
      | (go_at_call 49
         refine(CJ v2 ⟨xa,xc,xi,xj⟩ (sel:=selN (cT M) k) (i:=i) (S:=aG t) X9 HSE.out HBD.out HRG.out HGG.out HWF.out HCK.out hit hgv.out HG10.out.b2.tree.tree HO10.out.box.tree.tree).mono ?_;rintro e w11⟨⟨za,zc,zi,zj⟩,rfl,hy11,hb11⟩;unfold TreeV.val;have q0:=(hb11.cell (p:=⟨W2.heap.size+1+1,0,none⟩) pg).trans p0;have q1:=(hb11.cell (p:=⟨W2.heap.size+1+1,1,none⟩) pg).trans p1;have qf0:=(hb11.frozen (p:=⟨W2.heap.size+1+1,0,none⟩) pg).trans HG10.out.b2.f0;have qf1:=(hb11.frozen (p:=⟨W2.heap.size+1+1,1,none⟩) pg).trans HG10.out.b2.f1;have qg:=Nat.lt_of_lt_of_le pg hb11.size;have hg12:=(HG10.out.step hb11).put2 HG10.out hy11;dsimp only at hg12;have HG12:=Hd hg12
         clear hg12 hy11 hb11 p0 p1 e0 e1))
     obtain⟨X12,hX12⟩:∃X12,(w11.setCell ⟨W2.heap.size+1+1,0,none⟩ (.slice za (selT t (aG t) (selN (cT M) k) (i+1)).nodes.length zc)).setCell ⟨W2.heap.size+1+1,1,none⟩ (.slice zi (selT t (aG t) (selN (cT M) k) (i+1)).items.length zj)=X12:=⟨_,rfl⟩
     rw[hX12]at HG12⊢;clear hX12 q0 q1 qf0 qf1 qg pg eg hgv HG10 HO10;go_wp2
     go_roundw
     case rel=>exact⟨i+1,_,_,_,_,_,by go_num,by rw[List.length_set],by omega,by rw[List.length_set];have:=HLN.out;omega,Hd (by rw[HL9.out,HMV.out,List.set_append_right _ _ (Nat.le_of_eq HQL.out),HQL.out,Nat.sub_self];rfl),HG12⟩
     case measure=>simp[intOf];omega
   ·rw[if_neg hs,←HQ.out]at hmv
    have hsel:selT t (aG t) (selN (cT M) k) (i+1)=selT t (aG t) (selN (cT M) k) i:=by rw[selT,if_neg hs]
    have hcs:hasI (cT M) (i:Int)=false∧((i:Int)==(k:Int))=false:=by
     unfold selN at hs;simp only[Bool.or_eq_true,not_or,Bool.not_eq_true]at hs;exact⟨hs.1,by have:=hs.2;simp at this⊢;omega⟩
    have HA:=Hd hcs.1;have hB2:=hcs.2;have HMV:=Hd hmv;rw[←hsel]at HG9;clear hs hcs hmv hsel
    go_wp2_with (go_at_call 54;refine(PP a3 c3 (cT M) (i:Int) _ hsl HI9.out).mono ?_;rw[HA.out];rintro e w' ⟨rfl,rfl⟩)
    go_roundw
    case rel=>exact⟨i+1,l9,_,_,_,_,by go_num,rfl,by omega,by have:=HLN.out;omega,Hd (HL9.out.trans HMV.out.symm),HG9⟩
    case measure=>simp[intOf];omega
  ·obtain rfl:i=k+1:=by omega
   have hKL:=HKL.out
   have hnd:∀(j:Nat) (h:j<(cT M).length),0≤(cT M)[j]∧(cT M)[j]<k:=fun j h=>by
    have hm:=(dD M).mem_iff.1 (List.getElem_mem h);obtain⟨h1,h2⟩:=(HM2.out _).1 hm;exact HGG.out.needLt HWF.out HKL.out h1 h2
   have has:∀(j:Nat) (h:j+1<(cT M).length),(cT M)[j]<(cT M)[j+1]:=fun j h=>by
    have h1:=List.pairwise_iff_getElem.1 (cU M) j (j+1) (by omega) h (by omega);have h2:(cT M).Nodup:=(dD M).nodup_iff.2 HM1.out;have h3:=(List.pairwise_iff_getElem.1 h2) j (j+1) (by omega) h (by omega);omega
   have HND:=Hd hnd;have HAS:=Hd has;have HI4:=Hd (show Ints wr a3 c3 (cT M)from Row.mono HI3.out HB.out nlr);have hsl:=HSL.out;have HQL:Hid (q.length=k+1):=Hd (by rw[HQ.out,OV]);clear hnd has;go_wp2
   go_loopw [17] (fun t17 wz=>∃j:Nat,t17=.int .i64 j∧j≤(cT M).length∧Hid (Below wr.heap.size wr wz)) (fun t17 _=>(cT M).length-(intOf t17).toNat)
   case atStart=>exact⟨0,rfl,Nat.zero_le _,Hd brf⟩
   case round=>
    obtain⟨j,rfl,hj,HBJ⟩:=hrel;rename World=>wz
    by_cases hlt:j<(cT M).length
    ·have HI5:=Hd (show Ints wz a3 c3 (cT M)from Row.mono HI4.out HBJ.out nlr)
     obtain⟨b,o,hab,hb,hc⟩:=Ints.at HI5.out hlt;obtain⟨x0,x1⟩:=HND.out j hlt;obtain⟨x,hx⟩:∃x,(cT M)[j]=x:=⟨_,rfl⟩
     rw[hx]at hc x0 x1;have hd0:decide (x<0)=false:=by simp;omega
     have hd1:decide ((k:Int)≤x)=false:=by simp;omega
     by_cases hj0:j=0
     ·subst hj0
      subst hab;clear hx;rw[Nat.add_zero]at hc;go_wp2;go_region;go_wp2
      go_roundw
      case rel=>exact⟨1,by go_num,by omega,Hd (HBJ.out.trans (brf.drew.mono HBJ.out.size))⟩
      case measure=>simp[intOf];omega
     ·obtain⟨m,rfl⟩:∃m,j=m+1:=⟨j-1,by omega⟩
      obtain⟨b',o',hab',hb',hc'⟩:=Ints.at HI5.out (show m<(cT M).length by omega);have hxy:=HAS.out m hlt;rw[hab']at hab;simp only[Option.some.injEq,Addr.mk.injEq,and_true]at hab;obtain⟨rfl,rfl⟩:=hab;subst hab';obtain⟨y,hy⟩:∃y,(cT M)[m]=y:=⟨_,rfl⟩
      rw[hy]at hc' hxy;rw[hx]at hxy;have hd2:decide (x≤y)=false:=by simp;omega
      clear hx hy;go_wp2;go_region;go_wp2
      go_roundw
      case rel=>exact⟨m+1+1,by go_num,by omega,Hd (HBJ.out.trans (brf.drew.mono HBJ.out.size))⟩
      case measure=>simp[intOf];omega
    ·obtain rfl:j=(cT M).length:=by omega
     have hgz:=HG1.out.step HBJ.out;have h0:=(aS HR0.out).err;obtain⟨L1,hR1,hL1,hL1n,hL1t⟩:=HGG.out.aloneF HWF.out HCK.out HKL.out h0;obtain⟨L2,hR2,hL2,hall⟩:=HGG.out.alone HWF.out HCK.out HKL.out (M:=cT M) (fun x=>((dD M).mem_iff).trans (HM2.out x)) h0;rw[←HQ.out]at hall;have e1:=(HGG.out.esel (sel:=fun _=>true) (k+1) (by omega)).emb;have e2:=(HGG.out.esel (sel:=selN (cT M) k) (k+1) (by omega)).emb;have bd1:=e1.ebd HBD.out;have bd2:=e2.ebd HBD.out;have rg1:=e1.erg HRG.out;have rg2:=e2.erg HRG.out;clear e1 e2 h0 HND HAS HI4 HG1 HBJ HI3 HM1 HM2 HNE HB HRW;obtain⟨T1,hT1⟩:∃T,selT t (aG t) (fun _=>true) (k+1)=T:=⟨_,rfl⟩
     obtain⟨T2,hT2⟩:∃T,selT t (aG t) (selN (cT M) k) (k+1)=T:=⟨_,rfl⟩
     rw[hT1]at hgz bd1 rg1 hR1 hL1;rw[hT2]at hgz bd2 rg2 hR2 hL2;have hn1:=bd1.n;have hn2:=bd2.n;have HGZ:=Hd hgz;have HR1:=Hd hR1;have HR2':=Hd hR2;have HL1:=Hd hL1;have HL2:=Hd hL2;have HL1N:=Hd hL1n;have HL1T:=Hd hL1t;have HALL:=Hd hall;have BD1:=Hd bd1;have BD2:=Hd bd2;have RG1:=Hd rg1;have RG2:=Hd rg2;have p0:=HGZ.out.b1.c0;have p1:=HGZ.out.b1.c1;have pg:=HGZ.out.b1.gl;have hgv:=Hd (HR3.out.step HGZ.out.below).gv;clear hgz bd1 bd2 rg1 rg2 hR1 hR2 hL1 hL2 hL1n hL1t hall hT1 hT2
     go_upto_region 30 with(first
      | (go_at_call 55
         refine(iU v1 T1 _ BD1.out RG1.out hgv.out HGZ.out.b1.tree.tree).mono ?_;rw[HR1.out];rintro e wa⟨na5,nc5,rfl,hown,hba⟩;simp only at hown⊢;have hbb:=hba.alloc hba.size (.cells #[.slice na5 L1.length nc5] 52);have HGA:=Hd (HGZ.out.step hbb);have HNA:=Hd (show BoxI (wa.alloc (.cells #[.slice na5 L1.length nc5] 52)) wa.heap.size na5 nc5 L1 from⟨bP rfl,Row.mono (zU hown) ((Below.refl _ wa).alloc nlr _) nlr,by simp⟩)
         clear hown hba hbb p0 p1 pg))
     obtain⟨XA,hXA⟩:∃X,wa.alloc (.cells #[.slice na5 L1.length nc5] 52)=X:=⟨_,rfl⟩
     rw[hXA]at HGA HNA⊢;obtain⟨gA,hgA⟩:∃g,wa.heap.size=g:=⟨_,rfl⟩
     rw[hgA]at HNA⊢;have p0:=HGA.out.b2.c0;have p1:=HGA.out.b2.c1;have pg:=HGA.out.b2.gl;have hgv2:=Hd (HR3.out.step HGA.out.below).gv;clear hXA hgA hgv HGZ
     go_upto_region 31 with(first
      | (go_at_call 55
         refine(iU v2 T2 _ BD2.out RG2.out hgv2.out HGA.out.b2.tree.tree).mono ?_;rw[HR2'.out];rintro e wb⟨nb5,mc5,rfl,hown,hba⟩;simp only at hown⊢;have hbb:=hba.alloc hba.size (.cells #[.slice nb5 L2.length mc5] 52);have HGB:=Hd (HGA.out.step hbb);have HNB:=Hd (HNA.out.step hbb);have HNC:=Hd (show BoxI (wb.alloc (.cells #[.slice nb5 L2.length mc5] 52)) wb.heap.size nb5 mc5 L2 from⟨bP rfl,Row.mono (zU hown) ((Below.refl _ wb).alloc nlr _) nlr,by simp⟩)
         clear hown hba hbb p0 p1 pg))
     obtain⟨XB,hXB⟩:∃X,wb.alloc (.cells #[.slice nb5 L2.length mc5] 52)=X:=⟨_,rfl⟩
     rw[hXB]at HGB HNB HNC⊢;obtain⟨gB,hgB⟩:∃g,wb.heap.size=g:=⟨_,rfl⟩
     rw[hgB]at HNC⊢;clear hXB hgB hgv2 HGA HNA;have HRB:=Hd (HR3.out.step HGB.out.below);have p0:=HGB.out.b1.c0;have pg:=HGB.out.b1.gl;have q0:=HGB.out.b2.c0;have qg:=HGB.out.b2.gl;have n0:=HNB.out.c0;have ng:=HNB.out.gl;have m0:=HNC.out.c0;have mg:=HNC.out.gl;rw[←HL1.out]at p0;rw[←HL2.out]at q0
     have hDC:Ints XB a c (zg t t.nodes.length):=by
      have:=HRB.out.decl;unfold Ints;rw[zP];exact this
     have hl1n:=HL1N.out;rw[zP]at hl1n;obtain⟨ask,cs,hsl1,hrs⟩:=FT (P:=prog) (T:=23) HRB.out.decl PV PM (L1.length:Int) (by omega) (by omega);rw[Int.toNat_natCast,Nat.mul_one,←List.map_take,←HL1T.out]at hrs;rw[Int.toNat_natCast]at hsl1;have HRS:=Hd hrs;have hd1:decide ((t.nodes.length:Int)<(L1.length:Int))=false:=by simp;omega
     have hd2:decide (t.nodes.length<L1.length)=false:=by simp;omega
     have hl1m:L1.length≤140737488355328:=by omega
     have HL1M:=Hd hl1m;clear hrs hDC;refine N.region_JTm 42 hmo (by kernel_rfl) (by kernel_rfl) rfl (by kernel_rfl) (by kernel_rfl) (fun Wz=>Below (XB).heap.size (XB) Wz) (brf.drew) ?_
     iterate 40 (refine N.WalkT.cons ?_ (N.StepP.pure rfl ?_) ?_;rotate_left;(intro W hJ;obtain⟨hcJ,hfJ⟩:=bcell hJ;go_simp;rfl);simp only[N.pz])
     refine N.WalkT.cons (.bool true) (N.StepP.call (f:=56) (args:=#[.slice na5 L1.length nc5,.slice ask L1.length cs]) rfl ?hG1_40 ?cG1_40) ?rG1_40;case hG1_40=>intro W hJ;obtain⟨hcJ,hfJ⟩:=bcell hJ;go_simp;try rfl
     case cG1_40=>intro W hJ;(refine(QI rfl rfl HL1M.out (Row.mono HNB.out.ints hJ nlr) (Row.mono HRS.out hJ nlr)).mono ?_;rintro e w' ⟨rfl,hb2⟩;exact⟨rfl,hJ.trans (hb2.mono hJ.size)⟩)
     simp only[N.pz];refine N.WalkT.cons ?_ (N.StepP.pure rfl ?_) ?_;rotate_left;(intro W hJ;obtain⟨hcJ,hfJ⟩:=bcell hJ;go_simp;rfl);simp only[N.pz];refine N.WalkT.nil fun W hJ=>?_;have HGC:=Hd (HGB.out.step hJ);have HNC2:=Hd (HNC.out.step hJ);have HBC:=Hd (HGB.out.below.trans (hJ.mono HGB.out.below.size));clear hJ p0 pg q0 qg n0 ng m0 mg hsl1 hd1 hd2 hl1m hl1n HRS HL1M HGB HNB HNC HRB HR1 HL1 HL1N HL1T BD1 RG1;go_wp2
     go_loopw [24] (fun t24 wy=>∃i:Nat,t24=.int .i64 i∧i≤k+1∧Hid (Below W.heap.size W wy)) (fun t24 _=>k+1-(intOf t24).toNat)
     case atStart=>exact⟨0,rfl,Nat.zero_le _,Hd brf⟩
     case round=>
      obtain⟨i,rfl,hik,HBI⟩:=hrel;rename World=>wy
      have hql2:=HQL.out;have HRY:=Hd (HR3.out.step (HBC.out.trans (HBI.out.mono HBC.out.size)));by_cases hle:i≤k
      ·have HIY:=Hd (show Ints wy al cl q from Row.mono (zU HGC.out.own) HBI.out nlr)
       obtain⟨bq,oq,hal,hbq,hcq⟩:=Ints.at HIY.out (show i<q.length by omega);subst hal;have hAi:=HALL.out i hle;rw[List.getElem?_eq_getElem (show i<q.length by omega)]at hAi;rcases hAi with hneg|⟨m,hm,hAn⟩
       ·rw[Option.some.inj hneg]at hcq
        have hlt:i<q.length:=by omega
        clear hneg hql2;go_wp2
        go_roundw
        case rel=>exact⟨i+1,by go_num,by omega,HBI⟩
        case measure=>simp[intOf];omega
       ·rw[Option.some.inj hm]at hcq
        have hlt:i<q.length:=by omega
        have hitl:i<t.items.length:=by have:=HKL.out;omega
        have HAN:=Hd hAn;have HQM:Hid (∀h:i<q.length,q[i]=(m:Int)):=Hd fun _=>Option.some.inj hm;obtain⟨F,hF⟩:∃F,aC t (aG t) i=F:=⟨_,rfl⟩
        have HBG:Hid (PB t i=(F:Int)):=Hd (by rw[HGG.out.ebegin hitl,hF]);have HFE:=Hd hF;have c0:=HRY.out.c0;have c1:=HRY.out.c1;have hgl:=HRY.out.gl;clear hm hAn hql2 hF
        go_wp2_with (go_at_call 57;refine(OY ⟨na,nc,ia,ic⟩ t i _ HWF.out HRY.out.tree hitl).mono ?_;rw[HBG.out];rintro e wc ⟨rfl,hbc⟩;have HBC3:=Hd (HBI.out.trans (hbc.mono HBI.out.size));clear hbc c0 c1 hgl hcq)
        obtain⟨b1,b2,b3,b4⟩:=HGG.out.blk hitl;have hlast:t.items[i]=(aI t i:Int):=b1;rw[HFE.out]at b3;obtain⟨LA,hLA⟩:∃LA,aI t i=LA:=⟨_,rfl⟩
        rw[hLA]at b2 b3 hlast;have HLA:=Hd hLA;have HITL:=Hd hitl;have HLQ:=Hd hlt;have HLT:Hid (∀h:i<t.items.length,t.items[i]=(LA:Int)):=Hd fun _=>hlast;clear b1 b4 hLA hlast hitl hlt
        go_loopw [25] (fun t25 wd=>∃n:Nat,t25=.int .i64 n∧F≤n∧n≤LA+1∧Hid (Below W.heap.size W wd)) (fun t25 _=>LA+1-(intOf t25).toNat)
        case atStart=>exact⟨F,rfl,nlr,by omega,HBC3⟩
        case round=>
         obtain⟨n,rfl,hFn,hnL,HBD4⟩:=hrel;rename World=>wd
         have HGD:=Hd (HGC.out.step HBD4.out);have HRD4:=Hd (HR3.out.step HGD.out.below);have c0:=HRD4.out.c0;have c1:=HRD4.out.c1;have hgl:=HRD4.out.gl;have hitl:=HITL.out;obtain⟨bi,oi,hia,hbi,hci⟩:=Ints.at HRD4.out.tree.items hitl;simp only at hia;subst hia;rw[HLT.out hitl]at hci;by_cases hnl:n≤LA
         ·obtain⟨p,hp,hpl,hcase⟩:=HAN.out n (by rw[HFE.out];exact hFn) (by rw[HLA.out];exact hnl)
          rw[HFE.out]at hp;have hdn:n<(zg t t.nodes.length).length:=by rw[zP];omega
          have hDC:Ints wd a c (zg t t.nodes.length):=by
           have:=HRD4.out.decl;unfold Ints;rw[zP];exact this
          obtain⟨bd,od,hda,hbd,hcd⟩:=Ints.at hDC hdn;subst hda
          have hdv:(zg t t.nodes.length)[n]=means t n:=by
           have:=QA (t:=t) (i:=n) (by omega);rw[List.getElem?_eq_getElem hdn]at this;exact Option.some.inj this
          rw[hdv]at hcd;have hqi:Ints wd (some ⟨bq,oq,none⟩) cl q:=zU HGD.out.own;have hnn:n<t.nodes.length:=by omega
          clear hdn hDC hdv;have HNB4:=Hd (HNC2.out.step HBD4.out);have m0:=HNB4.out.c0;have mg:=HNB4.out.gl;obtain⟨bn,on,hna,hbn,hcn⟩:=Ints.at HNB4.out.ints hpl;rw[List.getElem?_eq_getElem hpl]at hcase;have hl2m:L2.length≤1000000:=by rw[HL2.out];exact hn2
          have hw1:IntKind.i64.wrap ((n:Int)-(F:Int))=(n:Int)-(F:Int):=IntWalk.i64_in _ (by omega);have hw2:IntKind.i64.wrap ((n:Int)-(F:Int)+(m:Int))=(p:Int):=by rw[hp];exact IntWalk.i64_in _ (by omega)
          have hpl2:decide ((L2.length:Int)≤(p:Int))=false:=by simp;omega
          subst hna;obtain⟨bq2,oq2,hq2,hbq2,hcq2⟩:=Ints.at hqi HLQ.out;simp only[Option.some.injEq,Addr.mk.injEq,and_true]at hq2;obtain⟨rfl,rfl⟩:=hq2;have hqm:q[i]'HLQ.out=(m:Int):=HQM.out _;rw[hqm]at hcq2;have HQI:=Hd hqi;clear hqm hqi HNB4;rcases hcase with⟨hneg,hL⟩|⟨d,j,mj,hd,hjk,hit,hfd,hqj,hmj,hL⟩
          ·rw[Option.some.inj hL]at hcn
           obtain⟨y,hy⟩:∃y,means t n=y:=⟨_,rfl⟩
           rw[hy]at hcd hneg;have hd1:decide (0≤y)=false:=by simp;omega
           have hlq:=HLQ.out;clear hy hL hneg;go_wp2;refine N.region_JTm 10 hmo (by kernel_rfl) (by kernel_rfl) rfl (by kernel_rfl) (by kernel_rfl) (fun Wz=>Below (wd).heap.size (wd) Wz) (brf.drew) ?_
           iterate 3 (refine N.WalkT.cons ?_ (N.StepP.pure rfl ?_) ?_;rotate_left;(intro W hJ;obtain⟨hcJ,hfJ⟩:=bcell hJ;go_simp;rfl);simp only[N.pz])
           refine N.WalkT.cons (intV F) (N.StepP.call (f:=57) (args:=#[TreeV.val ⟨na,nc,some ⟨bi,oi,none⟩,ic⟩ t,intV i]) rfl ?hG2_3 ?cG2_3) ?rG2_3;case hG2_3=>intro W hJ;obtain⟨hcJ,hfJ⟩:=bcell hJ;go_simp;try rfl
           case cG2_3=>intro W hJ;(refine(OY ⟨na,nc,some ⟨bi,oi,none⟩,ic⟩ t i W HWF.out ((HRD4.out.step hJ).tree) HITL.out).mono ?_;rw[HBG.out];rintro e w' ⟨rfl,hb2⟩;exact⟨rfl,hJ.trans (hb2.mono hJ.size)⟩)
           simp only[N.pz]
           iterate 6 (refine N.WalkT.cons ?_ (N.StepP.pure rfl ?_) ?_;rotate_left;(intro W hJ;obtain⟨hcJ,hfJ⟩:=bcell hJ;go_simp;rfl);simp only[N.pz])
           refine N.WalkT.nil fun W hJ=>?_;have m1:=(hJ.cell (p:=⟨gB,0,none⟩) mg).trans m0;have mg1:=Nat.lt_of_lt_of_le mg hJ.size;have hcn1:=(hJ.cell (p:=⟨bn,on+p,none⟩) hbn).trans hcn;have HJ:=Hd (HBD4.out.trans (hJ.mono HBD4.out.size));clear hJ m0 mg hcn c0 c1 hgl hcd hcq2 hci;go_wp2
           go_roundw
           case rel=>exact⟨n+1,by go_num,by omega,by omega,HJ⟩
           case measure=>simp[intOf];omega
          ·rw[Option.some.inj hL]at hcn
           rw[hd]at hcd;have hd1:decide (0≤(d:Int))=true:=by simp
           have hlq:=HLQ.out;have hjl:j<t.items.length:=by have:=HKL.out;omega
           have hjq:j<q.length:=by have:=HQL.out;omega
           have hdn:=(aJ HWF.out (node:=n)).2;rw[hd]at hdn;obtain⟨FJ,hFJ⟩:∃F,aC t (aG t) j=F:=⟨_,rfl⟩
           rw[hFJ]at hfd hcn;have HBJ:Hid (PB t j=(FJ:Int)):=Hd (by rw[HGG.out.ebegin hjl,hFJ]);have HJI:=Hd hit;have HJL:=Hd hjl;obtain⟨bq3,oq3,hq3,hbq3,hcq3⟩:=Ints.at HQI.out hjq;simp only[Option.some.injEq,Addr.mk.injEq,and_true]at hq3;obtain⟨rfl,rfl⟩:=hq3;rw[List.getElem?_eq_getElem hjq]at hqj;rw[Option.some.inj hqj]at hcq3;have hkj:decide ((k:Int)<(j:Int))=false:=by simp;omega
           have hmj0:decide ((mj:Int)<0)=false:=by simp
           have hw3:IntKind.i64.wrap ((d:Int)-(FJ:Int))=(d:Int)-(FJ:Int):=IntWalk.i64_in _ (by omega);have hw4:IntKind.i64.wrap ((d:Int)-(FJ:Int)+(mj:Int))=(d:Int)-(FJ:Int)+(mj:Int):=IntWalk.i64_in _ (by omega);have hasc:=HGG.out.itemsAsc;have HASC:=Hd hasc;clear hL hqj hit hFJ hasc hd;go_wp2;refine N.region_JTm 6 hmo (by kernel_rfl) (by kernel_rfl) rfl (by kernel_rfl) (by kernel_rfl) (fun Wz=>Below (wd).heap.size (wd) Wz) (brf.drew) ?_
           iterate 5 (refine N.WalkT.cons ?_ (N.StepP.pure rfl ?_) ?_;rotate_left;(intro W hJ;obtain⟨hcJ,hfJ⟩:=bcell hJ;go_simp;rfl);simp only[N.pz])
           refine N.WalkT.cons (intV j) (N.StepP.call (f:=58) (args:=#[TreeV.val ⟨na,nc,some ⟨bi,oi,none⟩,ic⟩ t,intV d]) rfl ?hG3_5 ?cG3_5) ?rG3_5;case hG3_5=>intro W hJ;obtain⟨hcJ,hfJ⟩:=bcell hJ;go_simp;try rfl
           case cG3_5=>intro W hJ;(refine(PN ⟨na,nc,some ⟨bi,oi,none⟩,ic⟩ t d W HWF.out HASC.out ((HRD4.out.step hJ).tree)).mono ?_;rw[HJI.out];rintro e w' ⟨rfl,hb2⟩;exact⟨rfl,hJ.trans (hb2.mono hJ.size)⟩)
           simp only[N.pz];refine N.WalkT.nil fun W hJ=>?_;rename World=>we
           have HRE:=Hd (HRD4.out.step hJ);have c0:=HRE.out.c0;have c1:=HRE.out.c1;have hgl:=HRE.out.gl;have hbq:=Nat.lt_of_lt_of_le hbq3 hJ.size;have hbi:=Nat.lt_of_lt_of_le hbi hJ.size;have hbd:=Nat.lt_of_lt_of_le hbd hJ.size;have hcd:=(hJ.cell (p:=⟨bd,od+n,none⟩) ‹_›).trans hcd;have hcq2:=(hJ.cell (p:=⟨bq,oq+i,none⟩) ‹_›).trans hcq2;have hcq3:=(hJ.cell (p:=⟨bq,oq+j,none⟩) ‹_›).trans hcq3;have m0:=(hJ.cell (p:=⟨gB,0,none⟩) mg).trans m0;have mg:=Nat.lt_of_lt_of_le mg hJ.size;have hcn:=(hJ.cell (p:=⟨bn,on+p,none⟩) hbn).trans hcn;have hbn:=Nat.lt_of_lt_of_le hbn hJ.size;have HJ:=Hd (HBD4.out.trans (hJ.mono HBD4.out.size));clear hJ;go_wp2;refine N.region_JTm 13 hmo (by kernel_rfl) (by kernel_rfl) rfl (by kernel_rfl) (by kernel_rfl) (fun Wz=>Below (we).heap.size (we) Wz) (brf.drew) ?_
           iterate 6 (refine N.WalkT.cons ?_ (N.StepP.pure rfl ?_) ?_;rotate_left;(intro W hJ;obtain⟨hcJ,hfJ⟩:=bcell hJ;go_simp;rfl);simp only[N.pz])
           refine N.WalkT.cons (intV FJ) (N.StepP.call (f:=57) (args:=#[TreeV.val ⟨na,nc,some ⟨bi,oi,none⟩,ic⟩ t,intV j]) rfl ?hG4_6 ?cG4_6) ?rG4_6;case hG4_6=>intro W hJ;obtain⟨hcJ,hfJ⟩:=bcell hJ;go_simp;try rfl
           case cG4_6=>intro W hJ;(refine(OY ⟨na,nc,some ⟨bi,oi,none⟩,ic⟩ t j W HWF.out ((HRE.out.step hJ).tree) HJL.out).mono ?_;rw[HBJ.out];rintro e w' ⟨rfl,hb2⟩;exact⟨rfl,hJ.trans (hb2.mono hJ.size)⟩)
           simp only[N.pz]
           iterate 6 (refine N.WalkT.cons ?_ (N.StepP.pure rfl ?_) ?_;rotate_left;(intro W hJ;obtain⟨hcJ,hfJ⟩:=bcell hJ;go_simp;rfl);simp only[N.pz])
           refine N.WalkT.nil fun W hJ=>?_;rename World=>wf
           have HRF:=Hd (HRE.out.step hJ);have c0:=HRF.out.c0;have c1:=HRF.out.c1;have hgl:=HRF.out.gl;have hcq2:=(hJ.cell (p:=⟨bq,oq+i,none⟩) ‹_›).trans hcq2;have hbq:=Nat.lt_of_lt_of_le hbq hJ.size;have m0:=(hJ.cell (p:=⟨gB,0,none⟩) mg).trans m0;have mg:=Nat.lt_of_lt_of_le mg hJ.size;have hcn:=(hJ.cell (p:=⟨bn,on+p,none⟩) hbn).trans hcn;have hbn:=Nat.lt_of_lt_of_le hbn hJ.size;have HJ5:=Hd (HJ.out.trans (hJ.mono HJ.out.size));clear hJ;go_wp2;refine N.region_JTm 10 hmo (by kernel_rfl) (by kernel_rfl) rfl (by kernel_rfl) (by kernel_rfl) (fun Wz=>Below (wf).heap.size (wf) Wz) (brf.drew) ?_
           iterate 3 (refine N.WalkT.cons ?_ (N.StepP.pure rfl ?_) ?_;rotate_left;(intro W hJ;obtain⟨hcJ,hfJ⟩:=bcell hJ;go_simp;rfl);simp only[N.pz])
           refine N.WalkT.cons (intV F) (N.StepP.call (f:=57) (args:=#[TreeV.val ⟨na,nc,some ⟨bi,oi,none⟩,ic⟩ t,intV i]) rfl ?hG5_3 ?cG5_3) ?rG5_3;case hG5_3=>intro W hJ;obtain⟨hcJ,hfJ⟩:=bcell hJ;go_simp;try rfl
           case cG5_3=>intro W hJ;(refine(OY ⟨na,nc,some ⟨bi,oi,none⟩,ic⟩ t i W HWF.out ((HRF.out.step hJ).tree) HITL.out).mono ?_;rw[HBG.out];rintro e w' ⟨rfl,hb2⟩;exact⟨rfl,hJ.trans (hb2.mono hJ.size)⟩)
           simp only[N.pz]
           iterate 6 (refine N.WalkT.cons ?_ (N.StepP.pure rfl ?_) ?_;rotate_left;(intro W hJ;obtain⟨hcJ,hfJ⟩:=bcell hJ;go_simp;rfl);simp only[N.pz])
           refine N.WalkT.nil fun W hJ=>?_;rename World=>wg
           have HRG6:=Hd (HRF.out.step hJ);have c0:=HRG6.out.c0;have c1:=HRG6.out.c1;have hgl:=HRG6.out.gl;have hcq2:=(hJ.cell (p:=⟨bq,oq+i,none⟩) ‹_›).trans hcq2;have hbq:=Nat.lt_of_lt_of_le hbq hJ.size;have m0:=(hJ.cell (p:=⟨gB,0,none⟩) mg).trans m0;have mg:=Nat.lt_of_lt_of_le mg hJ.size;have hcn:=(hJ.cell (p:=⟨bn,on+p,none⟩) hbn).trans hcn;have hbn:=Nat.lt_of_lt_of_le hbn hJ.size;have HJ6:=Hd (HJ5.out.trans (hJ.mono HJ5.out.size));clear hJ;go_wp2
           go_roundw
           case rel=>exact⟨n+1,by go_num,by omega,by omega,HJ6⟩
           case measure=>simp[intOf];omega
         ·obtain rfl:n=LA+1:=by omega
          go_wp2
          go_roundw
          case rel=>exact⟨i+1,by go_num,by omega,HBD4⟩
          case measure=>simp[intOf];omega
      ·obtain rfl:i=k+1:=by omega
       go_wp2_with (go_at_call 52;refine(sY _ HRY.out.gv).mono ?_;rintro e w9 ⟨rfl,hb9⟩)
       go_ret;exact⟨rfl,HRY.out.below.trans (hb9.mono HRY.out.below.size)⟩
end
end Go.Proofs.YtokdgiphdnjeoaaGreatDoor
