/- Part of a proof. -/
import Derived.Test.YtipjhljnkocioaaGreatDoorP40
import Derived.Test.YtipjhljnkocioaaGreatDoorQR06
set_option maxRecDepth 100000
set_option maxHeartbeats 8000000
set_option linter.unusedVariables false
set_option linter.unusedSimpArgs false
open Go.Proofs.Tryz
namespace Go.Proofs.YtipjhljnkocioaaGreatDoor
section
open Go Go.RowKit
theorem ResW.declC{w0 W:World}{g:Nat}{v:TreeV}{t:Tr}{S:List Int}{a ua:Option Addr}{c uc:Nat}(h:ResW w0 W g v t a c ua uc)(bd:Bd t)(wf:WF t)(G:Good t S){i:Nat}(hi:i<t.nodes.length) :
 Calls prog 37 #[v.val t,.slice ua t.nodes.length uc,intV i] W (zm W (zi t i)):=by
 have hul:(bC t t.nodes.length).length=t.nodes.length:=zS t _;have:=ME v ua uc t (bC t t.nodes.length) i W bd wf (xE G) hi h.tree (by unfold Ints;rw[hul];exact h.ups);rwa[hul]at this
theorem NA{t:Tr}{l:List Int}{item:Int}(h0 : -1≤item):∀(m:Nat) (j:Int),NS t l item m j → -1≤j
 |0,j,h=>by rw[show j=item from h];exact h0
 | m+1,j,h=>by
   rw[jS]at h;rcases h with h|⟨_,n,_,_,_,rfl⟩
   ·exact NA h0 m j h
   ·exact sU _ _
theorem LT{t:Tr}{S:List Int}(wf:WF t)(G:Good t S){k:Nat}(hk:k<t.items.length)(bd:Bd t){M:List Int}(h1:M.Nodup)(h2:∀x,x∈M↔x≠(k:Int)∧NS t (ze t t.nodes.length) k (k+1) x):(bA M).length≤2000000:=by
 rw[(bF M).length_eq]
 have hsub:∀x∈M,x∈(List.range (k+2)).map fun i:Nat=>(i:Int)-1:=fun x hx=>by
  have hx2:=((h2 x).1 hx).2;have h3:=NA (by omega) _ _ hx2;have h4:=NS.le wf G _ _ hx2;exact List.mem_map.2 ⟨(x+1).toNat,List.mem_range.2 (by omega),by omega⟩
 have:=mQ M _ h1 hsub;have h5:=bd.i;simp only[List.length_map,List.length_range]at this;omega
structure BoxT (W:World) (g:Nat) (v:TreeV) (t:Tr):Prop where
 c0:W.cell? ⟨g,0,none⟩=some (.slice v.na t.nodes.length v.nc)
 c1:W.cell? ⟨g,1,none⟩=some (.slice v.ia t.items.length v.ic)
 tree:IsTree W v t
 gl:g<W.heap.size
theorem BoxT.step{W W':World}{g:Nat}{v:TreeV}{t:Tr}(h:BoxT W g v t)(hb:Below W.heap.size W W'):BoxT W' g v t:=
 ⟨(hb.cell (p:=⟨g,0,none⟩) h.gl).trans h.c0,(hb.cell (p:=⟨g,1,none⟩) h.gl).trans h.c1,h.tree.mono hb nlr,Nat.lt_of_lt_of_le h.gl hb.size⟩
theorem BoxT.new{w:World}{v:TreeV}{t:Tr}(h:IsTree w v t):BoxT (w.alloc (.cells #[.slice v.na t.nodes.length v.nc,.slice v.ia t.items.length v.ic] 25)) w.heap.size v t:=
 ⟨zX rfl,zX rfl,h.mono ((Below.refl _ w).alloc nlr _) nlr,by simp⟩
def aBox(W:World)(g:Nat):Prop:=∃a n c a' n' c',W.heap[g]?=some (.cells #[.slice a n c,.slice a' n' c'] 25 (0,0))
def KBoxes(t:Tr)(W W':World):Prop:=W.heap.size≤W'.heap.size∧∀b,b<W.heap.size→W'.heap[b]?=W.heap[b]?∨(aBox W b∧aBox W' b∧∃u,BoxT W' b u t)
theorem KBoxes.refl(t:Tr)(W:World):KBoxes t W W:=⟨nlr,fun _ _=>.inl rfl⟩
theorem KBoxes.of_below{t:Tr}{W W':World}(h:Below W.heap.size W W'):KBoxes t W W':=⟨h.size,fun b hb=>.inl (h.block b hb)⟩
theorem aBox.lt{W:World}{g:Nat}(h:aBox W g):g<W.heap.size:=by
 obtain⟨_,_,_,_,_,_,h⟩:=h;exact(Array.getElem?_eq_some_iff.1 h).1
theorem aBox.step{t:Tr}{W W':World}{g:Nat}(h:aBox W g)(k:KBoxes t W W'):aBox W' g:=by
 rcases k.2 g h.lt with e|⟨_,h2,_⟩
 ·obtain⟨a,n,c,a',n',c',h⟩:=h
  exact⟨a,n,c,a',n',c',e.trans h⟩
 ·exact h2
theorem aBox.slices{W:World}{g:Nat}(h:aBox W g):∀i v,W.cell? ⟨g,i,none⟩=some v→∃a n c,v=.slice a n c:=by
 obtain⟨a,n,c,a',n',c',hn⟩:=h;intro i v hv;simp only[World.cell?,hn]at hv;rcases i with _|_|i
 ·simp at hv;exact⟨_,_,_,hv.symm⟩
 ·simp at hv;exact⟨_,_,_,hv.symm⟩
 ·simp at hv
theorem LR{t:Tr}{k:Nat}{W W':World}{a:Option Addr}{n c:Nat}{xs:List Value}(hr:Row k W a n c xs)(hk:0<k)(hx:∀v,xs[0]?=some v→∃q z,v=.int q z)(hT:KBoxes t W W'):Row k W' a n c xs:=by
 obtain⟨h1,h2,h3,h4⟩:=hr;refine⟨h1,h2,h3,?_⟩;rcases h4 with h4|⟨b,o,e,hlt,hc⟩
 ·exact .inl h4
 ·by_cases h0:n=0
  ·exact .inl h0
  ·refine .inr ⟨b,o,e,Nat.lt_of_lt_of_le hlt hT.1,fun i hi=>?_⟩
   have hl:0<xs.length:=by rw[h1];exact Nat.mul_pos (by omega) hk
   rcases hT.2 b hlt with e2|⟨h5,_⟩
   ·exact(World.cell?_of_block (a:=⟨b,o+i,none⟩) e2).trans (hc i hi)
   ·obtain⟨q,z,e1⟩:=hx _ (List.getElem?_eq_getElem hl)
    obtain⟨a9,n9,c9,e2⟩:=h5.slices _ _ (hc 0 hl);rw[e1]at e2;cases e2
theorem LO{t':Tr}{W W':World}{v:TreeV}{t:Tr}(ht:IsTree W v t)(hT:KBoxes t' W W'):IsTree W' v t:=by
 have hI:∀(l:List Int) (v:Value),(zo l)[0]?=some v→∃q z,v=.int q z:=by
  intro l v hv
  cases l with
  |nil=>cases hv
  |cons x l=>cases hv;exact⟨_,_,rfl⟩
 obtain⟨⟨ks,h1,h2,h3⟩,hi⟩:=ht;refine⟨⟨ks,h1,LR h2 (by omega) ?_ hT,fun i hi k=>LR (h3 i hi k) (by omega) (hI _) hT⟩,LR hi (by omega) (hI _) hT⟩;intro v hv
 cases hn:t.nodes with
 |nil=>rw[hn]at hv;simp[aE]at hv
 | cons d ns=>
   cases ks with
   |nil=>rw[hn]at h1;simp at h1
   | cons k ks=>
     rw[hn]at hv;simp[aE,Nd.cells]at hv;exact⟨_,_,hv.symm⟩
theorem BoxT.keep{W W':World}{g:Nat}{v:TreeV}{t:Tr}(h:BoxT W g v t)(hk:KBoxes t W W'):∃u,BoxT W' g u t:=by
 rcases hk.2 g h.gl with e|⟨_,_,h2⟩
 ·exact⟨v,(World.cell?_of_block (a:=⟨g,0,none⟩) e).trans h.c0,(World.cell?_of_block (a:=⟨g,1,none⟩) e).trans h.c1,LO h.tree hk,Nat.lt_of_lt_of_le h.gl hk.1⟩
 ·exact h2
theorem MA(W:World)(g:Nat)(cs:Array Value):Turns (fun i=>i=g) W (W.setRow g cs):=
 ⟨rfl,rfl,rfl,by simp[World.setRow],fun b hb hn=>by simp only[World.setRow];rw[Array.getElem?_modify,if_neg (fun e=>hn e.symm)]⟩
theorem LZ{W:World}{g:Nat}{u:TreeV}{t:Tr}{o:Oper}{a:Act}{K:Act→World→Prop}{Q:Exit→Act→World→Prop}(hab:aBox W g)(ht:IsTree W u t)(x y:Operand)(ho:o.op=.store 25 x y)
 (hx:a.eval x=.pointer (some ⟨g,0,none⟩))(hy:a.eval y=u.val t)
 (h:∀W',(∀{X:World},Below X.heap.size X W→X.heap.size≤g→Below X.heap.size X W')→KBoxes t W W'→BoxT W' g u t→K (a.put o.dst undef) W'):o.wp prog a W K Q:=by
 obtain⟨a1,n1,c1,a2,n2,c2,hn⟩:=hab;have hh:=setRow_heap W g _ #[.slice u.na t.nodes.length u.nc,.slice u.ia t.items.length u.ic] _ _ hn;have hT:=MA W g #[.slice u.na t.nodes.length u.nc,.slice u.ia t.items.length u.ic]
 have hb:BoxT (W.setRow g #[.slice u.na t.nodes.length u.nc,.slice u.ia t.items.length u.ic]) g u t:=
  ⟨zb (i:=0) (v:=.slice u.na t.nodes.length u.nc) hh rfl,zb (i:=1) (v:=.slice u.ia t.items.length u.ic) hh rfl,lZ ht (aBox.slices ⟨a1,n1,c1,a2,n2,c2,hn⟩) hT,(Array.getElem?_eq_some_iff.1 hh).1⟩
 refine wp_store_row 25 x y ho g #[.slice u.na t.nodes.length u.nc,.slice u.ia t.items.length u.ic] hx hy 25 _ hn (by kernel_rfl) rfl (by simp[Value.oneCell']) (h _ (fun hX hg=>?_) ⟨hT.size,fun b hb'=>?_⟩ hb)
 ·exact hX.trans ⟨rfl,rfl,rfl,hT.size,fun b hb'=>hT.block b (by have:=hX.size;omega) (by omega)⟩
 ·by_cases e:b=g
  ·subst e
   exact .inr ⟨⟨a1,n1,c1,a2,n2,c2,hn⟩,⟨_,_,_,_,_,_,hh⟩,u,hb⟩
  ·exact .inl (hT.block b hb' e)
structure BoxI (W:World) (g:Nat) (a:Option Addr) (c:Nat) (l:List Int):Prop where
 c0:W.cell? ⟨g,0,none⟩=some (.slice a l.length c)
 ints:Ints W a c l
 gl:g<W.heap.size
theorem BoxI.step{W W':World}{g:Nat}{a:Option Addr}{c:Nat}{l:List Int}(h:BoxI W g a c l)(hb:Below W.heap.size W W'):BoxI W' g a c l:=
 ⟨(hb.cell (p:=⟨g,0,none⟩) h.gl).trans h.c0,Row.mono h.ints hb nlr,Nat.lt_of_lt_of_le h.gl hb.size⟩
def quite:List UInt8:=[113,117,105,116,101,48,110,101,119]
theorem MN:zT quite=true:=by decide +kernel
theorem MQ{M L:List Int}(h1:M.Nodup)(h2:L.Nodup)(h:∀x,x∈M↔x∈L):bA L=bA M:=
 (bX ((bF M).trans ((List.perm_ext_iff_of_nodup h1 h2).2 h)) (bW M)).symm
theorem MH{w w':World}{t:Tr}{item:Int}{e:Ending}(h:eI t item=0)(hr:sF w t item e w'):∃M:List Int,M.Nodup∧(∀x,x∈M↔x≠item∧NS t (ze t t.nodes.length) item (item.toNat+1) x)∧RetIntsE w (bA M) 0 e w':=by
 rcases hr with⟨-,h2⟩|⟨h2,-⟩
 ·exact h2
 ·exact absurd h h2
theorem MG{t:Tr}(h:(zc t).2.2=0){k:Nat}(hk:k<t.items.length):eI t k=0:=by
 unfold eI;rw[if_neg (by rw[h];simp),if_neg (by omega)]
theorem MU{w:World}{a b:Option Addr}{c d n m:Nat}{l:List Int}(hn:l.length=n)(hm:l.length=m)(hl:l.length≤140737488355328)(h:Ints w a c l)(h':Ints w b d l) :
 Calls prog 42 #[.slice a n c,.slice b m d] w (zm w true):=by
 subst hn hm;have:=LS a b c d l l w hl hl h h';rwa[show(l==l)=true by simp]at this
theorem Renamed.rg{t t':Tr}{d:Nat}{new:List UInt8}(R:Renamed t t' d new)(rg:Rg t):Rg t':=fun i hi=>by
 rw[R.form.n];exact rg i (by rw[←R.form.len];exact hi)
theorem Renamed.bd'{t t':Tr}{d:Nat}{new:List UInt8}(R:Renamed t t' d new)(hn:new.length≤1000000000):Bd t':=
 R.form.bd R.bd fun i hi=>by
  rw[R.text i hi];split
  ·exact hn
  ·rw[t.nd_at hi];exact R.bd.s _ (List.getElem_mem hi)
theorem LY(s:List UInt8)(vn:Nat)(w:World)(hvn:vn<256)(hs:s.length≤maxLen)(hg:GV w) :
 Calls prog 8 #[strV s,.int .u8 vn] w (zm w true):=by
 have hmo:prog.follows .mixedOrders=true:=by kernel_rfl
 have HC:=Hd (gM s w hs hg);have HG:=Hd hg;clear hg;go_enter func8,ntmps8
 go_wp2_with (first
  | (have:=A1;clear this;go_at_call 36
     refine(lK ⟨na,nc,ia,ic⟩ t _ HBD.out HWF.out HTX.out).mono ?_;rintro e w2⟨ua,uc,rfl,hown,hb2⟩;have hul:(bC t t.nodes.length).length=t.nodes.length:=zS t _;rw[hul]at hown⊢;have hu:=aQ hown
     have HR:Hid (ResW w w2 w1.heap.size ⟨na,nc,ia,ic⟩ t a c ua uc):=Hd (by
      obtain⟨a',c',e,hr⟩:=hu;simp at e;obtain⟨rfl,rfl⟩:=e
      exact⟨(hb2.cell (p:=⟨w1.heap.size,0,none⟩) (by simp)).trans (zX rfl),(hb2.cell (p:=⟨w1.heap.size,1,none⟩) (by simp)).trans (zX rfl),HTX.out.mono hb2 nlr,Row.mono HDX.out hb2 nlr,hr,Nat.lt_of_lt_of_le (by simp) hb2.size,HBX.out.trans (hb2.mono HBX.out.size),(HG.out.mono HBX.out nlr).mono hb2 nlr⟩)
     clear hown hb2 hu A1)
  | (go_at_call 35
     refine HC.out.mono ?_;rintro e w1⟨⟨na,nc,ia,ic⟩,t,a,c,l,ok,rfl,ht,hi,hb1,hbd,hrg,hok,-⟩;unfold TreeV.val;have hbx:=hb1.alloc hb1.size (.cells #[.slice na t.nodes.length nc,.slice ia t.items.length ic] 25);have HBX:=Hd hbx;clear hb1 hbx;rcases ok with _|_
     ·go_wp2_with (go_at_call 14;refine(bG _ (HG.out.mono HBX.out nlr)).mono ?_;rintro e w2 ⟨rfl,hb2⟩)
      go_ret;exact⟨rfl,HBX.out.trans (hb2.mono HBX.out.size)⟩
     obtain⟨hr0,rfl⟩:=hok rfl;obtain⟨wf,G⟩:=zK hbd hr0;have hdl:(ze t t.nodes.length).length=t.nodes.length:=zD t _;rw[hdl];unfold Ints at hi;rw[hdl]at hi;have hn3:=hbd.n;have HBD:=Hd hbd;have HRG:=Hd hrg;have HR0:=Hd hr0;have HWF:=Hd wf;have HGG:=Hd G;have HTX:=Hd (ht.mono ((Below.refl _ w1).alloc nlr (.cells #[.slice na t.nodes.length nc,.slice ia t.items.length ic] 25)) nlr);have HDX:=Hd (Row.mono hi ((Below.refl _ w1).alloc nlr (.cells #[.slice na t.nodes.length nc,.slice ia t.items.length ic] 25)) nlr);clear ht hi hbd hrg hok hr0 wf G hdl
     have A1:=True.intro))
 go_loopw [9,10] (fun t9 t10 wr=>∃(k:Nat) (q:List Int) (al:Option Addr) (cl:Nat),t10=.int .i64 k∧t9=.slice al q.length cl∧k≤t.nodes.length∧q.length≤k∧Hid (q=idxs (fun i=>zi t i) k)∧Hid (Below w2.heap.size w2 wr)∧Hid (OwnI wr w2.heap.size al cl q)∧Hid (∀i:Nat,i<k→(t.nd i).text≠quite)) (fun _ i _=>t.nodes.length-(intOf i).toNat)
 case atStart=>exact⟨0,[],_,_,rfl,rfl,Nat.zero_le _,nlr,Hd rfl,Hd (brf.alloc nlr _),Hd (cU w2 _ _ rfl nlr),Hd (fun i h=>absurd h (Nat.not_lt_zero _))⟩
 case round=>
  obtain⟨k,q,al,cl,rfl,rfl,hk,hqk,HQ,HB,HO,HF⟩:=hrel;have HRW:=Hd (HR.out.step HB.out);have b0:=HRW.out.c0;have b1:=HRW.out.c1;have hgl:=HRW.out.gl;by_cases hlt:k<t.nodes.length
  ·as_aux_lemma=>
   obtain⟨b,o,ka,kc,ea,hb,c0,c1,c2,c3,c4,-⟩:=HRW.out.tree.nodes.at hlt;simp only at ea;subst ea;have hnd:=t.nd_at hlt;obtain⟨D,hD⟩:∃D,t.nodes[k]=D:=⟨_,rfl⟩
   rw[hD]at c0 c1 c2 c3 c4 hnd;have HND:=Hd hnd;have HK:=Hd hlt;clear hnd hD;by_cases hq:D.text=quite
   ·have hq1:(D.text==[113,117,105,116,101,48,110,101,119])=true:=by rw[hq];rfl
    clear hq
    go_wp2_with (go_at_call 14;refine(bG _ HRW.out.gv).mono ?_;rintro e w9 ⟨rfl,hb9⟩)
    go_ret;exact⟨rfl,HRW.out.below.trans (hb9.mono HRW.out.below.size)⟩
   ·have hq1:(D.text==[113,117,105,116,101,48,110,101,119])=false:=by
     rw[beq_eq_false_iff_ne];exact hq
    have HF2:Hid (∀i:Nat,i<k+1→(t.nd i).text≠quite):=Hd fun i hi=>by
     by_cases e:i<k
     ·exact HF.out i e
     ·obtain rfl:i=k:=by omega
      rw[HND.out];exact hq
    obtain⟨dk,hdk⟩:∃dk,zi t k=dk:=⟨_,rfl⟩
    have HDK:=Hd hdk;clear hdk hq;have A1:=Hd True.intro;rcases dk with _|_
    ·have HQ2:Hid (q=idxs (fun i=>zi t i) (k+1)):=Hd (by rw[gP HDK.out];exact HQ.out)
     go_wp2_with (go_at_call 37;refine(HRW.out.declC HBD.out HWF.out HGG.out HK.out).mono ?_;rw[HDK.out];rintro e w5 ⟨rfl,hb5⟩;have HB5:=Hd (HB.out.trans (hb5.mono HB.out.size));have HO5:=Hd (zh HO.out hb5);clear hb5)
     go_roundw
     case rel=>exact⟨k+1,q,al,cl,by go_num,rfl,by omega,by omega,HQ2,HB5,HO5,HF2⟩
     case measure=>simp[intOf];omega
    ·go_wp2_with (first
      | (have:=A2;clear this;at_builtin;refine zH (news:=[(k:Int)]) rfl (.tmp 59) (.tmp 61) rfl rfl (HO5.out.alloc _) rfl (zL _ _ _) (by omega) (by have:=HB5.out.size;simp;omega) ?_;intro a9 c9 w9 l9 HL9 hle9 hown9 hkeep9;have HB9:=Hd (hkeep9 _ w2 nlr (HB5.out.alloc HB5.out.size _));have HO9:=Hd hown9;clear hown9 hkeep9 A2)
      | (have:=A1;clear this;go_at_call 37;refine(HRW.out.declC HBD.out HWF.out HGG.out HK.out).mono ?_;rw[HDK.out];rintro e w5 ⟨rfl,hb5⟩;have HB5:=Hd (HB.out.trans (hb5.mono HB.out.size));have HO5:=Hd (zh HO.out hb5);clear hb5 A1;have A2:=Hd True.intro))
     go_roundw
     case rel=>exact⟨k+1,l9,a9,c9,by go_num,rfl,by omega,by omega,Hd (by rw[HL9.out,HQ.out,gQ HDK.out]),HB9,HO9,HF2⟩
     case measure=>simp[intOf];omega
  ·obtain rfl:k=t.nodes.length:=by omega
   by_cases hq0:q.length=0
   ·as_aux_lemma=>
    obtain rfl:q=[]:=List.length_eq_zero_iff.1 hq0
    go_wp2_with (go_at_call 14;refine(bG _ HRW.out.gv).mono ?_;rintro e w9 ⟨rfl,hb9⟩)
    go_ret;exact⟨rfl,HRW.out.below.trans (hb9.mono HRW.out.below.size)⟩
   ·as_aux_lemma=>
    obtain⟨r,hr⟩:∃r,vn % q.length=r:=⟨_,rfl⟩
    have hrl:r<q.length:=by rw[←hr];exact Nat.mod_lt _ (by omega)
    obtain⟨d,hdl,hdd,hde⟩:∃d:Nat,d<t.nodes.length∧zi t d=true∧q[r]=(d:Int):=by
     have hm:q[r]∈q:=List.getElem_mem hrl;have hm2:q[r]∈idxs (fun i=>zi t i) t.nodes.length:=HQ.out▸hm;obtain⟨d,h1,h2,h3⟩:=mem_idxs.1 hm2;exact⟨d,h1,h2,h3⟩
    obtain⟨t',hren,R⟩:=MO HBD.out HR0.out hdl hdd MN HF.out;have hback:=MF R;have hown:=MP HBD.out HR0.out hdl hdd;have hE:=t.nd_at hdl;obtain⟨E,hE2⟩:∃E,t.nodes[d]=E:=⟨_,rfl⟩
    rw[hE2]at hE;rw[hE]at hback hown;have HEL:Hid (E.text.length≤1000000000):=Hd (by rw[←hE2];exact HBD.out.s _ (List.getElem_mem hdl));have HE2:=Hd hE2;have HE:=Hd hE;have HREN:=Hd hren;have HBACK:=Hd hback;have HOWN:=Hd hown;have HRR:=Hd R;have HBD2:=Hd (R.bd' (by decide));have HRG2:=Hd (R.rg HRG.out);have HDL:=Hd hdl;obtain⟨bl,ol,rfl,hbl,hcl⟩:=Ints.at (zq HO.out) hrl;rw[hde]at hcl;have hrm:(vn:Int).tmod (q.length:Int)=(r:Int):=by rw[←hr];rfl
    have HRL:=Hd hrl;have hql:=HQ.out▸bY (fun i=>zi t i) t.nodes.length;clear hE hE2 hren hback hown R hde hdd hr HF HQ;have A1:=Hd True.intro
    go_upto_region 17 with(first
     | (have:=A2;clear this;go_at_call 29
        refine(eC ⟨ma,mc,ja,jc⟩ t d quite _ HBD.out HRG.out HR3.out.gv (by decide) HT3.out).mono ?_;rw[HREN.out];rintro e w7⟨⟨xa,xc,xia,xic⟩,rfl,hx7,hb7⟩;unfold TreeV.val;have HX7:=Hd (BoxT.new hx7);have HR7:=Hd ((HR3.out.step hb7).step ((Below.refl _ w7).alloc nlr (.cells #[.slice xa t'.nodes.length xc,.slice xia t'.items.length xic] 25)))
        clear hx7 hb7 A2)
     | (have:=A1;clear this;go_at_call 40
        refine(eW ⟨na,nc,ia,ic⟩ t _ HBD.out HRW.out.tree).mono ?_;rintro e w3⟨⟨ma,mc,ja,jc⟩,B,ks3,rfl,-,hon,hin,-,hb3⟩;unfold TreeV.val;have HT3:=Hd (show IsTree w3 ⟨ma,mc,ja,jc⟩ t from⟨hon.nodes,hin⟩);have HR3:=Hd (HRW.out.step hb3);clear hon hin hb3 A1
        have A2:=Hd True.intro))
    obtain⟨X1,hX1⟩:∃X1,w7.alloc (.cells #[.slice xa t'.nodes.length xc,.slice xia t'.items.length xic] 25)=X1:=⟨_,rfl⟩
    rw[hX1]at HX7 HR7⊢;obtain⟨g12,hg12⟩:∃g,w7.heap.size=g:=⟨_,rfl⟩
    rw[hg12]at HX7⊢;clear hX1 hg12 b0 b1 hgl hbl hcl hrm;clear HO HB HRW
    as_aux_lemma=>
    have b0:=HR7.out.c0;have b1:=HR7.out.c1;have hgl:=HR7.out.gl;obtain⟨b,o,ka,kc,ea,hb,e0,e1,e2,e3,e4,-⟩:=HR7.out.tree.nodes.at HDL.out;simp only at ea;subst ea;rw[HE2.out]at e0 e1 e2 e3 e4;have hdl:=HDL.out;have HEN:=Hd HE2.out;refine N.region_M 15 hmo (by kernel_rfl) (by kernel_rfl) rfl (by kernel_rfl) (by kernel_rfl) (fun _ _=>False) N.Pans.no (fun Wz=>Below (X1).heap.size (X1) Wz) (KBoxes t) (brf.drew) [.fix ?vG1_0,.dep [] (fun _ v W=>∃u:TreeV,v=u.val t∧IsTree W u t),.fix ?vG1_2,.fix ?vG1_3,.fix ?vG1_4,.fix ?vG1_5,.fix ?vG1_6,.fix ?vG1_7,.fix ?vG1_8,.dep [1] (fun _ v W=>∃u:TreeV,v=.tuple #[u.val t,intV 0]∧IsTree W u t),.dep [9] (fun _ v W=>∃u:TreeV,v=.tuple #[u.val t,intV 0]∧IsTree W u t),.dep [10] (fun _ v W=>∃u:TreeV,v=u.val t∧IsTree W u t),.dep [10] (fun _ v _=>v=intV 0),.dep [] (fun _ v W=>∃g,v=.pointer (some ⟨g,0,none⟩)∧X1.heap.size≤g∧aBox W g),.dep [11,13] (fun l _ W=>∃g,l.getD 1 undef=.pointer (some ⟨g,0,none⟩)∧X1.heap.size≤g∧∃u,BoxT W g u t)] [[],[],[],[],[],[],[],[],[],[1],[9],[10],[10],[],[11,13]] rfl (by kernel_rfl) (N.sts_kd ⟨trivial,(fun _ _ _ _ hk h=>by obtain⟨u,h1,h2⟩:=h;exact⟨u,h1,LO h2 hk⟩),trivial,trivial,trivial,trivial,trivial,trivial,trivial,(fun _ _ _ _ hk h=>by obtain⟨u,h1,h2⟩:=h;exact⟨u,h1,LO h2 hk⟩),(fun _ _ _ _ hk h=>by obtain⟨u,h1,h2⟩:=h;exact⟨u,h1,LO h2 hk⟩),(fun _ _ _ _ hk h=>by obtain⟨u,h1,h2⟩:=h;exact⟨u,h1,LO h2 hk⟩),(fun _ _ _ _ _ h=>h),(fun _ _ _ _ hk h=>by obtain⟨g,h1,h2,h3⟩:=h;exact⟨g,h1,h2,h3.step hk⟩),(fun _ _ _ _ hk h=>by obtain⟨g,h1,h2,u,h3⟩:=h;exact⟨g,h1,h2,h3.keep hk⟩),trivial⟩) fun x=>?_;rotate_left 8;refine N.WalkM.fix ?_ ?_;refine N.StepS.known rfl (fun _=>KBoxes.refl _ _) ?_;intro W hJ hP;obtain⟨hcJ,hfJ⟩:=bcell hJ;go_simp;rfl;simp only[N.pz];refine N.WalkM.dep ?sG1_1 ?rG1_1;case sG1_1=>(refine N.StepS.call' (f:=40) (args:=#[TreeV.val ⟨some ⟨b,o,none⟩,nc,ia,ic⟩ t]) rfl ?_ ?_;(intro W hJ hP;obtain⟨hcJ,hfJ⟩:=bcell hJ;(go_simp;try rfl));(intro W hJ hP;refine(eW _ t W HBD.out ((HR7.out).step hJ).tree).mono ?_;rintro e w' ⟨u,B,ks,rfl,-,hon,hin,-,hb⟩;exact⟨_,rfl,hJ.trans (hb.mono hJ.size),KBoxes.of_below hb,⟨u,rfl,⟨hon.nodes,hin⟩⟩⟩))
    simp only[N.pz]
    iterate 7 (refine N.WalkM.fix ?_ ?_;refine N.StepS.known rfl (fun _=>KBoxes.refl _ _) ?_;intro W hJ hP;obtain⟨hcJ,hfJ⟩:=bcell hJ;go_simp;rfl;simp only[N.pz])
    refine N.WalkM.dep ?sG1_9 ?rG1_9;case sG1_9=>(refine N.StepS.call' (f:=29) (args:=#[x 1,intV d,strV E.text]) rfl ?_ ?_;(intro W hJ hP;obtain⟨hcJ,hfJ⟩:=bcell hJ;(go_simp;try rfl));(intro W hJ hP;obtain⟨u1,h1,ht1⟩:∃u:TreeV,x 1=u.val t∧IsTree W u t:=hP 1 (by kernel_rfl);rw[h1];refine(eC u1 t d E.text W HBD.out HRG.out (HR7.out.step hJ).gv HEL.out ht1).mono ?_;rw[HOWN.out];rintro e w' ⟨u,rfl,ht,hb⟩;exact⟨_,rfl,hJ.trans (hb.mono hJ.size),KBoxes.of_below hb,⟨u,rfl,ht⟩⟩))
    simp only[N.pz];refine N.WalkM.dep ?sG1_10 ?rG1_10;case sG1_10=>exact N.StepS.runs rfl (fun W hJ hP=>by obtain⟨u9,h9,ht9⟩:∃u:TreeV,x 9=.tuple #[u.val t,intV 0]∧IsTree W u t:=hP 9 (by kernel_rfl);generalize x 9=y9 at *;subst h9;exact⟨.tuple #[u9.val t,intV 0],W,(by(go_simp;try rfl)),hJ,KBoxes.refl _ _,⟨u9,rfl,ht9⟩⟩)
    simp only[N.pz];refine N.WalkM.dep ?sG1_11 ?rG1_11;case sG1_11=>exact N.StepS.runs rfl (fun W hJ hP=>by obtain⟨u9,h10,ht9⟩:∃u:TreeV,x 10=.tuple #[u.val t,intV 0]∧IsTree W u t:=hP 10 (by kernel_rfl);generalize x 10=y10 at *;subst h10;exact⟨u9.val t,W,(by(go_simp;try rfl)),hJ,KBoxes.refl _ _,⟨u9,rfl,ht9⟩⟩)
    simp only[N.pz];refine N.WalkM.dep ?sG1_12 ?rG1_12;case sG1_12=>exact N.StepS.runs rfl (fun W hJ hP=>by obtain⟨u9,h10,ht9⟩:∃u:TreeV,x 10=.tuple #[u.val t,intV 0]∧IsTree W u t:=hP 10 (by kernel_rfl);generalize x 10=y10 at *;subst h10;exact⟨intV 0,W,(by(go_simp;try rfl)),hJ,KBoxes.refl _ _,rfl⟩)
    simp only[N.pz];refine N.WalkM.dep ?sG1_13 ?rG1_13;case sG1_13=>exact N.StepS.runs rfl (fun W hJ hP=>by exact⟨_,_,(by(go_simp;try rfl)),hJ.alloc hJ.size _,KBoxes.of_below (brf.alloc nlr _),⟨W.heap.size,rfl,hJ.size,⟨none,0,0,none,0,0,heap_alloc_new _ _⟩⟩⟩)
    simp only[N.pz];refine N.WalkM.dep ?sG1_14 ?rG1_14;case sG1_14=>(refine .inl ⟨rfl,fun W hJ hP=>?_⟩;obtain⟨u,h11,ht⟩:∃u:TreeV,x 11=u.val t∧IsTree W u t:=hP 11 (by kernel_rfl);obtain⟨g,h13,hg,hab⟩:∃g,x 13=.pointer (some ⟨g,0,none⟩)∧X1.heap.size≤g∧aBox W g:=hP 13 (by kernel_rfl);refine LZ hab ht _ _ rfl (by rw[←h13];rfl) (by rw[←h11];rfl) fun W2 h1 h2 h3=>⟨undef,rfl,h1 hJ hg,h2,g,h13,hg,u,h3⟩)
    simp only[N.pz];refine N.WalkM.nil fun W hJ hH=>?_;obtain⟨g13,h13,hg13,⟨aa,ac,aia,aic⟩,hbx⟩:∃g,x 13=.pointer (some ⟨g,0,none⟩)∧X1.heap.size≤g∧∃u,BoxT W g u t:=hH 14;have h12:x 12=intV 0:=hH 12;generalize x 12=y12 at *;generalize x 13=y13 at *;subst h12 h13;have HBX8:=Hd hbx;have HEX8:=Hd hJ;clear hJ hH hbx;simp only[List.drop_succ_cons,List.drop_zero]
    go_upto_region 18 with fail
    clear b0 b1 hgl e0 e1 e2 e3 e4 hb hdl;have HR8:=Hd (HR7.out.step HEX8.out);have HX8:=Hd (HX7.out.step HEX8.out);clear HR7 HX7 HEX8 hg13;have hlen:t'.nodes.length=t.nodes.length:=HRR.out.form.len;have hln:((t'.nodes.length:Int) != (t.nodes.length:Int))=false:=by simp[hlen]
    have HLEN:=Hd hlen;clear hlen
    as_aux_lemma=>
    have b0:=HR8.out.c0;have b1:=HR8.out.c1;have hgl:=HR8.out.gl;have a0:=HBX8.out.c0;have a1:=HBX8.out.c1;have agl:=HBX8.out.gl
    go_wp2_with (first
     | (go_at_call 41
        refine(LW ⟨aa,ac,aia,aic⟩ ⟨some ⟨b,o,none⟩,nc,ia,ic⟩ t t _ HBD.out HBD.out HBX8.out.tree HR8.out.tree).mono ?_;rw[show decide (t=t)=true by simp];rintro e w10⟨rfl,hb10⟩;have HR10:=Hd (HR8.out.step hb10);have HX10:=Hd (HX8.out.step hb10);have y0:=HR10.out.c0;have y1:=HR10.out.c1;have x0:=HX10.out.c0;have x1:=HX10.out.c1;have hgl10:=HR10.out.gl;have xgl10:=HX10.out.gl
        clear hb10 b0 b1 hgl a0 a1 agl))
    clear HR8 HX8 HBX8
    go_loop [16] (fun i=>∃k:Nat,k≤t'.nodes.length∧i=.int .i64 k) (fun i=>t'.nodes.length-(intOf i).toNat)
    case atStart=>exact⟨0,Nat.zero_le _,rfl⟩
    case round=>
     obtain⟨k,hk,rfl⟩:=hrel;have hn9:t'.nodes.length≤1000000:=by rw[HLEN.out];exact HBD.out.n
     by_cases hlt:k<t'.nodes.length
     ·as_aux_lemma=>
      have hlt2:k<t.nodes.length:=by rw[←HLEN.out];exact hlt
      obtain⟨b2,o2,ka,kc,ea2,hb2,c0,c1,c2,c3,c4,-⟩:=HR10.out.tree.nodes.at hlt2;simp only[Option.some.injEq,Addr.mk.injEq,and_true]at ea2;obtain⟨rfl,rfl⟩:=ea2;obtain⟨bx,ox,kx,kcx,ex,hbx,d0,d1,d2,d3,d4,-⟩:=HX10.out.tree.nodes.at hlt;simp only at ex;subst ex;obtain⟨bd,od,ed,hbd,hcd⟩:=HR10.out.declAt hlt2;subst ed;have htx:=HRR.out.text k hlt2;rw[t'.nd_at hlt,t.nd_at hlt2]at htx;obtain⟨D,hD⟩:∃D,t.nodes[k]=D:=⟨_,rfl⟩
      rw[hD]at c0 c1 c2 c3 c4 htx;obtain⟨D',hD'⟩:∃D',t'.nodes[k]=D':=⟨_,rfl⟩
      rw[hD']at d0 d1 d2 d3 d4 htx;clear hD hD';by_cases h1:k=d
      ·rw[if_pos (.inl h1)]at htx
       rw[htx]at d1;unfold quite at d1;subst h1;clear htx;go_wp2
       go_round
       case rel=>exact⟨k+1,by omega,by go_num⟩
       case measure=>simp[intOf];omega
      ·by_cases h2:means t k=(d:Int)
       ·rw[if_pos (.inr h2)]at htx
        rw[htx]at d1;unfold quite at d1;rw[h2]at hcd;have h1':((k:Int)==(d:Int))=false:=by simp;omega
        clear htx h2 h1;go_wp2
        go_round
        case rel=>exact⟨k+1,by omega,by go_num⟩
        case measure=>simp[intOf];omega
       ·rw[if_neg (by rintro(h|h);exact h1 h;exact h2 h)]at htx
        rw[htx]at d1;have h1':((k:Int)==(d:Int))=false:=by simp;omega
        have h2':(means t k==(d:Int))=false:=by simpa using h2
        clear htx h2 h1;go_wp2
        go_round
        case rel=>exact⟨k+1,by omega,by go_num⟩
        case measure=>simp[intOf];omega
     ·obtain rfl:k=t'.nodes.length:=by omega
      clear hlt hk;have hrs:=HRR.out.resolve;have hdl:(ze t t.nodes.length).length=t.nodes.length:=zD t _;obtain⟨L,hL⟩:∃L,ze t t.nodes.length=L:=⟨_,rfl⟩
      rw[hL]at hrs hdl;have HRS:=Hd hrs;have HLL:=Hd hdl;have HLD:=Hd hL;clear hrs hdl hL;have B1:=Hd True.intro
      go_upto_region 29 with(first
       | (have:=B2;clear this;go_at_call 16
          refine(eD ⟨ma,mc,ja,jc⟩ t' _ HBD2.out HRG2.out HR11.out.gv HT11.out).mono ?_;rw[HRS.out];rintro e w12⟨na5,nc5,rfl,hown,hb12⟩;simp only at hown⊢;have hb13:=hb12.alloc hb12.size (.cells #[.slice na5 L.length nc5] 30);have HR12:=Hd (HR11.out.step hb13);have HX12:=Hd (HX11.out.step hb13);have HN12:=Hd (show BoxI (w12.alloc (.cells #[.slice na5 L.length nc5] 30)) w12.heap.size na5 nc5 L from⟨zX rfl,Row.mono (zq hown) ((Below.refl _ w12).alloc nlr _) nlr,by simp⟩)
          clear hown hb12 hb13 B2)
       | (have:=B1;clear this;go_at_call 40
          refine(eW ⟨xa,xc,xia,xic⟩ t' _ HBD2.out HX10.out.tree).mono ?_;rintro e w11⟨⟨ma,mc,ja,jc⟩,B,ks3,rfl,-,hon,hin,-,hb3⟩;unfold TreeV.val;have HT11:=Hd (show IsTree w11 ⟨ma,mc,ja,jc⟩ t' from⟨hon.nodes,hin⟩);have HR11:=Hd (HR10.out.step hb3);have HX11:=Hd (HX10.out.step hb3);clear hon hin hb3 B1 y0 y1 x0 x1 hgl10 xgl10
          have B2:=Hd True.intro))
      obtain⟨X3,hX3⟩:∃X3,w12.alloc (.cells #[.slice na5 L.length nc5] 30)=X3:=⟨_,rfl⟩
      rw[hX3]at HX12 HR12 HN12⊢;obtain⟨g18,hg18⟩:∃g,w12.heap.size=g:=⟨_,rfl⟩
      rw[hg18]at HN12⊢;clear hX3 hg18 HR10 HX10 HR11 HX11 HT11
      as_aux_lemma=>
      have b0:=HR12.out.c0;have b1:=HR12.out.c1;have hgl:=HR12.out.gl;have x0:=HX12.out.c0;have x1:=HX12.out.c1;have xgl:=HX12.out.gl;obtain⟨b2,o2,ka,kc,ea2,hb,e0,e1,e2,e3,e4,-⟩:=HR12.out.tree.nodes.at HDL.out;simp only[Option.some.injEq,Addr.mk.injEq,and_true]at ea2;obtain⟨rfl,rfl⟩:=ea2;rw[HE2.out]at e0 e1 e2 e3 e4;have hdl:=HDL.out;refine N.region_M 15 hmo (by kernel_rfl) (by kernel_rfl) rfl (by kernel_rfl) (by kernel_rfl) (fun _ _=>False) N.Pans.no (fun Wz=>Below (X3).heap.size (X3) Wz) (KBoxes t) (brf.drew) [.fix ?vG2_0,.dep [] (fun _ v W=>∃u:TreeV,v=u.val t'∧IsTree W u t'),.fix ?vG2_2,.fix ?vG2_3,.fix ?vG2_4,.fix ?vG2_5,.fix ?vG2_6,.fix ?vG2_7,.fix ?vG2_8,.dep [1] (fun _ v W=>∃u:TreeV,v=.tuple #[u.val t,intV 0]∧IsTree W u t),.dep [9] (fun _ v W=>∃u:TreeV,v=.tuple #[u.val t,intV 0]∧IsTree W u t),.dep [10] (fun _ v W=>∃u:TreeV,v=u.val t∧IsTree W u t),.dep [10] (fun _ v _=>v=intV 0),.dep [] (fun _ v W=>∃g,v=.pointer (some ⟨g,0,none⟩)∧X3.heap.size≤g∧aBox W g),.dep [11,13] (fun l _ W=>∃g,l.getD 1 undef=.pointer (some ⟨g,0,none⟩)∧X3.heap.size≤g∧∃u,BoxT W g u t)] [[],[],[],[],[],[],[],[],[],[1],[9],[10],[10],[],[11,13]] rfl (by kernel_rfl) (N.sts_kd ⟨trivial,(fun _ _ _ _ hk h=>by obtain⟨u,h1,h2⟩:=h;exact⟨u,h1,LO h2 hk⟩),trivial,trivial,trivial,trivial,trivial,trivial,trivial,(fun _ _ _ _ hk h=>by obtain⟨u,h1,h2⟩:=h;exact⟨u,h1,LO h2 hk⟩),(fun _ _ _ _ hk h=>by obtain⟨u,h1,h2⟩:=h;exact⟨u,h1,LO h2 hk⟩),(fun _ _ _ _ hk h=>by obtain⟨u,h1,h2⟩:=h;exact⟨u,h1,LO h2 hk⟩),(fun _ _ _ _ _ h=>h),(fun _ _ _ _ hk h=>by obtain⟨g,h1,h2,h3⟩:=h;exact⟨g,h1,h2,h3.step hk⟩),(fun _ _ _ _ hk h=>by obtain⟨g,h1,h2,u,h3⟩:=h;exact⟨g,h1,h2,h3.keep hk⟩),trivial⟩) fun x=>?_;rotate_left 8;refine N.WalkM.fix ?_ ?_;refine N.StepS.known rfl (fun _=>KBoxes.refl _ _) ?_;intro W hJ hP;obtain⟨hcJ,hfJ⟩:=bcell hJ;go_simp;rfl;simp only[N.pz];refine N.WalkM.dep ?sG2_1 ?rG2_1;case sG2_1=>(refine N.StepS.call' (f:=40) (args:=#[TreeV.val ⟨xa,xc,xia,xic⟩ t']) rfl ?_ ?_;(intro W hJ hP;obtain⟨hcJ,hfJ⟩:=bcell hJ;(go_simp;try rfl));(intro W hJ hP;refine(eW _ t' W HBD2.out ((HX12.out).step hJ).tree).mono ?_;rintro e w' ⟨u,B,ks,rfl,-,hon,hin,-,hb⟩;exact⟨_,rfl,hJ.trans (hb.mono hJ.size),KBoxes.of_below hb,⟨u,rfl,⟨hon.nodes,hin⟩⟩⟩))
      simp only[N.pz]
      iterate 7 (refine N.WalkM.fix ?_ ?_;refine N.StepS.known rfl (fun _=>KBoxes.refl _ _) ?_;intro W hJ hP;obtain⟨hcJ,hfJ⟩:=bcell hJ;go_simp;rfl;simp only[N.pz])
      refine N.WalkM.dep ?sG2_9 ?rG2_9;case sG2_9=>(refine N.StepS.call' (f:=29) (args:=#[x 1,intV d,strV E.text]) rfl ?_ ?_;(intro W hJ hP;obtain⟨hcJ,hfJ⟩:=bcell hJ;(go_simp;try rfl));(intro W hJ hP;obtain⟨u1,h1,ht1⟩:∃u:TreeV,x 1=u.val t'∧IsTree W u t':=hP 1 (by kernel_rfl);rw[h1];refine(eC u1 t' d E.text W HBD2.out HRG2.out (HR12.out.step hJ).gv HEL.out ht1).mono ?_;rw[HBACK.out];rintro e w' ⟨u,rfl,ht,hb⟩;exact⟨_,rfl,hJ.trans (hb.mono hJ.size),KBoxes.of_below hb,⟨u,rfl,ht⟩⟩))
      simp only[N.pz];refine N.WalkM.dep ?sG2_10 ?rG2_10;case sG2_10=>exact N.StepS.runs rfl (fun W hJ hP=>by obtain⟨u9,h9,ht9⟩:∃u:TreeV,x 9=.tuple #[u.val t,intV 0]∧IsTree W u t:=hP 9 (by kernel_rfl);generalize x 9=y9 at *;subst h9;exact⟨.tuple #[u9.val t,intV 0],W,(by(go_simp;try rfl)),hJ,KBoxes.refl _ _,⟨u9,rfl,ht9⟩⟩)
      simp only[N.pz];refine N.WalkM.dep ?sG2_11 ?rG2_11;case sG2_11=>exact N.StepS.runs rfl (fun W hJ hP=>by obtain⟨u9,h10,ht9⟩:∃u:TreeV,x 10=.tuple #[u.val t,intV 0]∧IsTree W u t:=hP 10 (by kernel_rfl);generalize x 10=y10 at *;subst h10;exact⟨u9.val t,W,(by(go_simp;try rfl)),hJ,KBoxes.refl _ _,⟨u9,rfl,ht9⟩⟩)
      simp only[N.pz];refine N.WalkM.dep ?sG2_12 ?rG2_12;case sG2_12=>exact N.StepS.runs rfl (fun W hJ hP=>by obtain⟨u9,h10,ht9⟩:∃u:TreeV,x 10=.tuple #[u.val t,intV 0]∧IsTree W u t:=hP 10 (by kernel_rfl);generalize x 10=y10 at *;subst h10;exact⟨intV 0,W,(by(go_simp;try rfl)),hJ,KBoxes.refl _ _,rfl⟩)
      simp only[N.pz];refine N.WalkM.dep ?sG2_13 ?rG2_13;case sG2_13=>exact N.StepS.runs rfl (fun W hJ hP=>by exact⟨_,_,(by(go_simp;try rfl)),hJ.alloc hJ.size _,KBoxes.of_below (brf.alloc nlr _),⟨W.heap.size,rfl,hJ.size,⟨none,0,0,none,0,0,heap_alloc_new _ _⟩⟩⟩)
      simp only[N.pz];refine N.WalkM.dep ?sG2_14 ?rG2_14;case sG2_14=>(refine .inl ⟨rfl,fun W hJ hP=>?_⟩;obtain⟨u,h11,ht⟩:∃u:TreeV,x 11=u.val t∧IsTree W u t:=hP 11 (by kernel_rfl);obtain⟨g,h13,hg,hab⟩:∃g,x 13=.pointer (some ⟨g,0,none⟩)∧X3.heap.size≤g∧aBox W g:=hP 13 (by kernel_rfl);refine LZ hab ht _ _ rfl (by rw[←h13];rfl) (by rw[←h11];rfl) fun W2 h1 h2 h3=>⟨undef,rfl,h1 hJ hg,h2,g,h13,hg,u,h3⟩)
      simp only[N.pz];refine N.WalkM.nil fun W hJ hH=>?_;obtain⟨g13,h13,hg13,⟨ba,bc,bia,bic⟩,hbx⟩:∃g,x 13=.pointer (some ⟨g,0,none⟩)∧X3.heap.size≤g∧∃u,BoxT W g u t:=hH 14;have h12:x 12=intV 0:=hH 12;generalize x 12=y12 at *;generalize x 13=y13 at *;subst h12 h13;have HBX13:=Hd hbx;have HEX13:=Hd hJ;clear hJ hH hbx;simp only[List.drop_succ_cons,List.drop_zero]
      go_upto_region 30 with fail
      clear b0 b1 hgl e0 e1 e2 e3 e4 hb hdl x0 x1 xgl;have HR14:=Hd (HR12.out.step HEX13.out);have HX14:=Hd (HX12.out.step HEX13.out);have HN14:=Hd (HN12.out.step HEX13.out);clear HR12 HX12 HN12 HEX13 hg13
      have HDC:Hid (Ints W a c L):=Hd (by
       have:=HR14.out.decl;rw[HLD.out]at this;unfold Ints;rw[HLL.out]
       exact this)
      as_aux_lemma=>
      have b0:=HR14.out.c0;have b1:=HR14.out.c1;have n0:=HN14.out.c0;have ngl:=HN14.out.gl;have hgl:=HR14.out.gl;have a0:=HBX13.out.c0;have a1:=HBX13.out.c1;have agl:=HBX13.out.gl;rw[HLL.out]at n0;have C1:=Hd True.intro
      go_wp2_with (first
       | (have:=C2;clear this;go_at_call 41
          refine(LW ⟨ba,bc,bia,bic⟩ ⟨some ⟨b,o,none⟩,nc,ia,ic⟩ t t _ HBD.out HBD.out HBX15.out.tree HR15.out.tree).mono ?_;rw[show decide (t=t)=true by simp];rintro e w16⟨rfl,hb16⟩;have HR16:=Hd (HR15.out.step hb16);have HX16:=Hd (HX15.out.step hb16)
          clear hb16 C2)
       | (have:=C1;clear this;go_at_call 42
          refine(MU HLL.out HLL.out (by rw[HLL.out];have:=HBD.out.n;omega) HN14.out.ints HDC.out).mono ?_;rintro e w15⟨rfl,hb15⟩;have HR15:=Hd (HR14.out.step hb15);have HX15:=Hd (HX14.out.step hb15);have HBX15:=Hd (HBX13.out.step hb15);have y0:=HR15.out.c0;have y1:=HR15.out.c1;have z0:=HBX15.out.c0;have z1:=HBX15.out.c1;clear hb15 C1 b0 b1 a0 a1 n0 ngl
          have C2:=Hd True.intro))
      clear y0 y1 z0 z1 hgl agl HR14 HX14 HN14 HBX13 HDC HR15 HX15 HBX15
      go_loopw [23] (fun t23 wr=>∃k:Nat,t23=.int .i64 k∧k≤t.items.length∧Hid (Below w16.heap.size w16 wr)) (fun i _=>t.items.length-(intOf i).toNat)
      case atStart=>exact⟨0,rfl,Nat.zero_le _,Hd brf⟩
      case round=>
       obtain⟨k,rfl,hk,HW⟩:=hrel;have HRA:=Hd (HR16.out.step HW.out);have HXA:=Hd (HX16.out.step HW.out);have b0:=HRA.out.c0;have b1:=HRA.out.c1;have x0:=HXA.out.c0;have x1:=HXA.out.c1;have hgl:=HRA.out.gl;have xgl:=HXA.out.gl;have hi9:=HBD.out.i;by_cases hlt:k<t.items.length
       ·as_aux_lemma=>
        have HK:=Hd hlt;have HNE:=Hd (MG HR0.out hlt);have HNE2:Hid (eI t' k=0):=Hd (MG (by rw[HRR.out.resolve]) (by rw[HRR.out.form.items];exact hlt));have C1:=Hd True.intro
        go_wp2_with (first
         | (have:=C5;clear this;go_at_call 42
            refine(MU rfl rfl HSL.out (Row.mono HI3.out HB5.out nlr) HI5.out).mono ?_;rintro e v5⟨rfl,hb5⟩;have HW9:=Hd ((HBV.out.trans (HB5.out.mono HBV.out.size)).trans (hb5.mono (Nat.le_trans HBV.out.size HB5.out.size)))
            clear hb5 C5)
         | (have:=C4;clear this;go_at_call 32
            refine(fB ⟨pa,pc,qa,qc⟩ t' k _ HBD2.out HRG2.out HR4.out.gv HT4.out (by have:=HK.out;omega)).mono ?_;intro e v4 h4;obtain⟨M',hM1',hM2',a5,c5,rfl,hown5,hb5⟩:=MH HNE2.out h4;have hMM:bA M'=bA M:=MQ HM1.out hM1' fun x=>by rw[HM2.out,hM2',HRR.out.needs]
            rw[hMM]at hown5⊢;have HI5:=Hd (zq hown5);have HB5:=Hd (HB4.out.trans (hb5.mono HB4.out.size));clear h4 hM1' hM2' hMM hown5 hb5 C4
            have C5:=Hd True.intro)
         | (have:=C3;clear this;go_at_call 40
            refine(eW ⟨xa,xc,xia,xic⟩ t' _ HBD2.out HX3.out.tree).mono ?_;rintro e v3⟨⟨pa,pc,qa,qc⟩,B,ks3,rfl,-,hon,hin,-,hb4⟩;unfold TreeV.val;have HT4:=Hd (show IsTree v3 ⟨pa,pc,qa,qc⟩ t' from⟨hon.nodes,hin⟩);have HR4:=Hd (HR3.out.step hb4);have HB4:=Hd hb4;clear hon hin hb4 C3 u0 u1 r0 r1 ugl vgl
            have C4:=Hd True.intro)
         | (have:=C2;clear this;go_at_call 32
            refine(fB ⟨ma,mc,ja,jc⟩ t k _ HBD.out HRG.out HR2.out.gv HT2.out (by have:=HK.out;omega)).mono ?_;intro e v2 h2;obtain⟨M,hM1,hM2,a3,c3,rfl,hown3,hb3⟩:=MH HNE.out h2;have HSL:Hid ((bA M).length≤140737488355328):=Hd (by have:=LT HWF.out HGG.out HK.out HBD.out hM1 hM2;omega);have HM1:=Hd hM1;have HM2:=Hd hM2;have HI3:=Hd (zq hown3);have HR3:=Hd (HR2.out.step hb3);have HX3:=Hd (HX2.out.step hb3);have HBV:=Hd (HB2.out.trans (hb3.mono HB2.out.size));have u0:=HX3.out.c0;have u1:=HX3.out.c1;have r0:=HR3.out.c0;have r1:=HR3.out.c1;have ugl:=HX3.out.gl;have vgl:=HR3.out.gl;clear h2 hM1 hM2 hown3 hb3 C2
            have C3:=Hd True.intro)
         | (have:=C1;clear this;go_at_call 40
            refine(eW ⟨some ⟨b,o,none⟩,nc,ia,ic⟩ t _ HBD.out HRA.out.tree).mono ?_;rintro e v1⟨⟨ma,mc,ja,jc⟩,B,ks3,rfl,-,hon,hin,-,hb3⟩;unfold TreeV.val;have HT2:=Hd (show IsTree v1 ⟨ma,mc,ja,jc⟩ t from⟨hon.nodes,hin⟩);have HR2:=Hd (HRA.out.step hb3);have HX2:=Hd (HXA.out.step hb3);have HB2:=Hd (HW.out.trans (hb3.mono HW.out.size));clear hon hin hb3 C1 b0 b1 x0 x1 hgl xgl
            have C2:=Hd True.intro))
        go_roundw
        case rel=>exact⟨k+1,by go_num,by omega,HW9⟩
        case measure=>simp[intOf];omega
       ·obtain rfl:k=t.items.length:=by omega
        go_wp2_with (go_at_call 14;refine(bG _ HRA.out.gv).mono ?_;rintro e w9 ⟨rfl,hb9⟩)
        go_ret;exact⟨rfl,HRA.out.below.trans (hb9.mono HRA.out.below.size)⟩
end
end Go.Proofs.YtipjhljnkocioaaGreatDoor
