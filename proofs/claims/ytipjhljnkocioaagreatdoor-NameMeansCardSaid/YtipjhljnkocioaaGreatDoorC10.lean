/- Part of a proof. -/
import Derived.Test.YtipjhljnkocioaaGreatDoorC09
set_option maxRecDepth 100000
set_option maxHeartbeats 8000000
set_option linter.unusedVariables false
set_option linter.unusedSimpArgs false
open Go.Proofs.Tryz
namespace Go.Proofs.YtipjhljnkocioaaGreatDoor
section
open Go.RowKit
theorem xX{α:Type}(t:Tr)(g:Int→Int→α→α)(P:Int→α→Prop)(hg:∀(last n:Int) (acc:α),0≤n→n<(t.nodes.length:Int)→P last acc→P n (g last n acc)):∀(f:Nat) (last n:Int) (acc:α),n<t.nodes.length→P last acc→P (upF t g f last n acc).2 (upF t g f last n acc).1
 |0,last,n,acc,_,h=>h
 | f+1,last,n,acc,hn,h=>by
   rw[upF];split
   ·exact h
   ·exact xX t g P hg f _ _ _ (zD t (by omega)) (hg _ _ _ (by omega) hn h)
theorem xT{t:Tr}(wf:WF t){last n x:Int}(h0:0≤n)(hn:n<t.nodes.length)(h:x∈zH (t.nd n) last n):0≤x∧x<t.nodes.length:=by
 obtain⟨m,rfl⟩:=Int.eq_ofNat_of_zero_le h0;rw[t.nd_at (by omega)]at h;simp only[zH,List.mem_append]at h;rcases h with h|h
 ·split at h
  ·obtain rfl:=List.mem_singleton.1 h
   exact⟨h0,hn⟩
  ·cases h
 ·split at h
  ·rcases List.mem_append.1 h with h|h
   ·have:=wf.kid m (by omega) x (List.mem_of_mem_take h)
    omega
   ·obtain rfl:=List.mem_singleton.1 h
    exact⟨h0,hn⟩
  ·cases h
theorem gC{t:Tr}(wf:WF t){node:Nat}{x:Int}(h:x∈sight t node):0≤x∧x<t.nodes.length:=by
 rcases List.mem_append.1 h with h|h
 ·have:=xX t (fun last n acc=>acc++zH (t.nd n) last n) (fun _ acc=>∀x∈acc,0≤x∧x<(t.nodes.length:Int)) (fun last n acc h0 hn ha x hx=>by
   rcases List.mem_append.1 hx with hx|hx
   ·exact ha x hx
   ·exact xT wf h0 hn hx) (t.nodes.length+1) node (parent t node) [] (zD t (by omega)) (by simp)
  exact this x h
 ·exact wf.item x ((List.mem_filter.1 h).1)
theorem iT{t:Tr}(wf:WF t){node:Nat}(hn:node<t.nodes.length):(sight t node).length≤2000003000000:=by
 have hbd:=wf.bd.n;have:=xX t (fun last n acc=>acc++zH (t.nd n) last n) (fun last acc=>True) (fun _ _ _ _ _ _=>trivial) (t.nodes.length+1) node (parent t node) [] (zD t (by omega)) trivial
 have key:∀(f:Nat) (last n:Int) (acc:List Int),n<t.nodes.length→(0≤n→last<n)→0≤last→last<t.nodes.length→acc.length≤2000000*(last+1).toNat →
  (upF t (fun last n acc=>acc++zH (t.nd n) last n) f last n acc).1.length≤2000000*1000000:=by
  intro f
  induction f with
  |zero=>intro last n acc hn hln h0 h1 ha;simp only[upF];omega
  | succ f ih=>
    intro last n acc hn hln h0 h1 ha;simp only[upF];split
    ·show acc.length≤_;omega
    ·refine ih _ _ _ (zD t (by omega)) (cO t (by omega)) (by omega) hn ?_
     obtain⟨m,rfl⟩:=Int.eq_ofNat_of_zero_le (show 0≤n by omega);have hl:=hln (by omega);have hk:=wf.bd.k _ (List.getElem_mem (show m<t.nodes.length by omega))
     have:(zH (t.nd m) last m).length≤1000002:=by
      rw[t.nd_at (by omega)];simp only[zH,List.length_append];split<;>split<;>simp<;>omega
     simp only[List.length_append];omega
 have h1:=key (t.nodes.length+1) node (parent t node) [] (zD t (by omega)) (cO t (by omega)) (by omega) (by omega) (by simp);have h2:(t.items.filter fun it=>decide (it<(bQ t node).2)&&zl t it).length≤t.items.length:=List.length_filter_le _ _;have h3:=wf.bd.i;simp only[sight,List.length_append];have h4:(bQ t node).1.length≤2000000*1000000:=h1;omega
def nearest(t:Tr)(node:Int)(name:List UInt8):Int:=((sight t node).find? fun d=>(t.nd d).text==name).getD (-1)
theorem tX{p:Int→Bool}{l:List Int}{k:Nat}(hk:k<l.length)(h:p l[k]=false):((l.drop k).find? p)=((l.drop (k+1)).find? p):=by
 rw[List.drop_eq_getElem_cons hk,List.find?_cons,h]
theorem yH{p:Int→Bool}{l:List Int}{k:Nat}(hk:k<l.length)(h:p l[k]=true):((l.drop k).find? p)=some l[k]:=by
 rw[List.drop_eq_getElem_cons hk,List.find?_cons,h]
theorem mR(v:TreeV)(t:Tr)(node:Nat)(name:List UInt8)(w:World)(wf:WF t)(hn:node<t.nodes.length)(h:IsTree w v t) :
 Calls prog 66 #[v.val t,intV node,strV name] w (cW w (nearest t node name)):=by
 have HT:=Hd h;have WFH:=Hd wf;have hn3:=wf.bd.n;have hsl:=iT wf hn;clear h wf;unfold TreeV.val;obtain⟨L,hL⟩:∃L,L=sight t node:=⟨_,rfl⟩
 rw[←hL]at hsl;have HL:=Hd hL;clear hL;go_enter func66,ntmps66
 go_wp2_with (go_at_call 65;refine(qX v t node _ WFH.out hn (HT.out.mono boxT_below nlr)).mono ?_;rw[←HL.out];rintro e w' ⟨a1,c1,rfl,hown,hb'⟩)
 have HROW:=Hd (zq hown);have HB':=Hd hb';clear hown hb'
 go_loopw [8] (fun t8 wr=>∃(k:Nat),t8=.int .i64 k∧k≤L.length∧Hid (nearest t node name=((L.drop k).find? fun d=>(t.nd d).text==name).getD (-1))∧Hid (Below w'.heap.size w' wr)) (fun i _=>L.length-(intOf i).toNat)
 case atStart=>exact⟨0,rfl,Nat.zero_le _,Hd (by rw[nearest,←HL.out];rfl),Hd brf⟩
 case round=>
  obtain⟨k,rfl,hk,HA,HB⟩:=hrel;have hb1:Below (w.heap.size+1) (boxT w v t) w':=by simpa using HB'.out
  have hsw':=hb1.size;simp only[World.size_alloc]at hsw';obtain⟨b0,b1,ht1,⟨hs,hs1,hs2⟩,hbw⟩:=boxed (hb1.trans (HB.out.mono (by omega))) HT.out;obtain⟨hcw,hfw⟩:=bcell hbw;obtain⟨hcv,hfv⟩:=bcell HB.out;clear hb1;by_cases hlt:k<L.length
  ·obtain⟨bl,ol,rfl,hbl,hcl⟩:=HROW.out.at hlt
   obtain⟨hd1,hd2⟩:=gC WFH.out (x:=L[k]) (by rw[←HL.out];exact List.getElem_mem hlt);obtain⟨d,hd⟩:=Int.eq_ofNat_of_zero_le hd1;have hd3:d<t.nodes.length:=by omega
   obtain⟨b,o,ka,kc,ea,hb,c0,c1,c2,c3,c4,hkr⟩:=HT.out.nodes.at hd3;obtain⟨na,nc,ia,ic⟩:=v;simp only at ea b0 b1;subst ea;have HND:=Hd (t.nd_at hd3);have HD:=Hd hd;rw[hd]at hcl hd1 hd2;clear hkr ht1 hd
   cases he:t.nodes[d].text==name with
   | true=>
     have HE:=Hd he;go_wp2
     go_quiet (fail)
     go_wp2;go_ret;exact⟨zr (by rw[HA.out,yH hlt (by rw[HD.out,HND.out];exact HE.out),HD.out];rfl),below_drewN hbw _⟩
   | false=>
     have HE:=Hd he;go_wp2
     go_quiet (fail)
     go_wp2
     go_roundw
     case rel=>exact⟨k+1,by go_num,by omega,Hd (by rw[HA.out,tX hlt (by rw[HD.out,HND.out];exact HE.out)]),Hd (below_drewN HB.out _)⟩
     case measure=>simp[intOf];omega
  ·go_wp2
   go_ret;exact⟨zr (by rw[HA.out,List.drop_eq_nil_of_le (by omega)];rfl),hbw⟩
theorem lF{t:Tr}(wf:WF t){node:Nat}{name:List UInt8}(h:0≤nearest t node name):nearest t node name<t.nodes.length:=by
 unfold nearest at *
 cases hf:(sight t node).find? fun d=>(t.nd d).text==name with
 |none=>rw[hf]at h;simp at h
 |some d=>exact(gC wf (List.mem_of_find?_eq_some hf)).2
theorem rM{t:Tr}(wf:WF t){node:Nat}{name:List UInt8} : -1≤nearest t node name:=by
 unfold nearest
 cases hf:(sight t node).find? fun d=>(t.nd d).text==name with
 |none=>simp
 |some d=>have:=(gC wf (List.mem_of_find?_eq_some hf)).1;simp only[Option.getD_some];omega
def means(t:Tr)(node:Int):Int:=
 if dW (t.nd node).kind then (if nearest t node (t.nd node).text<0 || !suits (t.nd node).kind (t.nd (nearest t node (t.nd node).text)).kind then -1 else nearest t node (t.nd node).text)else -1
theorem yL{t:Tr}{node:Int}(h:dW (t.nd node).kind=false):means t node = -1:=by rw[means,if_neg (by rw[h];exact Bool.false_ne_true)]
theorem cU{t:Tr}(wf:WF t){node:Nat} : -1≤means t node∧means t node<t.nodes.length:=by
 unfold means;split
 ·split
  ·omega
  ·rename_i h
   simp only[Bool.or_eq_true,decide_eq_true_eq,not_or]at h;exact⟨rM wf,lF wf (by omega)⟩
 ·omega
theorem jB(v:TreeV)(t:Tr)(node:Nat)(w:World)(wf:WF t)(hn:node<t.nodes.length)(h:IsTree w v t) :
 Calls prog 54 #[v.val t,intV node] w (cW w (means t node)):=by
 have hmo:prog.follows .mixedOrders=true:=by kernel_rfl
 have HT:=Hd h;have WFH:=Hd wf;have hn3:=wf.bd.n;have HND:=Hd (t.nd_at hn);clear h wf
 cases hnm:dW t.nodes[node].kind with
 | false=>
   have HNM:=Hd hnm;clear hnm;unfold TreeV.val;go_enter func54,ntmps54
   go_wp2_with (go_at_call 93;refine(gI v t node _ WFH.out.bd hn (HT.out.mono boxT_below nlr)).mono ?_;rw[HNM.out];rintro e w' ⟨rfl,hb'⟩)
   go_ret;exact⟨zr (yL (by rw[HND.out];exact HNM.out)).symm,boxT_below.trans (hb'.mono (by simp))⟩
 | true=>
   have HNM:=Hd hnm;clear hnm;obtain⟨b,o,ka,kc,ea,hb,c0,c1,c2,c3,c4,hkr⟩:=HT.out.nodes.at hn;obtain⟨na,nc,ia,ic⟩:=v;simp only at ea;subst ea;obtain⟨d,hd⟩:∃d,d=nearest t node t.nodes[node].text:=⟨_,rfl⟩
   have HD:=Hd hd;have hdr:=lF WFH.out (node:=node) (name:=t.nodes[node].text);have hdg:=rM WFH.out (node:=node) (name:=t.nodes[node].text);rw[←hd]at hdr hdg;have HDR:=Hd hdr;clear hkr hd hdr;have hb1:b<w.heap.size+1:=by omega
   unfold TreeV.val;go_enter func54,ntmps54
   go_wp2_with (go_at_call 93;refine(gI ⟨some ⟨b,o,none⟩,nc,ia,ic⟩ t node _ WFH.out.bd hn (HT.out.mono ((Below.refl _ w).alloc nlr _) nlr)).mono ?_;rw[HNM.out];rintro e w' ⟨rfl,hb'⟩)
   obtain⟨b0,b1,-,⟨hs,hs1,hs2⟩,hbw⟩:=boxed (v:=⟨some ⟨b,o,none⟩,nc,ia,ic⟩) (t:=t) (w:=w) (wr:=w') (by simpa using hb') HT.out;obtain⟨hcw,hfw⟩:=bcell hbw;have hb2:b<w'.heap.size:=by omega
   refine N.region_JTm 9 hmo (by kernel_rfl) (by kernel_rfl) rfl (by kernel_rfl) (by kernel_rfl) (fun Wz=>Below (w').heap.size (w') Wz) (brf.drew) ?_
   iterate 8 (refine N.WalkT.cons ?_ (N.StepP.pure rfl ?_) ?_;rotate_left;(intro W hJ;obtain⟨hcJ,hfJ⟩:=bcell hJ;go_simp;rfl);simp only[N.pz])
   refine N.WalkT.cons (intV d) (N.StepP.call (f:=66) (args:=#[TreeV.val ⟨some ⟨b,o,none⟩,nc,ia,ic⟩ t,intV node,strV t.nodes[node].text]) rfl ?hG1_8 ?cG1_8) ?rG1_8;case hG1_8=>intro W hJ;obtain⟨hcJ,hfJ⟩:=bcell hJ;go_simp;try rfl
   case cG1_8=>intro W hJ;(refine(mR ⟨some ⟨b,o,none⟩,nc,ia,ic⟩ t node t.nodes[node].text W WFH.out hn (HT.out.mono (hbw.trans (hJ.mono hs2)) nlr)).mono ?_;rintro e w2 ⟨rfl,hb2⟩;exact⟨by rw[HD.out],hJ.trans (hb2.mono hJ.size)⟩)
   simp only[N.pz];refine N.WalkT.nil fun W hJ=>?_;obtain⟨b20,b21,-,⟨hs2',hs3,hs4⟩,hbw2⟩:=boxed (v:=⟨some ⟨b,o,none⟩,nc,ia,ic⟩) (t:=t) (w:=w) (wr:=W) ((by simpa using hb':Below (w.heap.size+1) _ w').trans (hJ.mono (by omega))) HT.out;obtain⟨hcw2,hfw2⟩:=bcell hbw2;have hb3:b<W.heap.size:=by omega
   by_cases hd0:d<0
   ·have HD0:=Hd hd0
    go_wp2;refine N.region_JTm 17 hmo (by kernel_rfl) (by kernel_rfl) rfl (by kernel_rfl) (by kernel_rfl) (fun Wz=>Below (W).heap.size (W) Wz) (brf.drew) ?_
    iterate 17 ((first|(refine N.WalkT.cons undef (N.StepP.skip rfl) ?_)|(refine N.WalkT.cons ?_ (N.StepP.pure rfl ?_) ?_;rotate_left;(intro W hJ;obtain⟨hcJ,hfJ⟩:=bcell hJ;go_simp;rfl)));simp only[N.pz])
    refine N.WalkT.nil fun W hJ=>?_;go_wp2;go_ret;exact⟨zr (by rw[means,HND.out,if_pos HNM.out,if_pos (by rw[←HD.out];simp[HD0.out])]),hbw2.trans (hJ.mono hs4)⟩
   ·obtain⟨m,rfl⟩:=Int.eq_ofNat_of_zero_le (show 0≤d by omega)
    have hm:m<t.nodes.length:=by have:=HDR.out (by omega);omega
    have HNM2:=Hd (t.nd_at hm);obtain⟨b',o',ka',kc',ea',hb',c0',-,-,-,-,-⟩:=HT.out.nodes.at hm;simp only[Option.some.injEq,Addr.mk.injEq,and_true]at ea';obtain⟨rfl,rfl⟩:=ea';have HD0:=Hd hd0;have hd1:¬(m:Int)<0:=by omega
    have hd2:decide ((m:Int)<0)=false:=decide_eq_false hd1;have hS:∀W',Calls prog 67 #[.int .u8 t.nodes[node].kind,.int .u8 t.nodes[m].kind] W' fun e w'=>e=.returned (.bool (suits t.nodes[node].kind t.nodes[m].kind))∧W'=w':=fun W'=>qY _ _ W';have HS:=Hd hS;clear hd0 hS
    cases hsu:suits t.nodes[node].kind t.nodes[m].kind with
    | true=>
      have HSU:=Hd hsu;clear hsu;go_wp2;refine N.region_JTm 17 hmo (by kernel_rfl) (by kernel_rfl) rfl (by kernel_rfl) (by kernel_rfl) (fun Wz=>Below (W).heap.size (W) Wz) (brf.drew) ?_
      iterate 15 (refine N.WalkT.cons ?_ (N.StepP.pure rfl ?_) ?_;rotate_left;(intro W hJ;obtain⟨hcJ,hfJ⟩:=bcell hJ;go_simp;rfl);simp only[N.pz])
      refine N.WalkT.cons (.bool true) (N.StepP.call (f:=67) (args:=#[.int .u8 t.nodes[node].kind,.int .u8 t.nodes[m].kind]) rfl ?hG3_15 ?cG3_15) ?rG3_15;case hG3_15=>intro W hJ;obtain⟨hcJ,hfJ⟩:=bcell hJ;go_simp;try rfl
      case cG3_15=>intro W hJ;(refine(HS.out _).mono ?_;rw[HSU.out];rintro e w2 ⟨rfl,rfl⟩;exact⟨rfl,hJ⟩)
      simp only[N.pz];refine N.WalkT.cons ?_ (N.StepP.pure rfl ?_) ?_;rotate_left;(intro W hJ;obtain⟨hcJ,hfJ⟩:=bcell hJ;go_simp;rfl);simp only[N.pz];refine N.WalkT.nil fun W hJ=>?_;go_wp2;go_ret;exact⟨zr (by rw[means,HND.out,if_pos HNM.out,←HD.out,if_neg (by rw[HNM2.out,HSU.out];simp)]),hbw2.trans (hJ.mono hs4)⟩
    | false=>
      have HSU:=Hd hsu;clear hsu;go_wp2;refine N.region_JTm 17 hmo (by kernel_rfl) (by kernel_rfl) rfl (by kernel_rfl) (by kernel_rfl) (fun Wz=>Below (W).heap.size (W) Wz) (brf.drew) ?_
      iterate 15 (refine N.WalkT.cons ?_ (N.StepP.pure rfl ?_) ?_;rotate_left;(intro W hJ;obtain⟨hcJ,hfJ⟩:=bcell hJ;go_simp;rfl);simp only[N.pz])
      refine N.WalkT.cons (.bool false) (N.StepP.call (f:=67) (args:=#[.int .u8 t.nodes[node].kind,.int .u8 t.nodes[m].kind]) rfl ?hG4_15 ?cG4_15) ?rG4_15;case hG4_15=>intro W hJ;obtain⟨hcJ,hfJ⟩:=bcell hJ;go_simp;try rfl
      case cG4_15=>intro W hJ;(refine(HS.out _).mono ?_;rw[HSU.out];rintro e w2 ⟨rfl,rfl⟩;exact⟨rfl,hJ⟩)
      simp only[N.pz];refine N.WalkT.cons ?_ (N.StepP.pure rfl ?_) ?_;rotate_left;(intro W hJ;obtain⟨hcJ,hfJ⟩:=bcell hJ;go_simp;rfl);simp only[N.pz];refine N.WalkT.nil fun W hJ=>?_;go_wp2;go_ret;exact⟨zr (by rw[means,HND.out,if_pos HNM.out,←HD.out,if_pos (by rw[HNM2.out,HSU.out];simp)]),hbw2.trans (hJ.mono hs4)⟩
def zY(t:Tr)(node:Int):Int:=first (fun k=>inside t node (t.items.getD k 0)) t.items.length 0
theorem cQ{w wr:World}{v:TreeV}{t:Tr}{a:Option Addr}{c:Nat}{l:List Int}(hb:Below (w.heap.size+1+1) (boxN (boxT w v t) a c l) wr)(h:IsTree w v t)(hl:Ints w a c l) :
 wr.cell? ⟨w.heap.size,0,none⟩=some (.slice v.na t.nodes.length v.nc)∧wr.cell? ⟨w.heap.size,1,none⟩=some (.slice v.ia t.items.length v.ic)∧wr.cell? ⟨w.heap.size+1,0,none⟩=some (.slice a l.length c) ∧
 IsTree wr v t∧Ints wr a c l∧(w.heap.size+1+1≤wr.heap.size∧w.heap.size<wr.heap.size∧w.heap.size≤wr.heap.size∧w.heap.size+1<wr.heap.size)∧Below w.heap.size w wr:=by
 have h1:Below ((boxT w v t).heap.size+1) (boxN (boxT w v t) a c l) wr:=by simpa using hb
 obtain⟨k1,k2,⟨k3,k4,k5⟩,k6⟩:=LD h1 (Row.mono hl boxT_below nlr);have k6':Below (w.heap.size+1) (boxT w v t) wr:=by simpa using k6
 obtain⟨l1,l2,l3,⟨l4,l5,l6⟩,l7⟩:=boxed k6' h;simp only[World.size_alloc]at k1 k3 k4;exact⟨l1,l2,k1,l3,k2,⟨k3,by omega,by omega,by omega⟩,l7⟩
def unused(t:Tr)(decl:List Int):List Int:=idxs (fun i=>zl t i&&(t.nd i).kind != 44&&(uses decl i).length==0) t.nodes.length
theorem qA(l:List Int)(n:Int):(uses l n).length≤l.length:=aP _ _
def insI(x:Int):List Int→List Int
 | []=>[x]
 |y::l=>if x≤y then x::y::l else y::insI x l
def bM:List Int→List Int
 | []=>[]
 |x::l=>insI x (bM l)
theorem oY(x:Int):∀l:List Int,(insI x l).Perm (x::l)
 | []=>List.Perm.refl _
 | y::l=>by
   simp only[insI];split
   ·exact List.Perm.refl _
   ·exact((oY x l).cons y).trans (List.Perm.swap x y l)
theorem cK:∀l:List Int,(bM l).Perm l
 | []=>List.Perm.refl _
 |x::l=>(oY x _).trans ((cK l).cons x)
theorem oZ(x:Int):∀l:List Int,l.Pairwise (· ≤ ·)→(insI x l).Pairwise (· ≤ ·)
 | [],_=>by simp[insI]
 | y::l,h=>by
   simp only[insI];have h':=List.pairwise_cons.1 h;split
   ·rename_i hxy
    refine List.pairwise_cons.2 ⟨fun z hz=>?_,h⟩;rcases List.mem_cons.1 hz with rfl|hz
    ·exact hxy
    ·exact Int.le_trans hxy (h'.1 z hz)
   ·rename_i hxy
    refine List.pairwise_cons.2 ⟨fun z hz=>?_,oZ x l h'.2⟩;rcases List.mem_cons.1 ((oY x l).mem_iff.1 hz)with rfl|hz
    ·omega
    ·exact h'.1 z hz
theorem dD:∀l:List Int,(bM l).Pairwise (· ≤ ·)
 | []=>by simp[bM]
 |x::l=>oZ x _ (dD l)
theorem cC{l L:List Int}(hp:L.Perm l)(hs:L.Pairwise (· ≤ ·)):L=bM l:=
 (hp.trans (cK l).symm).eq_of_pairwise (le:=(· ≤ ·)) (fun _ _ _ _ h1 h2=>Int.le_antisymm h1 h2) hs (dD l)
theorem dC(l:List Int):(bM l).length=l.length:=(cK l).length_eq
theorem bK{W:World}{B:Nat}{a:Option Addr}{n c:Nat}{L:List Int}(h:W.ownsRow B 3 1 (.slice a n c) n (zo L))(hn:0<n):∃g,a=some ⟨g,0,none⟩∧B≤g∧g<W.heap.size∧L.length=n ∧
 (∀i,i<n→W.cell? ⟨g,i,none⟩=some (intV (L.getD i 0)))∧(∀i,W.frozen? ⟨g,i,none⟩=false):=by
 have hl:L.length=n:=by have:=h.1;simpa using this
 rcases h.2 with⟨h',h0⟩|⟨g,cap,cur,h',hb,hg,_⟩
 ·omega
 ·simp only[Value.slice.injEq,true_and]at h'
  obtain⟨rfl,rfl⟩:=h';refine⟨g,rfl,hb,(Array.getElem?_eq_some_iff.1 hg).1,hl,fun i hi=>?_,fun i=>h.frozenAt i⟩;rw[h.cellAt i (by omega)];simp[show i<L.length by omega]
theorem fB{W:World}{B g n c:Nat}{L:List Int}(h:W.ownsRow B 3 1 (.slice (some ⟨g,0,none⟩) n c) n (zo L))(i:Nat)(x:Int) :
 (W.setCell ⟨g,i,none⟩ (intV x)).ownsRow B 3 1 (.slice (some ⟨g,0,none⟩) n c) n (zo (L.set i x)):=by
 have:=(h.stored i (intV x)).1;rw[←List.map_set]at this;exact this
theorem sF{p:Nat→Bool}{k:Nat}{x:Int}(h:x∈idxs p k):0≤x∧x<k:=by
 obtain⟨y,hy,rfl⟩:=List.mem_map.1 h;have:=List.mem_range.1 (List.mem_filter.1 hy).1;exact⟨Int.natCast_nonneg _,by show((y:Nat):Int)<k;omega⟩
theorem uG(t:Tr)(x:Int) : -1≤zY t x:=nI _ 0 nlr
theorem EP(t:Tr)(x:Int):zY t x<t.items.length:=by
 rcases Int.lt_or_le (zY t x) 0 with h|h
 ·omega
 ·obtain⟨m,hm,_,h2,_⟩:=dT (p:=fun k=>inside t x (t.items.getD k 0)) t.items.length 0 (by omega) h
  have:zY t x=m:=hm;omega
inductive Reach (t:Tr) (l:List Int) (item:Int):Int→Prop
 |base:Reach t l item item
 |step {n:Nat}(hn:n<t.nodes.length) (h0:0≤l.getD n 0) (h:Reach t l item (zY t n)):Reach t l item (zY t (l.getD n 0))
structure NeedL (t:Tr) (l:List Int) (item:Int) (L:List Int):Prop where
 head:∃r,L=item::r
 nodup:L.Nodup
 reach:∀x∈L,Reach t l item x
theorem NeedL.snoc{t:Tr}{l:List Int}{item:Int}{L:List Int}(h:NeedL t l item L){x:Int}(hx:Reach t l item x)(hn:hasI L x=false):NeedL t l item (L++[x]):=by
 obtain⟨⟨r,hr⟩,h2,h3⟩:=h;refine⟨⟨r++[x],by rw[hr];rfl⟩,?_,?_⟩
 ·rw[List.nodup_append]
  refine⟨h2,by simp,?_⟩;intro a ha b hb hab;simp at hb;subst hb;subst hab;have:L.contains a=true:=List.contains_iff_mem.2 ha;unfold hasI at hn;rw[this]at hn;cases hn
 ·intro y hy
  rcases List.mem_append.1 hy with hy|hy
  ·exact h3 y hy
  ·simp at hy
   subst hy;exact hx
theorem nL{α:Type}[BEq α][LawfulBEq α]:∀(L M:List α),L.Nodup→(∀x∈L,x∈M)→L.length≤M.length
 | [],_,_,_=>Nat.zero_le _
 | x::L,M,h,hs=>by
   obtain⟨h1,h2⟩:=List.nodup_cons.1 h;have hx:=hs x (by simp)
   have:=nL L (M.erase x) h2 (fun y hy=>by
    have hne:y≠x:=fun e=>h1 (e▸hy)
    exact(List.mem_erase_of_ne hne).2 (hs y (by simp[hy])))
   rw[List.length_erase_of_mem hx]at this;have:=List.length_pos_of_mem hx;simp only[List.length_cons];omega
theorem Reach.range{t:Tr}{l:List Int}{item x:Int}(h:Reach t l item x):x=item∨(-1≤x∧x<t.items.length):=by
 cases h with
 |base=>exact .inl rfl
 |step hn h0 _=>exact .inr ⟨uG _ _,EP _ _⟩
theorem NeedL.length{t:Tr}{l:List Int}{item:Int}{L:List Int}(h:NeedL t l item L):L.length≤t.items.length+2:=by
 have:=nL L (item::(List.range (t.items.length+1)).map (fun i:Nat=>(i:Int)-1)) h.nodup (fun x hx=>by
  rcases(h.reach x hx).range with e|⟨h1,h2⟩
  ·subst e;simp
  ·refine List.mem_cons_of_mem _ (List.mem_map.2 ⟨(x+1).toNat,List.mem_range.2 (by omega),by omega⟩))
 simpa using this
def kJ(t:Tr)(l:List Int)(L:List Int)(k:Nat):Prop:=∀n,n<k→n<t.nodes.length→0≤l.getD n 0→hasI L (zY t n)=true→hasI L (zY t (l.getD n 0))=true
theorem NeedL.done{t:Tr}{l:List Int}{item:Int}{L:List Int}(h:NeedL t l item L)(hc:kJ t l L t.nodes.length)(x:Int):x∈L↔Reach t l item x:=by
 refine⟨h.reach x,fun hr=>?_⟩;have hm:∀y,hasI L y=true↔y∈L:=fun y=>List.contains_iff_mem
 induction hr with
 |base=>obtain⟨r,hr⟩:=h.head;rw[hr];simp
 |step hn h0 _ ih=>exact(hm _).1 (hc _ hn hn h0 ((hm _).2 ih))
def KRow(w:World)(B:Nat)(a:Option Addr)(k:Option Addr×Nat)(kids:List Int):Prop:=
 Row 1 w k.1 kids.length k.2 (zo kids)∧(0<kids.length→∀x,k.1=some x→B≤x.block∧∀y,a=some y→x.block≠y.block)
structure OwnN (w:World) (B:Nat) (a:Option Addr) (c:Nat) (ns:List Nd) (ks:List (Option Addr×Nat)):Prop where
 len:ks.length=ns.length
 own:w.ownsRow B 52 5 (.slice a ns.length c) ns.length (aB ns ks)
 kids:∀i (h:i<ns.length) (k:i<ks.length),KRow w B a ks[i] ns[i].kids
theorem OwnN.nil(w:World)(B:Nat):OwnN w B none 0 [] []:=⟨rfl,⟨rfl,.inl ⟨rfl,rfl⟩⟩,fun i h=>by simp at h⟩
theorem KRow.below{w w':World}{B:Nat}{a:Option Addr}{k:Option Addr×Nat}{kids:List Int}(h:KRow w B a k kids)(hb:Below w.heap.size w w'):KRow w' B a k kids:=⟨h.1.mono hb nlr,h.2⟩
theorem OwnN.below{w w':World}{B:Nat}{a:Option Addr}{c:Nat}{ns:List Nd}{ks:List (Option Addr×Nat)}(h:OwnN w B a c ns ks)(hb:Below w.heap.size w w'):OwnN w' B a c ns ks:=
 ⟨h.len,zg h.own hb,fun i hi k=>(h.kids i hi k).below hb⟩
theorem aA{w:World}{a:Option Addr}{n c k:Nat}{xs:List Value}(h:Row k w a n c xs){p:Addr}(v:Value)(hne:0<n→∀x,a=some x→x.block≠p.block):Row k (w.setCell p v) a n c xs:=by
 obtain⟨h1,h2,h3,h4⟩:=h;refine⟨h1,h2,h3,?_⟩;rcases h4 with h4|⟨b,o,e,hlt,hc⟩
 ·exact .inl h4
 ·by_cases hn:n=0
  ·exact .inl hn
  ·refine .inr ⟨b,o,e,by simpa using hlt,fun i hi=>?_⟩
   have:=hne (by omega) _ e;rw[World.cell?_setCell_other _ _ _ _ (by intro e;have:=congrArg Addr.block e;simp only at this;simp only at *;omega)];exact hc i hi
theorem KRow.setCell{w:World}{B:Nat}{a:Option Addr}{k:Option Addr×Nat}{kids:List Int}(h:KRow w B a k kids){p:Addr}(hp:p.block<B)(v:Value):KRow (w.setCell p v) B a k kids:=
 ⟨aA h.1 v fun h0 x e=>by have:=(h.2 h0 x e).1;omega,h.2⟩
theorem OwnN.setCell{w:World}{B:Nat}{a:Option Addr}{c:Nat}{ns:List Nd}{ks:List (Option Addr×Nat)}(h:OwnN w B a c ns ks){p:Addr}(hp:p.block<B)(v:Value):OwnN (w.setCell p v) B a c ns ks:=
 ⟨h.len,ownsRow_setCell_below h.own hp v,fun i hi k=>(h.kids i hi k).setCell hp v⟩
theorem OwnN.nodes{w:World}{B:Nat}{a:Option Addr}{c:Nat}{ns:List Nd}{ks:List (Option Addr×Nat)}(h:OwnN w B a c ns ks):Nodes w a c ns:=by
 obtain⟨a',c',e,hr⟩:=bG h.own;simp at e;obtain⟨rfl,rfl⟩:=e;exact⟨ks,h.len,hr,fun i hi k=>(h.kids i hi k).1⟩
theorem OwnN.ownK{w:World}{B:Nat}{a:Option Addr}{c k:Nat}{ns:List Nd}{ks:List (Option Addr×Nat)}(h:OwnN w B a c ns ks)(hk:ns.length=k):w.ownsRow B 52 5 (.slice a k c) k (aB ns ks):=by
 subst hk;exact h.own
theorem OwnN.lt{w:World}{B:Nat}{a:Option Addr}{c:Nat}{ns:List Nd}{ks:List (Option Addr×Nat)}(h:OwnN w B a c ns ks):∀y,a=some y→B≤y.block∧y.block<w.heap.size:=fun y e=>by
 subst e;exact h.own.lt y.block rfl
theorem kS(d:Nd)(a:Option Addr×Nat):∀u∈d.cells a,u.oneCell'=true:=by
 intro u hu;simp[Nd.cells]at hu;rcases hu with rfl|rfl|rfl|rfl|rfl<;>rfl
theorem yP(W:World)(d:Nd)(a:Option Addr)(c:Nat){n:Nat}(hn:W.heap.size=n):Row 5 (W.alloc (.cells #[.int .u8 d.kind,strV d.text,intV d.n,.slice a d.kids.length c,intV d.pos] 52)) (some ⟨n,0,none⟩) 1 1 (d.cells (a,c)):=by
 subst hn;exact Row.made W (d.cells (a,c)) _ rfl nlr
theorem oQ:∀(ns:List Nd) (ks:List (Option Addr×Nat)) (d:Nd) (a:Option Addr×Nat),ks.length=ns.length→aB (ns++[d]) (ks++[a])=aB ns ks++d.cells a
 | [],[],d,a,_=>by simp[aB]
 |n::ns,k::ks,d,a,h=>by simp[aB,oQ ns ks d a (by simpa using h)]
 | [],_::_,_,_,h=>by simp at h
 |_::_,[],_,_,h=>by simp at h
theorem OwnN.snoc{W w':World}{B:Nat}{a a':Option Addr}{c c':Nat}{ns:List Nd}{ks:List (Option Addr×Nat)}(h:OwnN W B a c ns ks){d:Nd}{k:Option Addr×Nat}(hk:KRow W B a k d.kids)
 (hown:w'.ownsRow B 52 5 (.slice a' (ns.length+1) c') (ns.length+1) (aB ns ks++d.cells k))(hg:W.grownBy w' (Value.slice a ns.length c).ownBlock)(hw:∀p,a'=some p→a=some p∨W.heap.size≤p.block) :
 OwnN w' B a' c' (ns++[d]) (ks++[k]):=by
 have key:∀{k:Option Addr×Nat}{kids:List Int},KRow W B a k kids→KRow w' B a' k kids:=by
  intro k kids ⟨⟨h1,h2,h3,h4⟩,h5⟩;by_cases h0:0<kids.length
  ·rcases h4 with h4|⟨b,o,e,hlt,hc⟩
   ·omega
   ·obtain⟨h6,h7⟩:=h5 h0 _ e
    refine⟨⟨h1,h2,h3,.inr ⟨b,o,e,Nat.lt_of_lt_of_le hlt hg.size,fun i hi=>?_⟩⟩,fun _ x ex=>?_⟩
    ·have hb:w'.heap[b]?=W.heap[b]?:=hg.block b hlt (by
      cases a with
      |none=>simp[Value.ownBlock]
      |some y=>have:=h7 y rfl;simp[Value.ownBlock];exact this)
     exact(World.cell?_of_block (a:=⟨b,o+i,none⟩) hb).trans (hc i hi)
    ·rw[e]at ex
     obtain rfl:=Option.some.inj ex;refine⟨h6,fun y ey=>?_⟩;rcases hw y ey with h8|h8
     ·exact h7 y h8
     ·simp only;omega
  ·exact⟨⟨h1,h2,h3,.inl (by omega)⟩,fun h=>absurd h h0⟩
 refine⟨by simp[h.len],?_,fun i hi hik=>?_⟩
 ·rw[oQ _ _ _ _ h.len,show(ns++[d]).length=ns.length+1 by simp]
  exact hown
 ·by_cases e:i<ns.length
  ·have e2:i<ks.length:=by have:=h.len;omega
   rw[List.getElem_append_left e2,List.getElem_append_left e];exact key (h.kids i e e2)
  ·have hl:=h.len
   obtain rfl:i=ns.length:=by simp at hi;omega
   rw[List.getElem_append_right (by omega),List.getElem_append_right (by omega)];simp[hl];exact key hk
def DM(w:World)(t:Tr)(e:Ending)(w':World):Prop:=
 ∃(v:TreeV) (B:Nat) (ks:List (Option Addr×Nat)),e=.returned (v.val t)∧w.heap.size≤B∧OwnN w' B v.na v.nc t.nodes ks∧Ints w' v.ia v.ic t.items∧(∀x,v.ia=some x→w.heap.size≤x.block∧x.block<B)∧Below w.heap.size w w'
theorem AV{w wr:World}{ka:Option Addr}{kc:Nat}{d:Nd}(hb:Below (w.heap.size+1) (boxD w ka kc d) wr) :
 (wr.cell? ⟨w.heap.size,0,none⟩=some (.int .u8 d.kind)∧wr.cell? ⟨w.heap.size,1,none⟩=some (strV d.text)∧wr.cell? ⟨w.heap.size,2,none⟩=some (intV d.n)∧wr.cell? ⟨w.heap.size,3,none⟩=some (.slice ka d.kids.length kc)∧wr.cell? ⟨w.heap.size,4,none⟩=some (intV d.pos)) ∧
 (∀j,wr.frozen? ⟨w.heap.size,j,none⟩=false)∧(∀b o,b<w.heap.size→wr.cell? ⟨b,o,none⟩=w.cell? ⟨b,o,none⟩)∧(∀b o,b<w.heap.size→wr.frozen? ⟨b,o,none⟩=w.frozen? ⟨b,o,none⟩)∧Below w.heap.size w wr∧w.heap.size+1≤wr.heap.size:=by
 have hs:=hb.size;simp only[World.size_alloc]at hs;have hb':Below (boxD w ka kc d).heap.size (boxD w ka kc d) wr:=by simpa using hb
 obtain⟨hc,hf⟩:=bcell hb';have hw:Below w.heap.size w wr:=((Below.refl _ w).alloc nlr _).trans (hb.mono (by omega));have e0:(boxD w ka kc d).cell? ⟨w.heap.size,0,none⟩=some (.int .u8 d.kind):=by simp
 have e1:(boxD w ka kc d).cell? ⟨w.heap.size,1,none⟩=some (strV d.text):=by simp
 have e2:(boxD w ka kc d).cell? ⟨w.heap.size,2,none⟩=some (intV d.n):=by simp
 have e3:(boxD w ka kc d).cell? ⟨w.heap.size,3,none⟩=some (.slice ka d.kids.length kc):=by simp
 have e4:(boxD w ka kc d).cell? ⟨w.heap.size,4,none⟩=some (intV d.pos):=by simp
 exact⟨⟨(hc _ _ (by simp)).trans e0,(hc _ _ (by simp)).trans e1,(hc _ _ (by simp)).trans e2,(hc _ _ (by simp)).trans e3,(hc _ _ (by simp)).trans e4⟩,fun j=>(hf _ _ (by simp)).trans (by simp),(bcell hw).1,(bcell hw).2,hw,hs⟩
theorem iG(v:TreeV)(t:Tr)(w:World)(bd:Bd t)(h:IsTree w v t) :
 Calls prog 15 #[v.val t] w (DM w t):=by
 have HT:=Hd h;have BD:=Hd bd;have hn3:=bd.n;have hi3:=bd.i;clear h bd;obtain⟨na,nc,ia,ic⟩:=v;unfold TreeV.val;go_enter func15,ntmps15;have hitems:Ints (((boxT w ⟨na,nc,ia,ic⟩ t).alloc (.cells #[.slice none 0 0,.slice none 0 0] 25)).alloc (.cells #[] 3)) ia ic t.items:=Row.mono HT.out.items (((brf.alloc nlr _).alloc (by simp) _).alloc (by simp;omega) _) nlr;have HI:=Hd hitems;clear hitems
 go_wp2_with (at_builtin;refine zJ (news:=t.items) (l:=[]) (B:=w.heap.size+1+1) rfl (.tmp 6) (.tmp 8) rfl rfl (fA _ _ _ (by simp) (by omega)) rfl HI.out (by simp;omega) (by simp) ?_;intro a9 c9 w9 l9 HL9 hle9 hown9 hkeep9)
 have hb9:Below (w.heap.size+1+1) ((boxT w ⟨na,nc,ia,ic⟩ t).alloc (.cells #[.slice none 0 0,.slice none 0 0] 25)) w9:=hkeep9 _ _ nlr (brf.alloc (by simp) _);have hz9:w.heap.size+1+1≤w9.heap.size:=by have:=hb9.size;simpa using this
 have hl9:l9=t.items:=HL9.out;subst hl9;have HI9:=Hd (show Ints w9 a9 c9 t.items from zq hown9);have HB9:=Hd hb9;have hia9:∀x,a9=some x→w.heap.size+1+1≤x.block∧x.block<w9.heap.size:=fun x e=>by subst e;exact hown9.lt x.block rfl
 have HIA:=Hd hia9;clear hkeep9 hown9 hb9 HL9 hia9
 go_loopw [4] (fun t4 wr=>∃(k:Nat) (am:Option Addr) (cm:Nat) (ks:List (Option Addr×Nat)),t4=.int .i64 k∧k≤t.nodes.length ∧
  Hid (OwnN wr (w9.heap.size+1) am cm (t.nodes.take k) ks)∧Hid (wr.cell? ⟨w9.heap.size,0,none⟩=some (.slice am k cm))∧Hid (wr.cell? ⟨w9.heap.size,1,none⟩=some (.slice a9 t.items.length c9))∧Hid (wr.frozen? ⟨w9.heap.size,0,none⟩=false) ∧
  Hid (w9.heap.size+1≤wr.heap.size)∧Hid (Below w9.heap.size w9 wr)) (fun i _=>t.nodes.length-(intOf i).toNat)
 case atStart=>
  exact⟨0,none,0,[],rfl,Nat.zero_le _,Hd (OwnN.nil _ _),Hd (by simp),Hd (by simp),Hd (by simp),Hd (by simp),Hd (brf.alloc nlr _)⟩
 case round=>
  obtain⟨k,am,cm,ks,rfl,hk,HO,HC0,HC1,HF,HSZ,HBW⟩:=hrel;have hbw:Below w.heap.size w wr:=((((Below.refl _ w).alloc nlr _).alloc (by simp) _).trans (HB9.out.mono (by omega))).trans (HBW.out.mono (by omega));have HW:=Hd hbw;obtain⟨hcw,hfw⟩:=bcell hbw;have hc9:=(bcell (show Below ((boxT w ⟨na,nc,ia,ic⟩ t).alloc (.cells #[.slice none 0 0,.slice none 0 0] 25)).heap.size _ _ by simpa using HB9.out)).1;have hsz:=HSZ.out;have hg:=HC0.out;have hg1:=HC1.out;have hgf:=HF.out;have e0:wr.cell? ⟨w.heap.size,0,none⟩=some (.slice na t.nodes.length nc):=(HBW.out.cell (p:=⟨w.heap.size,0,none⟩) (by simp;omega)).trans ((hc9 _ _ (by simp;omega)).trans (by simp));have e2:wr.cell? ⟨w.heap.size+1,0,none⟩=some (.slice none 0 0):=(HBW.out.cell (p:=⟨w.heap.size+1,0,none⟩) (by simp;omega)).trans ((hc9 _ _ (by simp)).trans (by simp));have e3:wr.cell? ⟨w.heap.size+1,1,none⟩=some (.slice none 0 0):=(HBW.out.cell (p:=⟨w.heap.size+1,1,none⟩) (by simp;omega)).trans ((hc9 _ _ (by simp)).trans (by simp));have hf9:=(bcell (show Below ((boxT w ⟨na,nc,ia,ic⟩ t).alloc (.cells #[.slice none 0 0,.slice none 0 0] 25)).heap.size _ _ by simpa using HB9.out)).2;have e2f:wr.frozen? ⟨w.heap.size+1,0,none⟩=false:=(HBW.out.frozen (p:=⟨w.heap.size+1,0,none⟩) (by simp;omega)).trans ((hf9 _ _ (by simp)).trans (by simp));have e3f:wr.frozen? ⟨w.heap.size+1,1,none⟩=false:=(HBW.out.frozen (p:=⟨w.heap.size+1,1,none⟩) (by simp;omega)).trans ((hf9 _ _ (by simp)).trans (by simp));clear hc9 hf9 hbw;by_cases hlt:k<t.nodes.length
  ·obtain⟨b,o,ka,kc,ea,hb,c0,c1,c2,c3,c4,hkr⟩:=HT.out.nodes.at hlt
   simp only at ea;subst ea;have htk:t.nodes.take (k+1)=t.nodes.take k++[t.nodes[k]]:=List.take_succ_eq_append_getElem hlt;have hkl:t.nodes[k].kids.length≤1000000:=BD.out.k _ (List.getElem_mem _);obtain⟨d,hd⟩:∃d,t.nodes[k]=d:=⟨_,rfl⟩
   rw[hd]at c0 c1 c2 c3 c4 hkr hkl htk;have HTK:=Hd htk;clear hd htk;have hkr2:Ints ((wr.alloc (.cells #[.int .u8 d.kind,strV d.text,intV d.n,.slice ka d.kids.length kc,intV d.pos] 52)).alloc (.cells #[] 3)) ka kc d.kids:=Row.mono (Row.mono hkr HW.out nlr) ((brf.alloc nlr _).alloc (by simp) _) nlr;have HKR:=Hd hkr2;clear hkr hkr2
   go_wp2_with (first
    | (at_builtin;refine zN (news:=d.kids) (l:=[]) (B:=wr.heap.size+1) rfl (.tmp 23) (.tmp 25) rfl rfl (fA _ _ _ (by simp) nlr) rfl HKR.out (by simp;omega) (by simp) ?_;intro a5 c5 w5 l5 HL5 hle5 hown5 hkeep5 hap5;have hb5:=hkeep5 _ _ nlr ((Below.refl (wr.heap.size+1) _).alloc (by simp) (.cells #[] 3));have hl5:l5=d.kids:=HL5.out;subst hl5;obtain⟨⟨x0,x1,x2,x3,x4⟩,xf,hc5,hf5,hbw5,hs5⟩:=AV hb5;have x3f:=xf 3;have y0:w5.cell? ⟨w9.heap.size,0,none⟩=some (.slice am k cm):=(hc5 _ _ hsz).trans hg;have y0f:w5.frozen? ⟨w9.heap.size,0,none⟩=false:=(hf5 _ _ hsz).trans hgf;have HB5:=Hd hb5;have HOW5:=Hd hown5;have HAP5:=Hd hap5;have HBW5:=Hd hbw5;clear xf hc5 hf5 hb5 hown5 hap5 hkeep5 HL5 hbw5)
    | (at_builtin;have hbW:=(((HBW5.out.setCell (p:=⟨wr.heap.size,3,none⟩) nlr (.slice a5 d.kids.length c5)).alloc (by simp;omega) (.cells #[.int .u8 d.kind,strV d.text,intV d.n,.slice a5 d.kids.length c5,intV d.pos] 52)));have HOW:=HO.out.below hbW;have hOK:=HOW.ownK (k:=k) (by simp;omega);have HBW2:=Hd hbW;clear hbW;refine eU (news:=d.cells (a5,c5)) rfl (.tmp 29) (.tmp 31) 22 52 _ 5 64 rfl eN oX rfl (by decide) rfl hOK rfl (yP _ d a5 c5 (by simp)) (kS d (a5,c5)) (by unfold maxLen;omega) (by omega) (by simp;omega) ?_;intro a6 c6 w6 h1 h2 h3;have hgb:=(Below.refl (w9.heap.size+1) _).grown h2 (by simp;omega) (fun r e=>(hOK.lt r e).1);have y1:w6.cell? ⟨w9.heap.size,0,none⟩=some (.slice am k cm):=(hgb.cell (p:=⟨w9.heap.size,0,none⟩) (by simp)).trans ((HBW2.out.cell (p:=⟨w9.heap.size,0,none⟩) hsz).trans hg);have y1f:w6.frozen? ⟨w9.heap.size,0,none⟩=false:=(hgb.frozen (p:=⟨w9.heap.size,0,none⟩) (by simp)).trans ((HBW2.out.frozen (p:=⟨w9.heap.size,0,none⟩) hsz).trans hgf);have y2:w6.cell? ⟨w9.heap.size,1,none⟩=some (.slice a9 t.items.length c9):=(hgb.cell (p:=⟨w9.heap.size,1,none⟩) (by simp)).trans ((HBW2.out.cell (p:=⟨w9.heap.size,1,none⟩) hsz).trans hg1);have Y2:=Hd y2;have HGB:=Hd hgb;have H1:=Hd h1;have H2:=Hd h2;have H3:=Hd h3;have HOW2:=Hd HOW;clear hgb h1 h2 h3 hOK HOW y2))
   go_roundw
   case rel=>
    have hkr6:KRow ((w5.setCell ⟨wr.heap.size,3,none⟩ (.slice a5 d.kids.length c5)).alloc (.cells #[.int .u8 d.kind,strV d.text,intV d.n,.slice a5 d.kids.length c5,intV d.pos] 52)) (w9.heap.size+1) am (a5,c5) d.kids:=by
     refine⟨Row.mono (aA (zq HOW5.out) _ fun _ x e=>?_) (brf.alloc nlr _) nlr,fun _ x e=>?_⟩
     ·have e:a5=some x:=e
      subst e;have:=(HOW5.out.lt x.block rfl).1;simp only;omega
     ·have e:a5=some x:=e
      subst e;have h5:=(HOW5.out.lt x.block rfl).1;exact⟨by omega,fun y ey=>by have:=(HO.out.lt y ey).2;omega⟩
    have hsn:=HOW2.out.snoc (d:=d) (k:=(a5,c5)) hkr6 (a':=a6) (c':=c6) (w':=w6) (by rw[show(t.nodes.take k).length=k by simp;omega];exact H1.out) (by rw[show(t.nodes.take k).length=k by simp;omega];exact H2.out) H3.out;rw[←HTK.out]at hsn;refine⟨k+1,a6,c6,_,by go_num,by omega,Hd (hsn.setCell (p:=⟨w9.heap.size,0,none⟩) (by simp) _),Hd (World.cell?_setCell_same _ _ _ y1),Hd ((World.cell?_setCell_other _ _ _ _ (by simp)).trans Y2.out),Hd (by rw[World.frozen?_setCell];exact y1f),Hd ?_,Hd ?_⟩
    ·have h6:=HGB.out.size
     simp at h6⊢;have:=HBW5.out.size;omega
    ·exact((HBW.out.trans ((HBW2.out).mono (by omega))).trans (HGB.out.mono (by omega))).setCell (by simp) _
   case measure=>simp[intOf];omega
  ·obtain rfl:k=t.nodes.length:=by omega
   have htk:t.nodes.take t.nodes.length=t.nodes:=List.take_length;have HTK:=Hd htk;clear htk;go_wp2
   have c2:((wr.setCell ⟨w.heap.size+1,0,none⟩ (.slice am t.nodes.length cm)).setCell ⟨w.heap.size+1,1,none⟩ (.slice a9 t.items.length c9)).cell? ⟨w.heap.size+1,0,none⟩=some (.slice am t.nodes.length cm):=by
    rw[World.cell?_setCell_other _ _ _ _ (by simp)];exact World.cell?_setCell_same _ _ _ e2
   have c3:((wr.setCell ⟨w.heap.size+1,0,none⟩ (.slice am t.nodes.length cm)).setCell ⟨w.heap.size+1,1,none⟩ (.slice a9 t.items.length c9)).cell? ⟨w.heap.size+1,1,none⟩=some (.slice a9 t.items.length c9):=
    World.cell?_setCell_same _ _ _ ((World.cell?_setCell_other _ _ _ _ (by simp)).trans e3)
   refine bodyPost_ret (v:=.agg #[.slice am t.nodes.length cm,.slice a9 t.items.length c9]) (by simp[results,results15,go_sem,loadVar,c2,c3,Result.andThen]) rfl ⟨⟨am,cm,a9,c9⟩,w9.heap.size+1,ks,rfl,by omega,?_,?_,?_,?_⟩
   ·have:=HO.out
    rw[HTK.out]at this;exact(this.setCell (p:=⟨w.heap.size+1,0,none⟩) (by simp;omega) _).setCell (by simp;omega) _
   ·have hi:Ints wr a9 c9 t.items:=Row.mono HI9.out HBW.out nlr
    exact aA (aA hi _ fun _ x e=>by have:=HIA.out x e;simp only;omega) _ fun _ x e=>by have:=HIA.out x e;simp only;omega
   ·intro x e;have:=HIA.out x e;omega
   ·exact(HW.out.setCell (by simp) _).setCell (by simp) _
end
end Go.Proofs.YtipjhljnkocioaaGreatDoor
