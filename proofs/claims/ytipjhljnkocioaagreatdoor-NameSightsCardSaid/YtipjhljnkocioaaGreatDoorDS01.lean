/- Part of a proof. -/
import Derived.Test.YtipjhljnkocioaaGreatDoorC10
set_option maxRecDepth 100000
set_option maxHeartbeats 8000000
set_option linter.unusedVariables false
set_option linter.unusedSimpArgs false
open Go.Proofs.Tryz
namespace Go.Proofs.YtipjhljnkocioaaGreatDoor
section
open Go.RowKit
theorem OR{k:Nat}{w w':World}{b o n c:Nat}{xs:List Value}(h:Row k w (some ⟨b,o,none⟩) n c xs)(hb:w'.heap[b]?=w.heap[b]?)(hs:w.heap.size≤w'.heap.size):Row k w' (some ⟨b,o,none⟩) n c xs:=by
 obtain⟨h1,h2,h3,h4⟩:=h;refine⟨h1,h2,h3,?_⟩;rcases h4 with h4|⟨b',o',e,hlt,hc⟩
 ·exact .inl h4
 ·obtain⟨rfl,rfl⟩:b=b'∧o=o':=by simpa using e
  exact .inr ⟨b,o,rfl,Nat.lt_of_lt_of_le hlt hs,fun i hi=>(World.cell?_of_block (a:=⟨b,o+i,none⟩) hb).trans (hc i hi)⟩
theorem OU(v:TreeV)(t:Tr)(i:Nat)(w:World)(bd:Bd t)(hi:i<t.nodes.length)(h:IsTree w v t) :
 Calls prog 26 #[v.val t,intV i] w (zn w (aH t.nodes[i].kind)):=by
 obtain⟨b,o,ka,kc,ea,hb,c0,c1,c2,c3,c4,hkr⟩:=h.nodes.at hi;obtain⟨na,nc,ia,ic⟩:=v;simp only at ea;subst ea;have hn:=bd.n;clear hkr h bd;unfold TreeV.val;go_enter func26,ntmps26;go_wp2
 all_goals
  go_ret;refine⟨za ?_,brf.alloc nlr _⟩
  (try simp_all[aH])<;>(try omega)
theorem OQ(a:Option Addr)(c:Nat)(l:List Int)(node:Int)(w:World)(hm:l.length≤1000000)(h:Ints w a c l) :
 Calls prog 25 #[.agg #[.slice a l.length c],intV node] w (RetInts w (uses l node)):=by
 have HR:=Hd h;clear h;go_enter func25,ntmps25;go_wp2
 go_loopw [5,6] (fun t5 t6 wr=>∃(k:Nat) (a5:Option Addr) (c5:Nat),t6=.int .i64 k∧k≤l.length∧t5=.slice a5 (idxs (fun i=>l[i]?==some node) k).length c5 ∧
  Hid (OwnI wr (w.heap.size+1) a5 c5 (idxs (fun i=>l[i]?==some node) k))∧Hid (Below (w.heap.size+1) (boxN w a c l) wr)) (fun _ i _=>l.length-(intOf i).toNat)
 case atStart=>exact⟨0,_,_,rfl,Nat.zero_le _,rfl,Hd (fA (boxN w a c l) _ _ (by simp) nlr),Hd (brf.alloc (by simp) _)⟩
 case round=>
  obtain⟨k,a5,c5,rfl,hk,rfl,HO,HB⟩:=hrel;obtain⟨b0,hr1,⟨hs,hs',hs''⟩,hbw⟩:=LD HB.out HR.out;have HW:=Hd hbw;have HR1:=Hd hr1;clear hr1 hbw;by_cases hlt:k<l.length
  ·obtain⟨b,o,rfl,hb,hc⟩:=Ints.at HR1.out hlt
   by_cases he:l[k]=node
   ·have he':(l[k]==node)=true:=by simpa using he
    have HS:=Hd (kZ (p:=fun i=>l[i]?==some node) (k:=k) (by simp[hlt,he]));have hil:=aP (fun i=>l[i]?==some node) k;clear he
    go_wp2_with (at_builtin;refine zJ (news:=[(k:Int)]) rfl (.tmp 22) (.tmp 24) rfl rfl (HO.out.alloc _) rfl (zR _ _ _) (by omega) (by simp;omega) ?_;intro a' c' w' l' HL hle hown' hkeep)
    go_roundw
    case rel=>exact⟨k+1,a',c',by go_num,by omega,by rw[HS.out,←HL.out],by rw[HS.out,←HL.out];exact Hd hown',Hd (hkeep _ _ nlr (HB.out.alloc hs _))⟩
    case measure=>simp[intOf];omega
   ·have he':(l[k]==node)=false:=by simpa using he
    have HS:=Hd (iK (p:=fun i=>l[i]?==some node) (k:=k) (by simp[hlt,he]));clear he;go_wp2
    go_roundw
    case rel=>exact⟨k+1,a5,c5,by go_num,by omega,by rw[HS.out],by rw[HS.out];exact HO,HB⟩
    case measure=>simp[intOf];omega
  ·obtain rfl:k=l.length:=by omega
   go_wp2;go_ret;exact RetInts.mk HO.out (by simp) HW.out
def Ord(L:List Int)(i:Nat):Prop:=∀a b,a<b→b<i→L.getD a 0≤L.getD b 0
theorem Ord.pairwise{L:List Int}(h:Ord L L.length):L.Pairwise (· ≤ ·):=by
 rw[List.pairwise_iff_getElem];intro i j hi hj hij;have:=h i j hij hj;simpa[hi,hj]using this
def OT(L:List Int)(i k:Nat):List Int:=(L.set i (L.getD k 0)).set k (L.getD i 0)
theorem PO{L:List Int}{i k:Nat}(hi:i<L.length)(hk:k<L.length)(x:Nat):(OT L i k).getD x 0=if x=k then L.getD i 0 else if x=i then L.getD k 0 else L.getD x 0:=by
 simp only[OT,List.getD_eq_getElem?_getD,List.getElem?_set,List.length_set];by_cases h1:k=x
 ·subst h1;simp[hk,hi]
 ·rw[if_neg h1,if_neg (fun h:x=k=>h1 h.symm)]
  by_cases h2:i=x
  ·subst h2;simp[hi]
  ·rw[if_neg h2,if_neg (fun h:x=i=>h2 h.symm)]
theorem PP{L:List Int}{i k:Nat}(hi:i<L.length)(hk:k<L.length):(OT L i k).Perm L:=by
 have h:=(Array.swap_perm (xs:=L.toArray) (i:=i) (j:=k) (by simpa using hi) (by simpa using hk)).toList
 have e:(L.toArray.swap i k (by simpa using hi) (by simpa using hk)).toList=OT L i k:=by
  simp[OT,Array.swap,hi,hk]
 rw[e]at h;simpa using h
theorem QA{L:List Int}{i:Nat}(h:Ord L i)(h2:∀j,j<i→L.getD j 0≤L.getD i 0):Ord L (i+1):=by
 intro a b hab hb;by_cases e:b=i
 ·subst e;exact h2 a hab
 ·exact h a b hab (by omega)
theorem PM{L:List Int}{i k:Nat}(hi:i<L.length)(hk:k<i)(h:Ord L i)(h2:∀j,j<k→L.getD j 0≤L.getD i 0)(hlt:L.getD i 0<L.getD k 0) :
 Ord (OT L i k) i∧∀j,j<k+1→(OT L i k).getD j 0≤(OT L i k).getD i 0:=by
 have e:=PO hi (show k<L.length by omega);refine⟨fun a b hab hb=>?_,fun j hj=>?_⟩
 ·rw[e,e]
  by_cases h1:a=k
  ·subst h1
   rw[if_pos rfl,if_neg (by omega),if_neg (by omega)];have:=h a b hab hb;omega
  ·by_cases h3:b=k
   ·subst h3
    rw[if_neg h1,if_neg (by omega),if_pos rfl];exact h2 a hab
   ·rw[if_neg h1,if_neg (by omega),if_neg h3,if_neg (by omega)]
    exact h a b hab hb
 ·rw[e,e,if_neg (show i≠k by omega),if_pos rfl]
  by_cases h1:j=k
  ·subst h1;rw[if_pos rfl];omega
  ·rw[if_neg h1,if_neg (by omega)]
   exact h j k (by omega) hk
theorem PZ{L:List Int}{i k:Nat}(h2:∀j,j<k→L.getD j 0≤L.getD i 0)(hlt:¬L.getD i 0<L.getD k 0):∀j,j<k+1→L.getD j 0≤L.getD i 0:=by
 intro j hj;by_cases h1:j=k
 ·subst h1;omega
 ·exact h2 j (by omega)
theorem OV(a:Option Addr)(c:Nat)(l:List Int)(w:World)(hm:l.length≤4000000000000)(h:Ints w a c l) :
 Calls prog 68 #[.slice a l.length c] w (RetInts w (bM l)):=by
 have HR:=Hd h;clear h;go_enter func68,ntmps68
 go_wp2_with (at_builtin;refine zJ (l:=[]) (news:=l) rfl (.tmp 7) (.tmp 8) rfl rfl (fA w _ _ rfl nlr) rfl (Row.mono HR.out ((Below.refl _ w).alloc nlr _) nlr) (by simp;omega) (by simp) ?_;intro a9 c9 w9 l9 HL9 hle9 hown9 hkeep9)
 have hl9:l9=l:=by simpa using HL9.out
 subst hl9;have HO9:=Hd hown9;have HB9:=Hd (hkeep9 _ _ nlr ((Below.refl _ w).alloc nlr _));clear hown9 hkeep9 HL9 hle9
 go_loopw [4] (fun t4 wr=>∃(i:Nat) (L:List Int),t4=.int .i64 i∧i≤l9.length∧Hid (L.Perm l9)∧Hid (Ord L i)∧Hid (wr.ownsRow w.heap.size 3 1 (.slice a9 l9.length c9) l9.length (zo L))∧Hid (Below w.heap.size w wr)) (fun i _=>l9.length-(intOf i).toNat)
 case atStart=>exact⟨0,l9,rfl,Nat.zero_le _,Hd (List.Perm.refl _),Hd (fun a b _ h=>by omega),HO9,HB9⟩
 case round=>
  obtain⟨i,L,rfl,hi,HP,HS,HO,HB⟩:=hrel;by_cases hlt:i<l9.length
  ·have HI:=Hd hlt
   go_wp2
   go_loopw [5] (fun t5 wr=>∃(k:Nat) (L:List Int),t5=.int .i64 k∧k≤i∧Hid (L.Perm l9)∧Hid (Ord L i)∧Hid (∀j,j<k→L.getD j 0≤L.getD i 0)∧Hid (wr.ownsRow w.heap.size 3 1 (.slice a9 l9.length c9) l9.length (zo L))∧Hid (Below w.heap.size w wr)) (fun k _=>i-(intOf k).toNat)
   case atStart=>exact⟨0,L,rfl,Nat.zero_le _,HP,HS,Hd (fun j h=>by omega),HO,HB⟩
   case round=>
    obtain⟨k,L,rfl,hk,HP,HS,HK,HO,HB⟩:=hrel;by_cases hlt2:k<i
    ·obtain⟨g,rfl,hg1,hg2,hLl,hcell,hfr⟩:=bK HO.out (by omega)
     have HLL:=Hd hLl;have ci:=hcell i (by omega);have ck:=hcell k (by omega);have fi:=hfr i;have fk:=hfr k;have hne:¬i=k:=by omega
     have hne2:¬k=i:=by omega
     clear hLl hcell hfr;obtain⟨x,hx⟩:∃x,x=L.getD i 0:=⟨_,rfl⟩
     obtain⟨y,hy⟩:∃y,y=L.getD k 0:=⟨_,rfl⟩
     rw[←hx]at ci;rw[←hy]at ck;have HX:=Hd hx;have HY:=Hd hy;clear hx hy;by_cases hc:x<y
     ·have HC:=Hd hc
      go_wp2
      go_quiet (fail)
      go_wp2;have hsw:OT L i k=(L.set i y).set k x:=by rw[HX.out,HY.out];rfl
      go_roundw
      case rel=>
       refine⟨k+1,OT L i k,by go_num,by omega,Hd ((PP (by have:=HLL.out;omega) (by have:=HLL.out;omega)).trans HP.out),Hd (PM (by have:=HLL.out;omega) hlt2 HS.out HK.out (by rw[←HX.out,←HY.out];exact HC.out)).1,
        Hd (PM (by have:=HLL.out;omega) hlt2 HS.out HK.out (by rw[←HX.out,←HY.out];exact HC.out)).2,Hd ?_,Hd ?_⟩
       ·rw[hsw]
        exact fB (fB (zg HO.out (below_drewN brf _)) i y) k x
       ·exact((below_drewN HB.out _).setCell (by simpa using hg1) _).setCell (by simpa using hg1) _
      case measure=>simp[intOf];omega
     ·have HC:=Hd hc
      go_wp2
      go_quiet (fail)
      go_wp2
      go_roundw
      case rel=>exact⟨k+1,L,by go_num,by omega,HP,HS,Hd (PZ HK.out (by rw[←HX.out,←HY.out];have:=HC.out;omega)),Hd (zg HO.out (below_drewN brf _)),Hd (below_drewN HB.out _)⟩
      case measure=>simp[intOf];omega
    ·obtain rfl:k=i:=by omega
     go_wp2
     go_roundw
     case rel=>exact⟨k+1,L,by go_num,by omega,HP,Hd (QA HS.out HK.out),HO,HB⟩
     case measure=>simp[intOf];omega
  ·obtain rfl:i=l9.length:=by omega
   go_wp2;go_ret;have hL:L.length=l9.length:=HP.out.length_eq;have hs:=HS.out;rw[←hL]at hs;have e:=cC HP.out (Ord.pairwise hs);have ho:=HO.out;rw[e]at ho;exact⟨a9,c9,by simp[dC],by rw[dC];exact ho,HB.out⟩
def visible(t:Tr)(node:Int):List Int:=bM ((sight t node).filter fun d=>nearest t node (t.nd d).text==d&&suits 3 (t.nd d).kind)
theorem PN{p:Int→Bool}{l:List Int}{k:Nat}(h:k<l.length)(hp:p l[k]=true):(l.take (k+1)).filter p=(l.take k).filter p++[l[k]]:=by rw[iS p h,if_pos hp]
theorem PF{p:Int→Bool}{l:List Int}{k:Nat}(h:k<l.length)(hp:p l[k]=false):(l.take (k+1)).filter p=(l.take k).filter p:=by rw[iS p h,if_neg (by rw[hp];exact Bool.false_ne_true),List.append_nil]
theorem OS(v:TreeV)(t:Tr)(node:Nat)(w:World)(wf:WF t)(hn:node<t.nodes.length)(h:IsTree w v t) :
 Calls prog 27 #[v.val t,intV node] w (RetInts w (visible t node)):=by
 have hmo:prog.follows .mixedOrders=true:=by kernel_rfl
 have HT:=Hd h;have WFH:=Hd wf;have hn3:=wf.bd.n;have hsl:=iT wf hn;clear h wf;unfold TreeV.val;obtain⟨L,hL⟩:∃L,L=sight t node:=⟨_,rfl⟩
 rw[←hL]at hsl;have HL:=Hd hL;clear hL;go_enter func27,ntmps27
 go_wp2_with (go_at_call 65;refine(qX v t node _ WFH.out hn (HT.out.mono (((Below.refl _ w).alloc nlr _).alloc (by simp) _) nlr)).mono ?_;rw[←HL.out];rintro e w' ⟨a1,c1,rfl,hown,hb'⟩)
 have HROW:=Hd (zq hown);have hb1:Below (w.heap.size+1) (boxT w v t) w':=(brf.alloc (by simp) _).trans (hb'.mono (by simp));have HB':=Hd hb1;have HO':=Hd (zg (fA (boxT w v t) 3 1 (n:=w.heap.size+1) (by simp) nlr) hb');have hsw':=hb'.size
 have hap:∀p,a1=some p→w.heap.size+1<p.block:=by
  rintro p rfl;have:=(hown.lt p.block rfl).1;simp only[World.size_alloc]at this;omega
 have HAP:=Hd hap;simp only[World.size_alloc]at hsw';clear hown hb' hb1 hap
 go_loopw [5,7] (fun t5 t7 wr=>∃(k:Nat) (a5:Option Addr) (c5:Nat) (q:List Int),t7=.int .i64 k∧k≤L.length∧t5=.slice a5 q.length c5∧q.length≤k ∧
  Hid (q=(L.take k).filter fun d=>nearest t node (t.nd d).text==d&&suits 3 (t.nd d).kind)∧Hid (OwnI wr (w.heap.size+1) a5 c5 q)∧Hid (Row 1 wr a1 L.length c1 (zo L))∧Hid (∀p,a1=some p→iE a5 p.block)∧Hid (Below (w.heap.size+1) (boxT w v t) wr)) (fun _ i _=>L.length-(intOf i).toNat)
 case atStart=>exact⟨0,_,_,[],rfl,Nat.zero_le _,rfl,by simp,Hd rfl,HO',HROW,Hd (fun p hp r hr h=>by have:=HAP.out p hp;simp at hr;subst hr;simp at h;omega),HB'⟩
 case round=>
  obtain⟨k,a5,c5,q,rfl,hk,rfl,hq,HQ,HO,HR,HN,HB⟩:=hrel;obtain⟨b0,b1,-,⟨hs,hs1,hs2⟩,hbw⟩:=boxed HB.out HT.out;obtain⟨hcw,hfw⟩:=bcell hbw;by_cases hlt:k<L.length
  ·obtain⟨bl,ol,rfl,hbl,hcl⟩:=Ints.at HR.out hlt
   obtain⟨hd1,hd2⟩:=gC WFH.out (x:=L[k]) (by rw[←HL.out];exact List.getElem_mem hlt);obtain⟨d,hd⟩:=Int.eq_ofNat_of_zero_le hd1;have hd3:d<t.nodes.length:=by omega
   obtain⟨b,o,ka,kc,ea,hb,c0,c1,c2,c3,c4,hkr⟩:=HT.out.nodes.at hd3;obtain⟨na,nc,ia,ic⟩:=v;simp only at ea b0 b1;subst ea;have HND:=Hd (t.nd_at hd3);have HD:=Hd hd;rw[hd]at hcl;have hb1':b<wr.heap.size:=by omega
   have HBW:=Hd hbw
   have hN:∀W,Below wr.heap.size wr W→Calls prog 66 #[.agg #[.slice (some ⟨b,o,none⟩) t.nodes.length nc,.slice ia t.items.length ic],intV node,strV t.nodes[d].text] W (cW W (nearest t node t.nodes[d].text)):=fun W hJ=>
    mR ⟨some ⟨b,o,none⟩,nc,ia,ic⟩ t node _ W WFH.out hn (HT.out.mono (HBW.out.trans (hJ.mono hs2)) nlr)
   have HNC:=Hd hN;have hS:∀W',Calls prog 67 #[.int .u8 3,.int .u8 t.nodes[d].kind] W' fun e w'=>e=.returned (.bool (suits 3 t.nodes[d].kind))∧W'=w':=fun W'=>qY _ _ W';have HS:=Hd hS;have HNA:=Hd (HN.out _ rfl);clear hkr hN hS hd hbw;cases hne:nearest t node t.nodes[d].text==(d:Int)with
   | false=>
     have HX:=Hd (PF (p:=fun d=>nearest t node (t.nd d).text==d&&suits 3 (t.nd d).kind) hlt (by rw[HD.out,HND.out,hne];rfl));go_wp2;refine N.region_JTm 28 hmo (by kernel_rfl) (by kernel_rfl) rfl (by kernel_rfl) (by kernel_rfl) (fun Wz=>Below (wr).heap.size (wr) Wz) (brf.drew) ?_
     iterate 11 (refine N.WalkT.cons ?_ (N.StepP.pure rfl ?_) ?_;rotate_left;(intro W hJ;obtain⟨hcJ,hfJ⟩:=bcell hJ;go_simp;rfl);simp only[N.pz])
     refine N.WalkT.cons (intV (nearest t node t.nodes[d].text)) (N.StepP.call (f:=66) (args:=#[.agg #[.slice (some ⟨b,o,none⟩) t.nodes.length nc,.slice ia t.items.length ic],intV node,strV t.nodes[d].text]) rfl ?hG1_11 ?cG1_11) ?rG1_11;case hG1_11=>intro W hJ;obtain⟨hcJ,hfJ⟩:=bcell hJ;go_simp;try rfl
     case cG1_11=>intro W hJ;(refine(HNC.out W hJ).mono ?_;rintro e w2 ⟨rfl,hb2⟩;exact⟨rfl,hJ.trans (hb2.mono hJ.size)⟩)
     simp only[N.pz]
     iterate 16 ((first|(refine N.WalkT.cons undef (N.StepP.skip rfl) ?_)|(refine N.WalkT.cons ?_ (N.StepP.pure rfl ?_) ?_;rotate_left;(intro W hJ;obtain⟨hcJ,hfJ⟩:=bcell hJ;go_simp;rfl)));simp only[N.pz])
     refine N.WalkT.nil fun W hJ=>?_;go_wp2
     go_roundw
     case rel=>exact⟨k+1,a5,c5,q,by go_num,by omega,rfl,by omega,Hd (by rw[HX.out];exact HQ.out),Hd (zg HO.out hJ),Hd (HR.out.mono hJ nlr),HN,Hd (HB.out.trans (hJ.mono hs))⟩
     case measure=>simp[intOf];omega
   | true=>
     cases hsu:suits 3 t.nodes[d].kind with
     | false=>
       have HX:=Hd (PF (p:=fun d=>nearest t node (t.nd d).text==d&&suits 3 (t.nd d).kind) hlt (by rw[HD.out,HND.out,hne,hsu];rfl));have HSU:=Hd hsu;clear hsu;go_wp2;refine N.region_JTm 28 hmo (by kernel_rfl) (by kernel_rfl) rfl (by kernel_rfl) (by kernel_rfl) (fun Wz=>Below (wr).heap.size (wr) Wz) (brf.drew) ?_
       iterate 11 (refine N.WalkT.cons ?_ (N.StepP.pure rfl ?_) ?_;rotate_left;(intro W hJ;obtain⟨hcJ,hfJ⟩:=bcell hJ;go_simp;rfl);simp only[N.pz])
       refine N.WalkT.cons (intV (nearest t node t.nodes[d].text)) (N.StepP.call (f:=66) (args:=#[.agg #[.slice (some ⟨b,o,none⟩) t.nodes.length nc,.slice ia t.items.length ic],intV node,strV t.nodes[d].text]) rfl ?hG2_11 ?cG2_11) ?rG2_11;case hG2_11=>intro W hJ;obtain⟨hcJ,hfJ⟩:=bcell hJ;go_simp;try rfl
       case cG2_11=>intro W hJ;(refine(HNC.out W hJ).mono ?_;rintro e w2 ⟨rfl,hb2⟩;exact⟨rfl,hJ.trans (hb2.mono hJ.size)⟩)
       simp only[N.pz]
       iterate 15 (refine N.WalkT.cons ?_ (N.StepP.pure rfl ?_) ?_;rotate_left;(intro W hJ;obtain⟨hcJ,hfJ⟩:=bcell hJ;go_simp;rfl);simp only[N.pz])
       refine N.WalkT.cons (.bool false) (N.StepP.call (f:=67) (args:=#[.int .u8 3,.int .u8 t.nodes[d].kind]) rfl ?hG2_27 ?cG2_27) ?rG2_27;case hG2_27=>intro W hJ;obtain⟨hcJ,hfJ⟩:=bcell hJ;go_simp;try rfl
       case cG2_27=>intro W hJ;(refine(HS.out _).mono ?_;rw[HSU.out];rintro e w2 ⟨rfl,rfl⟩;exact⟨rfl,hJ⟩)
       simp only[N.pz];refine N.WalkT.nil fun W hJ=>?_;go_wp2
       go_roundw
       case rel=>exact⟨k+1,a5,c5,q,by go_num,by omega,rfl,by omega,Hd (by rw[HX.out];exact HQ.out),Hd (zg HO.out hJ),Hd (HR.out.mono hJ nlr),HN,Hd (HB.out.trans (hJ.mono hs))⟩
       case measure=>simp[intOf];omega
     | true=>
       have HX:=Hd (PN (p:=fun d=>nearest t node (t.nd d).text==d&&suits 3 (t.nd d).kind) hlt (by rw[HD.out,HND.out,hne,hsu];rfl));have HSU:=Hd hsu;clear hsu;go_wp2;refine N.region_JTm 28 hmo (by kernel_rfl) (by kernel_rfl) rfl (by kernel_rfl) (by kernel_rfl) (fun Wz=>Below (wr).heap.size (wr) Wz) (brf.drew) ?_
       iterate 11 (refine N.WalkT.cons ?_ (N.StepP.pure rfl ?_) ?_;rotate_left;(intro W hJ;obtain⟨hcJ,hfJ⟩:=bcell hJ;go_simp;rfl);simp only[N.pz])
       refine N.WalkT.cons (intV (nearest t node t.nodes[d].text)) (N.StepP.call (f:=66) (args:=#[.agg #[.slice (some ⟨b,o,none⟩) t.nodes.length nc,.slice ia t.items.length ic],intV node,strV t.nodes[d].text]) rfl ?hG3_11 ?cG3_11) ?rG3_11;case hG3_11=>intro W hJ;obtain⟨hcJ,hfJ⟩:=bcell hJ;go_simp;try rfl
       case cG3_11=>intro W hJ;(refine(HNC.out W hJ).mono ?_;rintro e w2 ⟨rfl,hb2⟩;exact⟨rfl,hJ.trans (hb2.mono hJ.size)⟩)
       simp only[N.pz]
       iterate 15 (refine N.WalkT.cons ?_ (N.StepP.pure rfl ?_) ?_;rotate_left;(intro W hJ;obtain⟨hcJ,hfJ⟩:=bcell hJ;go_simp;rfl);simp only[N.pz])
       refine N.WalkT.cons (.bool true) (N.StepP.call (f:=67) (args:=#[.int .u8 3,.int .u8 t.nodes[d].kind]) rfl ?hG3_27 ?cG3_27) ?rG3_27;case hG3_27=>intro W hJ;obtain⟨hcJ,hfJ⟩:=bcell hJ;go_simp;try rfl
       case cG3_27=>intro W hJ;(refine(HS.out _).mono ?_;rw[HSU.out];rintro e w2 ⟨rfl,rfl⟩;exact⟨rfl,hJ⟩)
       simp only[N.pz];refine N.WalkT.nil fun W hJ=>?_;have hcl2:W.cell? ⟨bl,ol+k,none⟩=some (intV d):=(hJ.cell (p:=⟨bl,ol+k,none⟩) hbl).trans hcl;have hjs:=hJ.size
       go_wp2_with (at_builtin;refine zN (news:=[(d:Int)]) rfl (.tmp 47) (.tmp 52) rfl rfl ((zg HO.out hJ).alloc _) rfl (zR _ _ _) (by omega) (by simp;omega) ?_;intro a9 c9 w9 l9 HL9 hle9 hown9 hkeep9 hap9)
       have hs9:=(hkeep9 _ _ nlr brf).size;simp only[World.size_alloc]at hs9;obtain⟨hh9,hn9⟩:=hap9 bl (by simp;omega) HNA.out
       go_roundw
       case rel=>
        refine⟨k+1,a9,c9,l9,by go_num,by omega,rfl,by omega,Hd (by rw[HX.out,←HQ.out,←HD.out]at *;exact HL9.out),Hd hown9,Hd ?_,Hd ?_,Hd (hkeep9 _ _ nlr ((HB.out.trans (hJ.mono hs)).alloc (by omega) _))⟩
        ·exact OR (OR (HR.out.mono hJ nlr) (w':=W.alloc _) (by rw[heap_alloc_old];omega) (by simp)) hh9 (by first|(simp;omega)|omega)
        ·rintro p hp
         obtain rfl:=Option.some.inj hp;exact hn9
       case measure=>simp[intOf];omega
  ·obtain rfl:k=L.length:=by omega
   go_wp2_with (go_at_call 68;refine(OV _ _ q _ (by omega) (zq HO.out)).mono ?_;rintro e w9 ⟨a9,c9,rfl,hown9,hb9⟩)
   go_ret;have hv:visible t node=bM q:=by rw[visible,←HL.out,HQ.out,List.take_length]
   rw[hv];exact RetInts.mk hown9 (by omega) (hbw.trans (hb9.mono (by omega)))
def OW(t:Tr)(l:List Int)(node:Int)(d:Nat):Bool:=!inside t d node&&(uses l d).any fun u=>inside t u node
def free(t:Tr)(l:List Int)(node:Int):List Int:=idxs (OW t l node) t.nodes.length
def inn(p:Nat→Bool)(k:Nat)(b:Bool):List Int:=idxs p k++if b then [(k:Int)]else []
theorem PV(p:Nat→Bool)(k:Nat)(b:Bool):hasI (inn p k b) k=b:=by
 have h:∀l:List Int,hasI l k=l.contains (k:Int):=fun l=>by simp[hasI]
 rw[h]
 cases b with
 |true=>simp[inn]
 | false=>
   simp only[inn,Bool.false_eq_true,if_false,List.append_nil];rw[←Bool.not_eq_true,List.contains_iff_mem];intro hm;have:=(sF hm).2;omega
theorem PX{p:Nat→Bool}{k:Nat}{b:Bool}(h:p k=b):inn p k b=idxs p (k+1):=by
 cases b with
 |true=>rw[kZ h];rfl
 |false=>rw[iK h];simp[inn]
theorem PT{l:List Int}{p:Int→Bool}{i:Nat}(h:i<l.length):(l.take (i+1)).any p=((l.take i).any p||p l[i]):=by
 rw[List.take_add_one,List.any_append];simp[h]
theorem PD(v:TreeV)(t:Tr)(a:Option Addr)(c:Nat)(l:List Int)(node:Int)(w:World)(bd:Bd t)(hl:l.length=t.nodes.length)(h:IsTree w v t)(h2:Ints w a c l) :
 Calls prog 28 #[v.val t,.agg #[.slice a l.length c],intV node] w (RetInts w (free t l node)):=by
 have hmo:prog.follows .mixedOrders=true:=by kernel_rfl
 have HT:=Hd h;have HL:=Hd h2;have BD:=Hd bd;have hn3:=bd.n;have HLL:=Hd hl;have hll:l.length≤1000000:=by omega
 clear h bd h2 hl;obtain⟨na,nc,ia,ic⟩:=v;unfold TreeV.val;go_enter func28,ntmps28;go_wp2
 go_loopw [7,8] (fun t7 t8 wr=>∃(k:Nat) (a5:Option Addr) (c5:Nat) (q:List Int),t8=.int .i64 k∧k≤t.nodes.length∧t7=.slice a5 q.length c5∧q.length≤k ∧
  Hid (q=idxs (OW t l node) k)∧Hid (OwnI wr (w.heap.size+1+1) a5 c5 q)∧Hid (Below (w.heap.size+1+1) (boxN (boxT w ⟨na,nc,ia,ic⟩ t) a c l) wr)) (fun _ i _=>t.nodes.length-(intOf i).toNat)
 case atStart=>exact⟨0,_,_,[],rfl,Nat.zero_le _,rfl,by simp,Hd rfl,Hd (fA (boxN (boxT w ⟨na,nc,ia,ic⟩ t) a c l) _ _ (by simp) nlr),Hd (brf.alloc (by simp) _)⟩
 case round=>
  obtain⟨k,a5,c5,q,rfl,hk,rfl,hq,HQ,HO,HB⟩:=hrel;obtain⟨b0,b1,b2,-,-,⟨hs,hs1,hs2,hs3⟩,hbw⟩:=cQ HB.out HT.out HL.out;obtain⟨hcw,hfw⟩:=bcell hbw;have HBW:=Hd hbw
  have hI:∀(x:Int) W,-1≤x→x<t.nodes.length→Below w.heap.size w W→Calls prog 69 #[.agg #[.slice na t.nodes.length nc,.slice ia t.items.length ic],intV x,intV node] W (zn W (inside t x node)):=fun x W h1 h2 hJ=>
   eS ⟨na,nc,ia,ic⟩ t x node W BD.out h1 h2 (HT.out.mono hJ nlr)
  have HI:=Hd hI;clear hI;by_cases hlt:k<t.nodes.length
  ·have HLT:=Hd hlt
   cases hin:inside t k node with
   | true=>
     have HX:=Hd (iK (p:=OW t l node) (k:=k) (by simp[OW,hin]));have HIN:=Hd hin;clear hin
     go_wp2_with (go_at_call 69;refine(HI.out k _ (by omega) (by omega) HBW.out).mono ?_;rw[HIN.out];rintro e w' ⟨rfl,hb'⟩)
     go_roundw
     case rel=>exact⟨k+1,a5,c5,q,by go_num,by omega,rfl,by omega,Hd (by rw[HX.out];exact HQ.out),Hd (zg HO.out hb'),Hd (HB.out.trans (hb'.mono hs))⟩
     case measure=>simp[intOf];omega
   | false=>
     have HIN:=Hd hin;have HP:=Hd (show OW t l node k=(uses l k).any (fun u=>inside t u node) by simp[OW,hin]);clear hin;obtain⟨U,hU⟩:∃U,U=uses l k:=⟨_,rfl⟩
     have hul:U.length≤l.length:=by rw[hU];exact qA l k
     have HU:=Hd hU;clear hU
     go_wp2_with (first
      | (go_at_call 69;refine(HI.out k _ (by omega) (by omega) HBW.out).mono ?_;rw[HIN.out];rintro e w' ⟨rfl,hb'⟩;obtain⟨b90,b91,b92,-,HLN,⟨hs90,hs91,hs92,hs93⟩,hbw9⟩:=cQ (v:=⟨na,nc,ia,ic⟩) (HB.out.trans (hb'.mono hs)) HT.out HL.out;obtain⟨hcw9,hfw9⟩:=bcell hbw9)
      | (go_at_call 25;refine(OQ a c l k _ hll HLN).mono ?_;rw[←HU.out];rintro e w2 ⟨a7,c7,rfl,hown7,hb2⟩))
     have hown7':=zq hown7;have HROW:=Hd hown7';have hO7:=zg HO.out hb'
     have hap:∀p,a7=some p→iE a5 p.block:=by
      rintro p rfl r rfl hr;have h1:=(hown7.lt p.block rfl).1;have h2:=(hO7.lt r.block rfl).2;omega
     have HAP:=Hd hap;have HB2:=Hd ((HB.out.trans (hb'.mono hs)).trans (hb2.mono hs90));have HO2:=Hd (zg hO7 hb2);clear hown7 hown7' hO7 hap
     go_loopw [7,10] (fun t7 t10 wx=>∃(i:Nat) (a6:Option Addr) (c6:Nat) (q':List Int),t10=.int .i64 i∧i≤U.length∧t7=.slice a6 q'.length c6∧q'.length≤k+1 ∧
      Hid (q'=inn (OW t l node) k ((U.take i).any fun u=>inside t u node))∧Hid (OwnI wx (w.heap.size+1+1) a6 c6 q')∧Hid (Row 1 wx a7 U.length c7 (zo U))∧Hid (∀p,a7=some p→iE a6 p.block)∧Hid (Below (w.heap.size+1+1) (boxN (boxT w ⟨na,nc,ia,ic⟩ t) a c l) wx)) (fun _ i _=>U.length-(intOf i).toNat)
     case atStart=>exact⟨0,a5,c5,q,rfl,Nat.zero_le _,rfl,by omega,Hd (by rw[HQ.out];simp[inn]),HO2,HROW,HAP,HB2⟩
     case round=>
      obtain⟨i,a6,c6,q',rfl,hi,rfl,hq',HQ',HO',HR,HN,HB'⟩:=hrel;obtain⟨d0,d1,d2,-,-,⟨ht,ht1,ht2,ht3⟩,hbx⟩:=cQ (v:=⟨na,nc,ia,ic⟩) HB'.out HT.out HL.out;have HBX:=Hd hbx;by_cases hlt2:i<U.length
      ·obtain⟨bl,ol,rfl,hbl,hcl⟩:=Ints.at HR.out hlt2
       obtain⟨x,hx⟩:∃x,x=U[i]:=⟨_,rfl⟩
       rw[←hx]at hcl;have hxm:x∈uses l k:=by rw[←HU.out,hx];exact List.getElem_mem hlt2
       obtain⟨hx1,hx2⟩:=sF hxm;have hx3:x<t.nodes.length:=by have:=HLL.out;omega
       have HNA:=Hd (HN.out _ rfl);have HANY:=Hd (PT (p:=fun u=>inside t u node) hlt2);rw[←hx]at HANY;have HHI:=Hd (PV (OW t l node) k ((U.take i).any fun u=>inside t u node));rw[←HQ'.out]at HHI;clear hx hxm hbx
       cases hix:inside t x node with
       | false=>
         have HIX:=Hd hix;clear hix;go_wp2;refine N.region_JTm 12 hmo (by kernel_rfl) (by kernel_rfl) rfl (by kernel_rfl) (by kernel_rfl) (fun Wz=>Below (wr).heap.size (wr) Wz) (brf.drew) ?_
         iterate 6 (refine N.WalkT.cons ?_ (N.StepP.pure rfl ?_) ?_;rotate_left;(intro W hJ;obtain⟨hcJ,hfJ⟩:=bcell hJ;go_simp;rfl);simp only[N.pz])
         refine N.WalkT.cons (.bool false) (N.StepP.call (f:=69) (args:=#[.agg #[.slice na t.nodes.length nc,.slice ia t.items.length ic],intV x,intV node]) rfl ?hG1_6 ?cG1_6) ?rG1_6;case hG1_6=>intro W hJ;obtain⟨hcJ,hfJ⟩:=bcell hJ;go_simp;try rfl
         case cG1_6=>intro W hJ;(refine(HI.out x W (by omega) (by omega) (HBX.out.trans (hJ.mono ht2))).mono ?_;rw[HIX.out];rintro e w4 ⟨rfl,hb4⟩;exact⟨rfl,hJ.trans (hb4.mono hJ.size)⟩)
         simp only[N.pz]
         iterate 5 ((first|(refine N.WalkT.cons undef (N.StepP.skip rfl) ?_)|(refine N.WalkT.cons ?_ (N.StepP.pure rfl ?_) ?_;rotate_left;(intro W hJ;obtain⟨hcJ,hfJ⟩:=bcell hJ;go_simp;rfl)));simp only[N.pz])
         refine N.WalkT.nil fun W hJ=>?_;go_wp2
         go_roundw
         case rel=>exact⟨i+1,a6,c6,q',by go_num,by omega,rfl,by omega,Hd (by rw[HANY.out,HIX.out,Bool.or_false];exact HQ'.out),Hd (zg HO'.out hJ),Hd (HR.out.mono hJ nlr),HN,Hd (HB'.out.trans (hJ.mono ht))⟩
         case measure=>simp[intOf];omega
       | true=>
         have HIX:=Hd hix;clear hix
         cases hha:hasI q' k with
         | true=>
           have HHA:=Hd hha;clear hha;go_wp2;refine N.region_JTm 12 hmo (by kernel_rfl) (by kernel_rfl) rfl (by kernel_rfl) (by kernel_rfl) (fun Wz=>Below (wr).heap.size (wr) Wz) (brf.drew) ?_
           iterate 6 (refine N.WalkT.cons ?_ (N.StepP.pure rfl ?_) ?_;rotate_left;(intro W hJ;obtain⟨hcJ,hfJ⟩:=bcell hJ;go_simp;rfl);simp only[N.pz])
           refine N.WalkT.cons (.bool true) (N.StepP.call (f:=69) (args:=#[.agg #[.slice na t.nodes.length nc,.slice ia t.items.length ic],intV x,intV node]) rfl ?hG2_6 ?cG2_6) ?rG2_6;case hG2_6=>intro W hJ;obtain⟨hcJ,hfJ⟩:=bcell hJ;go_simp;try rfl
           case cG2_6=>intro W hJ;(refine(HI.out x W (by omega) (by omega) (HBX.out.trans (hJ.mono ht2))).mono ?_;rw[HIX.out];rintro e w4 ⟨rfl,hb4⟩;exact⟨rfl,hJ.trans (hb4.mono hJ.size)⟩)
           simp only[N.pz]
           iterate 3 (refine N.WalkT.cons ?_ (N.StepP.pure rfl ?_) ?_;rotate_left;(intro W hJ;obtain⟨hcJ,hfJ⟩:=bcell hJ;go_simp;rfl);simp only[N.pz])
           refine N.WalkT.cons (.bool true) (N.StepP.call (f:=70) (args:=#[.slice a6 q'.length c6,intV k]) rfl ?hG2_10 ?cG2_10) ?rG2_10;case hG2_10=>intro W hJ;obtain⟨hcJ,hfJ⟩:=bcell hJ;go_simp;try rfl
           case cG2_10=>intro W hJ;(refine(dP a6 c6 q' k W (by omega) (zq (zg HO'.out hJ))).mono ?_;rw[HHA.out];rintro e w4 ⟨rfl,rfl⟩;exact⟨rfl,hJ⟩)
           simp only[N.pz];refine N.WalkT.cons ?_ (N.StepP.pure rfl ?_) ?_;rotate_left;(intro W hJ;obtain⟨hcJ,hfJ⟩:=bcell hJ;go_simp;rfl);simp only[N.pz];refine N.WalkT.nil fun W hJ=>?_;go_wp2
           go_roundw
           case rel=>exact⟨i+1,a6,c6,q',by go_num,by omega,rfl,by omega,Hd (by rw[HANY.out,HIX.out,Bool.or_true,HQ'.out,←HHI.out,HHA.out]),Hd (zg HO'.out hJ),Hd (HR.out.mono hJ nlr),HN,Hd (HB'.out.trans (hJ.mono ht))⟩
           case measure=>simp[intOf];omega
         | false=>
           have HHA:=Hd hha;clear hha;go_wp2;refine N.region_JTm 12 hmo (by kernel_rfl) (by kernel_rfl) rfl (by kernel_rfl) (by kernel_rfl) (fun Wz=>Below (wr).heap.size (wr) Wz) (brf.drew) ?_
           iterate 6 (refine N.WalkT.cons ?_ (N.StepP.pure rfl ?_) ?_;rotate_left;(intro W hJ;obtain⟨hcJ,hfJ⟩:=bcell hJ;go_simp;rfl);simp only[N.pz])
           refine N.WalkT.cons (.bool true) (N.StepP.call (f:=69) (args:=#[.agg #[.slice na t.nodes.length nc,.slice ia t.items.length ic],intV x,intV node]) rfl ?hG3_6 ?cG3_6) ?rG3_6;case hG3_6=>intro W hJ;obtain⟨hcJ,hfJ⟩:=bcell hJ;go_simp;try rfl
           case cG3_6=>intro W hJ;(refine(HI.out x W (by omega) (by omega) (HBX.out.trans (hJ.mono ht2))).mono ?_;rw[HIX.out];rintro e w4 ⟨rfl,hb4⟩;exact⟨rfl,hJ.trans (hb4.mono hJ.size)⟩)
           simp only[N.pz]
           iterate 3 (refine N.WalkT.cons ?_ (N.StepP.pure rfl ?_) ?_;rotate_left;(intro W hJ;obtain⟨hcJ,hfJ⟩:=bcell hJ;go_simp;rfl);simp only[N.pz])
           refine N.WalkT.cons (.bool false) (N.StepP.call (f:=70) (args:=#[.slice a6 q'.length c6,intV k]) rfl ?hG3_10 ?cG3_10) ?rG3_10;case hG3_10=>intro W hJ;obtain⟨hcJ,hfJ⟩:=bcell hJ;go_simp;try rfl
           case cG3_10=>intro W hJ;(refine(dP a6 c6 q' k W (by omega) (zq (zg HO'.out hJ))).mono ?_;rw[HHA.out];rintro e w4 ⟨rfl,rfl⟩;exact⟨rfl,hJ⟩)
           simp only[N.pz];refine N.WalkT.cons ?_ (N.StepP.pure rfl ?_) ?_;rotate_left;(intro W hJ;obtain⟨hcJ,hfJ⟩:=bcell hJ;go_simp;rfl);simp only[N.pz];refine N.WalkT.nil fun W hJ=>?_;have hjs:=hJ.size
           have HLEN:=Hd (show q'.length≤k by
            have h1:=HQ'.out;have h2:=HHI.out;rw[HHA.out]at h2;rw[←h2]at h1;rw[h1]
            simpa[inn]using aP (OW t l node) k)
           go_wp2_with (at_builtin;refine zN (news:=[(k:Int)]) rfl (.tmp 45) (.tmp 47) rfl rfl ((zg HO'.out hJ).alloc _) rfl (zR _ _ _) (by omega) (by simp;omega) ?_;intro a9 c9 w9 l9 HL9 hle9 hown9 hkeep9 hap9)
           have hs9:=(hkeep9 _ _ nlr brf).size;simp only[World.size_alloc]at hs9;obtain⟨hh9,hn9⟩:=hap9 bl (by simp;omega) HNA.out
           go_roundw
           case rel=>
            refine⟨i+1,a9,c9,l9,by go_num,by omega,rfl,by have:=HLEN.out;omega,Hd ?_,Hd hown9,Hd ?_,Hd ?_,Hd (hkeep9 _ _ nlr ((HB'.out.trans (hJ.mono ht)).alloc (by omega) _))⟩
            ·have h2:=HHI.out
             rw[HHA.out]at h2;rw[HL9.out,HQ'.out,HANY.out,HIX.out,Bool.or_true,←h2];simp[inn]
            ·exact OR (OR (HR.out.mono hJ nlr) (w':=W.alloc _) (by rw[heap_alloc_old];omega) (by simp)) hh9 (by first|(simp;omega)|omega)
            ·rintro p hp
             obtain rfl:=Option.some.inj hp;exact hn9
           case measure=>simp[intOf];omega
      ·obtain rfl:i=U.length:=by omega
       go_wp2
       go_roundw
       case rel=>exact⟨k+1,a6,c6,q',by go_num,by omega,rfl,by omega,Hd (by rw[HQ'.out,List.take_length];exact PX (by rw[HP.out,←HU.out])),HO',HB'⟩
       case measure=>simp[intOf];omega
  ·obtain rfl:k=t.nodes.length:=by omega
   go_wp2;go_ret;rw[free,←HQ.out];exact RetInts.mk HO.out (by omega) hbw
end
end Go.Proofs.YtipjhljnkocioaaGreatDoor
