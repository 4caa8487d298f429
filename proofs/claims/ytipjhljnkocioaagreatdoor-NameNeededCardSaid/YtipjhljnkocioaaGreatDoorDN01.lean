/- Part of a proof. -/
import Derived.Test.YtipjhljnkocioaaGreatDoorC10
set_option maxRecDepth 100000
set_option maxHeartbeats 8000000
set_option linter.unusedVariables false
set_option linter.unusedSimpArgs false
open Go.Proofs.Tryz
namespace Go.Proofs.YtipjhljnkocioaaGreatDoor
section
open Go.RowKit
theorem OQ(a:Option Addr)(c:Nat)(l:List Int)(node:Int)(w:World)(hm:l.length≤1000000)(h:Ints w a c l) :
 Calls prog 25 #[.agg #[.slice a l.length c],intV node] w (RetInts w (uses l node)):=by
 have HR:=Hd h;clear h;go_enter func25,ntmps25;go_wp2
 go_loopw [5,6] (fun t5 t6 wr=>∃(k:Nat) (a5:Option Addr) (c5:Nat),t6=.int .i64 k∧k≤l.length∧t5=.slice a5 (idxs (fun i=>l[i]?==some node) k).length c5 ∧
  Hid (OwnI wr (w.heap.size+1) a5 c5 (idxs (fun i=>l[i]?==some node) k))∧Hid (Below (w.heap.size+1) (boxN w a c l) wr)) (fun _ i _=>l.length-(intOf i).toNat)
 case atStart=>exact⟨0,_,_,rfl,Nat.zero_le _,rfl,Hd (fA (boxN w a c l) _ _ (by simp) nlr),Hd (brf.alloc (by simp) _)⟩
 case round=>
  obtain⟨k,a5,c5,rfl,hk,rfl,HO,HB⟩:=hrel;obtain⟨b0,hr1,⟨hs,hs',hs''⟩,hbw⟩:=LD HB.out HR.out;have HW:=Hd hbw;have HR1:=Hd hr1;clear hr1 hbw;by_cases hlt:k<l.length
  ·obtain⟨b,o,rfl,hb,hc⟩:=Ints.at HR1.out hlt
   by_cases he:l[k]=node
   ·have he':(l[k]==node)=true:=by simpa using he
    have HS:=Hd (kZ (p:=fun i=>l[i]?==some node) (k:=k) (by simp[hlt,he]));have hil:=aP (fun i=>l[i]?==some node) k;clear he
    go_wp2_with (at_builtin;refine zJ (news:=[(k:Int)]) rfl (.tmp 22) (.tmp 24) rfl rfl (HO.out.alloc _) rfl (zR _ _ _) (by omega) (by simp;omega) ?_;intro a' c' w' l' HL hle hown' hkeep)
    go_roundw
    case rel=>exact⟨k+1,a',c',by go_num,by omega,by rw[HS.out,←HL.out],by rw[HS.out,←HL.out];exact Hd hown',Hd (hkeep _ _ nlr (HB.out.alloc hs _))⟩
    case measure=>simp[intOf];omega
   ·have he':(l[k]==node)=false:=by simpa using he
    have HS:=Hd (iK (p:=fun i=>l[i]?==some node) (k:=k) (by simp[hlt,he]));clear he;go_wp2
    go_roundw
    case rel=>exact⟨k+1,a5,c5,by go_num,by omega,by rw[HS.out],by rw[HS.out];exact HO,HB⟩
    case measure=>simp[intOf];omega
  ·obtain rfl:k=l.length:=by omega
   go_wp2;go_ret;exact RetInts.mk HO.out (by simp) HW.out
theorem OV(v:TreeV)(t:Tr)(node:Int)(w:World)(bd:Bd t)(hn : -1≤node)(hn2:node<t.nodes.length)(h:IsTree w v t) :
 Calls prog 79 #[v.val t,intV node] w (cW w (zY t node)):=by
 have hmo:prog.follows .mixedOrders=true:=by kernel_rfl
 have HT:=Hd h;have BD:=Hd bd;have him:=bd.i;clear h bd;unfold TreeV.val;go_enter func79,ntmps79;go_wp2
 go_loopw [5] (fun t5 wr=>∃(k:Nat),t5=.int .i64 k∧k≤t.items.length∧Hid (zY t node=first (fun k=>inside t node (t.items.getD k 0)) t.items.length k)∧Hid (Below (w.heap.size+1) (boxT w v t) wr)) (fun i _=>t.items.length-(intOf i).toNat)
 case atStart=>exact⟨0,rfl,Nat.zero_le _,Hd rfl,Hd brf⟩
 case round=>
  obtain⟨k,rfl,hk,HA,HB⟩:=hrel;obtain⟨b0,b1,-,⟨hs,hs1,hs2⟩,hbw⟩:=boxed HB.out HT.out;obtain⟨hcw,hfw⟩:=bcell hbw;by_cases hlt:k<t.items.length
  ·obtain⟨b,o,ea,hb,hcit⟩:=Ints.at HT.out.items hlt
   obtain⟨na,nc,ia,ic⟩:=v;simp only at ea b0 b1;subst ea;have hb1':b<wr.heap.size:=by omega
   have hge:t.items.getD k 0=t.items[k]:=by simp[hlt]
   have HGE:=Hd hge;clear hge;cases hin:inside t node t.items[k]with
   | true=>
     have HIN:=Hd hin;clear hin;go_wp2;refine N.region_JTm 7 hmo (by kernel_rfl) (by kernel_rfl) rfl (by kernel_rfl) (by kernel_rfl) (fun Wz=>Below (wr).heap.size (wr) Wz) (brf.drew) ?_
     iterate 7 (refine N.WalkT.cons ?_ (N.StepP.pure rfl ?_) ?_;rotate_left;(intro W hJ;obtain⟨hcJ,hfJ⟩:=bcell hJ;go_simp;rfl);simp only[N.pz])
     refine N.WalkT.nil fun W hJ=>?_
     go_wp2_with (go_at_call 69;refine(eS ⟨na,nc,some ⟨b,o,none⟩,ic⟩ t node t.items[k] _ BD.out hn hn2 (HT.out.mono (hbw.trans (hJ.mono hs2)) nlr)).mono ?_;rw[HIN.out];rintro e w' ⟨rfl,hb'⟩)
     go_ret;exact⟨zr (by rw[HA.out,aE hlt (by rw[HGE.out];exact HIN.out)]),(hbw.trans (hJ.mono hs2)).trans (hb'.mono (by have:=hJ.size;omega))⟩
   | false=>
     have HIN:=Hd hin;clear hin;go_wp2;refine N.region_JTm 7 hmo (by kernel_rfl) (by kernel_rfl) rfl (by kernel_rfl) (by kernel_rfl) (fun Wz=>Below (wr).heap.size (wr) Wz) (brf.drew) ?_
     iterate 7 (refine N.WalkT.cons ?_ (N.StepP.pure rfl ?_) ?_;rotate_left;(intro W hJ;obtain⟨hcJ,hfJ⟩:=bcell hJ;go_simp;rfl);simp only[N.pz])
     refine N.WalkT.nil fun W hJ=>?_
     go_wp2_with (go_at_call 69;refine(eS ⟨na,nc,some ⟨b,o,none⟩,ic⟩ t node t.items[k] _ BD.out hn hn2 (HT.out.mono (hbw.trans (hJ.mono hs2)) nlr)).mono ?_;rw[HIN.out];rintro e w' ⟨rfl,hb'⟩)
     go_roundw
     case rel=>exact⟨k+1,by go_num,by omega,Hd (by rw[HA.out,bR hlt (by rw[HGE.out];exact HIN.out)]),Hd ((HB.out.trans (hJ.mono hs)).trans (hb'.mono (by have:=hJ.size;omega)))⟩
     case measure=>simp[intOf];omega
  ·go_wp2
   go_ret;exact⟨zr (by rw[HA.out,bB (by omega)]),hbw⟩
theorem OW(v:TreeV)(t:Tr)(a:Option Addr)(c:Nat)(l:List Int)(w:World)(wf:WF t)(hl:l.length=t.nodes.length)(h:IsTree w v t)(h2:Ints w a c l) :
 Calls prog 33 #[v.val t,.agg #[.slice a l.length c]] w (RetInts w (unused t l)):=by
 have HT:=Hd h;have HL:=Hd h2;have WFH:=Hd wf;have hn3:=wf.bd.n;have HLL:=Hd hl;have hll:l.length≤1000000:=by omega
 clear h wf h2 hl;unfold TreeV.val;go_enter func33,ntmps33;go_wp2
 go_loopw [5,6] (fun t5 t6 wr=>∃(k:Nat) (a5:Option Addr) (c5:Nat) (q:List Int),t6=.int .i64 k∧k≤t.nodes.length∧t5=.slice a5 q.length c5∧q.length≤k ∧
  Hid (q=idxs (fun i=>zl t i&&(t.nd i).kind != 44&&(uses l i).length==0) k)∧Hid (OwnI wr (w.heap.size+1+1) a5 c5 q)∧Hid (Below (w.heap.size+1+1) (boxN (boxT w v t) a c l) wr)) (fun _ i _=>t.nodes.length-(intOf i).toNat)
 case atStart=>exact⟨0,_,_,[],rfl,Nat.zero_le _,rfl,by simp,Hd rfl,Hd (fA (boxN (boxT w v t) a c l) _ _ (by simp) nlr),Hd (brf.alloc (by simp) _)⟩
 case round=>
  obtain⟨k,a5,c5,q,rfl,hk,rfl,hq,HQ,HO,HB⟩:=hrel;obtain⟨b0,b1,b2,-,-,⟨hs,hs1,hs2,hs3⟩,hbw⟩:=cQ HB.out HT.out HL.out;obtain⟨hcw,hfw⟩:=bcell hbw;by_cases hlt:k<t.nodes.length
  ·obtain⟨b,o,ka,kc,ea,hb,c0,c1,c2,c3,c4,hkr⟩:=HT.out.nodes.at hlt
   obtain⟨na,nc,ia,ic⟩:=v;simp only at ea b0 b1;subst ea;have HND:=Hd (t.nd_at hlt);have HBW:=Hd hbw
   have hD:∀W,Below w.heap.size w W→Calls prog 24 #[.agg #[.slice (some ⟨b,o,none⟩) t.nodes.length nc,.slice ia t.items.length ic],intV k] W (zn W (zl t k)):=fun W hJ=>
    eT ⟨some ⟨b,o,none⟩,nc,ia,ic⟩ t k W WFH.out.bd hlt (fun h34=>WFH.out.par k hlt (by rw[←t.nd_at hlt];exact h34)) (HT.out.mono hJ nlr)
   have HD:=Hd hD;clear hkr hD
   cases hdd:zl t k with
   | false=>
     have HDD:=Hd hdd;have HX:=Hd (iK (p:=fun i=>zl t i&&(t.nd i).kind != 44&&(uses l i).length==0) (k:=k) (by simp[hdd]));clear hdd
     go_wp2_with (go_at_call 24;refine(HD.out _ HBW.out).mono ?_;rw[HDD.out];rintro e w' ⟨rfl,hb'⟩)
     go_roundw
     case rel=>exact⟨k+1,a5,c5,q,by go_num,by omega,rfl,by omega,Hd (by rw[HX.out];exact HQ.out),Hd (zg HO.out hb'),Hd (HB.out.trans (hb'.mono hs))⟩
     case measure=>simp[intOf];omega
   | true=>
     have HDD:=Hd hdd
     cases h44:t.nodes[k].kind != 44 with
     | false=>
       have HX:=Hd (iK (p:=fun i=>zl t i&&(t.nd i).kind != 44&&(uses l i).length==0) (k:=k) (by simp[HND.out,h44]));clear hdd
       go_wp2_with (go_at_call 24;refine(HD.out _ HBW.out).mono ?_;rw[HDD.out];rintro e w' ⟨rfl,hb'⟩;obtain⟨b90,b91,b92,-,-,⟨hs90,hs91,hs92,hs93⟩,hbw9⟩:=cQ (v:=⟨some ⟨b,o,none⟩,nc,ia,ic⟩) (HB.out.trans (hb'.mono hs)) HT.out HL.out;obtain⟨hcw9,hfw9⟩:=bcell hbw9)
       go_roundw
       case rel=>exact⟨k+1,a5,c5,q,by go_num,by omega,rfl,by omega,Hd (by rw[HX.out];exact HQ.out),Hd (zg HO.out hb'),Hd (HB.out.trans (hb'.mono hs))⟩
       case measure=>simp[intOf];omega
     | true=>
       have hul:=qA l k;have H44:=Hd h44
       cases hu:((uses l k).length:Int)==0 with
       | true=>
         have HX:=Hd (kZ (p:=fun i=>zl t i&&(t.nd i).kind != 44&&(uses l i).length==0) (k:=k) (by simp at hu;simp[hdd,HND.out,H44.out,hu]));clear hdd
         go_wp2_with (first
          | (go_at_call 24;refine(HD.out _ HBW.out).mono ?_;rw[HDD.out];rintro e w' ⟨rfl,hb'⟩;obtain⟨b90,b91,b92,-,HLN,⟨hs90,hs91,hs92,hs93⟩,hbw9⟩:=cQ (v:=⟨some ⟨b,o,none⟩,nc,ia,ic⟩) (HB.out.trans (hb'.mono hs)) HT.out HL.out;obtain⟨hcw9,hfw9⟩:=bcell hbw9)
          | (go_at_call 25;refine(OQ a c l k _ hll HLN).mono ?_;rintro e w2 ⟨a7,c7,rfl,hown7,hb2⟩)
          | (at_builtin;refine zJ (news:=[(k:Int)]) rfl (.tmp 34) (.tmp 36) rfl rfl ((zg (zg HO.out hb') hb2).alloc _) rfl (zR _ _ _) (by omega) (by have:=hb2.size;simp;omega) ?_;intro a9 c9 w9 l9 HL9 hle9 hown9 hkeep9))
         have hsz:=hb2.size
         go_roundw
         case rel=>exact⟨k+1,a9,c9,l9,by go_num,by omega,rfl,by omega,Hd (by rw[HX.out,←HQ.out,←HL9.out]),Hd hown9,Hd (hkeep9 _ _ nlr (((HB.out.trans (hb'.mono hs)).trans (hb2.mono hs90)).alloc (by omega) _))⟩
         case measure=>simp[intOf];omega
       | false=>
         have HX:=Hd (iK (p:=fun i=>zl t i&&(t.nd i).kind != 44&&(uses l i).length==0) (k:=k) (by simp at hu;simp[hu]));clear hdd
         go_wp2_with (first
          | (go_at_call 24;refine(HD.out _ HBW.out).mono ?_;rw[HDD.out];rintro e w' ⟨rfl,hb'⟩;obtain⟨b90,b91,b92,-,HLN,⟨hs90,hs91,hs92,hs93⟩,hbw9⟩:=cQ (v:=⟨some ⟨b,o,none⟩,nc,ia,ic⟩) (HB.out.trans (hb'.mono hs)) HT.out HL.out;obtain⟨hcw9,hfw9⟩:=bcell hbw9)
          | (go_at_call 25;refine(OQ a c l k _ hll HLN).mono ?_;rintro e w2 ⟨a7,c7,rfl,hown7,hb2⟩))
         go_roundw
         case rel=>exact⟨k+1,a5,c5,q,by go_num,by omega,rfl,by omega,Hd (by rw[HX.out];exact HQ.out),Hd (zg (zg HO.out hb') hb2),Hd ((HB.out.trans (hb'.mono hs)).trans (hb2.mono hs90))⟩
         case measure=>simp[intOf];omega
  ·obtain rfl:k=t.nodes.length:=by omega
   go_wp2;go_ret;rw[unused,←HQ.out];exact RetInts.mk HO.out (by omega) hbw
def Ord(L:List Int)(i:Nat):Prop:=∀a b,a<b→b<i→L.getD a 0≤L.getD b 0
theorem Ord.pairwise{L:List Int}(h:Ord L L.length):L.Pairwise (· ≤ ·):=by
 rw[List.pairwise_iff_getElem];intro i j hi hj hij;have:=h i j hij hj;simpa[hi,hj]using this
def OO(L:List Int)(i k:Nat):List Int:=(L.set i (L.getD k 0)).set k (L.getD i 0)
theorem OZ{L:List Int}{i k:Nat}(hi:i<L.length)(hk:k<L.length)(x:Nat):(OO L i k).getD x 0=if x=k then L.getD i 0 else if x=i then L.getD k 0 else L.getD x 0:=by
 simp only[OO,List.getD_eq_getElem?_getD,List.getElem?_set,List.length_set];by_cases h1:k=x
 ·subst h1;simp[hk,hi]
 ·rw[if_neg h1,if_neg (fun h:x=k=>h1 h.symm)]
  by_cases h2:i=x
  ·subst h2;simp[hi]
  ·rw[if_neg h2,if_neg (fun h:x=i=>h2 h.symm)]
theorem PA{L:List Int}{i k:Nat}(hi:i<L.length)(hk:k<L.length):(OO L i k).Perm L:=by
 have h:=(Array.swap_perm (xs:=L.toArray) (i:=i) (j:=k) (by simpa using hi) (by simpa using hk)).toList
 have e:(L.toArray.swap i k (by simpa using hi) (by simpa using hk)).toList=OO L i k:=by
  simp[OO,Array.swap,hi,hk]
 rw[e]at h;simpa using h
theorem PH{L:List Int}{i:Nat}(h:Ord L i)(h2:∀j,j<i→L.getD j 0≤L.getD i 0):Ord L (i+1):=by
 intro a b hab hb;by_cases e:b=i
 ·subst e;exact h2 a hab
 ·exact h a b hab (by omega)
theorem OX{L:List Int}{i k:Nat}(hi:i<L.length)(hk:k<i)(h:Ord L i)(h2:∀j,j<k→L.getD j 0≤L.getD i 0)(hlt:L.getD i 0<L.getD k 0) :
 Ord (OO L i k) i∧∀j,j<k+1→(OO L i k).getD j 0≤(OO L i k).getD i 0:=by
 have e:=OZ hi (show k<L.length by omega);refine⟨fun a b hab hb=>?_,fun j hj=>?_⟩
 ·rw[e,e]
  by_cases h1:a=k
  ·subst h1
   rw[if_pos rfl,if_neg (by omega),if_neg (by omega)];have:=h a b hab hb;omega
  ·by_cases h3:b=k
   ·subst h3
    rw[if_neg h1,if_neg (by omega),if_pos rfl];exact h2 a hab
   ·rw[if_neg h1,if_neg (by omega),if_neg h3,if_neg (by omega)]
    exact h a b hab hb
 ·rw[e,e,if_neg (show i≠k by omega),if_pos rfl]
  by_cases h1:j=k
  ·subst h1;rw[if_pos rfl];omega
  ·rw[if_neg h1,if_neg (by omega)]
   exact h j k (by omega) hk
theorem PG{L:List Int}{i k:Nat}(h2:∀j,j<k→L.getD j 0≤L.getD i 0)(hlt:¬L.getD i 0<L.getD k 0):∀j,j<k+1→L.getD j 0≤L.getD i 0:=by
 intro j hj;by_cases h1:j=k
 ·subst h1;omega
 ·exact h2 j (by omega)
theorem OP(a:Option Addr)(c:Nat)(l:List Int)(w:World)(hm:l.length≤4000000000000)(h:Ints w a c l) :
 Calls prog 68 #[.slice a l.length c] w (RetInts w (bM l)):=by
 have HR:=Hd h;clear h;go_enter func68,ntmps68
 go_wp2_with (at_builtin;refine zJ (l:=[]) (news:=l) rfl (.tmp 7) (.tmp 8) rfl rfl (fA w _ _ rfl nlr) rfl (Row.mono HR.out ((Below.refl _ w).alloc nlr _) nlr) (by simp;omega) (by simp) ?_;intro a9 c9 w9 l9 HL9 hle9 hown9 hkeep9)
 have hl9:l9=l:=by simpa using HL9.out
 subst hl9;have HO9:=Hd hown9;have HB9:=Hd (hkeep9 _ _ nlr ((Below.refl _ w).alloc nlr _));clear hown9 hkeep9 HL9 hle9
 go_loopw [4] (fun t4 wr=>∃(i:Nat) (L:List Int),t4=.int .i64 i∧i≤l9.length∧Hid (L.Perm l9)∧Hid (Ord L i)∧Hid (wr.ownsRow w.heap.size 3 1 (.slice a9 l9.length c9) l9.length (zo L))∧Hid (Below w.heap.size w wr)) (fun i _=>l9.length-(intOf i).toNat)
 case atStart=>exact⟨0,l9,rfl,Nat.zero_le _,Hd (List.Perm.refl _),Hd (fun a b _ h=>by omega),HO9,HB9⟩
 case round=>
  obtain⟨i,L,rfl,hi,HP,HS,HO,HB⟩:=hrel;by_cases hlt:i<l9.length
  ·have HI:=Hd hlt
   go_wp2
   go_loopw [5] (fun t5 wr=>∃(k:Nat) (L:List Int),t5=.int .i64 k∧k≤i∧Hid (L.Perm l9)∧Hid (Ord L i)∧Hid (∀j,j<k→L.getD j 0≤L.getD i 0)∧Hid (wr.ownsRow w.heap.size 3 1 (.slice a9 l9.length c9) l9.length (zo L))∧Hid (Below w.heap.size w wr)) (fun k _=>i-(intOf k).toNat)
   case atStart=>exact⟨0,L,rfl,Nat.zero_le _,HP,HS,Hd (fun j h=>by omega),HO,HB⟩
   case round=>
    obtain⟨k,L,rfl,hk,HP,HS,HK,HO,HB⟩:=hrel;by_cases hlt2:k<i
    ·obtain⟨g,rfl,hg1,hg2,hLl,hcell,hfr⟩:=bK HO.out (by omega)
     have HLL:=Hd hLl;have ci:=hcell i (by omega);have ck:=hcell k (by omega);have fi:=hfr i;have fk:=hfr k;have hne:¬i=k:=by omega
     have hne2:¬k=i:=by omega
     clear hLl hcell hfr;obtain⟨x,hx⟩:∃x,x=L.getD i 0:=⟨_,rfl⟩
     obtain⟨y,hy⟩:∃y,y=L.getD k 0:=⟨_,rfl⟩
     rw[←hx]at ci;rw[←hy]at ck;have HX:=Hd hx;have HY:=Hd hy;clear hx hy;by_cases hc:x<y
     ·have HC:=Hd hc
      go_wp2
      go_quiet (fail)
      go_wp2;have hsw:OO L i k=(L.set i y).set k x:=by rw[HX.out,HY.out];rfl
      go_roundw
      case rel=>
       refine⟨k+1,OO L i k,by go_num,by omega,Hd ((PA (by have:=HLL.out;omega) (by have:=HLL.out;omega)).trans HP.out),Hd (OX (by have:=HLL.out;omega) hlt2 HS.out HK.out (by rw[←HX.out,←HY.out];exact HC.out)).1,
        Hd (OX (by have:=HLL.out;omega) hlt2 HS.out HK.out (by rw[←HX.out,←HY.out];exact HC.out)).2,Hd ?_,Hd ?_⟩
       ·rw[hsw]
        exact fB (fB (zg HO.out (below_drewN brf _)) i y) k x
       ·exact((below_drewN HB.out _).setCell (by simpa using hg1) _).setCell (by simpa using hg1) _
      case measure=>simp[intOf];omega
     ·have HC:=Hd hc
      go_wp2
      go_quiet (fail)
      go_wp2
      go_roundw
      case rel=>exact⟨k+1,L,by go_num,by omega,HP,HS,Hd (PG HK.out (by rw[←HX.out,←HY.out];have:=HC.out;omega)),Hd (zg HO.out (below_drewN brf _)),Hd (below_drewN HB.out _)⟩
      case measure=>simp[intOf];omega
    ·obtain rfl:k=i:=by omega
     go_wp2
     go_roundw
     case rel=>exact⟨k+1,L,by go_num,by omega,HP,Hd (PH HS.out HK.out),HO,HB⟩
     case measure=>simp[intOf];omega
  ·obtain rfl:i=l9.length:=by omega
   go_wp2;go_ret;have hL:L.length=l9.length:=HP.out.length_eq;have hs:=HS.out;rw[←hL]at hs;have e:=cC HP.out (Ord.pairwise hs);have ho:=HO.out;rw[e]at ho;exact⟨a9,c9,by simp[dC],by rw[dC];exact ho,HB.out⟩
theorem NeedL.start(t:Tr)(l:List Int)(item:Int):NeedL t l item [item]:=⟨⟨[],rfl⟩,by simp,fun x hx=>by simp at hx;subst hx;exact .base⟩
theorem CK{t:Tr}{l L:List Int}{k n0:Nat}{g:Bool}(h:(g=false∧L.length=n0∧kJ t l L k)∨(g=true∧n0<L.length))(h2:0≤l.getD k 0→hasI L (zY t k)=true→hasI L (zY t (l.getD k 0))=true) :
 (g=false∧L.length=n0∧kJ t l L (k+1))∨(g=true∧n0<L.length):=by
 rcases h with⟨h1,h3,h4⟩|h
 ·refine .inl ⟨h1,h3,fun n hn hn2 h0 hi=>?_⟩
  by_cases e:n=k
  ·subst e;exact h2 h0 hi
  ·exact h4 n (by omega) hn2 h0 hi
 ·exact .inr h
theorem PM(W:World)(x:Int){n B:Nat}(hn:W.heap.size=n)(hB:B≤n):OwnI (W.alloc (.cells #[intV x] 3)) B (some ⟨n,0,none⟩) 1 [x]:=by
 subst hn;exact⟨by simp,.inr ⟨W.heap.size,1,#[intV x],rfl,hB,heap_alloc_new W _,nlr,by decide,by simp,by simp⟩⟩
def lenV:Value→Nat
 |.slice _ n _=>n
 |_=>0
def PJ:Value→Nat
 |.bool true=>1
 |_=>0
theorem PI{W:World}{B g c:Nat}{L:List Int}(h:OwnI W B (some ⟨g,0,none⟩) c L)(h1:1≤L.length):Ints W (if c=1 then some ⟨g,0,none⟩else some ⟨g,1,none⟩) (c-1) L.tail:=by
 obtain⟨-,h2,-,h4⟩:=zq h;obtain⟨g',e,hg1,hg2,hLl,hcell,hfr⟩:=bK h (by omega);obtain rfl:g=g':=by simpa using e
 refine⟨by simp,by simp;omega,?_,?_⟩
 ·intro hh;split at hh<;>cases hh
 ·by_cases hc:c=1
  ·left;simp;omega
  ·right
   rw[if_neg hc];refine⟨g,1,rfl,hg2,?_⟩;intro i hi;have hi':i<L.tail.length:=by simpa using hi
   have hi2:i+1<L.length:=by simp at hi';omega
   rw[show 1+i=i+1 by omega,hcell (i+1) hi2];simp[hi2]
def PD(w:World)(t:Tr)(l:List Int)(item:Int)(e:Ending)(w':World):Prop:=
 ∃L,NeedL t l item L∧(∀x,x∈L↔Reach t l item x)∧RetInts w (bM L.tail) e w'
theorem OY(v:TreeV)(t:Tr)(a:Option Addr)(c:Nat)(l:List Int)(item:Int)(w:World)(bd:Bd t)(hl:l.length=t.nodes.length)(hd:∀x∈l,x<t.nodes.length)(h:IsTree w v t)(h2:Ints w a c l) :
 Calls prog 34 #[v.val t,.agg #[.slice a l.length c],intV item] w (PD w t l item):=by
 have hmo:prog.follows .mixedOrders=true:=by kernel_rfl
 have HT:=Hd h;have HL:=Hd h2;have BD:=Hd bd;have hn3:=bd.n;have hi3:=bd.i;have HLL:=Hd hl;have HD:=Hd hd;have hll:l.length≤1000000:=by omega
 clear h bd h2 hl hd;obtain⟨na,nc,ia,ic⟩:=v;unfold TreeV.val;go_enter func34,ntmps34;go_wp2
 go_loopw [7,8] (fun t7 t8 wr=>∃(a5:Option Addr) (c5:Nat) (L:List Int) (g:Bool),t8=.bool g∧t7=.slice a5 L.length c5∧Hid (NeedL t l item L)∧Hid (g=false→kJ t l L t.nodes.length) ∧
  Hid (OwnI wr (w.heap.size+1+1) a5 c5 L)∧Hid (Below (w.heap.size+1+1) (boxN (boxT w ⟨na,nc,ia,ic⟩ t) a c l) wr)) (fun s g _=>2*(t.items.length+3-lenV s)+PJ g)
 case atStart=>
  exact⟨_,_,[item],true,rfl,rfl,Hd (NeedL.start t l item),Hd (fun h=>by cases h),Hd (PM (boxN (boxT w ⟨na,nc,ia,ic⟩ t) a c l) item (by simp) nlr),Hd (brf.alloc (by simp) _)⟩
 case round=>
  obtain⟨a5,c5,L,g,rfl,rfl,HN,HG,HO,HB⟩:=hrel;have hLlen:=HN.out.length
  cases g with
  | false=>
    obtain⟨b0,b1,b2,-,-,⟨hs,hs1,hs2,hs3⟩,hbw⟩:=cQ HB.out HT.out HL.out;obtain⟨r,hr⟩:=HN.out.head;have hL1:1≤L.length:=by rw[hr];simp
    have hLc:L.length≤c5:=(zq HO.out).2.1;obtain⟨g,rfl,hg1,hg2,hLl,hcell,hfr⟩:=bK HO.out (by omega);have HR:=Hd hr;clear hr hLl hcell hfr
    go_wp2_with (go_at_call 68;have hS:=OP _ _ L.tail _ (by have:=HN.out.length;simp;omega) (PI HO.out hL1);rw[List.length_tail]at hS;refine hS.mono ?_;rintro e w9 ⟨a9,c9,rfl,hown9,hb9⟩)
    all_goals
     go_ret;exact⟨L,HN.out,fun x=>HN.out.done (HG.out (by first|rfl|trivial)) x,RetInts.mk hown9 (by omega) (hbw.trans (hb9.mono (by omega)))⟩
  | true=>
    have HLE:=Hd hLlen;clear hLlen;obtain⟨n0,hn0⟩:∃n0,n0=L.length:=⟨_,rfl⟩
    have HN0:=Hd hn0;clear hn0;go_wp2
    go_loopw [7,8,9] (fun t7 t8 t9 wr=>∃(k:Nat) (a5:Option Addr) (c5:Nat) (L:List Int) (g:Bool),t9=.int .i64 k∧k≤t.nodes.length∧t8=.bool g∧t7=.slice a5 L.length c5∧Hid (NeedL t l item L)∧Hid ((g=false∧L.length=n0∧kJ t l L k)∨(g=true∧n0<L.length)) ∧
     Hid (OwnI wr (w.heap.size+1+1) a5 c5 L)∧Hid (Below (w.heap.size+1+1) (boxN (boxT w ⟨na,nc,ia,ic⟩ t) a c l) wr)) (fun _ _ i _=>t.nodes.length-(intOf i).toNat)
    case atStart=>exact⟨0,a5,c5,L,false,rfl,Nat.zero_le _,rfl,rfl,HN,Hd (.inl ⟨rfl,HN0.out.symm,fun n h=>by omega⟩),HO,HB⟩
    case round=>
     obtain⟨k,a5,c5,L,g,rfl,hk,rfl,rfl,HN,HG',HO,HB⟩:=hrel;obtain⟨b0,b1,b2,-,-,⟨hs,hs1,hs2,hs3⟩,hbw⟩:=cQ HB.out HT.out HL.out;obtain⟨hcw,hfw⟩:=bcell hbw;have HBW:=Hd hbw;have hLlen:=HN.out.length
     have hI:∀(x:Int) W,-1≤x→x<t.nodes.length→Below w.heap.size w W→Calls prog 79 #[.agg #[.slice na t.nodes.length nc,.slice ia t.items.length ic],intV x] W (cW W (zY t x)):=fun x W h1 h2 hJ=>
      OV ⟨na,nc,ia,ic⟩ t x W BD.out h1 h2 (HT.out.mono hJ nlr)
     have HI:=Hd hI;clear hI hbw;by_cases hlt:k<t.nodes.length
     ·have hlk:k<l.length:=by have:=HLL.out;omega
      obtain⟨bl,ol,rfl,hbl,hcl⟩:=Ints.at HL.out hlk;have hxl:l[k]<t.nodes.length:=HD.out _ (List.getElem_mem hlk);have hgd:l.getD k 0=l[k]:=by simp[hlk]
      obtain⟨x,hx⟩:∃x,x=l[k]:=⟨_,rfl⟩
      rw[←hx]at hcl hxl hgd;have HGD:=Hd hgd;clear hx hgd;cases hx0:decide (x<0)with
      | true=>
        go_wp2
        go_roundw
        case rel=>exact⟨k+1,a5,c5,L,g,by go_num,by omega,rfl,rfl,HN,Hd (CK HG'.out (fun h0 _=>by rw[HGD.out]at h0;simp at hx0;omega)),HO,HB⟩
        case measure=>simp[intOf];omega
      | false=>
        obtain⟨m,hm⟩:∃m,m=zY t k:=⟨_,rfl⟩
        have HM:=Hd hm;clear hm
        cases hh:hasI L m with
        | false=>
          have HH:=Hd hh;clear hh
          go_wp2_with (first
           | (go_at_call 79;refine(HI.out k _ (by omega) (by omega) HBW.out).mono ?_;rw[←HM.out];rintro e w2 ⟨rfl,hb2⟩;have HB2:=Hd (HB.out.trans (hb2.mono hs));have HO2:=Hd (zg HO.out hb2);obtain⟨b90,b91,b92,-,-,⟨hs90,hs91,hs92,hs93⟩,hbw9⟩:=cQ (v:=⟨na,nc,ia,ic⟩) HB2.out HT.out HL.out;obtain⟨hcw9,hfw9⟩:=bcell hbw9;have HBW9:=Hd hbw9;clear hbw9)
           | (go_at_call 70;refine(dP a5 c5 L m _ (by omega) (zq HO2.out)).mono ?_;rw[HH.out];rintro e w3 ⟨rfl,rfl⟩))
          go_roundw
          case rel=>exact⟨k+1,a5,c5,L,g,by go_num,by omega,rfl,rfl,HN,Hd (CK HG'.out (fun _ h1=>by rw[←HM.out,HH.out]at h1;cases h1)),HO2,HB2⟩
          case measure=>simp[intOf];omega
        | true=>
          have HH:=Hd hh;clear hh;obtain⟨y,hy⟩:∃y,y=zY t x:=⟨_,rfl⟩
          have HY:=Hd hy;clear hy;have hx1 : -1≤x:=by simp at hx0;omega
          have hx00:0≤x:=by simpa using hx0
          have HX0:=Hd hx00;clear hx00
          cases hz:hasI L y with
          | true=>
            have HZ:=Hd hz;clear hz
            go_wp2_with (first
             | (go_at_call 79;refine(HI.out k _ (by omega) (by omega) HBW.out).mono ?_;rw[←HM.out];rintro e w2 ⟨rfl,hb2⟩;have HB2:=Hd (HB.out.trans (hb2.mono hs));have HO2:=Hd (zg HO.out hb2);obtain⟨b90,b91,b92,-,-,⟨hs90,hs91,hs92,hs93⟩,hbw9⟩:=cQ (v:=⟨na,nc,ia,ic⟩) HB2.out HT.out HL.out;obtain⟨hcw9,hfw9⟩:=bcell hbw9;have HBW9:=Hd hbw9;clear hbw9)
             | (go_at_call 70;refine(dP a5 c5 L m _ (by omega) (zq HO2.out)).mono ?_;rw[HH.out];rintro e w3 ⟨rfl,rfl⟩))
            refine N.region_JTm 6 hmo (by kernel_rfl) (by kernel_rfl) rfl (by kernel_rfl) (by kernel_rfl) (fun Wz=>Below (w2).heap.size (w2) Wz) (brf.drew) ?_
            iterate 6 (refine N.WalkT.cons ?_ (N.StepP.pure rfl ?_) ?_;rotate_left;(intro W hJ;obtain⟨hcJ,hfJ⟩:=bcell hJ;have q5:W.cell? ⟨bl,ol+k,none⟩=some (intV x):=(hcJ _ _ (by omega)).trans ((hcw9 _ _ hbl).trans hcl);go_simp;rfl);simp only[N.pz])
            refine N.WalkT.nil fun W hJ=>?_
            go_wp2_with (first
             | (go_at_call 79;refine(HI.out x _ (by omega) hxl (HBW9.out.trans (hJ.mono hs92))).mono ?_;rw[←HY.out];rintro e w4 ⟨rfl,hb4⟩;have HO4:=Hd (zg (zg HO2.out hJ) hb4);have HB4:=Hd ((HB2.out.trans (hJ.mono hs90)).trans (hb4.mono (by have:=hJ.size;omega))))
             | (go_at_call 70;refine(dP a5 c5 L y _ (by omega) (zq HO4.out)).mono ?_;rw[HZ.out];rintro e w5 ⟨rfl,rfl⟩))
            go_roundw
            case rel=>exact⟨k+1,a5,c5,L,g,by go_num,by omega,rfl,rfl,HN,Hd (CK HG'.out (fun _ _=>by rw[HGD.out,←HY.out];exact HZ.out)),HO4,HB4⟩
            case measure=>simp[intOf];omega
          | false=>
            have HZ:=Hd hz;clear hz
            go_wp2_with (first
             | (go_at_call 79;refine(HI.out k _ (by omega) (by omega) HBW.out).mono ?_;rw[←HM.out];rintro e w2 ⟨rfl,hb2⟩;have HB2:=Hd (HB.out.trans (hb2.mono hs));have HO2:=Hd (zg HO.out hb2);obtain⟨b90,b91,b92,-,-,⟨hs90,hs91,hs92,hs93⟩,hbw9⟩:=cQ (v:=⟨na,nc,ia,ic⟩) HB2.out HT.out HL.out;obtain⟨hcw9,hfw9⟩:=bcell hbw9;have HBW9:=Hd hbw9;clear hbw9)
             | (go_at_call 70;refine(dP a5 c5 L m _ (by omega) (zq HO2.out)).mono ?_;rw[HH.out];rintro e w3 ⟨rfl,rfl⟩))
            refine N.region_JTm 6 hmo (by kernel_rfl) (by kernel_rfl) rfl (by kernel_rfl) (by kernel_rfl) (fun Wz=>Below (w2).heap.size (w2) Wz) (brf.drew) ?_
            iterate 6 (refine N.WalkT.cons ?_ (N.StepP.pure rfl ?_) ?_;rotate_left;(intro W hJ;obtain⟨hcJ,hfJ⟩:=bcell hJ;have q5:W.cell? ⟨bl,ol+k,none⟩=some (intV x):=(hcJ _ _ (by omega)).trans ((hcw9 _ _ hbl).trans hcl);go_simp;rfl);simp only[N.pz])
            refine N.WalkT.nil fun W hJ=>?_
            go_wp2_with (first
             | (go_at_call 79;refine(HI.out x _ (by omega) hxl (HBW9.out.trans (hJ.mono hs92))).mono ?_;rw[←HY.out];rintro e w4 ⟨rfl,hb4⟩;have HO4:=Hd (zg (zg HO2.out hJ) hb4);have HB4:=Hd ((HB2.out.trans (hJ.mono hs90)).trans (hb4.mono (by have:=hJ.size;omega))))
             | (go_at_call 70;refine(dP a5 c5 L y _ (by omega) (zq HO4.out)).mono ?_;rw[HZ.out];rintro e w5 ⟨rfl,rfl⟩)
             | (at_builtin;refine zJ (news:=[y]) rfl (.tmp 46) (.tmp 48) rfl rfl (HO4.out.alloc _) rfl (zR _ _ _) (by omega) (by have:=HB4.out.size;simp at this⊢;omega) ?_;intro a9 c9 w9 l9 HL9 hle9 hown9 hkeep9))
            have hL9:l9.length=L.length+1:=by rw[HL9.out];simp
            go_roundw
            case rel=>
             refine⟨k+1,a9,c9,l9,true,by go_num,by omega,rfl,rfl,Hd ?_,Hd (.inr ⟨rfl,?_⟩),Hd hown9,Hd (hkeep9 _ _ nlr (HB4.out.alloc (by have:=HB4.out.size;simp at this;omega) _))⟩
             ·rw[HL9.out]
              refine HN.out.snoc ?_ HZ.out;rw[HY.out,←HGD.out];refine Reach.step hlt (by rw[HGD.out];exact HX0.out) (HN.out.reach _ ?_);rw[←HM.out];exact List.contains_iff_mem.1 HH.out
             ·rcases HG'.out with⟨_,h2,_⟩|⟨_,h2⟩<;>omega
            case measure=>simp[intOf];omega
     ·obtain rfl:k=t.nodes.length:=by omega
      go_wp2
      go_roundw
      case rel=>exact⟨a5,c5,L,g,rfl,rfl,HN,Hd (fun hg=>by rcases HG'.out with⟨_,_,h3⟩|⟨h1,_⟩;exact h3;rw[hg]at h1;cases h1),HO,HB⟩
      case measure=>
       have h0:=HN0.out;rcases HG'.out with⟨rfl,h2,_⟩|⟨rfl,h2⟩<;>simp[lenV,PJ]<;>omega
end
end Go.Proofs.YtipjhljnkocioaaGreatDoor
