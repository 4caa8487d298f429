/- Part of a proof. -/
import Derived.Test.YtokdgiphdnjeoaaGreatDoorQ08
import Derived.Test.YtokdgiphdnjeoaaGreatDoorQ37
import Derived.Maps.RangeWalk
set_option maxRecDepth 100000
set_option maxHeartbeats 8000000
set_option linter.unusedVariables false
set_option linter.unusedSimpArgs false
open Go.Proofs.Tryz
namespace Go.Proofs.YtokdgiphdnjeoaaGreatDoor
section
open Go Go.RowKit Go.Maps
theorem DV{l:List Int}{x:Int}:l.countP (· < x)=(l.filter fun it=>decide (it<x)).length:=List.countP_eq_length_filter
theorem CF(p:ProgV)(t:Tr)(ups decl:List Int)(x:Int)(w:World)(bd:Bd t)(hasc:t.items.Pairwise (· < ·))(h:IsProg w p t ups decl) :
 Calls prog 91 #[p.ptr,intV x] w (dL w (kB t x)):=by
 have hi3:=bd.i;have hc1:=h.c1
 have hBS:Calls prog 139 #[.slice p.v.ia t.items.length p.v.ic,.int .i64 x] w fun e w'=>(∃b,e=.returned (.tuple #[.int .i64 (kB t x),.bool b]))∧Below w.heap.size w w':=by
  by_cases h0:t.items.length=0
  ·have hn:kB t x=0:=by unfold kB;rw[List.eq_nil_of_length_eq_zero h0];rfl
   rw[h0,hn];refine(Tryz.slices_BinarySearch_int_empty p.v.ia p.v.ic x w).mono ?_;rintro e w'⟨rfl,rfl⟩;exact⟨⟨_,rfl⟩,brf⟩
  ·obtain⟨b,o,ea,-,-⟩:=h.tree.items.at (i:=0) (by omega)
   rw[ea];refine(Tryz.slices_BinarySearch_int b o t.items.length p.v.ic t.items x w nlr (by omega) (fun j hj=>?_) ?_).mono ?_
   ·obtain⟨b',o',e,-,hc⟩:=h.tree.items.at hj
    rw[ea]at e;simp only[Option.some.injEq,Addr.mk.injEq,and_true]at e;obtain⟨rfl,rfl⟩:=e;rw[hc];simp[hj,intV]
   ·rw[List.take_length]
    exact hasc.imp fun h=>Int.le_of_lt h
   ·rintro e w'⟨rfl,q,rfl⟩
    refine⟨⟨t.items.contains x,?_⟩,below_drewN brf _⟩
    ·rw[List.take_length,DV];rfl
 have HBS:=Hd hBS;clear h bd hasc hBS;obtain⟨s,⟨na,nc,ia,ic⟩,aa,ac,da,dc⟩:=p;simp only at hc1 HBS;go_enter func91,ntmps91
 go_wp2_with (go_at_call 139;refine HBS.out.mono ?_;rintro e w1 ⟨⟨b,rfl⟩,hb1⟩)
 go_ret;exact⟨rfl,hb1⟩
abbrev OwnJ(X:World)(b n:Nat)(D:DataW Unit):Prop:=X.ownsMap prog 3 rdB b n D
def NMap(D:DataW Unit)(S:Int→Bool):Prop:=IntSet D (fun j=>S j=true)∧∀x:Int,D.atKey (.int .i64 x) (.lit (.bool false))=.lit (.bool (S x))
theorem IntSet.isMap{D:DataW Unit}{S:Int→Prop}(h:IntSet D S):IsMap D:=by
 obtain⟨es,rfl,-,-⟩:=h;exact⟨_,rfl⟩
theorem NMap.empty:NMap (.map []) (fun _=>false):=⟨IntSet.empty.congr fun j=>by simp,fun x=>rfl⟩
theorem NMap.congr{D:DataW Unit}{S S':Int→Bool}(h:NMap D S)(e:∀x,S x=S' x):NMap D S':=⟨h.1.congr fun j=>by rw[e],fun x=>by rw[h.2,e]⟩
theorem NMap.put{D:DataW Unit}{S:Int→Bool}(h:NMap D S)(k:Int):NMap (D.put (.int .i64 k) (.lit (.bool true))) (fun x=>x==k||S x):=by
 refine⟨(h.1.put k _).congr fun j=>by simp,fun x=>?_⟩;by_cases e:x=k
 ·subst e
  rw[Maps.atKey_put_same h.1.isMap (show WideAt.IsKeyLit (.int .i64 x)from trivial)];simp
 ·rw[Maps.atKey_put_other (by intro e2;injection e2 with _ e2;exact e e2),h.2]
  simp[e]
theorem lY:prog.underlying 127=some (.map 3 4):=by kernel_rfl
theorem EL{X:World}{b n:Nat}{D:DataW Unit}{S:Int→Bool}(h:OwnJ X b n D)(hS:NMap D S){x:Int}(hx:(Lit.int .i64 x).wf=true) :
 (Instr.lookup 127 (.map (some b)) (intV x) false).run prog X=.ok (.bool (S x)) X:=by
 obtain⟨v,ps,hrun,hv⟩:=h.lookup (int_keyed (P:=prog) fS) lY (vS X) (zd:=.lit (.bool false)) (zp:=[]) rfl (keyOf_int_mk fS hx);rw[hS.2]at hv;rw[hrun,FE hv]
def eU(t:Tr)(item:Int):Int:=if (zc t).2.2≠0 then (zc t).2.2 else if item<0∨(t.items.length:Int)≤item then 7 else 0
def tS(w:World)(t:Tr)(item:Int)(e:Ending)(w':World):Prop:=
 (eU t item=0∧∃M:List Int,M.Nodup∧(∀x,x∈M↔x≠item∧NS t (zg t t.nodes.length) item (item.toNat+1) x)∧RetIntsE w (cT M) 0 e w')∨(eU t item≠0∧RetIntsE w [] (eU t item) e w')
theorem BR{t:Tr}{l:List Int}{item:Int}{m:Nat}(h:¬NS t l item m (item-m))(x:Int):NS t l item (m+1) x↔NS t l item m x:=by
 rw[kJ];exact⟨fun e=>e.elim id fun e=>absurd e.1 h,.inl⟩
theorem Good.nodesOf{t:Tr}{S:List Int}(G:Good t S){k:Nat}(hk:k<t.items.length){n:Nat}(hn:n<t.nodes.length):zY t n=k↔Go.Proofs.YtokdgiphdnjeoaaGreatDoor.low t t.items[k]≤n∧(n:Int)≤t.items[k]:=by
 obtain⟨_,_,hl,h0,_⟩:=G.item _ (List.getElem_mem hk);obtain⟨o,ho⟩:=Int.eq_ofNat_of_zero_le h0;have hlo:Go.Proofs.YtokdgiphdnjeoaaGreatDoor.low t t.items[k]=stt S t.items[k]+1:=by rw[ho];exact G.low (by omega)
 obtain⟨j,hj,e1,_,a1,a2⟩:=G.itemAt hn;rw[e1,hlo];constructor
 ·intro e
  obtain rfl:j=k:=by omega
  omega
 ·rintro⟨b1,b2⟩
  have hsep:=List.pairwise_iff_getElem.1 G.items;rcases Nat.lt_trichotomy j k with h|h|h
  ·have:=hsep j k hj hk h;omega
  ·rw[h]
  ·have:=hsep k j hk hj h;omega
theorem OwnJ.below{X Y:World}{b n:Nat}{D:DataW Unit}(h:OwnJ X b n D)(hb:Below X.heap.size X Y):OwnJ Y b n D:=by
 obtain⟨es,cl,hb9,F,hs,hD⟩:=h;exact⟨es,cl,(hb.block b (zB hb9)).trans hb9,F,hs,hD⟩
theorem OwnJ.lt{X:World}{b n:Nat}{D:DataW Unit}(h:OwnJ X b n D):b<X.heap.size:=by
 obtain⟨es,cl,hb9,-⟩:=h;exact zB hb9
theorem JF(t:Tr)(x:Int):kB t x≤t.items.length:=List.length_filter_le _ _
theorem ER{t:Tr}{l:List Int}{item:Int}{m lo hi k:Nat}{S S':Int→Bool}(hX:∀x,S x=true↔NS t l item m x)(hy:NS t l item m (item-m))(hk:item-m=(k:Int))(hlh:lo≤hi)(hi2:hi<t.nodes.length)(hn:∀n:Nat,n<t.nodes.length→(zY t n=k↔(lo:Int)≤n∧(n:Int)≤hi))
 (hS:∀x,S' x=true↔(S x=true∨∃j:Nat,j<hi+1-lo∧l.getD (lo+j) 0 ≠ -1∧x=zY t (l.getD (lo+j) 0)))(x:Int):S' x=true↔NS t l item (m+1) x:=by
 rw[hS,kJ,hX];constructor
 ·rintro(h|⟨j,hj,h1,h2⟩)
  ·exact .inl h
  ·exact .inr ⟨hy,lo+j,by omega,by rw[hk];exact(hn (lo+j) (by omega)).2 (by omega),h1,h2⟩
 ·rintro(h|⟨-,n,hn1,hn2,h1,h2⟩)
  ·exact .inl h
  ·rw[hk]at hn2
   have:=(hn n hn1).1 hn2;refine .inr ⟨n-lo,by omega,?_,?_⟩
   ·rw[show lo+(n-lo)=n by omega];exact h1
   ·rw[show lo+(n-lo)=n by omega];exact h2
theorem xN{P:Program}{k:TypeId}{R:Value→Option (DataW Unit×List MemPlace)}{b r n:Nat}{D:DataW Unit}{left:Lit→Bool}{cnt:Nat}{w w':World}(h:w.ranges P k R b r n D left cnt)(hb:w'.heap[b]?=w.heap[b]?)(hr:w'.heap[r]?=w.heap[r]?):w'.ranges P k R b r n D left cnt:=by
 obtain⟨es,cl,si,se,c0,h1,h2,h3,h4,h5,h6⟩:=h;exact⟨es,cl,si,se,c0,hb.trans h1,h2,h3,h4,hr.trans h5,h6⟩
theorem KG{X:World}{b n:Nat}{D:DataW Unit}(h:OwnJ X b n D):Maps.size D≤n:=by
 obtain⟨es,cl,hb,F,hs,rfl⟩:=h;show(List.foldr DataW.insert [] _).length≤n
 refine Nat.le_trans (Nat.le_of_eq (Go.WideShapes.sorted_perm _).length_eq) ?_;simpa using hs
theorem MH{key:Value}{kl:Lit}(h:keyOf prog 3 key=some kl):∃x:Int,key=Value.int .i64 x:=by
 obtain⟨x,rfl,-⟩:=Maps.keyOf_int_inv fS h;exact⟨x,rfl⟩
theorem JD(v:Value)(y:DataW Unit×List MemPlace)(h:rdB v=some y):∃c:Bool,v=Value.bool c:=by
 unfold rdB at h;split at h
 ·exact⟨_,rfl⟩
 ·cases h
theorem sG{x:Int}(h0:0≤x)(h1:x≤1000000):(Lit.int .i64 x).wf=true:=WalkArith.wf_i64 (by omega)
theorem nZ(v:TreeV)(t:Tr)(item:Int)(w:World)(bd:Bd t)(rg:Rg t)(hg:GV w)(h:IsTree w v t)(hit : -9223372036854775808≤item∧item≤9223372036854775807) :
 Calls prog 47 #[v.val t,intV item] w (tS w t item):=by
 have hmo:prog.follows .mixedOrders=true:=by kernel_rfl
 have HC:=Hd (cX v t (boxT w v t) bd rg (hg.mono boxT_below nlr) (h.mono boxT_below nlr));have BD:=Hd bd;have hn3:=bd.n;have hi3:=bd.i;have hmm:=@run_makeMap prog;have law:=Hd (int_keyed (P:=prog) fS);clear h hg bd rg;obtain⟨na,nc,ia,ic⟩:=v;by_cases hz:(zc t).2.2=0
 ·have HZ:=Hd hz
  by_cases hin:item<0∨(t.items.length:Int)≤item
  ·have HE:Hid (eU t item=7):=Hd (by unfold eU;rw[if_neg (by simpa using hz),if_pos hin])
   clear hz;unfold TreeV.val;by_cases hlo:item<0
   ·clear hin
    go_enter func47,ntmps47
    go_wp2_with (go_at_call 88;refine HC.out.mono ?_;rintro e w2 (⟨-,-,p,rfl,hpv,hop⟩|⟨hne,-⟩);rotate_left;(exact absurd HZ.out hne);obtain⟨s,v',aa,ac,da,dc⟩:=p;simp only at hpv;subst hpv;have HB2:=Hd (boxT_below.trans (hop.below.mono (by simp)):Below w.heap.size w w2);clear hop)
    go_ret2
    exact .inr ⟨by rw[HE.out];decide,by rw[HE.out];exact .nil HB2.out⟩
   ·have hhi:(t.items.length:Int)≤item:=by omega
    have hge:item ≥ (t.items.length:Int):=hhi;clear hin;go_enter func47,ntmps47
    go_wp2_with (go_at_call 88;refine HC.out.mono ?_;rintro e w2 (⟨-,-,p,rfl,hpv,hop⟩|⟨hne,-⟩);rotate_left;(exact absurd HZ.out hne);obtain⟨s,v',aa,ac,da,dc⟩:=p;simp only at hpv;subst hpv;have hc1:=hop.prog.c1;simp only at hc1;have HB2:=Hd (boxT_below.trans (hop.below.mono (by simp)):Below w.heap.size w w2);clear hop)
    go_ret2
    exact .inr ⟨by rw[HE.out];decide,by rw[HE.out];exact .nil HB2.out⟩
  ·have HNE:Hid (eU t item=0):=Hd (by unfold eU;rw[if_neg (by simpa using hz),if_neg hin])
   obtain⟨it0,rfl⟩:=Int.eq_ofNat_of_zero_le (show 0≤item by omega);have hit0:it0<t.items.length:=by omega
   clear hz hin hit;unfold TreeV.val;go_enter func47,ntmps47
   go_wp2_with (first
    | (go_at_call 88;refine HC.out.mono ?_;rintro e w2 (⟨-,hrs,p,rfl,hpv,hop⟩|⟨hne,-⟩);rotate_left;(exact absurd HZ.out hne);rw[dC hrs]at hop;have HRS:=Hd hrs;obtain⟨s,v',aa,ac,da,dc⟩:=p;simp only at hpv;subst hpv;have hc1:=hop.prog.c1;simp only at hc1;have HOP:=Hd hop;have HM0:Hid (OwnJ (w2.alloc (.map #[] 0)) w2.heap.size 0 (.map [])):=Hd (World.ownsMap_made w2 prog 3 rdB);clear hop hrs)
    | (refine ze _ rfl _ _ _ 127 rfl 3 4 law.out lY rdB w2.heap.size 0 _ rfl HM0.out (by decide) _ _ (.int .i64 (it0:Int)) rfl rfl (keyOf_int_mk fS (sG (by omega) (by omega))) (.lit (.bool true)) [] rfl ?_;intro w3 hown3 hgrow3))
   have hb3:Below w2.heap.size w2 w3:=((Below.refl _ w2).alloc nlr (.map #[] 0)).grown hgrow3 (by simp) (fun j hj=>by cases hj;exact nlr);have HO3:=Hd hown3;have HB3:=Hd hb3;have HS3:=Hd ((NMap.empty.put (it0:Int)));have GG:=gH (aW HRS.out.check);have HGG:=Hd GG;have HWF:=Hd (aT BD.out HRS.out.check);clear hown3 hgrow3 hb3 GG HM0 HC
   go_loopw [9] (fun t9 wr=>∃(m:Nat) (D:DataW Unit) (S:Int→Bool),t9=.int .i64 ((it0:Int)-m)∧m≤it0+1∧Hid (OwnJ wr w2.heap.size (1+m*1000001) D)∧Hid (NMap D S)∧Hid (∀x,S x=true↔NS t (zg t t.nodes.length) it0 m x)∧Hid (Below w2.heap.size w2 wr)) (fun t9 _=>(intOf t9+1).toNat)
   case atStart=>exact⟨0,_,_,by simp,by omega,HO3,HS3,Hd (fun x=>by simp[NS]),HB3⟩
   case round=>
    obtain⟨m,D,S,rfl,hm,HO,HS,HX,HB⟩:=hrel;have hop:=HOP.out;have hsz:=HB.out.size;by_cases hge:m≤it0
    ·obtain⟨k,hk⟩:∃k:Nat,(it0:Int)-m=k:=⟨it0-m,by omega⟩
     have hkt:k<t.items.length:=by omega
     rw[hk];have hlk:=EL HO.out HS.out (x:=(k:Int)) (sG (by omega) (by omega));cases hS:S (k:Int)with
     | false=>
       rw[hS]at hlk;have HNO:Hid (¬NS t (zg t t.nodes.length) it0 m ((it0:Int)-m)):=Hd (fun e=>by rw[hk]at e;have:=(HX.out _).2 e;rw[hS]at this;cases this);clear hS;go_wp2
       go_roundw
       case rel=>exact⟨m+1,D,S,by first|(rw[←hk];go_num)|(congr 1;omega),by omega,Hd (HO.out.mono (by omega)),HS,Hd (fun x=>(HX.out x).trans (BR HNO.out x).symm),HB⟩
       case measure=>first|(simp[intOf];done)|(simp[intOf];omega)
     | true=>
       rw[hS]at hlk;have HYES:Hid (NS t (zg t t.nodes.length) it0 m ((it0:Int)-m)):=Hd (by rw[hk];exact(HX.out _).1 hS);clear hS;obtain⟨hst,hstl,hil,hi0,_⟩:=HGG.out.item _ (List.getElem_mem hkt);obtain⟨hi,hhi⟩:=Int.eq_ofNat_of_zero_le hi0;have hnodes:=fun(n:Nat) (hn:n<t.nodes.length)=>HGG.out.nodesOf hkt hn;rw[hhi]at hil hnodes hst hstl;have hin:hi<t.nodes.length:=by omega
       have hlow:=HGG.out.low hin;obtain⟨lo,hlo⟩:=Int.eq_ofNat_of_zero_le (show 0≤Go.Proofs.YtokdgiphdnjeoaaGreatDoor.low t hi by omega);rw[hlo]at hnodes hlow;have hlh:lo≤hi:=by omega
       have hopB:=hop.grow HB.out;have c1:=hopB.prog.c1;have c3:=hopB.prog.c3;obtain⟨bi,oi,eia,hbi,hci⟩:=hopB.prog.tree.items.at hkt;rw[hhi]at hci;obtain⟨bd9,od,eda,hbd,hcd⟩:=hop.prog.decl.some (by omega);simp only at c1 c3 eia eda;subst eia;subst eda
       have HFI:=Hd (show ∀W,Below wr.heap.size wr W→Calls prog 90 #[.pointer (some ⟨s,0,none⟩),intV (hi:Int)] W fun e w'=>e=.returned (intV (lo:Int))∧W=w' from fun W hW=>by
        have:=qJ ⟨s,⟨na,nc,some ⟨bi,oi,none⟩,ic⟩,aa,ac,some ⟨bd9,od,none⟩,dc⟩ t _ _ hi W BD.out (fun i hi k hk=>⟨(HGG.out.toPlaced.kid hi k hk).2.2.2,(HGG.out.toPlaced.kid hi k hk).2.2.1⟩) hin (hopB.prog.mono hW nlr);rw[hlo]at this
        exact this)
       have hsl:=hopB.prog.lt;simp only at hsl;have hdc:=hopB.prog.decl.2.1;simp only at hdc;have hq1:0≤(hi:Int)+1:=by omega
       have hq2:(hi:Int)+1≤(dc:Int):=by omega
       have hq3:lo≤hi+1:=by omega
       have hq4:¬dc=lo:=by omega
       have hwr1:IntKind.i64.wrap ((hi:Int)+1)=(hi:Int)+1:=by rw[IntKind.wrap_i64];omega
       have HND:=Hd hnodes;have HCD:=Hd hcd;clear hnodes hlow hst hstl hop hopB hcd hlo hi0;go_wp2;refine N.region_J hmo (by kernel_rfl) (by kernel_rfl) (fun Wz=>Below (wr).heap.size (wr) Wz) (brf.drew) ?_
       iterate 13 (refine N.Walk.cons ?_ (N.StepP.pure rfl ?_) ?_;rotate_left;(intro W hJ;obtain⟨hcJ,hfJ⟩:=bcell hJ;go_simp;rfl);simp only[N.pz])
       refine N.Walk.cons (intV (lo:Int)) (N.StepP.call (f:=90) (args:=#[.pointer (some ⟨s,0,none⟩),intV (hi:Int)]) rfl ?hG1_13 ?cG1_13) ?rG1_13;case hG1_13=>intro W hJ;obtain⟨hcJ,hfJ⟩:=bcell hJ;go_simp;try rfl
       case cG1_13=>intro W hJ;(refine(HFI.out W hJ).mono ?_;rintro e w' ⟨rfl,rfl⟩;exact⟨rfl,hJ⟩)
       simp only[N.pz]
       iterate 12 (refine N.Walk.cons ?_ (N.StepP.pure rfl ?_) ?_;rotate_left;(intro W hJ;obtain⟨hcJ,hfJ⟩:=bcell hJ;go_simp;rfl);simp only[N.pz])
       refine N.Walk.nil fun W hJ=>?_;have HOW:=Hd (HO.out.below hJ);have HBW:=Hd (HB.out.trans (hJ.mono hsz))
       have HDC:Hid (∀q:Nat,q<hi+1-lo→∃d:Int,(zg t t.nodes.length).getD (lo+q) 0=d∧(∀X,Below w2.heap.size w2 X→X.cell? ⟨bd9,od+lo+q,none⟩=some (intV d))∧(d ≠ -1→0≤d∧d<(t.nodes.length:Int)∧((kB t d:Nat):Int)=zY t d)):=Hd (fun q hq=>by
        have hql:lo+q<t.nodes.length:=by omega
        have hdl:lo+q<(zg t t.nodes.length).length:=by rw[zP];exact hql
        refine⟨_,rfl,fun X hX=>?_,fun hd=>?_⟩
        ·have h1:=HCD.out (lo+q) (by simpa using hdl)
         have h2:=(hX.cell (p:=⟨bd9,od+(lo+q),none⟩) hbd).trans h1;rw[←Nat.add_assoc]at h2;rw[h2];simp[hdl]
        ·rw[bW hql]at hd⊢
         have hr:=aJ HWF.out (node:=lo+q);obtain⟨z,hz⟩:∃z,means t ((lo+q:Nat):Int)=z:=⟨_,rfl⟩
         rw[hz]at hd hr⊢;obtain⟨x,rfl⟩:=Int.eq_ofNat_of_zero_le (show 0≤z by omega);have hxn:x<t.nodes.length:=by omega
         obtain⟨k9,_,e1,e2,_⟩:=HGG.out.itemAt hxn
         exact⟨by omega,by omega,by rw[e1,e2]⟩)
       have HS1:=HS;have HX1:=HX;clear HO HB hJ c1 c3 hci hbd HFI HCD hlk hsz HX HS hq1 hq2 hwr1;go_wp2
       go_loopw [73] (fun t73 wr=>∃(q:Nat) (D':DataW Unit) (S':Int→Bool),t73=.int .i64 q∧q≤hi+1-lo∧Hid (OwnJ wr w2.heap.size (1+m*1000001+q) D')∧Hid (NMap D' S')∧Hid (∀x,S' x=true↔(S x=true∨∃j:Nat,j<q∧(zg t t.nodes.length).getD (lo+j) 0 ≠ -1∧x=zY t ((zg t t.nodes.length).getD (lo+j) 0)))∧Hid (Below w2.heap.size w2 wr)) (fun t73 _=>hi+1-lo-(intOf t73).toNat)
       case atStart=>exact⟨0,D,S,rfl,Nat.zero_le _,HOW,HS1,Hd (fun x=>⟨.inl,fun e=>e.elim id fun⟨j,hj,_⟩=>by omega⟩),HBW⟩
       case round=>
        obtain⟨q,D',S',rfl,hq,HO,HS,HX,HB⟩:=hrel;by_cases hlt:q<hi+1-lo
        ·obtain⟨d,hd,hcd,hdr⟩:=HDC.out q hlt
         have hcq:=hcd _ HB.out;have HDE:=Hd hd;by_cases hd1:d = -1
         ·have HN:Hid (∀x,S' x=true↔(S x=true∨∃j:Nat,j<q+1∧(zg t t.nodes.length).getD (lo+j) 0 ≠ -1∧x=zY t ((zg t t.nodes.length).getD (lo+j) 0))):=Hd (fun x=>by
           rw[HX.out];constructor
           ·rintro(h|⟨j,h1,h2⟩)
            ·exact .inl h
            ·exact .inr ⟨j,by omega,h2⟩
           ·rintro(h|⟨j,h1,h2,h3⟩)
            ·exact .inl h
            ·by_cases e:j=q
             ·subst e;rw[HDE.out]at h2;exact absurd hd1 h2
             ·exact .inr ⟨j,by omega,h2,h3⟩)
          subst hd1;clear hd hcd hdr;go_wp2
          go_roundw
          case rel=>exact⟨q+1,D',S',by go_num,by omega,Hd (HO.out.mono (by omega)),HS,HN,HB⟩
          case measure=>simp[intOf];omega
         ·obtain⟨hd0,hdn,hdi⟩:=hdr hd1
          have hil:=JF t d;have HIT:=Hd (show ∀W,Below w2.heap.size w2 W→Calls prog 91 #[.pointer (some ⟨s,0,none⟩),intV d] W (dL W (kB t d))from fun W hW=>CF ⟨s,⟨na,nc,some ⟨bi,oi,none⟩,ic⟩,aa,ac,some ⟨bd9,od,none⟩,dc⟩ t _ _ d W BD.out HGG.out.itemsAsc (HOP.out.prog.mono hW nlr));obtain⟨kd,hkd⟩:∃kd,kB t d=kd:=⟨_,rfl⟩
          rw[hkd]at hil HIT hdi;have HDI:=Hd hdi
          have HN:Hid (∀x,(x==(kd:Int)||S' x)=true↔(S x=true∨∃j:Nat,j<q+1∧(zg t t.nodes.length).getD (lo+j) 0 ≠ -1∧x=zY t ((zg t t.nodes.length).getD (lo+j) 0))):=Hd (fun x=>by
           rw[Bool.or_eq_true,HX.out,beq_iff_eq];constructor
           ·rintro(h|h|⟨j,h1,h2⟩)
            ·exact .inr ⟨q,by omega,by rw[HDE.out];exact hd1,by rw[HDE.out,←HDI.out];exact h⟩
            ·exact .inl h
            ·exact .inr ⟨j,by omega,h2⟩
           ·rintro(h|⟨j,h1,h2,h3⟩)
            ·exact .inr (.inl h)
            ·by_cases e:j=q
             ·subst e;rw[HDE.out,←HDI.out]at h3;exact .inl h3
             ·exact .inr (.inr ⟨j,by omega,h2,h3⟩))
          have hd2:(d != -1)=true:=by simpa using hd1
          have hd3:¬d = -1:=hd1;have hsz:=HB.out.size;clear hd hcd hdr hkd hdi hd0 hdn
          go_wp2_with (first
           | (go_at_call 91;refine(HIT.out _ HB.out).mono ?_;rintro e w6 ⟨rfl,hb6⟩;have HO6:=Hd (HO.out.below hb6);have HB6:=Hd (HB.out.trans (hb6.mono hsz));clear hb6)
           | (at_mapUpdate;refine wpList_mapUpdate_own _ rfl _ _ _ 127 rfl 3 4 law.out lY rdB w2.heap.size (1+m*1000001+q) D' rfl HO6.out (by unfold maxLen;omega) _ _ (.int .i64 (kd:Int)) rfl rfl (keyOf_int_mk fS (sG (by omega) (by omega))) (.lit (.bool true)) [] rfl ?_;intro w7 hown7 hgrow7;have HO7:=Hd hown7;have HB7:=Hd (HB6.out.grown hgrow7 HB6.out.size (fun j hj=>by cases hj;exact nlr));clear hown7 hgrow7))
          go_roundw
          case rel=>exact⟨q+1,_,_,by go_num,by omega,HO7,Hd (HS.out.put (kd:Int)),HN,HB7⟩
          case measure=>simp[intOf];omega
        ·obtain rfl:q=hi+1-lo:=by omega
         have HXN:=Hd (ER HX1.out HYES.out hk hlh hin HND.out HX.out);go_wp2
         go_roundw
         case rel=>exact⟨m+1,D',S',by first|(rw[←hk];go_num)|(congr 1;omega),by omega,Hd (HO.out.mono (by omega)),HS,HXN,HB⟩
         case measure=>first|(simp[intOf];done)|(simp[intOf];omega)
    ·obtain rfl:m=it0+1:=by omega
     rw[show(it0:Int)-((it0+1:Nat):Int) = -1 by omega]
     go_wp2_with (first
      | (at_delete;refine wpList_delete_own _ rfl _ _ 127 3 rfl 4 law.out lY rdB w2.heap.size _ D rfl HO.out _ (.int .i64 (it0:Int)) rfl (keyOf_int_mk fS (sG (by omega) (by omega))) ?_;intro w5 hown5 hturn5;have HO5:=Hd hown5;have HT5:=Hd hturn5;clear hown5 hturn5)
      | (at_range;refine wpList_range_own _ rfl _ 127 rfl 3 4 law.out lY rdB w2.heap.size _ _ rfl HO5.out ?_;intro w6 hr6 hg6 hs6;have HR6:=Hd hr6;have HG6:=Hd hg6;clear hr6 hg6))
     go_frame
     have hb5:Below w2.heap.size w2 w5:=HB.out.grown HT5.out.grown HB.out.size (fun j hj=>by cases hj;exact nlr);have HB6:=Hd (hb5.grown HG6.out hb5.size (fun j hj=>by cases hj));have hz5:=hb5.size;have HSD:=Hd (HS.out.1.del (it0:Int));obtain⟨D5,hD5⟩:∃D5,D.del (.int .i64 (it0:Int))=D5:=⟨_,rfl⟩
     rw[hD5]at HR6 HSD HO5;have hsz5:=KG HO5.out;clear hD5 HO5 HT5 HG6 HB HO HS hb5
     go_loopw [4] (fun t4 wr=>∃(q:List Int) (a:Option Addr) (c:Nat) (left:Lit→Bool) (cnt:Nat),t4=.slice a q.length c∧q.length+cnt≤1+(it0+1)*1000001∧Hid (OwnI wr (w5.heap.size+1) a c q)∧Hid (wr.ranges prog 3 rdB w2.heap.size w5.heap.size (1+(it0+1)*1000001) D5 left cnt) ∧
      Hid (∀x:Int,x∈q↔(Maps.has D5 (.int .i64 x)=true∧left (.int .i64 x)=false))∧Hid q.Nodup∧Hid (∀x:Int,left (.int .i64 x)=true→Maps.has D5 (.int .i64 x)=true)∧Hid (Below w2.heap.size w2 wr)) (fun _ wr=>wr.rangeLeft w2.heap.size w5.heap.size)
     case atStart=>exact⟨[],none,0,_,_,rfl,by simpa using hsz5,Hd ⟨rfl,.inl ⟨rfl,rfl⟩⟩,HR6,Hd (fun x=>by cases h:Maps.has D5 (.int .i64 x)<;>simp),Hd List.nodup_nil,Hd (fun x h=>h),HB6⟩
     case round=>
      obtain⟨q,a,c,left,cnt,rfl,hqc,HO,HR,HM,HN,HL,HB⟩:=hrel;have hzr:=HB.out.size;rcases HR.out.next law.out 0 with⟨h0,hlf,hrun⟩|⟨key,v,kl,y,w',cnt',hkey,hlk,hv,hat,hrun,hrg,hlt,hgr,hsz,hen⟩
      ·have HLF:=Hd hlf
       clear hlf
       go_wp2_with (go_at_call 92;refine(nY HO.out (by omega)).mono ?_;rintro e w9 ⟨rfl,own9,tn9⟩;have HO9:=Hd own9;have HT9:=Hd tn9;clear own9 tn9)
       go_ret2
       have hlow:∀i,(∃x,a=some x∧x.block=i)→w5.heap.size+1≤i:=fun i ⟨x,e,e2⟩=>by have:=(HO.out.lt x.block (by rw[e];rfl)).1;omega
       have hw2:=HOP.out.below.size;simp at hw2;refine .inl ⟨HNE.out,q,HN.out,fun x=>?_,a,c,(by rw[fY];rfl),by rw[fY];exact aY HO9.out (by omega),?_⟩
       ·rw[HM.out]
        constructor
        ·rintro⟨h1,-⟩
         obtain⟨es,-,-,h3⟩:=HSD.out;obtain⟨h4,h5⟩:=(h3 x).1 h1;exact⟨h4,(HX.out x).1 h5⟩
        ·rintro⟨h4,h5⟩
         obtain⟨es,-,-,h3⟩:=HSD.out;exact⟨(h3 x).2 ⟨h4,(HX.out x).2 h5⟩,HLF.out _⟩
       ·have b3:=HT9.out.below (B:=w2.heap.size) (fun i hi=>by have:=hlow i hi;omega) hzr
        exact boxT_below.trans (((HOP.out.below.mono (by simp)).trans ((HB.out.trans b3).mono (by omega))))
      ·obtain⟨x,rfl⟩:=MH hkey
       obtain⟨cb,rfl⟩:=JD v y hv;obtain⟨x',ex,rfl,-⟩:=Maps.keyOf_int_inv fS hkey;cases ex
       have hT:Turns (fun i=>i=w5.heap.size) wr w':=⟨hgr.os,hgr.tape,hgr.output,hgr.size,fun i hi hn=>hgr.block i hi (by simpa using hn)⟩
       have HO':=Hd (bR HO.out hT (fun i ⟨y,e,e2⟩ hi=>by have:=(HO.out.lt y.block (by rw[e];rfl)).1;omega));have HB':=Hd (HB.out.grown hgr hzr (fun j hj=>by cases hj;exact hz5));have hrl:=hrg.lt;have hxq:x ∉ q:=fun h=>by have:=((HM.out x).1 h).2;rw[hlk]at this;cases this
       have HXQ:=Hd hxq;have hrw:Row 1 (w'.alloc (.cells #[intV x] 3)) (some ⟨wr.heap.size,0,none⟩) 1 1 (zm [x]):=by rw[←hsz];exact aK _ _ _
       have HRW:=Hd hrw;clear hrw;have HRG:=Hd hrg;have HLK:=Hd hlk;have HLT:=Hd hlt;clear hkey hv hat hrg hlk hgr hT hxq
       go_wp2_with (at_builtin;refine zV (news:=[x]) rfl (.tmp 92) (.tmp 94) rfl rfl (HO'.out.alloc _) rfl HRW.out (by omega) (by simp;omega) ?_;intro a9 c9 w9 l9 HL9 hle9 hown9 hkeep9)
       have hbe:Below (w5.heap.size+1) w' w9:=hkeep9 _ _ nlr ((Below.refl _ w').alloc (by omega) _);have HR9:=Hd (xN HRG.out (hbe.block _ (by omega)) (hbe.block _ (by omega)));have HBE:=Hd hbe;have hl9:l9=q++[x]:=HL9.out;clear hbe hkeep9
       go_roundw
       case rel=>
        refine⟨l9,a9,c9,_,cnt',rfl,by rw[hl9,List.length_append,List.length_singleton];omega,Hd hown9,HR9,Hd (fun z=>?_),Hd ?_,Hd (fun z hz=>HL.out z (by simp at hz;exact hz.1)),Hd (HB'.out.trans (HBE.out.mono (by omega)))⟩
        ·rw[hl9,List.mem_append,List.mem_singleton,HM.out]
         by_cases e:z=x
         ·subst e
          simp[HL.out z HLK.out,Lit.sameKey]
         ·have hsk:(Lit.int .i64 z).sameKey (.int .i64 x)=false:=by simp[Lit.sameKey,e]
          simp[e,hsk]
        ·rw[hl9]
         exact List.nodup_append.2 ⟨HN.out,by simp,fun a ha b hb e=>HXQ.out (by rw[List.mem_singleton.1 hb]at e;exact e▸ha)⟩
       case measure=>
        rw[HR9.out.left_eq,HR.out.left_eq];exact HLT.out
 ·have hne:((zc t).2.2 != 0)=true:=by simpa using hz
  obtain⟨A1,hA1⟩:∃A1,(zc t).2.1=A1:=⟨_,rfl⟩
  obtain⟨E1,hE1⟩:∃E1,(zc t).2.2=E1:=⟨_,rfl⟩
  have hu:eU t item=E1:=by unfold eU;rw[if_pos hz,hE1]
  have he1:E1≠0:=by rw[←hE1];exact hz
  rw[hE1]at hne;have HA1:=Hd hA1;have HE1:=Hd hE1;have HZ:=Hd hz;have HU:=Hd hu;have HE0:=Hd he1;clear hA1 hE1 hz hu he1;unfold TreeV.val;go_enter func47,ntmps47
  go_wp2_with (go_at_call 88;refine HC.out.mono ?_;rintro e w2 (⟨h0,-⟩|⟨-,rfl,hb2⟩);(exact absurd h0 HZ.out);rw[HA1.out,HE1.out];have HB2:=Hd (boxT_below.trans (hb2.mono (by simp)):Below w.heap.size w w2);clear hb2)
  go_ret2
  exact .inr ⟨by rw[HU.out];exact HE0.out,by rw[HU.out];exact .nil HB2.out⟩
end
end Go.Proofs.YtokdgiphdnjeoaaGreatDoor
