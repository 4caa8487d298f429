/- Part of a proof. -/
import Derived.Test.YtokdgiphdnjeoaaGreatDoorQ14
import Derived.Test.YtokdgiphdnjeoaaGreatDoorQ20
import Derived.Test.YtokdgiphdnjeoaaGreatDoorQ29
set_option maxRecDepth 100000
set_option maxHeartbeats 8000000
set_option linter.unusedVariables false
set_option linter.unusedSimpArgs false
open Go.Proofs.Tryz
namespace Go.Proofs.YtokdgiphdnjeoaaGreatDoor
section
open Go Go.RowKit
theorem bnd2{ε α β γ:Type}{S:Except ε γ}{m:Except ε α}{f:α→Except ε β}{k:β→Except ε γ}(h:S=(m.bind f).bind k):S=m.bind fun a=>(f a).bind k:=by rw[h];cases m<;>rfl
theorem OI{c:PC}(he:OkC c){expr:RdP}{s:PS}(nm:Tk)(hexpr:∀s',s.next<s'.next→zt c 322 expr s'):∀(F:List (Nat×Obj)) (d:Nat) (X:World),PQ c s F d X→Calls prog 293 #[c.ptr,tkA nm] X (RdI c F d s.next (wT expr c.E nm s)):=by
 intro F d X h;have HE:=Hd he;have Hexpr:=Hd hexpr;have HN0:Hid (s.next≤s.next):=Hd nlr;have hmany:=he.many;obtain⟨S,hS⟩:∃S,wT expr c.E nm s=S:=⟨_,rfl⟩
 rw[hS];unfold wT at hS;obtain⟨T,hT⟩:∃T,zi c.E s=T:=⟨_,rfl⟩
 have HTL:=Hd (kX he s);rw[hT]at hS;obtain⟨k,hk⟩:∃k,fX T.text=k:=⟨_,rfl⟩
 rw[hk]at hS;have HK:=Hd hk;have hlt:(k==0)=false→s.next<c.E.toks.length:=fun h=>fV (kinds:=fX) (by decide) (by rw[hT,hk];exact h);have HLT:=Hd hlt;have HT:=Hd hT;have HP0:=Hd (h.alloc (tkO nm));obtain⟨z,hz⟩:∃z,(X.alloc (tkO nm)).heap.size=z:=⟨_,rfl⟩
 have HZ:=Hd hz;clear he h hexpr hT hk hlt hz;have hk0:0≤k∧k≤8:=HK.out▸uZ T.text;obtain⟨c0_00,c0_01,c0_02⟩:=HP0.out.own.tk (b:=X.heap.size) (t:=nm) (by simp);cases h0:(k==0)with
 | true=>
   have hse:S=.error T.pos:=by rw[←hS,if_pos h0]
   have HSE:=Hd hse;clear hS hse;go_enter func293,ntmps293
   go_wp2_with (first
    | (go_at_call 242;refine(oE HE.out HP2.out HT.out).mono ?_;rintro e w3 ⟨rfl,hb⟩)
    | (go_at_call 241;refine(zM HE.out HP1.out HT.out).mono ?_;rintro e w2 ⟨rfl,hp⟩;have HP2:=Hd hp;clear hp;have hlk:=HLK.out w2 (HP2.out.own (z,o) (by simp)) T.text (by rw[←HT.out];exact HTL.out);rw[HK.out]at hlk;obtain⟨c2_00,c2_01,c2_02⟩:=HP2.out.own.tk (b:=X.heap.size) (t:=nm) (by simp);)
    | (go_at_call 323;refine(lD HP0.out HZ.out).mono ?_;rintro e w1 ⟨rfl,o,hp,hlk⟩;have HP1:=Hd hp;have HLK:=Hd hlk;clear hp hlk;obtain⟨c1_00,c1_01,c1_02⟩:=HP1.out.own.tk (b:=X.heap.size) (t:=nm) (by simp);))
   exact⟨rfl,.er HSE.out hb⟩
 | false=>
   rw[if_neg (by rw[h0];exact Bool.false_ne_true)]at hS;have HS0:=Hd hS.symm;have HK0:=Hd h0;clear hS;cases h7:(k==7)with
   | true=>
     have HS3:=Hd (zj (LV HS0.out h7) rfl);have HLK3:=Hd (KL.nil c);go_enter func293,ntmps293
     go_wp2_with (first
      | (go_at_call 316;refine(oD HE.out HP3.out 46 nm [] k HLK3.out).mono ?_;rintro e w4 ⟨rfl,hp⟩;have HP4:=Hd hp;clear hp)
      | (go_at_call 243;refine(iP HE.out HP2.out HT.out (HLT.out HK0.out)).mono ?_;rintro e w3 ⟨rfl,hp⟩;have HP3:Hid (PQ c _ ([]++_) _ w3):=Hd hp;clear hp hlk;have HN3:Hid (s.next<_):=Hd (Nat.lt_succ_of_le HN0.out);obtain⟨c3_00,c3_01,c3_02⟩:=HP3.out.own.tk (b:=X.heap.size) (t:=nm) (by simp);)
      | (go_at_call 241;refine(zM HE.out HP1.out HT.out).mono ?_;rintro e w2 ⟨rfl,hp⟩;have HP2:=Hd hp;clear hp;have hlk:=HLK.out w2 (HP2.out.own (z,o) (by simp)) T.text (by rw[←HT.out];exact HTL.out);rw[HK.out]at hlk;obtain⟨c2_00,c2_01,c2_02⟩:=HP2.out.own.tk (b:=X.heap.size) (t:=nm) (by simp);)
      | (go_at_call 323;refine(lD HP0.out HZ.out).mono ?_;rintro e w1 ⟨rfl,o,hp,hlk⟩;have HP1:=Hd hp;have HLK:=Hd hlk;clear hp hlk;obtain⟨c1_00,c1_01,c1_02⟩:=HP1.out.own.tk (b:=X.heap.size) (t:=nm) (by simp);))
     go_ret;exact .ok HS3.out (Nat.le_of_lt HN3.out) ((HP4.out.drop.drop).less (by omega))
   | false=>
     cases h8:(k==8)with
     | true=>
       have HS3:=Hd (LV (IP HS0.out h7) h8);go_enter func293,ntmps293
       go_wp2_with (first
        | (go_at_call 316;refine(oD HE.out HP4.out 46 nm [] k HLK4.out).mono ?_;rintro e w5 ⟨rfl,hp⟩;have HP5:=Hd hp;clear hp)
        | (go_at_call 317;refine(mB HE.out (fun s2 h2=>Hexpr.out s2 (Nat.lt_of_lt_of_le HN3.out h2)) HP3.out).mono ?_;rintro e w4 (⟨ps,hr,rfl,hb⟩|⟨l4,s4,q4,cp4,K4,hr,rfl,hn,hlk4,hkl,hp⟩);(exact⟨rfl,.er (zk HS3.out hr) hb⟩);have HS4:=Hd (zj HS3.out hr);have HP4:=Hd hp;have HLK4:=Hd hkl;clear hp hr hlk4 hkl;have HN4:=Hd (Nat.lt_of_lt_of_le HN3.out hn);clear hn;obtain⟨c4_00,c4_01,c4_02⟩:=HP4.out.own.tk (b:=X.heap.size) (t:=nm) (by simp);)
        | (go_at_call 243;refine(iP HE.out HP2.out HT.out (HLT.out HK0.out)).mono ?_;rintro e w3 ⟨rfl,hp⟩;have HP3:=Hd hp;clear hp hlk;have HN3:Hid (s.next<_):=Hd (Nat.lt_succ_of_le HN0.out);obtain⟨c3_00,c3_01,c3_02⟩:=HP3.out.own.tk (b:=X.heap.size) (t:=nm) (by simp);)
        | (go_at_call 241;refine(zM HE.out HP1.out HT.out).mono ?_;rintro e w2 ⟨rfl,hp⟩;have HP2:=Hd hp;clear hp;have hlk:=HLK.out w2 (HP2.out.own (z,o) (by simp)) T.text (by rw[←HT.out];exact HTL.out);rw[HK.out]at hlk;obtain⟨c2_00,c2_01,c2_02⟩:=HP2.out.own.tk (b:=X.heap.size) (t:=nm) (by simp);)
        | (go_at_call 323;refine(lD HP0.out HZ.out).mono ?_;rintro e w1 ⟨rfl,o,hp,hlk⟩;have HP1:=Hd hp;have HLK:=Hd hlk;clear hp hlk;obtain⟨c1_00,c1_01,c1_02⟩:=HP1.out.own.tk (b:=X.heap.size) (t:=nm) (by simp);))
       go_ret;exact .ok HS4.out (Nat.le_of_lt HN4.out) ((HP5.out.drop.drop).less (by omega))
     | false=>
       have HS3:=Hd (bnd2 (IP (IP HS0.out h7) h8));have HLK4:=Hd (KL.nil c);go_enter func293,ntmps293
       go_wp2_with (first
        | (go_at_call 316;refine(oD HE.out HP5.out 46 nm [] k HLK5.out).mono ?_;rintro e w6 ⟨rfl,hp⟩;have HP6:=Hd hp;clear hp)
        | (at_builtin;have hpa:=(HP4.out.alloc (.cells #[intV a4] 3)).drop;have hbl:=(show([]:List Int).length≤900 by simp);refine zR (news:=[a4]) rfl (.tmp 19) (.tmp 22) rfl rfl (HLK4.out.own _ hpa.own.left) rfl (aK _ _ _) (by omega) (by have:=hpa.lt;omega) ?_;intro aa5 cc5 w5 l5 HLE5 hle5 hown5 hkeep5 hap5;obtain⟨K5,hk5,hp5⟩:=hpa.appended HLK4.out hown5 hkeep5 hap5;have HLK5:=Hd hk5;have HP5:=Hd hp5;have HS5:=HS4;have HN5:=HN4;clear hpa hown5 hkeep5 hap5 hk5 hp5;obtain⟨c5_00,c5_01,c5_02⟩:=HP5.out.own.tk (b:=X.heap.size) (t:=nm) (by simp);)
        | (go_at_call 322;refine(Hexpr.out _ HN3.out _ _ _ HP3.out).mono ?_;rintro e w4 (⟨ps,hr,rfl,hb⟩|⟨a4,s4,hr,rfl,hn,hp⟩);(exact⟨rfl,.er (zk HS3.out hr) hb⟩);have hu:=zj HS3.out hr;have HS4:=Hd (zj hu rfl);clear hu;have HP4:Hid (PQ c _ ([]++_) _ w4):=Hd hp;clear hp hr;have HN4:=Hd (Nat.lt_of_lt_of_le HN3.out hn);clear hn;obtain⟨c4_00,c4_01,c4_02⟩:=HP4.out.own.tk (b:=X.heap.size) (t:=nm) (by simp);)
        | (go_at_call 243;refine(iP HE.out HP2.out HT.out (HLT.out HK0.out)).mono ?_;rintro e w3 ⟨rfl,hp⟩;have HP3:=Hd hp;clear hp hlk;have HN3:Hid (s.next<_):=Hd (Nat.lt_succ_of_le HN0.out);obtain⟨c3_00,c3_01,c3_02⟩:=HP3.out.own.tk (b:=X.heap.size) (t:=nm) (by simp);)
        | (go_at_call 241;refine(zM HE.out HP1.out HT.out).mono ?_;rintro e w2 ⟨rfl,hp⟩;have HP2:=Hd hp;clear hp;have hlk:=HLK.out w2 (HP2.out.own (z,o) (by simp)) T.text (by rw[←HT.out];exact HTL.out);rw[HK.out]at hlk;obtain⟨c2_00,c2_01,c2_02⟩:=HP2.out.own.tk (b:=X.heap.size) (t:=nm) (by simp);)
        | (go_at_call 323;refine(lD HP0.out HZ.out).mono ?_;rintro e w1 ⟨rfl,o,hp,hlk⟩;have HP1:=Hd hp;have HLK:=Hd hlk;clear hp hlk;obtain⟨c1_00,c1_01,c1_02⟩:=HP1.out.own.tk (b:=X.heap.size) (t:=nm) (by simp);))
       go_ret;have hS:S=.ok ((s4.nodes.length:Int),addP s4 46 nm [] k l5):=by rw[HS5.out,HLE5.out];rfl
       exact .ok hS (Nat.le_of_lt HN5.out) ((HP6.out.drop.drop).less (by omega))
abbrev PC.withIv(c:PC)(v:Value):PC:=⟨c.w0,c.E,c.ta,c.tc,v⟩
theorem IsPar.setIv{w0 W:World}{E:PE}{ta:Option Addr}{tc:Nat}{iv:Value}{s:PS}{G:Nat→Prop}(h:IsPar w0 E ta tc iv s G W)(v:Value):IsPar w0 E ta tc v s G (W.setCell ⟨w0.heap.size,4,none⟩ v):=by
 obtain⟨h1,h2,h3,h4,h6,h7,⟨na,nc,ks,h5,h8,h8a,h8k⟩,hg,hm,h9⟩:=h;have hne:∀i,i≠4→(W.setCell ⟨w0.heap.size,4,none⟩ v).cell? ⟨w0.heap.size,i,none⟩=W.cell? ⟨w0.heap.size,i,none⟩:=fun i hi=>World.cell?_setCell_other _ _ _ _ (fun e=>hi (by injection e with _ e2;omega));exact⟨h1.setCell (by simp) _,(hne 0 (by omega)).trans h2,(hne 1 (by omega)).trans h3,(hne 2 (by omega)).trans h4,World.cell?_setCell_same _ _ _ h6,fun i=>by rw[World.frozen?_setCell];exact h7 i,⟨na,nc,ks,(hne 3 (by omega)).trans h5,h8.setCell (by simp) _,h8a,h8k⟩,hg,fun i hi=>by simpa using hm i hi,h9⟩
theorem PQ.setIv{c:PC}{s:PS}{F:List (Nat×Obj)}{d:Nat}{X:World}(h:PQ c s F d X)(v:Value):PQ (c.withIv v) s F d (X.setCell ⟨c.w0.heap.size,4,none⟩ v):=by
 obtain⟨⟨G,g⟩,hd⟩:=h;refine⟨⟨G,g.par.setIv v,fun p hp=>?_,g.out,g.nd⟩,hd⟩;have:=(g.out p hp).1;exact(Below.heap_setCell _ _ _ _ (by simp only;omega)).trans (g.own p hp)
theorem PQ.iv{c:PC}{s:PS}{F:List (Nat×Obj)}{d:Nat}{X:World}(h:PQ c s F d X):X.cell? ⟨c.w0.heap.size,4,none⟩=some c.iv∧X.frozen? ⟨c.w0.heap.size,4,none⟩=false:=by
 obtain⟨⟨G,g⟩,hd⟩:=h;exact⟨g.par.c4,g.par.fr 4⟩
theorem PQ.c02{c:PC}{s:PS}{F:List (Nat×Obj)}{d:Nat}{X:World}(h:PQ c s F d X):X.cell? ⟨c.w0.heap.size,0,none⟩=some (.slice c.ta c.E.toks.length c.tc)∧X.cell? ⟨c.w0.heap.size,2,none⟩=some (intV s.next):=by
 obtain⟨⟨G,g⟩,hd⟩:=h;exact⟨g.par.c0,g.par.c2⟩
theorem PQ.perm{c:PC}{s:PS}{F F':List (Nat×Obj)}{d:Nat}{X:World}(h:PQ c s F d X)(hp:F.Perm F'):PQ c s F' d X:=by
 obtain⟨⟨G,g⟩,hd⟩:=h;exact⟨⟨G,g.par,fun p hm=>g.own p (hp.mem_iff.2 hm),fun p hm=>g.out p (hp.mem_iff.2 hm),(hp.map Prod.fst).nodup_iff.1 g.nd⟩,hd⟩
theorem KL.iv{c:PC}{K:List (Nat×Obj)}{a:Option Addr}{cp:Nat}{l:List Int}(h:KL c K a cp l)(v:Value):KL (c.withIv v) K a cp l:=⟨h.own,h.at_⟩
theorem oK{W:World}{B:Nat}{av:Option Addr}{cv:Nat}{l:List Int}(hown:OwnI W B av cv l){ax:Option Addr}{m c:Nat}{news:List Int}(hr:Row 1 W ax m c (zm news))
 (hbytes:l.length+m≤4398046511104)(hB:B≤W.heap.size) :
 ∃a' c' w' l',(Builtin.append_ #[23,23] 23 #[.slice av l.length cv,.slice ax m c]).run prog W=.ok (.slice a' l'.length c') w'∧Hid (l'=l++news)∧OwnI w' B a' c' l'∧(∀B' A,B'≤B→Below B' A W→Below B' A w')∧(∀g,g<W.heap.size→gK av g→w'.heap[g]?=W.heap[g]?∧gK a' g):=by
 have hm:m=news.length:=by have:=hr.1;simpa using this.symm
 subst hm;obtain⟨i0,hi,hz0,hz1,hz2⟩:=info_parts jU;obtain⟨v',w',hrun,h2,h3⟩:=aZ (P:=prog) W B 23 23 3 i0 (.int .i64 0) 1 8 bM hi hz0 hz1 hz2 rfl (by decide) (.slice av l.length cv) l.length _ hown ax news.length c _ hr (fC _) (by unfold maxLen;omega) (by omega) hB;obtain⟨a',c',rfl,_⟩:=bK h2;have hw:=dM (P:=prog) W B 23 23 3 i0 (.int .i64 0) 1 8 bM hi hz0 hz1 hz2 rfl (by decide) av l.length cv _ hown ax news.length c _ hr (fC _) (by unfold maxLen;omega) (by omega) hB hrun;have e:l.length+news.length=(l++news).length:=by simp
 have e2:zm l++zm news=zm (l++news):=by simp
 rw[e,e2]at h2;rw[e]at hrun;exact⟨a',c',w',l++news,hrun,Hd rfl,h2,eC hown h3 hB,kP h3 hw⟩
theorem PQ.itemed{c:PC}{s:PS}{K F:List (Nat×Obj)}{d:Nat}{W:World}{a:Option Addr}{cp:Nat}{l:List Int}(h:PQ c s (K++F) d W)(hk:KL c K a cp l)(hl:l.length≤1000)(x:Int){n:Nat}(hn:W.heap.size=n) :
 ∃a' c' w3 l' K',(Builtin.append_ #[23,23] 23 #[.slice a l.length cp,.slice (some ⟨n,0,none⟩) 1 1]).run prog (W.alloc (.cells #[intV x] 3))=.ok (.slice a' l'.length c') w3∧Hid (l'=l++[x])∧KL c K' a' c' l'∧PQ c s (K'++F) d w3:=by
 subst hn;have hpa:=(h.alloc (.cells #[intV x] 3)).drop;obtain⟨a',c',w3,l',hrun,hl',hown,hkeep,hap⟩:=oK (news:=[x]) (hk.own _ hpa.own.left) (aK W (intV x) 3) (by omega) (by have:=hpa.lt;omega);obtain⟨K',hk',hp'⟩:=hpa.appended hk hown hkeep hap;exact⟨a',c',w3,l',K',hrun,hl',hk',hp'⟩
theorem MJ{E:PE}{s:PS}{T:Tk}(hT:zi E s=T)(h:eD T.text=false):pG E s=.error T.pos:=by
 have hn:∀p∈itemT,p.1≠T.text:=fun p hp e=>by
  unfold eD at h;rw[List.any_eq_false]at h;exact h p hp (by rw[e];simp)
 unfold pG;rw[hT];split
 ·rfl
 ·have k0:¬T.text=xX:=fun e=>hn _ (List.mem_cons_self ..) e.symm
  have k1:¬T.text=NB:=fun e=>hn _ (List.mem_cons_of_mem _ (List.mem_cons_self ..)) e.symm;have k2:¬T.text=wFun:=fun e=>hn _ (List.mem_cons_of_mem _ (List.mem_cons_of_mem _ (List.mem_cons_self ..))) e.symm;have k3:¬T.text=wLet:=fun e=>hn _ (List.mem_cons_of_mem _ (List.mem_cons_of_mem _ (List.mem_cons_of_mem _ (List.mem_cons_self ..)))) e.symm;have k4:¬T.text=sW:=fun e=>hn _ (List.mem_cons_of_mem _ (List.mem_cons_of_mem _ (List.mem_cons_of_mem _ (List.mem_cons_of_mem _ (List.mem_cons_self ..))))) e.symm;have k5:¬T.text=sX:=fun e=>hn _ (List.mem_cons_of_mem _ (List.mem_cons_of_mem _ (List.mem_cons_of_mem _ (List.mem_cons_of_mem _ (List.mem_cons_of_mem _ (List.mem_cons_self ..)))))) e.symm;have k6:¬T.text=wAsk:=fun e=>hn _ (List.mem_cons_of_mem _ (List.mem_cons_of_mem _ (List.mem_cons_of_mem _ (List.mem_cons_of_mem _ (List.mem_cons_of_mem _ (List.mem_cons_of_mem _ (List.mem_cons_self ..))))))) e.symm;rw[if_neg k0,if_neg k1,if_neg k2,if_neg k3,if_neg k4,if_neg k5,if_neg k6]
theorem EJ{E:PE}{s:PS}{T:Tk}(hT:zi E s=T)(h:(T.kind != 3)=true):pG E s=.error T.pos:=by
 unfold pG;rw[hT,if_pos h]
theorem xC{x:List UInt8}(h:eD x=true):∀args w,(callFunc (pF x) args).run prog w=.ok (.enter (pF x) args) w:=by
 unfold eD at h;rw[List.any_eq_true]at h;obtain⟨p,hp,e⟩:=h;obtain rfl:=eq_of_beq e;simp only[itemT,List.mem_cons,List.not_mem_nil,or_false]at hp;rcases hp with rfl|rfl|rfl|rfl|rfl|rfl|rfl
 ·exact enters_of func287 (by kernel_rfl) rfl
 ·exact enters_of func288 (by kernel_rfl) rfl
 ·exact enters_of func289 (by kernel_rfl) rfl
 ·exact enters_of func290 (by kernel_rfl) rfl
 ·exact enters_of func291 (by kernel_rfl) rfl
 ·exact enters_of func292 (by kernel_rfl) rfl
 ·exact enters_of func293 (by kernel_rfl) rfl
theorem BN{c:PC}(he:OkC c){s:PS}{T:Tk}(hT:zi c.E s=T)(hh:eD T.text=true)(hk:(T.kind != 3)=false) :
 ∀(F:List (Nat×Obj)) (d:Nat) (X:World),PQ c s.take F (d+1) X→Calls prog (pF T.text) #[c.ptr,tkA T] X (RdI c F d s.take.next (pG c.E s)):=by
 have hrd:∀nt s',s.take.next<s'.next→zt c (fnNT nt) (rdP c.E nt) s':=fun nt s' _=>KN he nt s'
 have hi:pG c.E s=if T.text=xX then kM c.E T s.take
  else if T.text=NB then kT (rdP c.E .param) c.E T s.take
  else if T.text=wFun then fM (rdP c.E .param) (rdP c.E .kindOf) (rdP c.E .expr) c.E T s.take
  else if T.text=wLet then letP (rdP c.E .expr) c.E T s.take
  else if T.text=sW then lT (rdP c.E .expr) c.E T s.take
  else if T.text=sX then iI c.E T s.take
  else if T.text=wAsk then wT (rdP c.E .expr) c.E T s.take
  else .error T.pos:=by
  unfold pG;rw[hT,if_neg (by rw[hk];exact Bool.false_ne_true)]
 intro F d X h;have h':=h.less (Nat.le_succ d);rw[hi];unfold eD at hh;rw[List.any_eq_true]at hh;obtain⟨p,hp,e⟩:=hh;have e:=eq_of_beq e;simp only[itemT,List.mem_cons,List.not_mem_nil,or_false]at hp;rcases hp with rfl|rfl|rfl|rfl|rfl|rfl|rfl<;>(simp only at e;rw[←e])
 ·exact ID he T F d X h'
 ·exact IF he T (hrd .param) F d X h'
 ·exact AP he T (hrd .param) (hrd .kindOf) (hrd .expr) F d X h'
 ·exact OK he T (hrd .expr) F d X h'
 ·exact DG he T (hrd .expr) F d X h'
 ·exact DJ he T F d X h'
 ·exact OI he T (hrd .expr) F d X h'
theorem xM{E:PE}{f:Nat}{l:List Int}{s:PS}(h:¬s.next<E.toks.length):bS E f l s=.ok (l,s):=by
 cases f with
 |zero=>rfl
 |succ f=>unfold bS;rw[if_neg h]
theorem uY{E:PE}{f:Nat}{l:List Int}{s:PS}(h:s.next<E.toks.length):bS E (f+1) l s=(pG E s).bind fun r=>(cM E r.2 MU).bind fun s2=>bS E f (l++[r.1]) s2:=by
 conv=>lhs;unfold bS
 rw[if_pos h]
def RdA(c:PC)(F:List (Nat×Obj))(S:PR (List Int×PS))(e:Ending)(Y:World):Prop:=
 (∃pos,S=.error pos∧Thrown c.w0 pos e Y)∨∃l s' a cp K,S=.ok (l,s')∧e=.returned (.tuple #[])∧KL c K a cp l∧PQ (c.withIv (.slice a l.length cp)) s' (K++F) 0 Y
theorem RdA.er{c:PC}{F:List (Nat×Obj)}{S:PR (List Int×PS)}{pos:Int}{Y:World}(h:S=.error pos)(hb:Below c.w0.heap.size c.w0 Y):RdA c F S (.panicked [{ v:=rS pos,recovered:=false }]) Y:=.inl ⟨pos,h,rfl,hb⟩
theorem DI{c:PC}(he:OkC c)(hiv:c.iv=.slice none 0 0){F:List (Nat×Obj)}{X:World}(h:PQ c ⟨0,[]⟩ F 0 X) :
 Calls prog 176 #[c.ptr] X (RdA c F (bS c.E (c.E.toks.length+1) [] ⟨0,[]⟩)):=by
 obtain⟨S,hS⟩:∃S,bS c.E (c.E.toks.length+1) [] ⟨0,[]⟩=S:=⟨_,rfl⟩
 rw[hS];have hmany:=he.many;obtain⟨w0,E,ta,tc,iv⟩:=c;simp only at hiv hS hmany;subst hiv;have HE:Hid (∀v,OkC ⟨w0,E,ta,tc,v⟩):=Hd (fun v=>he);have HS0:=Hd hS.symm;have HP0:=Hd h;clear he h hS;have hmo:prog.follows .mixedOrders=true:=by kernel_rfl
 obtain⟨z,hz⟩:∃z,X.heap.size=z:=⟨_,rfl⟩
 have HZ:=Hd hz;clear hz;go_enter func176,ntmps176
 go_wp2_with (go_at_call 240;refine(LO HP0.out HZ.out).mono ?_;rintro e w1 ⟨rfl,o,hp,hlk⟩;have HP1:=Hd hp;have HLK:=Hd hlk;clear hp hlk)
 go_loopw [3] (fun _ wr=>∃(a:Option Addr) (cp:Nat) (l:List Int) (sk:PS) (f:Nat) (K:List (Nat×Obj)),Hid (S=bS E f l sk)∧Hid (E.toks.length+1≤f+sk.next∧l.length≤sk.next)∧Hid (KL ⟨w0,E,ta,tc,.slice none 0 0⟩ K a cp l)∧Hid (PQ ⟨w0,E,ta,tc,.slice a l.length cp⟩ sk (K++((z,o)::F)) 0 wr)) (fun _ wr=>lO ⟨w0,E,ta,tc,.slice none 0 0⟩ wr)
 case atStart=>exact⟨none,0,[],⟨0,[]⟩,_,[],HS0,Hd ⟨by simp,by simp⟩,Hd (KL.nil _),HP1⟩
 case round=>
  obtain⟨a,cp,l,sk,f,K,HSK,HNK,HKK,HPK⟩:=hrel;have hnk:=HPK.out.next;have HML:=Hd HPK.out.meas;obtain⟨j0,j2⟩:=HPK.out.c02;simp only at j0 j2 hnk;obtain⟨n,hn⟩:∃n,sk.next=n:=⟨_,rfl⟩
  rw[hn]at j2;by_cases hlt:sk.next<E.toks.length
  ·obtain⟨f,rfl⟩:∃g,f=g+1:=⟨f-1,by have:=HNK.out.1;omega⟩
   have hs1:=HSK.out.trans (uY hlt);have HLT:=Hd hlt;obtain⟨T,hT⟩:∃T,zi E sk=T:=⟨_,rfl⟩
   have HT:=Hd hT;have HTL:=Hd (kX (HE.out (.slice a l.length cp)) sk);have hlt':n<E.toks.length:=by omega
   have HN:=Hd hn;clear hn hlt hnk
   cases hh:eD T.text with
   | false=>
     have HSE:=Hd (zk hs1 (MJ hT hh));have HHH:=Hd hh;clear hs1 hT hh;go_wp2;go_region
     go_wp2_with (go_at_call 241;refine(zM (HE.out _) HPK.out.drew HT.out).mono ?_;rintro e w2 ⟨rfl,hp⟩;have HP2:=Hd (hp.alloc (tkO T));clear hp;obtain⟨c0,c1,c2⟩:=HP2.out.own.tk (b:=w2.heap.size) (t:=T) (by simp);obtain⟨vv,hlk⟩:=EM (HLK.out _ (HP2.out.own (z,o) (by simp))) (by rw[←HT.out];exact HTL.out) HHH.out)
     go_wp2_with (go_at_call 242;refine(oE (HE.out _) HP2.out HT.out).mono ?_;rintro e w3 ⟨rfl,hb⟩)
     exact⟨rfl,.er HSE.out hb⟩
   | true=>
     cases hw:(T.kind != 3)with
     | true=>
       have HSE:=Hd (zk hs1 (EJ hT hw));have HHH:=Hd hh;clear hs1 hT hh;go_wp2;go_region
       go_wp2_with (go_at_call 241;refine(zM (HE.out _) HPK.out.drew HT.out).mono ?_;rintro e w2 ⟨rfl,hp⟩;have HP2:=Hd (hp.alloc (tkO T));clear hp;obtain⟨c0,c1,c2⟩:=HP2.out.own.tk (b:=w2.heap.size) (t:=T) (by simp);have hlk:=uN (HLK.out _ (HP2.out.own (z,o) (by simp))) (by rw[←HT.out];exact HTL.out) HHH.out)
       go_wp2_with (go_at_call 242;refine(oE (HE.out _) HP2.out HT.out).mono ?_;rintro e w3 ⟨rfl,hb⟩)
       exact⟨rfl,.er HSE.out hb⟩
     | false=>
       have hll:l.length≤1000:=by have:=HNK.out.2;have:=HN.out;omega
       have HHH:=Hd hh;have HRD:=Hd (BN (HE.out (.slice a l.length cp)) hT hh hw);have HENT:=Hd (xC hh);have HS1:=Hd hs1;obtain⟨fn,hfn⟩:∃fn,pF T.text=fn:=⟨_,rfl⟩
       rw[hfn]at HRD HENT;have HFN:=Hd hfn;clear hs1 hT hh hfn;go_wp2;go_region
       go_wp2_with (first
        | (go_at_call 241;refine(zM (HE.out _) HPK.out.drew HT.out).mono ?_;rintro e w2 ⟨rfl,hp⟩;have HP2:=Hd (hp.alloc (tkO T));clear hp;obtain⟨c0,c1,c2⟩:=HP2.out.own.tk (b:=w2.heap.size) (t:=T) (by simp);have hlk:=uN (HLK.out _ (HP2.out.own (z,o) (by simp))) (by rw[←HT.out];exact HTL.out) HHH.out;rw[HFN.out]at hlk)
        | (go_at_call 243;refine(iP (HE.out _) HP2.out HT.out HLT.out).mono ?_;rintro e w3 ⟨rfl,hp⟩;have HP3:=Hd hp;clear hp hlk))
       refine N.region_C [false,false,false,false,false,false,false,false,false,true,true,true,false,false,false,true] [?vC1_0,?vC1_1,?vC1_2,?vC1_3,?vC1_4,?vC1_5,?vC1_6,?vC1_7,?vC1_8,undef,undef,undef,?vC1_12,?vC1_13,?vC1_14,undef] hmo (by kernel_rfl) (by kernel_rfl) (by kernel_rfl) (by kernel_rfl) rfl rfl (fun ch w=>RdA ⟨w0,E,ta,tc,.slice none 0 0⟩ F S (.panicked ch) w) (fun ch b w hd h=>⟨hd,h⟩) (fun Wz=>Wz.heap[w2.heap.size]?=some (tkO T)∧Wz.cell? ⟨w0.heap.size,4,none⟩=some (.slice a l.length cp)) ⟨HP3.out.drew.own (w2.heap.size,tkO T) (by simp),HP3.out.drew.iv.1⟩ ?wC1_ ?_
       case wC1_=>
        iterate 9 (refine N.WalkC.still (N.StillP.known rfl ?_) ?_;(intro W hJ;obtain⟨hj0,hj4⟩:=hJ;have j00:=za (i:=0) hj0 rfl;have j01:=za (i:=1) hj0 rfl;have j02:=za (i:=2) hj0 rfl;go_simp;rfl);simp only[N.pz])
        refine N.WalkC.chain fun u9=>?_;simp only[N.pz];refine N.WalkC.chain fun u10=>?_;simp only[N.pz];refine N.WalkC.chain fun u11=>?_;simp only[N.pz]
        iterate 3 (refine N.WalkC.still (N.StillP.known rfl ?_) ?_;(intro W hJ;obtain⟨hj0,hj4⟩:=hJ;have j00:=za (i:=0) hj0 rfl;have j01:=za (i:=1) hj0 rfl;have j02:=za (i:=2) hj0 rfl;go_simp;rfl);simp only[N.pz])
        refine N.WalkC.chain fun u15=>?_;simp only[N.pz];exact .nil
       iterate 9 (refine N.TailC.still ?_;simp only[N.pz])
       refine N.TailC.call (f:=fn) (args:=#[.pointer (some ⟨w0.heap.size,0,none⟩),tkA T]) rfl ?a9 ?_;case a9=>have hent:=HENT.out;go_simp;try rfl
       refine(HRD.out _ _ _ HP3.out.drew).mono ?_;rintro e w4 (⟨ps,hr,rfl,hb⟩|⟨a4,s4,hr,rfl,hn4,hp⟩)
       ·exact .inr ⟨_,rfl,.er (zk HS1.out hr) hb⟩
       have HS4:=Hd (zj HS1.out hr);have HP4:=Hd hp;have HN4:=Hd hn4;clear hp hn4 hr;refine .inl ⟨_,rfl,(fun _=>⟨HP4.out.own (w2.heap.size,tkO T) (by simp),HP4.out.iv.1⟩),?_⟩;simp only[N.pz];refine N.TailC.run (v:=.slice (some ⟨w4.heap.size,0,none⟩) 1 1) (w':=w4.alloc (.cells #[intV a4] 3)) rfl ?a10 (fun _=>⟨(HP4.out.alloc _).drop.own (w2.heap.size,tkO T) (by simp),(HP4.out.alloc _).drop.iv.1⟩) ?b10;case a10=>go_simp;try rfl
       simp only[N.pz];obtain⟨a5,c5,w5,l5,K5,hrun,HL5,hk5,hp5⟩:=(HP4.out.perm (List.perm_middle.symm)).itemed (HKK.out.iv _) hll a4 rfl;refine N.TailC.append rfl (.tmp 42) (.tmp 47) 23 rfl rfl rfl hrun (fun _=>⟨hp5.own (w2.heap.size,tkO T) (by simp),hp5.iv.1⟩) ?_;simp only[N.pz]
       iterate 3 (refine N.TailC.still ?_;simp only[N.pz])
       refine N.TailC.skips (w':=w5.setCell ⟨w0.heap.size,4,none⟩ (.slice a5 l5.length c5)) rfl ?a15 (fun h=>absurd rfl h) ?b15;case a15=>obtain⟨jc,jf⟩:=hp5.iv;go_simp;try rfl
       simp only[N.pz];refine N.TailC.nil ?_;have HP5:=Hd (hp5.setIv (.slice a5 l5.length c5));have HK5:=Hd hk5;clear hp5 hk5 hrun
       go_wp2_with (go_at_call 244;refine(bC (HE.out _) HP5.out _).mono ?_;rintro e w6 (⟨ps,hr,rfl,hb⟩|⟨hr,-,rfl,hp⟩);(exact⟨rfl,.er (zk HS4.out hr) hb⟩);have HS6:=Hd (zj HS4.out hr);have HP6:=Hd hp;clear hp hr)
       go_roundw
       case rel=>
        have h4:sk.next+1≤s4.next:=HN4.out;have h5:=congrArg List.length HL5.out;simp only[List.length_append,List.length_singleton]at h5;exact⟨a5,c5,l5,s4.take,f,K5,by rw[HL5.out];exact HS6,Hd ⟨by have:=HNK.out.1;show _≤f+(s4.next+1);omega,by have:=HNK.out.2;show _≤s4.next+1;omega⟩,Hd (HK5.out.iv _),Hd ((HP6.out.sub (List.Sublist.append (List.Sublist.refl _) (List.sublist_cons_self _ _))).less (by omega))⟩
       case measure=>
        have h4:sk.next+1≤s4.next:=HN4.out;have h1:lO ⟨w0,E,ta,tc,.slice none 0 0⟩ w6=E.toks.length-(s4.next+1):=HP6.out.meas;have h2:lO ⟨w0,E,ta,tc,.slice none 0 0⟩ wr=E.toks.length-sk.next:=HML.out;have h3:=HLT.out;rw[h1,h2];omega
  ·have HSE:=Hd (HSK.out.trans (xM hlt))
   have hge:¬(n:Int)<(E.toks.length:Int):=by omega
   clear hn hlt hnk;go_wp2;go_region;go_wp2
   go_end0
   exact .inr ⟨l,sk,a,cp,K,HSE.out,rfl,HKK.out,HPK.out.drew.sub (List.Sublist.append (List.Sublist.refl _) (List.sublist_cons_self _ _))⟩
end
end Go.Proofs.YtokdgiphdnjeoaaGreatDoor
