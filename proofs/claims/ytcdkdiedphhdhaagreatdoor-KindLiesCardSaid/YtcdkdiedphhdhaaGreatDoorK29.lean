/- Part of a proof. -/
import Derived.Test.YtcdkdiedphhdhaaGreatDoorK22
import Derived.Test.YtcdkdiedphhdhaaGreatDoorK28
set_option maxRecDepth 100000
set_option maxHeartbeats 8000000
set_option linter.unusedVariables false
set_option linter.unusedSimpArgs false
open Go.Proofs.Tryz
namespace Go.Proofs.YtcdkdiedphhdhaaGreatDoor
section
open Go Go.RowKit
theorem bnd2{ε α β γ:Type}{S:Except ε γ}{m:Except ε α}{f:α->Except ε β}{k:β->Except ε γ}(h:S=(m.bind f).bind k):S=m.bind fun a=>(f a).bind k:=by rw[h];cases m<;>rfl
theorem RY{c:PC}(he:OkC c){expr:RdP}{s:PS}(nm:Tk)(hexpr:∀s',s.next<s'.next->zx c 205 expr s'):∀(F:List (Nat×Obj)) (d:Nat) (X:World),PQ c s F d X->Calls prog 171 #[c.ptr,tkA nm] X (RdI c F d s.next (yL expr c.E nm s)):=by
 intro F d X h;have HE:=Hd he;have Hf:=Hd hexpr;have Hs:Hid (s.next<=s.next):=Hd nlr;have hm:=he.many;obtain⟨S,hS⟩:∃S,yL expr c.E nm s=S:=⟨_,rfl⟩
 rw[hS];unfold yL at hS;obtain⟨T,hT⟩:∃T,zh c.E s=T:=⟨_,rfl⟩
 have Hm:=Hd (tX he s);rw[hT]at hS;obtain⟨k,hk⟩:∃k,gH T.text=k:=⟨_,rfl⟩
 rw[hk]at hS;have HK:=Hd hk;have hl:(k==0)=false->s.next<c.E.toks.length:=fun h=>mD (kinds:=gH) (by decide) (by rw[hT,hk];exact h);have Hr:=Hd hl;have HT:=Hd hT;have Hk:=Hd (h.alloc (tkO nm));obtain⟨z,hz⟩:∃z,(X.alloc (tkO nm)).heap.size=z:=⟨_,rfl⟩
 have HZ:=Hd hz;clear he h hexpr hT hk hl hz;have hv:0<=k/\k<=8:=HK.o▸wI T.text;obtain⟨c0_00,c0_01,c0_02⟩:=Hk.o.own.tk (b:=X.heap.size) (t:=nm) (by simp);cases h0:(k==0)with
 | true=>
   have hq:S=.error T.pos:=by rw[<-hS,if_pos h0]
   have Hz:=Hd hq;clear hS hq;go_enter func171,ntmps171
   go_wp2_with (first
    | (go_at_call 132;refine(pI HE.o Ha.o HT.o).mono ?_;rintro e w3 ⟨rfl,hb⟩)
    | (go_at_call 131;refine(cU HE.o Hb.o HT.o).mono ?_;rintro e w2 ⟨rfl,hp⟩;have Ha:=Hd hp;clear hp;have ha:=Hg.o w2 (Ha.o.own (z,o) (by simp)) T.text (by rw[<-HT.o];exact Hm.o);rw[HK.o]at ha;obtain⟨c2_00,c2_01,c2_02⟩:=Ha.o.own.tk (b:=X.heap.size) (t:=nm) (by simp);)
    | (go_at_call 206;refine(lQ Hk.o HZ.o).mono ?_;rintro e w1 ⟨rfl,o,hp,ha⟩;have Hb:=Hd hp;have Hg:=Hd ha;clear hp ha;obtain⟨c1_00,c1_01,c1_02⟩:=Hb.o.own.tk (b:=X.heap.size) (t:=nm) (by simp);))
   exact⟨rfl,.er Hz.o hb⟩
 | false=>
   rw[if_neg (by rw[h0];exact Bool.false_ne_true)]at hS;have Hu:=Hd hS.symm;have Hn:=Hd h0;clear hS;cases h7:(k==7)with
   | true=>
     have Hj:=Hd (bH (PG Hu.o h7) rfl);have Hp:=Hd (KL.nil c);go_enter func171,ntmps171
     go_wp2_with (first
      | (go_at_call 199;refine(pH HE.o He.o 46 nm [] k Hp.o).mono ?_;rintro e w4 ⟨rfl,hp⟩;have Hi:=Hd hp;clear hp)
      | (go_at_call 133;refine(lR HE.o Ha.o HT.o (Hr.o Hn.o)).mono ?_;rintro e w3 ⟨rfl,hp⟩;have He:Hid (PQ c _ ([]++_) _ w3):=Hd hp;clear hp ha;have Hh:Hid (s.next<_):=Hd (Nat.lt_succ_of_le Hs.o);obtain⟨c3_00,c3_01,c3_02⟩:=He.o.own.tk (b:=X.heap.size) (t:=nm) (by simp);)
      | (go_at_call 131;refine(cU HE.o Hb.o HT.o).mono ?_;rintro e w2 ⟨rfl,hp⟩;have Ha:=Hd hp;clear hp;have ha:=Hg.o w2 (Ha.o.own (z,o) (by simp)) T.text (by rw[<-HT.o];exact Hm.o);rw[HK.o]at ha;obtain⟨c2_00,c2_01,c2_02⟩:=Ha.o.own.tk (b:=X.heap.size) (t:=nm) (by simp);)
      | (go_at_call 206;refine(lQ Hk.o HZ.o).mono ?_;rintro e w1 ⟨rfl,o,hp,ha⟩;have Hb:=Hd hp;have Hg:=Hd ha;clear hp ha;obtain⟨c1_00,c1_01,c1_02⟩:=Hb.o.own.tk (b:=X.heap.size) (t:=nm) (by simp);))
     go_ret;exact .ok Hj.o (Nat.le_of_lt Hh.o) ((Hi.o.drop.drop).less (by omega))
   | false=>
     cases h8:(k==8)with
     | true=>
       have Hj:=Hd (PG (LZ Hu.o h7) h8);go_enter func171,ntmps171
       go_wp2_with (first
        | (go_at_call 199;refine(pH HE.o Hi.o 46 nm [] k Hc.o).mono ?_;rintro e w5 ⟨rfl,hp⟩;have Hl:=Hd hp;clear hp)
        | (go_at_call 200;refine(rS HE.o (fun _ _=>by go_simp) (fun s2 h2=>Hf.o s2 (Nat.lt_of_lt_of_le Hh.o h2)) He.o).mono ?_;rintro e w4 (⟨ps,hr,rfl,hb⟩|⟨l4,s4,q4,cp4,K4,hr,rfl,hn,hh,hj,hp⟩);(exact⟨rfl,.er (bG Hj.o hr) hb⟩);have Hv:=Hd (bH Hj.o hr);have Hi:=Hd hp;have Hc:=Hd hj;clear hp hr hh hj;have Ht:=Hd (Nat.lt_of_lt_of_le Hh.o hn);clear hn;obtain⟨c4_00,c4_01,c4_02⟩:=Hi.o.own.tk (b:=X.heap.size) (t:=nm) (by simp);)
        | (go_at_call 133;refine(lR HE.o Ha.o HT.o (Hr.o Hn.o)).mono ?_;rintro e w3 ⟨rfl,hp⟩;have He:=Hd hp;clear hp ha;have Hh:Hid (s.next<_):=Hd (Nat.lt_succ_of_le Hs.o);obtain⟨c3_00,c3_01,c3_02⟩:=He.o.own.tk (b:=X.heap.size) (t:=nm) (by simp);)
        | (go_at_call 131;refine(cU HE.o Hb.o HT.o).mono ?_;rintro e w2 ⟨rfl,hp⟩;have Ha:=Hd hp;clear hp;have ha:=Hg.o w2 (Ha.o.own (z,o) (by simp)) T.text (by rw[<-HT.o];exact Hm.o);rw[HK.o]at ha;obtain⟨c2_00,c2_01,c2_02⟩:=Ha.o.own.tk (b:=X.heap.size) (t:=nm) (by simp);)
        | (go_at_call 206;refine(lQ Hk.o HZ.o).mono ?_;rintro e w1 ⟨rfl,o,hp,ha⟩;have Hb:=Hd hp;have Hg:=Hd ha;clear hp ha;obtain⟨c1_00,c1_01,c1_02⟩:=Hb.o.own.tk (b:=X.heap.size) (t:=nm) (by simp);))
       go_ret;exact .ok Hv.o (Nat.le_of_lt Ht.o) ((Hl.o.drop.drop).less (by omega))
     | false=>
       have Hj:=Hd (bnd2 (LZ (LZ Hu.o h7) h8));have Hc:=Hd (KL.nil c);go_enter func171,ntmps171
       go_wp2_with (first
        | (go_at_call 199;refine(pH HE.o Hl.o 46 nm [] k Hq.o).mono ?_;rintro e w6 ⟨rfl,hp⟩;have Hx:=Hd hp;clear hp)
        | (at_builtin;have hg:=(Hi.o.alloc (.cells #[intV a4] 3)).drop;have ht:=(show([]:List Int).length<=900 by simp);refine aO (news:=[a4]) rfl (.tmp 19) (.tmp 22) rfl rfl (Hc.o.own _ hg.own.left) rfl (cN _ _ _) (by omega) (by have:=hg.lt;omega) ?_;intro aa5 cc5 w5 l5 Ho hs hd hc hf;obtain⟨K5,hi,ho⟩:=hg.appended Hc.o hd hc hf;have Hq:=Hd hi;have Hl:=Hd ho;have Hy:=Hv;have Hw:=Ht;clear hg hd hc hf hi ho;obtain⟨c5_00,c5_01,c5_02⟩:=Hl.o.own.tk (b:=X.heap.size) (t:=nm) (by simp);)
        | (go_at_call 205;refine(Hf.o _ Hh.o _ _ _ He.o).mono ?_;rintro e w4 (⟨ps,hr,rfl,hb⟩|⟨a4,s4,hr,rfl,hn,hp⟩);(exact⟨rfl,.er (bG Hj.o hr) hb⟩);have hu:=bH Hj.o hr;have Hv:=Hd (bH hu rfl);clear hu;have Hi:Hid (PQ c _ ([]++_) _ w4):=Hd hp;clear hp hr;have Ht:=Hd (Nat.lt_of_lt_of_le Hh.o hn);clear hn;obtain⟨c4_00,c4_01,c4_02⟩:=Hi.o.own.tk (b:=X.heap.size) (t:=nm) (by simp);)
        | (go_at_call 133;refine(lR HE.o Ha.o HT.o (Hr.o Hn.o)).mono ?_;rintro e w3 ⟨rfl,hp⟩;have He:=Hd hp;clear hp ha;have Hh:Hid (s.next<_):=Hd (Nat.lt_succ_of_le Hs.o);obtain⟨c3_00,c3_01,c3_02⟩:=He.o.own.tk (b:=X.heap.size) (t:=nm) (by simp);)
        | (go_at_call 131;refine(cU HE.o Hb.o HT.o).mono ?_;rintro e w2 ⟨rfl,hp⟩;have Ha:=Hd hp;clear hp;have ha:=Hg.o w2 (Ha.o.own (z,o) (by simp)) T.text (by rw[<-HT.o];exact Hm.o);rw[HK.o]at ha;obtain⟨c2_00,c2_01,c2_02⟩:=Ha.o.own.tk (b:=X.heap.size) (t:=nm) (by simp);)
        | (go_at_call 206;refine(lQ Hk.o HZ.o).mono ?_;rintro e w1 ⟨rfl,o,hp,ha⟩;have Hb:=Hd hp;have Hg:=Hd ha;clear hp ha;obtain⟨c1_00,c1_01,c1_02⟩:=Hb.o.own.tk (b:=X.heap.size) (t:=nm) (by simp);))
       go_ret;have hS:S=.ok ((s4.nodes.length:Int),addP s4 46 nm [] k l5):=by rw[Hy.o,Ho.o];rfl
       exact .ok hS (Nat.le_of_lt Hw.o) ((Hx.o.drop.drop).less (by omega))
abbrev PC.withIv(c:PC)(v:Value):PC:=⟨c.w0,c.E,c.ta,c.tc,v⟩
theorem IsPar.setIv{w0 W:World}{E:PE}{ta:Option Addr}{tc:Nat}{iv:Value}{s:PS}{G:Nat->Prop}(h:IsPar w0 E ta tc iv s G W)(v:Value):IsPar w0 E ta tc v s G (W.setCell ⟨w0.heap.size,4,none⟩ v):=by
 obtain⟨h1,h2,h3,h4,h6,h7,⟨na,nc,ks,h5,h8,hb,hc⟩,hg,hm,h9⟩:=h;have ha:∀i,i≠4->(W.setCell ⟨w0.heap.size,4,none⟩ v).cell? ⟨w0.heap.size,i,none⟩=W.cell? ⟨w0.heap.size,i,none⟩:=fun i hi=>World.cell?_setCell_other _ _ _ _ (fun e=>hi (by injection e with _ e2;omega));exact⟨h1.setCell (by simp) _,(ha 0 (by omega)).trans h2,(ha 1 (by omega)).trans h3,(ha 2 (by omega)).trans h4,World.cell?_setCell_same _ _ _ h6,fun i=>by rw[World.frozen?_setCell];exact h7 i,⟨na,nc,ks,(ha 3 (by omega)).trans h5,h8.setCell (by simp) _,hb,hc⟩,hg,fun i hi=>by simpa using hm i hi,h9⟩
theorem PQ.setIv{c:PC}{s:PS}{F:List (Nat×Obj)}{d:Nat}{X:World}(h:PQ c s F d X)(v:Value):PQ (c.withIv v) s F d (X.setCell ⟨c.w0.heap.size,4,none⟩ v):=by
 obtain⟨⟨G,g⟩,hd⟩:=h;refine⟨⟨G,g.par.setIv v,fun p hp=>?_,g.out,g.nd⟩,hd⟩;have:=(g.out p hp).1;exact(Below.heap_setCell _ _ _ _ (by simp only;omega)).trans (g.own p hp)
theorem PQ.iv{c:PC}{s:PS}{F:List (Nat×Obj)}{d:Nat}{X:World}(h:PQ c s F d X):X.cell? ⟨c.w0.heap.size,4,none⟩=some c.iv/\X.frozen? ⟨c.w0.heap.size,4,none⟩=false:=by
 obtain⟨⟨G,g⟩,hd⟩:=h;exact⟨g.par.c4,g.par.fr 4⟩
theorem PQ.c02{c:PC}{s:PS}{F:List (Nat×Obj)}{d:Nat}{X:World}(h:PQ c s F d X):X.cell? ⟨c.w0.heap.size,0,none⟩=some (.slice c.ta c.E.toks.length c.tc)/\X.cell? ⟨c.w0.heap.size,2,none⟩=some (intV s.next):=by
 obtain⟨⟨G,g⟩,hd⟩:=h;exact⟨g.par.c0,g.par.c2⟩
theorem PQ.perm{c:PC}{s:PS}{F F':List (Nat×Obj)}{d:Nat}{X:World}(h:PQ c s F d X)(hp:F.Perm F'):PQ c s F' d X:=by
 obtain⟨⟨G,g⟩,hd⟩:=h;exact⟨⟨G,g.par,fun p hm=>g.own p (hp.mem_iff.2 hm),fun p hm=>g.out p (hp.mem_iff.2 hm),(hp.map Prod.fst).nodup_iff.1 g.nd⟩,hd⟩
theorem KL.iv{c:PC}{K:List (Nat×Obj)}{a:Option Addr}{cp:Nat}{l:List Int}(h:KL c K a cp l)(v:Value):KL (c.withIv v) K a cp l:=⟨h.own,h.at_⟩
theorem pL{W:World}{B:Nat}{av:Option Addr}{cv:Nat}{l:List Int}(hown:OwnI W B av cv l){ax:Option Addr}{m c:Nat}{news:List Int}(hr:Row 1 W ax m c (zq news))
 (hbytes:l.length+m<=4398046511104)(hB:B<=W.heap.size) :
 ∃a' c' w' l',(Builtin.append_ #[23,23] 23 #[.slice av l.length cv,.slice ax m c]).run prog W=.ok (.slice a' l'.length c') w'/\Hid (l'=l++news)/\OwnI w' B a' c' l'/\(∀B' A,B'<=B->Below B' A W->Below B' A w')/\(∀g,g<W.heap.size->lO av g->w'.heap[g]?=W.heap[g]?/\lO a' g):=by
 have hm:m=news.length:=by have:=hr.1;simpa using this.symm
 subst hm;obtain⟨i0,hi,hb,hc,hd⟩:=info_parts kI;obtain⟨v',w',ha,h2,h3⟩:=aQ (P:=prog) W B 23 23 3 i0 (.int .i64 0) 1 8 bI hi hb hc hd rfl (by decide) (.slice av l.length cv) l.length _ hown ax news.length c _ hr (fF _) (by unfold maxLen;omega) (by omega) hB;obtain⟨a',c',rfl,_⟩:=aZ h2;have hw:=dI (P:=prog) W B 23 23 3 i0 (.int .i64 0) 1 8 bI hi hb hc hd rfl (by decide) av l.length cv _ hown ax news.length c _ hr (fF _) (by unfold maxLen;omega) (by omega) hB ha;have e:l.length+news.length=(l++news).length:=by simp
 have e2:zq l++zq news=zq (l++news):=by simp
 rw[e,e2]at h2;rw[e]at ha;exact⟨a',c',w',l++news,ha,Hd rfl,h2,dD hown h3 hB,lB h3 hw⟩
theorem PQ.itemed{c:PC}{s:PS}{K F:List (Nat×Obj)}{d:Nat}{W:World}{a:Option Addr}{cp:Nat}{l:List Int}(h:PQ c s (K++F) d W)(hk:KL c K a cp l)(hl:l.length<=1000)(x:Int){n:Nat}(hn:W.heap.size=n) :
 ∃a' c' w3 l' K',(Builtin.append_ #[23,23] 23 #[.slice a l.length cp,.slice (some ⟨n,0,none⟩) 1 1]).run prog (W.alloc (.cells #[intV x] 3))=.ok (.slice a' l'.length c') w3/\Hid (l'=l++[x])/\KL c K' a' c' l'/\PQ c s (K'++F) d w3:=by
 subst hn;have hc:=(h.alloc (.cells #[intV x] 3)).drop;obtain⟨a',c',w3,l',hd,hg,hb,ha,he⟩:=pL (news:=[x]) (hk.own _ hc.own.left) (cN W (intV x) 3) (by omega) (by have:=hc.lt;omega);obtain⟨K',hf,hh⟩:=hc.appended hk hb ha he;exact⟨a',c',w3,l',K',hd,hg,hf,hh⟩
theorem PX{E:PE}{s:PS}{T:Tk}(hT:zh E s=T)(h:eG T.text=false):qF E s=.error T.pos:=by
 have hn:∀p∈itemT,p.1≠T.text:=fun p hp e=>by
  unfold eG at h;rw[List.any_eq_false]at h;exact h p hp (by rw[e];simp)
 unfold qF;rw[hT];split
 .rfl
 .have k0:¬T.text=AZ:=fun e=>hn _ (List.mem_cons_self ..) e.symm
  have k1:¬T.text=QK:=fun e=>hn _ (List.mem_cons_of_mem _ (List.mem_cons_self ..)) e.symm;have k2:¬T.text=wFun:=fun e=>hn _ (List.mem_cons_of_mem _ (List.mem_cons_of_mem _ (List.mem_cons_self ..))) e.symm;have k3:¬T.text=wLet:=fun e=>hn _ (List.mem_cons_of_mem _ (List.mem_cons_of_mem _ (List.mem_cons_of_mem _ (List.mem_cons_self ..)))) e.symm;have k4:¬T.text=uC:=fun e=>hn _ (List.mem_cons_of_mem _ (List.mem_cons_of_mem _ (List.mem_cons_of_mem _ (List.mem_cons_of_mem _ (List.mem_cons_self ..))))) e.symm;have k5:¬T.text=uD:=fun e=>hn _ (List.mem_cons_of_mem _ (List.mem_cons_of_mem _ (List.mem_cons_of_mem _ (List.mem_cons_of_mem _ (List.mem_cons_of_mem _ (List.mem_cons_self ..)))))) e.symm;have k6:¬T.text=wAsk:=fun e=>hn _ (List.mem_cons_of_mem _ (List.mem_cons_of_mem _ (List.mem_cons_of_mem _ (List.mem_cons_of_mem _ (List.mem_cons_of_mem _ (List.mem_cons_of_mem _ (List.mem_cons_self ..))))))) e.symm;rw[if_neg k0,if_neg k1,if_neg k2,if_neg k3,if_neg k4,if_neg k5,if_neg k6]
theorem IW{E:PE}{s:PS}{T:Tk}(hT:zh E s=T)(h:(T.kind != 3)=true):qF E s=.error T.pos:=by
 unfold qF;rw[hT,if_pos h]
theorem yY{x:List UInt8}(h:eG x=true):∀args w,(callFunc (qE x) args).run prog w=.ok (.enter (qE x) args) w:=by
 unfold eG at h;rw[List.any_eq_true]at h;obtain⟨p,hp,e⟩:=h;obtain rfl:=eq_of_beq e;simp only[itemT,List.mem_cons,List.not_mem_nil,or_false]at hp;rcases hp with rfl|rfl|rfl|rfl|rfl|rfl|rfl
 .exact enters_of func165 (by kernel_rfl) rfl
 .exact enters_of func166 (by kernel_rfl) rfl
 .exact enters_of func167 (by kernel_rfl) rfl
 .exact enters_of func168 (by kernel_rfl) rfl
 .exact enters_of func169 (by kernel_rfl) rfl
 .exact enters_of func170 (by kernel_rfl) rfl
 .exact enters_of func171 (by kernel_rfl) rfl
theorem EL{c:PC}(he:OkC c){s:PS}{T:Tk}(hT:zh c.E s=T)(hh:eG T.text=true)(hk:(T.kind != 3)=false) :
 ∀(F:List (Nat×Obj)) (d:Nat) (X:World),PQ c s.take F (d+1) X->Calls prog (qE T.text) #[c.ptr,tkA T] X (RdI c F d s.take.next (qF c.E s)):=by
 have ha:∀nt s',s.take.next<s'.next->zx c (fnNT nt) (rdP c.E nt) s':=fun nt s' _=>NL he nt s'
 have hi:qF c.E s=if T.text=AZ then kZ c.E T s.take
  else if T.text=QK then lF (rdP c.E .param) c.E T s.take
  else if T.text=wFun then fR (rdP c.E .param) (rdP c.E .kindOf) (rdP c.E .expr) c.E T s.take
  else if T.text=wLet then letP (rdP c.E .expr) c.E T s.take
  else if T.text=uC then mG (rdP c.E .expr) c.E T s.take
  else if T.text=uD then iS c.E T s.take
  else if T.text=wAsk then yL (rdP c.E .expr) c.E T s.take
  else .error T.pos:=by
  unfold qF;rw[hT,if_neg (by rw[hk];exact Bool.false_ne_true)]
 intro F d X h;have h':=h.less (Nat.le_succ d);rw[hi];unfold eG at hh;rw[List.any_eq_true]at hh;obtain⟨p,hp,e⟩:=hh;have e:=eq_of_beq e;simp only[itemT,List.mem_cons,List.not_mem_nil,or_false]at hp;rcases hp with rfl|rfl|rfl|rfl|rfl|rfl|rfl<;>(simp only at e;rw[<-e])
 .exact LN he T F d X h'
 .exact LQ he T (ha .param) F d X h'
 .exact DT he T (ha .param) (ha .kindOf) (ha .expr) F d X h'
 .exact SA he T (ha .expr) F d X h'
 .exact GL he T (ha .expr) F d X h'
 .exact GO he T F d X h'
 .exact RY he T (ha .expr) F d X h'
theorem AJ{E:PE}{f:Nat}{l:List Int}{s:PS}(h:¬s.next<E.toks.length):bM E f l s=.ok (l,s):=by
 cases f with
 |zero=>rfl
 |succ f=>unfold bM;rw[if_neg h]
theorem wH{E:PE}{f:Nat}{l:List Int}{s:PS}(h:s.next<E.toks.length):bM E (f+1) l s=(qF E s).bind fun r=>(cC E r.2 QE).bind fun s2=>bM E f (l++[r.1]) s2:=by
 conv=>lhs;unfold bM
 rw[if_pos h]
def RdA(c:PC)(F:List (Nat×Obj))(S:PR (List Int×PS))(e:Ending)(Y:World):Prop:=
 (∃pos,S=.error pos/\Thrown c.w0 pos e Y)\/∃l s' a cp K,S=.ok (l,s')/\e=.returned (.tuple #[])/\KL c K a cp l/\PQ (c.withIv (.slice a l.length cp)) s' (K++F) 0 Y
theorem RdA.er{c:PC}{F:List (Nat×Obj)}{S:PR (List Int×PS)}{pos:Int}{Y:World}(h:S=.error pos)(hb:Below c.w0.heap.size c.w0 Y):RdA c F S (.panicked [{ v:=rC pos,recovered:=false }]) Y:=.inl ⟨pos,h,rfl,hb⟩
theorem GN{c:PC}(he:OkC c)(hiv:c.iv=.slice none 0 0){F:List (Nat×Obj)}{X:World}(h:PQ c ⟨0,[]⟩ F 0 X) :
 Calls prog 89 #[c.ptr] X (RdA c F (bM c.E (c.E.toks.length+1) [] ⟨0,[]⟩)):=by
 obtain⟨S,hS⟩:∃S,bM c.E (c.E.toks.length+1) [] ⟨0,[]⟩=S:=⟨_,rfl⟩
 rw[hS];have hg:=he.many;obtain⟨w0,E,ta,tc,iv⟩:=c;simp only at hiv hS hg;subst hiv;have HE:Hid (∀v,OkC ⟨w0,E,ta,tc,v⟩):=Hd (fun v=>he);have HA:=Hd hS.symm;have Hx:=Hd h;clear he h hS;have hv:prog.follows .mixedOrders=true:=by kernel_rfl
 obtain⟨z,hz⟩:∃z,X.heap.size=z:=⟨_,rfl⟩
 have HZ:=Hd hz;clear hz;go_enter func89,ntmps89
 go_wp2_with (go_at_call 130;refine(OV Hx.o HZ.o).mono ?_;rintro e w1 ⟨rfl,o,hp,hc⟩;have Hy:=Hd hp;have Hi:=Hd hc;clear hp hc)
 go_loopw [3] (fun _ wr=>∃(a:Option Addr) (cp:Nat) (l:List Int) (sk:PS) (f:Nat) (K:List (Nat×Obj)),Hid (S=bM E f l sk)/\Hid (E.toks.length+1<=f+sk.next/\l.length<=sk.next)/\Hid (KL ⟨w0,E,ta,tc,.slice none 0 0⟩ K a cp l)/\Hid (PQ ⟨w0,E,ta,tc,.slice a l.length cp⟩ sk (K++((z,o)::F)) 0 wr)) (fun _ wr=>tI ⟨w0,E,ta,tc,.slice none 0 0⟩ wr)
 case atStart=>exact⟨none,0,[],⟨0,[]⟩,_,[],HA,Hd ⟨by simp,by simp⟩,Hd (KL.nil _),Hy⟩
 case round=>
  obtain⟨a,cp,l,sk,f,K,Ht,Hh,Hl,Hb⟩:=hrel;have hl:=Hb.o.next;have Hw:=Hd Hb.o.meas;obtain⟨j0,j2⟩:=Hb.o.c02;simp only at j0 j2 hl;obtain⟨n,hn⟩:∃n,sk.next=n:=⟨_,rfl⟩
  rw[hn]at j2;by_cases hlt:sk.next<E.toks.length
  .obtain⟨f,rfl⟩:∃g,f=g+1:=⟨f-1,by have:=Hh.o.1;omega⟩
   have hf:=Ht.o.trans (wH hlt);have Hn:=Hd hlt;obtain⟨T,hT⟩:∃T,zh E sk=T:=⟨_,rfl⟩
   have HT:=Hd hT;have Hk:=Hd (tX (HE.o (.slice a l.length cp)) sk);have hu:n<E.toks.length:=by omega
   have HN:=Hd hn;clear hn hlt hl
   cases hh:eG T.text with
   | false=>
     have Hg:=Hd (bG hf (PX hT hh));have He:=Hd hh;clear hf hT hh;go_wp2;go_region
     go_wp2_with (go_at_call 131;refine(cU (HE.o _) Hb.o.drew HT.o).mono ?_;rintro e w2 ⟨rfl,hp⟩;have Ha:=Hd (hp.alloc (tkO T));clear hp;obtain⟨c0,c1,c2⟩:=Ha.o.own.tk (b:=w2.heap.size) (t:=T) (by simp);obtain⟨vv,hc⟩:=IZ (Hi.o _ (Ha.o.own (z,o) (by simp))) (by rw[<-HT.o];exact Hk.o) He.o)
     go_wp2_with (go_at_call 132;refine(pI (HE.o _) Ha.o HT.o).mono ?_;rintro e w3 ⟨rfl,hb⟩)
     exact⟨rfl,.er Hg.o hb⟩
   | true=>
     cases hw:(T.kind != 3)with
     | true=>
       have Hg:=Hd (bG hf (IW hT hw));have He:=Hd hh;clear hf hT hh;go_wp2;go_region
       go_wp2_with (go_at_call 131;refine(cU (HE.o _) Hb.o.drew HT.o).mono ?_;rintro e w2 ⟨rfl,hp⟩;have Ha:=Hd (hp.alloc (tkO T));clear hp;obtain⟨c0,c1,c2⟩:=Ha.o.own.tk (b:=w2.heap.size) (t:=T) (by simp);have hc:=vW (Hi.o _ (Ha.o.own (z,o) (by simp))) (by rw[<-HT.o];exact Hk.o) He.o)
       go_wp2_with (go_at_call 132;refine(pI (HE.o _) Ha.o HT.o).mono ?_;rintro e w3 ⟨rfl,hb⟩)
       exact⟨rfl,.er Hg.o hb⟩
     | false=>
       have ht:l.length<=1000:=by have:=Hh.o.2;have:=HN.o;omega
       have He:=Hd hh;have Hq:=Hd (EL (HE.o (.slice a l.length cp)) hT hh hw);have Hc:=Hd (yY hh);have Hr:=Hd hf;obtain⟨fn,hk⟩:∃fn,qE T.text=fn:=⟨_,rfl⟩
       rw[hk]at Hq Hc;have Hu:=Hd hk;clear hf hT hh hk;go_wp2;go_region
       go_wp2_with (first
        | (go_at_call 131;refine(cU (HE.o _) Hb.o.drew HT.o).mono ?_;rintro e w2 ⟨rfl,hp⟩;have Ha:=Hd (hp.alloc (tkO T));clear hp;obtain⟨c0,c1,c2⟩:=Ha.o.own.tk (b:=w2.heap.size) (t:=T) (by simp);have hc:=vW (Hi.o _ (Ha.o.own (z,o) (by simp))) (by rw[<-HT.o];exact Hk.o) He.o;rw[Hu.o]at hc)
        | (go_at_call 133;refine(lR (HE.o _) Ha.o HT.o Hn.o).mono ?_;rintro e w3 ⟨rfl,hp⟩;have Hj:=Hd hp;clear hp hc))
       refine N.region_C [false,false,false,false,false,false,false,false,false,true,true,true,false,false,false,true] [?vC1_0,?vC1_1,?vC1_2,?vC1_3,?vC1_4,?vC1_5,?vC1_6,?vC1_7,?vC1_8,undef,undef,undef,?vC1_12,?vC1_13,?vC1_14,undef] hv (by kernel_rfl) (by kernel_rfl) (by kernel_rfl) (by kernel_rfl) rfl rfl (fun ch w=>RdA ⟨w0,E,ta,tc,.slice none 0 0⟩ F S (.panicked ch) w) (fun ch b w hd h=>⟨hd,h⟩) (fun Wz=>Wz.heap[w2.heap.size]?=some (tkO T)/\Wz.cell? ⟨w0.heap.size,4,none⟩=some (.slice a l.length cp)) ⟨Hj.o.drew.own (w2.heap.size,tkO T) (by simp),Hj.o.drew.iv.1⟩ ?wC1_ ?_
       case wC1_=>
        iterate 9 (refine N.WalkC.still (N.StillP.known rfl ?_) ?_;(intro W hJ;obtain⟨ha,hs⟩:=hJ;have j00:=za (i:=0) ha rfl;have j01:=za (i:=1) ha rfl;have j02:=za (i:=2) ha rfl;go_simp;rfl);simp only[N.pz])
        refine N.WalkC.chain fun u9=>?_;simp only[N.pz];refine N.WalkC.chain fun u10=>?_;simp only[N.pz];refine N.WalkC.chain fun u11=>?_;simp only[N.pz]
        iterate 3 (refine N.WalkC.still (N.StillP.known rfl ?_) ?_;(intro W hJ;obtain⟨ha,hs⟩:=hJ;have j00:=za (i:=0) ha rfl;have j01:=za (i:=1) ha rfl;have j02:=za (i:=2) ha rfl;go_simp;rfl);simp only[N.pz])
        refine N.WalkC.chain fun u15=>?_;simp only[N.pz];exact .nil
       iterate 9 (refine N.TailC.still ?_;simp only[N.pz])
       refine N.TailC.call (f:=fn) (args:=#[.pointer (some ⟨w0.heap.size,0,none⟩),tkA T]) rfl ?a9 ?_;case a9=>have hq:=Hc.o;go_simp;try rfl
       refine(Hq.o _ _ _ Hj.o.drew).mono ?_;rintro e w4 (⟨ps,hr,rfl,hb⟩|⟨a4,s4,hr,rfl,ho,hp⟩)
       .exact .inr ⟨_,rfl,.er (bG Hr.o hr) hb⟩
       have Hs:=Hd (bH Hr.o hr);have Hf:=Hd hp;have Ho:=Hd ho;clear hp ho hr;refine .inl ⟨_,rfl,(fun _=>⟨Hf.o.own (w2.heap.size,tkO T) (by simp),Hf.o.iv.1⟩),?_⟩;simp only[N.pz];refine N.TailC.run (v:=.slice (some ⟨w4.heap.size,0,none⟩) 1 1) (w':=w4.alloc (.cells #[intV a4] 3)) rfl ?a10 (fun _=>⟨(Hf.o.alloc _).drop.own (w2.heap.size,tkO T) (by simp),(Hf.o.alloc _).drop.iv.1⟩) ?b10;case a10=>go_simp;try rfl
       simp only[N.pz];obtain⟨a5,c5,w5,l5,K5,hj,Hm,hm,hi⟩:=(Hf.o.perm (List.perm_middle.symm)).itemed (Hl.o.iv _) ht a4 rfl;refine N.TailC.append rfl (.tmp 42) (.tmp 47) 23 rfl rfl rfl hj (fun _=>⟨hi.own (w2.heap.size,tkO T) (by simp),hi.iv.1⟩) ?_;simp only[N.pz]
       iterate 3 (refine N.TailC.still ?_;simp only[N.pz])
       refine N.TailC.skips (w':=w5.setCell ⟨w0.heap.size,4,none⟩ (.slice a5 l5.length c5)) rfl ?a15 (fun h=>absurd rfl h) ?b15;case a15=>obtain⟨jc,jf⟩:=hi.iv;go_simp;try rfl
       simp only[N.pz];refine N.TailC.nil ?_;have Hz:=Hd (hi.setIv (.slice a5 l5.length c5));have Hv:=Hd hm;clear hi hm hj
       go_wp2_with (go_at_call 134;refine(GK (HE.o _) Hz.o _).mono ?_;rintro e w6 (⟨ps,hr,rfl,hb⟩|⟨hr,-,rfl,hp⟩);(exact⟨rfl,.er (bG Hs.o hr) hb⟩);have HB:=Hd (bH Hs.o hr);have Hp:=Hd hp;clear hp hr)
       go_roundw
       case rel=>
        have h4:sk.next+1<=s4.next:=Ho.o;have h5:=congrArg List.length Hm.o;simp only[List.length_append,List.length_singleton]at h5;exact⟨a5,c5,l5,s4.take,f,K5,by rw[Hm.o];exact HB,Hd ⟨by have:=Hh.o.1;show _<=f+(s4.next+1);omega,by have:=Hh.o.2;show _<=s4.next+1;omega⟩,Hd (Hv.o.iv _),Hd ((Hp.o.sub (List.Sublist.append (List.Sublist.refl _) (List.sublist_cons_self _ _))).less (by omega))⟩
       case measure=>
        have h4:sk.next+1<=s4.next:=Ho.o;have h1:tI ⟨w0,E,ta,tc,.slice none 0 0⟩ w6=E.toks.length-(s4.next+1):=Hp.o.meas;have h2:tI ⟨w0,E,ta,tc,.slice none 0 0⟩ wr=E.toks.length-sk.next:=Hw.o;have h3:=Hn.o;rw[h1,h2];omega
  .have Hg:=Hd (Ht.o.trans (AJ hlt))
   have hx:¬(n:Int)<(E.toks.length:Int):=by omega
   clear hn hlt hl;go_wp2;go_region;go_wp2
   go_end0
   exact .inr ⟨l,sk,a,cp,K,Hg.o,rfl,Hl.o,Hb.o.drew.sub (List.Sublist.append (List.Sublist.refl _) (List.sublist_cons_self _ _))⟩
end
end Go.Proofs.YtcdkdiedphhdhaaGreatDoor
