/- Part of a proof. -/
import Derived.Test.YtipjhljnkocioaaGreatDoorC42
import Derived.Test.YtipjhljnkocioaaGreatDoorDM04
set_option maxRecDepth 100000
set_option maxHeartbeats 8000000
set_option linter.unusedVariables false
set_option linter.unusedSimpArgs false
open Go.Proofs.Tryz
namespace Go.Proofs.YtipjhljnkocioaaGreatDoor
section
open Go Go.RowKit
theorem PP(s:List UInt8)(w:World)(hs:s.length≤1000000000)(hg:GV w) :
 Calls prog 86 #[strV s] w fun e w'=>∃(v:TreeV) (t:Tr) (pl er:Int),e=.returned (.tuple #[v.val t,intV pl,intV er])∧IsTree w' v t∧Below w.heap.size w w'∧Bd t∧Rg t∧(∀t',dJ s=.ok t'→t=t'∧er=0):=by
 have h:=wJ s w hs hg
 cases hp:dJ s with
 | error p=>
   rw[hp]at h;refine h.mono ?_;rintro e w'⟨rfl,hb⟩;refine⟨⟨none,0,none,0⟩,⟨[],[]⟩,p.1,p.2,rfl,⟨⟨[],rfl,⟨rfl,nlr,(fun _=>rfl),.inl rfl⟩,(fun i hi=>by cases hi)⟩,⟨rfl,nlr,(fun _=>rfl),.inl rfl⟩⟩,hb,⟨by simp,by simp,(fun d hd=>by cases hd),(fun d hd=>by cases hd)⟩,(fun i hi=>by cases hi),(fun t' h=>by cases h)⟩
 | ok t=>
   rw[hp]at h;refine h.mono ?_;rintro e w'⟨v,rfl,ht,hb⟩;obtain⟨h1,h2⟩:=pM hp;exact⟨v,t,0,0,rfl,ht,hb,h1,h2,fun t' h=>⟨Except.ok.inj h,rfl⟩⟩
def PU(w:World)(s:List UInt8)(e:Ending)(w':World):Prop:=
 ∃(v:TreeV) (t:Tr) (ok:Bool),e=.returned (.tuple #[v.val t,.bool ok])∧IsTree w' v t∧Below w.heap.size w w'∧Bd t∧Rg t∧(∀t',dJ s=.ok t'→t=t'∧ok=true)
theorem PL(s:List UInt8)(w:World)(hs:s.length≤1000000000)(hg:GV w) :
 Calls prog 50 #[strV s] w (PU w s):=by
 have hb0:Below w.heap.size w (w.alloc (.cells #[.slice none 0 0,.slice none 0 0] 25)):=(Below.refl _ w).alloc nlr _;have HP:=Hd (PP s _ hs (hg.mono hb0 nlr));have HB0:=Hd hb0;have hsz:(w.alloc (.cells #[.slice none 0 0,.slice none 0 0] 25)).heap.size=w.heap.size+1:=by simp
 have HSZ:=Hd hsz;clear hb0 hsz hg;go_enter func50,ntmps50
 go_wp2_with (go_at_call 86;refine HP.out.mono ?_;rintro e w2 ⟨⟨na,nc,ia,ic⟩,t,pl,er,rfl,ht,hb2,hbd,hrg,hcl⟩;have HBD:=Hd hbd;have HRG:=Hd hrg;have HCL:=Hd hcl;rw[HSZ.out]at hb2;unfold TreeV.val;have hb3:=hb2.alloc (by have:=hb2.size;rw[HSZ.out]at this;exact this) (.cells #[.slice na t.nodes.length nc,.slice ia t.items.length ic] 25);have hh:=(hb3.block w.heap.size (by omega)).trans (World.alloc_heap_new w (.cells #[.slice none 0 0,.slice none 0 0] 25));have r0:=zb (i:=0) (v:=.slice none 0 0) hh rfl;have r1:=zb (i:=1) (v:=.slice none 0 0) hh rfl;have f0:=zI (i:=0) hh;have f1:=zI (i:=1) hh;have ht3:=ht.mono ((Below.refl _ w2).alloc nlr (.cells #[.slice na t.nodes.length nc,.slice ia t.items.length ic] 25)) nlr;have HTA:=Hd (TreeAt.put (v:=⟨na,nc,ia,ic⟩) r0 r1 f0 f1 (eM hb3) ht3 (HB0.out.trans (hb3.mono (by omega))));clear hb2 hb3 hh ht ht3 hbd hrg hcl)
 obtain⟨k0,k1,-,-,-,ht,hb⟩:=HTA.out;unfold put2 at k0 k1;refine bodyPost_ret (v:=.tuple #[.agg #[.slice na t.nodes.length nc,.slice ia t.items.length ic],.bool (er==0)]) (by simp[results,results50,go_sem,loadVar,k0,k1,Result.andThen]) rfl ⟨⟨na,nc,ia,ic⟩,t,er==0,rfl,ht,hb,HBD.out,HRG.out,fun t' h=>⟨(HCL.out t' h).1,by rw[(HCL.out t' h).2];rfl⟩⟩
theorem PF(v:TreeV)(t:Tr)(w:World)(bd:Bd t)(wf:WF t)(h:IsTree w v t) :
 Calls prog 36 #[v.val t] w (RetInts w (fH t t.nodes.length)):=by
 have HT:=Hd h;have WFF:=Hd wf;have BD:=Hd bd;have hn3:=bd.n;clear h bd wf;obtain⟨na,nc,ia,ic⟩:=v;unfold TreeV.val;go_enter func36,ntmps36;go_wp2
 go_loopw [3,4] (fun t3 t4 wr=>∃(k:Nat) (a:Option Addr) (c:Nat) (l:List Int),t4=.int .i64 k∧k≤t.nodes.length∧t3=.slice a l.length c∧Hid (l=List.replicate k (-1)) ∧
  Hid (OwnI wr (w.heap.size+1) a c l)∧Hid (Below (w.heap.size+1) (boxT w ⟨na,nc,ia,ic⟩ t) wr)) (fun _ i _=>t.nodes.length-(intOf i).toNat)
 case atStart=>exact⟨0,_,_,[],rfl,Nat.zero_le _,rfl,Hd rfl,Hd (fA (boxT w ⟨na,nc,ia,ic⟩ t) _ _ (by simp) nlr),Hd (brf.alloc (by simp) _)⟩
 case round=>
  obtain⟨k,a,c,l,rfl,hk,rfl,HL,HO,HB⟩:=hrel;obtain⟨b0,b1,ht1,⟨hs,hs',hs''⟩,hbw⟩:=boxed HB.out HT.out;have HW:=Hd hbw;have HT1:=Hd ht1;have hll:l.length=k:=by rw[HL.out];simp
  clear ht1 hbw;by_cases hlt:k<t.nodes.length
  ·go_wp2_with (at_builtin;refine zJ (news:=[(-1:Int)]) rfl (.tmp 16) (.tmp 17) rfl rfl (HO.out.alloc _) rfl (zR _ _ _) (by omega) (by simp;omega) ?_;intro a' c' w' l' HL' hle hown' hkeep)
   go_roundw
   case rel=>exact⟨k+1,a',c',l',by go_num,by omega,rfl,Hd (by rw[HL'.out,HL.out,List.replicate_succ']),Hd hown',Hd (hkeep _ _ nlr (HB.out.alloc hs _))⟩
   case measure=>simp[intOf];omega
  ·obtain rfl:k=t.nodes.length:=by omega
   have h0:l=fH t 0:=HL.out;have HO2:Hid (wr.ownsRow (w.heap.size+1) 3 1 (.slice a t.nodes.length c) t.nodes.length (zo (fH t 0))):=Hd (by have:=HO.out;unfold OwnI at this;rw[hll]at this;rw[h0]at this;exact this);rw[hll];clear HL HO h0 hll HT1;go_wp2;clear b0 b1 hs hs' hs''
   go_loopw [5] (fun t5 wr=>∃k:Nat,t5=.int .i64 k∧k≤t.nodes.length∧Hid (wr.ownsRow (w.heap.size+1) 3 1 (.slice a t.nodes.length c) t.nodes.length (zo (fH t k)))∧Hid (Below (w.heap.size+1) (boxT w ⟨na,nc,ia,ic⟩ t) wr)) (fun i _=>t.nodes.length-(intOf i).toNat)
   case atStart=>exact⟨0,rfl,Nat.zero_le _,HO2,HB⟩
   case round=>
    obtain⟨k,rfl,hk,HO,HB⟩:=hrel;obtain⟨b0,b1,ht1,⟨hs,hs',hs''⟩,hbw⟩:=boxed HB.out HT.out;have HW:=Hd hbw;clear ht1 hbw;by_cases hlt:k<t.nodes.length
    ·have hkid:=WFF.out.kid k hlt
     have hkl:=BD.out.k _ (List.getElem_mem hlt);have hnd:=t.nd_at hlt;obtain⟨b,o,ka,kc,ea,hb,n0,n1,n2,n3,n4,hkr⟩:=HT.out.nodes.at hlt;simp only at ea;subst ea;obtain⟨D,hD⟩:∃D,t.nodes[k]=D:=⟨_,rfl⟩
     rw[hD]at n0 n1 n2 n3 n4 hkr hkid hkl hnd;have HKID:=Hd hkid;have HND:=Hd hnd;have HKR:=Hd hkr;have N3:=Hd n3;clear hkid hnd hkr hD n0 n1 n2 n3 n4;go_wp2;rename World=>wk
     go_loopw [6] (fun t6 wz=>∃(j:Nat) (ups:List Int),t6=.int .i64 j∧j≤D.kids.length∧Hid (aJ (fH t k) k D.kids=aJ ups k (D.kids.drop j))∧Hid (wz.ownsRow (w.heap.size+1) 3 1 (.slice a t.nodes.length c) t.nodes.length (zo ups))∧Hid (Below (w.heap.size+1) (boxT w ⟨some ⟨b,o,none⟩,nc,ia,ic⟩ t) wz)) (fun i _=>D.kids.length-(intOf i).toNat)
     case atStart=>exact⟨0,fH t k,rfl,Nat.zero_le _,Hd rfl,HO,HB⟩
     case round=>
      obtain⟨j,ups,rfl,hj,HDK,HOZ,HBZ⟩:=hrel;obtain⟨b0,b1,ht1,⟨hs,hs',hs''⟩,hbw⟩:=boxed HBZ.out HT.out;have HW:=Hd hbw;have n3:=(hbw.cell (p:=⟨b,o+k*5+3,none⟩) hb).trans N3.out;clear ht1 hbw;by_cases hjl:j<D.kids.length
      ·obtain⟨bk,ok,rfl,hbk,hck⟩:=Ints.at HKR.out hjl
       have hx:=HKID.out _ (List.getElem_mem hjl);have HDA:=Hd (BF (o:=ups) (d:=(k:Int)) hjl);obtain⟨x,hxe⟩:∃x,D.kids[j]=x:=⟨_,rfl⟩
       rw[hxe]at hck hx HDA;obtain⟨hx0,hx1⟩:=hx;obtain⟨m,rfl⟩:=Int.eq_ofNat_of_zero_le hx0;have hm:m<t.nodes.length:=by omega
       have hck2:=(HW.out.cell (p:=⟨bk,ok+j,none⟩) hbk).trans hck;obtain⟨g,rfl,hgB,hgl,hul,hgc,hgf⟩:=bK HOZ.out (by omega);have hgc2:=hgc m hm;have hgf2:=hgf m;have HOS:=Hd (fB HOZ.out m (k:Int));have HBS:=Hd (HBZ.out.setCell (p:=⟨g,m,none⟩) hgB (intV k));have hmk:(m:Int)<(k:Int):=hx1;have hmk2:m<k:=by omega
       clear hgc hgf hxe hck;go_wp2
       go_roundw
       case rel=>exact⟨j+1,ups.set m k,by go_num,by omega,Hd (by rw[HDK.out,HDA.out];rfl),HOS,HBS⟩
       case measure=>simp[intOf];omega
      ·have HE:=Hd (show aJ (fH t k) k D.kids=ups by rw[HDK.out,List.drop_of_length_le (by omega)];rfl)
       go_wp2
       go_roundw
       case rel=>exact⟨k+1,by go_num,by omega,Hd (by rw[fH,HND.out,HE.out];exact HOZ.out),HBZ⟩
       case measure=>simp[intOf];omega
    ·obtain rfl:k=t.nodes.length:=by omega
     go_wp2;go_ret;refine⟨a,c,by rw[nC];rfl,?_,HW.out⟩;rw[nC];exact aL HO.out (by omega)
def OQ(w:World)(s:List UInt8)(e:Ending)(w':World):Prop:=
 ∃ (v:TreeV) (t:Tr) (a:Option Addr) (c:Nat) (l:List Int) (ok:Bool),e=.returned (.tuple #[v.val t,.slice a l.length c,.bool ok])∧IsTree w' v t∧Ints w' a c l∧Below w.heap.size w w'∧Bd t∧Rg t ∧
   (ok=true→(zc t).2.2=0∧l=zh t t.nodes.length)∧(∀t',s.length≤400→dJ s=.ok t'→(zc t').2.2=0→t=t'∧ok=true)
theorem EE{w W W9:World}{s:List UInt8}{v:TreeV}{t:Tr}{A:Act}{a:Option Addr}{c:Nat}{l:List Int}{ok:Bool}(hb:Below (w.heap.size+1) (w.alloc (.cells #[.slice none 0 0,.slice none 0 0] 25)) W)(ht:IsTree W v t)(hi:Ints W a c l)
 (bd:Bd t)(rg:Rg t)(hok:ok=true→(zc t).2.2=0∧l=zh t t.nodes.length)(hcl:∀t',s.length≤400→dJ s=.ok t'→(zc t').2.2=0→t=t'∧ok=true)
 (h2:A.tmps.getD 2 undef=.pointer (some ⟨w.heap.size,0,none⟩))(h3:A.tmps.getD 3 undef=.slice a l.length c)(h4:A.tmps.getD 4 undef=.bool ok)(hd:A.defers=[])
 (h9:Below (put2 W w.heap.size (.slice v.na t.nodes.length v.nc) (.slice v.ia t.items.length v.ic)).heap.size (put2 W w.heap.size (.slice v.na t.nodes.length v.nc) (.slice v.ia t.items.length v.ic)) W9) :
 bodyPost prog Tryz.f35 (OQ w s) Exit.ret A W9:=by
 have hh:=(hb.block w.heap.size (by omega)).trans (World.alloc_heap_new w (.cells #[.slice none 0 0,.slice none 0 0] 25));have r0:=zb (i:=0) (v:=.slice none 0 0) hh rfl;have r1:=zb (i:=1) (v:=.slice none 0 0) hh rfl;have hs:=eM hb;have hw:Below w.heap.size w W:=((Below.refl _ w).alloc nlr _).trans (hb.mono (by omega));obtain⟨k0,k1,-,-,-,ht,hb⟩:=(TreeAt.put r0 r1 (zI (i:=0) hh) (zI (i:=1) hh) hs ht hw).step h9
 have hi1:Ints (put2 W w.heap.size (.slice v.na t.nodes.length v.nc) (.slice v.ia t.items.length v.ic)) a c l:=xQ hi (by omega) hs (by
  intro v hv
  cases l with
  |nil=>cases hv
  |cons x l=>cases hv;exact⟨_,_,rfl⟩) (mH _ _ _ _)
 have hi2:Ints W9 a c l:=Row.mono hi1 h9 nlr;refine bodyPost_ret (v:=.tuple #[v.val t,.slice a l.length c,.bool ok]) ?_ hd ⟨v,t,a,c,l,ok,rfl,ht,hi2,hb,bd,rg,hok,hcl⟩;simp only[Array.getD_eq_getD_getElem?]at h2 h3 h4;unfold TreeV.val;simp[results,results35,go_sem,loadVar,h2,h3,h4,k0,k1,Result.andThen]
theorem OU(s:List UInt8)(w:World)(hs:s.length≤maxLen)(hg:GV w) :
 Calls prog 35 #[strV s] w (OQ w s):=by
 have hmo:prog.follows .mixedOrders=true:=by kernel_rfl
 have hb0:Below w.heap.size w (w.alloc (.cells #[.slice none 0 0,.slice none 0 0] 25)):=(Below.refl _ w).alloc nlr _;have hsz:(w.alloc (.cells #[.slice none 0 0,.slice none 0 0] 25)).heap.size=w.heap.size+1:=by simp
 have hbr:Below (w.heap.size+1) (w.alloc (.cells #[.slice none 0 0,.slice none 0 0] 25)) (w.alloc (.cells #[.slice none 0 0,.slice none 0 0] 25)):=brf;have HBR:=Hd hbr;have HSZ:=Hd hsz;have HB0:=Hd hb0;have HG:=Hd hg;have HG0:=Hd (hg.mono hb0 nlr);have HB1:Hid (∀W,Below (w.heap.size+1) (w.alloc (.cells #[.slice none 0 0,.slice none 0 0] 25)) W→GV W):=Hd fun W h=>hg.mono (hb0.trans (h.mono (by omega))) nlr;clear hb0 hsz hg hbr;by_cases hl:s.length≤400
 ·have hl2:¬(400:Int)<(s.length:Int):=by omega
  have HL:=Hd hl;clear hl;go_enter func35,ntmps35
  go_wp2_with (first
   | (go_at_call 50
      refine(PL s _ (by omega) HG0.out).mono ?_;rintro e w1⟨⟨na,nc,ia,ic⟩,t,ok,rfl,ht,hb1,hbd,hrg,hcl⟩;rw[HSZ.out]at hb1;unfold TreeV.val;have hb2:=hb1.alloc (by have:=hb1.size;rw[HSZ.out]at this;exact this) (.cells #[.slice na t.nodes.length nc,.slice ia t.items.length ic] 25);have HB2:=Hd hb2;have HB1S:Hid (w.heap.size+1≤w1.heap.size):=Hd (by have:=hb1.size;rw[HSZ.out]at this;exact this);have HT2:=Hd (ht.mono ((Below.refl _ w1).alloc nlr (.cells #[.slice na t.nodes.length nc,.slice ia t.items.length ic] 25)) nlr);have HBD:=Hd hbd;have HRG:=Hd hrg;have HCL:=Hd hcl;have hh:=(hb2.block w.heap.size (by omega)).trans (World.alloc_heap_new w (.cells #[.slice none 0 0,.slice none 0 0] 25));have r0:=zb (i:=0) (v:=.slice none 0 0) hh rfl;have r1:=zb (i:=1) (v:=.slice none 0 0) hh rfl;have f0:=zI (i:=0) hh;have f1:=zI (i:=1) hh;clear ht hb1 hbd hrg hcl hb2 hh;rcases ok with _|_
      ·go_wp2
       exact EE (v:=⟨na,nc,ia,ic⟩) (t:=t) (a:=none) (c:=0) (l:=[]) (ok:=false) HB2.out HT2.out ⟨rfl,nlr,(fun _=>rfl),.inl rfl⟩ HBD.out HRG.out (fun h=>by cases h) (fun t' _ h _=>by have:=(HCL.out t' h).2;cases this) rfl rfl rfl rfl brf
      have A1:=Hd True.intro)
   | (have:=A2;clear this;go_at_call 16
      refine(iD ⟨ma,mc,ja,jc⟩ t _ HBD.out HRG.out (HB1.out _ HB3.out) HT3.out).mono ?_;rintro e w4⟨a,c,rfl,hown,hb4⟩;have hr:=HRR.out;rw[hr]at hown⊢;simp only at hown;have hs3:=HB3.out.size;have hb5:Below w3.heap.size w3 (w4.alloc (.cells #[.slice a dl.length c] 30)):=hb4.alloc hb4.size _;have c50:=(hb5.cell (p:=⟨w1.heap.size,0,none⟩) hs31).trans C50.out;have c51:=(hb5.cell (p:=⟨w1.heap.size,1,none⟩) hs31).trans C51.out;have hb6:=HB3.out.trans (hb5.mono (by rw[HSZ.out]at hs3;exact hs3));have HB6:=Hd hb6;have HT6:=Hd ((IsTree.mono HT2.out HB23.out nlr).mono hb5 nlr);have HI6:=Hd (Row.mono (zq hown) ((Below.refl _ w4).alloc nlr (.cells #[.slice a dl.length c] 30)) nlr);have hh:=(hb6.block w.heap.size (by omega)).trans (World.alloc_heap_new w (.cells #[.slice none 0 0,.slice none 0 0] 25));have hb44:=HB3.out.trans (hb4.mono (by rw[HSZ.out]at hs3;exact hs3));have hh4:=(hb44.block w.heap.size (by omega)).trans (World.alloc_heap_new w (.cells #[.slice none 0 0,.slice none 0 0] 25));have r0:=zb (i:=0) (v:=.slice none 0 0) hh rfl;have r1:=zb (i:=1) (v:=.slice none 0 0) hh rfl;have f0:=zI (i:=0) hh;have f1:=zI (i:=1) hh;have q0:=zb (i:=0) (v:=.slice none 0 0) hh4 rfl;have q1:=zb (i:=1) (v:=.slice none 0 0) hh4 rfl;have g0:=zI (i:=0) hh4;have g1:=zI (i:=1) hh4;have d50:=(hb4.cell (p:=⟨w1.heap.size,0,none⟩) hs31).trans C50.out;have d51:=(hb4.cell (p:=⟨w1.heap.size,1,none⟩) hs31).trans C51.out;have HB44:=Hd hb44;have HT44:=Hd ((IsTree.mono HT2.out HB23.out nlr).mono hb4 nlr);have HI44:=Hd (zq hown);clear hb44 hh4;have hs44:w3.heap.size≤w4.heap.size:=hb4.size;have hs01:w.heap.size<w1.heap.size:=by have:=HB1S.out;omega
      have hs04:w.heap.size<w4.heap.size:=by omega
      have hs14:w1.heap.size<w4.heap.size:=by omega
      have hs10:¬w1.heap.size=w.heap.size:=by omega
      have hs40:¬w4.heap.size=w.heap.size:=by omega
      clear hown hb4 hb5 hb6 hh hr A2
      have A3:=Hd True.intro)
   | (have:=A1;clear this;go_at_call 40
      refine(PA ⟨na,nc,ia,ic⟩ t _ HBD.out HT2.out).mono ?_;rintro e w3⟨⟨ma,mc,ja,jc⟩,B,ks,rfl,-,hon,hin,-,hb3⟩;unfold TreeV.val;have HT3:=Hd (show IsTree w3 ⟨ma,mc,ja,jc⟩ t from⟨hon.nodes,hin⟩);have HB23:=Hd hb3;have hs2:=HB2.out.size;have HB3:=Hd (HB2.out.trans (hb3.mono (by rw[HSZ.out]at hs2;exact hs2)));have hs31:w1.heap.size<w3.heap.size:=Nat.lt_of_lt_of_le (by simp) hb3.size;have C50:=Hd ((hb3.cell (p:=⟨w1.heap.size,0,none⟩) (by simp)).trans (zb (i:=0) (v:=.slice na t.nodes.length nc) (World.alloc_heap_new w1 (.cells #[.slice na t.nodes.length nc,.slice ia t.items.length ic] 25)) rfl));have C51:=Hd ((hb3.cell (p:=⟨w1.heap.size,1,none⟩) (by simp)).trans (zb (i:=1) (v:=.slice ia t.items.length ic) (World.alloc_heap_new w1 (.cells #[.slice na t.nodes.length nc,.slice ia t.items.length ic] 25)) rfl));obtain⟨⟨dl,pn,er⟩,hr⟩:∃r,zc t=r:=⟨_,rfl⟩
      have HRR:=Hd hr;clear hon hin hb3 hr A1 r0 r1 f0 f1
      have A2:=Hd True.intro))
  by_cases he:er=0
  ·have hdl:dl.length=t.nodes.length:=by
    have h1:(zc t).2.2=0:=by rw[HRR.out];exact he
    have h2:=eO (CK h1).check (CK h1).err;rw[HRR.out]at h2;rw[(Prod.mk.inj h2).1,zL]
   have hdl1:((dl.length:Int)==(t.nodes.length:Int))=true:=by simp[hdl]
   have HDL:=Hd hdl;have HE:=Hd he;subst he;clear hdl;go_region;go_wp2;refine EE (v:=⟨na,nc,ia,ic⟩) (t:=t) (a:=a) (c:=c) (l:=dl) (ok:=true) HB44.out HT44.out HI44.out HBD.out HRG.out (fun _=>?_) (fun t' _ h _=>⟨(HCL.out t' h).1,rfl⟩) rfl rfl rfl rfl ((brf.alloc nlr _).drew);have h1:(zc t).2.2=0:=by rw[HRR.out]
   have h2:=eO (CK h1).check (CK h1).err;rw[HRR.out]at h2;exact⟨h1,(Prod.mk.inj h2).1⟩
  ·have he1:(er==0)=false:=by simpa using he
   have HE:=Hd he;go_region;go_wp2;refine EE (v:=⟨na,nc,ia,ic⟩) (t:=t) (a:=a) (c:=c) (l:=dl) (ok:=false) HB44.out HT44.out HI44.out HBD.out HRG.out (fun h=>by cases h) (fun t' _ h h0=>?_) rfl rfl rfl rfl ((brf.alloc nlr _).drew);rw[← (HCL.out t' h).1,HRR.out]at h0;exact absurd h0 HE.out
 ·have hl2:(400:Int)<(s.length:Int):=by omega
  have HL:=Hd hl;clear hl;go_enter func35,ntmps35;go_wp2;refine bodyPost_ret (v:=.tuple #[.agg #[.slice none 0 0,.slice none 0 0],.slice none 0 0,.bool false]) (by simp[results,results35,go_sem,loadVar,Result.andThen]) rfl ⟨⟨none,0,none,0⟩,⟨[],[]⟩,none,0,[],false,rfl,⟨⟨[],rfl,⟨rfl,nlr,(fun _=>rfl),.inl rfl⟩,(fun i hi=>by cases hi)⟩,⟨rfl,nlr,(fun _=>rfl),.inl rfl⟩⟩,⟨rfl,nlr,(fun _=>rfl),.inl rfl⟩,HB0.out,⟨by simp,by simp,(fun d hd=>by cases hd),(fun d hd=>by cases hd)⟩,(fun i hi=>by cases hi),(fun h=>by cases h),(fun t' h _ _=>absurd h HL.out)⟩
structure ResW (w0 W:World) (g:Nat) (v:TreeV) (t:Tr) (a:Option Addr) (c:Nat) (ua:Option Addr) (uc:Nat):Prop where
 c0:W.cell? ⟨g,0,none⟩=some (.slice v.na t.nodes.length v.nc)
 c1:W.cell? ⟨g,1,none⟩=some (.slice v.ia t.items.length v.ic)
 tree:IsTree W v t
 decl:Row 1 W a t.nodes.length c (zo (zh t t.nodes.length))
 ups:Row 1 W ua t.nodes.length uc (zo (fH t t.nodes.length))
 gl:g<W.heap.size
 below:Below w0.heap.size w0 W
 gv:GV W
theorem ResW.step{w0 W W':World}{g:Nat}{v:TreeV}{t:Tr}{a ua:Option Addr}{c uc:Nat}(h:ResW w0 W g v t a c ua uc)(hb:Below W.heap.size W W'):ResW w0 W' g v t a c ua uc:=
 ⟨(hb.cell (p:=⟨g,0,none⟩) h.gl).trans h.c0,(hb.cell (p:=⟨g,1,none⟩) h.gl).trans h.c1,h.tree.mono hb nlr,Row.mono h.decl hb nlr,Row.mono h.ups hb nlr,Nat.lt_of_lt_of_le h.gl hb.size,h.below.trans (hb.mono h.below.size),h.gv.mono hb nlr⟩
theorem ResW.declAt{w0 W:World}{g:Nat}{v:TreeV}{t:Tr}{a ua:Option Addr}{c uc:Nat}(h:ResW w0 W g v t a c ua uc){i:Nat}(hi:i<t.nodes.length):∃b o,a=some ⟨b,o,none⟩∧b<W.heap.size∧W.cell? ⟨b,o+i,none⟩=some (intV (means t i)):=by
 obtain⟨b,o,rfl,hb,hc⟩:=h.decl.some (by omega);have hl:i<(zo (zh t t.nodes.length)).length:=by simp[zL];exact hi
 refine⟨b,o,rfl,hb,?_⟩;rw[hc i hl];simp[jF]
theorem ResW.upAt{w0 W:World}{g:Nat}{v:TreeV}{t:Tr}{S:List Int}{a ua:Option Addr}{c uc:Nat}(h:ResW w0 W g v t a c ua uc)(G:Good t S){i:Nat}(hi:i<t.nodes.length):∃b o,ua=some ⟨b,o,none⟩∧b<W.heap.size∧W.cell? ⟨b,o+i,none⟩=some (intV (parent t i)):=by
 obtain⟨b,o,rfl,hb,hc⟩:=h.ups.some (by omega);have hul:(fH t t.nodes.length).length=t.nodes.length:=nC t _;have hl:i<(zo (fH t t.nodes.length)).length:=by simp[hul];exact hi
 have hu:=iZ G i hi;rw[List.getD_eq_getElem?_getD,List.getElem?_eq_getElem (by omega),Option.getD_some]at hu;refine⟨b,o,rfl,hb,?_⟩;rw[hc i hl];simp[hu]
theorem PD{t:Tr}{S:List Int}(G:Good t S):Ups t (fH t t.nodes.length):=
 ⟨nC t _,fun i hi=>by
  have h:=iZ G i hi;have hl:i<(fH t t.nodes.length).length:=by rw[nC];exact hi
  rw[List.getD_eq_getElem?_getD,List.getElem?_eq_getElem hl]at h;rw[List.getElem?_eq_getElem hl]
  exact congrArg some h⟩
theorem ResW.within{w0 W:World}{g:Nat}{v:TreeV}{t:Tr}{S:List Int}{a ua:Option Addr}{c uc:Nat}(h:ResW w0 W g v t a c ua uc)(bd:Bd t)(G:Good t S){node of:Int}(hn : -1≤node)(hn2:node<t.nodes.length) :
 Calls prog 39 #[.slice ua t.nodes.length uc,intV node,intV of] W fun e w'=>e=.returned (.bool (inside t node of))∧W=w':=by
 have hul:(fH t t.nodes.length).length=t.nodes.length:=nC t _;have:=OY ua uc t (fH t t.nodes.length) node of W bd (PD G) hn hn2 (by unfold Ints;rw[hul];exact h.ups);rwa[hul]at this
theorem ResW.declC{w0 W:World}{g:Nat}{v:TreeV}{t:Tr}{S:List Int}{a ua:Option Addr}{c uc:Nat}(h:ResW w0 W g v t a c ua uc)(bd:Bd t)(wf:WF t)(G:Good t S){i:Nat}(hi:i<t.nodes.length) :
 Calls prog 37 #[v.val t,.slice ua t.nodes.length uc,intV i] W (zn W (zl t i)):=by
 have hul:(fH t t.nodes.length).length=t.nodes.length:=nC t _;have:=OX v ua uc t (fH t t.nodes.length) i W bd wf (PD G) hi h.tree (by unfold Ints;rw[hul];exact h.ups);rwa[hul]at this
def OT(t:Tr)(k:Int)(i:Nat):Bool:=(zh t t.nodes.length)[i]?==some k
theorem PG(s:List UInt8)(w:World)(hs:s.length≤maxLen)(hg:GV w) :
 Calls prog 7 #[strV s] w (zn w true):=by
 have hmo:prog.follows .mixedOrders=true:=by kernel_rfl
 have HC:=Hd (OU s w hs hg);have HG:=Hd hg;clear hg;go_enter func7,ntmps7
 go_wp2_with (first
  | (have:=A1;clear this;go_at_call 36
     refine(PF ⟨na,nc,ia,ic⟩ t _ HBD.out HWF.out HTX.out).mono ?_;rintro e w2⟨ua,uc,rfl,hown,hb2⟩;have hul:(fH t t.nodes.length).length=t.nodes.length:=nC t _;rw[hul]at hown⊢;have hu:=bG hown
     have HR:Hid (ResW w w2 w1.heap.size ⟨na,nc,ia,ic⟩ t a c ua uc):=Hd (by
      obtain⟨a',c',e,hr⟩:=hu;simp at e;obtain⟨rfl,rfl⟩:=e
      exact⟨(hb2.cell (p:=⟨w1.heap.size,0,none⟩) (by simp)).trans (zG rfl),(hb2.cell (p:=⟨w1.heap.size,1,none⟩) (by simp)).trans (zG rfl),HTX.out.mono hb2 nlr,Row.mono HDX.out hb2 nlr,hr,Nat.lt_of_lt_of_le (by simp) hb2.size,HBX.out.trans (hb2.mono HBX.out.size),(HG.out.mono HBX.out nlr).mono hb2 nlr⟩)
     clear hown hb2 hu A1)
  | (go_at_call 35
     refine HC.out.mono ?_;rintro e w1⟨⟨na,nc,ia,ic⟩,t,a,c,l,ok,rfl,ht,hi,hb1,hbd,hrg,hok,-⟩;unfold TreeV.val;have hbx:=hb1.alloc hb1.size (.cells #[.slice na t.nodes.length nc,.slice ia t.items.length ic] 25);have HBX:=Hd hbx;clear hb1 hbx;rcases ok with _|_
     ·go_wp2_with (go_at_call 14;refine(zW _ (HG.out.mono HBX.out nlr)).mono ?_;rintro e w2 ⟨rfl,hb2⟩)
      go_ret;exact⟨rfl,HBX.out.trans (hb2.mono HBX.out.size)⟩
     obtain⟨hr0,rfl⟩:=hok rfl;obtain⟨wf,G⟩:=OP hbd hr0;have hdl:(zh t t.nodes.length).length=t.nodes.length:=zL t _;rw[hdl];unfold Ints at hi;rw[hdl]at hi;have hn3:=hbd.n;have HBD:=Hd hbd;have HRG:=Hd hrg;have HR0:=Hd hr0;have HWF:=Hd wf;have HGG:=Hd G;have HTX:=Hd (ht.mono ((Below.refl _ w1).alloc nlr (.cells #[.slice na t.nodes.length nc,.slice ia t.items.length ic] 25)) nlr);have HDX:=Hd (Row.mono hi ((Below.refl _ w1).alloc nlr (.cells #[.slice na t.nodes.length nc,.slice ia t.items.length ic] 25)) nlr);clear ht hi hbd hrg hok hr0 wf G hdl
     have A1:=True.intro))
 go_loopw [7] (fun t7 wr=>∃k:Nat,t7=.int .i64 k∧k≤t.nodes.length∧Hid (ResW w wr w1.heap.size ⟨na,nc,ia,ic⟩ t a c ua uc)) (fun i _=>t.nodes.length-(intOf i).toNat)
 case atStart=>exact⟨0,rfl,Nat.zero_le _,HR⟩
 case round=>
  obtain⟨k,rfl,hk,HRW⟩:=hrel;have b0:=HRW.out.c0;have b1:=HRW.out.c1;have hgl:=HRW.out.gl;by_cases hlt:k<t.nodes.length
  ·obtain⟨bd,od,ed,hbd,hcd⟩:=HRW.out.declAt hlt
   obtain⟨b,o,ka,kc,ea,hb,c0,c1,c2,c3,c4,hkr⟩:=HRW.out.tree.nodes.at hlt;simp only at ea;subst ea ed;have hnd:=t.nd_at hlt;obtain⟨D,hD⟩:∃D,t.nodes[k]=D:=⟨_,rfl⟩
   rw[hD]at c0 c1 c2 c3 c4 hkr hnd;have HND:=Hd hnd;clear hkr hD hnd;have HK:=Hd hlt;go_wp2;go_region
   go_upto_region 9 with fail
   go_cut [10]from 30 to 191 (fun v wc=>v=.bool (dW D.kind)∧Below wr.heap.size wr wc∧wc.cell? ⟨wr.heap.size,0,none⟩=some (.int .u8 D.kind)∧wc.cell? ⟨wr.heap.size,1,none⟩=some (strV D.text)∧wr.heap.size<wc.heap.size)
   case first=>as_aux_lemma=>
    go_wp2;all_goals go_meet
    all_goals exact⟨by simp_all[dW],((Below.refl _ wr).alloc nlr _).drew,by simp<;>omega,by simp,by simp⟩
   case rest=>as_aux_lemma=>
    obtain⟨rfl,hB9,h8a,h8b,h8l⟩:=hcut;have HB9:=Hd hB9;have HRC:=Hd (HRW.out.step hB9);clear hB9 b0 b1 hcd c0 c1 c2 c3 c4 hgl;have b0:=HRC.out.c0;have b1:=HRC.out.c1;have hgl:=HRC.out.gl
    cases hnk:dW D.kind with
    | false=>as_aux_lemma=>
      have hm:means t k = -1:=yL (by rw[HND.out];exact hnk);rw[hm];clear hm hnk;go_wp2
      go_roundw
      case rel=>exact⟨k+1,by go_num,by omega,HRC⟩
      case measure=>simp[intOf];omega
    | true=>as_aux_lemma=>
      obtain⟨d,hd,hdl,hdd,hdt,hds,hpl⟩:=PN HBD.out HR0.out HK.out (by rw[HND.out];exact hnk);obtain⟨b2,o2,ke,kce,ea2,hb2,e0,e1,e2,e3,e4,hke⟩:=HRC.out.tree.nodes.at hdl;simp only[Option.some.injEq,Addr.mk.injEq,and_true]at ea2;obtain⟨rfl,rfl⟩:=ea2;rw[hd];have hne:=t.nd_at hdl;obtain⟨E,hE⟩:∃E,t.nodes[d]=E:=⟨_,rfl⟩
      rw[hE]at e0 e1 e2 e3 e4 hke hne;rw[HND.out,hne]at hdt hds;rw[hdt]at e1;have HNE:=Hd hne;have HKE:=Hd hke;have HSU:=Hd hds;have HDC:=Hd hdd;have HPL:=Hd hpl;have HNK:=Hd hnk;have hbc:b<wc.heap.size:=hb2;have hsc:=h8l;have hdn1:decide ((t.nodes.length:Int)≤(d:Int))=false:=by simp;omega
      have hdn2:decide (t.nodes.length≤d)=false:=by simp;omega
      have hdn3:¬t.nodes.length≤d:=by omega
      clear hE hne hke hds hdd hpl hnk hd hdt;go_wp2;refine N.region_JTm 38 hmo (by kernel_rfl) (by kernel_rfl) rfl (by kernel_rfl) (by kernel_rfl) (fun Wz=>Below (wc).heap.size (wc) Wz) (brf.drew) ?_
      iterate 13 (refine N.WalkT.cons ?_ (N.StepP.pure rfl ?_) ?_;rotate_left;(intro W hJ;obtain⟨hcJ,hfJ⟩:=bcell hJ;go_simp;rfl);simp only[N.pz])
      refine N.WalkT.cons (.bool true) (N.StepP.call (f:=37) (args:=#[TreeV.val ⟨some ⟨b,o,none⟩,nc,ia,ic⟩ t,.slice ua t.nodes.length uc,intV d]) rfl ?hG1_13 ?cG1_13) ?rG1_13;case hG1_13=>intro W hJ;obtain⟨hcJ,hfJ⟩:=bcell hJ;go_simp;try rfl
      case cG1_13=>intro W hJ;(refine((HRC.out.step hJ).declC HBD.out HWF.out HGG.out hdl).mono ?_;rw[HDC.out];rintro e w' ⟨rfl,hb2⟩;exact⟨rfl,hJ.trans (hb2.mono hJ.size)⟩)
      simp only[N.pz]
      iterate 22 (refine N.WalkT.cons ?_ (N.StepP.pure rfl ?_) ?_;rotate_left;(intro W hJ;obtain⟨hcJ,hfJ⟩:=bcell hJ;go_simp;rfl);simp only[N.pz])
      refine N.WalkT.cons (.bool true) (N.StepP.call (f:=38) (args:=#[.int .u8 D.kind,.int .u8 E.kind]) rfl ?hG1_36 ?cG1_36) ?rG1_36;case hG1_36=>intro W hJ;obtain⟨hcJ,hfJ⟩:=bcell hJ;go_simp;try rfl
      case cG1_36=>intro W hJ;(refine(PH _ _ W).mono ?_;rw[HSU.out];rintro e w' ⟨rfl,rfl⟩;exact⟨rfl,hJ⟩)
      simp only[N.pz];refine N.WalkT.cons ?_ (N.StepP.pure rfl ?_) ?_;rotate_left;(intro W hJ;obtain⟨hcJ,hfJ⟩:=bcell hJ;go_simp;rfl);simp only[N.pz];refine N.WalkT.nil fun W hJ=>?_
      go_upto_region 15 with fail
      have HAR:Hid (OO t k d=(inside t k d&&(E.kind==42||E.kind==20&&(E.kids.length==2&&inside t k (E.kids.getD 1 0))))):=Hd (by unfold OO;rw[HNE.out]);have HPR:Hid (ON t k d=(E.kind==34&&inside t k (parent t d))):=Hd (by unfold ON;rw[HNE.out]);have HIR:Hid (OV t k d=(decide ((d:Int)<(k:Int))&&decide (parent t d<0))):=Hd rfl;have HJW:=Hd hJ;have HRD:=Hd (HRC.out.step hJ);clear b0 b1 hgl e0 e1 e2 e3 e4 hbc hsc h8a h8b h8l hb2 hJ;have b0:=HRD.out.c0;have b1:=HRD.out.c1;obtain⟨b3,o3,ke3,kce3,ea3,hb3,e0,e1,e2,e3,e4,hke3⟩:=HRD.out.tree.nodes.at hdl;simp only[Option.some.injEq,Addr.mk.injEq,and_true]at ea3;obtain⟨rfl,rfl⟩:=ea3;have hE2:t.nodes[d]=E:=(t.nd_at hdl).symm.trans HNE.out;rw[hE2]at e0 e1 e2 e3 e4 hke3;obtain⟨bu,ou,eu,hbu,hcu⟩:=HRD.out.upAt HGG.out hdl;subst eu;have hW:∀of:Int,Calls prog 39 #[.slice (some ⟨bu,ou,none⟩) t.nodes.length uc,intV k,intV of] W fun e w'=>e=.returned (.bool (inside t k of))∧W=w':=fun of=>HRD.out.within HBD.out HGG.out (by omega) (by have:=HK.out;omega);have HW:=Hd hW;have hEk:=HWF.out.letK d hdl;rw[hE2]at hEk;have HEK:=Hd hEk;have HKE3:=Hd hke3;clear hW hE2 hEk hke3
      go_cut [11]from 30 to 191 (fun v wd=>v=.bool (OO t k d)∧W=wd)
      case first=>as_aux_lemma=>
       by_cases h20:E.kind=20
       ·have hl2:=HEK.out h20
        obtain⟨bk,ok,rfl,hbk,hck⟩:=Ints.at HKE3.out (i:=1) (by omega);obtain⟨x,hx⟩:∃x,E.kids.getD 1 0=x:=⟨_,rfl⟩
        have hx2:E.kids[1]'(by omega)=x:=by rw[←hx,List.getD_eq_getElem?_getD,List.getElem?_eq_getElem (by omega),Option.getD_some]
        rw[hx2]at hck;rw[h20]at e0;rw[hl2]at e3;have HX:=Hd hx;have HL2:=Hd hl2;have H20:=Hd h20;clear hl2 hx hx2 h20
        go_wp2_with (go_at_call 39;refine(HW.out _).mono ?_;rintro e w' ⟨rfl,rfl⟩)
        all_goals go_meet
        all_goals go_light
        all_goals refine⟨congrArg Value.bool ?_,rfl⟩
        all_goals rw[HAR.out,H20.out,HL2.out,HX.out]
        all_goals simp_all
       ·have h20':(E.kind==20)=false:=by simpa using h20
        have H20:=Hd h20';clear h20
        go_wp2_with (go_at_call 39;refine(HW.out _).mono ?_;rintro e w' ⟨rfl,rfl⟩)
        all_goals go_meet
        all_goals go_light
        all_goals refine⟨congrArg Value.bool ?_,rfl⟩
        all_goals rw[HAR.out,H20.out]
        all_goals simp_all
      case rest=>as_aux_lemma=>
       obtain⟨rfl,rfl⟩:=hcut
       go_upto_region 16 with fail
       go_cut [12]from 30 to 191 (fun v wd=>v=.bool (ON t k d)∧W=wd)
       case first=>as_aux_lemma=>
        go_wp2_with (go_at_call 39;refine(HW.out _).mono ?_;rintro e w' ⟨rfl,rfl⟩)
        all_goals go_meet
        all_goals go_light
        all_goals refine⟨congrArg Value.bool ?_,rfl⟩
        all_goals rw[HPR.out]
        all_goals simp_all
       case rest=>as_aux_lemma=>
        obtain⟨rfl,rfl⟩:=hcut
        go_upto_region 17 with fail
        go_cut [13]from 30 to 191 (fun v wd=>v=.bool (OV t k d)∧W=wd)
        case first=>as_aux_lemma=>
         go_wp2;all_goals go_meet
         all_goals go_light
         all_goals refine⟨congrArg Value.bool ?_,rfl⟩
         all_goals rw[HIR.out]
         all_goals simp_all
         all_goals (try (intro _;omega))
        case rest=>as_aux_lemma=>
         obtain⟨rfl,rfl⟩:=hcut;have hpl:=HPL.out;clear HAR HPR HIR;generalize OO t k d=A at hpl⊢;generalize ON t k d=P at hpl⊢;generalize OV t k d=I at hpl⊢;rcases A with _|_
         ·rcases P with _|_
          ·obtain rfl:I=true:=by simpa using hpl
           clear hpl;go_wp2
           go_roundw
           case rel=>exact⟨k+1,by go_num,by omega,HRD⟩
           case measure=>simp[intOf];omega
          ·clear hpl
           go_wp2
           go_roundw
           case rel=>exact⟨k+1,by go_num,by omega,HRD⟩
           case measure=>simp[intOf];omega
         ·clear hpl
          go_wp2
          go_roundw
          case rel=>exact⟨k+1,by go_num,by omega,HRD⟩
          case measure=>simp[intOf];omega
  ·obtain rfl:k=t.nodes.length:=by omega
   go_wp2;clear b0 b1 hgl hlt hk;rename World=>wr0
   go_loopw [14] (fun t14 wr=>∃k:Nat,t14=.int .i64 k∧k≤t.nodes.length∧Hid (ResW w wr w1.heap.size ⟨na,nc,ia,ic⟩ t a c ua uc)) (fun i _=>t.nodes.length-(intOf i).toNat)
   case atStart=>exact⟨0,rfl,Nat.zero_le _,HRW⟩
   case round=>
    obtain⟨k,rfl,hk,HRW⟩:=hrel;have b0:=HRW.out.c0;have b1:=HRW.out.c1;have hgl:=HRW.out.gl;by_cases hlt:k<t.nodes.length
    ·have HUS:=Hd (PW HR0.out hlt)
     have HK:=Hd hlt;have B1:=Hd True.intro;obtain⟨dk,hdk⟩:∃dk,zl t k=dk:=⟨_,rfl⟩
     have HDK:=Hd hdk;clear hdk
     go_upto_if 210 with(first
      | (have:=B3;clear this;go_at_call 37
         refine(HR4.out.declC HBD.out HWF.out HGG.out HK.out).mono ?_;rw[HDK.out];rintro e w5⟨rfl,hb5⟩;have HR5:=Hd (HR4.out.step hb5);have HI5:=Hd (Row.mono HI4.out hb5 nlr);clear hb5 B3
         have B4:=Hd True.intro)
      | (have:=B2;clear this;go_at_call 20
         refine(qU ⟨ma,mc,ja,jc⟩ t k _ HBD.out HRG.out HR3.out.gv HT3.out).mono ?_;rintro e w4⟨a9,c9,rfl,hown,hb4⟩;have HR4:=Hd (HR3.out.step hb4);have HI4:=Hd (zq hown);have c40:=HR4.out.c0;have c41:=HR4.out.c1;clear hown hb4 B2
         have B3:=Hd True.intro)
      | (have:=B1;clear this;go_at_call 40
         refine(PA ⟨na,nc,ia,ic⟩ t _ HBD.out HRW.out.tree).mono ?_;rintro e w3⟨⟨ma,mc,ja,jc⟩,B,ks,rfl,-,hon,hin,-,hb3⟩;unfold TreeV.val;have HT3:=Hd (show IsTree w3 ⟨ma,mc,ja,jc⟩ t from⟨hon.nodes,hin⟩);have HR3:=Hd (HRW.out.step hb3);clear hon hin hb3 B1
         have B2:=Hd True.intro))
     have c50:=HR5.out.c0;have c51:=HR5.out.c1;rcases dk with _|_
     ·have hu1:jN t k=([],7):=by rw[HUS.out,HDK.out];rfl
      rw[hu1];clear hu1;go_wp2
      go_roundw
      case rel=>exact⟨k+1,by go_num,by omega,HR5⟩
      case measure=>simp[intOf];omega
     ·have hu1:jN t k=(uses (zh t t.nodes.length) k,0):=by rw[HUS.out,HDK.out];rfl
      have hUU:uses (zh t t.nodes.length) k=idxs (OT t k) t.nodes.length:=by unfold uses OT;rw[zL]
      obtain⟨U,hU⟩:∃U,uses (zh t t.nodes.length) k=U:=⟨_,rfl⟩
      rw[hU]at hu1 hUU;rw[hu1]at HI5;rw[hu1];simp only at HI5;have HUU:=Hd hUU;clear hu1 hU hUU;go_wp2;clear b0 b1 c40 c41 c50 c51 hgl;rename World=>w5z
      go_loopw [17,18] (fun t17 t18 wz=>∃(j m:Nat),t18=.int .i64 j∧t17=.int .i64 m∧j≤t.nodes.length∧Hid ((idxs (OT t k) j).length=m)∧Hid (ResW w wz w1.heap.size ⟨na,nc,ia,ic⟩ t a c ua uc)∧Hid (Ints wz a9 c9 U)) (fun _ i _=>t.nodes.length-(intOf i).toNat)
      case atStart=>exact⟨0,0,rfl,rfl,Nat.zero_le _,Hd rfl,HR5,HI5⟩
      case round=>
       obtain⟨j,m,rfl,rfl,hj,HM,HRZ,HIZ⟩:=hrel;by_cases hjl:j<t.nodes.length
       ·obtain⟨bd,od,ed,hbd,hcd⟩:=HRZ.out.declAt hjl
        subst ed;by_cases he:means t j=k
        ·have hp:OT t k j=true:=by unfold OT;rw[PM hjl,he];simp
         have hat:=PX hjl hp;rw[←HUU.out,HM.out]at hat;obtain⟨hml,hget⟩:=List.getElem?_eq_some_iff.1 hat;obtain⟨bu,ou,rfl,hbu,hcu⟩:=Ints.at HIZ.out hml;rw[hget]at hcu;rw[he]at hcd;have HSN:Hid ((idxs (OT t k) (j+1)).length=m+1):=Hd (by rw[kZ hp,List.length_append,HM.out];rfl);have hm9:m≤t.nodes.length:=by have:=aP (OT t k) j;rw[HM.out]at this;omega
         have hq1:¬U.length≤m:=by omega
         have hq2:decide ((U.length:Int)≤(m:Int))=false:=by simp;omega
         have hq3:decide (U.length≤m)=false:=by simp;omega
         clear hp hat hget he;go_wp2
         go_roundw
         case rel=>exact⟨j+1,m+1,by go_num,by go_num,by omega,HSN,HRZ,HIZ⟩
         case measure=>simp[intOf];omega
        ·have hp:OT t k j=false:=by unfold OT;rw[PM hjl];simp[he]
         have he':(means t j==(k:Int))=false:=by simpa using he
         have HSN:Hid ((idxs (OT t k) (j+1)).length=m):=Hd (by rw[iK hp];exact HM.out);clear hp he;go_wp2
         go_roundw
         case rel=>exact⟨j+1,m,by go_num,rfl,by omega,HSN,HRZ,HIZ⟩
         case measure=>simp[intOf];omega
       ·obtain rfl:j=t.nodes.length:=by omega
        have hml:U.length=m:=by rw[HUU.out];exact HM.out
        subst hml;go_wp2
        go_roundw
        case rel=>exact⟨k+1,by go_num,by omega,HRZ⟩
        case measure=>simp[intOf];omega
    ·obtain rfl:k=t.nodes.length:=by omega
     go_wp2_with (go_at_call 14;refine(zW _ HRW.out.gv).mono ?_;rintro e w9 ⟨rfl,hb9⟩)
     go_ret;exact⟨rfl,HRW.out.below.trans (hb9.mono HRW.out.below.size)⟩
end
end Go.Proofs.YtipjhljnkocioaaGreatDoor
