/- Part of a proof. -/
import Derived.Test.YtipjhljnkocioaaGreatDoorP31
import Derived.Test.YtipjhljnkocioaaGreatDoorP38
import Derived.Test.YtipjhljnkocioaaGreatDoorP39
set_option maxRecDepth 100000
set_option maxHeartbeats 8000000
set_option linter.unusedVariables false
set_option linter.unusedSimpArgs false
open Go.Proofs.Tryz
namespace Go.Proofs.YtipjhljnkocioaaGreatDoor
section
open Go Go.RowKit
def kT1:List UInt8:=[99,104,111,111,115,101,32,100,58,32,49,46,46,54,59,32,108,101,116,32,115,32,61,32,108,101,116,32,120,32,61,32,100,32,105,110,32,120,32,43,32,100,59]
def kT2:List UInt8:=[102,117,110,32,102,40,110,58,32,105,110,116,41,58,32,105,110,116,32,61,32,102,40,110,41,59]
def kT3:List UInt8:=[108,101,116,32,97,32,61,32,49,59,32,108,101,116,32,98,32,61,32,50,59,32,108,101,116,32,99,32,61,32,97,32,43,32,97,59]
def okT(s:List UInt8):Option Tr:=match cL s with|.ok t=>some t|_=>none
def gH(s:List UInt8):Tr:=(okT s).getD ⟨[],[]⟩
theorem qZ{s:List UInt8}(h:(okT s).isSome=true):cL s=.ok (gH s):=by
 unfold gH
 cases e:cL s with
 |error p=>unfold okT at h;rw[e]at h;cases h
 |ok t=>unfold okT;rw[e];rfl
theorem FV:cL kT1=.ok (gH kT1):=qZ (by decide +kernel)
theorem FW:cL kT2=.ok (gH kT2):=qZ (by decide +kernel)
theorem FX:cL kT3=.ok (gH kT3):=qZ (by decide +kernel)
theorem FY:zc (gH kT1)=([-1,-1,-1,2,7,2,-1,-1,-1],0,0):=by decide +kernel
theorem GB:pE (gH kT1) 2=([3,5],0):=by decide +kernel
theorem GC:visU (gH kT1) 4=([2,7],0):=by decide +kernel
theorem FR:fK (gH kT1) 6=([2,7],0):=by decide +kernel
theorem FZ:zc (gH kT2)=([],4,9):=by decide +kernel
theorem GA:eI (gH kT3) 2=0:=by decide +kernel
def errT(r:Except Int Tr):Int:=match r with|.error e=>e|.ok _=>0
theorem BW{r:Except Int Tr}{e:Int}(h:errT r=e)(h0:e≠0):r=.error e:=by
 cases r with
 |error x=>rw[show x=e from h]
 |ok t=>exact absurd h.symm h0
theorem FS:renU (gH kT1) 7 [100]=.error 9:=BW (by decide +kernel) (by decide)
theorem FT:renU (gH kT1) 7 [108,101,116]=.error 4:=BW (by decide +kernel) (by decide)
theorem GD:eS (gH kT1)=([8],0):=by decide +kernel
def nsL(t:Tr)(l:List Int)(item:Int):Nat→List Int
 |0=>[item]
 |m+1=>nsL t l item m++(if (nsL t l item m).contains (item-m)then ((List.range t.nodes.length).filter fun n=>zV t (n:Nat)==item-m&&l.getD n 0 != -1).map fun n=>zV t (l.getD n 0)else [])
theorem qY(t:Tr)(l:List Int)(item:Int):∀(m:Nat) (x:Int),x∈nsL t l item m↔NS t l item m x
 |0,x=>by simp[nsL,NS]
 | m+1,x=>by
   rw[nsL,List.mem_append,qY t l item m,jS];refine or_congr_right ?_;by_cases hc:(nsL t l item m).contains (item-m)=true
   ·rw[if_pos hc]
    have hy:NS t l item m (item-m):=(qY t l item m _).1 (List.contains_iff_mem.1 hc);constructor
    ·intro h
     obtain⟨n,hn,rfl⟩:=List.mem_map.1 h;obtain⟨h1,h2⟩:=List.mem_filter.1 hn;simp only[Bool.and_eq_true,beq_iff_eq,bne_iff_ne,ne_eq]at h2;exact⟨hy,n,List.mem_range.1 h1,h2.1,h2.2,rfl⟩
    ·rintro⟨-,n,h1,h2,h3,rfl⟩
     refine List.mem_map.2 ⟨n,List.mem_filter.2 ⟨List.mem_range.2 h1,?_⟩,rfl⟩;simp only[Bool.and_eq_true,beq_iff_eq,bne_iff_ne,ne_eq];exact⟨h2,h3⟩
   ·rw[if_neg hc]
    constructor
    ·intro h;cases h
    ·rintro⟨hy,-⟩
     exact absurd (List.contains_iff_mem.2 ((qY t l item m _).2 hy)) hc
theorem FQ:nsL (gH kT3) (ze (gH kT3) (gH kT3).nodes.length) 2 3=[2,0,0]:=by decide +kernel
theorem FU{M:List Int}(hn:M.Nodup)(hm:∀x,x∈M↔x≠2∧NS (gH kT3) (ze (gH kT3) (gH kT3).nodes.length) 2 (Int.toNat 2+1) x):bA M=[0]:=by
 have h:∀x,x∈M↔x∈[(0:Int)]:=fun x=>by
  rw[hm,show Int.toNat 2+1=3 from rfl,←qY,FQ];simp;omega
 have hp:M.Perm [0]:=(List.perm_ext_iff_of_nodup hn (by simp)).2 h;exact(bX ((bF M).trans hp) (bW _)).trans (by decide)
theorem mW(s:List UInt8)(t:Tr)(w:World)(hs:s.length≤1000000000)(hg:GV w)(hp:cL s=.ok t) :
 Calls prog 50 #[strV s] w fun e w'=>∃v:TreeV,e=.returned (.tuple #[v.val t,.bool true])∧IsTree w' v t∧Below w.heap.size w w':=by
 have hb0:Below w.heap.size w (w.alloc (.cells #[.slice none 0 0,.slice none 0 0] 25)):=(Below.refl _ w).alloc nlr _;have hP:=nE s _ hs (hg.mono hb0 nlr);rw[hp]at hP;have HP:=Hd hP;have HB0:=Hd hb0;have hsz:(w.alloc (.cells #[.slice none 0 0,.slice none 0 0] 25)).heap.size=w.heap.size+1:=by simp
 have HSZ:=Hd hsz;clear hP hb0 hsz hg hp;go_enter func50,ntmps50
 go_wp2_with (go_at_call 86;refine HP.out.mono ?_;rintro e w2 ⟨⟨na,nc,ia,ic⟩,rfl,ht,hb2⟩;rw[HSZ.out]at hb2;unfold TreeV.val;have hb3:=hb2.alloc (by have:=hb2.size;rw[HSZ.out]at this;exact this) (.cells #[.slice na t.nodes.length nc,.slice ia t.items.length ic] 25);have hh:=(hb3.block w.heap.size (by omega)).trans (World.alloc_heap_new w (.cells #[.slice none 0 0,.slice none 0 0] 25));have r0:=zb (i:=0) (v:=.slice none 0 0) hh rfl;have r1:=zb (i:=1) (v:=.slice none 0 0) hh rfl;have f0:=zu (i:=0) hh;have f1:=zu (i:=1) hh;have ht3:=ht.mono ((Below.refl _ w2).alloc nlr (.cells #[.slice na t.nodes.length nc,.slice ia t.items.length ic] 25)) nlr;have HTA:=Hd (TreeAt.put (v:=⟨na,nc,ia,ic⟩) r0 r1 f0 f1 (dV hb3) ht3 (HB0.out.trans (hb3.mono (by omega))));clear hb2 hb3 hh ht ht3)
 obtain⟨k0,k1,-,-,-,ht,hb⟩:=HTA.out;unfold put2 at k0 k1;refine bodyPost_ret (v:=.tuple #[.agg #[.slice na t.nodes.length nc,.slice ia t.items.length ic],.bool true]) (by simp[results,results50,go_sem,loadVar,k0,k1,Result.andThen]) rfl ⟨⟨na,nc,ia,ic⟩,rfl,ht,hb⟩
theorem lA{s:List UInt8}{t:Tr}(h:cL s=.ok t):Bd t∧Rg t:=by
 unfold cL tF at h
 cases hr:lW s with
 |error e=>rw[hr]at h;cases h
 | ok l=>
   rw[hr]at h;simp only at h;obtain⟨tk,hs⟩:=wU hr;have hok:lJ ⟨l,s.length⟩:=fun t ht hk=>(lT (tk.tok t ht hk)).2;cases ht:mN ⟨l,(s.length:Int)⟩with
   |error p=>rw[ht]at h;cases h
   | ok t'=>
     rw[ht]at h;simp only at h;have tok:=xA hok ht;have hb:Bd t':=tok.bd tk.many (fun x hx=>Nat.le_trans (tk.text x hx) (by omega));split at h
     ·cases h
     ·split at h
      ·cases h
      ·split at h
       ·cases h
       ·cases h;exact⟨hb,tok.rg⟩
structure KI (w W:World) (b:Nat) (v:TreeV) (t:Tr):Prop where
 c0:W.cell? ⟨b,0,none⟩=some (.slice v.na t.nodes.length v.nc)
 c1:W.cell? ⟨b,1,none⟩=some (.slice v.ia t.items.length v.ic)
 tree:IsTree W v t
 gv:GV W
 below:Below w.heap.size w W
theorem KI.step{w W W':World}{b:Nat}{v:TreeV}{t:Tr}(h:KI w W b v t)(hb:Below W.heap.size W W'):KI w W' b v t:=
 ⟨(hb.cell (p:=⟨b,0,none⟩) (World.block_lt_of_cell? W _ h.c0)).trans h.c0,(hb.cell (p:=⟨b,1,none⟩) (World.block_lt_of_cell? W _ h.c1)).trans h.c1,h.tree.mono hb nlr,h.gv.mono hb nlr,h.below.trans (hb.mono h.below.size)⟩
theorem CR(s:List UInt8)(w:World)(hs:s.length≤1000000000)(hg:GV w) :
 Calls prog 86 #[strV s] w fun e w'=>∃(v:TreeV) (t:Tr) (pl er:Int),e=.returned (.tuple #[v.val t,intV pl,intV er])∧IsTree w' v t∧Below w.heap.size w w'∧Bd t∧Rg t∧(∀t',cL s=.ok t'→t=t'∧er=0):=by
 have h:=nE s w hs hg
 cases hp:cL s with
 | error p=>
   rw[hp]at h;refine h.mono ?_;rintro e w'⟨rfl,hb⟩;refine⟨⟨none,0,none,0⟩,⟨[],[]⟩,p.1,p.2,rfl,⟨⟨[],rfl,⟨rfl,nlr,(fun _=>rfl),.inl rfl⟩,(fun i hi=>by cases hi)⟩,⟨rfl,nlr,(fun _=>rfl),.inl rfl⟩⟩,hb,⟨by simp,by simp,(fun d hd=>by cases hd),(fun d hd=>by cases hd)⟩,(fun i hi=>by cases hi),(fun t' h=>by cases h)⟩
 | ok t=>
   rw[hp]at h;refine h.mono ?_;rintro e w'⟨v,rfl,ht,hb⟩;obtain⟨h1,h2⟩:=lA hp;exact⟨v,t,0,0,rfl,ht,hb,h1,h2,fun t' h=>⟨Except.ok.inj h,rfl⟩⟩
def ET(w:World)(s:List UInt8)(e:Ending)(w':World):Prop:=
 ∃(v:TreeV) (t:Tr) (ok:Bool),e=.returned (.tuple #[v.val t,.bool ok])∧IsTree w' v t∧Below w.heap.size w w'∧Bd t∧Rg t∧(∀t',cL s=.ok t'→t=t'∧ok=true)
theorem BL(s:List UInt8)(w:World)(hs:s.length≤1000000000)(hg:GV w) :
 Calls prog 50 #[strV s] w (ET w s):=by
 have hb0:Below w.heap.size w (w.alloc (.cells #[.slice none 0 0,.slice none 0 0] 25)):=(Below.refl _ w).alloc nlr _;have HP:=Hd (CR s _ hs (hg.mono hb0 nlr));have HB0:=Hd hb0;have hsz:(w.alloc (.cells #[.slice none 0 0,.slice none 0 0] 25)).heap.size=w.heap.size+1:=by simp
 have HSZ:=Hd hsz;clear hb0 hsz hg;go_enter func50,ntmps50
 go_wp2_with (go_at_call 86;refine HP.out.mono ?_;rintro e w2 ⟨⟨na,nc,ia,ic⟩,t,pl,er,rfl,ht,hb2,hbd,hrg,hcl⟩;have HBD:=Hd hbd;have HRG:=Hd hrg;have HCL:=Hd hcl;rw[HSZ.out]at hb2;unfold TreeV.val;have hb3:=hb2.alloc (by have:=hb2.size;rw[HSZ.out]at this;exact this) (.cells #[.slice na t.nodes.length nc,.slice ia t.items.length ic] 25);have hh:=(hb3.block w.heap.size (by omega)).trans (World.alloc_heap_new w (.cells #[.slice none 0 0,.slice none 0 0] 25));have r0:=zb (i:=0) (v:=.slice none 0 0) hh rfl;have r1:=zb (i:=1) (v:=.slice none 0 0) hh rfl;have f0:=zu (i:=0) hh;have f1:=zu (i:=1) hh;have ht3:=ht.mono ((Below.refl _ w2).alloc nlr (.cells #[.slice na t.nodes.length nc,.slice ia t.items.length ic] 25)) nlr;have HTA:=Hd (TreeAt.put (v:=⟨na,nc,ia,ic⟩) r0 r1 f0 f1 (dV hb3) ht3 (HB0.out.trans (hb3.mono (by omega))));clear hb2 hb3 hh ht ht3 hbd hrg hcl)
 obtain⟨k0,k1,-,-,-,ht,hb⟩:=HTA.out;unfold put2 at k0 k1;refine bodyPost_ret (v:=.tuple #[.agg #[.slice na t.nodes.length nc,.slice ia t.items.length ic],.bool (er==0)]) (by simp[results,results50,go_sem,loadVar,k0,k1,Result.andThen]) rfl ⟨⟨na,nc,ia,ic⟩,t,er==0,rfl,ht,hb,HBD.out,HRG.out,fun t' h=>⟨(HCL.out t' h).1,by rw[(HCL.out t' h).2];rfl⟩⟩
theorem lK(v:TreeV)(t:Tr)(w:World)(bd:Bd t)(wf:WF t)(h:IsTree w v t) :
 Calls prog 36 #[v.val t] w (RetInts w (bC t t.nodes.length)):=by
 have HT:=Hd h;have WFF:=Hd wf;have BD:=Hd bd;have hn3:=bd.n;clear h bd wf;obtain⟨na,nc,ia,ic⟩:=v;unfold TreeV.val;go_enter func36,ntmps36;go_wp2
 go_loopw [3,4] (fun t3 t4 wr=>∃(k:Nat) (a:Option Addr) (c:Nat) (l:List Int),t4=.int .i64 k∧k≤t.nodes.length∧t3=.slice a l.length c∧Hid (l=List.replicate k (-1)) ∧
  Hid (OwnI wr (w.heap.size+1) a c l)∧Hid (Below (w.heap.size+1) (boxT w ⟨na,nc,ia,ic⟩ t) wr)) (fun _ i _=>t.nodes.length-(intOf i).toNat)
 case atStart=>exact⟨0,_,_,[],rfl,Nat.zero_le _,rfl,Hd rfl,Hd (cU (boxT w ⟨na,nc,ia,ic⟩ t) _ _ (by simp) nlr),Hd (brf.alloc (by simp) _)⟩
 case round=>
  obtain⟨k,a,c,l,rfl,hk,rfl,HL,HO,HB⟩:=hrel;obtain⟨b0,b1,ht1,⟨hs,hs',hs''⟩,hbw⟩:=boxed HB.out HT.out;have HW:=Hd hbw;have HT1:=Hd ht1;have hll:l.length=k:=by rw[HL.out];simp
  clear ht1 hbw;by_cases hlt:k<t.nodes.length
  ·go_wp2_with (at_builtin;refine zH (news:=[(-1:Int)]) rfl (.tmp 16) (.tmp 17) rfl rfl (HO.out.alloc _) rfl (zL _ _ _) (by omega) (by simp;omega) ?_;intro a' c' w' l' HL' hle hown' hkeep)
   go_roundw
   case rel=>exact⟨k+1,a',c',l',by go_num,by omega,rfl,Hd (by rw[HL'.out,HL.out,List.replicate_succ']),Hd hown',Hd (hkeep _ _ nlr (HB.out.alloc hs _))⟩
   case measure=>simp[intOf];omega
  ·obtain rfl:k=t.nodes.length:=by omega
   have h0:l=bC t 0:=HL.out;have HO2:Hid (wr.ownsRow (w.heap.size+1) 3 1 (.slice a t.nodes.length c) t.nodes.length (zo (bC t 0))):=Hd (by have:=HO.out;unfold OwnI at this;rw[hll]at this;rw[h0]at this;exact this);rw[hll];clear HL HO h0 hll HT1;go_wp2;clear b0 b1 hs hs' hs''
   go_loopw [5] (fun t5 wr=>∃k:Nat,t5=.int .i64 k∧k≤t.nodes.length∧Hid (wr.ownsRow (w.heap.size+1) 3 1 (.slice a t.nodes.length c) t.nodes.length (zo (bC t k)))∧Hid (Below (w.heap.size+1) (boxT w ⟨na,nc,ia,ic⟩ t) wr)) (fun i _=>t.nodes.length-(intOf i).toNat)
   case atStart=>exact⟨0,rfl,Nat.zero_le _,HO2,HB⟩
   case round=>
    obtain⟨k,rfl,hk,HO,HB⟩:=hrel;obtain⟨b0,b1,ht1,⟨hs,hs',hs''⟩,hbw⟩:=boxed HB.out HT.out;have HW:=Hd hbw;clear ht1 hbw;by_cases hlt:k<t.nodes.length
    ·have hkid:=WFF.out.kid k hlt
     have hkl:=BD.out.k _ (List.getElem_mem hlt);have hnd:=t.nd_at hlt;obtain⟨b,o,ka,kc,ea,hb,n0,n1,n2,n3,n4,hkr⟩:=HT.out.nodes.at hlt;simp only at ea;subst ea;obtain⟨D,hD⟩:∃D,t.nodes[k]=D:=⟨_,rfl⟩
     rw[hD]at n0 n1 n2 n3 n4 hkr hkid hkl hnd;have HKID:=Hd hkid;have HND:=Hd hnd;have HKR:=Hd hkr;have N3:=Hd n3;clear hkid hnd hkr hD n0 n1 n2 n3 n4;go_wp2;rename World=>wk
     go_loopw [6] (fun t6 wz=>∃(j:Nat) (ups:List Int),t6=.int .i64 j∧j≤D.kids.length∧Hid (aC (bC t k) k D.kids=aC ups k (D.kids.drop j))∧Hid (wz.ownsRow (w.heap.size+1) 3 1 (.slice a t.nodes.length c) t.nodes.length (zo ups))∧Hid (Below (w.heap.size+1) (boxT w ⟨some ⟨b,o,none⟩,nc,ia,ic⟩ t) wz)) (fun i _=>D.kids.length-(intOf i).toNat)
     case atStart=>exact⟨0,bC t k,rfl,Nat.zero_le _,Hd rfl,HO,HB⟩
     case round=>
      obtain⟨j,ups,rfl,hj,HDK,HOZ,HBZ⟩:=hrel;obtain⟨b0,b1,ht1,⟨hs,hs',hs''⟩,hbw⟩:=boxed HBZ.out HT.out;have HW:=Hd hbw;have n3:=(hbw.cell (p:=⟨b,o+k*5+3,none⟩) hb).trans N3.out;clear ht1 hbw;by_cases hjl:j<D.kids.length
      ·obtain⟨bk,ok,rfl,hbk,hck⟩:=Ints.at HKR.out hjl
       have hx:=HKID.out _ (List.getElem_mem hjl);have HDA:=Hd (pS (o:=ups) (d:=(k:Int)) hjl);obtain⟨x,hxe⟩:∃x,D.kids[j]=x:=⟨_,rfl⟩
       rw[hxe]at hck hx HDA;obtain⟨hx0,hx1⟩:=hx;obtain⟨m,rfl⟩:=Int.eq_ofNat_of_zero_le hx0;have hm:m<t.nodes.length:=by omega
       have hck2:=(HW.out.cell (p:=⟨bk,ok+j,none⟩) hbk).trans hck;obtain⟨g,rfl,hgB,hgl,hul,hgc,hgf⟩:=bQ HOZ.out (by omega);have hgc2:=hgc m hm;have hgf2:=hgf m;have HOS:=Hd (eP HOZ.out m (k:Int));have HBS:=Hd (HBZ.out.setCell (p:=⟨g,m,none⟩) hgB (intV k));have hmk:(m:Int)<(k:Int):=hx1;have hmk2:m<k:=by omega
       clear hgc hgf hxe hck;go_wp2
       go_roundw
       case rel=>exact⟨j+1,ups.set m k,by go_num,by omega,Hd (by rw[HDK.out,HDA.out];rfl),HOS,HBS⟩
       case measure=>simp[intOf];omega
      ·have HE:=Hd (show aC (bC t k) k D.kids=ups by rw[HDK.out,List.drop_of_length_le (by omega)];rfl)
       go_wp2
       go_roundw
       case rel=>exact⟨k+1,by go_num,by omega,Hd (by rw[bC,HND.out,HE.out];exact HOZ.out),HBZ⟩
       case measure=>simp[intOf];omega
    ·obtain rfl:k=t.nodes.length:=by omega
     go_wp2;go_ret;refine⟨a,c,by rw[zS];rfl,?_,HW.out⟩;rw[zS];exact aJ HO.out (by omega)
def nK(w:World)(s:List UInt8)(e:Ending)(w':World):Prop:=
 ∃ (v:TreeV) (t:Tr) (a:Option Addr) (c:Nat) (l:List Int) (ok:Bool),e=.returned (.tuple #[v.val t,.slice a l.length c,.bool ok])∧IsTree w' v t∧Ints w' a c l∧Below w.heap.size w w'∧Bd t∧Rg t ∧
   (ok=true→(zc t).2.2=0∧l=ze t t.nodes.length)∧(∀t',s.length≤400→cL s=.ok t'→(zc t').2.2=0→t=t'∧ok=true)
theorem iT{w W W9:World}{s:List UInt8}{v:TreeV}{t:Tr}{A:Act}{a:Option Addr}{c:Nat}{l:List Int}{ok:Bool}(hb:Below (w.heap.size+1) (w.alloc (.cells #[.slice none 0 0,.slice none 0 0] 25)) W)(ht:IsTree W v t)(hi:Ints W a c l)
 (bd:Bd t)(rg:Rg t)(hok:ok=true→(zc t).2.2=0∧l=ze t t.nodes.length)(hcl:∀t',s.length≤400→cL s=.ok t'→(zc t').2.2=0→t=t'∧ok=true)
 (h2:A.tmps.getD 2 undef=.pointer (some ⟨w.heap.size,0,none⟩))(h3:A.tmps.getD 3 undef=.slice a l.length c)(h4:A.tmps.getD 4 undef=.bool ok)(hd:A.defers=[])
 (h9:Below (put2 W w.heap.size (.slice v.na t.nodes.length v.nc) (.slice v.ia t.items.length v.ic)).heap.size (put2 W w.heap.size (.slice v.na t.nodes.length v.nc) (.slice v.ia t.items.length v.ic)) W9) :
 bodyPost prog Tryz.f35 (nK w s) Exit.ret A W9:=by
 have hh:=(hb.block w.heap.size (by omega)).trans (World.alloc_heap_new w (.cells #[.slice none 0 0,.slice none 0 0] 25));have r0:=zb (i:=0) (v:=.slice none 0 0) hh rfl;have r1:=zb (i:=1) (v:=.slice none 0 0) hh rfl;have hs:=dV hb;have hw:Below w.heap.size w W:=((Below.refl _ w).alloc nlr _).trans (hb.mono (by omega));obtain⟨k0,k1,-,-,-,ht,hb⟩:=(TreeAt.put r0 r1 (zu (i:=0) hh) (zu (i:=1) hh) hs ht hw).step h9
 have hi1:Ints (put2 W w.heap.size (.slice v.na t.nodes.length v.nc) (.slice v.ia t.items.length v.ic)) a c l:=rF hi (by omega) hs (by
  intro v hv
  cases l with
  |nil=>cases hv
  |cons x l=>cases hv;exact⟨_,_,rfl⟩) (jG _ _ _ _)
 have hi2:Ints W9 a c l:=Row.mono hi1 h9 nlr;refine bodyPost_ret (v:=.tuple #[v.val t,.slice a l.length c,.bool ok]) ?_ hd ⟨v,t,a,c,l,ok,rfl,ht,hi2,hb,bd,rg,hok,hcl⟩;simp only[Array.getD_eq_getD_getElem?]at h2 h3 h4;unfold TreeV.val;simp[results,results35,go_sem,loadVar,h2,h3,h4,k0,k1,Result.andThen]
theorem gM(s:List UInt8)(w:World)(hs:s.length≤maxLen)(hg:GV w) :
 Calls prog 35 #[strV s] w (nK w s):=by
 have hmo:prog.follows .mixedOrders=true:=by kernel_rfl
 have hb0:Below w.heap.size w (w.alloc (.cells #[.slice none 0 0,.slice none 0 0] 25)):=(Below.refl _ w).alloc nlr _;have hsz:(w.alloc (.cells #[.slice none 0 0,.slice none 0 0] 25)).heap.size=w.heap.size+1:=by simp
 have hbr:Below (w.heap.size+1) (w.alloc (.cells #[.slice none 0 0,.slice none 0 0] 25)) (w.alloc (.cells #[.slice none 0 0,.slice none 0 0] 25)):=brf;have HBR:=Hd hbr;have HSZ:=Hd hsz;have HB0:=Hd hb0;have HG:=Hd hg;have HG0:=Hd (hg.mono hb0 nlr);have HB1:Hid (∀W,Below (w.heap.size+1) (w.alloc (.cells #[.slice none 0 0,.slice none 0 0] 25)) W→GV W):=Hd fun W h=>hg.mono (hb0.trans (h.mono (by omega))) nlr;clear hb0 hsz hg hbr;by_cases hl:s.length≤400
 ·have hl2:¬(400:Int)<(s.length:Int):=by omega
  have HL:=Hd hl;clear hl;go_enter func35,ntmps35
  go_wp2_with (first
   | (go_at_call 50
      refine(BL s _ (by omega) HG0.out).mono ?_;rintro e w1⟨⟨na,nc,ia,ic⟩,t,ok,rfl,ht,hb1,hbd,hrg,hcl⟩;rw[HSZ.out]at hb1;unfold TreeV.val;have hb2:=hb1.alloc (by have:=hb1.size;rw[HSZ.out]at this;exact this) (.cells #[.slice na t.nodes.length nc,.slice ia t.items.length ic] 25);have HB2:=Hd hb2;have HB1S:Hid (w.heap.size+1≤w1.heap.size):=Hd (by have:=hb1.size;rw[HSZ.out]at this;exact this);have HT2:=Hd (ht.mono ((Below.refl _ w1).alloc nlr (.cells #[.slice na t.nodes.length nc,.slice ia t.items.length ic] 25)) nlr);have HBD:=Hd hbd;have HRG:=Hd hrg;have HCL:=Hd hcl;have hh:=(hb2.block w.heap.size (by omega)).trans (World.alloc_heap_new w (.cells #[.slice none 0 0,.slice none 0 0] 25));have r0:=zb (i:=0) (v:=.slice none 0 0) hh rfl;have r1:=zb (i:=1) (v:=.slice none 0 0) hh rfl;have f0:=zu (i:=0) hh;have f1:=zu (i:=1) hh;clear ht hb1 hbd hrg hcl hb2 hh;rcases ok with _|_
      ·go_wp2
       exact iT (v:=⟨na,nc,ia,ic⟩) (t:=t) (a:=none) (c:=0) (l:=[]) (ok:=false) HB2.out HT2.out ⟨rfl,nlr,(fun _=>rfl),.inl rfl⟩ HBD.out HRG.out (fun h=>by cases h) (fun t' _ h _=>by have:=(HCL.out t' h).2;cases this) rfl rfl rfl rfl brf
      have A1:=Hd True.intro)
   | (have:=A2;clear this;go_at_call 16
      refine(eD ⟨ma,mc,ja,jc⟩ t _ HBD.out HRG.out (HB1.out _ HB3.out) HT3.out).mono ?_;rintro e w4⟨a,c,rfl,hown,hb4⟩;have hr:=HRR.out;rw[hr]at hown⊢;simp only at hown;have hs3:=HB3.out.size;have hb5:Below w3.heap.size w3 (w4.alloc (.cells #[.slice a dl.length c] 30)):=hb4.alloc hb4.size _;have c50:=(hb5.cell (p:=⟨w1.heap.size,0,none⟩) hs31).trans C50.out;have c51:=(hb5.cell (p:=⟨w1.heap.size,1,none⟩) hs31).trans C51.out;have hb6:=HB3.out.trans (hb5.mono (by rw[HSZ.out]at hs3;exact hs3));have HB6:=Hd hb6;have HT6:=Hd ((IsTree.mono HT2.out HB23.out nlr).mono hb5 nlr);have HI6:=Hd (Row.mono (zq hown) ((Below.refl _ w4).alloc nlr (.cells #[.slice a dl.length c] 30)) nlr);have hh:=(hb6.block w.heap.size (by omega)).trans (World.alloc_heap_new w (.cells #[.slice none 0 0,.slice none 0 0] 25));have hb44:=HB3.out.trans (hb4.mono (by rw[HSZ.out]at hs3;exact hs3));have hh4:=(hb44.block w.heap.size (by omega)).trans (World.alloc_heap_new w (.cells #[.slice none 0 0,.slice none 0 0] 25));have r0:=zb (i:=0) (v:=.slice none 0 0) hh rfl;have r1:=zb (i:=1) (v:=.slice none 0 0) hh rfl;have f0:=zu (i:=0) hh;have f1:=zu (i:=1) hh;have q0:=zb (i:=0) (v:=.slice none 0 0) hh4 rfl;have q1:=zb (i:=1) (v:=.slice none 0 0) hh4 rfl;have g0:=zu (i:=0) hh4;have g1:=zu (i:=1) hh4;have d50:=(hb4.cell (p:=⟨w1.heap.size,0,none⟩) hs31).trans C50.out;have d51:=(hb4.cell (p:=⟨w1.heap.size,1,none⟩) hs31).trans C51.out;have HB44:=Hd hb44;have HT44:=Hd ((IsTree.mono HT2.out HB23.out nlr).mono hb4 nlr);have HI44:=Hd (zq hown);clear hb44 hh4;have hs44:w3.heap.size≤w4.heap.size:=hb4.size;have hs01:w.heap.size<w1.heap.size:=by have:=HB1S.out;omega
      have hs04:w.heap.size<w4.heap.size:=by omega
      have hs14:w1.heap.size<w4.heap.size:=by omega
      have hs10:¬w1.heap.size=w.heap.size:=by omega
      have hs40:¬w4.heap.size=w.heap.size:=by omega
      clear hown hb4 hb5 hb6 hh hr A2
      have A3:=Hd True.intro)
   | (have:=A1;clear this;go_at_call 40
      refine(eW ⟨na,nc,ia,ic⟩ t _ HBD.out HT2.out).mono ?_;rintro e w3⟨⟨ma,mc,ja,jc⟩,B,ks,rfl,-,hon,hin,-,hb3⟩;unfold TreeV.val;have HT3:=Hd (show IsTree w3 ⟨ma,mc,ja,jc⟩ t from⟨hon.nodes,hin⟩);have HB23:=Hd hb3;have hs2:=HB2.out.size;have HB3:=Hd (HB2.out.trans (hb3.mono (by rw[HSZ.out]at hs2;exact hs2)));have hs31:w1.heap.size<w3.heap.size:=Nat.lt_of_lt_of_le (by simp) hb3.size;have C50:=Hd ((hb3.cell (p:=⟨w1.heap.size,0,none⟩) (by simp)).trans (zb (i:=0) (v:=.slice na t.nodes.length nc) (World.alloc_heap_new w1 (.cells #[.slice na t.nodes.length nc,.slice ia t.items.length ic] 25)) rfl));have C51:=Hd ((hb3.cell (p:=⟨w1.heap.size,1,none⟩) (by simp)).trans (zb (i:=1) (v:=.slice ia t.items.length ic) (World.alloc_heap_new w1 (.cells #[.slice na t.nodes.length nc,.slice ia t.items.length ic] 25)) rfl));obtain⟨⟨dl,pn,er⟩,hr⟩:∃r,zc t=r:=⟨_,rfl⟩
      have HRR:=Hd hr;clear hon hin hb3 hr A1 r0 r1 f0 f1
      have A2:=Hd True.intro))
  by_cases he:er=0
  ·have hdl:dl.length=t.nodes.length:=by
    have h1:(zc t).2.2=0:=by rw[HRR.out];exact he
    have h2:=cX (aD h1).check (aD h1).err;rw[HRR.out]at h2;rw[(Prod.mk.inj h2).1,zD]
   have hdl1:((dl.length:Int)==(t.nodes.length:Int))=true:=by simp[hdl]
   have HDL:=Hd hdl;have HE:=Hd he;subst he;clear hdl;go_region;go_wp2;refine iT (v:=⟨na,nc,ia,ic⟩) (t:=t) (a:=a) (c:=c) (l:=dl) (ok:=true) HB44.out HT44.out HI44.out HBD.out HRG.out (fun _=>?_) (fun t' _ h _=>⟨(HCL.out t' h).1,rfl⟩) rfl rfl rfl rfl ((brf.alloc nlr _).drew);have h1:(zc t).2.2=0:=by rw[HRR.out]
   have h2:=cX (aD h1).check (aD h1).err;rw[HRR.out]at h2;exact⟨h1,(Prod.mk.inj h2).1⟩
  ·have he1:(er==0)=false:=by simpa using he
   have HE:=Hd he;go_region;go_wp2;refine iT (v:=⟨na,nc,ia,ic⟩) (t:=t) (a:=a) (c:=c) (l:=dl) (ok:=false) HB44.out HT44.out HI44.out HBD.out HRG.out (fun h=>by cases h) (fun t' _ h h0=>?_) rfl rfl rfl rfl ((brf.alloc nlr _).drew);rw[← (HCL.out t' h).1,HRR.out]at h0;exact absurd h0 HE.out
 ·have hl2:(400:Int)<(s.length:Int):=by omega
  have HL:=Hd hl;clear hl;go_enter func35,ntmps35;go_wp2;refine bodyPost_ret (v:=.tuple #[.agg #[.slice none 0 0,.slice none 0 0],.slice none 0 0,.bool false]) (by simp[results,results35,go_sem,loadVar,Result.andThen]) rfl ⟨⟨none,0,none,0⟩,⟨[],[]⟩,none,0,[],false,rfl,⟨⟨[],rfl,⟨rfl,nlr,(fun _=>rfl),.inl rfl⟩,(fun i hi=>by cases hi)⟩,⟨rfl,nlr,(fun _=>rfl),.inl rfl⟩⟩,⟨rfl,nlr,(fun _=>rfl),.inl rfl⟩,HB0.out,⟨by simp,by simp,(fun d hd=>by cases hd),(fun d hd=>by cases hd)⟩,(fun i hi=>by cases hi),(fun h=>by cases h),(fun t' h _ _=>absurd h HL.out)⟩
structure ResW (w0 W:World) (g:Nat) (v:TreeV) (t:Tr) (a:Option Addr) (c:Nat) (ua:Option Addr) (uc:Nat):Prop where
 c0:W.cell? ⟨g,0,none⟩=some (.slice v.na t.nodes.length v.nc)
 c1:W.cell? ⟨g,1,none⟩=some (.slice v.ia t.items.length v.ic)
 tree:IsTree W v t
 decl:Row 1 W a t.nodes.length c (zo (ze t t.nodes.length))
 ups:Row 1 W ua t.nodes.length uc (zo (bC t t.nodes.length))
 gl:g<W.heap.size
 below:Below w0.heap.size w0 W
 gv:GV W
theorem ResW.step{w0 W W':World}{g:Nat}{v:TreeV}{t:Tr}{a ua:Option Addr}{c uc:Nat}(h:ResW w0 W g v t a c ua uc)(hb:Below W.heap.size W W'):ResW w0 W' g v t a c ua uc:=
 ⟨(hb.cell (p:=⟨g,0,none⟩) h.gl).trans h.c0,(hb.cell (p:=⟨g,1,none⟩) h.gl).trans h.c1,h.tree.mono hb nlr,Row.mono h.decl hb nlr,Row.mono h.ups hb nlr,Nat.lt_of_lt_of_le h.gl hb.size,h.below.trans (hb.mono h.below.size),h.gv.mono hb nlr⟩
theorem ResW.declAt{w0 W:World}{g:Nat}{v:TreeV}{t:Tr}{a ua:Option Addr}{c uc:Nat}(h:ResW w0 W g v t a c ua uc){i:Nat}(hi:i<t.nodes.length):∃b o,a=some ⟨b,o,none⟩∧b<W.heap.size∧W.cell? ⟨b,o+i,none⟩=some (intV (means t i)):=by
 obtain⟨b,o,rfl,hb,hc⟩:=h.decl.some (by omega);have hl:i<(zo (ze t t.nodes.length)).length:=by simp[zD];exact hi
 refine⟨b,o,rfl,hb,?_⟩;rw[hc i hl];simp[bD]
theorem ResW.upAt{w0 W:World}{g:Nat}{v:TreeV}{t:Tr}{S:List Int}{a ua:Option Addr}{c uc:Nat}(h:ResW w0 W g v t a c ua uc)(G:Good t S){i:Nat}(hi:i<t.nodes.length):∃b o,ua=some ⟨b,o,none⟩∧b<W.heap.size∧W.cell? ⟨b,o+i,none⟩=some (intV (parent t i)):=by
 obtain⟨b,o,rfl,hb,hc⟩:=h.ups.some (by omega);have hul:(bC t t.nodes.length).length=t.nodes.length:=zS t _;have hl:i<(zo (bC t t.nodes.length)).length:=by simp[hul];exact hi
 have hu:=eK G i hi;rw[List.getD_eq_getElem?_getD,List.getElem?_eq_getElem (by omega),Option.getD_some]at hu;refine⟨b,o,rfl,hb,?_⟩;rw[hc i hl];simp[hu]
theorem xE{t:Tr}{S:List Int}(G:Good t S):Ups t (bC t t.nodes.length):=
 ⟨zS t _,fun i hi=>by
  have h:=eK G i hi;have hl:i<(bC t t.nodes.length).length:=by rw[zS];exact hi
  rw[List.getD_eq_getElem?_getD,List.getElem?_eq_getElem hl]at h;rw[List.getElem?_eq_getElem hl]
  exact congrArg some h⟩
theorem ResW.within{w0 W:World}{g:Nat}{v:TreeV}{t:Tr}{S:List Int}{a ua:Option Addr}{c uc:Nat}(h:ResW w0 W g v t a c ua uc)(bd:Bd t)(G:Good t S){node of:Int}(hn : -1≤node)(hn2:node<t.nodes.length) :
 Calls prog 39 #[.slice ua t.nodes.length uc,intV node,intV of] W fun e w'=>e=.returned (.bool (inside t node of))∧W=w':=by
 have hul:(bC t t.nodes.length).length=t.nodes.length:=zS t _;have:=uZ ua uc t (bC t t.nodes.length) node of W bd (xE G) hn hn2 (by unfold Ints;rw[hul];exact h.ups);rwa[hul]at this
def Ext(a b:World):Prop:=Below a.heap.size a b
theorem Ext.refl(a:World):Ext a a:=Below.refl _ a
theorem Ext.trans{a b c:World}(h:Ext a b)(k:Ext b c):Ext a c:=Below.trans h (Below.mono k (Below.size h))
theorem Ext.alloc{a b:World}(h:Ext a b)(o:Obj):Ext a (b.alloc o):=Below.alloc h (Below.size h) o
theorem Ext.drew{a b:World}(h:Ext a b):Ext a b.drew:=Below.drew h
theorem Ext.cell{a b:World}(h:Ext a b){p:Addr}{v:Value}(hc:a.cell? p=some v):b.cell? p=some v:=(Below.cell h (World.block_lt_of_cell? a p hc)).trans hc
theorem Ext.lt{a b:World}(h:Ext a b){k:Nat}(hk:k<a.heap.size):k<b.heap.size:=Nat.lt_of_lt_of_le hk (Below.size h)
theorem Ext.tree{a b:World}(h:Ext a b){v:TreeV}{t:Tr}(ht:IsTree a v t):IsTree b v t:=ht.mono h nlr
theorem Ext.ints{a b:World}(h:Ext a b){x:Option Addr}{c:Nat}{l:List Int}(ht:Ints a x c l):Ints b x c l:=Row.mono ht h nlr
theorem Ext.gv{a b:World}(h:Ext a b)(hg:GV a):GV b:=hg.mono h nlr
theorem zX{W:World}{cs:Array Value}{T:TypeId}{i:Nat}{v:Value}(h:cs[i]?=some v):(W.alloc (.cells cs T)).cell? ⟨W.heap.size,i,none⟩=some v:=zb (World.alloc_heap_new W _) h
theorem gC(W:World)(l:List Int){n:Nat}(hn:n=l.length):Row 1 (W.alloc (.cells (zo l).toArray 3)) (some ⟨W.heap.size,0,none⟩) l.length n (zo l):=Row.made W (zo l) _ (by simp[zo]) (by omega)
def Al:List World→World→Prop
 | [],_=>True
 |a::l,X=>Ext a X∧Al l X
theorem Al.step:∀{l:List World}{X Y:World},Al l X→Ext X Y→Al l Y
 | [],_,_,_,_=>trivial
 |_::_,_,_,h,k=>⟨h.1.trans k,Al.step h.2 k⟩
theorem Al.al{l:List World}{X:World}(h:Al l X)(o:Obj):Al l (X.alloc o):=h.step ((Ext.refl X).alloc o)
theorem Al.new{l:List World}{X:World}(h:Al l X):Al (X::l) X:=⟨Ext.refl X,h⟩
def Al.Le:List World→Nat→Prop
 | [],_=>True
 |a::l,g=>a.heap.size≤g∧Al.Le l g
theorem Al.le:∀{l:List World}{X:World}{g:Nat},Al l X→X.heap.size≤g→Al.Le l g
 | [],_,_,_,_=>trivial
 |_::_,_,_,h,k=>⟨Nat.le_trans (Below.size h.1) k,Al.le h.2 k⟩
theorem EF(w:World)(hg:GV w)(T1 T2 T3:Tr)(p1:cL [99,104,111,111,115,101,32,100,58,32,49,46,46,54,59,32,108,101,116,32,115,32,61,32,108,101,116,32,120,32,61,32,100,32,105,110,32,120,32,43,32,100,59]=.ok T1)(p2:cL [102,117,110,32,102,40,110,58,32,105,110,116,41,58,32,105,110,116,32,61,32,102,40,110,41,59]=.ok T2)(p3:cL [108,101,116,32,97,32,61,32,49,59,32,108,101,116,32,98,32,61,32,50,59,32,108,101,116,32,99,32,61,32,97,32,43,32,97,59]=.ok T3)
 (r1:zc T1=([-1,-1,-1,2,7,2,-1,-1,-1],0,0))(u1:pE T1 2=([3,5],0))(v1:visU T1 4=([2,7],0))(f1:fK T1 6=([2,7],0))(n1:renU T1 7 [100]=.error 9)(n2:renU T1 7 [108,101,116]=.error 4)(x1:eS T1=([8],0))
 (r2:zc T2=([],4,9))(r3:eI T3 2=0)
 (n3:∀M:List Int,M.Nodup→(∀x,x∈M↔x≠2∧NS T3 (ze T3 T3.nodes.length) 2 (Int.toNat 2+1) x)→bA M=[0]) :
 Calls prog 14 #[] w (zm w true):=by
 obtain⟨bd1,rg1⟩:=lA p1;obtain⟨bd2,rg2⟩:=lA p2;obtain⟨bd3,rg3⟩:=lA p3;have Hbd1:=Hd bd1;have Hrg1:=Hd rg1;have Hbd2:=Hd bd2;have Hrg2:=Hd rg2;have Hbd3:=Hd bd3;have Hrg3:=Hd rg3;have Hp1:=Hd p1;have Hp2:=Hd p2;have Hp3:=Hd p3;have Hr1:=Hd r1;have Hu1:=Hd u1;have Hv1:=Hd v1;have Hf1:=Hd f1;have Hn1:=Hd n1;have Hn2:=Hd n2;have Hx1:=Hd x1;have Hr2:=Hd r2;have Hr3:=Hd r3;have Hn3:=Hd n3;have Hhg:=Hd hg;clear bd1 rg1 bd2 rg2 bd3 rg3 p1 p2 p3 r1 u1 v1 f1 n1 n2 x1 r2 r3 n3 hg;have A0:Hid (Al [w] w):=Hd ⟨Ext.refl w,trivial⟩;go_enter func14,ntmps14
 go_wp2_with (first
  | (have:=A17;clear this;go_at_call 19;refine(bM a12 (some ⟨w17.heap.size,0,none⟩) c12 1 [0] [0] (w17.alloc (.cells #[.int .i64 0] 3)) (by decide) (by decide) ((A17.out.1.alloc _).ints L12.out) (gC w17 [0] rfl)).mono ?_;rw[show(([0]:List Int)==[0])=true from by decide];rintro e w18 ⟨rfl,hb⟩;have hx:Ext (w17.alloc (.cells #[.int .i64 0] 3)) w18:=hb;have hx:=((Ext.refl w17).alloc _).trans hx;have A18:=Hd (A17.out.step hx);clear c1_0;clear c1_1;clear k2_0;obtain⟨c1_0,c1_1⟩:=C1.out;have c1_0:=A18.out.2.2.2.2.2.2.1.cell c1_0;have c1_1:=A18.out.2.2.2.2.2.2.1.cell c1_1;have k2_0:=K2.out;have k2_0:=A18.out.2.2.2.2.2.1.cell k2_0;clear hx hb A17)
  | (have:=A16;clear this;go_at_call 19;refine(bM a8 (some ⟨w16.heap.size,0,none⟩) c8 1 [8] [8] (w16.alloc (.cells #[.int .i64 8] 3)) (by decide) (by decide) ((A16.out.2.1.alloc _).ints L8.out) (gC w16 [8] rfl)).mono ?_;rw[show(([8]:List Int)==[8])=true from by decide];rintro e w17 ⟨rfl,hb⟩;have hx:Ext (w16.alloc (.cells #[.int .i64 8] 3)) w17:=hb;have hx:=((Ext.refl w16).alloc _).trans hx;have A17:=Hd (A16.out.step hx);clear c1_0;clear c1_1;clear k2_0;obtain⟨c1_0,c1_1⟩:=C1.out;have c1_0:=A17.out.2.2.2.2.2.2.1.cell c1_0;have c1_1:=A17.out.2.2.2.2.2.2.1.cell c1_1;have k2_0:=K2.out;have k2_0:=A17.out.2.2.2.2.2.1.cell k2_0;clear hx hb A16)
  | (have:=A15;clear this;go_at_call 19;refine(bM a5 (some ⟨w15.heap.size,0,none⟩) c5 2 [2,7] [2,7] (w15.alloc (.cells #[.int .i64 2,.int .i64 7] 3)) (by decide) (by decide) ((A15.out.2.2.1.alloc _).ints L5.out) (gC w15 [2,7] rfl)).mono ?_;rw[show(([2,7]:List Int)==[2,7])=true from by decide];rintro e w16 ⟨rfl,hb⟩;have hx:Ext (w15.alloc (.cells #[.int .i64 2,.int .i64 7] 3)) w16:=hb;have hx:=((Ext.refl w15).alloc _).trans hx;have A16:=Hd (A15.out.step hx);clear c1_0;clear c1_1;clear k2_0;obtain⟨c1_0,c1_1⟩:=C1.out;have c1_0:=A16.out.2.2.2.2.2.2.1.cell c1_0;have c1_1:=A16.out.2.2.2.2.2.2.1.cell c1_1;have k2_0:=K2.out;have k2_0:=A16.out.2.2.2.2.2.1.cell k2_0;clear hx hb A15)
  | (have:=A14;clear this;go_at_call 19;refine(bM a4 (some ⟨w14.heap.size,0,none⟩) c4 2 [2,7] [2,7] (w14.alloc (.cells #[.int .i64 2,.int .i64 7] 3)) (by decide) (by decide) ((A14.out.2.2.2.1.alloc _).ints L4.out) (gC w14 [2,7] rfl)).mono ?_;rw[show(([2,7]:List Int)==[2,7])=true from by decide];rintro e w15 ⟨rfl,hb⟩;have hx:Ext (w14.alloc (.cells #[.int .i64 2,.int .i64 7] 3)) w15:=hb;have hx:=((Ext.refl w14).alloc _).trans hx;have A15:=Hd (A14.out.step hx);clear c1_0;clear c1_1;clear k2_0;obtain⟨c1_0,c1_1⟩:=C1.out;have c1_0:=A15.out.2.2.2.2.2.2.1.cell c1_0;have c1_1:=A15.out.2.2.2.2.2.2.1.cell c1_1;have k2_0:=K2.out;have k2_0:=A15.out.2.2.2.2.2.1.cell k2_0;clear hx hb A14)
  | (have:=A13;clear this;go_at_call 19;refine(bM a3 (some ⟨w13.heap.size,0,none⟩) c3 2 [3,5] [3,5] (w13.alloc (.cells #[.int .i64 3,.int .i64 5] 3)) (by decide) (by decide) ((A13.out.2.2.2.2.1.alloc _).ints L3.out) (gC w13 [3,5] rfl)).mono ?_;rw[show(([3,5]:List Int)==[3,5])=true from by decide];rintro e w14 ⟨rfl,hb⟩;have hx:Ext (w13.alloc (.cells #[.int .i64 3,.int .i64 5] 3)) w14:=hb;have hx:=((Ext.refl w13).alloc _).trans hx;have A14:=Hd (A13.out.step hx);clear c1_0;clear c1_1;clear k2_0;obtain⟨c1_0,c1_1⟩:=C1.out;have c1_0:=A14.out.2.2.2.2.2.2.1.cell c1_0;have c1_1:=A14.out.2.2.2.2.2.2.1.cell c1_1;have k2_0:=K2.out;have k2_0:=A14.out.2.2.2.2.2.1.cell k2_0;clear hx hb A13)
  | (have:=A12;clear this;go_at_call 19;refine(bM a2 (some ⟨w12.heap.size,0,none⟩) c2 9 [-1,-1,-1,2,7,2,-1,-1,-1] [-1,-1,-1,2,7,2,-1,-1,-1] (w12.alloc (.cells #[.int .i64 (-1),.int .i64 (-1),.int .i64 (-1),.int .i64 2,.int .i64 7,.int .i64 2,.int .i64 (-1),.int .i64 (-1),.int .i64 (-1)] 3)) (by decide) (by decide) (((A12.out.2.2.2.2.2.1.alloc _)).ints L2.out) (gC w12 [-1,-1,-1,2,7,2,-1,-1,-1] rfl)).mono ?_;rw[show(([-1,-1,-1,2,7,2,-1,-1,-1]:List Int)==[-1,-1,-1,2,7,2,-1,-1,-1])=true from by decide];rintro e w13 ⟨rfl,hb⟩;have hx:Ext (w12.alloc (.cells #[.int .i64 (-1),.int .i64 (-1),.int .i64 (-1),.int .i64 2,.int .i64 7,.int .i64 2,.int .i64 (-1),.int .i64 (-1),.int .i64 (-1)] 3)) w13:=hb;have hx:=((Ext.refl w12).alloc _).trans hx;have A13:=Hd (A12.out.step hx);clear c1_0;clear c1_1;clear k2_0;obtain⟨c1_0,c1_1⟩:=C1.out;have c1_0:=A13.out.2.2.2.2.2.2.1.cell c1_0;have c1_1:=A13.out.2.2.2.2.2.2.1.cell c1_1;have k2_0:=K2.out;have k2_0:=A13.out.2.2.2.2.2.1.cell k2_0;clear hx hb A12)
  | (have:=A11;clear this;go_at_call 32;refine(fB ⟨na11,nc11,ia11,ic11⟩ T3 2 (w11.alloc (.cells #[.slice na11 T3.nodes.length nc11,.slice ia11 T3.items.length ic11] 25)) Hbd3.out Hrg3.out (A11.out.2.2.2.2.2.2.1.gv Hhg.out) HT3.out (by decide)).mono ?_;rintro e w12 (⟨-,M,hM1,hM2,h9⟩|⟨h9,-⟩);rotate_left;(exact absurd Hr3.out h9);rw[Hn3.out M hM1 hM2]at h9;obtain⟨a12,c12,rfl,ho,hb⟩:=h9;have hx:Ext (w11.alloc (.cells #[.slice na11 T3.nodes.length nc11,.slice ia11 T3.items.length ic11] 25)) w12:=hb;have A12:=Hd (A11.out.step hx);clear c1_0;clear c1_1;clear k2_0;obtain⟨c1_0,c1_1⟩:=C1.out;have c1_0:=A12.out.2.2.2.2.2.1.cell c1_0;have c1_1:=A12.out.2.2.2.2.2.1.cell c1_1;have k2_0:=K2.out;have k2_0:=A12.out.2.2.2.2.1.cell k2_0;have L12:Hid (Ints w12 a12 c12 [0]):=Hd (zq ho);clear ho hM1 hM2;have A12:=Hd A12.out.new;clear hx hb A11)
  | (have:=A10;clear this;go_at_call 50;refine(mW [108,101,116,32,97,32,61,32,49,59,32,108,101,116,32,98,32,61,32,50,59,32,108,101,116,32,99,32,61,32,97,32,43,32,97,59] T3 (w10.alloc (.cells #[.slice a10 0 c10] 30)) (by decide) (A10.out.2.2.2.2.2.2.1.gv Hhg.out) Hp3.out).mono ?_;rintro e w11 ⟨⟨na11,nc11,ia11,ic11⟩,rfl,ht,hb⟩;have hx:Ext (w10.alloc (.cells #[.slice a10 0 c10] 30)) w11:=hb;have A11:=Hd ((A10.out.step hx).al (.cells #[.slice na11 T3.nodes.length nc11,.slice ia11 T3.items.length ic11] 25));clear c1_0;clear c1_1;clear k2_0;obtain⟨c1_0,c1_1⟩:=C1.out;have c1_0:=A11.out.2.2.2.2.2.1.cell c1_0;have c1_1:=A11.out.2.2.2.2.2.1.cell c1_1;have k2_0:=K2.out;have k2_0:=A11.out.2.2.2.2.1.cell k2_0;unfold TreeV.val;have HT3:Hid (IsTree (w11.alloc (.cells #[.slice na11 T3.nodes.length nc11,.slice ia11 T3.items.length ic11] 25)) ⟨na11,nc11,ia11,ic11⟩ T3):=Hd (((Ext.refl w11).alloc _).tree ht);clear ht;clear hx hb A10)
  | (have:=A9;clear this;go_at_call 16;refine(eD ⟨na9,nc9,ia9,ic9⟩ T2 (w9.alloc (.cells #[.slice na9 T2.nodes.length nc9,.slice ia9 T2.items.length ic9] 25)) Hbd2.out Hrg2.out (A9.out.2.2.2.2.2.2.1.gv Hhg.out) HT2.out).mono ?_;rw[Hr2.out];rintro e w10 ⟨a10,c10,rfl,ho,hb⟩;have hx:Ext (w9.alloc (.cells #[.slice na9 T2.nodes.length nc9,.slice ia9 T2.items.length ic9] 25)) w10:=hb;have A10:=Hd ((A9.out.step hx).al (.cells #[.slice a10 0 c10] 30));clear c1_0;clear c1_1;clear k2_0;obtain⟨c1_0,c1_1⟩:=C1.out;have c1_0:=A10.out.2.2.2.2.2.1.cell c1_0;have c1_1:=A10.out.2.2.2.2.2.1.cell c1_1;have k2_0:=K2.out;have k2_0:=A10.out.2.2.2.2.1.cell k2_0;clear ho;clear hx hb A9)
  | (have:=A8;clear this;go_at_call 50;refine(mW [102,117,110,32,102,40,110,58,32,105,110,116,41,58,32,105,110,116,32,61,32,102,40,110,41,59] T2 w8 (by decide) (A8.out.2.2.2.2.2.2.1.gv Hhg.out) Hp2.out).mono ?_;rintro e w9 ⟨⟨na9,nc9,ia9,ic9⟩,rfl,ht,hb⟩;have hx:Ext w8 w9:=hb;have A9:=Hd ((A8.out.step hx).al (.cells #[.slice na9 T2.nodes.length nc9,.slice ia9 T2.items.length ic9] 25));clear c1_0;clear c1_1;clear k2_0;obtain⟨c1_0,c1_1⟩:=C1.out;have c1_0:=A9.out.2.2.2.2.2.1.cell c1_0;have c1_1:=A9.out.2.2.2.2.2.1.cell c1_1;have k2_0:=K2.out;have k2_0:=A9.out.2.2.2.2.1.cell k2_0;unfold TreeV.val;have HT2:Hid (IsTree (w9.alloc (.cells #[.slice na9 T2.nodes.length nc9,.slice ia9 T2.items.length ic9] 25)) ⟨na9,nc9,ia9,ic9⟩ T2):=Hd (((Ext.refl w9).alloc _).tree ht);clear ht;clear hx hb A8)
  | (have:=A7;clear this;go_at_call 31;refine(mB ⟨na1,nc1,ia1,ic1⟩ T1  (w7.alloc (.cells #[.slice none 0 0,.slice none 0 0] 25)) Hbd1.out Hrg1.out (A7.out.2.2.2.2.2.1.gv Hhg.out) (A7.out.2.2.2.2.1.tree HT1.out)).mono ?_;rw[Hx1.out];rintro e w8 ⟨a8,c8,rfl,ho,hb⟩;have hx:Ext (w7.alloc (.cells #[.slice none 0 0,.slice none 0 0] 25)) w8:=hb;have A8:=Hd (A7.out.step hx);clear c1_0;clear c1_1;clear k2_0;obtain⟨c1_0,c1_1⟩:=C1.out;have c1_0:=A8.out.2.2.2.2.1.cell c1_0;have c1_1:=A8.out.2.2.2.2.1.cell c1_1;have k2_0:=K2.out;have k2_0:=A8.out.2.2.2.1.cell k2_0;have L8:Hid (Ints w8 a8 c8 [8]):=Hd (zq ho);clear ho;have A8:=Hd A8.out.new;clear hx hb A7)
  | (have:=A6;clear this;go_at_call 29;refine(eC ⟨na1,nc1,ia1,ic1⟩ T1 7 [108,101,116] (w6.alloc (.cells #[.slice none 0 0,.slice none 0 0] 25)) Hbd1.out Hrg1.out (A6.out.2.2.2.2.2.1.gv Hhg.out) (by decide) (A6.out.2.2.2.2.1.tree HT1.out)).mono ?_;rw[Hn2.out];rintro e w7 ⟨rfl,hb⟩;have hx:Ext (w6.alloc (.cells #[.slice none 0 0,.slice none 0 0] 25)) w7:=hb;have A7:=Hd ((A6.out.step hx).al (.cells #[.slice none 0 0,.slice none 0 0] 25));clear c1_0;clear c1_1;clear k2_0;obtain⟨c1_0,c1_1⟩:=C1.out;have c1_0:=A7.out.2.2.2.2.1.cell c1_0;have c1_1:=A7.out.2.2.2.2.1.cell c1_1;have k2_0:=K2.out;have k2_0:=A7.out.2.2.2.1.cell k2_0;clear hx hb A6)
  | (have:=A5;clear this;go_at_call 29;refine(eC ⟨na1,nc1,ia1,ic1⟩ T1 7 [100] w5 Hbd1.out Hrg1.out (A5.out.2.2.2.2.2.1.gv Hhg.out) (by decide) (A5.out.2.2.2.2.1.tree HT1.out)).mono ?_;rw[Hn1.out];rintro e w6 ⟨rfl,hb⟩;have hx:Ext w5 w6:=hb;have A6:=Hd ((A5.out.step hx).al (.cells #[.slice none 0 0,.slice none 0 0] 25));clear c1_0;clear c1_1;clear k2_0;obtain⟨c1_0,c1_1⟩:=C1.out;have c1_0:=A6.out.2.2.2.2.1.cell c1_0;have c1_1:=A6.out.2.2.2.2.1.cell c1_1;have k2_0:=K2.out;have k2_0:=A6.out.2.2.2.1.cell k2_0;clear hx hb A5)
  | (have:=A4;clear this;go_at_call 22;refine(pH ⟨na1,nc1,ia1,ic1⟩ T1 6 w4 Hbd1.out Hrg1.out (A4.out.2.2.2.2.1.gv Hhg.out) (A4.out.2.2.2.1.tree HT1.out)).mono ?_;rw[Hf1.out];rintro e w5 ⟨a5,c5,rfl,ho,hb⟩;have hx:Ext w4 w5:=hb;have A5:=Hd (A4.out.step hx);clear c1_0;clear c1_1;clear k2_0;obtain⟨c1_0,c1_1⟩:=C1.out;have c1_0:=A5.out.2.2.2.1.cell c1_0;have c1_1:=A5.out.2.2.2.1.cell c1_1;have k2_0:=K2.out;have k2_0:=A5.out.2.2.1.cell k2_0;have L5:Hid (Ints w5 a5 c5 [2,7]):=Hd (zq ho);clear ho;have A5:=Hd A5.out.new;clear hx hb A4)
  | (have:=A3;clear this;go_at_call 21;refine(kF ⟨na1,nc1,ia1,ic1⟩ T1 4 w3 Hbd1.out Hrg1.out (A3.out.2.2.2.1.gv Hhg.out) (A3.out.2.2.1.tree HT1.out)).mono ?_;rw[Hv1.out];rintro e w4 ⟨a4,c4,rfl,ho,hb⟩;have hx:Ext w3 w4:=hb;have A4:=Hd (A3.out.step hx);clear c1_0;clear c1_1;clear k2_0;obtain⟨c1_0,c1_1⟩:=C1.out;have c1_0:=A4.out.2.2.1.cell c1_0;have c1_1:=A4.out.2.2.1.cell c1_1;have k2_0:=K2.out;have k2_0:=A4.out.2.1.cell k2_0;have L4:Hid (Ints w4 a4 c4 [2,7]):=Hd (zq ho);clear ho;have A4:=Hd A4.out.new;clear hx hb A3)
  | (have:=A2;clear this;go_at_call 20;refine(xM ⟨na1,nc1,ia1,ic1⟩ T1 2 (w2.alloc (.cells #[.slice a2 9 c2] 30)) Hbd1.out Hrg1.out (A2.out.2.2.1.gv Hhg.out) (A2.out.2.1.tree HT1.out)).mono ?_;rw[Hu1.out];rintro e w3 ⟨a3,c3,rfl,ho,hb⟩;have hx:Ext (w2.alloc (.cells #[.slice a2 9 c2] 30)) w3:=hb;have A3:=Hd (A2.out.step hx);clear c1_0;clear c1_1;obtain⟨c1_0,c1_1⟩:=C1.out;have c1_0:=A3.out.2.1.cell c1_0;have c1_1:=A3.out.2.1.cell c1_1;have k2_0:=K2.out;have k2_0:=A3.out.1.cell k2_0;have L3:Hid (Ints w3 a3 c3 [3,5]):=Hd (zq ho);clear ho;have A3:=Hd A3.out.new;clear hx hb A2)
  | (have:=A1;clear this;go_at_call 16;refine(eD ⟨na1,nc1,ia1,ic1⟩ T1 (w1.alloc (.cells #[.slice na1 T1.nodes.length nc1,.slice ia1 T1.items.length ic1] 25)) Hbd1.out Hrg1.out (A1.out.2.1.gv Hhg.out) HT1.out).mono ?_;rw[Hr1.out];rintro e w2 ⟨a2,c2,rfl,ho,hb⟩;have hx:Ext (w1.alloc (.cells #[.slice na1 T1.nodes.length nc1,.slice ia1 T1.items.length ic1] 25)) w2:=hb;have A2:=Hd ((A1.out.step hx).al (.cells #[.slice a2 9 c2] 30)).new;obtain⟨c1_0,c1_1⟩:=C1.out;have c1_0:=A2.out.2.1.cell c1_0;have c1_1:=A2.out.2.1.cell c1_1;have K2:Hid ((w2.alloc (.cells #[.slice a2 9 c2] 30)).cell? ⟨w2.heap.size,0,none⟩=_):=Hd (zX rfl);have L2:Hid (Ints (w2.alloc (.cells #[.slice a2 9 c2] 30)) a2 c2 [-1,-1,-1,2,7,2,-1,-1,-1]):=Hd (((Ext.refl w2).alloc _).ints (zq ho));clear ho;clear hx hb A1)
  | (have:=A0;clear this;go_at_call 50;refine(mW [99,104,111,111,115,101,32,100,58,32,49,46,46,54,59,32,108,101,116,32,115,32,61,32,108,101,116,32,120,32,61,32,100,32,105,110,32,120,32,43,32,100,59] T1 w (by decide) (A0.out.1.gv Hhg.out) Hp1.out).mono ?_;rintro e w1 ⟨⟨na1,nc1,ia1,ic1⟩,rfl,ht,hb⟩;have hx:Ext w w1:=hb;have A1:=Hd ((A0.out.step hx).al (.cells #[.slice na1 T1.nodes.length nc1,.slice ia1 T1.items.length ic1] 25)).new;have C1:Hid ((w1.alloc (.cells #[.slice na1 T1.nodes.length nc1,.slice ia1 T1.items.length ic1] 25)).cell? ⟨w1.heap.size,0,none⟩=_∧(w1.alloc (.cells #[.slice na1 T1.nodes.length nc1,.slice ia1 T1.items.length ic1] 25)).cell? ⟨w1.heap.size,1,none⟩=_):=Hd ⟨zX rfl,zX rfl⟩;unfold TreeV.val;have HT1:Hid (IsTree (w1.alloc (.cells #[.slice na1 T1.nodes.length nc1,.slice ia1 T1.items.length ic1] 25)) ⟨na1,nc1,ia1,ic1⟩ T1):=Hd (((Ext.refl w1).alloc _).tree ht);clear ht;clear hx hb A0))
 go_ret;exact⟨rfl,A18.out.2.2.2.2.2.2.2.1⟩
theorem KH:kT2=[102,117,110,32,102,40,110,58,32,105,110,116,41,58,32,105,110,116,32,61,32,102,40,110,41,59]:=by decide +kernel
theorem KJ:kT3=[108,101,116,32,97,32,61,32,49,59,32,108,101,116,32,98,32,61,32,50,59,32,108,101,116,32,99,32,61,32,97,32,43,32,97,59]:=by decide +kernel
theorem bG(w:World)(hg:GV w):Calls prog 14 #[] w (zm w true):=
 EF w hg _ _ _ FV (KH▸FW) (KJ▸FX) FY GB GC FR FS FT GD FZ GA (fun M h1 h2=>FU h1 h2)
end
end Go.Proofs.YtipjhljnkocioaaGreatDoor
