/- Part of a proof. -/
import Derived.Test.YtokdgiphdnjeoaaGreatDoorQ31
import Derived.Test.YtokdgiphdnjeoaaGreatDoorQ40
set_option maxRecDepth 100000
set_option maxHeartbeats 8000000
set_option linter.unusedVariables false
set_option linter.unusedSimpArgs false
open Go.Proofs.Tryz
namespace Go.Proofs.YtokdgiphdnjeoaaGreatDoor
section
open Go Go.RowKit
def kT1:List UInt8:=[99,104,111,111,115,101,32,100,58,32,49,46,46,54,59,32,108,101,116,32,115,32,61,32,108,101,116,32,120,32,61,32,100,32,105,110,32,120,32,43,32,100,59]
def kT2:List UInt8:=[102,117,110,32,102,40,110,58,32,105,110,116,41,58,32,105,110,116,32,61,32,102,40,110,41,59]
def kT3:List UInt8:=[108,101,116,32,97,32,61,32,49,59,32,108,101,116,32,98,32,61,32,50,59,32,108,101,116,32,99,32,61,32,97,32,43,32,97,59]
def okT(s:List UInt8):Option Tr:=match cL s with|.ok t=>some t|_=>none
def gX(s:List UInt8):Tr:=(okT s).getD ⟨[],[]⟩
theorem sL{s:List UInt8}(h:(okT s).isSome=true):cL s=.ok (gX s):=by
 unfold gX
 cases e:cL s with
 |error p=>unfold okT at h;rw[e]at h;cases h
 |ok t=>unfold okT;rw[e];rfl
theorem JQ:cL kT1=.ok (gX kT1):=sL (by decide +kernel)
theorem JR:cL kT2=.ok (gX kT2):=sL (by decide +kernel)
theorem JS:cL kT3=.ok (gX kT3):=sL (by decide +kernel)
theorem JT:zc (gX kT1)=([-1,-1,-1,2,7,2,-1,-1,-1],0,0):=by decide +kernel
theorem JW:qH (gX kT1) 2=([3,5],0):=by decide +kernel
theorem JX:visU (gX kT1) 4=([2,7],0):=by decide +kernel
theorem JM:uE (gX kT1) 6=([2,7],0):=by decide +kernel
theorem JU:zc (gX kT2)=([],4,9):=by decide +kernel
theorem JV:eU (gX kT3) 2=0:=by decide +kernel
def errT(r:Except Int Tr):Int:=match r with|.error e=>e|.ok _=>0
theorem EC{r:Except Int Tr}{e:Int}(h:errT r=e)(h0:e≠0):r=.error e:=by
 cases r with
 |error x=>rw[show x=e from h]
 |ok t=>exact absurd h.symm h0
theorem JN:renU (gX kT1) 7 [100]=.error 9:=EC (by decide +kernel) (by decide)
theorem JO:renU (gX kT1) 7 [108,101,116]=.error 4:=EC (by decide +kernel) (by decide)
theorem JY:eV (gX kT1)=([8],0):=by decide +kernel
def nsL(t:Tr)(l:List Int)(item:Int):Nat→List Int
 |0=>[item]
 |m+1=>nsL t l item m++(if (nsL t l item m).contains (item-m)then ((List.range t.nodes.length).filter fun n=>zY t (n:Nat)==item-m&&l.getD n 0 != -1).map fun n=>zY t (l.getD n 0)else [])
theorem sK(t:Tr)(l:List Int)(item:Int):∀(m:Nat) (x:Int),x∈nsL t l item m↔NS t l item m x
 |0,x=>by simp[nsL,NS]
 | m+1,x=>by
   rw[nsL,List.mem_append,sK t l item m,kJ];refine or_congr_right ?_;by_cases hc:(nsL t l item m).contains (item-m)=true
   ·rw[if_pos hc]
    have hy:NS t l item m (item-m):=(sK t l item m _).1 (List.contains_iff_mem.1 hc);constructor
    ·intro h
     obtain⟨n,hn,rfl⟩:=List.mem_map.1 h;obtain⟨h1,h2⟩:=List.mem_filter.1 hn;simp only[Bool.and_eq_true,beq_iff_eq,bne_iff_ne,ne_eq]at h2;exact⟨hy,n,List.mem_range.1 h1,h2.1,h2.2,rfl⟩
    ·rintro⟨-,n,h1,h2,h3,rfl⟩
     refine List.mem_map.2 ⟨n,List.mem_filter.2 ⟨List.mem_range.2 h1,?_⟩,rfl⟩;simp only[Bool.and_eq_true,beq_iff_eq,bne_iff_ne,ne_eq];exact⟨h2,h3⟩
   ·rw[if_neg hc]
    constructor
    ·intro h;cases h
    ·rintro⟨hy,-⟩
     exact absurd (List.contains_iff_mem.2 ((sK t l item m _).2 hy)) hc
theorem JL:nsL (gX kT3) (zg (gX kT3) (gX kT3).nodes.length) 2 3=[2,0,0]:=by decide +kernel
theorem JP{M:List Int}(hn:M.Nodup)(hm:∀x,x∈M↔x≠2∧NS (gX kT3) (zg (gX kT3) (gX kT3).nodes.length) 2 (Int.toNat 2+1) x):cT M=[0]:=by
 have h:∀x,x∈M↔x∈[(0:Int)]:=fun x=>by
  rw[hm,show Int.toNat 2+1=3 from rfl,←sK,JL];simp;omega
 have hp:M.Perm [0]:=(List.perm_ext_iff_of_nodup hn (by simp)).2 h;exact(cV ((dD M).trans hp) (cU _)).trans (by decide)
theorem nS(s:List UInt8)(t:Tr)(w:World)(hs:s.length≤1000000000)(hg:GV w)(hp:cL s=.ok t) :
 Calls prog 99 #[strV s] w fun e w'=>∃v:TreeV,e=.returned (.tuple #[v.val t,.bool true])∧IsTree w' v t∧Below w.heap.size w w':=by
 have hb0:Below w.heap.size w (w.alloc (.cells #[.slice none 0 0,.slice none 0 0] 25)):=(Below.refl _ w).alloc nlr _;have hP:=oC s _ hs (hg.mono hb0 nlr);rw[hp]at hP;have HP:=Hd hP;have HB0:=Hd hb0;have hsz:(w.alloc (.cells #[.slice none 0 0,.slice none 0 0] 25)).heap.size=w.heap.size+1:=by simp
 have HSZ:=Hd hsz;clear hP hb0 hsz hg hp;go_enter func99,ntmps99
 go_wp2_with (go_at_call 80;refine HP.out.mono ?_;rintro e w2 ⟨⟨na,nc,ia,ic⟩,rfl,ht,hb2⟩;rw[HSZ.out]at hb2;unfold TreeV.val;have hb3:=hb2.alloc (by have:=hb2.size;rw[HSZ.out]at this;exact this) (.cells #[.slice na t.nodes.length nc,.slice ia t.items.length ic] 25);have hh:=(hb3.block w.heap.size (by omega)).trans (World.alloc_heap_new w (.cells #[.slice none 0 0,.slice none 0 0] 25));have r0:=za (i:=0) (v:=.slice none 0 0) hh rfl;have r1:=za (i:=1) (v:=.slice none 0 0) hh rfl;have f0:=zl (i:=0) hh;have f1:=zl (i:=1) hh;have ht3:=ht.mono ((Below.refl _ w2).alloc nlr (.cells #[.slice na t.nodes.length nc,.slice ia t.items.length ic] 25)) nlr;have HTA:=Hd (TreeAt.put (v:=⟨na,nc,ia,ic⟩) r0 r1 f0 f1 (eB hb3) ht3 (HB0.out.trans (hb3.mono (by omega))));clear hb2 hb3 hh ht ht3)
 obtain⟨k0,k1,-,-,-,ht,hb⟩:=HTA.out;unfold put2 at k0 k1;refine bodyPost_ret (v:=.tuple #[.agg #[.slice na t.nodes.length nc,.slice ia t.items.length ic],.bool true]) (by simp[results,results99,go_sem,loadVar,k0,k1,Result.andThen]) rfl ⟨⟨na,nc,ia,ic⟩,rfl,ht,hb⟩
theorem lU{s:List UInt8}{t:Tr}(h:cL s=.ok t):Bd t∧Rg t:=by
 unfold cL uW at h
 cases hr:mO s with
 |error e=>rw[hr]at h;cases h
 | ok l=>
   rw[hr]at h;simp only at h;obtain⟨tk,hs⟩:=yQ hr;have hok:mD ⟨l,s.length⟩:=fun t ht hk=>(mL (tk.tok t ht hk)).2;cases ht:nG ⟨l,(s.length:Int)⟩with
   |error p=>rw[ht]at h;cases h
   | ok t'=>
     rw[ht]at h;simp only at h;have tok:=yW hok ht;have hb:Bd t':=tok.bd tk.many (fun x hx=>Nat.le_trans (tk.text x hx) (by omega));split at h
     ·cases h
     ·split at h
      ·cases h
      ·split at h
       ·cases h
       ·cases h;exact⟨hb,tok.rg⟩
structure KI (w W:World) (b:Nat) (v:TreeV) (t:Tr):Prop where
 c0:W.cell? ⟨b,0,none⟩=some (.slice v.na t.nodes.length v.nc)
 c1:W.cell? ⟨b,1,none⟩=some (.slice v.ia t.items.length v.ic)
 tree:IsTree W v t
 gv:GV W
 below:Below w.heap.size w W
theorem KI.step{w W W':World}{b:Nat}{v:TreeV}{t:Tr}(h:KI w W b v t)(hb:Below W.heap.size W W'):KI w W' b v t:=
 ⟨(hb.cell (p:=⟨b,0,none⟩) (World.block_lt_of_cell? W _ h.c0)).trans h.c0,(hb.cell (p:=⟨b,1,none⟩) (World.block_lt_of_cell? W _ h.c1)).trans h.c1,h.tree.mono hb nlr,h.gv.mono hb nlr,h.below.trans (hb.mono h.below.size)⟩
def Ext(a b:World):Prop:=Below a.heap.size a b
theorem Ext.refl(a:World):Ext a a:=Below.refl _ a
theorem Ext.trans{a b c:World}(h:Ext a b)(k:Ext b c):Ext a c:=Below.trans h (Below.mono k (Below.size h))
theorem Ext.alloc{a b:World}(h:Ext a b)(o:Obj):Ext a (b.alloc o):=Below.alloc h (Below.size h) o
theorem Ext.drew{a b:World}(h:Ext a b):Ext a b.drew:=Below.drew h
theorem Ext.cell{a b:World}(h:Ext a b){p:Addr}{v:Value}(hc:a.cell? p=some v):b.cell? p=some v:=(Below.cell h (World.block_lt_of_cell? a p hc)).trans hc
theorem Ext.lt{a b:World}(h:Ext a b){k:Nat}(hk:k<a.heap.size):k<b.heap.size:=Nat.lt_of_lt_of_le hk (Below.size h)
theorem Ext.tree{a b:World}(h:Ext a b){v:TreeV}{t:Tr}(ht:IsTree a v t):IsTree b v t:=ht.mono h nlr
theorem Ext.ints{a b:World}(h:Ext a b){x:Option Addr}{c:Nat}{l:List Int}(ht:Ints a x c l):Ints b x c l:=Row.mono ht h nlr
theorem Ext.gv{a b:World}(h:Ext a b)(hg:GV a):GV b:=hg.mono h nlr
theorem bP{W:World}{cs:Array Value}{T:TypeId}{i:Nat}{v:Value}(h:cs[i]?=some v):(W.alloc (.cells cs T)).cell? ⟨W.heap.size,i,none⟩=some v:=za (World.alloc_heap_new W _) h
theorem gS(W:World)(l:List Int){n:Nat}(hn:n=l.length):Row 1 (W.alloc (.cells (zm l).toArray 3)) (some ⟨W.heap.size,0,none⟩) l.length n (zm l):=Row.made W (zm l) _ (by simp[zm]) (by omega)
def Al:List World→World→Prop
 | [],_=>True
 |a::l,X=>Ext a X∧Al l X
theorem Al.step:∀{l:List World}{X Y:World},Al l X→Ext X Y→Al l Y
 | [],_,_,_,_=>trivial
 |_::_,_,_,h,k=>⟨h.1.trans k,Al.step h.2 k⟩
theorem Al.al{l:List World}{X:World}(h:Al l X)(o:Obj):Al l (X.alloc o):=h.step ((Ext.refl X).alloc o)
theorem Al.new{l:List World}{X:World}(h:Al l X):Al (X::l) X:=⟨Ext.refl X,h⟩
def Al.Le:List World→Nat→Prop
 | [],_=>True
 |a::l,g=>a.heap.size≤g∧Al.Le l g
theorem Al.le:∀{l:List World}{X:World}{g:Nat},Al l X→X.heap.size≤g→Al.Le l g
 | [],_,_,_,_=>trivial
 |_::_,_,_,h,k=>⟨Nat.le_trans (Below.size h.1) k,Al.le h.2 k⟩
theorem GR(w:World)(hg:GV w)(T1 T2 T3:Tr)(p1:cL [99,104,111,111,115,101,32,100,58,32,49,46,46,54,59,32,108,101,116,32,115,32,61,32,108,101,116,32,120,32,61,32,100,32,105,110,32,120,32,43,32,100,59]=.ok T1)(p2:cL [102,117,110,32,102,40,110,58,32,105,110,116,41,58,32,105,110,116,32,61,32,102,40,110,41,59]=.ok T2)(p3:cL [108,101,116,32,97,32,61,32,49,59,32,108,101,116,32,98,32,61,32,50,59,32,108,101,116,32,99,32,61,32,97,32,43,32,97,59]=.ok T3)
 (r1:zc T1=([-1,-1,-1,2,7,2,-1,-1,-1],0,0))(u1:qH T1 2=([3,5],0))(v1:visU T1 4=([2,7],0))(f1:uE T1 6=([2,7],0))(n1:renU T1 7 [100]=.error 9)(n2:renU T1 7 [108,101,116]=.error 4)(x1:eV T1=([8],0))
 (r2:zc T2=([],4,9))(r3:eU T3 2=0)
 (n3:∀M:List Int,M.Nodup→(∀x,x∈M↔x≠2∧NS T3 (zg T3 T3.nodes.length) 2 (Int.toNat 2+1) x)→cT M=[0]) :
 Calls prog 52 #[] w (zq w true):=by
 obtain⟨bd1,rg1⟩:=lU p1;obtain⟨bd2,rg2⟩:=lU p2;obtain⟨bd3,rg3⟩:=lU p3;have Hbd1:=Hd bd1;have Hrg1:=Hd rg1;have Hbd2:=Hd bd2;have Hrg2:=Hd rg2;have Hbd3:=Hd bd3;have Hrg3:=Hd rg3;have Hp1:=Hd p1;have Hp2:=Hd p2;have Hp3:=Hd p3;have Hr1:=Hd r1;have Hu1:=Hd u1;have Hv1:=Hd v1;have Hf1:=Hd f1;have Hn1:=Hd n1;have Hn2:=Hd n2;have Hx1:=Hd x1;have Hr2:=Hd r2;have Hr3:=Hd r3;have Hn3:=Hd n3;have Hhg:=Hd hg;clear bd1 rg1 bd2 rg2 bd3 rg3 p1 p2 p3 r1 u1 v1 f1 n1 n2 x1 r2 r3 n3 hg;have A0:Hid (Al [w] w):=Hd ⟨Ext.refl w,trivial⟩;go_enter func52,ntmps52
 go_wp2_with (first
  | (have:=A17;clear this;go_at_call 64;refine(eJ a12 (some ⟨w17.heap.size,0,none⟩) c12 1 [0] [0] (w17.alloc (.cells #[.int .i64 0] 3)) (by decide) (by decide) ((A17.out.1.alloc _).ints L12.out) (gS w17 [0] rfl)).mono ?_;rw[show(([0]:List Int)==[0])=true from by decide];rintro e w18 ⟨rfl,hb⟩;have hx:Ext (w17.alloc (.cells #[.int .i64 0] 3)) w18:=hb;have hx:=((Ext.refl w17).alloc _).trans hx;have A18:=Hd (A17.out.step hx);clear c1_0;clear c1_1;clear k2_0;obtain⟨c1_0,c1_1⟩:=C1.out;have c1_0:=A18.out.2.2.2.2.2.2.1.cell c1_0;have c1_1:=A18.out.2.2.2.2.2.2.1.cell c1_1;have k2_0:=K2.out;have k2_0:=A18.out.2.2.2.2.2.1.cell k2_0;clear hx hb A17)
  | (have:=A16;clear this;go_at_call 64;refine(eJ a8 (some ⟨w16.heap.size,0,none⟩) c8 1 [8] [8] (w16.alloc (.cells #[.int .i64 8] 3)) (by decide) (by decide) ((A16.out.2.1.alloc _).ints L8.out) (gS w16 [8] rfl)).mono ?_;rw[show(([8]:List Int)==[8])=true from by decide];rintro e w17 ⟨rfl,hb⟩;have hx:Ext (w16.alloc (.cells #[.int .i64 8] 3)) w17:=hb;have hx:=((Ext.refl w16).alloc _).trans hx;have A17:=Hd (A16.out.step hx);clear c1_0;clear c1_1;clear k2_0;obtain⟨c1_0,c1_1⟩:=C1.out;have c1_0:=A17.out.2.2.2.2.2.2.1.cell c1_0;have c1_1:=A17.out.2.2.2.2.2.2.1.cell c1_1;have k2_0:=K2.out;have k2_0:=A17.out.2.2.2.2.2.1.cell k2_0;clear hx hb A16)
  | (have:=A15;clear this;go_at_call 64;refine(eJ a5 (some ⟨w15.heap.size,0,none⟩) c5 2 [2,7] [2,7] (w15.alloc (.cells #[.int .i64 2,.int .i64 7] 3)) (by decide) (by decide) ((A15.out.2.2.1.alloc _).ints L5.out) (gS w15 [2,7] rfl)).mono ?_;rw[show(([2,7]:List Int)==[2,7])=true from by decide];rintro e w16 ⟨rfl,hb⟩;have hx:Ext (w15.alloc (.cells #[.int .i64 2,.int .i64 7] 3)) w16:=hb;have hx:=((Ext.refl w15).alloc _).trans hx;have A16:=Hd (A15.out.step hx);clear c1_0;clear c1_1;clear k2_0;obtain⟨c1_0,c1_1⟩:=C1.out;have c1_0:=A16.out.2.2.2.2.2.2.1.cell c1_0;have c1_1:=A16.out.2.2.2.2.2.2.1.cell c1_1;have k2_0:=K2.out;have k2_0:=A16.out.2.2.2.2.2.1.cell k2_0;clear hx hb A15)
  | (have:=A14;clear this;go_at_call 64;refine(eJ a4 (some ⟨w14.heap.size,0,none⟩) c4 2 [2,7] [2,7] (w14.alloc (.cells #[.int .i64 2,.int .i64 7] 3)) (by decide) (by decide) ((A14.out.2.2.2.1.alloc _).ints L4.out) (gS w14 [2,7] rfl)).mono ?_;rw[show(([2,7]:List Int)==[2,7])=true from by decide];rintro e w15 ⟨rfl,hb⟩;have hx:Ext (w14.alloc (.cells #[.int .i64 2,.int .i64 7] 3)) w15:=hb;have hx:=((Ext.refl w14).alloc _).trans hx;have A15:=Hd (A14.out.step hx);clear c1_0;clear c1_1;clear k2_0;obtain⟨c1_0,c1_1⟩:=C1.out;have c1_0:=A15.out.2.2.2.2.2.2.1.cell c1_0;have c1_1:=A15.out.2.2.2.2.2.2.1.cell c1_1;have k2_0:=K2.out;have k2_0:=A15.out.2.2.2.2.2.1.cell k2_0;clear hx hb A14)
  | (have:=A13;clear this;go_at_call 64;refine(eJ a3 (some ⟨w13.heap.size,0,none⟩) c3 2 [3,5] [3,5] (w13.alloc (.cells #[.int .i64 3,.int .i64 5] 3)) (by decide) (by decide) ((A13.out.2.2.2.2.1.alloc _).ints L3.out) (gS w13 [3,5] rfl)).mono ?_;rw[show(([3,5]:List Int)==[3,5])=true from by decide];rintro e w14 ⟨rfl,hb⟩;have hx:Ext (w13.alloc (.cells #[.int .i64 3,.int .i64 5] 3)) w14:=hb;have hx:=((Ext.refl w13).alloc _).trans hx;have A14:=Hd (A13.out.step hx);clear c1_0;clear c1_1;clear k2_0;obtain⟨c1_0,c1_1⟩:=C1.out;have c1_0:=A14.out.2.2.2.2.2.2.1.cell c1_0;have c1_1:=A14.out.2.2.2.2.2.2.1.cell c1_1;have k2_0:=K2.out;have k2_0:=A14.out.2.2.2.2.2.1.cell k2_0;clear hx hb A13)
  | (have:=A12;clear this;go_at_call 64;refine(eJ a2 (some ⟨w12.heap.size,0,none⟩) c2 9 [-1,-1,-1,2,7,2,-1,-1,-1] [-1,-1,-1,2,7,2,-1,-1,-1] (w12.alloc (.cells #[.int .i64 (-1),.int .i64 (-1),.int .i64 (-1),.int .i64 2,.int .i64 7,.int .i64 2,.int .i64 (-1),.int .i64 (-1),.int .i64 (-1)] 3)) (by decide) (by decide) (((A12.out.2.2.2.2.2.1.alloc _)).ints L2.out) (gS w12 [-1,-1,-1,2,7,2,-1,-1,-1] rfl)).mono ?_;rw[show(([-1,-1,-1,2,7,2,-1,-1,-1]:List Int)==[-1,-1,-1,2,7,2,-1,-1,-1])=true from by decide];rintro e w13 ⟨rfl,hb⟩;have hx:Ext (w12.alloc (.cells #[.int .i64 (-1),.int .i64 (-1),.int .i64 (-1),.int .i64 2,.int .i64 7,.int .i64 2,.int .i64 (-1),.int .i64 (-1),.int .i64 (-1)] 3)) w13:=hb;have hx:=((Ext.refl w12).alloc _).trans hx;have A13:=Hd (A12.out.step hx);clear c1_0;clear c1_1;clear k2_0;obtain⟨c1_0,c1_1⟩:=C1.out;have c1_0:=A13.out.2.2.2.2.2.2.1.cell c1_0;have c1_1:=A13.out.2.2.2.2.2.2.1.cell c1_1;have k2_0:=K2.out;have k2_0:=A13.out.2.2.2.2.2.1.cell k2_0;clear hx hb A12)
  | (have:=A11;clear this;go_at_call 47;refine(nZ ⟨na11,nc11,ia11,ic11⟩ T3 2 (w11.alloc (.cells #[.slice na11 T3.nodes.length nc11,.slice ia11 T3.items.length ic11] 25)) Hbd3.out Hrg3.out (A11.out.2.2.2.2.2.2.1.gv Hhg.out) HT3.out (by decide)).mono ?_;rintro e w12 (⟨-,M,hM1,hM2,h9⟩|⟨h9,-⟩);rotate_left;(exact absurd Hr3.out h9);rw[Hn3.out M hM1 hM2]at h9;obtain⟨a12,c12,rfl,ho,hb⟩:=h9;have hx:Ext (w11.alloc (.cells #[.slice na11 T3.nodes.length nc11,.slice ia11 T3.items.length ic11] 25)) w12:=hb;have A12:=Hd (A11.out.step hx);clear c1_0;clear c1_1;clear k2_0;obtain⟨c1_0,c1_1⟩:=C1.out;have c1_0:=A12.out.2.2.2.2.2.1.cell c1_0;have c1_1:=A12.out.2.2.2.2.2.1.cell c1_1;have k2_0:=K2.out;have k2_0:=A12.out.2.2.2.2.1.cell k2_0;have L12:Hid (Ints w12 a12 c12 [0]):=Hd (zU ho);clear ho hM1 hM2;have A12:=Hd A12.out.new;clear hx hb A11)
  | (have:=A10;clear this;go_at_call 99;refine(nS [108,101,116,32,97,32,61,32,49,59,32,108,101,116,32,98,32,61,32,50,59,32,108,101,116,32,99,32,61,32,97,32,43,32,97,59] T3 (w10.alloc (.cells #[.slice a10 0 c10] 52)) (by decide) (A10.out.2.2.2.2.2.2.1.gv Hhg.out) Hp3.out).mono ?_;rintro e w11 ⟨⟨na11,nc11,ia11,ic11⟩,rfl,ht,hb⟩;have hx:Ext (w10.alloc (.cells #[.slice a10 0 c10] 52)) w11:=hb;have A11:=Hd ((A10.out.step hx).al (.cells #[.slice na11 T3.nodes.length nc11,.slice ia11 T3.items.length ic11] 25));clear c1_0;clear c1_1;clear k2_0;obtain⟨c1_0,c1_1⟩:=C1.out;have c1_0:=A11.out.2.2.2.2.2.1.cell c1_0;have c1_1:=A11.out.2.2.2.2.2.1.cell c1_1;have k2_0:=K2.out;have k2_0:=A11.out.2.2.2.2.1.cell k2_0;unfold TreeV.val;have HT3:Hid (IsTree (w11.alloc (.cells #[.slice na11 T3.nodes.length nc11,.slice ia11 T3.items.length ic11] 25)) ⟨na11,nc11,ia11,ic11⟩ T3):=Hd (((Ext.refl w11).alloc _).tree ht);clear ht;clear hx hb A10)
  | (have:=A9;clear this;go_at_call 55;refine(iU ⟨na9,nc9,ia9,ic9⟩ T2 (w9.alloc (.cells #[.slice na9 T2.nodes.length nc9,.slice ia9 T2.items.length ic9] 25)) Hbd2.out Hrg2.out (A9.out.2.2.2.2.2.2.1.gv Hhg.out) HT2.out).mono ?_;rw[Hr2.out];rintro e w10 ⟨a10,c10,rfl,ho,hb⟩;have hx:Ext (w9.alloc (.cells #[.slice na9 T2.nodes.length nc9,.slice ia9 T2.items.length ic9] 25)) w10:=hb;have A10:=Hd ((A9.out.step hx).al (.cells #[.slice a10 0 c10] 52));clear c1_0;clear c1_1;clear k2_0;obtain⟨c1_0,c1_1⟩:=C1.out;have c1_0:=A10.out.2.2.2.2.2.1.cell c1_0;have c1_1:=A10.out.2.2.2.2.2.1.cell c1_1;have k2_0:=K2.out;have k2_0:=A10.out.2.2.2.2.1.cell k2_0;clear ho;clear hx hb A9)
  | (have:=A8;clear this;go_at_call 99;refine(nS [102,117,110,32,102,40,110,58,32,105,110,116,41,58,32,105,110,116,32,61,32,102,40,110,41,59] T2 w8 (by decide) (A8.out.2.2.2.2.2.2.1.gv Hhg.out) Hp2.out).mono ?_;rintro e w9 ⟨⟨na9,nc9,ia9,ic9⟩,rfl,ht,hb⟩;have hx:Ext w8 w9:=hb;have A9:=Hd ((A8.out.step hx).al (.cells #[.slice na9 T2.nodes.length nc9,.slice ia9 T2.items.length ic9] 25));clear c1_0;clear c1_1;clear k2_0;obtain⟨c1_0,c1_1⟩:=C1.out;have c1_0:=A9.out.2.2.2.2.2.1.cell c1_0;have c1_1:=A9.out.2.2.2.2.2.1.cell c1_1;have k2_0:=K2.out;have k2_0:=A9.out.2.2.2.2.1.cell k2_0;unfold TreeV.val;have HT2:Hid (IsTree (w9.alloc (.cells #[.slice na9 T2.nodes.length nc9,.slice ia9 T2.items.length ic9] 25)) ⟨na9,nc9,ia9,ic9⟩ T2):=Hd (((Ext.refl w9).alloc _).tree ht);clear ht;clear hx hb A8)
  | (have:=A7;clear this;go_at_call 102;refine(tG ⟨na1,nc1,ia1,ic1⟩ T1  (w7.alloc (.cells #[.slice none 0 0,.slice none 0 0] 25)) Hbd1.out Hrg1.out (A7.out.2.2.2.2.2.1.gv Hhg.out) (A7.out.2.2.2.2.1.tree HT1.out)).mono ?_;rw[Hx1.out];rintro e w8 ⟨a8,c8,rfl,ho,hb⟩;have hx:Ext (w7.alloc (.cells #[.slice none 0 0,.slice none 0 0] 25)) w8:=hb;have A8:=Hd (A7.out.step hx);clear c1_0;clear c1_1;clear k2_0;obtain⟨c1_0,c1_1⟩:=C1.out;have c1_0:=A8.out.2.2.2.2.1.cell c1_0;have c1_1:=A8.out.2.2.2.2.1.cell c1_1;have k2_0:=K2.out;have k2_0:=A8.out.2.2.2.1.cell k2_0;have L8:Hid (Ints w8 a8 c8 [8]):=Hd (zU ho);clear ho;have A8:=Hd A8.out.new;clear hx hb A7)
  | (have:=A6;clear this;go_at_call 45;refine(mT ⟨na1,nc1,ia1,ic1⟩ T1 7 [108,101,116] (w6.alloc (.cells #[.slice none 0 0,.slice none 0 0] 25)) Hbd1.out Hrg1.out (A6.out.2.2.2.2.2.1.gv Hhg.out) (by decide) (A6.out.2.2.2.2.1.tree HT1.out)).mono ?_;rw[Hn2.out];rintro e w7 ⟨rfl,hb⟩;have hx:Ext (w6.alloc (.cells #[.slice none 0 0,.slice none 0 0] 25)) w7:=hb;have A7:=Hd ((A6.out.step hx).al (.cells #[.slice none 0 0,.slice none 0 0] 25));clear c1_0;clear c1_1;clear k2_0;obtain⟨c1_0,c1_1⟩:=C1.out;have c1_0:=A7.out.2.2.2.2.1.cell c1_0;have c1_1:=A7.out.2.2.2.2.1.cell c1_1;have k2_0:=K2.out;have k2_0:=A7.out.2.2.2.1.cell k2_0;clear hx hb A6)
  | (have:=A5;clear this;go_at_call 45;refine(mT ⟨na1,nc1,ia1,ic1⟩ T1 7 [100] w5 Hbd1.out Hrg1.out (A5.out.2.2.2.2.2.1.gv Hhg.out) (by decide) (A5.out.2.2.2.2.1.tree HT1.out)).mono ?_;rw[Hn1.out];rintro e w6 ⟨rfl,hb⟩;have hx:Ext w5 w6:=hb;have A6:=Hd ((A5.out.step hx).al (.cells #[.slice none 0 0,.slice none 0 0] 25));clear c1_0;clear c1_1;clear k2_0;obtain⟨c1_0,c1_1⟩:=C1.out;have c1_0:=A6.out.2.2.2.2.1.cell c1_0;have c1_1:=A6.out.2.2.2.2.1.cell c1_1;have k2_0:=K2.out;have k2_0:=A6.out.2.2.2.1.cell k2_0;clear hx hb A5)
  | (have:=A4;clear this;go_at_call 101;refine(AF ⟨na1,nc1,ia1,ic1⟩ T1 6 w4 Hbd1.out Hrg1.out (A4.out.2.2.2.2.1.gv Hhg.out) (A4.out.2.2.2.1.tree HT1.out)).mono ?_;rw[Hf1.out];rintro e w5 ⟨a5,c5,rfl,ho,hb⟩;have hx:Ext w4 w5:=hb;have A5:=Hd (A4.out.step hx);clear c1_0;clear c1_1;clear k2_0;obtain⟨c1_0,c1_1⟩:=C1.out;have c1_0:=A5.out.2.2.2.1.cell c1_0;have c1_1:=A5.out.2.2.2.1.cell c1_1;have k2_0:=K2.out;have k2_0:=A5.out.2.2.1.cell k2_0;have L5:Hid (Ints w5 a5 c5 [2,7]):=Hd (zU ho);clear ho;have A5:=Hd A5.out.new;clear hx hb A4)
  | (have:=A3;clear this;go_at_call 100;refine(rU ⟨na1,nc1,ia1,ic1⟩ T1 4 w3 Hbd1.out Hrg1.out (A3.out.2.2.2.1.gv Hhg.out) (A3.out.2.2.1.tree HT1.out)).mono ?_;rw[Hv1.out];rintro e w4 ⟨a4,c4,rfl,ho,hb⟩;have hx:Ext w3 w4:=hb;have A4:=Hd (A3.out.step hx);clear c1_0;clear c1_1;clear k2_0;obtain⟨c1_0,c1_1⟩:=C1.out;have c1_0:=A4.out.2.2.1.cell c1_0;have c1_1:=A4.out.2.2.1.cell c1_1;have k2_0:=K2.out;have k2_0:=A4.out.2.1.cell k2_0;have L4:Hid (Ints w4 a4 c4 [2,7]):=Hd (zU ho);clear ho;have A4:=Hd A4.out.new;clear hx hb A3)
  | (have:=A2;clear this;go_at_call 44;refine(AJ ⟨na1,nc1,ia1,ic1⟩ T1 2 (w2.alloc (.cells #[.slice a2 9 c2] 52)) Hbd1.out Hrg1.out (A2.out.2.2.1.gv Hhg.out) (A2.out.2.1.tree HT1.out)).mono ?_;rw[Hu1.out];rintro e w3 ⟨a3,c3,rfl,ho,hb⟩;have hx:Ext (w2.alloc (.cells #[.slice a2 9 c2] 52)) w3:=hb;have A3:=Hd (A2.out.step hx);clear c1_0;clear c1_1;obtain⟨c1_0,c1_1⟩:=C1.out;have c1_0:=A3.out.2.1.cell c1_0;have c1_1:=A3.out.2.1.cell c1_1;have k2_0:=K2.out;have k2_0:=A3.out.1.cell k2_0;have L3:Hid (Ints w3 a3 c3 [3,5]):=Hd (zU ho);clear ho;have A3:=Hd A3.out.new;clear hx hb A2)
  | (have:=A1;clear this;go_at_call 55;refine(iU ⟨na1,nc1,ia1,ic1⟩ T1 (w1.alloc (.cells #[.slice na1 T1.nodes.length nc1,.slice ia1 T1.items.length ic1] 25)) Hbd1.out Hrg1.out (A1.out.2.1.gv Hhg.out) HT1.out).mono ?_;rw[Hr1.out];rintro e w2 ⟨a2,c2,rfl,ho,hb⟩;have hx:Ext (w1.alloc (.cells #[.slice na1 T1.nodes.length nc1,.slice ia1 T1.items.length ic1] 25)) w2:=hb;have A2:=Hd ((A1.out.step hx).al (.cells #[.slice a2 9 c2] 52)).new;obtain⟨c1_0,c1_1⟩:=C1.out;have c1_0:=A2.out.2.1.cell c1_0;have c1_1:=A2.out.2.1.cell c1_1;have K2:Hid ((w2.alloc (.cells #[.slice a2 9 c2] 52)).cell? ⟨w2.heap.size,0,none⟩=_):=Hd (bP rfl);have L2:Hid (Ints (w2.alloc (.cells #[.slice a2 9 c2] 52)) a2 c2 [-1,-1,-1,2,7,2,-1,-1,-1]):=Hd (((Ext.refl w2).alloc _).ints (zU ho));clear ho;clear hx hb A1)
  | (have:=A0;clear this;go_at_call 99;refine(nS [99,104,111,111,115,101,32,100,58,32,49,46,46,54,59,32,108,101,116,32,115,32,61,32,108,101,116,32,120,32,61,32,100,32,105,110,32,120,32,43,32,100,59] T1 w (by decide) (A0.out.1.gv Hhg.out) Hp1.out).mono ?_;rintro e w1 ⟨⟨na1,nc1,ia1,ic1⟩,rfl,ht,hb⟩;have hx:Ext w w1:=hb;have A1:=Hd ((A0.out.step hx).al (.cells #[.slice na1 T1.nodes.length nc1,.slice ia1 T1.items.length ic1] 25)).new;have C1:Hid ((w1.alloc (.cells #[.slice na1 T1.nodes.length nc1,.slice ia1 T1.items.length ic1] 25)).cell? ⟨w1.heap.size,0,none⟩=_∧(w1.alloc (.cells #[.slice na1 T1.nodes.length nc1,.slice ia1 T1.items.length ic1] 25)).cell? ⟨w1.heap.size,1,none⟩=_):=Hd ⟨bP rfl,bP rfl⟩;unfold TreeV.val;have HT1:Hid (IsTree (w1.alloc (.cells #[.slice na1 T1.nodes.length nc1,.slice ia1 T1.items.length ic1] 25)) ⟨na1,nc1,ia1,ic1⟩ T1):=Hd (((Ext.refl w1).alloc _).tree ht);clear ht;clear hx hb A0))
 go_ret;exact⟨rfl,A18.out.2.2.2.2.2.2.2.1⟩
theorem NO:kT2=[102,117,110,32,102,40,110,58,32,105,110,116,41,58,32,105,110,116,32,61,32,102,40,110,41,59]:=by decide +kernel
theorem NP:kT3=[108,101,116,32,97,32,61,32,49,59,32,108,101,116,32,98,32,61,32,50,59,32,108,101,116,32,99,32,61,32,97,32,43,32,97,59]:=by decide +kernel
theorem sY(w:World)(hg:GV w):Calls prog 52 #[] w (zq w true):=
 GR w hg _ _ _ JQ (NO▸JR) (NP▸JS) JT JW JX JM JN JO JY JU JV (fun M h1 h2=>JP h1 h2)
theorem iJ{W:World}{p:Addr}{v:Value}(h:W.cell? p=some v):W.setCell p v=W:=by
 obtain⟨heap,tape,drawn,os,output⟩:=W;simp only[World.setCell,World.cell?]at *;congr 1;refine Array.ext (by simp) fun i h1 h2=>?_;rw[Array.getElem_modify];split
 ·rename_i e
  subst e;rw[Array.getElem?_eq_getElem h2]at h;split at h
  ·rename_i c el fr heq
   all_goals
    simp only[Option.some.injEq]at heq;rw[heq];by_cases hs:p.spot.isSome=true
    ·simp[hs]at h
    ·simp only[hs,Bool.false_eq_true,if_false]at h⊢
     congr 1;refine Array.ext (by simp) fun j j1 j2=>?_;rw[Array.getElem_setIfInBounds]
     ·split
      ·rename_i e
       subst e;rw[Array.getElem?_eq_getElem j2]at h;exact(Option.some.inj h).symm
      ·rfl
  ·cases h
 ·rfl
theorem uP(d:Nd):movN 0 d=d:=by
 cases d
 simp[movN]
def bT(a b:Tr):Tr:=⟨a.nodes++b.nodes.map (movN a.nodes.length),dZ 0 a.nodes a.nodes.length++dZ a.nodes.length b.nodes b.nodes.length⟩
theorem wF(v1 v2:TreeV)(t1 t2:Tr)(g c:Nat)(w:World)(bd1:Bd t1)(bd2:Bd t2)(rg1:Rg t1)(rg2:Rg t2)(hg:GV w)(h1:IsTree w v1 t1)(h2:IsTree w v2 t2)(k1:zJ t1=0)(k2:zJ t2=0)
 (c0:w.cell? ⟨g,0,none⟩=some (.slice v1.na t1.nodes.length v1.nc))(c1:w.cell? ⟨g,1,none⟩=some (.slice v1.ia t1.items.length v1.ic))(c2:w.cell? ⟨g,2,none⟩=some (.slice v2.na t2.nodes.length v2.nc))(c3:w.cell? ⟨g,3,none⟩=some (.slice v2.ia t2.items.length v2.ic)) :
 Calls prog 97 #[.slice (some ⟨g,0,none⟩) 2 c] w (dL w 0):=by
 have hgl:=World.block_lt_of_cell? w _ c0;simp only at hgl;have HG:=Hd hg;have H1:=Hd h1;have H2:=Hd h2;have K1:=Hd k1;have K2:=Hd k2;have C0:=Hd c0;have C1:=Hd c1;have C2:=Hd c2;have C3:=Hd c3;have B1:=Hd bd1;have B2:=Hd bd2;have R1:=Hd rg1;have R2:=Hd rg2;obtain⟨na1,nc1,ia1,ic1⟩:=v1;obtain⟨na2,nc2,ia2,ic2⟩:=v2;clear hg h1 h2 k1 k2 c0 c1 c2 c3 bd1 bd2 rg1 rg2;go_enter func97,ntmps97;go_wp2
 go_loopw [8] (fun t8 wr=>∃j:Nat,t8=.int .i64 j∧j≤2∧Hid (Below w.heap.size w wr)) (fun t8 _=>2-(intOf t8).toNat)
 case atStart=>exact⟨0,rfl,by omega,Hd brf⟩
 case round=>
  obtain⟨j,rfl,hj,HB⟩:=hrel;have hgw:g<wr.heap.size:=Nat.lt_of_lt_of_le hgl HB.out.size;by_cases h0:j=0
  ·subst h0
   have d0:=(HB.out.cell (p:=⟨g,0,none⟩) hgl).trans C0.out;have d1:=(HB.out.cell (p:=⟨g,1,none⟩) hgl).trans C1.out
   go_wp2_with (go_at_call 93;refine(jO ⟨na1,nc1,ia1,ic1⟩ t1 _ B1.out R1.out ((HG.out.mono HB.out nlr).mono ((Below.refl _ wr).alloc nlr _) nlr) ((H1.out.mono HB.out nlr).mono ((Below.refl _ wr).alloc nlr _) nlr)).mono ?_;rw[K1.out];rintro e w2 ⟨rfl,hb2⟩;have HB2:=Hd ((HB.out.alloc HB.out.size _).trans (hb2.mono (by have:=HB.out.size;simp;omega)));clear hb2)
   go_roundw
   case rel=>exact⟨1,by go_num,by omega,HB2⟩
   case measure=>simp[intOf]
  ·by_cases h1:j=1
   ·subst h1
    have d2:=(HB.out.cell (p:=⟨g,2,none⟩) hgl).trans C2.out;have d3:=(HB.out.cell (p:=⟨g,3,none⟩) hgl).trans C3.out
    go_wp2_with (go_at_call 93;refine(jO ⟨na2,nc2,ia2,ic2⟩ t2 _ B2.out R2.out ((HG.out.mono HB.out nlr).mono ((Below.refl _ wr).alloc nlr _) nlr) ((H2.out.mono HB.out nlr).mono ((Below.refl _ wr).alloc nlr _) nlr)).mono ?_;rw[K2.out];rintro e w2 ⟨rfl,hb2⟩;have HB2:=Hd ((HB.out.alloc HB.out.size _).trans (hb2.mono (by have:=HB.out.size;simp;omega)));clear hb2)
    go_roundw
    case rel=>exact⟨2,by go_num,by omega,HB2⟩
    case measure=>simp[intOf]
   ·obtain rfl:j=2:=by omega
    go_wp2;go_ret;exact⟨rfl,HB.out⟩
structure IsTreeX (W:World) (v:TreeV) (t:Tr) (N:Nat→Prop):Prop where
 xnod:∃ks:List (Option Addr×Nat),ks.length=t.nodes.length∧Row 5 W v.na t.nodes.length v.nc (zI t.nodes ks)∧(∀i (h:i<t.nodes.length) (k:i<ks.length),Row 1 W ks[i].1 t.nodes[i].kids.length ks[i].2 (zm t.nodes[i].kids))∧(0<t.nodes.length→∀x,v.na=some x→N x.block)∧∀i (h:i<t.nodes.length) (k:i<ks.length),0<t.nodes[i].kids.length→∀x,ks[i].1=some x→N x.block
 xitm:Ints W v.ia v.ic t.items
 xin:0<t.items.length→∀x,v.ia=some x→N x.block
theorem IsTreeX.tree{W:World}{v:TreeV}{t:Tr}{N:Nat→Prop}(h:IsTreeX W v t N):IsTree W v t:=by
 obtain⟨⟨ks,h1,h2,h3,-,-⟩,h4,-⟩:=h;exact⟨⟨ks,h1,h2,h3⟩,h4⟩
theorem gV{k:Nat}{W:World}{a:Option Addr}{n c:Nat}{xs:List Value}(h:Row k W a n c xs)(hn:0<n){x:Addr}(e:a=some x):x.block<W.heap.size:=by
 obtain⟨b,o,e2,hb,-⟩:=h.some hn;rw[e]at e2;cases e2
 exact hb
theorem pW{k:Nat}{W W':World}{a:Option Addr}{n c:Nat}{xs:List Value}(h:Row k W a n c xs)(hs:W.heap.size≤W'.heap.size)(hk:0<n→∀x,a=some x→W'.heap[x.block]?=W.heap[x.block]?):Row k W' a n c xs:=by
 obtain⟨h1,h2,h3,h4⟩:=h;refine⟨h1,h2,h3,?_⟩;rcases h4 with h4|⟨b,o,e,hlt,hc⟩
 ·exact .inl h4
 ·by_cases h0:0<n
  ·have hb:=hk h0 _ e
   exact .inr ⟨b,o,e,Nat.lt_of_lt_of_le hlt hs,fun i hi=>(World.cell?_of_block (a:=⟨b,o+i,none⟩) hb).trans (hc i hi)⟩
  ·exact .inl (by omega)
theorem IsTreeX.keep{W W':World}{v:TreeV}{t:Tr}{N N':Nat→Prop}(h:IsTreeX W v t N)(hs:W.heap.size≤W'.heap.size)(hk:∀i,i<W.heap.size→N i→W'.heap[i]?=W.heap[i]?∧N' i):IsTreeX W' v t N':=by
 obtain⟨⟨ks,h1,h2,h3,h5,h6⟩,h4,h7⟩:=h;refine⟨⟨ks,h1,pW h2 hs fun h0 x e=>(hk _ (gV h2 h0 e) (h5 h0 x e)).1,fun i hi k=>pW (h3 i hi k) hs fun h0 x e=>(hk _ (gV (h3 i hi k) h0 e) (h6 i hi k h0 x e)).1,fun h0 x e=>(hk _ (gV h2 h0 e) (h5 h0 x e)).2,fun i hi k h0 x e=>(hk _ (gV (h3 i hi k) h0 e) (h6 i hi k h0 x e)).2⟩,pW h4 hs fun h0 x e=>(hk _ (gV h4 h0 e) (h7 h0 x e)).1,fun h0 x e=>(hk _ (gV h4 h0 e) (h7 h0 x e)).2⟩
theorem OutW.tree{B g:Nat}{ns:List Nd}{its:List Int}{U I:Nat→Prop}{W:World}(h:OutW B g ns its U I W) :
 ∃v:TreeV,W.cell? ⟨g,0,none⟩=some (.slice v.na ns.length v.nc)∧W.cell? ⟨g,1,none⟩=some (.slice v.ia its.length v.ic)∧IsTreeX W v ⟨ns,its⟩ (fun i=>B≤i):=by
 have hmem:=h.mem;obtain⟨na,nc,ks,c0,hN,u1,u2⟩:=h.nodes;obtain⟨ia,ic,c1,hI,i1⟩:=h.items;refine⟨⟨na,nc,ia,ic⟩,c0,c1,⟨ks,hN.len,?_,fun i hi k=>(hN.kids i hi k).1,fun _ x e=>(hmem _ (.inl (u1 _ ⟨x,e,rfl⟩))).1,fun i hi k h0 x e=>(hmem _ (.inl (u2 i hi k h0 x e))).1⟩,zU hI,fun _ x e=>(hmem _ (.inr (i1 _ ⟨x,e,rfl⟩))).1⟩;obtain⟨a',c',e,hr⟩:=bK hN.own;simp at e;obtain⟨rfl,rfl⟩:=e;exact hr
theorem MK{a b:Tr}(ha:Bd a)(hb:Bd b)(hn:a.nodes.length+b.nodes.length≤800)(hi:(bT a b).items.length≤60):Bd (bT a b):=by
 refine⟨by simp[bT];omega,by omega,fun d hd=>?_,fun d hd=>?_⟩
 ·rcases List.mem_append.1 hd with h|h
  ·exact ha.k d h
  ·obtain⟨x,hx,rfl⟩:=List.mem_map.1 h
   have:=hb.k x hx;simpa[movN]using this
 ·rcases List.mem_append.1 hd with h|h
  ·exact ha.s d h
  ·obtain⟨x,hx,rfl⟩:=List.mem_map.1 h
   exact hb.s x hx
theorem xY{t:Tr}(wf:WF t):∀d∈t.nodes,∀y∈d.kids,-1000000000≤y∧y≤1000000000:=fun d hd y hy=>by
 obtain⟨i,hi,rfl⟩:=List.getElem_of_mem hd;have:=wf.kid i hi y hy;have:=wf.bd.n;omega
theorem vM(w:World)(A B C:Obj):((((w.alloc A).alloc B).alloc C).heap[w.heap.size]?=some A∧(((w.alloc A).alloc B).alloc C).heap[w.heap.size+1]?=some B∧(((w.alloc A).alloc B).alloc C).heap[w.heap.size+1+1]?=some C):=by
 have s1:(w.alloc A).heap.size=w.heap.size+1:=by simp
 have s2:((w.alloc A).alloc B).heap.size=w.heap.size+1+1:=by simp
 refine⟨?_,?_,?_⟩
 ·exact((((Below.refl (w.heap.size+1) (w.alloc A)).alloc (by omega) B).alloc (by omega) C).block w.heap.size (by omega)).trans (World.alloc_heap_new w A)
 ·have:=World.alloc_heap_new (w.alloc A) B
  rw[s1]at this;exact(((Below.refl (w.heap.size+1+1) ((w.alloc A).alloc B)).alloc (by omega) C).block (w.heap.size+1) (by omega)).trans this
 ·have:=World.alloc_heap_new ((w.alloc A).alloc B) C
  rwa[s2]at this
theorem CG(va vb:TreeV)(a b:Tr)(w:World)(bda:Bd a)(bdb:Bd b)(rga:Rg a)(rgb:Rg b)(hg:GV w)(ha:IsTree w va a)(hb:IsTree w vb b)(ka:zJ a=0)(kb:zJ b=0)(hn:a.nodes.length+b.nodes.length≤800)(hi:(bT a b).items.length≤60) :
 Calls prog 49 #[va.val a,vb.val b] w fun e w'=>∃v:TreeV,e=.returned (.tuple #[v.val (bT a b),intV 0])∧IsTreeX w' v (bT a b) (fun i=>w.heap.size≤i)∧Below w.heap.size w w':=by
 have hmo:prog.follows .mixedOrders=true:=by kernel_rfl
 have hbdj:=MK bda bdb hn hi;have hwa:=aT bda ka;have hwb:=aT bdb kb;have HA:=Hd ha;have HB:=Hd hb;have HG:=Hd hg;have KA:=Hd ka;have KB_:=Hd kb;have BA:=Hd bda;have BB:=Hd bdb;have RA:=Hd rga;have RB:=Hd rgb;have BJ:=Hd hbdj;have WA:=Hd hwa;have WB:=Hd hwb;have HN:=Hd hn;have HI:=Hd hi;obtain⟨na,nc,ia,ic⟩:=va;obtain⟨nb,mc,ib,jc⟩:=vb;unfold TreeV.val;clear ha hb hg ka kb bda bdb rga rgb hbdj hwa hwb hi;go_enter func49,ntmps49
 go_upto_region 1 with fail
 obtain⟨W0,hW0⟩:∃W0,((w.alloc (.cells #[.slice na a.nodes.length nc,.slice ia a.items.length ic] 25)).alloc (.cells #[.slice nb b.nodes.length mc,.slice ib b.items.length jc] 25)).alloc (.cells #[.slice none 0 0,.slice none 0 0] 25)=W0:=⟨_,rfl⟩
 rw[hW0];have hs0:W0.heap.size=w.heap.size+1+1+1:=by rw[←hW0];simp
 have hbw0:Below w.heap.size w W0:=by rw[←hW0];exact(((Below.refl _ w).alloc nlr _).alloc (by simp) _).alloc (by simp;omega) _
 have h3:=vM w (.cells #[.slice na a.nodes.length nc,.slice ia a.items.length ic] 25) (.cells #[.slice nb b.nodes.length mc,.slice ib b.items.length jc] 25) (.cells #[.slice none 0 0,.slice none 0 0] 25);rw[hW0]at h3;obtain⟨hkA,hkB,hkC⟩:=h3;have a0:=za (i:=0) (v:=.slice na a.nodes.length nc) hkA rfl;have a1:=za (i:=1) (v:=.slice ia a.items.length ic) hkA rfl;have b0:=za (i:=0) (v:=.slice nb b.nodes.length mc) hkB rfl;have b1:=za (i:=1) (v:=.slice ib b.items.length jc) hkB rfl;have z0:=za (i:=0) (v:=.slice none 0 0) hkC rfl;have z1:=za (i:=1) (v:=.slice none 0 0) hkC rfl;have y0:=zl (i:=0) hkC;have y1:=zl (i:=1) hkC;clear hkA hkB hkC;have HO0:=Hd (OutW.new (B:=w.heap.size+1+1+1) z0 z1 y0 y1 (by omega) (by omega));have l0:w.heap.size<W0.heap.size:=by omega
 have l1:w.heap.size+1<W0.heap.size:=by omega
 have HS0:=Hd hs0;have HBW0:=Hd hbw0;have A0:=Hd a0;have A1:=Hd a1;have B0:=Hd b0;have B1:=Hd b1;clear hW0 z0 z1 y0 y1 hbw0 hs0
 go_upto_region 4 with(first
  | (go_at_call 97
     go_loud (refine(wF ⟨na,nc,ia,ic⟩ ⟨nb,mc,ib,jc⟩ a b W0.heap.size 2 _ BA.out BB.out RA.out RB.out (HG.out.mono (HBW0.out.alloc HBW0.out.size _) nlr) (HA.out.mono (HBW0.out.alloc HBW0.out.size _) nlr) (HB.out.mono (HBW0.out.alloc HBW0.out.size _) nlr) KA.out KB_.out (bP rfl) (bP rfl) (bP rfl) (bP rfl)).mono ?_)
     rintro e w1⟨rfl,hb1⟩;have hb01:Below W0.heap.size W0 w1:=((Below.refl _ W0).alloc nlr _).trans (hb1.mono (by simp));have c0:=(hb01.cell (p:=⟨w.heap.size,0,none⟩) l0).trans A0.out;have c1:=(hb01.cell (p:=⟨w.heap.size,1,none⟩) l0).trans A1.out;have d0:=(hb01.cell (p:=⟨w.heap.size+1,0,none⟩) l1).trans B0.out;have d1:=(hb01.cell (p:=⟨w.heap.size+1,1,none⟩) l1).trans B1.out;have HB01:=Hd hb01
     clear hb1 hb01 a0 a1 b0 b1))
 have l01:=HB01.out.size;have m0:w.heap.size<w1.heap.size:=by omega
 have m1:w.heap.size+1<w1.heap.size:=by omega
 go_wp2;clear c0 c1 d0 d1;obtain⟨X1,hX1⟩:∃X1,w1.alloc (.cells #[.slice na a.nodes.length nc,.slice ia a.items.length ic,.slice nb b.nodes.length mc,.slice ib b.items.length jc] 25)=X1:=⟨_,rfl⟩
 rw[hX1];have hbx:Below w1.heap.size w1 X1:=by rw[←hX1];exact(Below.refl _ w1).alloc nlr _
 have e0:X1.cell? ⟨w1.heap.size,0,none⟩=some (.slice na a.nodes.length nc):=by rw[←hX1];exact bP rfl
 have e1:X1.cell? ⟨w1.heap.size,1,none⟩=some (.slice ia a.items.length ic):=by rw[←hX1];exact bP rfl
 have e2:X1.cell? ⟨w1.heap.size,2,none⟩=some (.slice nb b.nodes.length mc):=by rw[←hX1];exact bP rfl
 have e3:X1.cell? ⟨w1.heap.size,3,none⟩=some (.slice ib b.items.length jc):=by rw[←hX1];exact bP rfl
 have hX1s:w1.heap.size<X1.heap.size:=by rw[←hX1];simp
 have E0:=Hd e0;have E1:=Hd e1;have E2:=Hd e2;have E3:=Hd e3;have HBX:=Hd (HB01.out.trans (hbx.mono HB01.out.size));have HOX:=Hd (HO0.out.step HBX.out);clear hX1 hbx e0 e1 e2 e3 m0 m1 l0 l1
 go_loopw [21] (fun t21 wr=>∃(j:Nat) (ns:List Nd) (its:List Int) (U I:Nat→Prop),t21=.int .i64 j∧j≤2∧Hid (OutW (w.heap.size+1+1+1) (w.heap.size+1+1) ns its U I wr)∧Hid (j=0→ns=[]∧its=[])∧Hid (j=1→ns=a.nodes∧its=dZ 0 a.nodes a.nodes.length)∧Hid (j=2→ns=(bT a b).nodes∧its=(bT a b).items) ∧
  Hid (Turns (fun i=>i=w.heap.size+1+1∨X1.heap.size≤i) X1 wr)∧Hid (∀i,U i∨I i→X1.heap.size≤i)) (fun t21 _=>2-(intOf t21).toNat)
 case atStart=>exact⟨0,[],[],_,_,rfl,by omega,HOX,Hd (fun _=>⟨rfl,rfl⟩),Hd (fun h=>by omega),Hd (fun h=>by omega),Hd (Turns.refl _ _),Hd (fun i h=>h.elim False.elim False.elim)⟩
 case round=>
  obtain⟨j,ns,its,U,I,rfl,hj,HO,HZ,HY1,HY2,HT,HU⟩:=hrel;have hwr:=HT.out.size;have hbX:Below w.heap.size w X1:=HBW0.out.trans (HBX.out.mono HBW0.out.size)
  have hbr:=hbX.trans (HT.out.below (B:=w.heap.size) (fun i h=>by
   rcases h with h|h
   ·omega
   ·have:=hbX.size;omega) hbX.size)
  have HBR:=Hd hbr;have hne:w1.heap.size≠w.heap.size+1+1:=by have:=HS0.out;omega
  by_cases h0:j=0
  ·subst h0
   obtain⟨rfl,rfl⟩:=HZ.out rfl;have f0:=(HT.out.cell (b:=w1.heap.size) (o:=0) hX1s (by rintro(h|h)<;>omega)).trans E0.out;have f1:=(HT.out.cell (b:=w1.heap.size) (o:=1) hX1s (by rintro(h|h)<;>omega)).trans E1.out
   go_wp2_with (first
    | (go_at_call 96
       refine(kK w _ (w.heap.size+1+1) (w.heap.size+1+1+1) [] [] U I a.nodes na nc 0 HA.out.nodes (by omega) (HBR.out.alloc HBR.out.size _) (HO.out.step ((Below.refl _ wr).alloc nlr _)) BA.out.n (by simp;try omega) (by simp;try omega) BA.out.k (xY WA.out) (by omega)).mono ?_;rintro e w2⟨⟨v,rfl⟩,U2,I2,ho2,ht2,hu2⟩;simp only[List.length_nil,Int.natCast_zero,Int.sub_zero,List.nil_append]at ho2;rw[show a.nodes.map (movN 0)=a.nodes from by simp[funext uP]]at ho2;have HO2:=Hd ho2
       have HT2:=Hd ((HT.out.trans (Turns.alloc _ wr (.cells #[.slice na a.nodes.length nc,.slice ia a.items.length ic] 25))).trans (ht2.mono (fun i _ h=>by
        rcases h with h|h|h
        ·exact .inl h
        ·exact .inr (HU.out i (.inl h))
        ·exact .inr (HU.out i (.inr h)))))
       have HU2:=Hd (show ∀i,U2 i∨I2 i→X1.heap.size≤i from fun i h=>by
        rcases hu2 i h with h|h
        ·exact HU.out i h
        ·have h2:wr.heap.size+1≤i:=by simpa using h
         omega)
       clear ho2 ht2 hu2))
   go_roundw
   case rel=>exact⟨1,_,_,U2,I2,by go_num,by omega,HO2,Hd (fun h=>by omega),Hd (fun _=>⟨rfl,rfl⟩),Hd (fun h=>by omega),HT2,HU2⟩
   case measure=>simp[intOf]
  ·by_cases h1:j=1
   ·subst h1
    obtain⟨rfl,rfl⟩:=HY1.out rfl;have f0:=(HT.out.cell (b:=w1.heap.size) (o:=2) hX1s (by rintro(h|h)<;>omega)).trans E2.out;have f1:=(HT.out.cell (b:=w1.heap.size) (o:=3) hX1s (by rintro(h|h)<;>omega)).trans E3.out;have hil:=mY 0 a.nodes a.nodes.length
    go_wp2_with (first
     | (go_at_call 96
        refine(kK w _ (w.heap.size+1+1) (w.heap.size+1+1+1) a.nodes (dZ 0 a.nodes a.nodes.length) U I b.nodes nb mc 0 HB.out.nodes (by omega) (HBR.out.alloc HBR.out.size _) (HO.out.step ((Below.refl _ wr).alloc nlr _)) BB.out.n (by omega) (by omega) BB.out.k (xY WB.out) (by omega)).mono ?_;rintro e w2⟨⟨v,rfl⟩,U2,I2,ho2,ht2,hu2⟩;rw[Int.sub_zero]at ho2;have HO2:=Hd ho2
        have HT2:=Hd ((HT.out.trans (Turns.alloc _ wr (.cells #[.slice nb b.nodes.length mc,.slice ib b.items.length jc] 25))).trans (ht2.mono (fun i _ h=>by
         rcases h with h|h|h
         ·exact .inl h
         ·exact .inr (HU.out i (.inl h))
         ·exact .inr (HU.out i (.inr h)))))
        have HU2:=Hd (show ∀i,U2 i∨I2 i→X1.heap.size≤i from fun i h=>by
         rcases hu2 i h with h|h
         ·exact HU.out i h
         ·have h2:wr.heap.size+1≤i:=by simpa using h
          omega)
        clear ho2 ht2 hu2))
    go_roundw
    case rel=>exact⟨2,_,_,U2,I2,by go_num,by omega,HO2,Hd (fun h=>by omega),Hd (fun h=>by omega),Hd (fun _=>⟨rfl,rfl⟩),HT2,HU2⟩
    case measure=>simp[intOf]
   ·obtain rfl:j=2:=by omega
    obtain⟨rfl,rfl⟩:=HY2.out rfl;obtain⟨⟨va,vc,vi,vj⟩,r0,r1,hvt⟩:=HO.out.tree;have hgr:w.heap.size+1+1<wr.heap.size:=by have:=HO.out.sz;omega
    have hfr0:=HO.out.f0;have hfr1:=HO.out.f1;have HVT:=Hd hvt;clear hvt;simp only at r0 r1;have HPL:Hid (∀W,Calls prog 98 #[.agg #[.slice va (bT a b).nodes.length vc,.slice vi (bT a b).items.length vj]] W (zq W (decide (800<(bT a b).nodes.length∨60<(bT a b).items.length)))):=Hd (fun W=>fF ⟨va,vc,vi,vj⟩ (bT a b) W BJ.out);have HLM:Hid (decide (800<(bT a b).nodes.length∨60<(bT a b).items.length)=false):=Hd (decide_eq_false (by have:=BJ.out.n;have:=HI.out;have h9:=HN.out;simp only[bT,List.length_append,List.length_map]at *;omega))
    go_wp2_with (first
     | (go_at_call 98
        refine(HPL.out _).mono ?_;rw[HLM.out];rintro e w2⟨rfl,hb2⟩;have q0:=(hb2.cell (p:=⟨w.heap.size+1+1,0,none⟩) hgr).trans r0;have q1:=(hb2.cell (p:=⟨w.heap.size+1+1,1,none⟩) hgr).trans r1;have fz0:=(hb2.frozen (p:=⟨w.heap.size+1+1,0,none⟩) hgr).trans hfr0;have fz1:=(hb2.frozen (p:=⟨w.heap.size+1+1,1,none⟩) hgr).trans hfr1;have HBF:=Hd (HBR.out.trans (hb2.mono HBR.out.size));have HVF:=Hd (HVT.out.keep (N':=fun i=>w.heap.size≤i) hb2.size (fun i hi hN=>⟨hb2.block i hi,by have h7:w.heap.size+1+1+1≤i:=hN;omega⟩))
        clear hb2))
    have hst:(w2.setCell ⟨w.heap.size+1+1,0,none⟩ (.slice va (bT a b).nodes.length vc)).setCell ⟨w.heap.size+1+1,1,none⟩ (.slice vi (bT a b).items.length vj)=w2:=by rw[iJ q0,iJ q1]
    rw[hst];refine bodyPost_ret (v:=.tuple #[.agg #[.slice va (bT a b).nodes.length vc,.slice vi (bT a b).items.length vj],intV 0]) (by simp[results,results49,go_sem,loadVar,q0,q1,Result.andThen]) rfl ⟨⟨va,vc,vi,vj⟩,rfl,HVF.out,HBF.out⟩
theorem GC:prog.underlying 22=some (.slice (prog.elem 22)):=by kernel_rfl
theorem BY:∀W,(sizeOf (prog.elem 22)).run prog W=.ok 5 W:=fun W=>by kernel_rfl
theorem oL:∀(lo:Nat) (ns:List Nd) (ks:List (Option Addr×Nat)),ks.length=ns.length→(zI ns ks).drop (lo*5)=zI (ns.drop lo) (ks.drop lo)
 |0,_,_,_=>by simp
 |lo+1,[],[],_=>by simp[zI]
 | lo+1,d::ns,k::ks,h=>by
   rw[zI,show(lo+1)*5=(d.cells k).length+lo*5 by simp[Nd.cells];omega,List.drop_append];simp only[List.drop_succ_cons];rw[←oL lo ns ks (by simpa using h)];simp
 |_+1,[],_::_,h=>by simp at h
 |_+1,_::_,[],h=>by simp at h
theorem oP:∀(m:Nat) (ns:List Nd) (ks:List (Option Addr×Nat)),ks.length=ns.length→(zI ns ks).take (m*5)=zI (ns.take m) (ks.take m)
 |0,_,_,_=>by simp[zI]
 |m+1,[],[],_=>by simp[zI]
 | m+1,d::ns,k::ks,h=>by
   rw[zI,show(m+1)*5=(d.cells k).length+m*5 by simp[Nd.cells];omega,List.take_append];simp only[List.take_succ_cons,zI];rw[←oP m ns ks (by simpa using h),List.take_of_length_le (by omega)];simp
 |_+1,[],_::_,h=>by simp at h
 |_+1,_::_,[],h=>by simp at h
theorem xH{w:World}{a:Option Addr}{c:Nat}{ns:List Nd}(h:Nodes w a c ns){lo hi:Nat}(h1:lo≤hi)(h2:hi≤ns.length) :
 ∃a' c',(∀W:World,(Instr.slice 22 (.slice a ns.length c) (some (.int .i64 lo)) (some (.int .i64 hi)) none).run prog W=.ok (.slice a' (hi-lo) c') W)∧Nodes w a' c' ((ns.drop lo).take (hi-lo)):=by
 obtain⟨ks,hk,hr,hks⟩:=h;obtain⟨a',c',hrun,hrow⟩:=KV (P:=prog) hr GC BY (lo:Int) (hi:Int) (by omega) (by omega) (by omega);refine⟨a',c',by simpa using hrun,(ks.drop lo).take (hi-lo),by simp[hk],?_,fun i h1 h2=>?_⟩
 ·simp only[Int.toNat_natCast]at hrow
  rw[oL _ _ _ hk,oP _ _ _ (by simp[hk])]at hrow;have hl:((ns.drop lo).take (hi-lo)).length=hi-lo:=by simp;omega
  rw[hl];exact hrow
 ·have g1:lo+i<ns.length:=by simp at h1;omega
  have:=hks (lo+i) g1 (by omega);simpa using this
def aI(t:Tr)(i:Nat):Nat:=(t.items.getD i 0).toNat
def aC(t:Tr)(S:List Int)(i:Nat):Nat:=aI t i+1-(S.getD (aI t i) 0).toNat
def kN(t:Tr)(S:List Int)(i:Nat):List Nd:=(t.nodes.drop (aC t S i)).take (aI t i+1-aC t S i)
def cutT(t:Tr)(S:List Int)(i:Nat):Tr:=⟨(kN t S i).map (movN (-(aC t S i:Int))),dZ 0 (kN t S i) (kN t S i).length⟩
theorem MY(w:World)(A B:Obj):((w.alloc A).alloc B).heap[w.heap.size]?=some A∧((w.alloc A).alloc B).heap[w.heap.size+1]?=some B:=by
 have s1:(w.alloc A).heap.size=w.heap.size+1:=by simp
 refine⟨?_,?_⟩
 ·exact(((Below.refl (w.heap.size+1) (w.alloc A)).alloc (by omega) B).block w.heap.size (by omega)).trans (World.alloc_heap_new w A)
 ·have:=World.alloc_heap_new (w.alloc A) B
  rwa[s1]at this
theorem WorkW.base{w0 w1 w:World}{g ga gb:Nat}{v:TreeV}{t:Tr}{A B:List Int}(h:WorkW w1 g ga gb v t A B w)(hb:Below w0.heap.size w0 w1):WorkW w0 g ga gb v t A B w:=
 ⟨h.hg,h.ha,h.hb,h.la,h.lb,h.ab,h.ag,h.bg,⟨Nat.le_trans hb.size h.low.1,Nat.le_trans hb.size h.low.2.1,Nat.le_trans hb.size h.low.2.2⟩,hb.trans (h.below.mono hb.size)⟩
theorem GW(v:TreeV)(t:Tr)(S:List Int)(i:Nat)(w:World)(bd:Bd t)(rg:Rg t)(hg:GV w)(h:IsTree w v t)(k:zJ t=0)(P:Placed t S)(hi:i<t.items.length) :
 Calls prog 48 #[v.val t,intV i] w fun e w'=>∃u:TreeV,e=.returned (.tuple #[u.val (cutT t S i),intV 0])∧IsTreeX w' u (cutT t S i) (fun i=>w.heap.size≤i)∧Below w.heap.size w w':=by
 have hmo:prog.follows .mixedOrders=true:=by kernel_rfl
 have wf:=aT bd k;have hlast:=wf.item _ (List.getElem_mem hi);have hit:=bd.i;have hnl:=bd.n
 have heL:t.items[i]=(aI t i:Int):=by
  unfold aI;rw[List.getD_eq_getElem?_getD,List.getElem?_eq_getElem hi,Option.getD_some];omega
 rw[heL]at hlast;have hSb:=P.bd (aI t i) (by omega);obtain⟨L,hL⟩:∃L,aI t i=L:=⟨_,rfl⟩
 obtain⟨F,hF⟩:∃F,aC t S i=F:=⟨_,rfl⟩
 have hFS:S.getD L 0=(L:Int)+1-F:=by rw[←hF];unfold aC;rw[hL]at hSb⊢;omega
 rw[hL]at hlast hSb heL;have hFL:F≤L:=by omega
 have hLn:L<t.nodes.length:=by omega
 have hcx:kN t S i=(t.nodes.drop F).take (L+1-F):=by unfold kN;rw[hF,hL]
 obtain⟨na,nc,ia,ic⟩:=v;obtain⟨bI,oI,rfl,hbI,hcI⟩:=Ints.at h.items hi;rw[heL]at hcI;obtain⟨xa,xc,hsl,hxn⟩:=xH h.nodes (lo:=F) (hi:=L+1) (by omega) (by omega);rw[←hcx]at hxn;have hxl:(kN t S i).length=L+1-F:=by rw[hcx];simp;omega
 have hxd:∀d∈kN t S i,d∈t.nodes:=fun d hd=>by rw[hcx]at hd;exact List.mem_of_mem_drop (List.mem_of_mem_take hd)
 have HT:=Hd h;have HG:=Hd hg;have HK:=Hd k;have BD:=Hd bd;have RG:=Hd rg;have WFH:=Hd wf;have HP:=Hd P;have HXN:=Hd hxn;have HXL:=Hd hxl;have HXD:=Hd hxd;have HFS:=Hd hFS;have HFE:=Hd hF;simp only[←hxl,Int.natCast_add,Int.natCast_one]at hsl;have HSL:=Hd hsl;have HIR:Hid (zv (i:Int) 0 ((t.items.length:Int)-1)=true):=Hd (inRange_iff.2 ⟨by omega,by omega⟩);have HCI:=Hd hcI;have hFi:(F:Int)≤L:=by omega
 clear h hg k bd rg wf P hxn hxl hxd hFS hF hsl hcI hcx hSb heL hL hlast;unfold TreeV.val;go_enter func48,ntmps48
 go_upto_region 1 with fail
 obtain⟨W0,hW0⟩:∃W0,(w.alloc (.cells #[.slice na t.nodes.length nc,.slice (some ⟨bI,oI,none⟩) t.items.length ic] 25)).alloc (.cells #[.slice none 0 0,.slice none 0 0] 25)=W0:=⟨_,rfl⟩
 rw[hW0];have hs0:W0.heap.size=w.heap.size+1+1:=by rw[←hW0];simp
 have hbw0:Below w.heap.size w W0:=by rw[←hW0];exact((Below.refl _ w).alloc nlr _).alloc (by simp) _
 have h3:=MY w (.cells #[.slice na t.nodes.length nc,.slice (some ⟨bI,oI,none⟩) t.items.length ic] 25) (.cells #[.slice none 0 0,.slice none 0 0] 25);rw[hW0]at h3;obtain⟨hkA,hkC⟩:=h3;have a0:=za (i:=0) (v:=.slice na t.nodes.length nc) hkA rfl;have a1:=za (i:=1) (v:=.slice (some ⟨bI,oI,none⟩) t.items.length ic) hkA rfl;have z0:=za (i:=0) (v:=.slice none 0 0) hkC rfl;have z1:=za (i:=1) (v:=.slice none 0 0) hkC rfl;have y0:=zl (i:=0) hkC;have y1:=zl (i:=1) hkC;clear hkA hkC;have HO0:=Hd (OutW.new (B:=w.heap.size+1+1) z0 z1 y0 y1 (by omega) (by omega));have l0:w.heap.size<W0.heap.size:=by omega
 have HS0:=Hd hs0;have HBW0:=Hd hbw0;have A0:=Hd a0;have A1:=Hd a1;clear hW0 z0 z1 y0 y1 hbw0 hs0
 go_upto_region 6 with(first
  | (go_at_call 93
     refine(jO ⟨na,nc,some ⟨bI,oI,none⟩,ic⟩ t _ BD.out RG.out (HG.out.mono HBW0.out nlr) (HT.out.mono HBW0.out nlr)).mono ?_;rw[HK.out];rintro e w1⟨rfl,hb1⟩;have c0:=(hb1.cell (p:=⟨w.heap.size,0,none⟩) l0).trans A0.out;have c1:=(hb1.cell (p:=⟨w.heap.size,1,none⟩) l0).trans A1.out;have HB1:=Hd hb1
     clear hb1 a0 a1)
  | (go_at_call 94
     refine(zu (i:Int) 0 ((t.items.length:Int)-1) _).mono ?_;rw[HIR.out]
     rintro e w'⟨rfl,rfl⟩))
 have hs1:=HB1.out.size;have l1:w.heap.size<w1.heap.size:=by omega
 have lI:bI<w1.heap.size:=by have:=HBW0.out.size;omega
 have hbw1:=HBW0.out.trans (HB1.out.mono HBW0.out.size);have ci:=(hbw1.cell (p:=⟨bI,oI+i,none⟩) hbI).trans HCI.out;have HBW1:=Hd hbw1;clear hbw1;refine N.region_M 7 hmo (by kernel_rfl) (by kernel_rfl) rfl (by kernel_rfl) (by kernel_rfl) (fun _ _=>False) N.Pans.no (fun Wz=>Below (w1).heap.size (w1) Wz) (fun Wy Wz=>Below Wy.heap.size Wy Wz) (brf.drew) [.fix ?vG1_0,.fix ?vG1_1,.fix ?vG1_2,.fix ?vG1_3,.fix ?vG1_4,.fix ?vG1_5,.dep [] (fun _ v W=>∃(g ga gb:Nat) (A B:List Int),v=.pointer (some ⟨g,0,none⟩)∧WorkW w1 g ga gb ⟨na,nc,some ⟨bI,oI,none⟩,ic⟩ t A B W∧∀j:Nat,j<t.nodes.length→A.getD j 0=S.getD j 0)] [[],[],[],[],[],[],[]] rfl (by kernel_rfl) (N.sts_kd ⟨trivial,trivial,trivial,trivial,trivial,trivial,(fun _ _ _ _ hk h=>by obtain⟨g,ga,gb,A,B,h1,h2,h3⟩:=h;exact⟨g,ga,gb,A,B,h1,h2.step hk,h3⟩),trivial⟩) fun x=>?_;rotate_left 6
 iterate 6 (refine N.WalkM.fix ?_ ?_;refine N.StepS.known rfl (fun _=>brf) ?_;intro W hJ hP;obtain⟨hcJ,hfJ⟩:=bcell hJ;go_simp;rfl;simp only[N.pz])
 refine N.WalkM.dep ?sG1_6 ?rG1_6;case sG1_6=>(refine N.StepS.call' (f:=95) (args:=#[.agg #[.slice na t.nodes.length nc,.slice (some ⟨bI,oI,none⟩) t.items.length ic]]) rfl ?_ ?_;(intro W hJ hP;obtain⟨hcJ,hfJ⟩:=bcell hJ;(go_simp;try rfl));(intro W hJ hP;refine(tO ⟨na,nc,some ⟨bI,oI,none⟩,ic⟩ t S W BD.out HP.out (HT.out.mono (HBW1.out.trans (hJ.mono HBW1.out.size)) nlr)).mono ?_;rintro e w' ⟨g,ga,gb,A,B,rfl,hW,hA⟩;exact⟨_,rfl,hJ.trans (hW.below.mono hJ.size),hW.below,⟨g,ga,gb,A,B,rfl,hW.base hJ,hA⟩⟩))
 simp only[N.pz];refine N.WalkM.nil fun W hJ hH=>?_;obtain⟨g,ga,gb,A,B,h6,hW6,hA6⟩:∃(g ga gb:Nat) (A B:List Int),x 6=.pointer (some ⟨g,0,none⟩)∧WorkW w1 g ga gb ⟨na,nc,some ⟨bI,oI,none⟩,ic⟩ t A B W∧∀j:Nat,j<t.nodes.length→A.getD j 0=S.getD j 0:=hH 6;generalize x 6=y6 at *;subst h6;have q2:=za (i:=2) (v:=.slice (some ⟨ga,0,none⟩) t.nodes.length t.nodes.length) hW6.hg rfl;have qL:=eN hW6.ha (i:=L) (by rw[hW6.la];exact hLn);rw[hA6 L hLn,HFS.out]at qL;have r0:=(hJ.cell (p:=⟨w.heap.size,0,none⟩) l1).trans c0;have hwr:(L:Int)-((L:Int)+1-F)+1=F:=by omega
 have hwr2:IntKind.i64.wrap ((L:Int)-((L:Int)+1-F))=(L:Int)-((L:Int)+1-F):=IntWalk.i64_in _ (by omega);have hsl:=HSL.out;have HJW:=Hd hJ;have HOW:=Hd ((HO0.out.step HB1.out).step (hJ.mono nlr));have HBW:=Hd (HBW1.out.trans (hJ.mono HBW1.out.size));clear hJ hH hW6 hA6 c0 c1 ci
 go_wp2_with (first
  | (go_at_call 96
     go_loud (refine(kK w _ (w.heap.size+1) (w.heap.size+1+1) [] [] _ _ (kN t S i) xa xc F HXN.out (by omega) HBW.out HOW.out (by rw[HXL.out];omega) (by simp) (by simp) (fun d hd=>BD.out.k d (HXD.out d hd)) (fun d hd=>xY WFH.out d (HXD.out d hd)) (by omega)).mono ?_)
     rintro e w2⟨⟨v,rfl⟩,U2,I2,ho2,ht2,hu2⟩;simp only[List.length_nil,Int.natCast_zero,Int.zero_sub,List.nil_append]at ho2;rw[←HFE.out]at ho2;have HO2:Hid (OutW (w.heap.size+1+1) (w.heap.size+1) (cutT t S i).nodes (cutT t S i).items U2 I2 w2):=Hd ho2
     have HBF:=Hd (HBW.out.trans (ht2.below (B:=w.heap.size) (fun i h=>by
      rcases h with h|h|h
      ·omega
      ·exact h.elim
      ·exact h.elim) HBW.out.size))
     obtain⟨⟨va,vc,vi,vj⟩,q0,q1,hvt⟩:=HO2.out.tree;have hfr0:=HO2.out.f0;have hfr1:=HO2.out.f1;have HVT:=Hd (hvt.keep (N':=fun i=>w.heap.size≤i) nlr (fun i _ hN=>⟨rfl,by have h7:w.heap.size+1+1≤i:=hN;omega⟩));simp only at q0 q1
     clear ho2 ht2 hu2 hvt))
 have hst:(w2.setCell ⟨w.heap.size+1,0,none⟩ (.slice va (cutT t S i).nodes.length vc)).setCell ⟨w.heap.size+1,1,none⟩ (.slice vi (cutT t S i).items.length vj)=w2:=by rw[iJ q0,iJ q1]
 rw[hst];refine bodyPost_ret (v:=.tuple #[.agg #[.slice va (cutT t S i).nodes.length vc,.slice vi (cutT t S i).items.length vj],intV 0]) (by simp[results,results48,go_sem,loadVar,q0,q1,Result.andThen]) rfl ⟨⟨va,vc,vi,vj⟩,rfl,HVT.out,HBF.out⟩
end
section
open Go.RowKit
section
variable {t u : Tr} {S : List Int} {f : Nat → Nat}
theorem Good.blk(G:Good t S){i:Nat}(hi:i<t.items.length):t.items[i]=(aI t i:Int)∧aI t i<t.nodes.length∧aC t S i≤aI t i∧S.getD (aI t i) 0=(aI t i:Int)+1-aC t S i:=by
 obtain⟨-,-,h3,h4,-⟩:=G.item _ (List.getElem_mem hi)
 have e:t.items[i]=(aI t i:Int):=by
  unfold aI;rw[List.getD_eq_getElem?_getD,List.getElem?_eq_getElem hi,Option.getD_some];omega
 have hl:aI t i<t.nodes.length:=by omega
 have hb:=G.bd _ hl;refine⟨e,hl,?_,?_⟩<;>unfold aC<;>omega
theorem Good.inItem(G:Good t S){a b x:Int}(ha:a∈t.items)(hb:b∈t.items)(h1:stt S a<x)(h2:x≤a)(h3:stt S b<x)(h4:x≤b):a=b:=by
 obtain⟨i,hi,rfl⟩:=List.getElem_of_mem ha;obtain⟨j,hj,rfl⟩:=List.getElem_of_mem hb;have hp:=List.pairwise_iff_getElem.1 G.items;rcases Nat.lt_trichotomy i j with h|h|h
 ·have:=hp i j hi hj h;omega
 ·subst h;rfl
 ·have:=hp j i hj hi h;omega
theorem Good.inBlk(G:Good t S){i:Nat}(hi:i<t.items.length){x:Nat}(h1:aC t S i≤x)(h2:x≤aI t i) :
 S.getD x 0≤(x:Int)+1-aC t S i∧1≤S.getD x 0∧∀k∈(t.nd (x:Nat)).kids,(aC t S i:Int)≤k∧k<(x:Int):=by
 obtain⟨b1,b2,b3,b4⟩:=G.blk hi
 have hst:stt S (aI t i:Nat)=(aC t S i:Int)-1:=by
  have h0:stt S (aI t i:Nat)=(aI t i:Int)-S.getD (aI t i) 0:=by simp[stt]
  omega
 have hn:=G.nest (aI t i) (aI t i) x nlr b2 (by omega) h2;have hsx:stt S (x:Nat)=(x:Int)-S.getD x 0:=by simp[stt]
 have hx:x<t.nodes.length:=by omega
 refine⟨by omega,(G.bd x hx).1,fun k hk=>?_⟩;obtain⟨k1,k2,k3,k4⟩:=G.kid hx k hk;omega
theorem Good.itemOnly(G:Good t S){i:Nat}(hi:i<t.items.length){x:Nat}(h1:aC t S i≤x)(h2:x≤aI t i):cH (t.nd (x:Nat)).kind=decide (x=aI t i):=by
 obtain⟨b1,b2,b3,b4⟩:=G.blk hi;by_cases e:x=aI t i
 ·rw[e,decide_eq_true rfl,←b1]
  exact(G.item _ (List.getElem_mem hi)).2.2.2.2
 ·rw[decide_eq_false e]
  rcases G.kidOrItem (j:=x) (by omega)with h|⟨y,hy,hk⟩
  ·exfalso
   have hst:stt S (aI t i:Nat)=(aC t S i:Int)-1:=by
    have h0:stt S (aI t i:Nat)=(aI t i:Int)-S.getD (aI t i) 0:=by simp[stt]
    omega
   have hit:((aI t i:Nat):Int)∈t.items:=by rw[←b1];exact List.getElem_mem hi
   have h5:=G.item _ h;have:=G.inItem h hit (x:=(x:Int)) (by omega) (by omega) (by omega) (by omega);omega
  ·exact G.kidKind hy hk
theorem uJ(n:Nat)(xs ys:List Nd):dZ n (xs++ys) (xs++ys).length=dZ n xs xs.length++dZ (n+xs.length) ys ys.length:=by
 unfold dZ;rw[List.length_append,List.range_add,List.filter_append,List.map_append];congr 1
 ·congr 1
  refine List.filter_congr fun x hx=>?_;rw[List.getD_eq_getElem?_getD,List.getD_eq_getElem?_getD,List.getElem?_append_left (List.mem_range.1 hx)]
 ·rw[List.filter_map,List.map_map]
  have:((fun i=>cH ((xs++ys).getD i nd0).kind) ∘ fun x=>xs.length+x)=fun i=>cH (ys.getD i nd0).kind:=by
   funext x;simp only[Function.comp,List.getD_eq_getElem?_getD];rw[List.getElem?_append_right (by omega),Nat.add_sub_cancel_left]
  rw[this];refine List.map_congr_left fun x _=>?_;simp only[Function.comp];omega
theorem pH(n:Nat)(b:Int)(xs:List Nd):dZ n (xs.map (movN b)) (xs.map (movN b)).length=dZ n xs xs.length:=by
 unfold dZ;rw[List.length_map];congr 1;refine List.filter_congr fun x hx=>?_;have h:=List.mem_range.1 hx;rw[List.getD_eq_getElem?_getD,List.getD_eq_getElem?_getD,List.getElem?_map,List.getElem?_eq_getElem h];rfl
theorem iW(G:Good t S){i:Nat}(hi:i<t.items.length):(kN t S i).length=aI t i+1-aC t S i:=by
 obtain⟨b1,b2,b3,b4⟩:=G.blk hi;unfold kN;simp;omega
theorem oR(G:Good t S){i:Nat}(hi:i<t.items.length){r:Nat}(hr:r<aI t i+1-aC t S i):(kN t S i).getD r nd0=t.nd ((aC t S i+r:Nat):Int):=by
 obtain⟨b1,b2,b3,b4⟩:=G.blk hi;rw[kC (show aC t S i+r<t.nodes.length by omega)];unfold kN;rw[List.getD_eq_getElem?_getD,List.getElem?_take_of_lt (by omega),List.getElem?_drop,List.getElem?_eq_getElem (by omega),Option.getD_some]
theorem DW(G:Good t S){i:Nat}(hi:i<t.items.length)(n:Nat):dZ n (kN t S i) (kN t S i).length=[((n+(aI t i-aC t S i):Nat):Int)]:=by
 obtain⟨b1,b2,b3,b4⟩:=G.blk hi;have hl:=iW G hi;unfold dZ;rw[hl,show aI t i+1-aC t S i=(aI t i-aC t S i)+1 by omega,List.range_succ,List.filter_append,List.map_append]
 have h1:(List.range (aI t i-aC t S i)).filter (fun j=>cH ((kN t S i).getD j nd0).kind)=[]:=by
  rw[List.filter_eq_nil_iff];intro j hj;have:=List.mem_range.1 hj;rw[oR G hi (by omega),G.itemOnly hi (by omega) (by omega)];simp;omega
 rw[h1,List.filter_cons,if_pos]
 ·simp
 ·rw[oR G hi (by omega),G.itemOnly hi (by omega) (by omega)]
  simp;omega
end
end
section
open Go.RowKit
def iT(f:Nat→Nat)(n F:Nat)(m:Nat):Nat:=if m<n then f m else F+(m-n)
theorem qX{t t':Tr}{o o':List Int}{m:Nat}(h:∀j,j<m→o.getD j 0=o'.getD j 0∧(t.nd (j:Nat)).kind=(t'.nd (j:Nat)).kind)(hb:∀j,j<m→1≤o.getD j 0):∀(l:List Int) (p:Int),p<m→eatI t o l p=eatI t' o' l p
 | [],p,_=>rfl
 | k::l,p,hp=>by
   simp only[eatI];by_cases h0:p<0
   ·simp[h0]
   ·obtain⟨p,rfl⟩:=Int.eq_ofNat_of_zero_le (show 0≤p by omega)
    have hj:=h p (by omega);have h1:=hb p (by omega);have e:((p:Nat):Int).toNat=p:=by omega
    rw[e,←hj.1,←hj.2,qX h hb l _ (by omega)]
section
variable {t u : Tr} {S : List Int} {f : Nat → Nat}
theorem sH(G:Good t S){i:Nat}(hi:i<t.items.length):(bT u (cutT t S i)).nodes.length=u.nodes.length+(aI t i+1-aC t S i):=by
 simp[bT,cutT,iW G hi]
theorem JJ{m:Nat}(hm:m<u.nodes.length){b:Tr}:(bT u b).nd (m:Nat)=u.nd (m:Nat):=by
 unfold Tr.nd bT;simp only[Int.toNat_natCast];rw[List.getD_eq_getElem?_getD,List.getD_eq_getElem?_getD,List.getElem?_append_left hm]
theorem JH(G:Good t S){i:Nat}(hi:i<t.items.length){r:Nat}(hr:r<aI t i+1-aC t S i):(bT u (cutT t S i)).nd ((u.nodes.length+r:Nat):Int)=movN u.nodes.length (movN (-(aC t S i:Int)) (t.nd ((aC t S i+r:Nat):Int))):=by
 have hl:=iW G hi;rw[←oR G hi hr];unfold Tr.nd bT cutT;simp only[Int.toNat_natCast];rw[List.getD_eq_getElem?_getD,List.getElem?_append_right (by omega),Nat.add_sub_cancel_left,List.getElem?_map,List.getElem?_map,List.getD_eq_getElem?_getD,List.getElem?_eq_getElem (by omega)];rfl
theorem rE(G:Good t S){i:Nat}(hi:i<t.items.length)(hu:u.items=dZ 0 u.nodes u.nodes.length):(bT u (cutT t S i)).items=u.items++[((u.nodes.length+(aI t i-aC t S i):Nat):Int)]∧(bT u (cutT t S i)).items=dZ 0 (bT u (cutT t S i)).nodes (bT u (cutT t S i)).nodes.length:=by
 have h1:dZ u.nodes.length (cutT t S i).nodes (cutT t S i).nodes.length=[((u.nodes.length+(aI t i-aC t S i):Nat):Int)]:=by
  unfold cutT;rw[pH,DW G hi]
 refine⟨?_,?_⟩
 ·unfold bT
  rw[h1,←hu]
 ·unfold bT
  simp only;rw[uJ,pH,Nat.zero_add]
theorem Emb.epush(E:Emb t u S f)(G:Good t S){i:Nat}(hi:i<t.items.length)(hlt:∀m,m<u.nodes.length→f m<aC t S i)(hu:u.items=dZ 0 u.nodes u.nodes.length) :
 Emb t (bT u (cutT t S i)) S (iT f u.nodes.length (aC t S i)):=by
 obtain⟨b1,b2,b3,b4⟩:=G.blk hi;have hlen:=sH (u:=u) G hi;obtain⟨hits,-⟩:=rE G hi hu;have hnew:=fun r hr=>JH (u:=u) (r:=r) G hi hr;have hold:=fun m (hm:m<u.nodes.length)=>JJ (b:=cutT t S i) hm;have hin:=fun x h1 h2=>G.inBlk (x:=x) hi h1 h2;have hcov:=fun a b x=>G.inItem (a:=a) (b:=b) (x:=x);generalize bT u (cutT t S i)=u' at *;generalize hF:aC t S i=F at *;generalize hL:aI t i=L at *
 have hst:stt S (L:Nat)=(F:Int)-1:=by
  have h0:stt S (L:Nat)=(L:Int)-S.getD L 0:=by simp[stt]
  omega
 have fO:∀m,m<u.nodes.length→iT f u.nodes.length F m=f m:=fun m hm=>by unfold iT;rw[if_pos hm]
 have fN:∀r,iT f u.nodes.length F (u.nodes.length+r)=F+r:=fun r=>by unfold iT;rw[if_neg (by omega),Nat.add_sub_cancel_left]
 have hcase:∀m,m<u'.nodes.length→m<u.nodes.length∨∃r,r<L+1-F∧m=u.nodes.length+r:=fun m hm=>by
  rcases Nat.lt_or_ge m u.nodes.length with h|h
  ·exact .inl h
  ·exact .inr ⟨m-u.nodes.length,by omega,by omega⟩
 have kO:∀m,m<u.nodes.length→∀k∈(u.nd (m:Nat)).kids,mvI (iT f u.nodes.length F) k=mvI f k:=fun m hm k hk=>by
  have hr:=E.eKidR m hm k hk;obtain⟨k,rfl⟩:=Int.eq_ofNat_of_zero_le hr.1;rw[zL,zL,fO k (by omega)]
 refine⟨?_,?_,?_,?_,?_,?_,?_,?_,?_,?_,?_,?_,?_⟩
 ·intro m hm
  rcases hcase m hm with h|⟨r,hr,rfl⟩
  ·rw[fO m h];exact E.eLt m h
  ·rw[fN];omega
 ·intro a b hab hb
  rcases hcase b hb with h|⟨r,hr,rfl⟩
  ·rw[fO a (by omega),fO b h];exact E.eMono a b hab h
  ·rw[fN]
   rcases hcase a (by omega)with g|⟨q,hq,rfl⟩
   ·rw[fO a g];have:=hlt a g;omega
   ·rw[fN];omega
 ·intro m hm
  rcases hcase m hm with h|⟨r,hr,rfl⟩
  ·rw[hold m h,fO m h];exact E.eKind m h
  ·rw[hnew r hr,fN];rfl
 ·intro m hm
  rcases hcase m hm with h|⟨r,hr,rfl⟩
  ·rw[hold m h,fO m h];exact E.eText m h
  ·rw[hnew r hr,fN];rfl
 ·intro m hm
  rcases hcase m hm with h|⟨r,hr,rfl⟩
  ·rw[hold m h,fO m h];exact E.eNum m h
  ·rw[hnew r hr,fN];rfl
 ·intro m hm
  rcases hcase m hm with h|⟨r,hr,rfl⟩
  ·rw[hold m h,fO m h];exact E.ePos m h
  ·rw[hnew r hr,fN];rfl
 ·intro m hm
  rcases hcase m hm with h|⟨r,hr,rfl⟩
  ·rw[hold m h,fO m h,E.eKids m h]
   exact(List.map_congr_left fun k hk=>kO m h k hk).symm
  ·rw[hnew r hr,fN]
   simp only[movN,List.map_map]
   conv=>lhs;rw[←List.map_id (t.nd ((F+r:Nat):Int)).kids]
   refine List.map_congr_left fun k hk=>?_;have h3:=(hin (F+r) (by omega) (by omega)).2.2 k hk;obtain⟨q,hq⟩:=Int.eq_ofNat_of_zero_le (show 0≤k-F by omega);simp only[Function.comp,id];rw[show k + -(F:Int)+(u.nodes.length:Int)=((u.nodes.length+q:Nat):Int) by omega,zL,fN];omega
 ·intro m hm k hk
  rcases hcase m hm with h|⟨r,hr,rfl⟩
  ·rw[hold m h]at hk;exact E.eKidR m h k hk
  ·rw[hnew r hr]at hk
   simp only[movN,List.map_map]at hk;obtain⟨y,hy,rfl⟩:=List.mem_map.1 hk;have h3:=(hin (F+r) (by omega) (by omega)).2.2 y hy;simp only[Function.comp];omega
 ·intro x hx m hm hk
  rcases hcase m hm with h|⟨r,hr,rfl⟩
  ·rw[fO m h]at hk
   obtain⟨y,h1,h2⟩:=E.eUp x hx m h hk;exact⟨y,by omega,by rw[fO y h1];exact h2⟩
  ·rw[fN]at hk
   obtain⟨it,hit,g1,g2⟩:=G.coverI (j:=(x:Int)) (by omega) (by omega);have g3:=G.item it hit;obtain⟨it,rfl⟩:=Int.eq_ofNat_of_zero_le g3.2.2.2.1;have g4:=G.nest it it x nlr (by omega) g1 (by omega);obtain⟨k1,k2,k3,k4⟩:=G.kid hx _ hk;have hitL:((L:Nat):Int)∈t.items:=by rw[←b1];exact List.getElem_mem hi
   have:=hcov _ _ ((F+r:Nat):Int) hit hitL (by omega) (by omega) (by omega) (by omega);exact⟨u.nodes.length+(x-F),by omega,by rw[fN];omega⟩
 ·have hdec:t.items=t.items.take i++t.items[i]::t.items.drop (i+1):=by
   rw[←List.drop_eq_getElem_cons hi,List.take_append_drop]
  have hpw:=List.pairwise_iff_getElem.1 G.items
  have hp1:∀x:Int,x<F→pickd u' (iT f u.nodes.length F) x=pickd u f x:=fun x hx=>by
   rw[Bool.eq_iff_iff,pickd_iff,pickd_iff];constructor
   ·rintro⟨m,hm,e⟩
    rcases hcase m hm with h|⟨r,hr,rfl⟩
    ·exact⟨m,h,by rw[←fO m h];exact e⟩
    ·rw[fN]at e;omega
   ·rintro⟨m,hm,e⟩
    exact⟨m,by omega,by rw[fO m hm];exact e⟩
  have hp2:∀x:Int,(F:Int)≤x→pickd u f x=false:=fun x hx=>by
   rw[Bool.eq_false_iff];intro h;obtain⟨m,hm,e⟩:=pickd_iff.1 h;have:=hlt m hm;omega
  have hp3:∀x:Int,(L:Int)<x→pickd u' (iT f u.nodes.length F) x=false:=fun x hx=>by
   rw[Bool.eq_false_iff];intro h;obtain⟨m,hm,e⟩:=pickd_iff.1 h;rcases hcase m hm with h|⟨r,hr,rfl⟩
   ·rw[fO m h]at e;have:=hlt m h;omega
   ·rw[fN]at e;omega
  have hp4:pickd u' (iT f u.nodes.length F) (L:Nat)=true:=pickd_iff.2 ⟨u.nodes.length+(L-F),by omega,by rw[fN];omega⟩
  have hlo:∀x∈t.items.take i,x<(F:Int):=fun x hx=>by
   obtain⟨j,hj,rfl⟩:=List.getElem_of_mem hx;rw[List.getElem_take];have h5:j<i:=by simp at hj;omega
   have:=hpw j i (by omega) hi h5;rw[b1]at this;omega
  have hhi:∀x∈t.items.drop (i+1),(L:Int)<x:=fun x hx=>by
   obtain⟨j,hj,rfl⟩:=List.getElem_of_mem hx;rw[List.getElem_drop];have h5:i+1+j<t.items.length:=by simp at hj;omega
   have h6:=hpw i (i+1+j) hi h5 (by omega);have h7:=(G.item _ (List.getElem_mem h5)).2.1;rw[b1]at h6;omega
  have z1:(t.items.drop (i+1)).filter (pickd u f)=[]:=List.filter_eq_nil_iff.2 (fun x hx=>by rw[hp2 x (by have:=hhi x hx;omega)];exact Bool.false_ne_true);have z2:(t.items.drop (i+1)).filter (pickd u' (iT f u.nodes.length F))=[]:=List.filter_eq_nil_iff.2 (fun x hx=>by rw[hp3 x (hhi x hx)];exact Bool.false_ne_true);have e1:=E.eItems;rw[hdec,List.filter_append,List.filter_cons,if_neg (by rw[b1,hp2 _ (by omega)];exact Bool.false_ne_true),z1,List.append_nil]at e1;rw[hits,List.map_append,hdec,List.filter_append,List.filter_cons,if_pos (by rw[b1];exact hp4),z2];congr 1
  ·rw[List.filter_congr (fun x hx=>hp1 x (hlo x hx)),←e1]
   refine List.map_congr_left fun k hk=>?_;have hr:=E.eItemR k hk;obtain⟨k,rfl⟩:=Int.eq_ofNat_of_zero_le hr.1;rw[zL,zL,fO k (by omega)]
  ·rw[List.map_cons,List.map_nil,zL,fN,b1]
   congr 1;omega
 ·intro k hk
  rw[hits]at hk;rcases List.mem_append.1 hk with h|h
  ·have:=E.eItemR k h;omega
  ·simp only[List.mem_singleton]at h;omega
 ·intro m hm j hj
  rcases hcase m hm with h|⟨r,hr,rfl⟩
  ·rw[fO m h]at hj⊢
   obtain⟨s1,s2⟩:=E.eSub m h j hj;rw[fO _ (by omega)];exact⟨s1,s2⟩
  ·rw[fN]at hj⊢
   have h3:=(hin (F+r) (by omega) (by omega)).1;rw[show u.nodes.length+r-j=u.nodes.length+(r-j) by omega,fN];omega
 ·rw[hits,List.reverse_append,List.reverse_cons,List.reverse_nil,List.nil_append,List.singleton_append]
  have hk:=hnew (L-F) (by omega);rw[show F+(L-F)=L by omega]at hk;have hp:((u'.nodes.length:Int)-1)=((u.nodes.length+(L-F):Nat):Int):=by omega
  rw[eatI,hp,if_neg,Int.toNat_natCast,jM (by omega),fN,show F+(L-F)=L by omega,b4]
  ·have:=qX (t:=u') (t':=u) (o:=szE S (iT f u.nodes.length F) u'.nodes.length) (o':=szE S f u.nodes.length) (m:=u.nodes.length) (fun j hj=>⟨by rw[jM (by omega),jM hj,fO j hj],by rw[hold j hj]⟩) (fun j hj=>by rw[jM (by omega),fO j hj];exact G.one _ (E.eLt j hj)) u.items.reverse ((u.nodes.length:Int)-1) (by omega)
   rw[←E.eTile,←this];congr 1;omega
  ·rw[hk]
   have hLk:cH (t.nd (L:Nat)).kind=true:=by rw[←b1];exact(G.item _ (List.getElem_mem hi)).2.2.2.2
   simp only[movN];rw[hLk];simp;omega
end
end
section
open Go.RowKit
def selT(t:Tr)(S:List Int)(sel:Nat→Bool):Nat→Tr
 |0=>⟨[],[]⟩
 |i+1=>if sel i then bT (selT t S sel i) (cutT t S i)else selT t S sel i
def selF(t:Tr)(S:List Int)(sel:Nat→Bool):Nat→Nat→Nat
 |0=>fun _=>0
 |i+1=>if sel i then iT (selF t S sel i) (selT t S sel i).nodes.length (aC t S i)else selF t S sel i
theorem EB(t:Tr)(S:List Int)(f:Nat→Nat):Emb t ⟨[],[]⟩ S f:=by
 have h0:∀m,¬m<(⟨[],[]⟩:Tr).nodes.length:=fun m h=>Nat.not_lt_zero _ h;refine { eLt:=fun m h=>absurd h (h0 m),eMono:=fun a b _ h=>absurd h (h0 b),eKind:=fun m h=>absurd h (h0 m),eText:=fun m h=>absurd h (h0 m),eNum:=fun m h=>absurd h (h0 m),ePos:=fun m h=>absurd h (h0 m),eKids:=fun m h=>absurd h (h0 m),eKidR:=fun m h=>absurd h (h0 m),eUp:=fun x _ m h=>absurd h (h0 m),eItems:=?_,eItemR:=fun k h=>(by cases h),eSub:=fun m h=>absurd h (h0 m),eTile:=rfl };symm;refine List.filter_eq_nil_iff.2 fun x _ h=>?_;obtain⟨m,hm,-⟩:=pickd_iff.1 h;exact h0 m hm
theorem JI(t:Tr)(S:List Int)(i:Nat):bT ⟨[],[]⟩ (cutT t S i)=cutT t S i:=by
 have h1:∀l:List Nd,l.map (movN ((0:Nat):Int))=l:=fun l=>by
  rw[show(movN ((0:Nat):Int))=id from funext uP,List.map_id]
 unfold bT;simp only[List.length_nil,List.nil_append];rw[h1];unfold cutT;rw[pH];rfl
section
variable {t : Tr} {S : List Int} {sel : Nat → Bool}
structure Sel (t:Tr) (S:List Int) (sel:Nat→Bool) (i:Nat):Prop where
 emb:Emb t (selT t S sel i) S (selF t S sel i)
 its:(selT t S sel i).items=dZ 0 (selT t S sel i).nodes (selT t S sel i).nodes.length
 src:∀m,m<(selT t S sel i).nodes.length→∃j,j<i∧sel j=true∧aC t S j≤selF t S sel i m∧selF t S sel i m≤aI t j
 dst:∀j,j<i→sel j=true→∀r,aC t S j+r≤aI t j→(selT t S sel j).nodes.length+r<(selT t S sel i).nodes.length∧selF t S sel i ((selT t S sel j).nodes.length+r)=aC t S j+r
theorem Good.blkLt(G:Good t S){i j:Nat}(hij:j<i)(hi:i<t.items.length):aI t j<aC t S i:=by
 have h:=List.pairwise_iff_getElem.1 G.items j i (by omega) hi hij;obtain⟨a1,-,-,-⟩:=G.blk (show j<t.items.length by omega);obtain⟨b1,b2,b3,b4⟩:=G.blk hi;rw[a1,b1]at h;have h0:stt S (aI t i:Nat)=(aI t i:Int)-S.getD (aI t i) 0:=by simp[stt]
 omega
theorem Good.esel(G:Good t S):∀i,i≤t.items.length→Sel t S sel i
 |0,_=>⟨EB _ _ _,rfl,fun m h=>absurd h (Nat.not_lt_zero _),fun j h=>absurd h (Nat.not_lt_zero _)⟩
 | i+1,h=>by
   have ih:=Good.esel G i (by omega)
   have hlt:∀m,m<(selT t S sel i).nodes.length→selF t S sel i m<aC t S i:=fun m hm=>by
    obtain⟨j,h1,-,-,h4⟩:=ih.src m hm;have:=G.blkLt h1 (by omega);omega
   cases hs:sel i with
   | false=>
     have e1:selT t S sel (i+1)=selT t S sel i:=by rw[selT,if_neg (by rw[hs];exact Bool.false_ne_true)]
     have e2:selF t S sel (i+1)=selF t S sel i:=by rw[selF,if_neg (by rw[hs];exact Bool.false_ne_true)]
     refine⟨by rw[e1,e2];exact ih.emb,by rw[e1];exact ih.its,fun m hm=>?_,fun j hj hsj r hr=>?_⟩
     ·rw[e1]at hm
      obtain⟨j,h1,h2⟩:=ih.src m hm;rw[e2];exact⟨j,by omega,h2⟩
     ·rw[e1,e2]
      have:j≠i:=by rintro rfl;rw[hs]at hsj;cases hsj
      exact ih.dst j (by omega) hsj r hr
   | true=>
     have e1:selT t S sel (i+1)=bT (selT t S sel i) (cutT t S i):=by rw[selT,if_pos hs]
     have e2:selF t S sel (i+1)=iT (selF t S sel i) (selT t S sel i).nodes.length (aC t S i):=by rw[selF,if_pos hs]
     obtain⟨b1,b2,b3,b4⟩:=G.blk (show i<t.items.length by omega);have hl:=sH (u:=selT t S sel i) G (show i<t.items.length by omega);refine⟨by rw[e1,e2];exact ih.emb.epush G (by omega) hlt ih.its,by rw[e1];exact(rE G (by omega) ih.its).2,fun m hm=>?_,fun j hj hsj r hr=>?_⟩
     ·rw[e1,hl]at hm
      rw[e2];unfold iT;split
      ·rename_i hc
       obtain⟨j,h1,h2⟩:=ih.src m hc;exact⟨j,by omega,h2⟩
      ·exact⟨i,by omega,hs,by omega,by omega⟩
     ·rw[e1,e2,hl]
      unfold iT;rcases Nat.lt_or_ge j i with hji|hji
      ·obtain⟨d1,d2⟩:=ih.dst j hji hsj r hr
       exact⟨by omega,by rw[if_pos d1];exact d2⟩
      ·obtain rfl:j=i:=by omega
       exact⟨by omega,by rw[if_neg (by omega)];omega⟩
theorem LY(G:Good t S){i:Nat}(hi:i<t.items.length):Emb t (cutT t S i) S (iT (fun _=>0) 0 (aC t S i)):=by
 have:=(EB t S (fun _=>0)).epush G hi (fun m h=>absurd h (Nat.not_lt_zero _)) rfl;rwa[JI]at this
end
end
section
open Go.RowKit
section
variable {t : Tr} {S : List Int}
def selN(L:List Int)(k i:Nat):Bool:=hasI L (i:Int)||i==k
end
end
section
open Go Go.RowKit
section
variable {t u : Tr} {S : List Int} {f : Nat → Nat}
theorem Emb.ebd(E:Emb t u S f)(bd:Bd t):Bd u:=by
 have h1:=E.elen;have h2:=E.eilen;refine⟨by have:=bd.n;omega,by have:=bd.i;omega,fun d hd=>?_,fun d hd=>?_⟩
 ·obtain⟨m,hm,rfl⟩:=List.getElem_of_mem hd
  have:=congrArg List.length (E.eKids m hm);rw[List.length_map,kC hm,kC (E.eLt m hm)]at this;rw[←this];exact bd.k _ (List.getElem_mem _)
 ·obtain⟨m,hm,rfl⟩:=List.getElem_of_mem hd
  have:=E.eText m hm;rw[kC hm,kC (E.eLt m hm)]at this;rw[this];exact bd.s _ (List.getElem_mem _)
theorem Emb.erg(E:Emb t u S f)(rg:Rg t):Rg u:=fun m hm=>by
 rw[E.eNum m hm];exact rg _ (E.eLt m hm)
theorem wW(h:zJ t=0):t.nodes.length≤800∧t.items.length≤60:=by
 unfold zJ at h;split at h
 ·cases h
 ·omega
theorem CJ(va vb:TreeV){sel:Nat→Bool}{i:Nat}(w:World)(hs:sel i=true)(bd:Bd t)(rg:Rg t)(G:Good t S)(wf:WF t)(hc:zJ t=0)(hi:i<t.items.length)(hg:GV w)(ha:IsTree w va (selT t S sel i))(hb:IsTree w vb (cutT t S i)) :
 Calls prog 49 #[va.val (selT t S sel i),vb.val (cutT t S i)] w fun e w'=>∃v:TreeV,e=.returned (.tuple #[v.val (selT t S sel (i+1)),intV 0])∧IsTreeX w' v (selT t S sel (i+1)) (fun i=>w.heap.size≤i)∧Below w.heap.size w w':=by
 have D:=(G.esel (sel:=sel) i (by omega)).emb;have D1:=(G.esel (sel:=sel) (i+1) (by omega)).emb;have C:=LY G hi;have e1:selT t S sel (i+1)=bT (selT t S sel i) (cutT t S i):=by rw[selT,if_pos hs]
 have hz:=wW hc;have h1:=D1.elen;have h2:=D1.eilen;rw[e1]at h1 h2⊢;refine CG va vb _ _ w (D.ebd bd) (C.ebd bd) (D.erg rg) (C.erg rg) hg ha hb (D.echeck G wf hc) (C.echeck G wf hc) ?_ (by omega);have:(bT (selT t S sel i) (cutT t S i)).nodes.length=(selT t S sel i).nodes.length+(cutT t S i).nodes.length:=by simp[bT]
 omega
end
end
section
open Go Go.RowKit
theorem EZ(s:List UInt8)(w:World)(hs:s.length≤1000000000)(hg:GV w) :
 Calls prog 80 #[strV s] w fun e w'=>∃(v:TreeV) (t:Tr) (pl er:Int),e=.returned (.tuple #[v.val t,intV pl,intV er])∧IsTree w' v t∧Below w.heap.size w w'∧Bd t∧Rg t∧(∀t',cL s=.ok t'→t=t'∧er=0):=by
 have h:=oC s w hs hg
 cases hp:cL s with
 | error p=>
   rw[hp]at h;refine h.mono ?_;rintro e w'⟨rfl,hb⟩;refine⟨⟨none,0,none,0⟩,⟨[],[]⟩,p.1,p.2,rfl,⟨⟨[],rfl,⟨rfl,nlr,(fun _=>rfl),.inl rfl⟩,(fun i hi=>by cases hi)⟩,⟨rfl,nlr,(fun _=>rfl),.inl rfl⟩⟩,hb,⟨by simp,by simp,(fun d hd=>by cases hd),(fun d hd=>by cases hd)⟩,(fun i hi=>by cases hi),(fun t' h=>by cases h)⟩
 | ok t=>
   rw[hp]at h;refine h.mono ?_;rintro e w'⟨v,rfl,ht,hb⟩;obtain⟨h1,h2⟩:=lU hp;exact⟨v,t,0,0,rfl,ht,hb,h1,h2,fun t' h=>⟨Except.ok.inj h,rfl⟩⟩
def II(w:World)(s:List UInt8)(e:Ending)(w':World):Prop:=
 ∃(v:TreeV) (t:Tr) (ok:Bool),e=.returned (.tuple #[v.val t,.bool ok])∧IsTree w' v t∧Below w.heap.size w w'∧Bd t∧Rg t∧(∀t',cL s=.ok t'→t=t'∧ok=true)
theorem DP(s:List UInt8)(w:World)(hs:s.length≤1000000000)(hg:GV w) :
 Calls prog 99 #[strV s] w (II w s):=by
 have hb0:Below w.heap.size w (w.alloc (.cells #[.slice none 0 0,.slice none 0 0] 25)):=(Below.refl _ w).alloc nlr _;have HP:=Hd (EZ s _ hs (hg.mono hb0 nlr));have HB0:=Hd hb0;have hsz:(w.alloc (.cells #[.slice none 0 0,.slice none 0 0] 25)).heap.size=w.heap.size+1:=by simp
 have HSZ:=Hd hsz;clear hb0 hsz hg;go_enter func99,ntmps99
 go_wp2_with (go_at_call 80;refine HP.out.mono ?_;rintro e w2 ⟨⟨na,nc,ia,ic⟩,t,pl,er,rfl,ht,hb2,hbd,hrg,hcl⟩;have HBD:=Hd hbd;have HRG:=Hd hrg;have HCL:=Hd hcl;rw[HSZ.out]at hb2;unfold TreeV.val;have hb3:=hb2.alloc (by have:=hb2.size;rw[HSZ.out]at this;exact this) (.cells #[.slice na t.nodes.length nc,.slice ia t.items.length ic] 25);have hh:=(hb3.block w.heap.size (by omega)).trans (World.alloc_heap_new w (.cells #[.slice none 0 0,.slice none 0 0] 25));have r0:=za (i:=0) (v:=.slice none 0 0) hh rfl;have r1:=za (i:=1) (v:=.slice none 0 0) hh rfl;have f0:=zl (i:=0) hh;have f1:=zl (i:=1) hh;have ht3:=ht.mono ((Below.refl _ w2).alloc nlr (.cells #[.slice na t.nodes.length nc,.slice ia t.items.length ic] 25)) nlr;have HTA:=Hd (TreeAt.put (v:=⟨na,nc,ia,ic⟩) r0 r1 f0 f1 (eB hb3) ht3 (HB0.out.trans (hb3.mono (by omega))));clear hb2 hb3 hh ht ht3 hbd hrg hcl)
 obtain⟨k0,k1,-,-,-,ht,hb⟩:=HTA.out;unfold put2 at k0 k1;refine bodyPost_ret (v:=.tuple #[.agg #[.slice na t.nodes.length nc,.slice ia t.items.length ic],.bool (er==0)]) (by simp[results,results99,go_sem,loadVar,k0,k1,Result.andThen]) rfl ⟨⟨na,nc,ia,ic⟩,t,er==0,rfl,ht,hb,HBD.out,HRG.out,fun t' h=>⟨(HCL.out t' h).1,by rw[(HCL.out t' h).2];rfl⟩⟩
def oH(w:World)(s:List UInt8)(e:Ending)(w':World):Prop:=
 ∃ (v:TreeV) (t:Tr) (a:Option Addr) (c:Nat) (l:List Int) (ok:Bool),e=.returned (.tuple #[v.val t,.slice a l.length c,.bool ok])∧IsTree w' v t∧Ints w' a c l∧Below w.heap.size w w'∧Bd t∧Rg t ∧
   (ok=true→(zc t).2.2=0∧l=zg t t.nodes.length)∧(∀t',s.length≤400→cL s=.ok t'→(zc t').2.2=0→t=t'∧ok=true)
theorem jG{w W W9:World}{s:List UInt8}{v:TreeV}{t:Tr}{A:Act}{a:Option Addr}{c:Nat}{l:List Int}{ok:Bool}(hb:Below (w.heap.size+1) (w.alloc (.cells #[.slice none 0 0,.slice none 0 0] 25)) W)(ht:IsTree W v t)(hi:Ints W a c l)
 (bd:Bd t)(rg:Rg t)(hok:ok=true→(zc t).2.2=0∧l=zg t t.nodes.length)(hcl:∀t',s.length≤400→cL s=.ok t'→(zc t').2.2=0→t=t'∧ok=true)
 (h2:A.tmps.getD 2 undef=.pointer (some ⟨w.heap.size,0,none⟩))(h3:A.tmps.getD 3 undef=.slice a l.length c)(h4:A.tmps.getD 4 undef=.bool ok)(hd:A.defers=[])
 (h9:Below (put2 W w.heap.size (.slice v.na t.nodes.length v.nc) (.slice v.ia t.items.length v.ic)).heap.size (put2 W w.heap.size (.slice v.na t.nodes.length v.nc) (.slice v.ia t.items.length v.ic)) W9) :
 bodyPost prog Tryz.f51 (oH w s) Exit.ret A W9:=by
 have hh:=(hb.block w.heap.size (by omega)).trans (World.alloc_heap_new w (.cells #[.slice none 0 0,.slice none 0 0] 25));have r0:=za (i:=0) (v:=.slice none 0 0) hh rfl;have r1:=za (i:=1) (v:=.slice none 0 0) hh rfl;have hs:=eB hb;have hw:Below w.heap.size w W:=((Below.refl _ w).alloc nlr _).trans (hb.mono (by omega));obtain⟨k0,k1,-,-,-,ht,hb⟩:=(TreeAt.put r0 r1 (zl (i:=0) hh) (zl (i:=1) hh) hs ht hw).step h9
 have hi1:Ints (put2 W w.heap.size (.slice v.na t.nodes.length v.nc) (.slice v.ia t.items.length v.ic)) a c l:=sQ hi (by omega) hs (by
  intro v hv
  cases l with
  |nil=>cases hv
  |cons x l=>cases hv;exact⟨_,_,rfl⟩) (fG _ _ _ _)
 have hi2:Ints W9 a c l:=Row.mono hi1 h9 nlr;refine bodyPost_ret (v:=.tuple #[v.val t,.slice a l.length c,.bool ok]) ?_ hd ⟨v,t,a,c,l,ok,rfl,ht,hi2,hb,bd,rg,hok,hcl⟩;simp only[Array.getD_eq_getD_getElem?]at h2 h3 h4;unfold TreeV.val;simp[results,results51,go_sem,loadVar,h2,h3,h4,k0,k1,Result.andThen]
theorem rZ(s:List UInt8)(w:World)(hs:s.length≤maxLen)(hg:GV w) :
 Calls prog 51 #[strV s] w (oH w s):=by
 have hmo:prog.follows .mixedOrders=true:=by kernel_rfl
 have hb0:Below w.heap.size w (w.alloc (.cells #[.slice none 0 0,.slice none 0 0] 25)):=(Below.refl _ w).alloc nlr _;have hsz:(w.alloc (.cells #[.slice none 0 0,.slice none 0 0] 25)).heap.size=w.heap.size+1:=by simp
 have hbr:Below (w.heap.size+1) (w.alloc (.cells #[.slice none 0 0,.slice none 0 0] 25)) (w.alloc (.cells #[.slice none 0 0,.slice none 0 0] 25)):=brf;have HBR:=Hd hbr;have HSZ:=Hd hsz;have HB0:=Hd hb0;have HG:=Hd hg;have HG0:=Hd (hg.mono hb0 nlr);have HB1:Hid (∀W,Below (w.heap.size+1) (w.alloc (.cells #[.slice none 0 0,.slice none 0 0] 25)) W→GV W):=Hd fun W h=>hg.mono (hb0.trans (h.mono (by omega))) nlr;clear hb0 hsz hg hbr;by_cases hl:s.length≤400
 ·have hl2:¬(400:Int)<(s.length:Int):=by omega
  have HL:=Hd hl;clear hl;go_enter func51,ntmps51
  go_wp2_with (first
   | (go_at_call 99
      refine(DP s _ (by omega) HG0.out).mono ?_;rintro e w1⟨⟨na,nc,ia,ic⟩,t,ok,rfl,ht,hb1,hbd,hrg,hcl⟩;rw[HSZ.out]at hb1;unfold TreeV.val;have hb2:=hb1.alloc (by have:=hb1.size;rw[HSZ.out]at this;exact this) (.cells #[.slice na t.nodes.length nc,.slice ia t.items.length ic] 25);have HB2:=Hd hb2;have HB1S:Hid (w.heap.size+1≤w1.heap.size):=Hd (by have:=hb1.size;rw[HSZ.out]at this;exact this);have HT2:=Hd (ht.mono ((Below.refl _ w1).alloc nlr (.cells #[.slice na t.nodes.length nc,.slice ia t.items.length ic] 25)) nlr);have HBD:=Hd hbd;have HRG:=Hd hrg;have HCL:=Hd hcl;have hh:=(hb2.block w.heap.size (by omega)).trans (World.alloc_heap_new w (.cells #[.slice none 0 0,.slice none 0 0] 25));have r0:=za (i:=0) (v:=.slice none 0 0) hh rfl;have r1:=za (i:=1) (v:=.slice none 0 0) hh rfl;have f0:=zl (i:=0) hh;have f1:=zl (i:=1) hh;clear ht hb1 hbd hrg hcl hb2 hh;rcases ok with _|_
      ·go_wp2
       exact jG (v:=⟨na,nc,ia,ic⟩) (t:=t) (a:=none) (c:=0) (l:=[]) (ok:=false) HB2.out HT2.out ⟨rfl,nlr,(fun _=>rfl),.inl rfl⟩ HBD.out HRG.out (fun h=>by cases h) (fun t' _ h _=>by have:=(HCL.out t' h).2;cases this) rfl rfl rfl rfl brf
      have A1:=Hd True.intro)
   | (have:=A2;clear this;go_at_call 55
      refine(iU ⟨ma,mc,ja,jc⟩ t _ HBD.out HRG.out (HB1.out _ HB3.out) HT3.out).mono ?_;rintro e w4⟨a,c,rfl,hown,hb4⟩;have hr:=HRR.out;rw[hr]at hown⊢;simp only at hown;have hs3:=HB3.out.size;have hb5:Below w3.heap.size w3 (w4.alloc (.cells #[.slice a dl.length c] 52)):=hb4.alloc hb4.size _;have c50:=(hb5.cell (p:=⟨w1.heap.size,0,none⟩) hs31).trans C50.out;have c51:=(hb5.cell (p:=⟨w1.heap.size,1,none⟩) hs31).trans C51.out;have hb6:=HB3.out.trans (hb5.mono (by rw[HSZ.out]at hs3;exact hs3));have HB6:=Hd hb6;have HT6:=Hd ((IsTree.mono HT2.out HB23.out nlr).mono hb5 nlr);have HI6:=Hd (Row.mono (zU hown) ((Below.refl _ w4).alloc nlr (.cells #[.slice a dl.length c] 52)) nlr);have hh:=(hb6.block w.heap.size (by omega)).trans (World.alloc_heap_new w (.cells #[.slice none 0 0,.slice none 0 0] 25));have hb44:=HB3.out.trans (hb4.mono (by rw[HSZ.out]at hs3;exact hs3));have hh4:=(hb44.block w.heap.size (by omega)).trans (World.alloc_heap_new w (.cells #[.slice none 0 0,.slice none 0 0] 25));have r0:=za (i:=0) (v:=.slice none 0 0) hh rfl;have r1:=za (i:=1) (v:=.slice none 0 0) hh rfl;have f0:=zl (i:=0) hh;have f1:=zl (i:=1) hh;have q0:=za (i:=0) (v:=.slice none 0 0) hh4 rfl;have q1:=za (i:=1) (v:=.slice none 0 0) hh4 rfl;have g0:=zl (i:=0) hh4;have g1:=zl (i:=1) hh4;have d50:=(hb4.cell (p:=⟨w1.heap.size,0,none⟩) hs31).trans C50.out;have d51:=(hb4.cell (p:=⟨w1.heap.size,1,none⟩) hs31).trans C51.out;have HB44:=Hd hb44;have HT44:=Hd ((IsTree.mono HT2.out HB23.out nlr).mono hb4 nlr);have HI44:=Hd (zU hown);clear hb44 hh4;have hs44:w3.heap.size≤w4.heap.size:=hb4.size;have hs01:w.heap.size<w1.heap.size:=by have:=HB1S.out;omega
      have hs04:w.heap.size<w4.heap.size:=by omega
      have hs14:w1.heap.size<w4.heap.size:=by omega
      have hs10:¬w1.heap.size=w.heap.size:=by omega
      have hs40:¬w4.heap.size=w.heap.size:=by omega
      clear hown hb4 hb5 hb6 hh hr A2
      have A3:=Hd True.intro)
   | (have:=A1;clear this;go_at_call 53
      refine(rY ⟨na,nc,ia,ic⟩ t _ HBD.out HT2.out).mono ?_;rintro e w3⟨⟨ma,mc,ja,jc⟩,B,ks,rfl,-,hon,hin,-,hb3⟩;unfold TreeV.val;have HT3:=Hd (show IsTree w3 ⟨ma,mc,ja,jc⟩ t from⟨hon.nodes,hin⟩);have HB23:=Hd hb3;have hs2:=HB2.out.size;have HB3:=Hd (HB2.out.trans (hb3.mono (by rw[HSZ.out]at hs2;exact hs2)));have hs31:w1.heap.size<w3.heap.size:=Nat.lt_of_lt_of_le (by simp) hb3.size;have C50:=Hd ((hb3.cell (p:=⟨w1.heap.size,0,none⟩) (by simp)).trans (za (i:=0) (v:=.slice na t.nodes.length nc) (World.alloc_heap_new w1 (.cells #[.slice na t.nodes.length nc,.slice ia t.items.length ic] 25)) rfl));have C51:=Hd ((hb3.cell (p:=⟨w1.heap.size,1,none⟩) (by simp)).trans (za (i:=1) (v:=.slice ia t.items.length ic) (World.alloc_heap_new w1 (.cells #[.slice na t.nodes.length nc,.slice ia t.items.length ic] 25)) rfl));obtain⟨⟨dl,pn,er⟩,hr⟩:∃r,zc t=r:=⟨_,rfl⟩
      have HRR:=Hd hr;clear hon hin hb3 hr A1 r0 r1 f0 f1
      have A2:=Hd True.intro))
  by_cases he:er=0
  ·have hdl:dl.length=t.nodes.length:=by
    have h1:(zc t).2.2=0:=by rw[HRR.out];exact he
    have h2:=dB (aS h1).check (aS h1).err;rw[HRR.out]at h2;rw[(Prod.mk.inj h2).1,zP]
   have hdl1:((dl.length:Int)==(t.nodes.length:Int))=true:=by simp[hdl]
   have HDL:=Hd hdl;have HE:=Hd he;subst he;clear hdl;go_region;go_wp2;refine jG (v:=⟨na,nc,ia,ic⟩) (t:=t) (a:=a) (c:=c) (l:=dl) (ok:=true) HB44.out HT44.out HI44.out HBD.out HRG.out (fun _=>?_) (fun t' _ h _=>⟨(HCL.out t' h).1,rfl⟩) rfl rfl rfl rfl ((brf.alloc nlr _).drew);have h1:(zc t).2.2=0:=by rw[HRR.out]
   have h2:=dB (aS h1).check (aS h1).err;rw[HRR.out]at h2;exact⟨h1,(Prod.mk.inj h2).1⟩
  ·have he1:(er==0)=false:=by simpa using he
   have HE:=Hd he;go_region;go_wp2;refine jG (v:=⟨na,nc,ia,ic⟩) (t:=t) (a:=a) (c:=c) (l:=dl) (ok:=false) HB44.out HT44.out HI44.out HBD.out HRG.out (fun h=>by cases h) (fun t' _ h h0=>?_) rfl rfl rfl rfl ((brf.alloc nlr _).drew);rw[← (HCL.out t' h).1,HRR.out]at h0;exact absurd h0 HE.out
 ·have hl2:(400:Int)<(s.length:Int):=by omega
  have HL:=Hd hl;clear hl;go_enter func51,ntmps51;go_wp2;refine bodyPost_ret (v:=.tuple #[.agg #[.slice none 0 0,.slice none 0 0],.slice none 0 0,.bool false]) (by simp[results,results51,go_sem,loadVar,Result.andThen]) rfl ⟨⟨none,0,none,0⟩,⟨[],[]⟩,none,0,[],false,rfl,⟨⟨[],rfl,⟨rfl,nlr,(fun _=>rfl),.inl rfl⟩,(fun i hi=>by cases hi)⟩,⟨rfl,nlr,(fun _=>rfl),.inl rfl⟩⟩,⟨rfl,nlr,(fun _=>rfl),.inl rfl⟩,HB0.out,⟨by simp,by simp,(fun d hd=>by cases hd),(fun d hd=>by cases hd)⟩,(fun i hi=>by cases hi),(fun h=>by cases h),(fun t' h _ _=>absurd h HL.out)⟩
structure ResW (w0 W:World) (g:Nat) (v:TreeV) (t:Tr) (a:Option Addr) (c:Nat) (ua:Option Addr) (uc:Nat):Prop where
 c0:W.cell? ⟨g,0,none⟩=some (.slice v.na t.nodes.length v.nc)
 c1:W.cell? ⟨g,1,none⟩=some (.slice v.ia t.items.length v.ic)
 tree:IsTree W v t
 decl:Row 1 W a t.nodes.length c (zm (zg t t.nodes.length))
 ups:Row 1 W ua t.nodes.length uc (zm (dS t t.nodes.length))
 gl:g<W.heap.size
 below:Below w0.heap.size w0 W
 gv:GV W
theorem ResW.step{w0 W W':World}{g:Nat}{v:TreeV}{t:Tr}{a ua:Option Addr}{c uc:Nat}(h:ResW w0 W g v t a c ua uc)(hb:Below W.heap.size W W'):ResW w0 W' g v t a c ua uc:=
 ⟨(hb.cell (p:=⟨g,0,none⟩) h.gl).trans h.c0,(hb.cell (p:=⟨g,1,none⟩) h.gl).trans h.c1,h.tree.mono hb nlr,Row.mono h.decl hb nlr,Row.mono h.ups hb nlr,Nat.lt_of_lt_of_le h.gl hb.size,h.below.trans (hb.mono h.below.size),h.gv.mono hb nlr⟩
theorem ResW.upAt{w0 W:World}{g:Nat}{v:TreeV}{t:Tr}{S:List Int}{a ua:Option Addr}{c uc:Nat}(h:ResW w0 W g v t a c ua uc)(G:Good t S){i:Nat}(hi:i<t.nodes.length):∃b o,ua=some ⟨b,o,none⟩∧b<W.heap.size∧W.cell? ⟨b,o+i,none⟩=some (intV (parent t i)):=by
 obtain⟨b,o,rfl,hb,hc⟩:=h.ups.some (by omega);have hul:(dS t t.nodes.length).length=t.nodes.length:=cW t _;have hl:i<(zm (dS t t.nodes.length)).length:=by simp[hul];exact hi
 have hu:=eS G i hi;rw[List.getD_eq_getElem?_getD,List.getElem?_eq_getElem (by omega),Option.getD_some]at hu;refine⟨b,o,rfl,hb,?_⟩;rw[hc i hl];simp[hu]
theorem NE{t:Tr}{l:List Int}{item:Int}(h0 : -1≤item):∀(m:Nat) (j:Int),NS t l item m j → -1≤j
 |0,j,h=>by rw[show j=item from h];exact h0
 | m+1,j,h=>by
   rw[kJ]at h;rcases h with h|⟨_,n,_,_,_,rfl⟩
   ·exact NE h0 m j h
   ·exact uI _ _
theorem EQ{t:Tr}{S:List Int}(wf:WF t)(G:Good t S){k:Nat}(hk:k<t.items.length)(bd:Bd t){M:List Int}(h1:M.Nodup)(h2:∀x,x∈M↔x≠(k:Int)∧NS t (zg t t.nodes.length) k (k+1) x):(cT M).length≤2000000:=by
 rw[(dD M).length_eq]
 have hsub:∀x∈M,x∈(List.range (k+2)).map fun i:Nat=>(i:Int)-1:=fun x hx=>by
  have hx2:=((h2 x).1 hx).2;have h3:=NE (by omega) _ _ hx2;have h4:=NS.le wf G _ _ hx2;exact List.mem_map.2 ⟨(x+1).toNat,List.mem_range.2 (by omega),by omega⟩
 have:=nL M _ h1 hsub;have h5:=bd.i;simp only[List.length_map,List.length_range]at this;omega
structure BoxT (W:World) (g:Nat) (v:TreeV) (t:Tr):Prop where
 c0:W.cell? ⟨g,0,none⟩=some (.slice v.na t.nodes.length v.nc)
 c1:W.cell? ⟨g,1,none⟩=some (.slice v.ia t.items.length v.ic)
 tree:IsTree W v t
 gl:g<W.heap.size
theorem BoxT.step{W W':World}{g:Nat}{v:TreeV}{t:Tr}(h:BoxT W g v t)(hb:Below W.heap.size W W'):BoxT W' g v t:=
 ⟨(hb.cell (p:=⟨g,0,none⟩) h.gl).trans h.c0,(hb.cell (p:=⟨g,1,none⟩) h.gl).trans h.c1,h.tree.mono hb nlr,Nat.lt_of_lt_of_le h.gl hb.size⟩
theorem BoxT.new{w:World}{v:TreeV}{t:Tr}(h:IsTree w v t):BoxT (w.alloc (.cells #[.slice v.na t.nodes.length v.nc,.slice v.ia t.items.length v.ic] 25)) w.heap.size v t:=
 ⟨bP rfl,bP rfl,h.mono ((Below.refl _ w).alloc nlr _) nlr,by simp⟩
def aBox(W:World)(g:Nat):Prop:=∃a n c a' n' c',W.heap[g]?=some (.cells #[.slice a n c,.slice a' n' c'] 25 (0,0))
def KBoxes(t:Tr)(W W':World):Prop:=W.heap.size≤W'.heap.size∧∀b,b<W.heap.size→W'.heap[b]?=W.heap[b]?∨(aBox W b∧aBox W' b∧∃u,BoxT W' b u t)
theorem KBoxes.refl(t:Tr)(W:World):KBoxes t W W:=⟨nlr,fun _ _=>.inl rfl⟩
theorem KBoxes.of_below{t:Tr}{W W':World}(h:Below W.heap.size W W'):KBoxes t W W':=⟨h.size,fun b hb=>.inl (h.block b hb)⟩
theorem aBox.lt{W:World}{g:Nat}(h:aBox W g):g<W.heap.size:=by
 obtain⟨_,_,_,_,_,_,h⟩:=h;exact(Array.getElem?_eq_some_iff.1 h).1
theorem aBox.step{t:Tr}{W W':World}{g:Nat}(h:aBox W g)(k:KBoxes t W W'):aBox W' g:=by
 rcases k.2 g h.lt with e|⟨_,h2,_⟩
 ·obtain⟨a,n,c,a',n',c',h⟩:=h
  exact⟨a,n,c,a',n',c',e.trans h⟩
 ·exact h2
theorem aBox.slices{W:World}{g:Nat}(h:aBox W g):∀i v,W.cell? ⟨g,i,none⟩=some v→∃a n c,v=.slice a n c:=by
 obtain⟨a,n,c,a',n',c',hn⟩:=h;intro i v hv;simp only[World.cell?,hn]at hv;rcases i with _|_|i
 ·simp at hv;exact⟨_,_,_,hv.symm⟩
 ·simp at hv;exact⟨_,_,_,hv.symm⟩
 ·simp at hv
theorem mP{t:Tr}{k:Nat}{W W':World}{a:Option Addr}{n c:Nat}{xs:List Value}(hr:Row k W a n c xs)(hk:0<k)(hx:∀v,xs[0]?=some v→∃q z,v=.int q z)(hT:KBoxes t W W'):Row k W' a n c xs:=by
 obtain⟨h1,h2,h3,h4⟩:=hr;refine⟨h1,h2,h3,?_⟩;rcases h4 with h4|⟨b,o,e,hlt,hc⟩
 ·exact .inl h4
 ·by_cases h0:n=0
  ·exact .inl h0
  ·refine .inr ⟨b,o,e,Nat.lt_of_lt_of_le hlt hT.1,fun i hi=>?_⟩
   have hl:0<xs.length:=by rw[h1];exact Nat.mul_pos (by omega) hk
   rcases hT.2 b hlt with e2|⟨h5,_⟩
   ·exact(World.cell?_of_block (a:=⟨b,o+i,none⟩) e2).trans (hc i hi)
   ·obtain⟨q,z,e1⟩:=hx _ (List.getElem?_eq_getElem hl)
    obtain⟨a9,n9,c9,e2⟩:=h5.slices _ _ (hc 0 hl);rw[e1]at e2;cases e2
theorem xU{t':Tr}{W W':World}{v:TreeV}{t:Tr}(ht:IsTree W v t)(hT:KBoxes t' W W'):IsTree W' v t:=by
 have hI:∀(l:List Int) (v:Value),(zm l)[0]?=some v→∃q z,v=.int q z:=by
  intro l v hv
  cases l with
  |nil=>cases hv
  |cons x l=>cases hv;exact⟨_,_,rfl⟩
 obtain⟨⟨ks,h1,h2,h3⟩,hi⟩:=ht;refine⟨⟨ks,h1,mP h2 (by omega) ?_ hT,fun i hi k=>mP (h3 i hi k) (by omega) (hI _) hT⟩,mP hi (by omega) (hI _) hT⟩;intro v hv
 cases hn:t.nodes with
 |nil=>rw[hn]at hv;simp[zI]at hv
 | cons d ns=>
   cases ks with
   |nil=>rw[hn]at h1;simp at h1
   | cons k ks=>
     rw[hn]at hv;simp[zI,Nd.cells]at hv;exact⟨_,_,hv.symm⟩
theorem BoxT.keep{W W':World}{g:Nat}{v:TreeV}{t:Tr}(h:BoxT W g v t)(hk:KBoxes t W W'):∃u,BoxT W' g u t:=by
 rcases hk.2 g h.gl with e|⟨_,_,h2⟩
 ·exact⟨v,(World.cell?_of_block (a:=⟨g,0,none⟩) e).trans h.c0,(World.cell?_of_block (a:=⟨g,1,none⟩) e).trans h.c1,xU h.tree hk,Nat.lt_of_lt_of_le h.gl hk.1⟩
 ·exact h2
structure BoxI (W:World) (g:Nat) (a:Option Addr) (c:Nat) (l:List Int):Prop where
 c0:W.cell? ⟨g,0,none⟩=some (.slice a l.length c)
 ints:Ints W a c l
 gl:g<W.heap.size
theorem BoxI.step{W W':World}{g:Nat}{a:Option Addr}{c:Nat}{l:List Int}(h:BoxI W g a c l)(hb:Below W.heap.size W W'):BoxI W' g a c l:=
 ⟨(hb.cell (p:=⟨g,0,none⟩) h.gl).trans h.c0,Row.mono h.ints hb nlr,Nat.lt_of_lt_of_le h.gl hb.size⟩
theorem KE{w w':World}{t:Tr}{item:Int}{e:Ending}(h:eU t item=0)(hr:tS w t item e w'):∃M:List Int,M.Nodup∧(∀x,x∈M↔x≠item∧NS t (zg t t.nodes.length) item (item.toNat+1) x)∧RetIntsE w (cT M) 0 e w':=by
 rcases hr with⟨-,h2⟩|⟨h2,-⟩
 ·exact h2
 ·exact absurd h h2
theorem KD{t:Tr}(h:(zc t).2.2=0){k:Nat}(hk:k<t.items.length):eU t k=0:=by
 unfold eU;rw[if_neg (by rw[h];simp),if_neg (by omega)]
theorem Renamed.rg{t t':Tr}{d:Nat}{new:List UInt8}(R:Renamed t t' d new)(rg:Rg t):Rg t':=fun i hi=>by
 rw[R.form.n];exact rg i (by rw[←R.form.len];exact hi)
end
end Go.Proofs.YtokdgiphdnjeoaaGreatDoor
