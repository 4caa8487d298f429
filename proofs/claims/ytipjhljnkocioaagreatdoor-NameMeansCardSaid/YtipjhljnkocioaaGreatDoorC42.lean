/- Part of a proof. -/
import Derived.Test.YtipjhljnkocioaaGreatDoorC11
import Derived.Test.YtipjhljnkocioaaGreatDoorC32
import Derived.Test.YtipjhljnkocioaaGreatDoorC40
import Derived.Test.YtipjhljnkocioaaGreatDoorC41
set_option maxRecDepth 100000
set_option maxHeartbeats 8000000
set_option linter.unusedVariables false
set_option linter.unusedSimpArgs false
open Go.Proofs.Tryz
namespace Go.Proofs.YtipjhljnkocioaaGreatDoor
section
open Go Go.RowKit
def kT1:List UInt8:=[99,104,111,111,115,101,32,100,58,32,49,46,46,54,59,32,108,101,116,32,115,32,61,32,108,101,116,32,120,32,61,32,100,32,105,110,32,120,32,43,32,100,59]
def kT2:List UInt8:=[102,117,110,32,102,40,110,58,32,105,110,116,41,58,32,105,110,116,32,61,32,102,40,110,41,59]
def kT3:List UInt8:=[108,101,116,32,97,32,61,32,49,59,32,108,101,116,32,98,32,61,32,50,59,32,108,101,116,32,99,32,61,32,97,32,43,32,97,59]
def okT(s:List UInt8):Option Tr:=match dJ s with|.ok t=>some t|_=>none
def gF(s:List UInt8):Tr:=(okT s).getD ⟨[],[]⟩
theorem sM{s:List UInt8}(h:(okT s).isSome=true):dJ s=.ok (gF s):=by
 unfold gF
 cases e:dJ s with
 |error p=>unfold okT at h;rw[e]at h;cases h
 |ok t=>unfold okT;rw[e];rfl
theorem JO:dJ kT1=.ok (gF kT1):=sM (by decide +kernel)
theorem JP:dJ kT2=.ok (gF kT2):=sM (by decide +kernel)
theorem JQ:dJ kT3=.ok (gF kT3):=sM (by decide +kernel)
theorem JR:zc (gF kT1)=([-1,-1,-1,2,7,2,-1,-1,-1],0,0):=by decide +kernel
theorem JU:jN (gF kT1) 2=([3,5],0):=by decide +kernel
theorem JV:visU (gF kT1) 4=([2,7],0):=by decide +kernel
theorem JK:jM (gF kT1) 6=([2,7],0):=by decide +kernel
theorem JS:zc (gF kT2)=([],4,9):=by decide +kernel
theorem JT:fI (gF kT3) 2=0:=by decide +kernel
def errT(r:Except Int Tr):Int:=match r with|.error e=>e|.ok _=>0
theorem EC{r:Except Int Tr}{e:Int}(h:errT r=e)(h0:e≠0):r=.error e:=by
 cases r with
 |error x=>rw[show x=e from h]
 |ok t=>exact absurd h.symm h0
theorem JL:renU (gF kT1) 7 [100]=.error 9:=EC (by decide +kernel) (by decide)
theorem JM:renU (gF kT1) 7 [108,101,116]=.error 4:=EC (by decide +kernel) (by decide)
theorem JW:eF (gF kT1)=([8],0):=by decide +kernel
def nsL(t:Tr)(l:List Int)(item:Int):Nat→List Int
 |0=>[item]
 |m+1=>nsL t l item m++(if (nsL t l item m).contains (item-m)then ((List.range t.nodes.length).filter fun n=>zY t (n:Nat)==item-m&&l.getD n 0 != -1).map fun n=>zY t (l.getD n 0)else [])
theorem sK(t:Tr)(l:List Int)(item:Int):∀(m:Nat) (x:Int),x∈nsL t l item m↔NS t l item m x
 |0,x=>by simp[nsL,NS]
 | m+1,x=>by
   rw[nsL,List.mem_append,sK t l item m,oE];refine or_congr_right ?_;by_cases hc:(nsL t l item m).contains (item-m)=true
   ·rw[if_pos hc]
    have hy:NS t l item m (item-m):=(sK t l item m _).1 (List.contains_iff_mem.1 hc);constructor
    ·intro h
     obtain⟨n,hn,rfl⟩:=List.mem_map.1 h;obtain⟨h1,h2⟩:=List.mem_filter.1 hn;simp only[Bool.and_eq_true,beq_iff_eq,bne_iff_ne,ne_eq]at h2;exact⟨hy,n,List.mem_range.1 h1,h2.1,h2.2,rfl⟩
    ·rintro⟨-,n,h1,h2,h3,rfl⟩
     refine List.mem_map.2 ⟨n,List.mem_filter.2 ⟨List.mem_range.2 h1,?_⟩,rfl⟩;simp only[Bool.and_eq_true,beq_iff_eq,bne_iff_ne,ne_eq];exact⟨h2,h3⟩
   ·rw[if_neg hc]
    constructor
    ·intro h;cases h
    ·rintro⟨hy,-⟩
     exact absurd (List.contains_iff_mem.2 ((sK t l item m _).2 hy)) hc
theorem JJ:nsL (gF kT3) (zh (gF kT3) (gF kT3).nodes.length) 2 3=[2,0,0]:=by decide +kernel
theorem JN{M:List Int}(hn:M.Nodup)(hm:∀x,x∈M↔x≠2∧NS (gF kT3) (zh (gF kT3) (gF kT3).nodes.length) 2 (Int.toNat 2+1) x):bM M=[0]:=by
 have h:∀x,x∈M↔x∈[(0:Int)]:=fun x=>by
  rw[hm,show Int.toNat 2+1=3 from rfl,←sK,JJ];simp;omega
 have hp:M.Perm [0]:=(List.perm_ext_iff_of_nodup hn (by simp)).2 h;exact(cC ((cK M).trans hp) (dD _)).trans (by decide)
theorem nX(s:List UInt8)(t:Tr)(w:World)(hs:s.length≤1000000000)(hg:GV w)(hp:dJ s=.ok t) :
 Calls prog 50 #[strV s] w fun e w'=>∃v:TreeV,e=.returned (.tuple #[v.val t,.bool true])∧IsTree w' v t∧Below w.heap.size w w':=by
 have hb0:Below w.heap.size w (w.alloc (.cells #[.slice none 0 0,.slice none 0 0] 25)):=(Below.refl _ w).alloc nlr _;have hP:=wJ s _ hs (hg.mono hb0 nlr);rw[hp]at hP;have HP:=Hd hP;have HB0:=Hd hb0;have hsz:(w.alloc (.cells #[.slice none 0 0,.slice none 0 0] 25)).heap.size=w.heap.size+1:=by simp
 have HSZ:=Hd hsz;clear hP hb0 hsz hg hp;go_enter func50,ntmps50
 go_wp2_with (go_at_call 86;refine HP.out.mono ?_;rintro e w2 ⟨⟨na,nc,ia,ic⟩,rfl,ht,hb2⟩;rw[HSZ.out]at hb2;unfold TreeV.val;have hb3:=hb2.alloc (by have:=hb2.size;rw[HSZ.out]at this;exact this) (.cells #[.slice na t.nodes.length nc,.slice ia t.items.length ic] 25);have hh:=(hb3.block w.heap.size (by omega)).trans (World.alloc_heap_new w (.cells #[.slice none 0 0,.slice none 0 0] 25));have r0:=zb (i:=0) (v:=.slice none 0 0) hh rfl;have r1:=zb (i:=1) (v:=.slice none 0 0) hh rfl;have f0:=zI (i:=0) hh;have f1:=zI (i:=1) hh;have ht3:=ht.mono ((Below.refl _ w2).alloc nlr (.cells #[.slice na t.nodes.length nc,.slice ia t.items.length ic] 25)) nlr;have HTA:=Hd (TreeAt.put (v:=⟨na,nc,ia,ic⟩) r0 r1 f0 f1 (eM hb3) ht3 (HB0.out.trans (hb3.mono (by omega))));clear hb2 hb3 hh ht ht3)
 obtain⟨k0,k1,-,-,-,ht,hb⟩:=HTA.out;unfold put2 at k0 k1;refine bodyPost_ret (v:=.tuple #[.agg #[.slice na t.nodes.length nc,.slice ia t.items.length ic],.bool true]) (by simp[results,results50,go_sem,loadVar,k0,k1,Result.andThen]) rfl ⟨⟨na,nc,ia,ic⟩,rfl,ht,hb⟩
theorem pM{s:List UInt8}{t:Tr}(h:dJ s=.ok t):Bd t∧Rg t:=by
 unfold dJ uV at h
 cases hr:mJ s with
 |error e=>rw[hr]at h;cases h
 | ok l=>
   rw[hr]at h;simp only at h;obtain⟨tk,hs⟩:=yO hr;have hok:lW ⟨l,s.length⟩:=fun t ht hk=>(mE (tk.tok t ht hk)).2;cases ht:nG ⟨l,(s.length:Int)⟩with
   |error p=>rw[ht]at h;cases h
   | ok t'=>
     rw[ht]at h;simp only at h;have tok:=yW hok ht;have hb:Bd t':=tok.bd tk.many (fun x hx=>Nat.le_trans (tk.text x hx) (by omega));split at h
     ·cases h
     ·split at h
      ·cases h
      ·split at h
       ·cases h
       ·cases h;exact⟨hb,tok.rg⟩
structure KI (w W:World) (b:Nat) (v:TreeV) (t:Tr):Prop where
 c0:W.cell? ⟨b,0,none⟩=some (.slice v.na t.nodes.length v.nc)
 c1:W.cell? ⟨b,1,none⟩=some (.slice v.ia t.items.length v.ic)
 tree:IsTree W v t
 gv:GV W
 below:Below w.heap.size w W
theorem KI.step{w W W':World}{b:Nat}{v:TreeV}{t:Tr}(h:KI w W b v t)(hb:Below W.heap.size W W'):KI w W' b v t:=
 ⟨(hb.cell (p:=⟨b,0,none⟩) (World.block_lt_of_cell? W _ h.c0)).trans h.c0,(hb.cell (p:=⟨b,1,none⟩) (World.block_lt_of_cell? W _ h.c1)).trans h.c1,h.tree.mono hb nlr,h.gv.mono hb nlr,h.below.trans (hb.mono h.below.size)⟩
def Ext(a b:World):Prop:=Below a.heap.size a b
theorem Ext.refl(a:World):Ext a a:=Below.refl _ a
theorem Ext.trans{a b c:World}(h:Ext a b)(k:Ext b c):Ext a c:=Below.trans h (Below.mono k (Below.size h))
theorem Ext.alloc{a b:World}(h:Ext a b)(o:Obj):Ext a (b.alloc o):=Below.alloc h (Below.size h) o
theorem Ext.drew{a b:World}(h:Ext a b):Ext a b.drew:=Below.drew h
theorem Ext.cell{a b:World}(h:Ext a b){p:Addr}{v:Value}(hc:a.cell? p=some v):b.cell? p=some v:=(Below.cell h (World.block_lt_of_cell? a p hc)).trans hc
theorem Ext.lt{a b:World}(h:Ext a b){k:Nat}(hk:k<a.heap.size):k<b.heap.size:=Nat.lt_of_lt_of_le hk (Below.size h)
theorem Ext.tree{a b:World}(h:Ext a b){v:TreeV}{t:Tr}(ht:IsTree a v t):IsTree b v t:=ht.mono h nlr
theorem Ext.ints{a b:World}(h:Ext a b){x:Option Addr}{c:Nat}{l:List Int}(ht:Ints a x c l):Ints b x c l:=Row.mono ht h nlr
theorem Ext.gv{a b:World}(h:Ext a b)(hg:GV a):GV b:=hg.mono h nlr
theorem zG{W:World}{cs:Array Value}{T:TypeId}{i:Nat}{v:Value}(h:cs[i]?=some v):(W.alloc (.cells cs T)).cell? ⟨W.heap.size,i,none⟩=some v:=zb (World.alloc_heap_new W _) h
theorem gA(W:World)(l:List Int){n:Nat}(hn:n=l.length):Row 1 (W.alloc (.cells (zo l).toArray 3)) (some ⟨W.heap.size,0,none⟩) l.length n (zo l):=Row.made W (zo l) _ (by simp[zo]) (by omega)
def Al:List World→World→Prop
 | [],_=>True
 |a::l,X=>Ext a X∧Al l X
theorem Al.step:∀{l:List World}{X Y:World},Al l X→Ext X Y→Al l Y
 | [],_,_,_,_=>trivial
 |_::_,_,_,h,k=>⟨h.1.trans k,Al.step h.2 k⟩
theorem Al.al{l:List World}{X:World}(h:Al l X)(o:Obj):Al l (X.alloc o):=h.step ((Ext.refl X).alloc o)
theorem Al.new{l:List World}{X:World}(h:Al l X):Al (X::l) X:=⟨Ext.refl X,h⟩
def Al.Le:List World→Nat→Prop
 | [],_=>True
 |a::l,g=>a.heap.size≤g∧Al.Le l g
theorem Al.le:∀{l:List World}{X:World}{g:Nat},Al l X→X.heap.size≤g→Al.Le l g
 | [],_,_,_,_=>trivial
 |_::_,_,_,h,k=>⟨Nat.le_trans (Below.size h.1) k,Al.le h.2 k⟩
theorem GW(w:World)(hg:GV w)(T1 T2 T3:Tr)(p1:dJ [99,104,111,111,115,101,32,100,58,32,49,46,46,54,59,32,108,101,116,32,115,32,61,32,108,101,116,32,120,32,61,32,100,32,105,110,32,120,32,43,32,100,59]=.ok T1)(p2:dJ [102,117,110,32,102,40,110,58,32,105,110,116,41,58,32,105,110,116,32,61,32,102,40,110,41,59]=.ok T2)(p3:dJ [108,101,116,32,97,32,61,32,49,59,32,108,101,116,32,98,32,61,32,50,59,32,108,101,116,32,99,32,61,32,97,32,43,32,97,59]=.ok T3)
 (r1:zc T1=([-1,-1,-1,2,7,2,-1,-1,-1],0,0))(u1:jN T1 2=([3,5],0))(v1:visU T1 4=([2,7],0))(f1:jM T1 6=([2,7],0))(n1:renU T1 7 [100]=.error 9)(n2:renU T1 7 [108,101,116]=.error 4)(x1:eF T1=([8],0))
 (r2:zc T2=([],4,9))(r3:fI T3 2=0)
 (n3:∀M:List Int,M.Nodup→(∀x,x∈M↔x≠2∧NS T3 (zh T3 T3.nodes.length) 2 (Int.toNat 2+1) x)→bM M=[0]) :
 Calls prog 14 #[] w (zn w true):=by
 obtain⟨bd1,rg1⟩:=pM p1;obtain⟨bd2,rg2⟩:=pM p2;obtain⟨bd3,rg3⟩:=pM p3;have Hbd1:=Hd bd1;have Hrg1:=Hd rg1;have Hbd2:=Hd bd2;have Hrg2:=Hd rg2;have Hbd3:=Hd bd3;have Hrg3:=Hd rg3;have Hp1:=Hd p1;have Hp2:=Hd p2;have Hp3:=Hd p3;have Hr1:=Hd r1;have Hu1:=Hd u1;have Hv1:=Hd v1;have Hf1:=Hd f1;have Hn1:=Hd n1;have Hn2:=Hd n2;have Hx1:=Hd x1;have Hr2:=Hd r2;have Hr3:=Hd r3;have Hn3:=Hd n3;have Hhg:=Hd hg;clear bd1 rg1 bd2 rg2 bd3 rg3 p1 p2 p3 r1 u1 v1 f1 n1 n2 x1 r2 r3 n3 hg;have A0:Hid (Al [w] w):=Hd ⟨Ext.refl w,trivial⟩;go_enter func14,ntmps14
 go_wp2_with (first
  | (have:=A17;clear this;go_at_call 19;refine(zX a12 (some ⟨w17.heap.size,0,none⟩) c12 1 [0] [0] (w17.alloc (.cells #[.int .i64 0] 3)) (by decide) (by decide) ((A17.out.1.alloc _).ints L12.out) (gA w17 [0] rfl)).mono ?_;rw[show(([0]:List Int)==[0])=true from by decide];rintro e w18 ⟨rfl,hb⟩;have hx:Ext (w17.alloc (.cells #[.int .i64 0] 3)) w18:=hb;have hx:=((Ext.refl w17).alloc _).trans hx;have A18:=Hd (A17.out.step hx);clear c1_0;clear c1_1;clear k2_0;obtain⟨c1_0,c1_1⟩:=C1.out;have c1_0:=A18.out.2.2.2.2.2.2.1.cell c1_0;have c1_1:=A18.out.2.2.2.2.2.2.1.cell c1_1;have k2_0:=K2.out;have k2_0:=A18.out.2.2.2.2.2.1.cell k2_0;clear hx hb A17)
  | (have:=A16;clear this;go_at_call 19;refine(zX a8 (some ⟨w16.heap.size,0,none⟩) c8 1 [8] [8] (w16.alloc (.cells #[.int .i64 8] 3)) (by decide) (by decide) ((A16.out.2.1.alloc _).ints L8.out) (gA w16 [8] rfl)).mono ?_;rw[show(([8]:List Int)==[8])=true from by decide];rintro e w17 ⟨rfl,hb⟩;have hx:Ext (w16.alloc (.cells #[.int .i64 8] 3)) w17:=hb;have hx:=((Ext.refl w16).alloc _).trans hx;have A17:=Hd (A16.out.step hx);clear c1_0;clear c1_1;clear k2_0;obtain⟨c1_0,c1_1⟩:=C1.out;have c1_0:=A17.out.2.2.2.2.2.2.1.cell c1_0;have c1_1:=A17.out.2.2.2.2.2.2.1.cell c1_1;have k2_0:=K2.out;have k2_0:=A17.out.2.2.2.2.2.1.cell k2_0;clear hx hb A16)
  | (have:=A15;clear this;go_at_call 19;refine(zX a5 (some ⟨w15.heap.size,0,none⟩) c5 2 [2,7] [2,7] (w15.alloc (.cells #[.int .i64 2,.int .i64 7] 3)) (by decide) (by decide) ((A15.out.2.2.1.alloc _).ints L5.out) (gA w15 [2,7] rfl)).mono ?_;rw[show(([2,7]:List Int)==[2,7])=true from by decide];rintro e w16 ⟨rfl,hb⟩;have hx:Ext (w15.alloc (.cells #[.int .i64 2,.int .i64 7] 3)) w16:=hb;have hx:=((Ext.refl w15).alloc _).trans hx;have A16:=Hd (A15.out.step hx);clear c1_0;clear c1_1;clear k2_0;obtain⟨c1_0,c1_1⟩:=C1.out;have c1_0:=A16.out.2.2.2.2.2.2.1.cell c1_0;have c1_1:=A16.out.2.2.2.2.2.2.1.cell c1_1;have k2_0:=K2.out;have k2_0:=A16.out.2.2.2.2.2.1.cell k2_0;clear hx hb A15)
  | (have:=A14;clear this;go_at_call 19;refine(zX a4 (some ⟨w14.heap.size,0,none⟩) c4 2 [2,7] [2,7] (w14.alloc (.cells #[.int .i64 2,.int .i64 7] 3)) (by decide) (by decide) ((A14.out.2.2.2.1.alloc _).ints L4.out) (gA w14 [2,7] rfl)).mono ?_;rw[show(([2,7]:List Int)==[2,7])=true from by decide];rintro e w15 ⟨rfl,hb⟩;have hx:Ext (w14.alloc (.cells #[.int .i64 2,.int .i64 7] 3)) w15:=hb;have hx:=((Ext.refl w14).alloc _).trans hx;have A15:=Hd (A14.out.step hx);clear c1_0;clear c1_1;clear k2_0;obtain⟨c1_0,c1_1⟩:=C1.out;have c1_0:=A15.out.2.2.2.2.2.2.1.cell c1_0;have c1_1:=A15.out.2.2.2.2.2.2.1.cell c1_1;have k2_0:=K2.out;have k2_0:=A15.out.2.2.2.2.2.1.cell k2_0;clear hx hb A14)
  | (have:=A13;clear this;go_at_call 19;refine(zX a3 (some ⟨w13.heap.size,0,none⟩) c3 2 [3,5] [3,5] (w13.alloc (.cells #[.int .i64 3,.int .i64 5] 3)) (by decide) (by decide) ((A13.out.2.2.2.2.1.alloc _).ints L3.out) (gA w13 [3,5] rfl)).mono ?_;rw[show(([3,5]:List Int)==[3,5])=true from by decide];rintro e w14 ⟨rfl,hb⟩;have hx:Ext (w13.alloc (.cells #[.int .i64 3,.int .i64 5] 3)) w14:=hb;have hx:=((Ext.refl w13).alloc _).trans hx;have A14:=Hd (A13.out.step hx);clear c1_0;clear c1_1;clear k2_0;obtain⟨c1_0,c1_1⟩:=C1.out;have c1_0:=A14.out.2.2.2.2.2.2.1.cell c1_0;have c1_1:=A14.out.2.2.2.2.2.2.1.cell c1_1;have k2_0:=K2.out;have k2_0:=A14.out.2.2.2.2.2.1.cell k2_0;clear hx hb A13)
  | (have:=A12;clear this;go_at_call 19;refine(zX a2 (some ⟨w12.heap.size,0,none⟩) c2 9 [-1,-1,-1,2,7,2,-1,-1,-1] [-1,-1,-1,2,7,2,-1,-1,-1] (w12.alloc (.cells #[.int .i64 (-1),.int .i64 (-1),.int .i64 (-1),.int .i64 2,.int .i64 7,.int .i64 2,.int .i64 (-1),.int .i64 (-1),.int .i64 (-1)] 3)) (by decide) (by decide) (((A12.out.2.2.2.2.2.1.alloc _)).ints L2.out) (gA w12 [-1,-1,-1,2,7,2,-1,-1,-1] rfl)).mono ?_;rw[show(([-1,-1,-1,2,7,2,-1,-1,-1]:List Int)==[-1,-1,-1,2,7,2,-1,-1,-1])=true from by decide];rintro e w13 ⟨rfl,hb⟩;have hx:Ext (w12.alloc (.cells #[.int .i64 (-1),.int .i64 (-1),.int .i64 (-1),.int .i64 2,.int .i64 7,.int .i64 2,.int .i64 (-1),.int .i64 (-1),.int .i64 (-1)] 3)) w13:=hb;have hx:=((Ext.refl w12).alloc _).trans hx;have A13:=Hd (A12.out.step hx);clear c1_0;clear c1_1;clear k2_0;obtain⟨c1_0,c1_1⟩:=C1.out;have c1_0:=A13.out.2.2.2.2.2.2.1.cell c1_0;have c1_1:=A13.out.2.2.2.2.2.2.1.cell c1_1;have k2_0:=K2.out;have k2_0:=A13.out.2.2.2.2.2.1.cell k2_0;clear hx hb A12)
  | (have:=A11;clear this;go_at_call 32;refine(jV ⟨na11,nc11,ia11,ic11⟩ T3 2 (w11.alloc (.cells #[.slice na11 T3.nodes.length nc11,.slice ia11 T3.items.length ic11] 25)) Hbd3.out Hrg3.out (A11.out.2.2.2.2.2.2.1.gv Hhg.out) HT3.out (by decide)).mono ?_;rintro e w12 (⟨-,M,hM1,hM2,h9⟩|⟨h9,-⟩);rotate_left;(exact absurd Hr3.out h9);rw[Hn3.out M hM1 hM2]at h9;obtain⟨a12,c12,rfl,ho,hb⟩:=h9;have hx:Ext (w11.alloc (.cells #[.slice na11 T3.nodes.length nc11,.slice ia11 T3.items.length ic11] 25)) w12:=hb;have A12:=Hd (A11.out.step hx);clear c1_0;clear c1_1;clear k2_0;obtain⟨c1_0,c1_1⟩:=C1.out;have c1_0:=A12.out.2.2.2.2.2.1.cell c1_0;have c1_1:=A12.out.2.2.2.2.2.1.cell c1_1;have k2_0:=K2.out;have k2_0:=A12.out.2.2.2.2.1.cell k2_0;have L12:Hid (Ints w12 a12 c12 [0]):=Hd (zq ho);clear ho hM1 hM2;have A12:=Hd A12.out.new;clear hx hb A11)
  | (have:=A10;clear this;go_at_call 50;refine(nX [108,101,116,32,97,32,61,32,49,59,32,108,101,116,32,98,32,61,32,50,59,32,108,101,116,32,99,32,61,32,97,32,43,32,97,59] T3 (w10.alloc (.cells #[.slice a10 0 c10] 30)) (by decide) (A10.out.2.2.2.2.2.2.1.gv Hhg.out) Hp3.out).mono ?_;rintro e w11 ⟨⟨na11,nc11,ia11,ic11⟩,rfl,ht,hb⟩;have hx:Ext (w10.alloc (.cells #[.slice a10 0 c10] 30)) w11:=hb;have A11:=Hd ((A10.out.step hx).al (.cells #[.slice na11 T3.nodes.length nc11,.slice ia11 T3.items.length ic11] 25));clear c1_0;clear c1_1;clear k2_0;obtain⟨c1_0,c1_1⟩:=C1.out;have c1_0:=A11.out.2.2.2.2.2.1.cell c1_0;have c1_1:=A11.out.2.2.2.2.2.1.cell c1_1;have k2_0:=K2.out;have k2_0:=A11.out.2.2.2.2.1.cell k2_0;unfold TreeV.val;have HT3:Hid (IsTree (w11.alloc (.cells #[.slice na11 T3.nodes.length nc11,.slice ia11 T3.items.length ic11] 25)) ⟨na11,nc11,ia11,ic11⟩ T3):=Hd (((Ext.refl w11).alloc _).tree ht);clear ht;clear hx hb A10)
  | (have:=A9;clear this;go_at_call 16;refine(iD ⟨na9,nc9,ia9,ic9⟩ T2 (w9.alloc (.cells #[.slice na9 T2.nodes.length nc9,.slice ia9 T2.items.length ic9] 25)) Hbd2.out Hrg2.out (A9.out.2.2.2.2.2.2.1.gv Hhg.out) HT2.out).mono ?_;rw[Hr2.out];rintro e w10 ⟨a10,c10,rfl,ho,hb⟩;have hx:Ext (w9.alloc (.cells #[.slice na9 T2.nodes.length nc9,.slice ia9 T2.items.length ic9] 25)) w10:=hb;have A10:=Hd ((A9.out.step hx).al (.cells #[.slice a10 0 c10] 30));clear c1_0;clear c1_1;clear k2_0;obtain⟨c1_0,c1_1⟩:=C1.out;have c1_0:=A10.out.2.2.2.2.2.1.cell c1_0;have c1_1:=A10.out.2.2.2.2.2.1.cell c1_1;have k2_0:=K2.out;have k2_0:=A10.out.2.2.2.2.1.cell k2_0;clear ho;clear hx hb A9)
  | (have:=A8;clear this;go_at_call 50;refine(nX [102,117,110,32,102,40,110,58,32,105,110,116,41,58,32,105,110,116,32,61,32,102,40,110,41,59] T2 w8 (by decide) (A8.out.2.2.2.2.2.2.1.gv Hhg.out) Hp2.out).mono ?_;rintro e w9 ⟨⟨na9,nc9,ia9,ic9⟩,rfl,ht,hb⟩;have hx:Ext w8 w9:=hb;have A9:=Hd ((A8.out.step hx).al (.cells #[.slice na9 T2.nodes.length nc9,.slice ia9 T2.items.length ic9] 25));clear c1_0;clear c1_1;clear k2_0;obtain⟨c1_0,c1_1⟩:=C1.out;have c1_0:=A9.out.2.2.2.2.2.1.cell c1_0;have c1_1:=A9.out.2.2.2.2.2.1.cell c1_1;have k2_0:=K2.out;have k2_0:=A9.out.2.2.2.2.1.cell k2_0;unfold TreeV.val;have HT2:Hid (IsTree (w9.alloc (.cells #[.slice na9 T2.nodes.length nc9,.slice ia9 T2.items.length ic9] 25)) ⟨na9,nc9,ia9,ic9⟩ T2):=Hd (((Ext.refl w9).alloc _).tree ht);clear ht;clear hx hb A8)
  | (have:=A7;clear this;go_at_call 31;refine(mQ ⟨na1,nc1,ia1,ic1⟩ T1  (w7.alloc (.cells #[.slice none 0 0,.slice none 0 0] 25)) Hbd1.out Hrg1.out (A7.out.2.2.2.2.2.1.gv Hhg.out) (A7.out.2.2.2.2.1.tree HT1.out)).mono ?_;rw[Hx1.out];rintro e w8 ⟨a8,c8,rfl,ho,hb⟩;have hx:Ext (w7.alloc (.cells #[.slice none 0 0,.slice none 0 0] 25)) w8:=hb;have A8:=Hd (A7.out.step hx);clear c1_0;clear c1_1;clear k2_0;obtain⟨c1_0,c1_1⟩:=C1.out;have c1_0:=A8.out.2.2.2.2.1.cell c1_0;have c1_1:=A8.out.2.2.2.2.1.cell c1_1;have k2_0:=K2.out;have k2_0:=A8.out.2.2.2.1.cell k2_0;have L8:Hid (Ints w8 a8 c8 [8]):=Hd (zq ho);clear ho;have A8:=Hd A8.out.new;clear hx hb A7)
  | (have:=A6;clear this;go_at_call 29;refine(fK ⟨na1,nc1,ia1,ic1⟩ T1 7 [108,101,116] (w6.alloc (.cells #[.slice none 0 0,.slice none 0 0] 25)) Hbd1.out Hrg1.out (A6.out.2.2.2.2.2.1.gv Hhg.out) (by decide) (A6.out.2.2.2.2.1.tree HT1.out)).mono ?_;rw[Hn2.out];rintro e w7 ⟨rfl,hb⟩;have hx:Ext (w6.alloc (.cells #[.slice none 0 0,.slice none 0 0] 25)) w7:=hb;have A7:=Hd ((A6.out.step hx).al (.cells #[.slice none 0 0,.slice none 0 0] 25));clear c1_0;clear c1_1;clear k2_0;obtain⟨c1_0,c1_1⟩:=C1.out;have c1_0:=A7.out.2.2.2.2.1.cell c1_0;have c1_1:=A7.out.2.2.2.2.1.cell c1_1;have k2_0:=K2.out;have k2_0:=A7.out.2.2.2.1.cell k2_0;clear hx hb A6)
  | (have:=A5;clear this;go_at_call 29;refine(fK ⟨na1,nc1,ia1,ic1⟩ T1 7 [100] w5 Hbd1.out Hrg1.out (A5.out.2.2.2.2.2.1.gv Hhg.out) (by decide) (A5.out.2.2.2.2.1.tree HT1.out)).mono ?_;rw[Hn1.out];rintro e w6 ⟨rfl,hb⟩;have hx:Ext w5 w6:=hb;have A6:=Hd ((A5.out.step hx).al (.cells #[.slice none 0 0,.slice none 0 0] 25));clear c1_0;clear c1_1;clear k2_0;obtain⟨c1_0,c1_1⟩:=C1.out;have c1_0:=A6.out.2.2.2.2.1.cell c1_0;have c1_1:=A6.out.2.2.2.2.1.cell c1_1;have k2_0:=K2.out;have k2_0:=A6.out.2.2.2.1.cell k2_0;clear hx hb A5)
  | (have:=A4;clear this;go_at_call 22;refine(qQ ⟨na1,nc1,ia1,ic1⟩ T1 6 w4 Hbd1.out Hrg1.out (A4.out.2.2.2.2.1.gv Hhg.out) (A4.out.2.2.2.1.tree HT1.out)).mono ?_;rw[Hf1.out];rintro e w5 ⟨a5,c5,rfl,ho,hb⟩;have hx:Ext w4 w5:=hb;have A5:=Hd (A4.out.step hx);clear c1_0;clear c1_1;clear k2_0;obtain⟨c1_0,c1_1⟩:=C1.out;have c1_0:=A5.out.2.2.2.1.cell c1_0;have c1_1:=A5.out.2.2.2.1.cell c1_1;have k2_0:=K2.out;have k2_0:=A5.out.2.2.1.cell k2_0;have L5:Hid (Ints w5 a5 c5 [2,7]):=Hd (zq ho);clear ho;have A5:=Hd A5.out.new;clear hx hb A4)
  | (have:=A3;clear this;go_at_call 21;refine(kL ⟨na1,nc1,ia1,ic1⟩ T1 4 w3 Hbd1.out Hrg1.out (A3.out.2.2.2.1.gv Hhg.out) (A3.out.2.2.1.tree HT1.out)).mono ?_;rw[Hv1.out];rintro e w4 ⟨a4,c4,rfl,ho,hb⟩;have hx:Ext w3 w4:=hb;have A4:=Hd (A3.out.step hx);clear c1_0;clear c1_1;clear k2_0;obtain⟨c1_0,c1_1⟩:=C1.out;have c1_0:=A4.out.2.2.1.cell c1_0;have c1_1:=A4.out.2.2.1.cell c1_1;have k2_0:=K2.out;have k2_0:=A4.out.2.1.cell k2_0;have L4:Hid (Ints w4 a4 c4 [2,7]):=Hd (zq ho);clear ho;have A4:=Hd A4.out.new;clear hx hb A3)
  | (have:=A2;clear this;go_at_call 20;refine(qU ⟨na1,nc1,ia1,ic1⟩ T1 2 (w2.alloc (.cells #[.slice a2 9 c2] 30)) Hbd1.out Hrg1.out (A2.out.2.2.1.gv Hhg.out) (A2.out.2.1.tree HT1.out)).mono ?_;rw[Hu1.out];rintro e w3 ⟨a3,c3,rfl,ho,hb⟩;have hx:Ext (w2.alloc (.cells #[.slice a2 9 c2] 30)) w3:=hb;have A3:=Hd (A2.out.step hx);clear c1_0;clear c1_1;obtain⟨c1_0,c1_1⟩:=C1.out;have c1_0:=A3.out.2.1.cell c1_0;have c1_1:=A3.out.2.1.cell c1_1;have k2_0:=K2.out;have k2_0:=A3.out.1.cell k2_0;have L3:Hid (Ints w3 a3 c3 [3,5]):=Hd (zq ho);clear ho;have A3:=Hd A3.out.new;clear hx hb A2)
  | (have:=A1;clear this;go_at_call 16;refine(iD ⟨na1,nc1,ia1,ic1⟩ T1 (w1.alloc (.cells #[.slice na1 T1.nodes.length nc1,.slice ia1 T1.items.length ic1] 25)) Hbd1.out Hrg1.out (A1.out.2.1.gv Hhg.out) HT1.out).mono ?_;rw[Hr1.out];rintro e w2 ⟨a2,c2,rfl,ho,hb⟩;have hx:Ext (w1.alloc (.cells #[.slice na1 T1.nodes.length nc1,.slice ia1 T1.items.length ic1] 25)) w2:=hb;have A2:=Hd ((A1.out.step hx).al (.cells #[.slice a2 9 c2] 30)).new;obtain⟨c1_0,c1_1⟩:=C1.out;have c1_0:=A2.out.2.1.cell c1_0;have c1_1:=A2.out.2.1.cell c1_1;have K2:Hid ((w2.alloc (.cells #[.slice a2 9 c2] 30)).cell? ⟨w2.heap.size,0,none⟩=_):=Hd (zG rfl);have L2:Hid (Ints (w2.alloc (.cells #[.slice a2 9 c2] 30)) a2 c2 [-1,-1,-1,2,7,2,-1,-1,-1]):=Hd (((Ext.refl w2).alloc _).ints (zq ho));clear ho;clear hx hb A1)
  | (have:=A0;clear this;go_at_call 50;refine(nX [99,104,111,111,115,101,32,100,58,32,49,46,46,54,59,32,108,101,116,32,115,32,61,32,108,101,116,32,120,32,61,32,100,32,105,110,32,120,32,43,32,100,59] T1 w (by decide) (A0.out.1.gv Hhg.out) Hp1.out).mono ?_;rintro e w1 ⟨⟨na1,nc1,ia1,ic1⟩,rfl,ht,hb⟩;have hx:Ext w w1:=hb;have A1:=Hd ((A0.out.step hx).al (.cells #[.slice na1 T1.nodes.length nc1,.slice ia1 T1.items.length ic1] 25)).new;have C1:Hid ((w1.alloc (.cells #[.slice na1 T1.nodes.length nc1,.slice ia1 T1.items.length ic1] 25)).cell? ⟨w1.heap.size,0,none⟩=_∧(w1.alloc (.cells #[.slice na1 T1.nodes.length nc1,.slice ia1 T1.items.length ic1] 25)).cell? ⟨w1.heap.size,1,none⟩=_):=Hd ⟨zG rfl,zG rfl⟩;unfold TreeV.val;have HT1:Hid (IsTree (w1.alloc (.cells #[.slice na1 T1.nodes.length nc1,.slice ia1 T1.items.length ic1] 25)) ⟨na1,nc1,ia1,ic1⟩ T1):=Hd (((Ext.refl w1).alloc _).tree ht);clear ht;clear hx hb A0))
 go_ret;exact⟨rfl,A18.out.2.2.2.2.2.2.2.1⟩
theorem NG:kT2=[102,117,110,32,102,40,110,58,32,105,110,116,41,58,32,105,110,116,32,61,32,102,40,110,41,59]:=by decide +kernel
theorem NH:kT3=[108,101,116,32,97,32,61,32,49,59,32,108,101,116,32,98,32,61,32,50,59,32,108,101,116,32,99,32,61,32,97,32,43,32,97,59]:=by decide +kernel
theorem zW(w:World)(hg:GV w):Calls prog 14 #[] w (zn w true):=
 GW w hg _ _ _ JO (NG▸JP) (NH▸JQ) JR JU JV JK JL JM JW JS JT (fun M h1 h2=>JN h1 h2)
theorem kT{w:World}{t:Tr}{e:Ending}{w':World}(h:DM w t e w'):∃v:TreeV,e=.returned (v.val t)∧IsTree w' v t∧Below w.heap.size w w':=by
 obtain⟨v,B,ks,he,-,ho,hi,-,hb⟩:=h;exact⟨v,he,⟨ho.nodes,hi⟩,hb⟩
theorem iH(w:World)(v:TreeV)(t:Tr):Ext w (boxT w v t):=(Ext.refl w).alloc _
end
end Go.Proofs.YtipjhljnkocioaaGreatDoor
