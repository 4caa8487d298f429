/- Part of a proof. -/
import Derived.Test.YtipjhljnkocioaaGreatDoorA11
import Derived.Test.YtipjhljnkocioaaGreatDoorA32
import Derived.Test.YtipjhljnkocioaaGreatDoorA40
import Derived.Test.YtipjhljnkocioaaGreatDoorA41
set_option maxRecDepth 100000
set_option maxHeartbeats 8000000
set_option linter.unusedVariables false
set_option linter.unusedSimpArgs false
namespace Go.Proofs.YtipjhljnkocioaaGreatDoor
section
open Go Go.RowKit
def kT1:List UInt8:=[99,104,111,111,115,101,32,100,58,32,49,46,46,54,59,32,108,101,116,32,115,32,61,32,108,101,116,32,120,32,61,32,100,32,105,110,32,120,32,43,32,100,59]
def kT2:List UInt8 := "fun f(n: int): int = f(n);".toUTF8.toList
def kT3:List UInt8 := "let a = 1; let b = 2; let c = a + a;".toUTF8.toList
def okT (s:List UInt8):Option Tr:=match ybq s with | .ok t=>some t | _=>none
def ycy (s:List UInt8):Tr:=(okT s).getD ⟨[],[]⟩
theorem yg6 {s:List UInt8}(h:(okT s).isSome=true):ybq s = .ok (ycy s):=by
 unfold ycy
 cases e:ybq s with
 | error p=>unfold okT at h;rw [e] at h;cases h
 | ok t=>unfold okT;rw [e];rfl
theorem ynr:ybq kT1 = .ok (ycy kT1):=yg6 (by decide +kernel)
theorem yns:ybq kT2 = .ok (ycy kT2):=yg6 (by decide +kernel)
theorem ynt:ybq kT3 = .ok (ycy kT3):=yg6 (by decide +kernel)
theorem ynu:ze (ycy kT1)=([-1,-1,-1,2,7,2,-1,-1,-1],0,0):=by decide +kernel
theorem ynx:yip (ycy kT1) 2=([3,5],0):=by decide +kernel
theorem yny:visU (ycy kT1) 4=([2,7],0):=by decide +kernel
theorem ynn:yhN (ycy kT1) 6=([2,7],0):=by decide +kernel
theorem ynv:ze (ycy kT2)=([],4,9):=by decide +kernel
theorem ynw:yfL (ycy kT3) 2=0:=by decide +kernel
def errT (r:Except Int Tr):Int:=match r with | .error e=>e | .ok _=>0
theorem ylD {r:Except Int Tr}{e:Int}(h:errT r=e)(h0:e≠0):r = .error e:=by
 cases r with
 | error x=>rw [show x=e from h]
 | ok t=>exact absurd h.symm h0
theorem yno:renU (ycy kT1) 7 [100] = .error 9:=ylD (by decide +kernel) (by decide)
theorem ynp:renU (ycy kT1) 7 [108,101,116] = .error 4:=ylD (by decide +kernel) (by decide)
theorem ynz:ydg (ycy kT1)=([8],0):=by decide +kernel
end
section
open Go Go.RowKit
def nsL (t:Tr)(l:List Int)(item:Int):Nat→List Int
 | 0=>[item]
 | m+1=>nsL t l item m++(if (nsL t l item m).contains (item-m) then ((List.range t.nodes.length).filter fun n=>zU t (n:Nat)==item-m&&l.getD n 0 != -1).map fun n=>zU t (l.getD n 0) else [])
theorem yg4 (t:Tr)(l:List Int)(item:Int):∀ (m:Nat) (x:Int),x∈nsL t l item m↔NS t l item m x
 | 0,x=>by simp [nsL,NS]
 | m+1,x=>by
   rw [nsL,List.mem_append,yg4 t l item m,ygO];refine or_congr_right ?_;by_cases hc:(nsL t l item m).contains (item-m)=true
   ·rw [if_pos hc]
    have hy:NS t l item m (item-m):=(yg4 t l item m _).1 (List.contains_iff_mem.1 hc);constructor
    ·intro h
     obtain ⟨n,hn,rfl⟩:=List.mem_map.1 h;obtain ⟨h1,h2⟩:=List.mem_filter.1 hn;simp only [Bool.and_eq_true,beq_iff_eq,bne_iff_ne,ne_eq] at h2;exact ⟨hy,n,List.mem_range.1 h1,h2.1,h2.2,rfl⟩
    ·rintro ⟨-,n,h1,h2,h3,rfl⟩
     refine List.mem_map.2 ⟨n,List.mem_filter.2 ⟨List.mem_range.2 h1,?_⟩,rfl⟩;simp only [Bool.and_eq_true,beq_iff_eq,bne_iff_ne,ne_eq];exact ⟨h2,h3⟩
   ·rw [if_neg hc]
    constructor
    ·intro h;cases h
    ·rintro ⟨hy,-⟩
     exact absurd (List.contains_iff_mem.2 ((yg4 t l item m _).2 hy)) hc
theorem ynm:nsL (ycy kT3) (zi (ycy kT3) (ycy kT3).nodes.length) 2 3=[2,0,0]:=by decide +kernel
theorem ynq {M:List Int}(hn:M.Nodup)(hm:∀ x,x∈M↔x≠2∧NS (ycy kT3) (zi (ycy kT3) (ycy kT3).nodes.length) 2 (Int.toNat 2+1) x):ybr M=[0]:=by
 have h:∀ x,x∈M↔x∈[(0:Int)]:=fun x=>by
  rw [hm,show Int.toNat 2+1=3 from rfl,← yg4,ynm];simp;omega
 have hp:M.Perm [0]:=(List.perm_ext_iff_of_nodup hn (by simp)).2 h;exact (yaZ ((ybz M).trans hp) (ybl _)).trans (by decide)
end
section
open Go Go.RowKit
theorem yfa (s:List UInt8)(t:Tr)(w:World)(hs:s.length≤1000000000)(hg:GV w)(hp:ybq s = .ok t) :
 Calls Tryz.prog 50 #[strV s] w fun e w'=>∃ v:TreeV,e = .returned (.tuple #[v.val t,.bool true])∧IsTree w' v t∧Below w.heap.size w w':=by
 have hb0:Below w.heap.size w (w.alloc (.cells #[.slice none 0 0,.slice none 0 0] 25)):=(Below.refl _ w).alloc nlr _;have hP:=yiM s _ hs (hg.mono hb0 nlr);rw [hp] at hP;have HP:=Hd hP;have HB0:=Hd hb0;have hsz:(w.alloc (.cells #[.slice none 0 0,.slice none 0 0] 25)).heap.size=w.heap.size+1:=by simp
 have HSZ:=Hd hsz;clear hP hb0 hsz hg hp;go_enter Tryz.func50,Tryz.ntmps50
 go_wp2_with (go_at_call 86;refine HP.out.mono ?_;rintro e w2 ⟨⟨na,nc,ia,ic⟩,rfl,ht,hb2⟩;rw [HSZ.out] at hb2;unfold TreeV.val;have hb3:=hb2.alloc (by have:=hb2.size;rw [HSZ.out] at this;exact this) (.cells #[.slice na t.nodes.length nc,.slice ia t.items.length ic] 25);have hh:=(hb3.block w.heap.size (by omega)).trans (World.alloc_heap_new w (.cells #[.slice none 0 0,.slice none 0 0] 25));have r0:=zb (i:=0) (v:=.slice none 0 0) hh rfl;have r1:=zb (i:=1) (v:=.slice none 0 0) hh rfl;have f0:=zN (i:=0) hh;have f1:=zN (i:=1) hh;have ht3:=ht.mono ((Below.refl _ w2).alloc nlr (.cells #[.slice na t.nodes.length nc,.slice ia t.items.length ic] 25)) nlr;have HTA:=Hd (TreeAt.put (v:=⟨na,nc,ia,ic⟩) r0 r1 f0 f1 (ycs hb3) ht3 (HB0.out.trans (hb3.mono (by omega))));clear hb2 hb3 hh ht ht3)
 obtain ⟨k0,k1,-,-,-,ht,hb⟩:=HTA.out;unfold put2 at k0 k1;refine bodyPost_ret (v:=.tuple #[.agg #[.slice na t.nodes.length nc,.slice ia t.items.length ic],.bool true]) (by simp [results,Tryz.results50,go_sem,loadVar,k0,k1,Result.andThen]) rfl ⟨⟨na,nc,ia,ic⟩,rfl,ht,hb⟩
end
section
open Go Go.RowKit
theorem yfO {s:List UInt8}{t:Tr}(h:ybq s = .ok t):Bd t∧Rg t:=by
 unfold ybq yh7 at h
 cases hr:yeB s with
 | error e=>rw [hr] at h;cases h
 | ok l=>
   rw [hr] at h;simp only at h;obtain ⟨tk,hs⟩:=yjG hr;have hok:yeo ⟨l,s.length⟩:=fun t ht hk=>(yey (tk.tok t ht hk)).2
   cases ht:yeY ⟨l,(s.length:Int)⟩ with
   | error p=>rw [ht] at h;cases h
   | ok t'=>
     rw [ht] at h;simp only at h;have tok:=yjO hok ht;have hb:Bd t':=tok.bd tk.many (fun x hx=>Nat.le_trans (tk.text x hx) (by omega));split at h
     ·cases h
     ·split at h
      ·cases h
      ·split at h
       ·cases h
       ·cases h;exact ⟨hb,tok.rg⟩
end
section
open Go Go.RowKit
def Ext (a b:World):Prop:=Below a.heap.size a b
theorem Ext.refl (a:World):Ext a a:=Below.refl _ a
theorem Ext.trans {a b c:World}(h:Ext a b)(k:Ext b c):Ext a c:=Below.trans h (Below.mono k (Below.size h))
theorem Ext.alloc {a b:World}(h:Ext a b)(o:Obj):Ext a (b.alloc o):=Below.alloc h (Below.size h) o
theorem Ext.cell {a b:World}(h:Ext a b){p:Addr}{v:Value}(hc:a.cell? p=some v):b.cell? p=some v:=(Below.cell h (World.block_lt_of_cell? a p hc)).trans hc
theorem Ext.tree {a b:World}(h:Ext a b){v:TreeV}{t:Tr}(ht:IsTree a v t):IsTree b v t:=ht.mono h nlr
theorem Ext.ints {a b:World}(h:Ext a b){x:Option Addr}{c:Nat}{l:List Int}(ht:Ints a x c l):Ints b x c l:=Row.mono ht h nlr
theorem Ext.gv {a b:World}(h:Ext a b)(hg:GV a):GV b:=hg.mono h nlr
theorem ybT {W:World}{cs:Array Value}{T:TypeId}{i:Nat}{v:Value}(h:cs[i]?=some v):(W.alloc (.cells cs T)).cell? ⟨W.heap.size,i,none⟩=some v:=zb (World.alloc_heap_new W _) h
theorem ycv (W:World)(l:List Int){n:Nat}(hn:n=l.length):Row 1 (W.alloc (.cells (zn l).toArray 3)) (some ⟨W.heap.size,0,none⟩) l.length n (zn l):=Row.made W (zn l) _ (by simp [zn]) (by omega)
def Al:List World→World→Prop
 | [],_=>True
 | a::l,X=>Ext a X∧Al l X
theorem Al.step:∀ {l:List World}{X Y:World},Al l X→Ext X Y→Al l Y
 | [],_,_,_,_=>trivial
 | _::_,_,_,h,k=>⟨h.1.trans k,Al.step h.2 k⟩
theorem Al.al {l:List World}{X:World}(h:Al l X)(o:Obj):Al l (X.alloc o):=h.step ((Ext.refl X).alloc o)
theorem Al.new {l:List World}{X:World}(h:Al l X):Al (X::l) X:=⟨Ext.refl X,h⟩
theorem ymL (w:World)(hg:GV w)(T1 T2 T3:Tr)(p1:ybq [99,104,111,111,115,101,32,100,58,32,49,46,46,54,59,32,108,101,116,32,115,32,61,32,108,101,116,32,120,32,61,32,100,32,105,110,32,120,32,43,32,100,59] = .ok T1)(p2:ybq [102,117,110,32,102,40,110,58,32,105,110,116,41,58,32,105,110,116,32,61,32,102,40,110,41,59] = .ok T2)(p3:ybq [108,101,116,32,97,32,61,32,49,59,32,108,101,116,32,98,32,61,32,50,59,32,108,101,116,32,99,32,61,32,97,32,43,32,97,59] = .ok T3)
 (r1:ze T1=([-1,-1,-1,2,7,2,-1,-1,-1],0,0))(u1:yip T1 2=([3,5],0))(v1:visU T1 4=([2,7],0))(f1:yhN T1 6=([2,7],0))(n1:renU T1 7 [100] = .error 9)(n2:renU T1 7 [108,101,116] = .error 4)(x1:ydg T1=([8],0))
 (r2:ze T2=([],4,9))(r3:yfL T3 2=0)
 (n3:∀ M:List Int,M.Nodup→(∀ x,x∈M↔x≠2∧NS T3 (zi T3 T3.nodes.length) 2 (Int.toNat 2+1) x)→ybr M=[0]) :
 Calls Tryz.prog 14 #[] w (zq w true):=by
 obtain ⟨bd1,rg1⟩:=yfO p1;obtain ⟨bd2,rg2⟩:=yfO p2;obtain ⟨bd3,rg3⟩:=yfO p3;have Hbd1:=Hd bd1;have Hrg1:=Hd rg1;have Hbd2:=Hd bd2;have Hrg2:=Hd rg2;have Hbd3:=Hd bd3;have Hrg3:=Hd rg3;have Hp1:=Hd p1;have Hp2:=Hd p2;have Hp3:=Hd p3;have Hr1:=Hd r1;have Hu1:=Hd u1;have Hv1:=Hd v1;have Hf1:=Hd f1;have Hn1:=Hd n1;have Hn2:=Hd n2;have Hx1:=Hd x1;have Hr2:=Hd r2;have Hr3:=Hd r3;have Hn3:=Hd n3;have Hhg:=Hd hg;clear bd1 rg1 bd2 rg2 bd3 rg3 p1 p2 p3 r1 u1 v1 f1 n1 n2 x1 r2 r3 n3 hg;have A0:Hid (Al [w] w):=Hd ⟨Ext.refl w,trivial⟩;go_enter Tryz.func14,Tryz.ntmps14
 go_wp2_with (first
  | (have:=A17;clear this;go_at_call 19;refine (yaU a12 (some ⟨w17.heap.size,0,none⟩) c12 1 [0] [0] (w17.alloc (.cells #[.int .i64 0] 3)) (by decide) (by decide) ((A17.out.1.alloc _).ints L12.out) (ycv w17 [0] rfl)).mono ?_;rw [show (([0]:List Int)==[0])=true from by decide];rintro e w18 ⟨rfl,hb⟩;have hx:Ext (w17.alloc (.cells #[.int .i64 0] 3)) w18:=hb;have hx:=((Ext.refl w17).alloc _).trans hx;have A18:=Hd (A17.out.step hx);clear c1_0;clear c1_1;clear k2_0;obtain ⟨c1_0,c1_1⟩:=C1.out;have c1_0:=A18.out.2.2.2.2.2.2.1.cell c1_0;have c1_1:=A18.out.2.2.2.2.2.2.1.cell c1_1;have k2_0:=K2.out;have k2_0:=A18.out.2.2.2.2.2.1.cell k2_0;clear hx hb A17)
  | (have:=A16;clear this;go_at_call 19;refine (yaU a8 (some ⟨w16.heap.size,0,none⟩) c8 1 [8] [8] (w16.alloc (.cells #[.int .i64 8] 3)) (by decide) (by decide) ((A16.out.2.1.alloc _).ints L8.out) (ycv w16 [8] rfl)).mono ?_;rw [show (([8]:List Int)==[8])=true from by decide];rintro e w17 ⟨rfl,hb⟩;have hx:Ext (w16.alloc (.cells #[.int .i64 8] 3)) w17:=hb;have hx:=((Ext.refl w16).alloc _).trans hx;have A17:=Hd (A16.out.step hx);clear c1_0;clear c1_1;clear k2_0;obtain ⟨c1_0,c1_1⟩:=C1.out;have c1_0:=A17.out.2.2.2.2.2.2.1.cell c1_0;have c1_1:=A17.out.2.2.2.2.2.2.1.cell c1_1;have k2_0:=K2.out;have k2_0:=A17.out.2.2.2.2.2.1.cell k2_0;clear hx hb A16)
  | (have:=A15;clear this;go_at_call 19;refine (yaU a5 (some ⟨w15.heap.size,0,none⟩) c5 2 [2,7] [2,7] (w15.alloc (.cells #[.int .i64 2,.int .i64 7] 3)) (by decide) (by decide) ((A15.out.2.2.1.alloc _).ints L5.out) (ycv w15 [2,7] rfl)).mono ?_;rw [show (([2,7]:List Int)==[2,7])=true from by decide];rintro e w16 ⟨rfl,hb⟩;have hx:Ext (w15.alloc (.cells #[.int .i64 2,.int .i64 7] 3)) w16:=hb;have hx:=((Ext.refl w15).alloc _).trans hx;have A16:=Hd (A15.out.step hx);clear c1_0;clear c1_1;clear k2_0;obtain ⟨c1_0,c1_1⟩:=C1.out;have c1_0:=A16.out.2.2.2.2.2.2.1.cell c1_0;have c1_1:=A16.out.2.2.2.2.2.2.1.cell c1_1;have k2_0:=K2.out;have k2_0:=A16.out.2.2.2.2.2.1.cell k2_0;clear hx hb A15)
  | (have:=A14;clear this;go_at_call 19;refine (yaU a4 (some ⟨w14.heap.size,0,none⟩) c4 2 [2,7] [2,7] (w14.alloc (.cells #[.int .i64 2,.int .i64 7] 3)) (by decide) (by decide) ((A14.out.2.2.2.1.alloc _).ints L4.out) (ycv w14 [2,7] rfl)).mono ?_;rw [show (([2,7]:List Int)==[2,7])=true from by decide];rintro e w15 ⟨rfl,hb⟩;have hx:Ext (w14.alloc (.cells #[.int .i64 2,.int .i64 7] 3)) w15:=hb;have hx:=((Ext.refl w14).alloc _).trans hx;have A15:=Hd (A14.out.step hx);clear c1_0;clear c1_1;clear k2_0;obtain ⟨c1_0,c1_1⟩:=C1.out;have c1_0:=A15.out.2.2.2.2.2.2.1.cell c1_0;have c1_1:=A15.out.2.2.2.2.2.2.1.cell c1_1;have k2_0:=K2.out;have k2_0:=A15.out.2.2.2.2.2.1.cell k2_0;clear hx hb A14)
  | (have:=A13;clear this;go_at_call 19;refine (yaU a3 (some ⟨w13.heap.size,0,none⟩) c3 2 [3,5] [3,5] (w13.alloc (.cells #[.int .i64 3,.int .i64 5] 3)) (by decide) (by decide) ((A13.out.2.2.2.2.1.alloc _).ints L3.out) (ycv w13 [3,5] rfl)).mono ?_;rw [show (([3,5]:List Int)==[3,5])=true from by decide];rintro e w14 ⟨rfl,hb⟩;have hx:Ext (w13.alloc (.cells #[.int .i64 3,.int .i64 5] 3)) w14:=hb;have hx:=((Ext.refl w13).alloc _).trans hx;have A14:=Hd (A13.out.step hx);clear c1_0;clear c1_1;clear k2_0;obtain ⟨c1_0,c1_1⟩:=C1.out;have c1_0:=A14.out.2.2.2.2.2.2.1.cell c1_0;have c1_1:=A14.out.2.2.2.2.2.2.1.cell c1_1;have k2_0:=K2.out;have k2_0:=A14.out.2.2.2.2.2.1.cell k2_0;clear hx hb A13)
  | (have:=A12;clear this;go_at_call 19;refine (yaU a2 (some ⟨w12.heap.size,0,none⟩) c2 9 [-1,-1,-1,2,7,2,-1,-1,-1] [-1,-1,-1,2,7,2,-1,-1,-1] (w12.alloc (.cells #[.int .i64 (-1),.int .i64 (-1),.int .i64 (-1),.int .i64 2,.int .i64 7,.int .i64 2,.int .i64 (-1),.int .i64 (-1),.int .i64 (-1)] 3)) (by decide) (by decide) (((A12.out.2.2.2.2.2.1.alloc _)).ints L2.out) (ycv w12 [-1,-1,-1,2,7,2,-1,-1,-1] rfl)).mono ?_;rw [show (([-1,-1,-1,2,7,2,-1,-1,-1]:List Int)==[-1,-1,-1,2,7,2,-1,-1,-1])=true from by decide];rintro e w13 ⟨rfl,hb⟩;have hx:Ext (w12.alloc (.cells #[.int .i64 (-1),.int .i64 (-1),.int .i64 (-1),.int .i64 2,.int .i64 7,.int .i64 2,.int .i64 (-1),.int .i64 (-1),.int .i64 (-1)] 3)) w13:=hb;have hx:=((Ext.refl w12).alloc _).trans hx;have A13:=Hd (A12.out.step hx);clear c1_0;clear c1_1;clear k2_0;obtain ⟨c1_0,c1_1⟩:=C1.out;have c1_0:=A13.out.2.2.2.2.2.2.1.cell c1_0;have c1_1:=A13.out.2.2.2.2.2.2.1.cell c1_1;have k2_0:=K2.out;have k2_0:=A13.out.2.2.2.2.2.1.cell k2_0;clear hx hb A12)
  | (have:=A11;clear this;go_at_call 32;refine (yiE ⟨na11,nc11,ia11,ic11⟩ T3 2 (w11.alloc (.cells #[.slice na11 T3.nodes.length nc11,.slice ia11 T3.items.length ic11] 25)) Hbd3.out Hrg3.out (A11.out.2.2.2.2.2.2.1.gv Hhg.out) HT3.out (by decide)).mono ?_;rintro e w12 (⟨-,M,hM1,hM2,h9⟩ | ⟨h9,-⟩);rotate_left;(exact absurd Hr3.out h9);rw [Hn3.out M hM1 hM2] at h9;obtain ⟨a12,c12,rfl,ho,hb⟩:=h9;have hx:Ext (w11.alloc (.cells #[.slice na11 T3.nodes.length nc11,.slice ia11 T3.items.length ic11] 25)) w12:=hb;have A12:=Hd (A11.out.step hx);clear c1_0;clear c1_1;clear k2_0;obtain ⟨c1_0,c1_1⟩:=C1.out;have c1_0:=A12.out.2.2.2.2.2.1.cell c1_0;have c1_1:=A12.out.2.2.2.2.2.1.cell c1_1;have k2_0:=K2.out;have k2_0:=A12.out.2.2.2.2.1.cell k2_0;have L12:Hid (Ints w12 a12 c12 [0]):=Hd (zE ho);clear ho hM1 hM2;have A12:=Hd A12.out.new;clear hx hb A11)
  | (have:=A10;clear this;go_at_call 50;refine (yfa [108,101,116,32,97,32,61,32,49,59,32,108,101,116,32,98,32,61,32,50,59,32,108,101,116,32,99,32,61,32,97,32,43,32,97,59] T3 (w10.alloc (.cells #[.slice a10 0 c10] 30)) (by decide) (A10.out.2.2.2.2.2.2.1.gv Hhg.out) Hp3.out).mono ?_;rintro e w11 ⟨⟨na11,nc11,ia11,ic11⟩,rfl,ht,hb⟩;have hx:Ext (w10.alloc (.cells #[.slice a10 0 c10] 30)) w11:=hb;have A11:=Hd ((A10.out.step hx).al (.cells #[.slice na11 T3.nodes.length nc11,.slice ia11 T3.items.length ic11] 25));clear c1_0;clear c1_1;clear k2_0;obtain ⟨c1_0,c1_1⟩:=C1.out;have c1_0:=A11.out.2.2.2.2.2.1.cell c1_0;have c1_1:=A11.out.2.2.2.2.2.1.cell c1_1;have k2_0:=K2.out;have k2_0:=A11.out.2.2.2.2.1.cell k2_0;unfold TreeV.val;have HT3:Hid (IsTree (w11.alloc (.cells #[.slice na11 T3.nodes.length nc11,.slice ia11 T3.items.length ic11] 25)) ⟨na11,nc11,ia11,ic11⟩ T3):=Hd (((Ext.refl w11).alloc _).tree ht);clear ht;clear hx hb A10)
  | (have:=A9;clear this;go_at_call 16;refine (ycW ⟨na9,nc9,ia9,ic9⟩ T2 (w9.alloc (.cells #[.slice na9 T2.nodes.length nc9,.slice ia9 T2.items.length ic9] 25)) Hbd2.out Hrg2.out (A9.out.2.2.2.2.2.2.1.gv Hhg.out) HT2.out).mono ?_;rw [Hr2.out];rintro e w10 ⟨a10,c10,rfl,ho,hb⟩;have hx:Ext (w9.alloc (.cells #[.slice na9 T2.nodes.length nc9,.slice ia9 T2.items.length ic9] 25)) w10:=hb;have A10:=Hd ((A9.out.step hx).al (.cells #[.slice a10 0 c10] 30));clear c1_0;clear c1_1;clear k2_0;obtain ⟨c1_0,c1_1⟩:=C1.out;have c1_0:=A10.out.2.2.2.2.2.1.cell c1_0;have c1_1:=A10.out.2.2.2.2.2.1.cell c1_1;have k2_0:=K2.out;have k2_0:=A10.out.2.2.2.2.1.cell k2_0;clear ho;clear hx hb A9)
  | (have:=A8;clear this;go_at_call 50;refine (yfa [102,117,110,32,102,40,110,58,32,105,110,116,41,58,32,105,110,116,32,61,32,102,40,110,41,59] T2 w8 (by decide) (A8.out.2.2.2.2.2.2.1.gv Hhg.out) Hp2.out).mono ?_;rintro e w9 ⟨⟨na9,nc9,ia9,ic9⟩,rfl,ht,hb⟩;have hx:Ext w8 w9:=hb;have A9:=Hd ((A8.out.step hx).al (.cells #[.slice na9 T2.nodes.length nc9,.slice ia9 T2.items.length ic9] 25));clear c1_0;clear c1_1;clear k2_0;obtain ⟨c1_0,c1_1⟩:=C1.out;have c1_0:=A9.out.2.2.2.2.2.1.cell c1_0;have c1_1:=A9.out.2.2.2.2.2.1.cell c1_1;have k2_0:=K2.out;have k2_0:=A9.out.2.2.2.2.1.cell k2_0;unfold TreeV.val;have HT2:Hid (IsTree (w9.alloc (.cells #[.slice na9 T2.nodes.length nc9,.slice ia9 T2.items.length ic9] 25)) ⟨na9,nc9,ia9,ic9⟩ T2):=Hd (((Ext.refl w9).alloc _).tree ht);clear ht;clear hx hb A8)
  | (have:=A7;clear this;go_at_call 31;refine (yhq ⟨na1,nc1,ia1,ic1⟩ T1  (w7.alloc (.cells #[.slice none 0 0,.slice none 0 0] 25)) Hbd1.out Hrg1.out (A7.out.2.2.2.2.2.1.gv Hhg.out) (A7.out.2.2.2.2.1.tree HT1.out)).mono ?_;rw [Hx1.out];rintro e w8 ⟨a8,c8,rfl,ho,hb⟩;have hx:Ext (w7.alloc (.cells #[.slice none 0 0,.slice none 0 0] 25)) w8:=hb;have A8:=Hd (A7.out.step hx);clear c1_0;clear c1_1;clear k2_0;obtain ⟨c1_0,c1_1⟩:=C1.out;have c1_0:=A8.out.2.2.2.2.1.cell c1_0;have c1_1:=A8.out.2.2.2.2.1.cell c1_1;have k2_0:=K2.out;have k2_0:=A8.out.2.2.2.1.cell k2_0;have L8:Hid (Ints w8 a8 c8 [8]):=Hd (zE ho);clear ho;have A8:=Hd A8.out.new;clear hx hb A7)
  | (have:=A6;clear this;go_at_call 29;refine (yeI ⟨na1,nc1,ia1,ic1⟩ T1 7 [108,101,116] (w6.alloc (.cells #[.slice none 0 0,.slice none 0 0] 25)) Hbd1.out Hrg1.out (A6.out.2.2.2.2.2.1.gv Hhg.out) (by decide) (A6.out.2.2.2.2.1.tree HT1.out)).mono ?_;rw [Hn2.out];rintro e w7 ⟨rfl,hb⟩;have hx:Ext (w6.alloc (.cells #[.slice none 0 0,.slice none 0 0] 25)) w7:=hb;have A7:=Hd ((A6.out.step hx).al (.cells #[.slice none 0 0,.slice none 0 0] 25));clear c1_0;clear c1_1;clear k2_0;obtain ⟨c1_0,c1_1⟩:=C1.out;have c1_0:=A7.out.2.2.2.2.1.cell c1_0;have c1_1:=A7.out.2.2.2.2.1.cell c1_1;have k2_0:=K2.out;have k2_0:=A7.out.2.2.2.1.cell k2_0;clear hx hb A6)
  | (have:=A5;clear this;go_at_call 29;refine (yeI ⟨na1,nc1,ia1,ic1⟩ T1 7 [100] w5 Hbd1.out Hrg1.out (A5.out.2.2.2.2.2.1.gv Hhg.out) (by decide) (A5.out.2.2.2.2.1.tree HT1.out)).mono ?_;rw [Hn1.out];rintro e w6 ⟨rfl,hb⟩;have hx:Ext w5 w6:=hb;have A6:=Hd ((A5.out.step hx).al (.cells #[.slice none 0 0,.slice none 0 0] 25));clear c1_0;clear c1_1;clear k2_0;obtain ⟨c1_0,c1_1⟩:=C1.out;have c1_0:=A6.out.2.2.2.2.1.cell c1_0;have c1_1:=A6.out.2.2.2.2.1.cell c1_1;have k2_0:=K2.out;have k2_0:=A6.out.2.2.2.1.cell k2_0;clear hx hb A5)
  | (have:=A4;clear this;go_at_call 22;refine (yjV ⟨na1,nc1,ia1,ic1⟩ T1 6 w4 Hbd1.out Hrg1.out (A4.out.2.2.2.2.1.gv Hhg.out) (A4.out.2.2.2.1.tree HT1.out)).mono ?_;rw [Hf1.out];rintro e w5 ⟨a5,c5,rfl,ho,hb⟩;have hx:Ext w4 w5:=hb;have A5:=Hd (A4.out.step hx);clear c1_0;clear c1_1;clear k2_0;obtain ⟨c1_0,c1_1⟩:=C1.out;have c1_0:=A5.out.2.2.2.1.cell c1_0;have c1_1:=A5.out.2.2.2.1.cell c1_1;have k2_0:=K2.out;have k2_0:=A5.out.2.2.1.cell k2_0;have L5:Hid (Ints w5 a5 c5 [2,7]):=Hd (zE ho);clear ho;have A5:=Hd A5.out.new;clear hx hb A4)
  | (have:=A3;clear this;go_at_call 21;refine (ygP ⟨na1,nc1,ia1,ic1⟩ T1 4 w3 Hbd1.out Hrg1.out (A3.out.2.2.2.1.gv Hhg.out) (A3.out.2.2.1.tree HT1.out)).mono ?_;rw [Hv1.out];rintro e w4 ⟨a4,c4,rfl,ho,hb⟩;have hx:Ext w3 w4:=hb;have A4:=Hd (A3.out.step hx);clear c1_0;clear c1_1;clear k2_0;obtain ⟨c1_0,c1_1⟩:=C1.out;have c1_0:=A4.out.2.2.1.cell c1_0;have c1_1:=A4.out.2.2.1.cell c1_1;have k2_0:=K2.out;have k2_0:=A4.out.2.1.cell k2_0;have L4:Hid (Ints w4 a4 c4 [2,7]):=Hd (zE ho);clear ho;have A4:=Hd A4.out.new;clear hx hb A3)
  | (have:=A2;clear this;go_at_call 20;refine (yjZ ⟨na1,nc1,ia1,ic1⟩ T1 2 (w2.alloc (.cells #[.slice a2 9 c2] 30)) Hbd1.out Hrg1.out (A2.out.2.2.1.gv Hhg.out) (A2.out.2.1.tree HT1.out)).mono ?_;rw [Hu1.out];rintro e w3 ⟨a3,c3,rfl,ho,hb⟩;have hx:Ext (w2.alloc (.cells #[.slice a2 9 c2] 30)) w3:=hb;have A3:=Hd (A2.out.step hx);clear c1_0;clear c1_1;obtain ⟨c1_0,c1_1⟩:=C1.out;have c1_0:=A3.out.2.1.cell c1_0;have c1_1:=A3.out.2.1.cell c1_1;have k2_0:=K2.out;have k2_0:=A3.out.1.cell k2_0;have L3:Hid (Ints w3 a3 c3 [3,5]):=Hd (zE ho);clear ho;have A3:=Hd A3.out.new;clear hx hb A2)
  | (have:=A1;clear this;go_at_call 16;refine (ycW ⟨na1,nc1,ia1,ic1⟩ T1 (w1.alloc (.cells #[.slice na1 T1.nodes.length nc1,.slice ia1 T1.items.length ic1] 25)) Hbd1.out Hrg1.out (A1.out.2.1.gv Hhg.out) HT1.out).mono ?_;rw [Hr1.out];rintro e w2 ⟨a2,c2,rfl,ho,hb⟩;have hx:Ext (w1.alloc (.cells #[.slice na1 T1.nodes.length nc1,.slice ia1 T1.items.length ic1] 25)) w2:=hb;have A2:=Hd ((A1.out.step hx).al (.cells #[.slice a2 9 c2] 30)).new;obtain ⟨c1_0,c1_1⟩:=C1.out;have c1_0:=A2.out.2.1.cell c1_0;have c1_1:=A2.out.2.1.cell c1_1;have K2:Hid ((w2.alloc (.cells #[.slice a2 9 c2] 30)).cell? ⟨w2.heap.size,0,none⟩=_):=Hd (ybT rfl);have L2:Hid (Ints (w2.alloc (.cells #[.slice a2 9 c2] 30)) a2 c2 [-1,-1,-1,2,7,2,-1,-1,-1]):=Hd (((Ext.refl w2).alloc _).ints (zE ho));clear ho;clear hx hb A1)
  | (have:=A0;clear this;go_at_call 50;refine (yfa [99,104,111,111,115,101,32,100,58,32,49,46,46,54,59,32,108,101,116,32,115,32,61,32,108,101,116,32,120,32,61,32,100,32,105,110,32,120,32,43,32,100,59] T1 w (by decide) (A0.out.1.gv Hhg.out) Hp1.out).mono ?_;rintro e w1 ⟨⟨na1,nc1,ia1,ic1⟩,rfl,ht,hb⟩;have hx:Ext w w1:=hb;have A1:=Hd ((A0.out.step hx).al (.cells #[.slice na1 T1.nodes.length nc1,.slice ia1 T1.items.length ic1] 25)).new;have C1:Hid ((w1.alloc (.cells #[.slice na1 T1.nodes.length nc1,.slice ia1 T1.items.length ic1] 25)).cell? ⟨w1.heap.size,0,none⟩=_∧(w1.alloc (.cells #[.slice na1 T1.nodes.length nc1,.slice ia1 T1.items.length ic1] 25)).cell? ⟨w1.heap.size,1,none⟩=_):=Hd ⟨ybT rfl,ybT rfl⟩;unfold TreeV.val;have HT1:Hid (IsTree (w1.alloc (.cells #[.slice na1 T1.nodes.length nc1,.slice ia1 T1.items.length ic1] 25)) ⟨na1,nc1,ia1,ic1⟩ T1):=Hd (((Ext.refl w1).alloc _).tree ht);clear ht;clear hx hb A0))
 go_ret;exact ⟨rfl,A18.out.2.2.2.2.2.2.2.1⟩
theorem yo1:kT2=[102,117,110,32,102,40,110,58,32,105,110,116,41,58,32,105,110,116,32,61,32,102,40,110,41,59]:=by decide +kernel
theorem yo2:kT3=[108,101,116,32,97,32,61,32,49,59,32,108,101,116,32,98,32,61,32,50,59,32,108,101,116,32,99,32,61,32,97,32,43,32,97,59]:=by decide +kernel
theorem yhi (w:World)(hg:GV w):Calls Tryz.prog 14 #[] w (zq w true):=
 ymL w hg _ _ _ ynr (yo1▸yns) (yo2▸ynt) ynu ynx yny ynn yno ynp ynz ynv ynw (fun M h1 h2=>ynq h1 h2)
end
section
open Go Go.RowKit
theorem ylx {w:World}{t:Tr}{e:Ending}{w':World}(h:yll w t e w'):∃ v:TreeV,e = .returned (v.val t)∧IsTree w' v t∧Below w.heap.size w w':=by
 obtain ⟨v,B,ks,he,-,ho,hi,-,hb⟩:=h;exact ⟨v,he,⟨ho.nodes,hi⟩,hb⟩
theorem ylu (w:World)(v:TreeV)(t:Tr):Ext w (boxT w v t):=(Ext.refl w).alloc _
theorem ygN (v:TreeV)(t:Tr)(w:World)(rg:Rg t)(hg:GV w)(h:IsTree w v t) :
 Calls Tryz.prog 3 #[v.val t] w (zq w true):=by
 have HT:Hid (IsTree (boxT w v t) v t):=Hd ((ylu w v t).tree h);have HG:=Hd hg;have A0:Hid (Al [boxT w v t,w] (boxT w v t)):=Hd ⟨Ext.refl _,ylu w v t,trivial⟩;have C0:Hid ((boxT w v t).cell? ⟨w.heap.size,0,none⟩=some (.slice v.na t.nodes.length v.nc)∧(boxT w v t).cell? ⟨w.heap.size,1,none⟩=some (.slice v.ia t.items.length v.ic)):=Hd ⟨ybT rfl,ybT rfl⟩
 cases hl:ydx t with
 | true=>
   have HL:=Hd hl;clear h hg hl;obtain ⟨na,nc,ia,ic⟩:=v;unfold TreeV.val;go_enter Tryz.func3,Tryz.ntmps3
   go_wp2_with (first
    | (have:=A1;clear this;go_at_call 14;refine (yhi w1 (A1.out.2.1.gv HG.out)).mono ?_;rintro e w2 ⟨rfl,hb⟩;have hx:Ext w1 w2:=hb;have A2:=Hd (A1.out.step hx);clear c0_0;clear c0_1;obtain ⟨c0_0,c0_1⟩:=C0.out;have c0_0:=A2.out.1.cell c0_0;have c0_1:=A2.out.1.cell c0_1;clear hx hb A1)
    | (have:=A0;clear this;go_at_call 13;refine (ygd ⟨na,nc,ia,ic⟩ t (boxT w ⟨na,nc,ia,ic⟩ t) HT.out).mono ?_;rw [HL.out];rintro e w1 ⟨rfl,hb⟩;have hx:Ext (boxT w ⟨na,nc,ia,ic⟩ t) w1:=hb;have A1:=Hd (A0.out.step hx);obtain ⟨c0_0,c0_1⟩:=C0.out;have c0_0:=A1.out.1.cell c0_0;have c0_1:=A1.out.1.cell c0_1;clear hx hb A0))
   go_ret;exact ⟨rfl,A2.out.2.1⟩
 | false=>
   have HL:=Hd hl;obtain ⟨bd,-,-⟩:=ynB hl;have HBD:=Hd bd;have HRG:=Hd rg;obtain ⟨r,hr⟩:∃ r,ze t=r:=⟨_,rfl⟩
   have HR:=Hd hr;have HRL:=Hd (show r.1.length≤1000000 from by rw [← hr];have:=yc7 t;have:=bd.n;omega);obtain ⟨l,nd,er⟩:=r;clear h hg hl bd rg hr;obtain ⟨na,nc,ia,ic⟩:=v;unfold TreeV.val;go_enter Tryz.func3,Tryz.ntmps3
   go_wp2_with (first
    | (have:=A6;clear this;go_at_call 14;refine (yhi w6 (A6.out.2.2.2.2.1.gv HG.out)).mono ?_;rintro e w7 ⟨rfl,hb⟩;have hx:Ext w6 w7:=hb;have A7:=Hd (A6.out.step hx);clear c0_0;clear c0_1;clear c2_0;clear c2_1;clear c3_0;clear c4_0;obtain ⟨c0_0,c0_1⟩:=C0.out;have c0_0:=A7.out.2.2.2.1.cell c0_0;have c0_1:=A7.out.2.2.2.1.cell c0_1;obtain ⟨c2_0,c2_1⟩:=C2.out;have c2_0:=A7.out.2.2.1.cell c2_0;have c2_1:=A7.out.2.2.1.cell c2_1;have c3_0:=C3.out;have c3_0:=A7.out.2.1.cell c3_0;have c4_0:=C4.out;have c4_0:=A7.out.1.cell c4_0;clear hx hb A6)
    | (have:=A5;clear this;go_at_call 19;refine (yaU a3 a4 c3 c4 l l w5 (Nat.le_trans (show l.length≤1000000 from HRL.out) (by decide)) (Nat.le_trans (show l.length≤1000000 from HRL.out) (by decide)) (A5.out.2.1.ints L3.out) (A5.out.1.ints L4.out)).mono ?_;rw [show (l==l)=true from by simp];rintro e w6 ⟨rfl,hb⟩;have hx:Ext w5 w6:=hb;have A6:=Hd (A5.out.step hx);clear c0_0;clear c0_1;clear c2_0;clear c2_1;clear c3_0;clear c4_0;obtain ⟨c0_0,c0_1⟩:=C0.out;have c0_0:=A6.out.2.2.2.1.cell c0_0;have c0_1:=A6.out.2.2.2.1.cell c0_1;obtain ⟨c2_0,c2_1⟩:=C2.out;have c2_0:=A6.out.2.2.1.cell c2_0;have c2_1:=A6.out.2.2.1.cell c2_1;have c3_0:=C3.out;have c3_0:=A6.out.2.1.cell c3_0;have c4_0:=C4.out;have c4_0:=A6.out.1.cell c4_0;clear hx hb A5)
    | (have:=A4;clear this;go_at_call 18;refine (yka ⟨na2,nc2,ia2,ic2⟩ ⟨na,nc,ia,ic⟩ t t (w4.alloc (.cells #[.slice a4 l.length c4] 30)) HBD.out HBD.out (A4.out.2.2.1.tree HT2.out) (A4.out.2.2.2.1.tree HT.out)).mono ?_;rw [show decide (t=t)=true from decide_eq_true rfl];rintro e w5 ⟨rfl,hb⟩;have hx:Ext (w4.alloc (.cells #[.slice a4 l.length c4] 30)) w5:=hb;have A5:=Hd (A4.out.step hx);clear c0_0;clear c0_1;clear c2_0;clear c2_1;clear c3_0;obtain ⟨c0_0,c0_1⟩:=C0.out;have c0_0:=A5.out.2.2.2.1.cell c0_0;have c0_1:=A5.out.2.2.2.1.cell c0_1;obtain ⟨c2_0,c2_1⟩:=C2.out;have c2_0:=A5.out.2.2.1.cell c2_0;have c2_1:=A5.out.2.2.1.cell c2_1;have c3_0:=C3.out;have c3_0:=A5.out.2.1.cell c3_0;have c4_0:=C4.out;have c4_0:=A5.out.1.cell c4_0;clear hx hb A4)
    | (have:=A3;clear this;go_at_call 17;refine (yeK ⟨na,nc,ia,ic⟩ t (w3.alloc (.cells #[.slice a3 l.length c3] 30)) HBD.out (yax HBD.out) (A3.out.2.2.1.tree HT.out)).mono ?_;rw [HR.out];rintro e w4 ⟨a4,c4,rfl,ho,hb⟩;have hx:Ext (w3.alloc (.cells #[.slice a3 l.length c3] 30)) w4:=hb;have A4:=Hd ((A3.out.step hx).al (.cells #[.slice a4 l.length c4] 30)).new;clear c0_0;clear c0_1;clear c2_0;clear c2_1;obtain ⟨c0_0,c0_1⟩:=C0.out;have c0_0:=A4.out.2.2.2.1.cell c0_0;have c0_1:=A4.out.2.2.2.1.cell c0_1;obtain ⟨c2_0,c2_1⟩:=C2.out;have c2_0:=A4.out.2.2.1.cell c2_0;have c2_1:=A4.out.2.2.1.cell c2_1;have c3_0:=C3.out;have c3_0:=A4.out.2.1.cell c3_0;have C4:Hid ((w4.alloc (.cells #[.slice a4 l.length c4] 30)).cell? ⟨w4.heap.size,0,none⟩=_):=Hd (ybT rfl);have L4:Hid (Ints (w4.alloc (.cells #[.slice a4 l.length c4] 30)) a4 c4 l):=Hd (((Ext.refl w4).alloc _).ints (zE ho));clear ho;clear hx hb A3)
    | (have:=A2;clear this;go_at_call 16;refine (ycW ⟨na2,nc2,ia2,ic2⟩ t (w2.alloc (.cells #[.slice na2 t.nodes.length nc2,.slice ia2 t.items.length ic2] 25)) HBD.out HRG.out (A2.out.2.2.1.gv HG.out) HT2.out).mono ?_;rw [HR.out];rintro e w3 ⟨a3,c3,rfl,ho,hb⟩;have hx:Ext (w2.alloc (.cells #[.slice na2 t.nodes.length nc2,.slice ia2 t.items.length ic2] 25)) w3:=hb;have A3:=Hd ((A2.out.step hx).al (.cells #[.slice a3 l.length c3] 30)).new;clear c0_0;clear c0_1;obtain ⟨c0_0,c0_1⟩:=C0.out;have c0_0:=A3.out.2.2.1.cell c0_0;have c0_1:=A3.out.2.2.1.cell c0_1;obtain ⟨c2_0,c2_1⟩:=C2.out;have c2_0:=A3.out.2.1.cell c2_0;have c2_1:=A3.out.2.1.cell c2_1;have C3:Hid ((w3.alloc (.cells #[.slice a3 l.length c3] 30)).cell? ⟨w3.heap.size,0,none⟩=_):=Hd (ybT rfl);have L3:Hid (Ints (w3.alloc (.cells #[.slice a3 l.length c3] 30)) a3 c3 l):=Hd (((Ext.refl w3).alloc _).ints (zE ho));clear ho;clear hx hb A2)
    | (have:=A1;clear this;go_at_call 15;refine (yhB ⟨na,nc,ia,ic⟩ t w1 HBD.out (A1.out.1.tree HT.out)).mono ?_;rintro e w2 h9;obtain ⟨⟨na2,nc2,ia2,ic2⟩,rfl,ht,hb⟩:=ylx h9;have hx:Ext w1 w2:=hb;have A2:=Hd ((A1.out.step hx).al (.cells #[.slice na2 t.nodes.length nc2,.slice ia2 t.items.length ic2] 25)).new;clear c0_0;clear c0_1;obtain ⟨c0_0,c0_1⟩:=C0.out;have c0_0:=A2.out.2.1.cell c0_0;have c0_1:=A2.out.2.1.cell c0_1;have C2:Hid ((w2.alloc (.cells #[.slice na2 t.nodes.length nc2,.slice ia2 t.items.length ic2] 25)).cell? ⟨w2.heap.size,0,none⟩=_∧(w2.alloc (.cells #[.slice na2 t.nodes.length nc2,.slice ia2 t.items.length ic2] 25)).cell? ⟨w2.heap.size,1,none⟩=_):=Hd ⟨ybT rfl,ybT rfl⟩;unfold TreeV.val;have HT2:Hid (IsTree (w2.alloc (.cells #[.slice na2 t.nodes.length nc2,.slice ia2 t.items.length ic2] 25)) ⟨na2,nc2,ia2,ic2⟩ t):=Hd (((Ext.refl w2).alloc _).tree ht);clear ht;clear hx hb A1)
    | (have:=A0;clear this;go_at_call 13;refine (ygd ⟨na,nc,ia,ic⟩ t (boxT w ⟨na,nc,ia,ic⟩ t) HT.out).mono ?_;rw [HL.out];rintro e w1 ⟨rfl,hb⟩;have hx:Ext (boxT w ⟨na,nc,ia,ic⟩ t) w1:=hb;have A1:=Hd (A0.out.step hx);obtain ⟨c0_0,c0_1⟩:=C0.out;have c0_0:=A1.out.1.cell c0_0;have c0_1:=A1.out.1.cell c0_1;clear hx hb A0))
   go_ret;exact ⟨rfl,A7.out.2.2.2.2.1⟩
end
end Go.Proofs.YtipjhljnkocioaaGreatDoor
