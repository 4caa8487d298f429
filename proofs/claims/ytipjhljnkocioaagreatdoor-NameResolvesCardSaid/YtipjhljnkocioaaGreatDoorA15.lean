/- Part of a proof. -/
import Derived.Test.YtipjhljnkocioaaGreatDoorA14
set_option maxRecDepth 100000
set_option maxHeartbeats 8000000
set_option linter.unusedVariables false
set_option linter.unusedSimpArgs false
namespace Go.Proofs.YtipjhljnkocioaaGreatDoor
section
open Go.RowKit
def ycM (t:Tr):Bool:=(List.range t.nodes.length).all fun i=>ydb t i
def yay (t:Tr):Int:=if 800<t.nodes.length∨60<t.items.length then 5 else if ybN t then (if 30<yas t then 5 else if ycM t then 0 else 3) else 4
theorem yi1 {t:Tr}(h:ybN t=true):zC t t.nodes.length=some (ybu t):=by
 simp only [ybN,Bool.and_eq_true,beq_iff_eq] at h;exact ycN h.1
theorem yfu {t:Tr}(h:ybN t=true){i:Nat}(hi:i<t.nodes.length):yac t i=true:=by
 simp only [ybN,Bool.and_eq_true] at h;exact List.all_eq_true.1 h.2.1 i (List.mem_range.2 hi)
theorem ygv {t:Tr}(h:ybN t=true){i:Nat}(hi:i<t.nodes.length):∀ k∈(t.nd i).kids,0≤k∧k<(i:Int):=
 yeT (n:=t.nodes.length) (by rw [yi1 h];rfl) hi
theorem yfT {t:Tr}{i:Nat}(h:yac t i=true):okK (t.nd i).kind=true∧ybI (t.nd i).kind=zW (t.nd i).text∧(ybI (t.nd i).kind=true∨(t.nd i).text=[])∧zL (t.nd i).kind (t.nd i).n (t.nd i).kids.length=true∧zu (t.nd i).kind (t.nd i).n=true∧0≤(t.nd i).pos∧(t.nd i).pos≤2000 ∧
 ∀ j,j<(t.nd i).kids.length→ycU t (t.nd i) j=true:=by
 simp only [yac,Bool.and_eq_true,beq_iff_eq,Bool.or_eq_true,decide_eq_true_eq] at h;obtain ⟨⟨⟨⟨⟨⟨⟨h1,h2⟩,h3⟩,h4⟩,h5⟩,h6⟩,h7⟩,h8⟩:=h;exact ⟨h1,h2,h3,h4,h5,h6,h7,fun j hj=>List.all_eq_true.1 h8 j (List.mem_range.2 hj)⟩
theorem yfv {t:Tr}(h:ybN t=true){i:Nat}(hi:i<t.nodes.length)(hk:(t.nd i).kind=40) :
 ∃ k0 k1:Nat,k0<t.nodes.length∧k1<t.nodes.length∧(t.nd i).kids=[(k0:Int),(k1:Int)] ∧ -9999≤(t.nd k0).n∧(t.nd k0).n≤9999 ∧ -9999≤(t.nd k1).n∧(t.nd k1).n≤9999:=by
 obtain ⟨_,_,_,hm,_,_,_,ho⟩:=yfT (yfu h hi);have hkid:=ygv h hi;rw [hk] at hm;have hl':((t.nd i).kids.length:Int)=2:=by simpa [zL] using hm
 have hl:(t.nd i).kids.length=2:=by omega
 obtain ⟨a,b,hab⟩:∃ a b,(t.nd i).kids=[a,b]:=by
  match hx:(t.nd i).kids with
  | [a,b]=>exact ⟨a,b,rfl⟩
  | []=>rw [hx] at hl;simp at hl
  | [_]=>rw [hx] at hl;simp at hl
  | _::_::_::_=>rw [hx] at hl;simp at hl
 rw [hab] at hkid;have ha:=hkid a (by simp);have hb:=hkid b (by simp);obtain ⟨k0,rfl⟩:=Int.eq_ofNat_of_zero_le ha.1;obtain ⟨k1,rfl⟩:=Int.eq_ofNat_of_zero_le hb.1
 have num:∀ (k:Nat) (j:Nat),k<i→j<2→(t.nd i).kids.getD j 0=(k:Int) → -9999≤(t.nd k).n∧(t.nd k).n≤9999:=by
  intro k j hki hj he;have h1:=ho j (by omega);simp only [ycU,he,Bool.and_eq_true,hk] at h1;have hkind:(t.nd k).kind=1:=by simpa [kidK] using h1.1
  obtain ⟨_,_,_,_,hn,_⟩:=yfT (yfu h (show k<t.nodes.length by omega));rw [hkind] at hn;simpa [zu] using hn
 have n0:=num k0 0 (by omega) (by omega) (by rw [hab];rfl);have n1:=num k1 1 (by omega) (by omega) (by rw [hab];rfl);exact ⟨k0,k1,by omega,by omega,hab,n0.1,n0.2,n1.1,n1.2⟩
theorem yf9 (v:TreeV)(t:Tr)(w:World)(bd:Bd t)(h:IsTree w v t) :
 Calls Tryz.prog 52 #[v.val t] w (ybh w (yay t)):=by
 have HT:=Hd h;have BD:=Hd bd;have hn3:=bd.n;have hi3:=bd.i;clear h bd;unfold TreeV.val;by_cases hlim:800<t.nodes.length∨60<t.items.length
 ·have hc:yay t=5:=if_pos hlim
  have HC:=Hd hc;clear hc;by_cases h800:800<t.nodes.length
  ·clear hlim
   go_enter Tryz.func52,Tryz.ntmps52;go_wp2;go_ret;exact ⟨zo HC.out.symm,(Below.refl _ w).alloc nlr _⟩
  ·have h60:60<t.items.length:=by omega
   have h8:decide (800<t.nodes.length)=false:=decide_eq_false h800;clear hlim;go_enter Tryz.func52,Tryz.ntmps52;go_wp2;go_ret;exact ⟨zo HC.out.symm,(Below.refl _ w).alloc nlr _⟩
 ·have h8':¬ 800<t.nodes.length:=by omega
  have h6':¬ 60<t.items.length:=by omega
  have h8:decide (800<t.nodes.length)=false:=decide_eq_false h8';have h6:decide (60<t.items.length)=false:=decide_eq_false h6';have HC:Hid (yay t=if ybN t then (if 30<yas t then 5 else if ycM t then 0 else 3) else 4):=Hd (if_neg hlim);clear hlim
  cases hf:ybN t with
  | false=>
    have HF:=Hd hf;clear hf;go_enter Tryz.func52,Tryz.ntmps52
    go_wp2_with (go_at_call 89;refine (ye5 v t _ BD.out (HT.out.mono ((Below.refl _ w).alloc nlr _) nlr)).mono ?_;rw [HF.out];rintro e w1 ⟨rfl,hb1⟩)
    go_ret;exact ⟨zo (by rw [HC.out,HF.out];rfl),((Below.refl _ w).alloc nlr _).trans (hb1.mono (by simp))⟩
  | true=>
    have HF:=Hd hf;have HKID:=Hd (fun i hi=>ygv hf (i:=i) hi);have HCH:=Hd (fun i hi=>yfv hf (i:=i) hi);clear hf;obtain ⟨dp,hdp⟩:∃ dp,dp=yas t:=⟨_,rfl⟩
    have HDP:=Hd hdp;clear hdp;by_cases h30:30<dp
    ·have H30:=Hd h30
     go_enter Tryz.func52,Tryz.ntmps52
     go_wp2_with (first
      | (go_at_call 89;refine (ye5 v t _ BD.out (HT.out.mono ((Below.refl _ w).alloc nlr _) nlr)).mono ?_;rw [HF.out];rintro e w1 ⟨rfl,hb1⟩;have HB1:=Hd (by simpa using hb1:Below (w.heap.size+1) (boxT w v t) w1);obtain ⟨b0,b1,-,⟨hs,hs1,hs2⟩,hbw⟩:=boxed HB1.out HT.out)
      | (go_at_call 90;refine (yeG v t _ BD.out HKID.out (HT.out.mono hbw nlr)).mono ?_;rw [← HDP.out];rintro e w2 ⟨rfl,hb2⟩))
     go_ret;exact ⟨zo (by rw [HC.out,HF.out,if_pos rfl,← HDP.out,if_pos H30.out]),hbw.trans (hb2.mono (by omega))⟩
    ·have H30:=Hd h30
     have HC2:Hid (yay t=if ycM t then 0 else 3):=Hd (by rw [HC.out,HF.out,if_pos rfl,← HDP.out,if_neg H30.out]);clear HC;go_enter Tryz.func52,Tryz.ntmps52
     go_wp2_with (first
      | (go_at_call 89;refine (ye5 v t _ BD.out (HT.out.mono ((Below.refl _ w).alloc nlr _) nlr)).mono ?_;rw [HF.out];rintro e w1 ⟨rfl,hb1⟩;have HB1:=Hd (by simpa using hb1:Below (w.heap.size+1) (boxT w v t) w1);obtain ⟨b0,b1,-,⟨hs,hs1,hs2⟩,hbw⟩:=boxed HB1.out HT.out)
      | (go_at_call 90;refine (yeG v t _ BD.out HKID.out (HT.out.mono hbw nlr)).mono ?_;rw [← HDP.out];rintro e w2 ⟨rfl,hb2⟩;have HB2:=Hd (HB1.out.trans (hb2.mono (by omega)):Below (w.heap.size+1) (boxT w v t) w2);clear b0 b1))
     go_loopw [3] (fun t3 wr=>∃ k:Nat,t3 = .int .i64 k∧k≤t.nodes.length∧Hid (((List.range k).all fun i=>ydb t i)=true)∧Hid (Below (w.heap.size+1) (boxT w v t) wr)) (fun i _=>t.nodes.length-(intOf i).toNat)
     case atStart=>exact ⟨0,rfl,Nat.zero_le _,Hd rfl,HB2⟩
     case round=>
      obtain ⟨k,rfl,hk,HK,HB⟩:=hrel;obtain ⟨b0,b1,-,⟨hs3,hs4,hs5⟩,hbw3⟩:=boxed HB.out HT.out;by_cases hlt:k<t.nodes.length
      ·have HLT:=Hd hlt
       cases hr:ydb t k with
       | false=>
         have HRR:=Hd hr
         have hno:ycM t=false:=by
          rw [ycM,Bool.eq_false_iff];intro ha;have:=List.all_eq_true.1 ha k (List.mem_range.2 hlt);rw [hr] at this;cases this
         have HNO:=Hd hno;clear hr hno
         go_wp2_with (go_at_call 91;refine (ygb v t k _ BD.out HLT.out (fun h40=>HCH.out k HLT.out h40) (HT.out.mono hbw3 nlr)).mono ?_;rw [HRR.out];rintro e w4 ⟨rfl,hb4⟩)
         go_ret;exact ⟨zo (by rw [HC2.out,HNO.out];rfl),hbw3.trans (hb4.mono (by omega))⟩
       | true=>
         have HRR:=Hd hr;clear hr
         go_wp2_with (go_at_call 91;refine (ygb v t k _ BD.out HLT.out (fun h40=>HCH.out k HLT.out h40) (HT.out.mono hbw3 nlr)).mono ?_;rw [HRR.out];rintro e w4 ⟨rfl,hb4⟩)
         go_roundw
         case rel=>exact ⟨k+1,by go_num,by omega,Hd (ydy HK.out HRR.out),Hd (HB.out.trans (hb4.mono (by omega)))⟩
         case measure=>simp [intOf];omega
      ·obtain rfl:k=t.nodes.length:=by omega
       go_wp2;go_ret;exact ⟨zo (by rw [HC2.out,ycM,HK.out];rfl),hbw3⟩
end
section
open Go.RowKit
structure Placed (t:Tr) (S:List Int):Prop where
 bd:∀ j,j<t.nodes.length→1≤S.getD j 0∧S.getD j 0≤j+1
 eat:∀ i,i<t.nodes.length→eatK S (t.nd i).kids.reverse ((i:Int)-1)=some ((i:Int)-S.getD i 0)
theorem yeu {o o':List Int}{m:Nat}(h:∀ j,j<m→o.getD j 0=o'.getD j 0)(hb:∀ j,j<m→1≤o.getD j 0):∀ (l:List Int) (p:Int),p<m→eatK o l p=eatK o' l p
 | [],p,_=>rfl
 | k::l,p,hp=>by
   simp only [eatK];by_cases hc:(k != p||decide (p<0))=true
   ·rw [if_pos hc,if_pos hc]
   ·rw [if_neg hc,if_neg hc]
    simp only [Bool.or_eq_true,bne_iff_ne,ne_eq,decide_eq_true_eq,not_or,Classical.not_not] at hc;rw [← h p.toNat (by omega)];have:=hb p.toNat (by omega);exact yeu h hb l _ (by omega)
theorem ydc {t:Tr}{n:Nat}{S:List Int}(h:zC t n=some S):∀ i,i≤n→zC t i=some (S.take i):=by
 induction n generalizing S with
 | zero => intro i hi;obtain rfl:i=0:=by omega
           simp [zC]
 | succ n ih=>
   intro i hi;have hl:=yaa _ _ h;by_cases e:i=n+1
   ·subst e;rw [h,List.take_of_length_le (by omega)]
   ·have h':=h
    simp only [zC,Option.bind_eq_some_iff,Option.map_eq_some_iff] at h';obtain ⟨o,h1,p,h2,rfl⟩:=h';rw [ih h1 i (by omega),List.take_append_of_le_length (by rw [yaa _ _ h1];omega)]
theorem yh8 {t:Tr}{S:List Int}(h:zC t t.nodes.length=some S):Placed t S:=by
 have hb:=yaH _ _ h;have hl:=yaa _ _ h;refine ⟨hb,fun i hi=>?_⟩;have h1:=ydc h (i+1) (by omega);simp only [zC,Option.bind_eq_some_iff,Option.map_eq_some_iff] at h1;obtain ⟨o,h2,p,h3,h4⟩:=h1;have h5:=ydc h i (by omega);rw [h5] at h2;obtain rfl:=Option.some.inj h2
 have hg:∀ j,j<i→(S.take i).getD j 0=S.getD j 0:=fun j hj=>by
  rw [List.getD_eq_getElem?_getD,List.getElem?_take,if_pos hj,← List.getD_eq_getElem?_getD]
 rw [← yeu hg (fun j hj=>by rw [hg j hj];exact (hb j (by omega)).1) _ _ (by omega),h3]
 have:S.getD i 0=(i:Int)-p:=by
  have:(S.take (i+1)).getD i 0=S.getD i 0:=by rw [List.getD_eq_getElem?_getD,List.getElem?_take,if_pos (by omega),← List.getD_eq_getElem?_getD]
  rw [← this,← h4,List.getD_eq_getElem?_getD,List.getElem?_append_right (by simp;omega)];simp;rw [Nat.min_eq_left (by omega)];simp
 rw [this];congr 1;omega
def stt (S:List Int)(i:Int):Int:=i-S.getD i.toNat 0
theorem ygu {S:List Int}:∀ (l:List Int) (p q:Int),eatK S l p=some q → ∀ j,q<j→j≤p → ∃ k∈l,stt S k<j∧j≤k
 | [],p,q,h,j,h1,h2=>by simp [eatK] at h;omega
 | k::l,p,q,h,j,h1,h2=>by
   rw [eatK] at h;split at h
   ·cases h
   ·rename_i hc
    simp only [Bool.or_eq_true,bne_iff_ne,ne_eq,decide_eq_true_eq,not_or,Classical.not_not] at hc;obtain ⟨rfl,hc⟩:=hc;by_cases hj:stt S k<j
    ·exact ⟨k,by simp,hj,h2⟩
    ·obtain ⟨k',h3,h4⟩:=ygu l _ q h j h1 (by unfold stt at hj;omega)
     exact ⟨k',by simp [h3],h4⟩
theorem ygV {S:List Int}{m:Nat}(hb:∀ j,j<m→1≤S.getD j 0):∀ (l:List Int) (p q:Int),p<m→eatK S l p=some q→q≤p ∧ ∀ k∈l,q≤stt S k∧stt S k<k∧k≤p∧0≤k
 | [],p,q,hp,h=>by simp only [eatK,Option.some.injEq] at h;subst h;exact ⟨Int.le_refl _,fun _ h=>by simp at h⟩
 | k::l,p,q,hp,h=>by
   rw [eatK] at h;split at h
   ·cases h
   ·rename_i hc
    simp only [Bool.or_eq_true,bne_iff_ne,ne_eq,decide_eq_true_eq,not_or,Classical.not_not] at hc;obtain ⟨rfl,hc⟩:=hc;have h1:=hb k.toNat (by omega);obtain ⟨h2,h3⟩:=ygV hb l _ q (by omega) h;refine ⟨by omega,fun x hx=>?_⟩;rcases List.mem_cons.1 hx with rfl|hx
    ·exact ⟨by unfold stt;omega,by unfold stt;omega,Int.le_refl _,by omega⟩
    ·have:=h3 x hx
     exact ⟨this.1,this.2.1,by omega,this.2.2.2⟩
theorem yhJ {S:List Int}{m:Nat}(hb:∀ j,j<m→1≤S.getD j 0):∀ (l:List Int) (p q:Int),p<m→eatK S l p=some q→l.Pairwise (fun a b=>b≤stt S a)
 | [],p,q,hp,h=>.nil
 | k::l,p,q,hp,h=>by
   rw [eatK] at h;split at h
   ·cases h
   ·rename_i hc
    simp only [Bool.or_eq_true,bne_iff_ne,ne_eq,decide_eq_true_eq,not_or,Classical.not_not] at hc;obtain ⟨rfl,hc⟩:=hc;have h1:=hb k.toNat (by omega);refine .cons (fun x hx=>?_) (yhJ hb l _ q (by omega) h);obtain ⟨_,h3⟩:=ygV hb l _ q (by omega) h;exact (h3 x hx).2.2.1
section
variable {t : Tr} {S : List Int} (P : Placed t S)
include P
theorem Placed.one:∀ j,j<t.nodes.length→1≤S.getD j 0:=fun j h=>(P.bd j h).1
theorem Placed.kid {i:Nat}(hi:i<t.nodes.length):∀ k∈(t.nd i).kids,stt S i≤stt S k∧stt S k<k∧k<(i:Int)∧0≤k:=fun k hk=>by
 obtain ⟨_,h⟩:=ygV P.one _ _ _ (by omega) (P.eat i hi);have:=h k (by simpa using hk);refine ⟨?_,this.2.1,by omega,this.2.2.2⟩;have:=this.1;simpa [stt] using this
theorem Placed.cover {i:Nat}(hi:i<t.nodes.length){j:Int}(h1:stt S i<j)(h2:j<i):∃ k∈(t.nd i).kids,stt S k<j∧j≤k:=by
 obtain ⟨k,h3,h4⟩:=ygu _ _ _ (P.eat i hi) j (by simpa [stt] using h1) (by omega);exact ⟨k,by simpa using h3,h4⟩
theorem Placed.asc {i:Nat}(hi:i<t.nodes.length):(t.nd i).kids.Pairwise (fun a b=>a≤stt S b):=by
 have:=yhJ P.one _ _ _ (by omega) (P.eat i hi);rwa [List.pairwise_reverse] at this
theorem Placed.nest:∀ (f:Nat) (k:Nat) (a:Nat),k≤f→k<t.nodes.length→stt S k<a→a≤k→stt S k≤stt S a
 | f,k,a,hf,hk,h1,h2=>by
   by_cases e:a=k
   ·subst e;exact Int.le_refl _
   ·obtain ⟨c,hc,h3,h4⟩:=P.cover hk (j:=a) h1 (by omega)
    obtain ⟨h5,h6,h7,h8⟩:=P.kid hk c hc;obtain ⟨c,rfl⟩:=Int.eq_ofNat_of_zero_le h8
    cases f with
    | zero=>omega
    | succ f=>
      have:=Placed.nest f c a (by omega) (by omega) h3 (by omega);omega
theorem Placed.unique {a b:Nat}{j:Int}(ha:a<t.nodes.length)(hb:b<t.nodes.length)(h1:j∈(t.nd a).kids)(h2:j∈(t.nd b).kids):a=b:=by
 have key:∀ a b:Nat,a<b→b<t.nodes.length→j∈(t.nd a).kids→j∈(t.nd b).kids→False:=by
  intro a b hab hb h1 h2;obtain ⟨a1,a2,a3,a4⟩:=P.kid (by omega) j h1;obtain ⟨b1,b2,b3,b4⟩:=P.kid hb j h2;obtain ⟨c,hc,h3,h4⟩:=P.cover hb (j:=a) (by omega) (by omega);obtain ⟨c1,c2,c3,c4⟩:=P.kid hb c hc;obtain ⟨c,rfl⟩:=Int.eq_ofNat_of_zero_le c4;have hn:=P.nest c c a nlr (by omega) h3 (by omega);have hp:=P.asc hb;obtain ⟨x,hx,ex⟩:=List.getElem_of_mem hc;obtain ⟨y,hy,ey⟩:=List.getElem_of_mem h2;rw [List.pairwise_iff_getElem] at hp;rcases Nat.lt_trichotomy x y with h|h|h
  ·have:=hp x y hx hy h
   rw [ex,ey] at this;omega
  ·subst h
   rw [ex] at ey;omega
  ·have:=hp y x hy hx h
   rw [ex,ey] at this;omega
 rcases Nat.lt_trichotomy a b with h|h|h
 ·exact (key a b h hb h1 h2).elim
 ·exact h
 ·exact (key b a h ha h2 h1).elim
end
theorem yeZ {t:Tr}{S:List Int}{m:Nat}(hb:∀ j,j<m→1≤S.getD j 0):∀ (l:List Int) (p:Int),p<m→eatI t S l p=true → -1≤p ∧ ∀ k∈l,-1≤stt S k∧stt S k<k∧k≤p∧0≤k∧ybt (t.nd k).kind=true
 | [],p,hp,h=>by simp [eatI] at h;simp;omega
 | k::l,p,hp,h=>by
   rw [eatI] at h;split at h
   ·cases h
   ·rename_i hc
    simp only [Bool.or_eq_true,bne_iff_ne,ne_eq,decide_eq_true_eq,not_or,Classical.not_not,Bool.not_eq_true',Bool.not_eq_false] at hc;obtain ⟨⟨hc1,rfl⟩,hc3⟩:=hc;have h1:=hb k.toNat (by omega);obtain ⟨h2,h3⟩:=yeZ hb l _ (by omega) h;refine ⟨by omega,fun x hx=>?_⟩;rcases List.mem_cons.1 hx with rfl|hx
    ·exact ⟨by unfold stt;omega,by unfold stt;omega,Int.le_refl _,by omega,hc3⟩
    ·have:=h3 x hx
     exact ⟨this.1,this.2.1,by omega,this.2.2.2⟩
theorem ygs {t:Tr}{S:List Int}:∀ (l:List Int) (p:Int),eatI t S l p=true → ∀ j,0≤j→j≤p → ∃ k∈l,stt S k<j∧j≤k
 | [],p,h,j,h1,h2=>by simp [eatI] at h;omega
 | k::l,p,h,j,h1,h2=>by
   rw [eatI] at h;split at h
   ·cases h
   ·rename_i hc
    simp only [Bool.or_eq_true,bne_iff_ne,ne_eq,decide_eq_true_eq,not_or,Classical.not_not,Bool.not_eq_true',Bool.not_eq_false] at hc;obtain ⟨⟨hc1,rfl⟩,hc3⟩:=hc;by_cases hj:stt S k<j
    ·exact ⟨k,by simp,hj,h2⟩
    ·obtain ⟨k',h3,h4⟩:=ygs l _ h j h1 (by unfold stt at hj;omega)
     exact ⟨k',by simp [h3],h4⟩
theorem yhI {t:Tr}{S:List Int}{m:Nat}(hb:∀ j,j<m→1≤S.getD j 0):∀ (l:List Int) (p:Int),p<m→eatI t S l p=true→l.Pairwise (fun a b=>b≤stt S a)
 | [],p,hp,h=>.nil
 | k::l,p,hp,h=>by
   rw [eatI] at h;split at h
   ·cases h
   ·rename_i hc
    simp only [Bool.or_eq_true,bne_iff_ne,ne_eq,decide_eq_true_eq,not_or,Classical.not_not,Bool.not_eq_true',Bool.not_eq_false] at hc;obtain ⟨⟨hc1,rfl⟩,hc3⟩:=hc;have h1:=hb k.toNat (by omega);refine .cons (fun x hx=>?_) (yhI hb l _ (by omega) h);exact ((yeZ hb l _ (by omega) h).2 x hx).2.2.1
structure Good (t:Tr) (S:List Int):Prop extends Placed t S where
 right:∀ i,i<t.nodes.length→yac t i=true
 root:eatI t S t.items.reverse ((t.nodes.length:Int)-1)=true
theorem ycG {t:Tr}(h:ybN t=true):Good t (ybu t):=by
 simp only [ybN,Bool.and_eq_true,beq_iff_eq] at h;obtain ⟨h1,h2,h3⟩:=h;exact ⟨yh8 (ycN h1),fun i hi=>List.all_eq_true.1 h2 i (List.mem_range.2 hi),h3⟩
section
variable {t : Tr} {S : List Int} (G : Good t S)
include G
theorem Good.item:∀ k∈t.items,-1≤stt S k∧stt S k<k∧k<(t.nodes.length:Int)∧0≤k∧ybt (t.nd k).kind=true:=fun k hk=>by
 have:=(yeZ G.one _ _ (by omega) G.root).2 k (by simpa using hk);exact ⟨this.1,this.2.1,by omega,this.2.2.2⟩
theorem Good.items:t.items.Pairwise (fun a b=>a≤stt S b):=by
 have:=yhI G.one _ _ (by omega) G.root;rwa [List.pairwise_reverse] at this
theorem Good.coverI {j:Int}(h0:0≤j)(h1:j<t.nodes.length):∃ k∈t.items,stt S k<j∧j≤k:=by
 obtain ⟨k,h3,h4⟩:=ygs _ _ G.root j h0 (by omega);exact ⟨k,by simpa using h3,h4⟩
theorem Good.kidOrItem {j:Nat}(hj:j<t.nodes.length):(j:Int)∈t.items ∨ ∃ i:Nat,i<t.nodes.length∧(j:Int)∈(t.nd i).kids:=by
 obtain ⟨k,hk,h1,h2⟩:=G.coverI (j:=j) (by omega) (by omega);obtain ⟨h3,h4,h5,h6,hz⟩:=G.item k hk;obtain ⟨k,rfl⟩:=Int.eq_ofNat_of_zero_le h6;by_cases e:j=k
 ·subst e;exact .inl hk
 ·refine .inr ?_
  have hk':k<t.nodes.length:=by omega
  have hjk:j<k:=by omega
  clear hk h3 h5 h6 e h2 h4 hz;revert h1 hk' hjk
  induction k using Nat.strongRecOn with
  | _ k ih=>
    intro h1 hk' hjk;obtain ⟨c,hc,h7,h8⟩:=G.cover hk' h1 (by omega);obtain ⟨c1,c2,c3,c4⟩:=G.kid hk' c hc;obtain ⟨c,rfl⟩:=Int.eq_ofNat_of_zero_le c4;by_cases e:j=c
    ·subst e;exact ⟨k,hk',hc⟩
    ·exact ih c (by omega) h7 (by omega) (by omega)
end
theorem yi7 {t:Tr}{i:Nat}(h:i<t.nodes.length):t.nd (i:Int)=t.nodes[i]:=t.nd_at h
theorem Good.parent_of {t:Tr}{S:List Int}(G:Good t S){i:Nat}{j:Int}(hi:i<t.nodes.length)(h:j∈(t.nd i).kids):parent t j=i:=by
 obtain ⟨a1,a2,a3,a4⟩:=G.kid hi j h;obtain ⟨j,rfl⟩:=Int.eq_ofNat_of_zero_le a4
 have hkid:yb6 t.nodes (j:Int) i=true:=by
  simp only [yb6,hasI,List.getElem?_eq_getElem hi,Option.map_some,Option.getD_some];rw [yi7 hi] at h;exact List.contains_iff_mem.2 h
 unfold parent
 have key:∀ (f k:Nat),i-k≤f→k≤i→(j:Int)<k→first (yb6 t.nodes (j:Int)) t.nodes.length k=i:=by
  intro f
  induction f with
  | zero => intro k hf hk _;obtain rfl:k=i:=by omega
            exact yab hi hkid
  | succ f ih=>
    intro k hf hk hjk;by_cases e:k=i
    ·subst e;exact yab hi hkid
    ·have hno:yb6 t.nodes (j:Int) k=false:=by
      rw [Bool.eq_false_iff];intro hc;simp only [yb6,hasI,List.getElem?_eq_getElem (show k<t.nodes.length by omega),Option.map_some,Option.getD_some] at hc;have hc:=List.contains_iff_mem.1 hc;rw [← yi7] at hc;exact e (G.unique (by omega) hi hc h)
     rw [yaO (by omega) hno];exact ih (k+1) (by omega) (by omega) (by omega)
 exact key i _ (by omega) (by omega) (by omega)
theorem yag {t:Tr}{j:Int}(h:0≤parent t j):∃ i:Nat,parent t j=i∧i<t.nodes.length∧j∈(t.nd i).kids:=by
 obtain ⟨m,h1,h2,h3,h4⟩:=ybE _ _ nlr h;refine ⟨m,h1,h3,?_⟩;simp only [yb6,hasI,List.getElem?_eq_getElem h3,Option.map_some,Option.getD_some] at h4;rw [yi7 h3];exact List.contains_iff_mem.1 h4
theorem Good.kidKind {t:Tr}{S:List Int}(G:Good t S){i:Nat}{j:Int}(hi:i<t.nodes.length)(h:j∈(t.nd i).kids):ybt (t.nd j).kind=false:=by
 have hr:=G.right i hi;simp only [yac,ydw,Bool.and_eq_true] at hr;obtain ⟨x,hx,rfl⟩:=List.getElem_of_mem h;have:=List.all_eq_true.1 hr.2 x (List.mem_range.2 hx);simp only [ycU,Bool.and_eq_true,List.getD_eq_getElem?_getD,List.getElem?_eq_getElem hx,Option.getD_some] at this;have h1:=this.1;revert h1;generalize (t.nd (t.nd i).kids[x]).kind=d;generalize (t.nd i).kind=k;intro h1;rw [Bool.eq_false_iff];intro hd;simp only [ybt,Bool.and_eq_true,decide_eq_true_eq] at hd;simp only [kidK,yco,yao] at h1;split at h1
 ·simp at h1;omega
 split at h1
 ·simp at h1;omega
 split at h1
 ·simp at h1;omega
 split at h1
 ·simp at h1;omega
 split at h1
 ·split at h1
  ·simp at h1;omega
  ·split at h1
   ·simp at h1;omega
   ·simp at h1;omega
 ·simp at h1;omega
theorem Good.noParent {t:Tr}{S:List Int}(G:Good t S){j:Int}(h:j∈t.items):parent t j = -1:=by
 by_cases hp:0≤parent t j
 ·obtain ⟨i,h1,h2,h3⟩:=yag hp
  have:=(G.item j h).2.2.2.2;rw [G.kidKind h2 h3] at this;cases this
 ·have:=ye0 (p:=yb6 t.nodes j) (n:=t.nodes.length) _ (j+1).toNat nlr
  have : -1≤parent t j:=this;omega
theorem Good.parent_yes {t:Tr}{S:List Int}(G:Good t S){j:Nat}(hj:j<t.nodes.length)(h:(j:Int) ∉ t.items):0≤parent t j:=by
 rcases G.kidOrItem hj with h1|⟨i,h1,h2⟩
 ·exact (h h1).elim
 ·rw [G.parent_of h1 h2];omega
theorem Good.many {t:Tr}{S:List Int}(G:Good t S){i:Nat}(hi:i<t.nodes.length):zL (t.nd i).kind (t.nd i).n (t.nd i).kids.length=true:=by
 have hr:=G.right i hi;simp only [yac,Bool.and_eq_true] at hr;exact hr.1.1.1.1.2
theorem yax {t:Tr}(bd:Bd t)(h:yay t=0):WF t:=by
 have hf:ybN t=true:=by
  unfold yay at h;split at h
  ·cases h
  ·split at h
   ·assumption
   ·cases h
 have G:=ycG hf;refine ⟨bd,fun i hi k hk=>?_,fun k hk=>?_,fun i hi hk=>?_,fun i hi hk=>?_,fun i hi hk=>?_⟩
 ·rw [← yi7 hi] at hk
  have:=G.kid hi k hk;omega
 ·have:=G.item k hk
  omega
 ·have:=G.many hi
  rw [yi7 hi,hk] at this;simp [zL] at this;omega
 ·have:=G.many hi
  rw [yi7 hi,hk] at this;simp [zL] at this;omega
 ·refine G.parent_yes hi fun hc=>?_
  have:=(G.item _ hc).2.2.2.2;rw [yi7 hi,hk] at this;cases this
end
section
open Go.RowKit
def goK (g:Int→Int→Option Int):List Int→Int→Option Int
 | [],p=>some p
 | k::l,p=>(g k p).bind (goK g l)
def ybn (t:Tr):Nat→Int→Int→Int→Option Int
 | 0,_,_,_=>none
 | f+1,i,d,p=>(goK (fun k q=>ybn t f k (d+1) q) (t.nd i).kids p).bind fun m=>if i != m then none else if ybt (t.nd i).kind==(d==1) then some (m+1) else none
def ordF (t:Tr):List Int→Int→Option Int
 | [],p=>some p
 | i::l,p=>if decide (p≤i)&&decide (i≤(t.nodes.length:Int)-1) then (ybn t (i+1).toNat i 1 p).bind (ordF t l) else none
def zZ (t:Tr):Bool:=ordF t t.items 0==some (t.nodes.length:Int)
theorem ygX (g:Int→Int→Option Int):∀ (l:List Int) (k p:Int),goK g (l++[k]) p=(goK g l p).bind (g k)
 | [],k,p=>by simp [goK]
 | a::l,k,p=>by
   simp only [List.cons_append,goK]
   cases g a p with
   | none=>rfl
   | some m=>simp only [Option.bind_some];exact ygX g l k m
theorem yfM (t:Tr):∀ (l:List Int) (k p:Int),ordF t (l++[k]) p=(ordF t l p).bind (fun q=>ordF t [k] q)
 | [],k,p=>by simp [ordF]
 | a::l,k,p=>by
   simp only [List.cons_append];rw [ordF,ordF];split
   ·cases ybn t (a+1).toNat a 1 p with
    | none=>rfl
    | some m=>simp only [Option.bind_some];exact yfM t l k m
   ·rfl
theorem yik {t:Tr}{a b:Nat}{o o':List Int}(h:zC t a=some o)(h':zC t b=some o')(hab:a≤b):∀ j,j<a→o.getD j 0=o'.getD j 0:=by
 have:=ydc h' a hab;rw [h] at this;obtain rfl:=Option.some.inj this;intro j hj;rw [List.getD_eq_getElem?_getD,List.getElem?_take,if_pos hj,← List.getD_eq_getElem?_getD]
theorem yeW (t:Tr):∀ (f:Nat) (i d:Int) (p:Nat) (m:Int) (o:List Int),zC t p=some o→ybn t f i d p=some m →
 m=i+1∧(p:Int)≤i∧ybt (t.nd i).kind=(d==1) ∧ ∃ o',zC t m.toNat=some o'∧o'.getD i.toNat 0=i+1-p
 | 0,i,d,p,m,o,ho,h=>by simp [ybn] at h
 | f+1,i,d,p,m,o,ho,h=>by
   simp only [ybn,Option.bind_eq_some_iff] at h;obtain ⟨q,h1,h2⟩:=h
   have key:∀ (l:List Int) (q:Int),goK (fun k q=>ybn t f k (d+1) q) l p=some q→(p:Int)≤q ∧ ∃ o',zC t q.toNat=some o'∧eatK o' l.reverse (q-1)=some ((p:Int)-1):=by
    intro l
    induction hl:l.length generalizing l with
    | zero=>
      intro q hq;obtain rfl:=List.eq_nil_of_length_eq_zero hl;simp only [goK,Option.some.injEq] at hq;subst hq;exact ⟨Int.le_refl _,o,by simpa using ho,by simp [eatK]⟩
    | succ n ih=>
      intro q hq;obtain ⟨l',k,rfl⟩:∃ l' k,l=l'++[k]:=⟨l.dropLast,l.getLast (by intro e;simp [e] at hl),(List.dropLast_concat_getLast _).symm⟩
      rw [ygX,Option.bind_eq_some_iff] at hq;obtain ⟨q1,hq1,hq2⟩:=hq;obtain ⟨hp,o1,ho1,he1⟩:=ih l' (by simpa using hl) q1 hq1;obtain ⟨q1,rfl⟩:=Int.eq_ofNat_of_zero_le (show 0≤q1 by omega);obtain ⟨rfl,hle,_,o2,ho2,hg⟩:=yeW t f k (d+1) q1 q o1 (by simpa using ho1) hq2;refine ⟨by omega,o2,ho2,?_⟩;simp only [List.reverse_append,List.reverse_cons,List.reverse_nil,List.nil_append,List.cons_append,eatK];rw [if_neg (by simp;omega)];have e1:(k+1-1).toNat=k.toNat:=by omega
      rw [e1,hg,show k+1-1-(k+1-(q1:Int))=q1-1 by omega];have hpre:=yik (a:=q1) (by simpa using ho1) ho2 (by omega);rw [← yeu hpre (fun j hj=>(yaH _ _ (by simpa using ho1) j hj).1) _ _ (by omega),← he1]
   obtain ⟨hpq,o',ho',he⟩:=key _ q h1;split at h2
   ·cases h2
   ·rename_i hc
    obtain rfl:i=q:=by simpa using hc
    split at h2
    ·rename_i hc2
     obtain rfl:i+1=m:=by simpa using h2
     refine ⟨rfl,hpq,by simpa using hc2,?_⟩;obtain ⟨i,rfl⟩:=Int.eq_ofNat_of_zero_le (show 0≤i by omega);refine ⟨o'++[(i:Int)-((p:Int)-1)],?_,?_⟩
     ·rw [show ((i:Int)+1).toNat=i+1 by omega,zC]
      rw [show (i:Int).toNat=i from rfl] at ho';rw [ho'];simp [he]
     ·have hl:=yaa _ _ ho'
      rw [List.getD_eq_getElem?_getD,List.getElem?_append_right (by omega),hl];simp;omega
    ·cases h2
theorem yi9 (t:Tr):∀ (l:List Int) (q:Int),ordF t l 0=some q→0≤q ∧ ∃ o,zC t q.toNat=some o∧eatI t o l.reverse (q-1)=true:=by
 intro l
 induction hl:l.length generalizing l with
 | zero=>
   intro q hq;obtain rfl:=List.eq_nil_of_length_eq_zero hl;simp only [ordF,Option.some.injEq] at hq;subst hq;exact ⟨Int.le_refl _,[],by simp [zC],by simp [eatI]⟩
 | succ n ih=>
   intro q hq;obtain ⟨l',k,rfl⟩:∃ l' k,l=l'++[k]:=⟨l.dropLast,l.getLast (by intro e;simp [e] at hl),(List.dropLast_concat_getLast _).symm⟩
   rw [yfM,Option.bind_eq_some_iff] at hq;obtain ⟨q1,hq1,hq2⟩:=hq;obtain ⟨hp,o1,ho1,he1⟩:=ih l' (by simpa using hl) q1 hq1;obtain ⟨q1,rfl⟩:=Int.eq_ofNat_of_zero_le hp;simp only [ordF] at hq2;split at hq2
   ·rename_i hc
    simp only [Bool.and_eq_true,decide_eq_true_eq] at hc;rw [Option.bind_eq_some_iff] at hq2;obtain ⟨q2,hq2,hq3⟩:=hq2;simp only [Option.some.injEq] at hq3;subst hq3;obtain ⟨rfl,hle,hk,o2,ho2,hg⟩:=yeW t _ k 1 q1 q2 o1 (by simpa using ho1) hq2;refine ⟨by omega,o2,ho2,?_⟩;simp only [List.reverse_append,List.reverse_cons,List.reverse_nil,List.nil_append,List.cons_append,eatI];have e1:(k+1-1:Int)=k:=by omega
    rw [e1,if_neg (by simp [hk];omega),hg,show k-(k+1-(q1:Int))=q1-1 by omega];have hpre:=yik (a:=q1) (by simpa using ho1) ho2 (by omega)
    have hcong:∀ (l:List Int) (p:Int),p<q1→eatI t o1 l p=eatI t o2 l p:=by
     intro l
     induction l with
     | nil=>intro p _;rfl
     | cons x l ih2=>
       intro p hp;simp only [eatI];by_cases hc:(decide (p<0)||x != p || !ybt (t.nd p).kind)=true
       ·rw [if_pos hc,if_pos hc]
       ·rw [if_neg hc,if_neg hc]
        simp only [Bool.or_eq_true,bne_iff_ne,ne_eq,decide_eq_true_eq,not_or,Classical.not_not] at hc;rw [← hpre p.toNat (by omega)];have:=(yaH _ _ (by simpa using ho1) p.toNat (show p.toNat<q1 by omega)).1;exact ih2 _ (by omega)
    rw [← hcong _ _ (by omega)];exact he1
   ·cases hq2
theorem Good.walk {t:Tr}{S:List Int}(G:Good t S):∀ (f:Nat) (i:Nat) (d:Int),i<f→i<t.nodes.length→ybt (t.nd i).kind=(d==1)→1≤d→ybn t f i d (stt S i+1)=some ((i:Int)+1)
 | 0,i,d,h,_,_,_=>by omega
 | f+1,i,d,h,hi,hk,hd=>by
   have key:∀ (l:List Int) (p q:Int),p<t.nodes.length→(∀ k∈l,ybn t f k (d+1) (stt S k+1)=some (k+1))→eatK S l.reverse p=some q→goK (fun k q=>ybn t f k (d+1) q) l (q+1)=some (p+1):=by
    intro l
    induction hl:l.length generalizing l with
    | zero=>
      intro p q _ _ he;obtain rfl:=List.eq_nil_of_length_eq_zero hl;simp only [List.reverse_nil,eatK,Option.some.injEq] at he;subst he;rfl
    | succ n ih=>
      intro p q hp hw he;obtain ⟨l',k,rfl⟩:∃ l' k,l=l'++[k]:=⟨l.dropLast,l.getLast (by intro e;simp [e] at hl),(List.dropLast_concat_getLast _).symm⟩
      simp only [List.reverse_append,List.reverse_cons,List.reverse_nil,List.nil_append,List.cons_append,eatK] at he;split at he
      ·cases he
      ·rename_i hc
       simp only [Bool.or_eq_true,bne_iff_ne,ne_eq,decide_eq_true_eq,not_or,Classical.not_not] at hc;obtain ⟨rfl,hc⟩:=hc;have hb:=G.one k.toNat (by omega);rw [ygX,ih l' (by simpa using hl) (k-S.getD k.toNat 0) q (by omega) (fun x hx=>hw x (by simp [hx])) he];simp only [Option.bind_some];exact hw k (by simp)
   simp only [ybn];have he:=G.eat i hi;have hs:stt S i+1=(i:Int)-S.getD i 0+1:=by simp [stt]
   rw [hs,key (t.nd i).kids ((i:Int)-1) ((i:Int)-S.getD i 0) (by omega) (fun k hk=>?_) he]
   ·simp only [Option.bind_some]
    rw [if_neg (by simp),if_pos (by simp [hk])];simp
   ·obtain ⟨h1,h2,h3,h4⟩:=G.kid hi k hk
    have hkk:=G.kidKind hi hk;obtain ⟨k,rfl⟩:=Int.eq_ofNat_of_zero_le h4;exact Good.walk G f k (d+1) (by omega) (by omega) (by rw [hkk];symm;simp;omega) (by omega)
theorem Good.ordered {t:Tr}{S:List Int}(G:Good t S):zZ t=true:=by
 have key:∀ (l:List Int) (p:Int),p<t.nodes.length → -1≤p→eatI t S l.reverse p=true→ordF t l 0=some (p+1):=by
  intro l
  induction hl:l.length generalizing l with
  | zero=>
    intro p _ _ he;obtain rfl:=List.eq_nil_of_length_eq_zero hl;simp only [List.reverse_nil,eatI,beq_iff_eq] at he;subst he;rfl
  | succ n ih=>
    intro p hp hp0 he;obtain ⟨l',k,rfl⟩:∃ l' k,l=l'++[k]:=⟨l.dropLast,l.getLast (by intro e;simp [e] at hl),(List.dropLast_concat_getLast _).symm⟩
    simp only [List.reverse_append,List.reverse_cons,List.reverse_nil,List.nil_append,List.cons_append,eatI] at he;split at he
    ·cases he
    ·rename_i hc
     simp only [Bool.or_eq_true,bne_iff_ne,ne_eq,decide_eq_true_eq,not_or,Classical.not_not,Bool.not_eq_true',Bool.not_eq_false] at hc;obtain ⟨⟨hc,rfl⟩,hc3⟩:=hc;have hb:=G.bd k.toNat (by omega);rw [yfM,ih l' (by simpa using hl) (k-S.getD k.toNat 0) (by omega) (by omega) he];simp only [Option.bind_some,ordF];rw [if_pos (by simp only [Bool.and_eq_true,decide_eq_true_eq];omega)];obtain ⟨k,rfl⟩:=Int.eq_ofNat_of_zero_le (show 0≤k by omega);have:=G.walk ((k:Int)+1).toNat k 1 (by omega) (by omega) (by rw [hc3];rfl) (Int.le_refl _);rw [show (k:Int)-S.getD (k:Int).toNat 0+1=stt S k+1 from rfl,this];rfl
 have:=key _ _ (by omega) (by omega) G.root;unfold zZ;rw [this];simp
theorem yf7 {t:Tr}(h:zZ t=true):(ybu t).length=t.nodes.length∧eatI t (ybu t) t.items.reverse ((t.nodes.length:Int)-1)=true:=by
 obtain ⟨_,o,h1,h2⟩:=yi9 t _ _ (by simpa [zZ] using h);have h1:zC t t.nodes.length=some o:=by simpa using h1
 have:ybu t=o:=by unfold ybu;rw [h1];rfl
 rw [this];exact ⟨yaa _ _ h1,h2⟩
end
section
open Go.RowKit
inductive PK where
 | expr | kind | param | put | num
deriving DecidableEq
def PK.B:PK→Int→Bool
 | .expr=>yao
 | .kind=>yco
 | .param=>fun k=>k==34
 | .put=>fun k=>k==25
 | .num=>fun k=>k==1
abbrev Part:=Int × Int × PK
structure Shape where
 named:Bool
 lo:Int
 hi:Int
 parts:List Part
def askP (n:Int):Shape:=if n==7 then ⟨false,1,8,[]⟩ else if n==8 then ⟨false,1,8,[(1,801,.expr)]⟩ else ⟨false,1,8,[(1,1,.expr)]⟩
def ycc (k n:Int):Option Shape:=
 if k==1 then some ⟨false,0,9999,[]⟩
 else if k==2 then some ⟨false,0,1,[]⟩
 else if k==3||k==32||k==45 then some ⟨true,0,0,[]⟩
 else if k==4||k==5 then some ⟨false,0,0,[(1,1,.expr)]⟩
 else if k==19 then some ⟨false,0,0,[(3,3,.expr)]⟩
 else if k==20 then some ⟨true,0,0,[(2,2,.expr)]⟩
 else if k==21 then some ⟨true,0,0,[(0,801,.expr)]⟩
 else if k==22||k==25||k==43||k==44 then some ⟨true,0,0,[(1,1,.expr)]⟩
 else if k==24 then some ⟨true,0,0,[(1,801,.put)]⟩
 else if k==26 then some ⟨false,0,0,[(1,801,.expr)]⟩
 else if k==30||k==31 then some ⟨false,0,0,[]⟩
 else if k==33 then some ⟨false,-9223372036854775808,9223372036854775807,[(1,1,.kind)]⟩
 else if k==34 then some ⟨true,0,0,[(1,1,.kind)]⟩
 else if k==40 then some ⟨true,0,0,[(2,2,.num)]⟩
 else if k==41 then some ⟨true,0,0,[(1,801,.param)]⟩
 else if k==42 then some ⟨true,0,9223372036854775807,[(0,801,.param),(1,1,.kind),(1,1,.expr)]⟩
 else if k==46 then some (askP n)
 else if (decide (6≤k)&&decide (k≤18))||k==23 then some ⟨false,0,0,[(2,2,.expr)]⟩
 else none
def zv (n lo hi:Int):Bool:=decide (lo≤n)&&decide (n≤hi)
theorem inRange_iff {n lo hi:Int}:zv n lo hi=true↔lo≤n∧n≤hi:=by simp [zv]
def leasts:List Part→Int
 | []=>0
 | p::r=>p.1+leasts r
def ybF:List Part→List Int→Bool
 | [],ks=>ks.length==0
 | (lo,hi,k)::r,ks=>(zv ((ks.length:Int)-leasts r) lo hi&&(ks.take ((ks.length:Int)-leasts r).toNat).all k.B)&&ybF r (ks.drop ((ks.length:Int)-leasts r).toNat)
def yau (t:Tr)(i:Nat):List Int:=(t.nd i).kids.map fun k=>(t.nd k).kind
def ybd (t:Tr)(i:Nat):Bool:=
 match ycc (t.nd i).kind (t.nd i).n with
 | none=>false
 | some s=>(zv (t.nd i).pos 0 2000&&(s.named==((t.nd i).text != []))&&(!s.named||zW (t.nd i).text))&&((t.nd i).kids.all (fun k=>zv k 0 ((i:Int)-1)) &&
  (ybF s.parts (yau t i)&&(zv (t.nd i).n s.lo s.hi||(t.nd i).kind==1&&zv (t.nd i).n (-9999) (-1))))
def ybg (t:Tr):Bool:=(List.range t.nodes.length).all fun i=>!((t.nd i).kind==1&&decide ((t.nd i).n<0))||t.items.any fun it=>(t.nd it).kind==40&&hasI (t.nd it).kids i
def ybJ (t:Tr)(i:Nat):Bool:=
 if (t.nd i).kind==40 then zv ((t.nd ((t.nd i).kids.getD 1 0)).n-(t.nd ((t.nd i).kids.getD 0 0)).n+1) 1 12
 else if (t.nd i).kind==41 then decide (((t.nd i).kids.length:Int)≤6)
 else if (t.nd i).kind==42 then decide (((t.nd i).kids.length:Int)-2≤4)&&decide ((t.nd i).n≤8)
 else if (t.nd i).kind==33 then zv (t.nd i).n 1 6
 else if (t.nd i).kind==26 then decide (((t.nd i).kids.length:Int)≤6)
 else if (t.nd i).kind==46 then (t.nd i).n != 8||decide (((t.nd i).kids.length:Int)≤4)
 else true
def zV (t:Tr):Int:=first (fun i=>!ybJ t i) t.nodes.length 0
def yaP (t:Tr):Bool:=(List.range t.nodes.length).all fun i=>ybd t i
def yb2 (t:Tr):Int:=
 if 800<t.nodes.length∨60<t.items.length then 5
 else if !yaP t then 4
 else if !(zZ t&&ybg t) then 4
 else if 30<yas t then 5
 else if 0≤zV t then 3 else 0
theorem yat (ks:List Int):ybF [] ks=(ks.length==0):=rfl
theorem zG (l m:Int)(p:PK)(ks:List Int):ybF [(l,m,p)] ks=(zv ks.length l m&&ks.all p.B):=by
 simp only [ybF,leasts,Int.sub_zero,Int.toNat_natCast,List.take_length,List.drop_length,List.length_nil];simp
theorem ynd (ks:List Int):ybF [(0,801,.param),(1,1,.kind),(1,1,.expr)] ks=true ↔ ∃ l a b,ks=l++[a,b]∧l.length≤801∧l.all (fun k=>k==34)=true∧yco a=true∧yao b=true:=by
 constructor
 ·intro h
  simp only [ybF,leasts,Bool.and_eq_true,inRange_iff] at h;obtain ⟨⟨⟨h1,h2⟩,h3⟩,⟨⟨h4,h5⟩,h6⟩,⟨⟨h7,h8⟩,h9⟩,h10⟩:=h;obtain ⟨n,hn⟩:∃ n:Nat,ks.length=n+2:=⟨ks.length-2,by omega⟩
  have e1:((ks.length:Int)-(1+(1+0))).toNat=n:=by omega
  rw [e1] at h3 h4 h5 h6 h7 h8 h9 h10
  obtain ⟨a,b,hab⟩:∃ a b,ks.drop n=[a,b]:=by
   have hl:(ks.drop n).length=2:=by simp;omega
   match hx:ks.drop n,hl with
   | [a,b],_=>exact ⟨a,b,rfl⟩
  rw [hab] at h6 h9;refine ⟨ks.take n,a,b,by rw [← hab,List.take_append_drop],by simp;omega,h3,by simpa [PK.B] using h6,by simpa [PK.B] using h9⟩
 ·rintro ⟨l,a,b,rfl,h1,h2,h3,h4⟩
  have e1:(((l++[a,b]).length:Int)-(1+(1+0))).toNat=l.length:=by simp
  have e2:(l++[a,b]).take l.length=l:=by simp
  have e3:(l++[a,b]).drop l.length=[a,b]:=by simp
  simp only [ybF,leasts,e1,e2,e3,Bool.and_eq_true,inRange_iff];exact ⟨⟨⟨by simp,by simp;omega⟩,h2⟩,⟨⟨by simp,by simp⟩,by simpa [PK.B] using h3⟩,⟨⟨by simp,by simp⟩,by simpa [PK.B] using h4⟩,by simp⟩
theorem yn8 {t:Tr}{i:Nat}(p:Int→Bool):(yau t i).all p=(List.range (t.nd i).kids.length).all fun j=>p (t.nd ((t.nd i).kids.getD j 0)).kind:=by
 unfold yau;rw [Bool.eq_iff_iff];simp only [List.all_eq_true,List.mem_map,forall_exists_index,and_imp,forall_apply_eq_imp_iff₂,List.mem_range];constructor
 ·intro h j hj
  have:=h (t.nd i).kids[j] (List.getElem_mem hj);simpa [hj] using this
 ·intro h k hk
  obtain ⟨j,hj,rfl⟩:=List.getElem_of_mem hk;have:=h j hj;simpa [hj] using this
def allK (k:Int)(ks:List Int):Bool:=(List.range ks.length).all fun j=>kidK k ks.length j (ks.getD j 0)
theorem ylq (p:Int→Bool)(ks:List Int):((List.range ks.length).all fun j=>p (ks.getD j 0))=ks.all p:=by
 rw [Bool.eq_iff_iff];simp only [List.all_eq_true,List.mem_range];constructor
 ·intro h k hk
  obtain ⟨j,hj,rfl⟩:=List.getElem_of_mem hk;have:=h j hj;simpa [hj] using this
 ·intro h j hj
  have:=h ks[j] (List.getElem_mem hj);simpa [hj] using this
theorem zw {k:Int}{ks:List Int}(p:Int→Bool)(h:∀ m j d:Int,kidK k m j d=p d):allK k ks=ks.all p:=by
 unfold allK;simp only [h];exact ylq p ks
theorem ye1 {k:Int}(h:okK k=true):k=1∨k=2∨k=3∨k=4∨k=5∨k=6∨k=7∨k=8∨k=9∨k=10∨k=11∨k=12∨k=13∨k=14∨k=15∨k=16∨k=17∨k=18∨k=19∨k=20∨k=21∨k=22∨k=23∨k=24∨k=25∨k=26∨k=30∨k=31∨k=32∨k=33∨k=34∨k=40∨k=41∨k=42∨k=43∨k=44∨k=45∨k=46:=by
 simp [okK,yao,yco,ybt] at h;omega
theorem ydo {k n:Int}(h:okK k=false):ycc k n=none:=by
 have h':¬ (okK k=true):=by rw [h];exact Bool.false_ne_true
 simp [okK,yao,yco,ybt] at h';unfold ycc
 repeat rw [if_neg (by simp;omega)]
theorem yls (n:Int):(askP n).named=false:=by unfold askP;split <;> (try split) <;> rfl
theorem ynQ {k:Int}(n:Int)(h:okK k=true):∃ s,ycc k n=some s∧s.named=ybI k:=by
 rcases ye1 h with rfl|rfl|rfl|rfl|rfl|rfl|rfl|rfl|rfl|rfl|rfl|rfl|rfl|rfl|rfl|rfl|rfl|rfl|rfl|rfl|rfl|rfl|rfl|rfl|rfl|rfl|rfl|rfl|rfl|rfl|rfl|rfl|rfl|rfl|rfl|rfl|rfl|rfl
 all_goals exact ⟨_,rfl,by first | rfl | exact yls n⟩
theorem yos (n:Int)(ks:List Int)(hl:ks.length≤801):(ybF (askP n).parts ks&&(zv n (askP n).lo (askP n).hi||(46:Int)==1&&zv n (-9999) (-1)))=(zL 46 n ks.length&&zu 46 n&&allK 46 ks):=by
 have e:(askP n).lo=1∧(askP n).hi=8:=by unfold askP;split <;> (try split) <;> exact ⟨rfl,rfl⟩
 rw [e.1,e.2,zw yao (by intro m j d;simp [kidK])];unfold askP;by_cases h7:n=7
 ·subst h7
  cases ks with
  | nil=>simp [yat,zL,zu,zv]
  | cons a r=>simp [yat,zL];omega
 ·by_cases h8:n=8
  ·subst h8
   simp only [show ((8:Int)==7)=false from rfl,show ((8:Int)==8)=true from rfl,if_true,if_false,Bool.false_eq_true];rw [zG];simp only [PK.B];generalize ks.all _=A;cases A
   ·simp
   ·rw [Bool.eq_iff_iff];simp [zL,zu,inRange_iff];omega
  ·simp only [show (n==7)=false by simpa using h7,show (n==8)=false by simpa using h8,if_false,Bool.false_eq_true]
   rw [zG];simp only [PK.B];generalize ks.all _=A;cases A
   ·simp
   ·rw [Bool.eq_iff_iff];simp [zL,zu,inRange_iff,h7,h8];omega
theorem yor (n:Int)(ks:List Int)(hl:ks.length≤801)(hn : -9223372036854775808≤n∧n≤9223372036854775807) :
 (ybF [(0,801,.param),(1,1,.kind),(1,1,.expr)] ks&&(zv n 0 9223372036854775807||(42:Int)==1&&zv n (-9999) (-1)))=(zL 42 n ks.length&&zu 42 n&&allK 42 ks):=by
 have e1:(zv n 0 9223372036854775807||(42:Int)==1&&zv n (-9999) (-1))=zu 42 n:=by
  rw [Bool.eq_iff_iff];simp [zu,inRange_iff];omega
 rw [e1]
 have e2:ybF [(0,801,.param),(1,1,.kind),(1,1,.expr)] ks=(zL 42 n ks.length&&allK 42 ks):=by
  rw [Bool.eq_iff_iff,ynd];have hm:zL 42 n ks.length=decide (2≤(ks.length:Int)):=rfl;rw [hm,Bool.and_eq_true,decide_eq_true_eq];have hk:∀ m j d:Int,kidK 42 m j d=if j==m-1 then yao d else if j==m-2 then yco d else d==34:=fun m j d=>by simp [kidK]
  constructor
  ·rintro ⟨l,a,b,rfl,h1,h2,h3,h4⟩
   refine ⟨by simp;omega,?_⟩;unfold allK;simp only [List.all_eq_true,List.mem_range,hk];intro j hj;simp only [List.length_append,List.length_cons,List.length_nil] at hj ⊢;by_cases c1:j=l.length+1
   ·subst c1
    rw [if_pos (by simp;omega)];simpa [List.getD_eq_getElem?_getD,List.getElem?_append_right] using h4
   ·rw [if_neg (by simp;omega)]
    by_cases c2:j=l.length
    ·subst c2
     rw [if_pos (by simp)];simpa [List.getD_eq_getElem?_getD,List.getElem?_append_right] using h3
    ·rw [if_neg (by simp;omega)]
     have hjl:j<l.length:=by omega
     rw [List.getD_eq_getElem?_getD,List.getElem?_append_left hjl,List.getElem?_eq_getElem hjl];exact List.all_eq_true.1 h2 _ (List.getElem_mem hjl)
  ·rintro ⟨h1,h2⟩
   obtain ⟨m,hm⟩:∃ m:Nat,ks.length=m+2:=⟨ks.length-2,by omega⟩
   obtain ⟨a,b,hab⟩:∃ a b,ks.drop m=[a,b]:=by
    have hl:(ks.drop m).length=2:=by simp;omega
    match hx:ks.drop m,hl with
    | [a,b],_=>exact ⟨a,b,rfl⟩
   have hks:ks=ks.take m++[a,b]:=by rw [← hab,List.take_append_drop]
   have hlm:(ks.take m).length=m:=by simp;omega
   unfold allK at h2;simp only [List.all_eq_true,List.mem_range,hk] at h2;refine ⟨ks.take m,a,b,hks,by omega,?_,?_,?_⟩
   ·rw [List.all_eq_true]
    intro x hx;obtain ⟨j,hj,rfl⟩:=List.getElem_of_mem hx;have:=h2 j (by omega);rw [if_neg (by simp;omega),if_neg (by simp;omega)] at this;simpa [show j<ks.length by omega] using this
   ·have:=h2 m (by omega)
    rw [if_neg (by simp;omega),if_pos (by simp;omega)] at this;rw [hks,List.getD_eq_getElem?_getD,List.getElem?_append_right (by omega),hlm] at this;simpa using this
   ·have:=h2 (m+1) (by omega)
    rw [if_pos (by simp;omega)] at this;rw [hks,List.getD_eq_getElem?_getD,List.getElem?_append_right (by omega),hlm] at this;simpa using this
 rw [e2];cases zL 42 n ks.length <;> cases allK 42 ks <;> cases zu 42 n <;> rfl
theorem ykG {k n:Int}{s:Shape}(hs:ycc k n=some s)(ks:List Int)(hl:ks.length≤801)(hn : -9223372036854775808≤n∧n≤9223372036854775807) :
 (ybF s.parts ks&&(zv n s.lo s.hi||k==1&&zv n (-9999) (-1)))=(zL k n ks.length&&zu k n&&allK k ks):=by
 have hok:okK k=true:=by
  cases h:okK k with
  | true=>rfl
  | false=>rw [ydo h] at hs;cases hs
 have e1:∀ a b:Int,zv n a b=true↔a≤n∧n≤b:=fun _ _=>inRange_iff;have hl0:(ks.length:Int)≤801:=by omega
 rcases ye1 hok with rfl|rfl|rfl|rfl|rfl|rfl|rfl|rfl|rfl|rfl|rfl|rfl|rfl|rfl|rfl|rfl|rfl|rfl|rfl|rfl|rfl|rfl|rfl|rfl|rfl|rfl|rfl|rfl|rfl|rfl|rfl|rfl|rfl|rfl|rfl|rfl|rfl|rfl
 all_goals simp [ycc] at hs
 all_goals try subst hs
 ·cases ks with
  | nil=>rw [Bool.eq_iff_iff];simp [yat,zL,zu,allK,inRange_iff];try omega
  | cons a r=>rw [yat];simp [zL];try omega
 ·cases ks with
  | nil=>rw [Bool.eq_iff_iff];simp [yat,zL,zu,allK,inRange_iff];try omega
  | cons a r=>rw [yat];simp [zL];try omega
 ·cases ks with
  | nil=>rw [Bool.eq_iff_iff];simp [yat,zL,zu,allK,inRange_iff];try omega
  | cons a r=>rw [yat];simp [zL];try omega
 ·rw [zG,zw yao (by intro m j d;simp [kidK])];simp only [PK.B];generalize ks.all _=A;cases A
  ·simp
  ·rw [Bool.eq_iff_iff];simp [zL,zu,inRange_iff];try omega
 ·rw [zG,zw yao (by intro m j d;simp [kidK])];simp only [PK.B];generalize ks.all _=A;cases A
  ·simp
  ·rw [Bool.eq_iff_iff];simp [zL,zu,inRange_iff];try omega
 ·rw [zG,zw yao (by intro m j d;simp [kidK])];simp only [PK.B];generalize ks.all _=A;cases A
  ·simp
  ·rw [Bool.eq_iff_iff];simp [zL,zu,inRange_iff];try omega
 ·rw [zG,zw yao (by intro m j d;simp [kidK])];simp only [PK.B];generalize ks.all _=A;cases A
  ·simp
  ·rw [Bool.eq_iff_iff];simp [zL,zu,inRange_iff];try omega
 ·rw [zG,zw yao (by intro m j d;simp [kidK])];simp only [PK.B];generalize ks.all _=A;cases A
  ·simp
  ·rw [Bool.eq_iff_iff];simp [zL,zu,inRange_iff];try omega
 ·rw [zG,zw yao (by intro m j d;simp [kidK])];simp only [PK.B];generalize ks.all _=A;cases A
  ·simp
  ·rw [Bool.eq_iff_iff];simp [zL,zu,inRange_iff];try omega
 ·rw [zG,zw yao (by intro m j d;simp [kidK])];simp only [PK.B];generalize ks.all _=A;cases A
  ·simp
  ·rw [Bool.eq_iff_iff];simp [zL,zu,inRange_iff];try omega
 ·rw [zG,zw yao (by intro m j d;simp [kidK])];simp only [PK.B];generalize ks.all _=A;cases A
  ·simp
  ·rw [Bool.eq_iff_iff];simp [zL,zu,inRange_iff];try omega
 ·rw [zG,zw yao (by intro m j d;simp [kidK])];simp only [PK.B];generalize ks.all _=A;cases A
  ·simp
  ·rw [Bool.eq_iff_iff];simp [zL,zu,inRange_iff];try omega
 ·rw [zG,zw yao (by intro m j d;simp [kidK])];simp only [PK.B];generalize ks.all _=A;cases A
  ·simp
  ·rw [Bool.eq_iff_iff];simp [zL,zu,inRange_iff];try omega
 ·rw [zG,zw yao (by intro m j d;simp [kidK])];simp only [PK.B];generalize ks.all _=A;cases A
  ·simp
  ·rw [Bool.eq_iff_iff];simp [zL,zu,inRange_iff];try omega
 ·rw [zG,zw yao (by intro m j d;simp [kidK])];simp only [PK.B];generalize ks.all _=A;cases A
  ·simp
  ·rw [Bool.eq_iff_iff];simp [zL,zu,inRange_iff];try omega
 ·rw [zG,zw yao (by intro m j d;simp [kidK])];simp only [PK.B];generalize ks.all _=A;cases A
  ·simp
  ·rw [Bool.eq_iff_iff];simp [zL,zu,inRange_iff];try omega
 ·rw [zG,zw yao (by intro m j d;simp [kidK])];simp only [PK.B];generalize ks.all _=A;cases A
  ·simp
  ·rw [Bool.eq_iff_iff];simp [zL,zu,inRange_iff];try omega
 ·rw [zG,zw yao (by intro m j d;simp [kidK])];simp only [PK.B];generalize ks.all _=A;cases A
  ·simp
  ·rw [Bool.eq_iff_iff];simp [zL,zu,inRange_iff];try omega
 ·rw [zG,zw yao (by intro m j d;simp [kidK])];simp only [PK.B];generalize ks.all _=A;cases A
  ·simp
  ·rw [Bool.eq_iff_iff];simp [zL,zu,inRange_iff];try omega
 ·rw [zG,zw yao (by intro m j d;simp [kidK])];simp only [PK.B];generalize ks.all _=A;cases A
  ·simp
  ·rw [Bool.eq_iff_iff];simp [zL,zu,inRange_iff];try omega
 ·rw [zG,zw yao (by intro m j d;simp [kidK])];simp only [PK.B];generalize ks.all _=A;cases A
  ·simp
  ·rw [Bool.eq_iff_iff];simp [zL,zu,inRange_iff];try omega
 ·rw [zG,zw yao (by intro m j d;simp [kidK])];simp only [PK.B];generalize ks.all _=A;cases A
  ·simp
  ·rw [Bool.eq_iff_iff];simp [zL,zu,inRange_iff];try omega
 ·rw [zG,zw yao (by intro m j d;simp [kidK])];simp only [PK.B];generalize ks.all _=A;cases A
  ·simp
  ·rw [Bool.eq_iff_iff];simp [zL,zu,inRange_iff];try omega
 ·rw [zG,zw (fun k=>k==25) (by intro m j d;simp [kidK])];simp only [PK.B];generalize ks.all _=A;cases A
  ·simp
  ·rw [Bool.eq_iff_iff];simp [zL,zu,inRange_iff];try omega
 ·rw [zG,zw yao (by intro m j d;simp [kidK])];simp only [PK.B];generalize ks.all _=A;cases A
  ·simp
  ·rw [Bool.eq_iff_iff];simp [zL,zu,inRange_iff];try omega
 ·rw [zG,zw yao (by intro m j d;simp [kidK])];simp only [PK.B];generalize ks.all _=A;cases A
  ·simp
  ·rw [Bool.eq_iff_iff];simp [zL,zu,inRange_iff];try omega
 ·cases ks with
  | nil=>rw [Bool.eq_iff_iff];simp [yat,zL,zu,allK,inRange_iff];try omega
  | cons a r=>rw [yat];simp [zL];try omega
 ·cases ks with
  | nil=>rw [Bool.eq_iff_iff];simp [yat,zL,zu,allK,inRange_iff];try omega
  | cons a r=>rw [yat];simp [zL];try omega
 ·cases ks with
  | nil=>rw [Bool.eq_iff_iff];simp [yat,zL,zu,allK,inRange_iff];try omega
  | cons a r=>rw [yat];simp [zL];try omega
 ·rw [zG,zw yco (by intro m j d;simp [kidK])];simp only [PK.B];generalize ks.all _=A;cases A
  ·simp
  ·rw [Bool.eq_iff_iff];simp [zL,zu,inRange_iff];try omega
 ·rw [zG,zw yco (by intro m j d;simp [kidK])];simp only [PK.B];generalize ks.all _=A;cases A
  ·simp
  ·rw [Bool.eq_iff_iff];simp [zL,zu,inRange_iff];try omega
 ·rw [zG,zw (fun k=>k==1) (by intro m j d;simp [kidK])];simp only [PK.B];generalize ks.all _=A;cases A
  ·simp
  ·rw [Bool.eq_iff_iff];simp [zL,zu,inRange_iff];try omega
 ·rw [zG,zw (fun k=>k==34) (by intro m j d;simp [kidK])];simp only [PK.B];generalize ks.all _=A;cases A
  ·simp
  ·rw [Bool.eq_iff_iff];simp [zL,zu,inRange_iff];try omega
 ·exact yor n ks hl hn
 ·rw [zG,zw yao (by intro m j d;simp [kidK])];simp only [PK.B];generalize ks.all _=A;cases A
  ·simp
  ·rw [Bool.eq_iff_iff];simp [zL,zu,inRange_iff];try omega
 ·rw [zG,zw yao (by intro m j d;simp [kidK])];simp only [PK.B];generalize ks.all _=A;cases A
  ·simp
  ·rw [Bool.eq_iff_iff];simp [zL,zu,inRange_iff];try omega
 ·cases ks with
  | nil=>rw [Bool.eq_iff_iff];simp [yat,zL,zu,allK,inRange_iff];try omega
  | cons a r=>rw [yat];simp [zL];try omega
 ·exact yos n ks hl
def negs (t:Tr)(i:Nat):Bool:=(t.nd i).kids.all fun k=>!((t.nd k).kind==1&&decide ((t.nd k).n<0)&&(t.nd i).kind != 40)
theorem yhV (t:Tr)(i:Nat):ydw t (t.nd i)=(allK (t.nd i).kind (yau t i)&&negs t i):=by
 rw [Bool.eq_iff_iff];have hg:∀ j,j<(t.nd i).kids.length→(yau t i).getD j 0=(t.nd ((t.nd i).kids.getD j 0)).kind:=fun j hj=>by simp [yau,hj]
 have hl:(yau t i).length=(t.nd i).kids.length:=by simp [yau]
 simp only [ydw,allK,negs,hl,Bool.and_eq_true,List.all_eq_true,List.mem_range,ycU];constructor
 ·intro h
  refine ⟨fun j hj=>by rw [hg j hj];exact (h j hj).1,fun k hk=>?_⟩;obtain ⟨j,hj,rfl⟩:=List.getElem_of_mem hk;have:=(h j hj).2;simpa [hj] using this
 ·rintro ⟨h1,h2⟩ j hj
  refine ⟨by rw [← hg j hj];exact h1 j hj,?_⟩;have:=h2 (t.nd i).kids[j] (List.getElem_mem hj);simpa [hj] using this
theorem ygx:zW []=false:=rfl
theorem ylN {l:List UInt8}(h:zW l=true):l≠[]:=by
 rintro rfl;rw [ygx] at h;cases h
def Rg (t:Tr):Prop:=∀ i,i<t.nodes.length → -9223372036854775808≤(t.nd i).n∧(t.nd i).n≤9223372036854775807
theorem yhM {t:Tr}{i:Nat}(rg : -9223372036854775808≤(t.nd i).n∧(t.nd i).n≤9223372036854775807)(hl:(t.nd i).kids.length≤801)(hk:(t.nd i).kids.all (fun k=>zv k 0 ((i:Int)-1))=true) :
 (ybd t i&&negs t i)=yac t i:=by
 have hkl:(yau t i).length=(t.nd i).kids.length:=by simp [yau]
 cases hok:okK (t.nd i).kind with
 | false=>simp [ybd,ydo hok,yac,hok]
 | true=>
   obtain ⟨s,hs,hn⟩:=ynQ (t.nd i).n hok;have hf:=ykG hs (yau t i) (by omega) rg;have hpos:zv (t.nd i).pos 0 2000=(decide (0≤(t.nd i).pos)&&decide ((t.nd i).pos≤2000)):=rfl
   have hnm:((s.named==((t.nd i).text != []))&&(!s.named||zW (t.nd i).text))=((ybI (t.nd i).kind==zW (t.nd i).text)&&(ybI (t.nd i).kind||(t.nd i).text==[])):=by
    rw [hn]
    cases ybI (t.nd i).kind with
    | true=>
      cases hx:zW (t.nd i).text with
      | false=>simp
      | true=>have:=ylN hx;simp [this]
    | false=>
      by_cases he:(t.nd i).text=[]
      ·rw [he,ygx];rfl
      ·have e1:((t.nd i).text==[])=false:=by simpa using he
       rw [show ((t.nd i).text != []) = !((t.nd i).text==[]) from rfl,e1];cases zW (t.nd i).text <;> rfl
   simp only [ybd,hs,yac,hok,hk,yhV,hf,hkl,hpos,Bool.true_and];rw [Bool.and_assoc,Bool.and_assoc];have hnm':=hnm;revert hnm';generalize (s.named==((t.nd i).text != []))=a1;generalize (!s.named||zW (t.nd i).text)=a2;generalize (ybI (t.nd i).kind==zW (t.nd i).text)=a3;generalize (ybI (t.nd i).kind||(t.nd i).text==[])=a4;generalize zL (t.nd i).kind (t.nd i).n (t.nd i).kids.length=a5;generalize zu (t.nd i).kind (t.nd i).n=a6;generalize allK (t.nd i).kind (yau t i)=a7;generalize negs t i=a8;generalize decide (0≤(t.nd i).pos)=a9;generalize decide ((t.nd i).pos≤2000)=a10;intro h;revert h;revert a1 a2 a3 a4 a5 a6 a7 a8 a9 a10;decide
theorem ygp:∀ (l:List Int) (a b:Int),a≤b→l.Pairwise (· < ·)→(∀ k∈l,a≤k∧k<b)→(l.length:Int)≤b-a
 | [],a,b,hab,_,h=>by simp;omega
 | x::l,a,b,hab,hp,h=>by
   obtain ⟨h1,h2⟩:=List.pairwise_cons.1 hp;have hx:=h x (by simp);have:=ygp l (x+1) b (by omega) h2 (fun k hk=>⟨by have:=h1 k hk;omega,(h k (by simp [hk])).2⟩);simp only [List.length_cons];omega
theorem Placed.kids_length {t:Tr}{S:List Int}(P:Placed t S){i:Nat}(hi:i<t.nodes.length):(t.nd i).kids.length≤i:=by
 have:=ygp (t.nd i).kids 0 i (by omega) ?_ (fun k hk=>by have:=P.kid hi k hk;omega)
 ·omega
 ·have h:=P.asc hi
  rw [List.pairwise_iff_getElem] at h ⊢;intro x y hx hy hxy;have h1:=h x y hx hy hxy;have h2:=P.kid hi _ (List.getElem_mem hy);omega
theorem Placed.kidsIn {t:Tr}{S:List Int}(P:Placed t S){i:Nat}(hi:i<t.nodes.length):(t.nd i).kids.all (fun k=>zv k 0 ((i:Int)-1))=true:=by
 rw [List.all_eq_true];intro k hk;have:=P.kid hi k hk;rw [inRange_iff];omega
theorem Good.sized {t:Tr}{S:List Int}(G:Good t S){i:Nat}(hi:i<t.nodes.length):ybJ t i=ydb t i:=by
 have hm:=G.many hi;unfold ybJ ydb;split
 ·rw [Bool.eq_iff_iff];simp only [inRange_iff,Bool.and_eq_true,decide_eq_true_eq];omega
 split
 ·rfl
 split
 ·rfl
 split
 ·rfl
 split
 ·rfl
 split
 ·rename_i hk
  have hk:(t.nd i).kind=46:=by simpa using hk
  rw [hk] at hm;by_cases h8:(t.nd i).n=8
  ·simp [h8]
  ·have hle:(t.nd i).kids.length≤1:=by
    have e:zL 46 (t.nd i).n (t.nd i).kids.length=if (t.nd i).n==7 then ((t.nd i).kids.length:Int)==0 else if (t.nd i).n==8 then decide (1≤((t.nd i).kids.length:Int)) else ((t.nd i).kids.length:Int)==1:=rfl;rw [e] at hm;by_cases h7:(t.nd i).n=7
    ·rw [h7] at hm
     simp at hm;simp [hm]
    ·rw [if_neg (by simpa using h7),if_neg (by simpa using h8)] at hm
     simp at hm;omega
   have e1:((t.nd i).n != 8)=true:=by simpa using h8
   have e2:decide (((t.nd i).kids.length:Int)≤4)=true:=by simp;omega
   rw [e1,e2];rfl
 ·rfl
theorem Good.signed {t:Tr}{S:List Int}(G:Good t S):ybg t=true:=by
 unfold ybg;rw [List.all_eq_true];intro i hi;have hi:=List.mem_range.1 hi;by_cases hneg:(t.nd i).kind=1∧(t.nd i).n<0
 ·rcases G.kidOrItem hi with h|⟨p,hp,h⟩
  ·have:=(G.item _ h).2.2.2.2
   rw [hneg.1] at this;cases this
  ·have hr:=G.right p hp
   simp only [yac,yhV,Bool.and_eq_true] at hr;have h1:=List.all_eq_true.1 hr.2.2 _ h;have h40:(t.nd p).kind=40:=by simpa [hneg.1,hneg.2] using h1
   have hpi:(p:Int)∈t.items:=by
    rcases G.kidOrItem hp with h2|⟨q,hq,h2⟩
    ·exact h2
    ·have:=G.kidKind hq h2
     rw [h40] at this;cases this
   have:(t.items.any fun it=>(t.nd it).kind==40&&hasI (t.nd it).kids i)=true:=by
    rw [List.any_eq_true];refine ⟨p,hpi,?_⟩;rw [h40];exact List.contains_iff_mem.2 h
   rw [this];simp
 ·have:((t.nd i).kind==1&&decide ((t.nd i).n<0))=false:=by
   rw [Bool.eq_false_iff];simpa using hneg
  rw [this];simp
theorem yc0 (p:Nat→Bool)(n:Nat):0≤first p n 0↔((List.range n).all fun i=>!p i)=false:=by
 constructor
 ·intro h
  obtain ⟨m,_,_,h3,h4⟩:=ybE _ _ nlr h;rw [Bool.eq_false_iff];intro hc;have:=List.all_eq_true.1 hc m (List.mem_range.2 h3);rw [h4] at this;cases this
 ·intro h
  have key:∀ (f k:Nat),n-k≤f→first p n k<0 → ∀ j,k≤j→j<n→p j=false:=by
   intro f
   induction f with
   | zero=>intro k hf _ j h1 h2;omega
   | succ f ih=>
     intro k hf hlt j h1 h2
     cases hp:p k with
     | true=>rw [yab (by omega) hp] at hlt;omega
     | false=>
       rw [yaO (by omega) hp] at hlt;by_cases e:j=k
       ·subst e;exact hp
       ·exact ih (k+1) (by omega) hlt j (by omega) h2
  by_cases hc:0≤first p n 0
  ·exact hc
  ·exfalso
   have:=key n 0 (by omega) (by omega);rw [Bool.eq_false_iff] at h;apply h;rw [List.all_eq_true];intro i hi;rw [this i (by omega) (List.mem_range.1 hi)];rfl
theorem yjv {t:Tr}(rg:Rg t):yb2 t=yay t:=by
 unfold yb2 yay;by_cases hsz:800<t.nodes.length∨60<t.items.length
 ·rw [if_pos hsz,if_pos hsz]
 ·rw [if_neg hsz,if_neg hsz]
  cases hf:ybN t with
  | true=>
    have G:=ycG hf
    have h1:yaP t=true:=by
     unfold yaP;rw [List.all_eq_true];intro i hi;have hi:=List.mem_range.1 hi;have:=yhM (rg i hi) (by have:=G.kids_length hi;omega) (G.kidsIn hi);rw [G.right i hi,Bool.and_eq_true] at this;exact this.1
    have h2:(0≤zV t) = ¬ (ycM t=true):=by
     unfold zV;rw [yc0,ycM]
     have:((List.range t.nodes.length).all fun i=>!!ybJ t i)=((List.range t.nodes.length).all fun i=>ydb t i):=by
      rw [Bool.eq_iff_iff];simp only [List.all_eq_true,List.mem_range,Bool.not_not];exact ⟨fun h i hi=>by rw [← G.sized hi];exact h i hi,fun h i hi=>by rw [G.sized hi];exact h i hi⟩
     rw [this];simp
    rw [h1,G.ordered,G.signed];simp only [h2,Bool.not_true,Bool.and_self,Bool.false_eq_true,if_false,if_true];split
    ·rfl
    ·cases ycM t <;> simp
  | false=>
    have:¬ (yaP t=true∧zZ t=true∧ybg t=true):=by
     rintro ⟨h1,h2,h3⟩;obtain ⟨h4,h5⟩:=yf7 h2;have P:=yh8 (ycN h4)
     have:ydK t=true:=by
      unfold ydK;rw [List.all_eq_true];intro i hi';have hi:=List.mem_range.1 hi';rw [← yhM (rg i hi) (by have:=P.kids_length hi;omega) (P.kidsIn hi),List.all_eq_true.1 h1 i hi',Bool.true_and];unfold negs;rw [List.all_eq_true];intro k hk;obtain ⟨_,_,k3,k4⟩:=P.kid hi k hk;obtain ⟨k,rfl⟩:=Int.eq_ofNat_of_zero_le k4;by_cases hneg:(t.nd k).kind=1∧(t.nd k).n<0
      ·have h6:=List.all_eq_true.1 h3 k (List.mem_range.2 (by omega))
       have h7:((t.nd k).kind==1&&decide ((t.nd k).n<0))=true:=by simpa using hneg
       rw [h7,Bool.not_true,Bool.false_or,List.any_eq_true] at h6;obtain ⟨it,h8,h9⟩:=h6;rw [Bool.and_eq_true] at h9;obtain ⟨_,h10,h11,h12,_⟩:=(yeZ P.one _ _ (by omega) h5).2 it (by simpa using h8) |>.imp id id
       obtain ⟨it,rfl⟩:=Int.eq_ofNat_of_zero_le h12;have:=P.unique (by omega) hi (List.contains_iff_mem.1 h9.2) hk;subst this;have h40:(t.nd it).kind=40:=by simpa using h9.1
       rw [h40];simp
      ·have:((t.nd k).kind==1&&decide ((t.nd k).n<0))=false:=by
        rw [Bool.eq_false_iff];simpa using hneg
       rw [this];rfl
     rw [ybN,this,h5,h4] at hf;simp at hf
    rw [if_neg Bool.false_ne_true]
    cases h1:yaP t with
    | false=>rfl
    | true=>
      cases h2:zZ t with
      | false=>rfl
      | true=>
        cases h3:ybg t with
        | false=>rfl
        | true=>exact (this ⟨h1,h2,h3⟩).elim
end
section
open Go.RowKit
theorem yf2 {W:World}{B:Nat}{av:Option Addr}{cv:Nat}{l:List Int}(hown:OwnI W B av cv l){ax:Option Addr}{m c:Nat}{news:List Int}(hr:Row 1 W ax m c (zn news))
 (hbytes:l.length+m≤4398046511104)(hB:B≤W.heap.size) :
 ∃ a' c' w' l',(Builtin.append_ #[23,23] 23 #[.slice av l.length cv,.slice ax m c]).run Tryz.prog W = .ok (.slice a' l'.length c') w'∧Hid (l'=l++news)∧l'.length=l.length+m∧OwnI w' B a' c' l'∧(∀ B' A,B'≤B→Below B' A W→Below B' A w'):=by
 have hm:m=news.length:=by have:=hr.1;simpa using this.symm
 subst hm;obtain ⟨i0,hi,hz0,hz1,hz2⟩:=info_parts yd3;obtain ⟨v',w',hrun,h2,h3⟩:=yaM (P:=Tryz.prog) W B 23 23 3 i0 (.int .i64 0) 1 8 yaI hi hz0 hz1 hz2 rfl (by decide) (.slice av l.length cv) l.length _ hown ax news.length c _ hr (ycI _) (by unfold maxLen;omega) (by omega) hB;obtain ⟨a',c',rfl,_⟩:=yaF h2;have e:l.length+news.length=(l++news).length:=by simp
 have e2:zn l++zn news=zn (l++news):=by simp
 rw [e,e2] at h2;rw [e] at hrun;exact ⟨a',c',w',l++news,hrun,Hd rfl,by simp,h2,ybv hown h3 hB⟩
theorem yhS {w:World}:Ints w none 0 []:=⟨rfl,nlr,fun _=>rfl,.inl rfl⟩
theorem yfo {w wr:World}{v:TreeV}{t:Tr}{a:Option Addr}{c:Nat}{l:List Int}(hb:Below (w.heap.size+1+1) (boxN (boxT w v t) a c l) wr):wr.frozen? ⟨w.heap.size+1,0,none⟩=false:=by
 have h1:Below (boxN (boxT w v t) a c l).heap.size (boxN (boxT w v t) a c l) wr:=by simpa using hb
 exact ((bcell h1).2 _ _ (by simp)).trans (by simp)
def ybM (t:Tr):Nat→Nat→Option (Nat × Int)
 | 0,_=>none
 | f+1,k=>if ya8 t k != 0 then some (k,ya8 t k) else ybM t f (k+1)
def ze (t:Tr):List Int × Int × Int:=
 if yay t != 0 then ([],0,yay t) else
 match ybM t t.nodes.length 0 with
 | some (k,e)=>([],k,e)
 | none=>((List.range t.nodes.length).map (fun k:Nat=>means t (k:Int)),0,0)
def ydS (w:World)(p:List Int × Int × Int)(e:Ending)(w':World):Prop:=
 ∃ a c,e = .returned (.tuple #[.agg #[.slice a p.1.length c],intV p.2.1,intV p.2.2])∧w'.ownsRow w.heap.size 3 1 (.slice a p.1.length c) p.1.length (zn p.1)∧Below w.heap.size w w'
theorem yfS {w w':World}{p:List Int × Int × Int}{g:Nat}{a:Option Addr}{c:Nat}{A:Act}(hc:w'.cell? ⟨g,0,none⟩=some (.slice a p.1.length c))(h2:A.tmps.getD 2 undef = .pointer (some ⟨g,0,none⟩))
 (h3:A.tmps.getD 3 undef=intV p.2.1)(h4:A.tmps.getD 4 undef=intV p.2.2)(hd:A.defers=[])(ho:w'.ownsRow w.heap.size 3 1 (.slice a p.1.length c) p.1.length (zn p.1))(hb:Below w.heap.size w w') :
 bodyPost Tryz.prog Tryz.f17 (ydS w p) Exit.ret A w':=by
 refine bodyPost_ret (v:=.tuple #[.agg #[.slice a p.1.length c],intV p.2.1,intV p.2.2]) ?_ hd ⟨a,c,rfl,ho,hb⟩;simp only [Array.getD_eq_getD_getElem?] at h2 h3 h4;simp [results,Tryz.results17,go_sem,loadVar,h2,h3,h4,hc,Result.andThen]
theorem yeK (v:TreeV)(t:Tr)(w:World)(bd:Bd t)(wf:yay t=0→WF t)(h:IsTree w v t) :
 Calls Tryz.prog 17 #[v.val t] w (ydS w (ze t)):=by
 have hmo:Tryz.prog.follows .mixedOrders=true:=by kernel_rfl
 have HT:=Hd h;have BD:=Hd bd;have HWF:=Hd wf;have hn3:=bd.n;clear h bd wf;obtain ⟨na,nc,ia,ic⟩:=v;unfold TreeV.val;obtain ⟨E,hE⟩:∃ E,E=yay t:=⟨_,rfl⟩
 cases hx:(E != 0) with
 | true=>
   have HE:=Hd hE;have HX:=Hd hx;clear hE;go_enter Tryz.func17,Tryz.ntmps17
   go_wp2_with (go_at_call 52;refine (yf9 ⟨na,nc,ia,ic⟩ t _ BD.out (HT.out.mono (((Below.refl _ w).alloc nlr _).alloc (by simp) _) nlr)).mono ?_;rw [← HE.out];rintro e w1 ⟨rfl,hb1⟩;have HB1:=Hd (show Below (w.heap.size+1+1) (boxN (boxT w ⟨na,nc,ia,ic⟩ t) none 0 []) w1 from hb1.mono (by simp));obtain ⟨b0,b1,b2,-,-,⟨hs,hs1,hs2,hs3⟩,hbw⟩:=ybc HB1.out HT.out yhS;have f2:=yfo HB1.out;clear hb1)
   have hres:ze t=([],0,E):=by unfold ze;rw [← HE.out,HX.out];rfl
   rw [hres];exact yfS (p:=([],0,E)) (a:=none) (c:=0) (World.cell?_setCell_same _ _ _ b2) rfl rfl rfl rfl ⟨rfl,.inl ⟨rfl,rfl⟩⟩ (hbw.setCell (by simp) _)
 | false=>
   have HE:=Hd hE;have HX:=Hd hx;clear hE;go_enter Tryz.func17,Tryz.ntmps17
   go_wp2_with (go_at_call 52;refine (yf9 ⟨na,nc,ia,ic⟩ t _ BD.out (HT.out.mono (((Below.refl _ w).alloc nlr _).alloc (by simp) _) nlr)).mono ?_;rw [← HE.out];rintro e w1 ⟨rfl,hb1⟩;have HB1:=Hd (show Below (w.heap.size+1+1) (boxN (boxT w ⟨na,nc,ia,ic⟩ t) none 0 []) w1 from hb1.mono (by simp));obtain ⟨b0,b1,b2,-,-,⟨hs,hs1,hs2,hs3⟩,hbw⟩:=ybc HB1.out HT.out yhS;have f2:=yfo HB1.out;clear hb1)
   have h0:E=0:=by simpa using HX.out
   have WFH:=Hd (HWF.out (HE.out.symm.trans h0));have HRES:=Hd (show ze t=(match ybM t t.nodes.length 0 with | some (k,e)=>([],(k:Int),e) | none=>((List.range t.nodes.length).map (fun k:Nat=>means t (k:Int)),0,0)) from by unfold ze;rw [← HE.out,h0];rfl);clear h0
   go_loopw [7] (fun t7 wr=>∃ (k:Nat) (av:Option Addr) (cv:Nat) (q:List Int),t7 = .int .i64 k∧k≤t.nodes.length∧q.length=k∧Hid (q=(List.range k).map (fun k:Nat=>means t (k:Int)))∧Hid (ybM t t.nodes.length 0=ybM t (t.nodes.length-k) k) ∧
    Hid (OwnI wr (w1.heap.size+1) av cv q)∧Hid (wr.cell? ⟨w1.heap.size,0,none⟩=some (.slice av q.length cv))∧Hid (wr.frozen? ⟨w1.heap.size,0,none⟩=false)∧Hid (w1.heap.size+1≤wr.heap.size)∧Hid (Below w1.heap.size w1 wr)) (fun i _=>t.nodes.length-(intOf i).toNat)
   case atStart=>
    exact ⟨0,none,0,[],rfl,Nat.zero_le _,rfl,Hd rfl,Hd (by simp),Hd ⟨rfl,.inl ⟨rfl,rfl⟩⟩,Hd (by simp),Hd (by simp),Hd (by simp),Hd (brf.alloc nlr _)⟩
   case round=>
    obtain ⟨k,av,cv,q,rfl,hk,hq,HQ,HER,HO,HC,HF,HSZ,HBW⟩:=hrel;obtain ⟨hcB,hfB⟩:=bcell HBW.out;have hsz:=HSZ.out;have hbw0:Below w.heap.size w wr:=hbw.trans (HBW.out.mono hs2);have HB0:=Hd hbw0;have hg:=HC.out;have hgf:=HF.out;clear hbw0;by_cases hlt:k<t.nodes.length
    ·have HLT:=Hd hlt
     obtain ⟨x,hx⟩:∃ x,x=ya8 t k:=⟨_,rfl⟩
     have HXE:=Hd hx;clear hx
     cases hx0:(x != 0) with
     | true=>
       have HX0:=Hd hx0
       go_wp2_with (go_at_call 53;refine (ygk ⟨na,nc,ia,ic⟩ t k _ WFH.out HLT.out (HT.out.mono HB0.out nlr)).mono ?_;rw [← HXE.out];rintro e w2 ⟨rfl,hb2⟩;obtain ⟨hc2,hf2⟩:=bcell hb2;have e2:w2.cell? ⟨w.heap.size+1,0,none⟩=some (.slice none 0 0):=(hc2 _ _ (by omega)).trans ((hcB _ _ hs3).trans b2);have ef:w2.frozen? ⟨w.heap.size+1,0,none⟩=false:=(hf2 _ _ (by omega)).trans ((hfB _ _ hs3).trans f2))
       have hres:ze t=([],(k:Int),x):=by
        rw [HRES.out,HER.out];obtain ⟨f,hf⟩:∃ f,t.nodes.length-k=f+1:=⟨t.nodes.length-k-1,by have:=HLT.out;omega⟩
        rw [hf];simp only [ybM];rw [← HXE.out,HX0.out];rfl
       rw [hres];exact yfS (p:=([],(k:Int),x)) (a:=none) (c:=0) (World.cell?_setCell_same _ _ _ e2) rfl rfl rfl rfl ⟨rfl,.inl ⟨rfl,rfl⟩⟩ ((HB0.out.trans (hb2.mono (by omega))).setCell (by simp) _)
     | false=>
       have HX0:=Hd hx0
       go_wp2_with (go_at_call 53;refine (ygk ⟨na,nc,ia,ic⟩ t k _ WFH.out HLT.out (HT.out.mono HB0.out nlr)).mono ?_;rw [← HXE.out];rintro e w2 ⟨rfl,hb2⟩;obtain ⟨hc2,hf2⟩:=bcell hb2)
       have e6:w2.cell? ⟨w1.heap.size,0,none⟩=some (.slice av q.length cv):=(hc2 _ _ (by omega)).trans hg;have e6f:w2.frozen? ⟨w1.heap.size,0,none⟩=false:=(hf2 _ _ (by omega)).trans hgf;have e0:w2.cell? ⟨w.heap.size,0,none⟩=some (.slice na t.nodes.length nc):=(hc2 _ _ (by omega)).trans ((hcB _ _ hs1).trans b0);have e1:w2.cell? ⟨w.heap.size,1,none⟩=some (.slice ia t.items.length ic):=(hc2 _ _ (by omega)).trans ((hcB _ _ hs1).trans b1);have hz2:=hb2.size;have hT2:=HT.out.mono ((HB0.out.trans (hb2.mono (by omega))).drew) nlr;have HT2:=Hd hT2;have HO2:=Hd (zg HO.out hb2);refine (wpIn_wide (n:=0)).1 ?_;refine Reg.regionIn_L 4 hmo (by kernel_rfl) (by kernel_rfl) (by kernel_rfl) rfl (by kernel_rfl) (by kernel_rfl) (fun W=>Below (w1.heap.size+1) w2 W) (brf.drew) ?_;simp only [List.take_succ_cons,List.take_zero,List.drop_succ_cons,List.drop_zero];refine Reg.WalkL.cons ?v0 (Reg.Still.pure (by intro c e;cases e) rfl (fun _=>rfl) ?h0) ?r0;case h0=>intro W hJ;have j6:=(hJ.cell (p:=⟨w1.heap.size,0,none⟩) (by simp)).trans e6;have j0:=(hJ.cell (p:=⟨w.heap.size,0,none⟩) (by simp;omega)).trans e0;have j1:=(hJ.cell (p:=⟨w.heap.size,1,none⟩) (by simp;omega)).trans e1;go_simp;rfl
       simp only [Reg.pz];refine Reg.WalkL.cons ?v1 (Reg.Still.pure (by intro c e;cases e) rfl (fun _=>rfl) ?h1) ?r1;case h1=>intro W hJ;have j6:=(hJ.cell (p:=⟨w1.heap.size,0,none⟩) (by simp)).trans e6;have j0:=(hJ.cell (p:=⟨w.heap.size,0,none⟩) (by simp;omega)).trans e0;have j1:=(hJ.cell (p:=⟨w.heap.size,1,none⟩) (by simp;omega)).trans e1;go_simp;rfl
       simp only [Reg.pz];refine Reg.WalkL.cons ?v2 (Reg.Still.pure (by intro c e;cases e) rfl (fun _=>rfl) ?h2) ?r2;case h2=>intro W hJ;have j6:=(hJ.cell (p:=⟨w1.heap.size,0,none⟩) (by simp)).trans e6;have j0:=(hJ.cell (p:=⟨w.heap.size,0,none⟩) (by simp;omega)).trans e0;have j1:=(hJ.cell (p:=⟨w.heap.size,1,none⟩) (by simp;omega)).trans e1;go_simp;rfl
       simp only [Reg.pz];refine Reg.WalkL.cons ?v3 (Reg.Still.pure (by intro c e;cases e) rfl (fun _=>rfl) ?h3) ?r3;case h3=>intro W hJ;have j6:=(hJ.cell (p:=⟨w1.heap.size,0,none⟩) (by simp)).trans e6;have j0:=(hJ.cell (p:=⟨w.heap.size,0,none⟩) (by simp;omega)).trans e0;have j1:=(hJ.cell (p:=⟨w.heap.size,1,none⟩) (by simp;omega)).trans e1;go_simp;rfl
       simp only [Reg.pz];refine .nil ?_;refine Reg.TailW.call (f:=54) (args:=#[.agg #[.slice na t.nodes.length nc,.slice ia t.items.length ic],intV k]) (fun _=>trivial) rfl (by intro c e;cases e) rfl ?hcr ?hcc;case hcr=>go_simp;try rfl
       case hcc=>
        refine (callsIn_wide.2 (ydj ⟨na,nc,ia,ic⟩ t k _ WFH.out HLT.out HT2.out)).mono ?_;rintro e w3 ⟨rfl,hb3⟩;have hz3:=hb3.size;simp only [World.size_drew] at hz3;have hJ3:Below (w1.heap.size+1) w2 w3:=((Below.refl _ w2).drew).trans (hb3.mono (by simp;omega));refine ⟨_,rfl,(fun _=>hJ3),?_⟩;simp only [Reg.pz];have hJ4:=hJ3.alloc (by omega) (.cells #[intV (means t k)] 3);refine Reg.TailW.run (v:=.slice (some ⟨w3.heap.size,0,none⟩) 1 1) (w':=w3.alloc (.cells #[intV (means t k)] 3)) (by intro c e;cases e) rfl rfl ?hb (fun _=>hJ4) ?_;case hb=>go_simp;try rfl
        simp only [Reg.pz];obtain ⟨a',c',w5,q',hrun,HQ',hq',hown',hkeep⟩:=yf2 (W:=w3.alloc (.cells #[intV (means t k)] 3)) (news:=[means t k]) ((zg (zg HO2.out ((Below.refl _ w2).drew)) hb3).alloc _) (zQ w3 (intV (means t k)) 3) (by omega) (by simp;omega);have hJ5:=hkeep _ _ nlr hJ4;have HLQ:=Hd (hq'.trans (by rw [hq]));clear hq';rw [hq] at hrun;refine Reg.TailW.append rfl (.tmp 32) (.tmp 36) 23 rfl rfl rfl hrun (fun _=>hJ5) ?_;simp only [Reg.pz];refine Reg.TailW.run (v:=.pointer (some ⟨w1.heap.size,0,none⟩)) (w':=w5) (by intro c e;cases e) rfl rfl ?hfa (fun _=>hJ5) ?_;case hfa=>go_simp;try rfl
        simp only [Reg.pz];have e7:=(hJ5.cell (p:=⟨w1.heap.size,0,none⟩) (by simp)).trans e6;have e7f:=(hJ5.frozen (p:=⟨w1.heap.size,0,none⟩) (by simp)).trans e6f;refine Reg.TailW.skip (w':=w5.setCell ⟨w1.heap.size,0,none⟩ (.slice a' q'.length c')) (by intro c e;cases e) rfl rfl ?hst (fun h=>absurd rfl h) ?_;case hst=>go_simp;try rfl
        refine .nil ?_;have hz5:=hJ5.size;have HBW6:=Hd (show Below w1.heap.size w1 (w5.setCell ⟨w1.heap.size,0,none⟩ (.slice a' q'.length c')) from ((HBW.out.trans (hb2.mono (by omega))).trans (hJ5.mono (by omega))).setCell (by simp) _);have HO6:=Hd (ownsRow_setCell_below hown' (a:=⟨w1.heap.size,0,none⟩) (by simp) (.slice a' q'.length c'));have HC6:=Hd (World.cell?_setCell_same w5 ⟨w1.heap.size,0,none⟩ (.slice a' q'.length c') e7);have HF6:=Hd (show (w5.setCell ⟨w1.heap.size,0,none⟩ (.slice a' q'.length c')).frozen? ⟨w1.heap.size,0,none⟩=false by rw [World.frozen?_setCell];exact e7f);generalize hW6:w5.setCell ⟨w1.heap.size,0,none⟩ (.slice a' q'.length c')=w6 at HBW6 HO6 HC6 HF6 ⊢;have HZ6:=Hd (show w1.heap.size+1≤w6.heap.size by rw [← hW6];simp;omega);clear hW6;go_wp2
        go_roundw
        case rel=>
         refine ⟨k+1,a',c',q',by go_num,by omega,HLQ.out,Hd ?_,Hd ?_,HO6,HC6,HF6,HZ6,HBW6⟩
         ·rw [HQ'.out,HQ.out,List.range_succ,List.map_append];rfl
         ·rw [HER.out]
          obtain ⟨f,hf⟩:∃ f,t.nodes.length-k=f+1:=⟨t.nodes.length-k-1,by omega⟩
          have hf':t.nodes.length-(k+1)=f:=by omega
          rw [hf,hf'];simp only [ybM];rw [← HXE.out,HX0.out];rfl
        case measure=>simp [intOf];omega
    ·obtain rfl:k=t.nodes.length:=by omega
     have k2:wr.cell? ⟨w.heap.size+1,0,none⟩=some (.slice none 0 0):=(hcB _ _ hs3).trans b2;have kf:wr.frozen? ⟨w.heap.size+1,0,none⟩=false:=(hfB _ _ hs3).trans f2;go_wp2
     have hres:ze t=(q,0,0):=by
      rw [HRES.out,HER.out,Nat.sub_self];simp only [ybM];rw [HQ.out]
     rw [hres];exact yfS (p:=(q,0,0)) (a:=av) (c:=cv) (by simp only;rw [hq];exact World.cell?_setCell_same _ _ _ k2) rfl rfl rfl rfl (yah (ownsRow_setCell_below HO.out (by simp;omega) _) (by omega)) (HB0.out.setCell (by simp) _)
end
section
open Go.RowKit
def renB (l:List Int)(node:Int)(i:Nat):Bool:=(i:Int)==node||l.getD i 0==node
def renK (ns:List Nd)(l:List Int)(node:Int)(name:List UInt8)(k:Nat):List Nd:=ns.mapIdx fun i d=>if decide (i<k)&&renB l node i then { d with text:=name } else d
def renT (t:Tr)(l:List Int)(node:Int)(name:List UInt8):Tr:=⟨renK t.nodes l node name t.nodes.length,t.items⟩
theorem yby (ns:List Nd)(l:List Int)(node:Int)(name:List UInt8)(k:Nat):(renK ns l node name k).length=ns.length:=by simp [renK]
theorem yec (ns:List Nd)(l:List Int)(node:Int)(name:List UInt8)(k:Nat){i:Nat}(h:i<ns.length):(renK ns l node name k)[i]'(by rw [yby];exact h)=if decide (i<k)&&renB l node i then { ns[i] with text:=name } else ns[i]:=by simp [renK]
theorem yar (t:Tr)(l:List Int)(node:Int)(name:List UInt8):(renT t l node name).nodes.length=t.nodes.length:=yby _ _ _ _ _
theorem ymd {t:Tr}{l:List Int}{node:Int}{name:List UInt8}(bd:Bd t)(hn:name.length≤1000000000):Bd (renT t l node name):=by
 refine ⟨by rw [yar];exact bd.n,bd.i,fun d hd=>?_,fun d hd=>?_⟩
 ·obtain ⟨i,hi,rfl⟩:=List.getElem_of_mem hd
  have hi':i<t.nodes.length:=by rw [yar] at hi;exact hi
  have hb:=bd.k _ (List.getElem_mem hi');simp only [renT];rw [yec _ _ _ _ _ hi'];split
  ·exact hb
  ·exact hb
 ·obtain ⟨i,hi,rfl⟩:=List.getElem_of_mem hd
  have hi':i<t.nodes.length:=by rw [yar] at hi;exact hi
  have hb:=bd.s _ (List.getElem_mem hi');simp only [renT];rw [yec _ _ _ _ _ hi'];split
  ·exact hn
  ·exact hb
theorem yc7 (t:Tr):(ze t).1.length≤t.nodes.length:=by
 unfold ze;split
 ·simp
 ·split <;> simp
def ybP (t:Tr)(l:List Int)(node:Int)(name:List UInt8):Option Tr:=
 if (ze (renT t l node name)).2.2 != 0 || !((ze (renT t l node name)).1==l) then none else some (renT t l node name)
theorem ygq:∀ (ns:List Nd) (ks:List (Option Addr × Nat)) (k:Nat) (hk:k<ns.length) (name:List UInt8),ks.length=ns.length→zY (ns.set k { ns[k] with text:=name }) ks=(zY ns ks).set (k*5+1) (strV name)
 | d::ns,a::ks,0,_,name,_=>by simp [zY,Nd.cells]
 | d::ns,a::ks,k+1,hk,name,h=>by
   simp only [List.set_cons_succ,zY,List.getElem_cons_succ];rw [ygq ns ks k (by simpa using hk) name (by simpa using h)];have e:(k+1)*5+1=(d.cells a).length+(k*5+1):=by simp [Nd.cells];omega
   rw [e,List.set_append_right _ _ (by omega)];simp
 | [],_,_,hk,_,_=>by simp at hk
 | _::_,[],_,_,_,h=>by simp at h
theorem OwnN.setText {w:World}{B nb c:Nat}{ns:List Nd}{ks:List (Option Addr × Nat)}(h:OwnN w B (some ⟨nb,0,none⟩) c ns ks){k:Nat}(hk:k<ns.length)(name:List UInt8) :
 OwnN (w.setCell ⟨nb,k*5+1,none⟩ (strV name)) B (some ⟨nb,0,none⟩) c (ns.set k { ns[k] with text:=name }) ks:=by
 refine ⟨by simp [h.len],?_,fun i hi hik=>?_⟩
 ·have:=(h.own.stored (k*5+1) (strV name)).1
  rw [← ygq ns ks k hk name h.len] at this;simpa using this
 ·have hi':i<ns.length:=by simpa using hi
  have hkr:=h.kids i hi' hik
  have e:(ns.set k { ns[k] with text:=name })[i].kids=ns[i].kids:=by
   rw [List.getElem_set];split
   ·rename_i e;subst e;rfl
   ·rfl
  rw [e];exact ⟨zX hkr.1 _ fun h0 x ex=>(hkr.2 h0 x ex).2 ⟨nb,0,none⟩ rfl,hkr.2⟩
theorem OwnN.at {w:World}{B c:Nat}{a:Option Addr}{ns:List Nd}{ks:List (Option Addr × Nat)}(h:OwnN w B a c ns ks)(h0:0<ns.length) :
 ∃ nb,a=some ⟨nb,0,none⟩∧B≤nb∧nb<w.heap.size∧(∀ j,w.frozen? ⟨nb,j,none⟩=false):=by
 rcases h.own.2 with ⟨h',h1⟩|⟨g,cap,cur,h',hb,hg,_⟩
 ·have:=h.own.1
  rw [h1] at this;simp at this;omega
 ·simp only [Value.slice.injEq,true_and] at h'
  obtain ⟨rfl,rfl⟩:=h';exact ⟨g,rfl,hb,(Array.getElem?_eq_some_iff.1 hg).1,fun i=>h.own.frozenAt i⟩
abbrev boxW (w:World)(a:Option Addr)(n c:Nat)(a2:Option Addr)(m c2:Nat):World:=w.alloc (.cells #[.slice a n c,.slice a2 m c2] 25)
theorem ygT (W:World)(a:Option Addr)(n c:Nat)(a2:Option Addr)(m c2:Nat){k:Nat}(hk:W.heap.size=k) :
 (boxW W a n c a2 m c2).cell? ⟨k,0,none⟩=some (.slice a n c)∧(boxW W a n c a2 m c2).cell? ⟨k,1,none⟩=some (.slice a2 m c2) ∧ ∀ j,(boxW W a n c a2 m c2).frozen? ⟨k,j,none⟩=false:=by
 subst hk;exact ⟨by simp,by simp,by simp⟩
end
end Go.Proofs.YtipjhljnkocioaaGreatDoor
