/- Part of a proof. -/
import Derived.Test.YtipjhljnkocioaaGreatDoorA12
import Derived.BigRegion
set_option maxRecDepth 100000
set_option maxHeartbeats 8000000
set_option linter.unusedVariables false
set_option linter.unusedSimpArgs false
namespace Go.Proofs.YtipjhljnkocioaaGreatDoor
section
open Go.RowKit
def eatK (out:List Int):List Int→Int→Option Int
 | [],p=>some p
 | k::r,p=>if k != p||decide (p<0) then none else eatK out r (p-out.getD p.toNat 0)
def zC (t:Tr):Nat→Option (List Int)
 | 0=>some []
 | i+1=>(zC t i).bind fun out=>(eatK out (t.nd i).kids.reverse ((i:Int)-1)).map fun p=>out++[(i:Int)-p]
def ybu (t:Tr):List Int:=(zC t t.nodes.length).getD []
theorem ygt {out:List Int}{n:Nat}(ho:∀ j,j<n→1≤out.getD j 0∧out.getD j 0≤j+1):∀ (l:List Int) (p q:Int),p<n → -1≤p→eatK out l p=some q → -1≤q∧q≤p
 | [],p,q,_,h1,h=>by simp [eatK] at h;omega
 | k::l,p,q,h0,h1,h=>by
   rw [eatK] at h;split at h
   ·cases h
   ·rename_i hc
    simp only [Bool.or_eq_true,bne_iff_ne,ne_eq,decide_eq_true_eq,not_or,Classical.not_not] at hc;have hj:=ho p.toNat (by omega);have:=ygt ho l _ q (by omega) (by omega) h;omega
theorem ylB {out:List Int}{n:Nat}(ho:∀ j,j<n→1≤out.getD j 0∧out.getD j 0≤j+1):∀ (l:List Int) (p q:Int),p<n → -1≤p→eatK out l p=some q → ∀ k∈l,0≤k∧k≤p
 | [],p,q,_,h1,h=>by simp
 | k::l,p,q,h0,h1,h=>by
   rw [eatK] at h;split at h
   ·cases h
   ·rename_i hc
    simp only [Bool.or_eq_true,bne_iff_ne,ne_eq,decide_eq_true_eq,not_or,Classical.not_not] at hc;have hj:=ho p.toNat (by omega);intro x hx;rcases List.mem_cons.1 hx with rfl|hx
    ·omega
    ·have:=ylB ho l _ q (by omega) (by omega) h x hx
     omega
theorem yaa {t:Tr}:∀ (i:Nat) (out:List Int),zC t i=some out→out.length=i
 | 0,out,h=>by simp [zC] at h;subst h;rfl
 | i+1,out,h=>by
   simp only [zC,Option.bind_eq_some_iff,Option.map_eq_some_iff] at h;obtain ⟨o,h1,p,h2,rfl⟩:=h;simp [yaa i o h1]
theorem yaH {t:Tr}:∀ (i:Nat) (out:List Int),zC t i=some out → ∀ j,j<i→1≤out.getD j 0∧out.getD j 0≤j+1
 | 0,out,h,j,hj=>by omega
 | i+1,out,h,j,hj=>by
   simp only [zC,Option.bind_eq_some_iff,Option.map_eq_some_iff] at h;obtain ⟨o,h1,p,h2,rfl⟩:=h;have hl:=yaa i o h1;have ih:=yaH i o h1;by_cases hji:j<i
   ·have:=ih j hji
    rwa [List.getD_eq_getElem?_getD,List.getElem?_append_left (by omega),← List.getD_eq_getElem?_getD]
   ·obtain rfl:j=i:=by omega
    have hb:=ygt ih _ _ p (by omega) (by omega) h2;rw [List.getD_eq_getElem?_getD,List.getElem?_append_right (by omega),hl];simp;omega
theorem yeU {t:Tr}{i n:Nat}(h:i≤n)(hn:(zC t n).isSome):(zC t i).isSome:=by
 induction n with
 | zero=>
   have e:i=0:=by omega
   rw [e];rfl
 | succ n ih=>
   by_cases e:i=n+1
   ·subst e;exact hn
   ·refine ih (by omega) ?_
    simp only [zC] at hn
    cases hx:zC t n with
    | none=>rw [hx] at hn;simp at hn
    | some o=>rfl
theorem yeT {t:Tr}{n i:Nat}(hn:(zC t n).isSome)(hi:i<n):∀ k∈(t.nd i).kids,0≤k∧k<(i:Int):=by
 have h1:=yeU (t:=t) (show i+1≤n by omega) hn;simp only [zC] at h1
 cases hx:zC t i with
 | none=>rw [hx] at h1;simp at h1
 | some o=>
   rw [hx] at h1;simp only [Option.bind_some] at h1
   cases hy:eatK o (t.nd i).kids.reverse ((i:Int)-1) with
   | none=>rw [hy] at h1;simp at h1
   | some p=>
     intro k hk;have:=ylB (yaH i o hx) _ _ p (by omega) (by omega) hy k (by simpa using hk);omega
theorem yij {t:Tr}{i n:Nat}(h:i≤n)(hn:zC t i=none):zC t n=none:=by
 cases hx:zC t n with
 | none=>rfl
 | some o=>
   have:=yeU (t:=t) h (by rw [hx];rfl);rw [hn] at this;cases this
theorem yjM {l:List Int}{k:Nat}(h:k<l.length):(l.take (k+1)).reverse=l[k]::(l.take k).reverse:=by
 rw [List.take_succ_eq_append_getElem h];simp
theorem ygc (v:TreeV)(t:Tr)(w:World)(bd:Bd t)(h:IsTree w v t) :
 Calls Tryz.prog 122 #[v.val t] w (RetInts w (ybu t)):=by
 have HT:=Hd h;have BD:=Hd bd;have hn3:=bd.n;clear h bd;unfold TreeV.val;go_enter Tryz.func122,Tryz.ntmps122;go_wp2
 go_loopw [3,4] (fun t3 t4 wr=>∃ (i:Nat) (a3:Option Addr) (c3:Nat) (q:List Int),t4 = .int .i64 i∧i≤t.nodes.length∧t3 = .slice a3 q.length c3∧q.length≤i ∧
  Hid (zC t i=some q)∧Hid (OwnI wr (w.heap.size+1) a3 c3 q)∧Hid (Below (w.heap.size+1) (boxT w v t) wr)) (fun _ i _=>t.nodes.length-(intOf i).toNat)
 case atStart=>exact ⟨0,_,_,[],rfl,Nat.zero_le _,rfl,by simp,Hd rfl,Hd (yb7 (boxT w v t) _ _ (by simp) nlr),Hd (brf.alloc (by simp) _)⟩
 case round=>
  obtain ⟨i,a3,c3,q,rfl,hi,rfl,hq,HQ,HO,HB⟩:=hrel;obtain ⟨b0,b1,-,⟨hs,hs1,hs2⟩,hbw⟩:=boxed HB.out HT.out;obtain ⟨hcw,hfw⟩:=bcell hbw;by_cases hlt:i<t.nodes.length
  ·obtain ⟨b,o,ka,kc,ea,hb,c0,c1,c2,c3',c4,hkr⟩:=HT.out.nodes.at hlt
   obtain ⟨na,nc,ia,ic⟩:=v;simp only at ea b0 b1;subst ea;obtain ⟨ks,hks⟩:∃ ks,ks=t.nodes[i].kids:=⟨_,rfl⟩
   have hkl:=BD.out.k _ (List.getElem_mem hlt);rw [← hks] at hkr c3' hkl;have HKR:=Hd hkr;have HKS:Hid ((t.nd i).kids=ks):=Hd (by rw [t.nd_at hlt,hks]);have HOB:=Hd (yaH i q HQ.out);have hql:q.length=i:=yaa i q HQ.out;have HQL:=Hd hql;have hqi:i≤q.length:=by omega
   clear hkr hks hql;go_wp2
   go_loop [6,7] (fun t6 t7=>∃ (p k:Int),t6=intV p∧t7=intV k ∧ -1≤p∧p<i ∧ -1≤k∧k<ks.length∧Hid (eatK q ks.reverse ((i:Int)-1)=eatK q (ks.take (k+1).toNat).reverse p)) (fun _ k=>(intOf k+1).toNat)
   case atStart=>exact ⟨(i:Int)-1,(ks.length:Int)-1,by go_num,by go_num,by omega,by omega,by omega,by omega,Hd (by rw [show ((ks.length:Int)-1+1).toNat=ks.length by omega,List.take_length])⟩
   case round=>
    obtain ⟨p,k,rfl,rfl,hp1,hp2,hk1,hk2,HE⟩:=hrel;by_cases hk0:0≤k
    ·obtain ⟨j,rfl⟩:=Int.eq_ofNat_of_zero_le hk0
     have hj:j<ks.length:=by omega
     obtain ⟨bk,ok,rfl,hbk,ck⟩:=Ints.at HKR.out hj;have HR:Hid (eatK q ks.reverse ((i:Int)-1)=if ks[j] != p||decide (p<0) then none else eatK q (ks.take j).reverse (p-q.getD p.toNat 0)):=Hd (by rw [HE.out,show ((j:Int)+1).toNat=j+1 by omega,yjM hj,eatK])
     have hnone:eatK q ks.reverse ((i:Int)-1)=none→ybu t=[]:=by
      intro hz;have:zC t (i+1)=none:=by rw [zC,HQ.out,Option.bind_some,HKS.out,hz];rfl
      rw [ybu,yij (show i+1≤t.nodes.length by omega) this];rfl
     have HNONE:=Hd hnone;clear hnone HE
     cases hne:ks[j] != p with
     | true=>
       have HNE:=Hd hne;go_wp2;go_ret;rw [HNONE.out (by rw [HR.out,HNE.out];rfl)];exact ⟨none,0,rfl,World.ownsRow_nil _ _ _ _,hbw⟩
     | false=>
       have HNE:=Hd hne;by_cases hp0:p<0
       ·have HP:=Hd hp0
        go_wp2;go_ret;rw [HNONE.out (by rw [HR.out,HNE.out];exact if_pos (by simpa using HP.out))];exact ⟨none,0,rfl,World.ownsRow_nil _ _ _ _,hbw⟩
       ·obtain ⟨pp,rfl⟩:=Int.eq_ofNat_of_zero_le (show 0≤p by omega)
        obtain ⟨bq,oq,rfl,hbq,cq⟩:=Ints.at (zE HO.out) (i:=pp) (by omega);have hqb:=HOB.out pp (by omega);have hqg:q.getD pp 0=q[pp]:=by rw [List.getD_eq_getElem?_getD,List.getElem?_eq_getElem (by omega),Option.getD_some]
        rw [hqg] at hqb;have hq1:=hqb.1;have hq2:=hqb.2;have HQG:=Hd hqg;have hdp:decide ((pp:Int)<0)=false:=decide_eq_false hp0;clear hqb hqg;go_wp2
        go_round
        case rel=>exact ⟨(pp:Int)-q[pp],(j:Int)-1,by go_num,by go_num,by omega,by omega,by omega,by omega,Hd (by rw [HR.out,HNE.out,if_neg (by simp),show ((j:Int)-1+1).toNat=j by omega,Int.toNat_natCast,HQG.out])⟩
        case measure=>simp [intOf];try omega
    ·have hk:k = -1:=by omega
     subst hk;have HR:Hid (zC t (i+1)=some (q++[(i:Int)-p])):=Hd (by rw [zC,HQ.out,Option.bind_some,HKS.out,HE.out];rfl);clear HE
     go_wp2_with (at_builtin;refine zI (news:=[(i:Int)-p]) rfl (.tmp 47) (.tmp 51) rfl rfl (HO.out.alloc _) rfl (zQ _ _ _) (by omega) (by simp;omega) ?_;intro a9 c9 w9 l9 HL9 hle9 hown9 hkeep9)
     go_roundw
     case rel=>exact ⟨i+1,a9,c9,l9,by go_num,by omega,rfl,by omega,Hd (by rw [HR.out,HL9.out]),Hd hown9,Hd (hkeep9 _ _ nlr (HB.out.alloc hs _))⟩
     case measure=>simp [intOf];try omega
  ·obtain rfl:i=t.nodes.length:=by omega
   go_wp2;go_ret;have e:ybu t=q:=by rw [ybu,HQ.out,Option.getD_some]
   rw [e];exact RetInts.mk HO.out (by omega) hbw
end
section
open Go.RowKit
def ybK (n:Nat):Array Value:=Array.replicate n (intV 0)
theorem yjq (n:Nat):(ybK n).toList=zn (List.replicate n 0):=by simp [ybK]
theorem yeD (W:World)(n:Nat)(h:n≤4398046511104) :
 (Instr.makeSlice 23 (.int .i64 n) (.int .i64 n)).run Tryz.prog W = .ok (.slice (some ⟨W.heap.size,0,none⟩) n n) (W.alloc (.cells (ybK n) 3)):=by
 obtain ⟨i0,hi,hz0,hz1,hz2⟩:=info_parts yd3;rw [run_make (P:=Tryz.prog) W 23 3 i0 (.int .i64 0) yaI hi hz0 .i64 .i64 n n (by omega) (Int.le_refl _) (by rw [hz2];omega) (by omega),hz1,Nat.mul_one,Int.toNat_natCast]
 have:madeCells (Value.int .i64 0).cells n=ybK n:=by
  apply Array.ext';rw [show (Value.int IntKind.i64 0).cells = #[Value.int .i64 0] from rfl,toList_madeCells_one,ybK];simp
 rw [this]
theorem ygD (W:World){B n k:Nat}(hk:W.heap.size=k)(hB:B≤k)(hn:n≤4398046511104):(W.alloc (.cells (ybK n) 3)).ownsRow B 3 1 (.slice (some ⟨k,0,none⟩) n n) n (zn (List.replicate n 0)):=by
 subst hk;rw [← yjq];exact World.ownsRow_lit W (ybK n) n hB (by unfold maxLen;omega) (by simp [ybK])
def yaf (o:List Int)(d:Int):List Int→List Int
 | []=>o
 | k::r=>yaf (o.set k.toNat d) d r
def ydE (t:Tr)(o:List Int)(i:Nat):List Int:=yaf (o.set i (max (o.getD i 0) 1)) (max (o.getD i 0) 1+1) (t.nd i).kids
def ycE (t:Tr):Nat→List Int
 | 0=>List.replicate t.nodes.length 0
 | m+1=>ydE t (ycE t m) (t.nodes.length-1-m)
def ybL (t:Tr):List Int:=ycE t t.nodes.length
theorem ycm (d:Int):∀ (l o:List Int),(yaf o d l).length=o.length
 | [],o=>rfl
 | k::l,o=>by rw [yaf,ycm d l];simp
theorem yaW (t:Tr):∀ m,(ycE t m).length=t.nodes.length
 | 0=>by simp [ycE]
 | m+1=>by rw [ycE,ydE,ycm];simp [yaW t m]
theorem ydY {d:Int}{n:Nat}{i:Nat}(hd:0≤d∧d+i≤n+1):∀ (l o:List Int),(∀ k∈l,0≤k∧k<(i:Int))→(∀ j,0≤o.getD j 0∧(j<n→o.getD j 0+j≤n)) → ∀ j,0≤(yaf o d l).getD j 0∧(j<n→(yaf o d l).getD j 0+j≤n)
 | [],o,_,h=>h
 | k::l,o,hk,h=>by
   refine ydY hd l _ (fun x hx=>hk x (List.mem_cons_of_mem _ hx)) fun j=>?_;have hk0:=hk k (by simp);rw [List.getD_eq_getElem?_getD,List.getElem?_set];split
   ·rename_i e
    split
    ·exact ⟨hd.1,fun _=>by simp only [Option.getD_some];omega⟩
    ·exact ⟨by simp,fun _=>by simp only [Option.getD_none];omega⟩
   ·rw [← List.getD_eq_getElem?_getD];exact h j
theorem ycF {t:Tr}(hk:∀ i,i<t.nodes.length → ∀ k∈(t.nd i).kids,0≤k∧k<(i:Int)):∀ m,m≤t.nodes.length → ∀ j,0≤(ycE t m).getD j 0∧(j<t.nodes.length→(ycE t m).getD j 0+j≤t.nodes.length)
 | 0,_,j=>by
   rw [ycE,List.getD_eq_getElem?_getD,List.getElem?_replicate];split <;> simp <;> omega
 | m+1,hm,j=>by
   have ih:=ycF hk m (by omega);rw [ycE,ydE];have hi:=ih (t.nodes.length-1-m);refine ydY (n:=t.nodes.length) (i:=t.nodes.length-1-m) (by have:=hi.2 (by omega);omega) _ _ (hk _ (by omega)) (fun j=>?_) j;rw [List.getD_eq_getElem?_getD,List.getElem?_set];have h2:=hi.2 (by omega);have h1:=hi.1;generalize (ycE t m).getD (t.nodes.length-1-m) 0=x at *;split
   ·rename_i e
    split
    ·exact ⟨by simp only [Option.getD_some];omega,fun _=>by simp only [Option.getD_some];omega⟩
    ·exact ⟨by simp,fun _=>by simp only [Option.getD_none];omega⟩
   ·rw [← List.getD_eq_getElem?_getD];exact ih j
theorem ybo {d:Int}{i:Nat}:∀ (l o:List Int),(∀ k∈l,0≤k∧k<(i:Int))→(yaf o d l).getD i 0=o.getD i 0
 | [],o,_=>rfl
 | k::l,o,hk=>by
   have hk0:=hk k (by simp);rw [yaf,ybo l _ fun x hx=>hk x (List.mem_cons_of_mem _ hx),List.getD_eq_getElem?_getD,List.getElem?_set,if_neg (by omega),← List.getD_eq_getElem?_getD]
theorem ybD {d:Int}:∀ (l o:List Int) (k:Int),yaf o d (l++[k])=(yaf o d l).set k.toNat d
 | [],o,k=>rfl
 | x::l,o,k=>by rw [List.cons_append,yaf,ybD l];rfl
theorem yiu (v:TreeV)(t:Tr)(w:World)(bd:Bd t)(hkid:∀ i,i<t.nodes.length → ∀ k∈(t.nd i).kids,0≤k∧k<(i:Int))(h:IsTree w v t) :
 Calls Tryz.prog 125 #[v.val t] w (RetInts w (ybL t)):=by
 have HT:=Hd h;have BD:=Hd bd;have HKID:=Hd hkid;have hn3:=bd.n;have hmk:=fun W=>yeD W t.nodes.length (by omega);clear h bd hkid;unfold TreeV.val;go_enter Tryz.func125,Tryz.ntmps125;go_wp2;have HO0:=Hd (ygD (boxT w v t) (B:=w.heap.size+1) (n:=t.nodes.length) (k:=w.heap.size+1) (by simp) nlr (by omega))
 go_loopw [4] (fun t4 wr=>∃ (i:Int),t4=intV i ∧ -1≤i∧i<t.nodes.length∧Hid (wr.ownsRow (w.heap.size+1) 3 1 (.slice (some ⟨w.heap.size+1,0,none⟩) t.nodes.length t.nodes.length) t.nodes.length (zn (ycE t ((t.nodes.length:Int)-1-i).toNat)))∧Hid (Below (w.heap.size+1) (boxT w v t) wr)) (fun i _=>(intOf i+1).toNat)
 case atStart=>exact ⟨(t.nodes.length:Int)-1,by go_num,by omega,by omega,Hd (by rw [show ((t.nodes.length:Int)-1-((t.nodes.length:Int)-1)).toNat=0 by omega];exact HO0.out),Hd (brf.alloc (by simp) _)⟩
 case round=>
  obtain ⟨i,rfl,hi1,hi2,HO,HB⟩:=hrel;obtain ⟨b0,b1,-,⟨hs,hs1,hs2⟩,hbw⟩:=boxed HB.out HT.out;obtain ⟨hcw,hfw⟩:=bcell hbw;by_cases hi0:0≤i
  ·obtain ⟨m,rfl⟩:=Int.eq_ofNat_of_zero_le hi0
   have hlt:m<t.nodes.length:=by omega
   obtain ⟨b,o,ka,kc,ea,hb,c0,c1,c2,c3',c4,hkr⟩:=HT.out.nodes.at hlt;obtain ⟨na,nc,ia,ic⟩:=v;simp only at ea b0 b1;subst ea;obtain ⟨ks,hks⟩:∃ ks,ks=t.nodes[m].kids:=⟨_,rfl⟩
   have hkl:=BD.out.k _ (List.getElem_mem hlt);rw [← hks] at hkr c3' hkl;have HKR:=Hd hkr;have HKS:Hid ((t.nd m).kids=ks):=Hd (by rw [t.nd_at hlt,hks]);have HKI:=HKID.out m hlt;rw [HKS.out] at HKI;obtain ⟨L,hL⟩:∃ L,L=ycE t ((t.nodes.length:Int)-1-m).toNat:=⟨_,rfl⟩
   have HL:=Hd hL;have hLb:=ycF HKID.out ((t.nodes.length:Int)-1-m).toNat (by omega);rw [← hL] at hLb;have HLB:=Hd hLb;obtain ⟨x,hx⟩:∃ x,x=L.getD m 0:=⟨_,rfl⟩
   have hxb:=hLb m;rw [← hx] at hxb;have hx0:=hxb.1;have hx1:=hxb.2 hlt;have HX:=Hd hx;have HKII:=Hd HKI;have hown:=HO.out;rw [← hL] at hown;obtain ⟨g,hge,hg1,hg2,hLl,hcell,hfr⟩:=yaJ hown (by omega);simp only [Option.some.injEq,Addr.mk.injEq,and_true] at hge;subst hge;have ci:=hcell m hlt;have fi:=hfr m;rw [← hx] at ci;have HOWN:=Hd hown;have HFR:=Hd hfr;have HLL:=Hd hLl;clear hkr hks hL hLb hx hxb HKI hown hcell hfr hLl;by_cases hz:x=0
   ·have HMX:Hid (max x 1=1):=Hd (by omega)
    subst hz;go_wp2
    go_loopw [5] (fun t5 wr=>∃ k:Nat,t5 = .int .i64 k∧k≤ks.length∧Hid (wr.ownsRow (w.heap.size+1) 3 1 (.slice (some ⟨w.heap.size+1,0,none⟩) t.nodes.length t.nodes.length) t.nodes.length (zn (yaf (L.set m 1) (1+1) (ks.take k))))∧Hid (Below (w.heap.size+1) (boxT w ⟨some ⟨b,o,none⟩,nc,ia,ic⟩ t) wr)) (fun i _=>ks.length-(intOf i).toNat)
    case atStart=>exact ⟨0,rfl,Nat.zero_le _,Hd (yb8 HOWN.out m 1),Hd (HB.out.setCell (by simp) _)⟩
    case round=>
     obtain ⟨k,rfl,hk,HO5,HB5⟩:=hrel;obtain ⟨b50,b51,-,⟨hs5,hs51,hs52⟩,hbw5⟩:=boxed HB5.out HT.out;obtain ⟨hcw5,hfw5⟩:=bcell hbw5;by_cases hlk:k<ks.length
     ·obtain ⟨bk,ok,rfl,hbk,ck⟩:=Ints.at HKR.out hlk
      obtain ⟨hk1,hk2⟩:=HKII.out _ (List.getElem_mem hlk);obtain ⟨c,hc⟩:=Int.eq_ofNat_of_zero_le hk1;have hcm:c<m:=by omega
      have HC:=Hd hc;rw [hc] at ck;obtain ⟨g5,he5,-,-,-,hcell5,hfr5⟩:=yaJ HO5.out (by omega);simp only [Option.some.injEq,Addr.mk.injEq,and_true] at he5;subst he5;have cm:=hcell5 m hlt;rw [ybo _ _ (fun x hx=>HKII.out x (List.mem_of_mem_take hx)),List.getD_eq_getElem?_getD,List.getElem?_set,if_pos rfl,if_pos (by have:=HLL.out;omega),Option.getD_some] at cm;have cc:=hcell5 c (by omega);have fc:=hfr5 c;have hbb:b<wr.heap.size:=by omega
      have hbb2:bk<wr.heap.size:=by omega
      have hcn:c<t.nodes.length:=by omega
      clear hc hk1 hk2 hcell5 hfr5;go_wp2;go_region;go_wp2
      go_roundw
      case rel=>
       refine ⟨k+1,by go_num,by omega,Hd ?_,Hd ((HB5.out.setCell (by simp) _).drew)⟩;rw [List.take_succ_eq_append_getElem hlk,ybD,HC.out];exact yb8 HO5.out c (1+1)
      case measure=>simp [intOf];omega
     ·obtain rfl:k=ks.length:=by omega
      go_wp2
      go_roundw
      case rel=>
       refine ⟨(m:Int)-1,by go_num,by omega,by omega,Hd ?_,HB5⟩;have ho:=HO5.out;rw [List.take_length] at ho;rw [show ((t.nodes.length:Int)-1-((m:Int)-1)).toNat=((t.nodes.length:Int)-1-m).toNat+1 by omega,ycE,← HL.out,ydE,show t.nodes.length-1-((t.nodes.length:Int)-1-m).toNat=m by omega,HKS.out,← HX.out,HMX.out];exact ho
      case measure=>simp [intOf];try omega
   ·have HMX:Hid (max x 1=x):=Hd (by omega)
    have hx2:1≤x:=by omega
    clear hz;go_wp2
    go_loopw [5] (fun t5 wr=>∃ k:Nat,t5 = .int .i64 k∧k≤ks.length∧Hid (wr.ownsRow (w.heap.size+1) 3 1 (.slice (some ⟨w.heap.size+1,0,none⟩) t.nodes.length t.nodes.length) t.nodes.length (zn (yaf (L.set m x) (x+1) (ks.take k))))∧Hid (Below (w.heap.size+1) (boxT w ⟨some ⟨b,o,none⟩,nc,ia,ic⟩ t) wr)) (fun i _=>ks.length-(intOf i).toNat)
    case atStart=>exact ⟨0,rfl,Nat.zero_le _,Hd (yb8 HOWN.out m x),Hd (HB.out.setCell (by simp) _)⟩
    case round=>
     obtain ⟨k,rfl,hk,HO5,HB5⟩:=hrel;obtain ⟨b50,b51,-,⟨hs5,hs51,hs52⟩,hbw5⟩:=boxed HB5.out HT.out;obtain ⟨hcw5,hfw5⟩:=bcell hbw5;by_cases hlk:k<ks.length
     ·obtain ⟨bk,ok,rfl,hbk,ck⟩:=Ints.at HKR.out hlk
      obtain ⟨hk1,hk2⟩:=HKII.out _ (List.getElem_mem hlk);obtain ⟨c,hc⟩:=Int.eq_ofNat_of_zero_le hk1;have hcm:c<m:=by omega
      have HC:=Hd hc;rw [hc] at ck;obtain ⟨g5,he5,-,-,-,hcell5,hfr5⟩:=yaJ HO5.out (by omega);simp only [Option.some.injEq,Addr.mk.injEq,and_true] at he5;subst he5;have cm:=hcell5 m hlt;rw [ybo _ _ (fun x hx=>HKII.out x (List.mem_of_mem_take hx)),List.getD_eq_getElem?_getD,List.getElem?_set,if_pos rfl,if_pos (by have:=HLL.out;omega),Option.getD_some] at cm;have cc:=hcell5 c (by omega);have fc:=hfr5 c;have hbb:b<wr.heap.size:=by omega
      have hbb2:bk<wr.heap.size:=by omega
      have hcn:c<t.nodes.length:=by omega
      clear hc hk1 hk2 hcell5 hfr5;go_wp2;go_region;go_wp2
      go_roundw
      case rel=>
       refine ⟨k+1,by go_num,by omega,Hd ?_,Hd ((HB5.out.setCell (by simp) _).drew)⟩;rw [List.take_succ_eq_append_getElem hlk,ybD,HC.out];exact yb8 HO5.out c (x+1)
      case measure=>simp [intOf];omega
     ·obtain rfl:k=ks.length:=by omega
      go_wp2
      go_roundw
      case rel=>
       refine ⟨(m:Int)-1,by go_num,by omega,by omega,Hd ?_,HB5⟩;have ho:=HO5.out;rw [List.take_length] at ho;rw [show ((t.nodes.length:Int)-1-((m:Int)-1)).toNat=((t.nodes.length:Int)-1-m).toNat+1 by omega,ycE,← HL.out,ydE,show t.nodes.length-1-((t.nodes.length:Int)-1-m).toNat=m by omega,HKS.out,← HX.out,HMX.out];exact ho
      case measure=>simp [intOf];try omega
  ·have hi:i = -1:=by omega
   subst hi;go_wp2;go_ret;have ho:=HO.out;rw [show ((t.nodes.length:Int)-1 - -1).toNat=t.nodes.length by omega] at ho;exact ⟨some ⟨w.heap.size+1,0,none⟩,t.nodes.length,by simp [ybL,yaW],by rw [ybL,yaW];exact yah ho (by omega),hbw⟩
end
section
open Go.RowKit
def okK (k:Int):Bool:=yao k||k==25||yco k||k==34||ybt k
def ycU (t:Tr)(d:Nd)(j:Nat):Bool:=kidK d.kind d.kids.length j (t.nd (d.kids.getD j 0)).kind && !((t.nd (d.kids.getD j 0)).kind==1&&decide ((t.nd (d.kids.getD j 0)).n<0)&&d.kind != 40)
def ydw (t:Tr)(d:Nd):Bool:=(List.range d.kids.length).all fun j=>ycU t d j
def yac (t:Tr)(i:Nat):Bool:=
 (okK (t.nd i).kind&&(ybI (t.nd i).kind==zW (t.nd i).text)&&(ybI (t.nd i).kind||(t.nd i).text==[])&&zL (t.nd i).kind (t.nd i).n (t.nd i).kids.length&&zu (t.nd i).kind (t.nd i).n&&decide (0≤(t.nd i).pos)&&decide ((t.nd i).pos≤2000))&&ydw t (t.nd i)
theorem yd4 {t:Tr}{d:Nd}{k:Nat}(hk:k<d.kids.length)(h:ycU t d k=false):ydw t d=false:=by
 rw [ydw,Bool.eq_false_iff];intro ha;have:=List.all_eq_true.1 ha k (List.mem_range.2 hk);rw [h] at this;cases this
theorem ybB {w wr:World}{v:TreeV}{t:Tr}{ka:Option Addr}{kc:Nat}{d:Nd}(hb:Below (w.heap.size+1+1) (boxD (boxT w v t) ka kc d) wr):wr.cell? ⟨w.heap.size+1,4,none⟩=some (intV d.pos):=by
 have hb':Below (boxD (boxT w v t) ka kc d).heap.size (boxD (boxT w v t) ka kc d) wr:=by simpa using hb
 obtain ⟨hc,_⟩:=bcell hb';have e1:(boxD (boxT w v t) ka kc d).cell? ⟨w.heap.size+1,4,none⟩=some (intV d.pos):=by simp
 exact (hc _ _ (by simp)).trans e1
theorem yga (v:TreeV)(t:Tr)(i:Nat)(w:World)(bd:Bd t)(hi:i<t.nodes.length)(hk:∀ k∈t.nodes[i].kids,0≤k∧k<(t.nodes.length:Int))(h:IsTree w v t) :
 Calls Tryz.prog 123 #[v.val t,intV i] w (zq w (yac t i)):=by
 have hmo:Tryz.prog.follows .mixedOrders=true:=by kernel_rfl
 have HT:=Hd h;have hn3:=bd.n;have hts:=bd.s _ (List.getElem_mem hi);have hkl:=bd.k _ (List.getElem_mem hi);obtain ⟨b,o,ka,kc,ea,hb,c0,c1,c2,c3,c4,hkr⟩:=HT.out.nodes.at hi;obtain ⟨na,nc,ia,ic⟩:=v;simp only at ea;subst ea;obtain ⟨D,hD⟩:∃ D,D=t.nodes[i]:=⟨_,rfl⟩
 have hnd:=t.nd_at hi;rw [← hD] at c0 c1 c2 c3 c4 hkr hts hkl hk hnd;have HND:=Hd hnd;have HKI:=Hd hk;have HKR:=Hd hkr;clear h bd hD hnd hk hkr;unfold TreeV.val;go_enter Tryz.func123,Tryz.ntmps123;have hg:Below (w.heap.size+1+1) (boxD (boxT w ⟨some ⟨b,o,none⟩,nc,ia,ic⟩ t) ka kc D) (boxD (boxT w ⟨some ⟨b,o,none⟩,nc,ia,ic⟩ t) ka kc D):=brf;have HG:=Hd hg;clear hg
 go_upto_region 2 with fail
 go_cut [38] from 13 to 37 (fun v wc=>v = .bool (!okK D.kind)∧Below (w.heap.size+1+1) (boxD (boxT w ⟨some ⟨b,o,none⟩,nc,ia,ic⟩ t) ka kc D) wc)
 case first=>
  have hc1:∀ W,Calls Tryz.prog 159 #[.int .u8 D.kind] W fun e w'=>e = .returned (.bool (yao D.kind))∧W=w':=fun W=>ye6 _ W;have hc2:∀ W,Calls Tryz.prog 160 #[.int .u8 D.kind] W fun e w'=>e = .returned (.bool (yco D.kind))∧W=w':=fun W=>ye8 _ W;have hc3:∀ W,Calls Tryz.prog 124 #[.int .u8 D.kind] W fun e w'=>e = .returned (.bool (ybt D.kind))∧W=w':=fun W=>ye7 _ W;have HC1:=Hd hc1;have HC2:=Hd hc2;have HC3:=Hd hc3;clear hc1 hc2 hc3;obtain ⟨e1,h1⟩:∃ e1,yao D.kind=e1:=⟨_,rfl⟩
  obtain ⟨e2,h2⟩:∃ e2,yco D.kind=e2:=⟨_,rfl⟩
  obtain ⟨e3,h3⟩:∃ e3,ybt D.kind=e3:=⟨_,rfl⟩
  obtain ⟨b25,h25⟩:∃ x,(D.kind != 25)=x:=⟨_,rfl⟩
  obtain ⟨b34,h34⟩:∃ x,(D.kind != 34)=x:=⟨_,rfl⟩
  have H25:Hid ((D.kind==25) = !b25):=Hd (by rw [← h25];simp [bne]);have H34:Hid ((D.kind==34) = !b34):=Hd (by rw [← h34];simp [bne]);have H1:=Hd h1;have H2:=Hd h2;have H3:=Hd h3;clear h1 h2 h3
  go_wp2_with (first
   | (go_at_call 159;refine (HC1.out _).mono ?_;rw [H1.out];rintro e w' ⟨rfl,rfl⟩)
   | (go_at_call 160;refine (HC2.out _).mono ?_;rw [H2.out];rintro e w' ⟨rfl,rfl⟩)
   | (go_at_call 124;refine (HC3.out _).mono ?_;rw [H3.out];rintro e w' ⟨rfl,rfl⟩))
  all_goals go_meet
  all_goals exact ⟨by rw [okK,H1.out,H2.out,H3.out,H25.out,H34.out];simp_all,HG.out⟩
 case rest=>
  obtain ⟨rfl,hB4⟩:=hcut;have HB4:=Hd hB4;clear hB4
  cases hokk:okK D.kind with
  | false=>
    have HOKK:=Hd hokk;obtain ⟨-,-,-,-,hbw4⟩:=zP (v:=⟨some ⟨b,o,none⟩,nc,ia,ic⟩) (ka:=ka) (kc:=kc) (d:=D) (t:=t) (w:=w) (wr:=wc) HB4.out HT.out;go_wp2;go_ret;exact ⟨za (by rw [yac,HND.out];simp [HOKK.out]),hbw4⟩
  | true=>
    have HOKK:=Hd hokk;clear hokk;obtain ⟨W4,hW4⟩:∃ W4,W4=wc:=⟨_,rfl⟩
    subst hW4;obtain ⟨⟨b40,b41⟩,⟨d40,d41,d42,d43⟩,-,⟨hs4,hs41,hs42,hs43⟩,hbw4⟩:=zP (v:=⟨some ⟨b,o,none⟩,nc,ia,ic⟩) (ka:=ka) (kc:=kc) (d:=D) (t:=t) (w:=w) (wr:=W4) HB4.out HT.out;have d44:=ybB (v:=⟨some ⟨b,o,none⟩,nc,ia,ic⟩) (ka:=ka) (kc:=kc) (d:=D) (t:=t) (w:=w) (wr:=W4) HB4.out;obtain ⟨hcw4,hfw4⟩:=bcell hbw4;have hbb4:b<W4.heap.size:=by omega
    cases hnm:ybI D.kind with
    | true=>
      have HA:=Hd hnm;clear hnm
      cases hw:zW D.text with
      | false=>
        have HW:=Hd hw;clear hw;go_wp2;refine Reg.region_JTm 37 hmo (by kernel_rfl) (by kernel_rfl) rfl (by kernel_rfl) (by kernel_rfl) (fun Wz=>Below (W4).heap.size (W4) Wz) (brf.drew) ?_
        iterate 2 (refine Reg.WalkT.cons ?_ (Reg.StepP.pure rfl ?_) ?_;rotate_left;(intro W hJ;obtain ⟨hcJ,hfJ⟩:=bcell hJ;go_simp;rfl);simp only [Reg.pz])
        refine Reg.WalkT.cons (.bool true) (Reg.StepP.call (f:=161) (args:=#[.int .u8 D.kind]) rfl ?hG1_2 ?cG1_2) ?rG1_2;case hG1_2=>intro W hJ;obtain ⟨hcJ,hfJ⟩:=bcell hJ;go_simp;try rfl
        case cG1_2=>intro W hJ;(refine (zB D.kind W).mono ?_;rw [HA.out];rintro e w2 ⟨rfl,rfl⟩;exact ⟨rfl,hJ⟩)
        simp only [Reg.pz]
        iterate 2 (refine Reg.WalkT.cons ?_ (Reg.StepP.pure rfl ?_) ?_;rotate_left;(intro W hJ;obtain ⟨hcJ,hfJ⟩:=bcell hJ;go_simp;rfl);simp only [Reg.pz])
        refine Reg.WalkT.cons (.bool false) (Reg.StepP.call (f:=74) (args:=#[strV D.text]) rfl ?hG1_5 ?cG1_5) ?rG1_5;case hG1_5=>intro W hJ;obtain ⟨hcJ,hfJ⟩:=bcell hJ;go_simp;try rfl
        case cG1_5=>intro W hJ;(refine (yak D.text W hts).mono ?_;rw [HW.out];rintro e w2 ⟨rfl,hb2⟩;exact ⟨rfl,hJ.trans (hb2.mono hJ.size)⟩)
        simp only [Reg.pz]
        iterate 31 ((first | (refine Reg.WalkT.cons undef (Reg.StepP.skip rfl) ?_) | (refine Reg.WalkT.cons ?_ (Reg.StepP.pure rfl ?_) ?_;rotate_left;(intro W hJ;obtain ⟨hcJ,hfJ⟩:=bcell hJ;go_simp;rfl)));simp only [Reg.pz])
        refine Reg.WalkT.nil fun W hJ=>?_;go_wp2;go_ret;exact ⟨za (by rw [yac,HND.out];simp [HA.out,HW.out]),hbw4.trans (hJ.mono (by omega))⟩
      | true=>
        have HW:=Hd hw;clear hw
        cases hm:zL D.kind D.n D.kids.length with
        | false=>
          have HM:=Hd hm;clear hm;go_wp2;refine Reg.region_JTm 37 hmo (by kernel_rfl) (by kernel_rfl) rfl (by kernel_rfl) (by kernel_rfl) (fun Wz=>Below (W4).heap.size (W4) Wz) (brf.drew) ?_
          iterate 2 (refine Reg.WalkT.cons ?_ (Reg.StepP.pure rfl ?_) ?_;rotate_left;(intro W hJ;obtain ⟨hcJ,hfJ⟩:=bcell hJ;go_simp;rfl);simp only [Reg.pz])
          refine Reg.WalkT.cons (.bool true) (Reg.StepP.call (f:=161) (args:=#[.int .u8 D.kind]) rfl ?hG2_2 ?cG2_2) ?rG2_2;case hG2_2=>intro W hJ;obtain ⟨hcJ,hfJ⟩:=bcell hJ;go_simp;try rfl
          case cG2_2=>intro W hJ;(refine (zB D.kind W).mono ?_;rw [HA.out];rintro e w2 ⟨rfl,rfl⟩;exact ⟨rfl,hJ⟩)
          simp only [Reg.pz]
          iterate 2 (refine Reg.WalkT.cons ?_ (Reg.StepP.pure rfl ?_) ?_;rotate_left;(intro W hJ;obtain ⟨hcJ,hfJ⟩:=bcell hJ;go_simp;rfl);simp only [Reg.pz])
          refine Reg.WalkT.cons (.bool true) (Reg.StepP.call (f:=74) (args:=#[strV D.text]) rfl ?hG2_5 ?cG2_5) ?rG2_5;case hG2_5=>intro W hJ;obtain ⟨hcJ,hfJ⟩:=bcell hJ;go_simp;try rfl
          case cG2_5=>intro W hJ;(refine (yak D.text W hts).mono ?_;rw [HW.out];rintro e w2 ⟨rfl,hb2⟩;exact ⟨rfl,hJ.trans (hb2.mono hJ.size)⟩)
          simp only [Reg.pz]
          iterate 4 (refine Reg.WalkT.cons ?_ (Reg.StepP.pure rfl ?_) ?_;rotate_left;(intro W hJ;obtain ⟨hcJ,hfJ⟩:=bcell hJ;go_simp;rfl);simp only [Reg.pz])
          refine Reg.WalkT.cons (.bool true) (Reg.StepP.call (f:=161) (args:=#[.int .u8 D.kind]) rfl ?hG2_10 ?cG2_10) ?rG2_10;case hG2_10=>intro W hJ;obtain ⟨hcJ,hfJ⟩:=bcell hJ;go_simp;try rfl
          case cG2_10=>intro W hJ;(refine (zB D.kind W).mono ?_;rw [HA.out];rintro e w2 ⟨rfl,rfl⟩;exact ⟨rfl,hJ⟩)
          simp only [Reg.pz]
          iterate 9 ((first | (refine Reg.WalkT.cons undef (Reg.StepP.skip rfl) ?_) | (refine Reg.WalkT.cons ?_ (Reg.StepP.pure rfl ?_) ?_;rotate_left;(intro W hJ;obtain ⟨hcJ,hfJ⟩:=bcell hJ;go_simp;rfl)));simp only [Reg.pz])
          refine Reg.WalkT.cons (.bool false) (Reg.StepP.call (f:=162) (args:=#[.agg #[.int .u8 D.kind,strV D.text,intV D.n,.slice ka D.kids.length kc,intV D.pos]]) rfl ?hG2_20 ?cG2_20) ?rG2_20;case hG2_20=>intro W hJ;obtain ⟨hcJ,hfJ⟩:=bcell hJ;go_simp;try rfl
          case cG2_20=>intro W hJ;(refine (ya6 D ka kc W hkl).mono ?_;rw [HM.out];rintro e w2 ⟨rfl,hb2⟩;exact ⟨rfl,hJ.trans (hb2.mono hJ.size)⟩)
          simp only [Reg.pz]
          iterate 16 ((first | (refine Reg.WalkT.cons undef (Reg.StepP.skip rfl) ?_) | (refine Reg.WalkT.cons ?_ (Reg.StepP.pure rfl ?_) ?_;rotate_left;(intro W hJ;obtain ⟨hcJ,hfJ⟩:=bcell hJ;go_simp;rfl)));simp only [Reg.pz])
          refine Reg.WalkT.nil fun W hJ=>?_;go_wp2;go_ret;exact ⟨za (by rw [yac,HND.out];simp [HM.out]),hbw4.trans (hJ.mono (by omega))⟩
        | true=>
          have HM:=Hd hm;clear hm
          cases hu:zu D.kind D.n with
          | false=>
            have HU:=Hd hu;clear hu;go_wp2;refine Reg.region_JTm 37 hmo (by kernel_rfl) (by kernel_rfl) rfl (by kernel_rfl) (by kernel_rfl) (fun Wz=>Below (W4).heap.size (W4) Wz) (brf.drew) ?_
            iterate 2 (refine Reg.WalkT.cons ?_ (Reg.StepP.pure rfl ?_) ?_;rotate_left;(intro W hJ;obtain ⟨hcJ,hfJ⟩:=bcell hJ;go_simp;rfl);simp only [Reg.pz])
            refine Reg.WalkT.cons (.bool true) (Reg.StepP.call (f:=161) (args:=#[.int .u8 D.kind]) rfl ?hG3_2 ?cG3_2) ?rG3_2;case hG3_2=>intro W hJ;obtain ⟨hcJ,hfJ⟩:=bcell hJ;go_simp;try rfl
            case cG3_2=>intro W hJ;(refine (zB D.kind W).mono ?_;rw [HA.out];rintro e w2 ⟨rfl,rfl⟩;exact ⟨rfl,hJ⟩)
            simp only [Reg.pz]
            iterate 2 (refine Reg.WalkT.cons ?_ (Reg.StepP.pure rfl ?_) ?_;rotate_left;(intro W hJ;obtain ⟨hcJ,hfJ⟩:=bcell hJ;go_simp;rfl);simp only [Reg.pz])
            refine Reg.WalkT.cons (.bool true) (Reg.StepP.call (f:=74) (args:=#[strV D.text]) rfl ?hG3_5 ?cG3_5) ?rG3_5;case hG3_5=>intro W hJ;obtain ⟨hcJ,hfJ⟩:=bcell hJ;go_simp;try rfl
            case cG3_5=>intro W hJ;(refine (yak D.text W hts).mono ?_;rw [HW.out];rintro e w2 ⟨rfl,hb2⟩;exact ⟨rfl,hJ.trans (hb2.mono hJ.size)⟩)
            simp only [Reg.pz]
            iterate 4 (refine Reg.WalkT.cons ?_ (Reg.StepP.pure rfl ?_) ?_;rotate_left;(intro W hJ;obtain ⟨hcJ,hfJ⟩:=bcell hJ;go_simp;rfl);simp only [Reg.pz])
            refine Reg.WalkT.cons (.bool true) (Reg.StepP.call (f:=161) (args:=#[.int .u8 D.kind]) rfl ?hG3_10 ?cG3_10) ?rG3_10;case hG3_10=>intro W hJ;obtain ⟨hcJ,hfJ⟩:=bcell hJ;go_simp;try rfl
            case cG3_10=>intro W hJ;(refine (zB D.kind W).mono ?_;rw [HA.out];rintro e w2 ⟨rfl,rfl⟩;exact ⟨rfl,hJ⟩)
            simp only [Reg.pz]
            iterate 9 ((first | (refine Reg.WalkT.cons undef (Reg.StepP.skip rfl) ?_) | (refine Reg.WalkT.cons ?_ (Reg.StepP.pure rfl ?_) ?_;rotate_left;(intro W hJ;obtain ⟨hcJ,hfJ⟩:=bcell hJ;go_simp;rfl)));simp only [Reg.pz])
            refine Reg.WalkT.cons (.bool true) (Reg.StepP.call (f:=162) (args:=#[.agg #[.int .u8 D.kind,strV D.text,intV D.n,.slice ka D.kids.length kc,intV D.pos]]) rfl ?hG3_20 ?cG3_20) ?rG3_20;case hG3_20=>intro W hJ;obtain ⟨hcJ,hfJ⟩:=bcell hJ;go_simp;try rfl
            case cG3_20=>intro W hJ;(refine (ya6 D ka kc W hkl).mono ?_;rw [HM.out];rintro e w2 ⟨rfl,hb2⟩;exact ⟨rfl,hJ.trans (hb2.mono hJ.size)⟩)
            simp only [Reg.pz]
            iterate 4 (refine Reg.WalkT.cons ?_ (Reg.StepP.pure rfl ?_) ?_;rotate_left;(intro W hJ;obtain ⟨hcJ,hfJ⟩:=bcell hJ;go_simp;rfl);simp only [Reg.pz])
            refine Reg.WalkT.cons (.bool false) (Reg.StepP.call (f:=163) (args:=#[.agg #[.int .u8 D.kind,strV D.text,intV D.n,.slice ka D.kids.length kc,intV D.pos]]) rfl ?hG3_25 ?cG3_25) ?rG3_25;case hG3_25=>intro W hJ;obtain ⟨hcJ,hfJ⟩:=bcell hJ;go_simp;try rfl
            case cG3_25=>intro W hJ;(refine (yaS D ka kc W).mono ?_;rw [HU.out];rintro e w2 ⟨rfl,hb2⟩;exact ⟨rfl,hJ.trans (hb2.mono hJ.size)⟩)
            simp only [Reg.pz]
            iterate 11 ((first | (refine Reg.WalkT.cons undef (Reg.StepP.skip rfl) ?_) | (refine Reg.WalkT.cons ?_ (Reg.StepP.pure rfl ?_) ?_;rotate_left;(intro W hJ;obtain ⟨hcJ,hfJ⟩:=bcell hJ;go_simp;rfl)));simp only [Reg.pz])
            refine Reg.WalkT.nil fun W hJ=>?_;go_wp2;go_ret;exact ⟨za (by rw [yac,HND.out];simp [HU.out]),hbw4.trans (hJ.mono (by omega))⟩
          | true=>
            have HU:=Hd hu;clear hu;by_cases hp0:D.pos<0
            ·have HP:=Hd hp0
             go_wp2;refine Reg.region_JTm 37 hmo (by kernel_rfl) (by kernel_rfl) rfl (by kernel_rfl) (by kernel_rfl) (fun Wz=>Below (W4).heap.size (W4) Wz) (brf.drew) ?_
             iterate 2 (refine Reg.WalkT.cons ?_ (Reg.StepP.pure rfl ?_) ?_;rotate_left;(intro W hJ;obtain ⟨hcJ,hfJ⟩:=bcell hJ;go_simp;rfl);simp only [Reg.pz])
             refine Reg.WalkT.cons (.bool true) (Reg.StepP.call (f:=161) (args:=#[.int .u8 D.kind]) rfl ?hG4_2 ?cG4_2) ?rG4_2;case hG4_2=>intro W hJ;obtain ⟨hcJ,hfJ⟩:=bcell hJ;go_simp;try rfl
             case cG4_2=>intro W hJ;(refine (zB D.kind W).mono ?_;rw [HA.out];rintro e w2 ⟨rfl,rfl⟩;exact ⟨rfl,hJ⟩)
             simp only [Reg.pz]
             iterate 2 (refine Reg.WalkT.cons ?_ (Reg.StepP.pure rfl ?_) ?_;rotate_left;(intro W hJ;obtain ⟨hcJ,hfJ⟩:=bcell hJ;go_simp;rfl);simp only [Reg.pz])
             refine Reg.WalkT.cons (.bool true) (Reg.StepP.call (f:=74) (args:=#[strV D.text]) rfl ?hG4_5 ?cG4_5) ?rG4_5;case hG4_5=>intro W hJ;obtain ⟨hcJ,hfJ⟩:=bcell hJ;go_simp;try rfl
             case cG4_5=>intro W hJ;(refine (yak D.text W hts).mono ?_;rw [HW.out];rintro e w2 ⟨rfl,hb2⟩;exact ⟨rfl,hJ.trans (hb2.mono hJ.size)⟩)
             simp only [Reg.pz]
             iterate 4 (refine Reg.WalkT.cons ?_ (Reg.StepP.pure rfl ?_) ?_;rotate_left;(intro W hJ;obtain ⟨hcJ,hfJ⟩:=bcell hJ;go_simp;rfl);simp only [Reg.pz])
             refine Reg.WalkT.cons (.bool true) (Reg.StepP.call (f:=161) (args:=#[.int .u8 D.kind]) rfl ?hG4_10 ?cG4_10) ?rG4_10;case hG4_10=>intro W hJ;obtain ⟨hcJ,hfJ⟩:=bcell hJ;go_simp;try rfl
             case cG4_10=>intro W hJ;(refine (zB D.kind W).mono ?_;rw [HA.out];rintro e w2 ⟨rfl,rfl⟩;exact ⟨rfl,hJ⟩)
             simp only [Reg.pz]
             iterate 9 ((first | (refine Reg.WalkT.cons undef (Reg.StepP.skip rfl) ?_) | (refine Reg.WalkT.cons ?_ (Reg.StepP.pure rfl ?_) ?_;rotate_left;(intro W hJ;obtain ⟨hcJ,hfJ⟩:=bcell hJ;go_simp;rfl)));simp only [Reg.pz])
             refine Reg.WalkT.cons (.bool true) (Reg.StepP.call (f:=162) (args:=#[.agg #[.int .u8 D.kind,strV D.text,intV D.n,.slice ka D.kids.length kc,intV D.pos]]) rfl ?hG4_20 ?cG4_20) ?rG4_20;case hG4_20=>intro W hJ;obtain ⟨hcJ,hfJ⟩:=bcell hJ;go_simp;try rfl
             case cG4_20=>intro W hJ;(refine (ya6 D ka kc W hkl).mono ?_;rw [HM.out];rintro e w2 ⟨rfl,hb2⟩;exact ⟨rfl,hJ.trans (hb2.mono hJ.size)⟩)
             simp only [Reg.pz]
             iterate 4 (refine Reg.WalkT.cons ?_ (Reg.StepP.pure rfl ?_) ?_;rotate_left;(intro W hJ;obtain ⟨hcJ,hfJ⟩:=bcell hJ;go_simp;rfl);simp only [Reg.pz])
             refine Reg.WalkT.cons (.bool true) (Reg.StepP.call (f:=163) (args:=#[.agg #[.int .u8 D.kind,strV D.text,intV D.n,.slice ka D.kids.length kc,intV D.pos]]) rfl ?hG4_25 ?cG4_25) ?rG4_25;case hG4_25=>intro W hJ;obtain ⟨hcJ,hfJ⟩:=bcell hJ;go_simp;try rfl
             case cG4_25=>intro W hJ;(refine (yaS D ka kc W).mono ?_;rw [HU.out];rintro e w2 ⟨rfl,hb2⟩;exact ⟨rfl,hJ.trans (hb2.mono hJ.size)⟩)
             simp only [Reg.pz]
             iterate 11 ((first | (refine Reg.WalkT.cons undef (Reg.StepP.skip rfl) ?_) | (refine Reg.WalkT.cons ?_ (Reg.StepP.pure rfl ?_) ?_;rotate_left;(intro W hJ;obtain ⟨hcJ,hfJ⟩:=bcell hJ;go_simp;rfl)));simp only [Reg.pz])
             refine Reg.WalkT.nil fun W hJ=>?_;go_wp2;go_ret;exact ⟨za (by rw [yac,HND.out];simp [show ¬ (0≤D.pos) by have:=HP.out;omega]),hbw4.trans (hJ.mono (by omega))⟩
            ·have hpb:decide (D.pos<0)=false:=decide_eq_false hp0
             by_cases hp1:D.pos > 2000
             ·have HP:=Hd hp1
              go_wp2;refine Reg.region_JTm 37 hmo (by kernel_rfl) (by kernel_rfl) rfl (by kernel_rfl) (by kernel_rfl) (fun Wz=>Below (W4).heap.size (W4) Wz) (brf.drew) ?_
              iterate 2 (refine Reg.WalkT.cons ?_ (Reg.StepP.pure rfl ?_) ?_;rotate_left;(intro W hJ;obtain ⟨hcJ,hfJ⟩:=bcell hJ;go_simp;rfl);simp only [Reg.pz])
              refine Reg.WalkT.cons (.bool true) (Reg.StepP.call (f:=161) (args:=#[.int .u8 D.kind]) rfl ?hG5_2 ?cG5_2) ?rG5_2;case hG5_2=>intro W hJ;obtain ⟨hcJ,hfJ⟩:=bcell hJ;go_simp;try rfl
              case cG5_2=>intro W hJ;(refine (zB D.kind W).mono ?_;rw [HA.out];rintro e w2 ⟨rfl,rfl⟩;exact ⟨rfl,hJ⟩)
              simp only [Reg.pz]
              iterate 2 (refine Reg.WalkT.cons ?_ (Reg.StepP.pure rfl ?_) ?_;rotate_left;(intro W hJ;obtain ⟨hcJ,hfJ⟩:=bcell hJ;go_simp;rfl);simp only [Reg.pz])
              refine Reg.WalkT.cons (.bool true) (Reg.StepP.call (f:=74) (args:=#[strV D.text]) rfl ?hG5_5 ?cG5_5) ?rG5_5;case hG5_5=>intro W hJ;obtain ⟨hcJ,hfJ⟩:=bcell hJ;go_simp;try rfl
              case cG5_5=>intro W hJ;(refine (yak D.text W hts).mono ?_;rw [HW.out];rintro e w2 ⟨rfl,hb2⟩;exact ⟨rfl,hJ.trans (hb2.mono hJ.size)⟩)
              simp only [Reg.pz]
              iterate 4 (refine Reg.WalkT.cons ?_ (Reg.StepP.pure rfl ?_) ?_;rotate_left;(intro W hJ;obtain ⟨hcJ,hfJ⟩:=bcell hJ;go_simp;rfl);simp only [Reg.pz])
              refine Reg.WalkT.cons (.bool true) (Reg.StepP.call (f:=161) (args:=#[.int .u8 D.kind]) rfl ?hG5_10 ?cG5_10) ?rG5_10;case hG5_10=>intro W hJ;obtain ⟨hcJ,hfJ⟩:=bcell hJ;go_simp;try rfl
              case cG5_10=>intro W hJ;(refine (zB D.kind W).mono ?_;rw [HA.out];rintro e w2 ⟨rfl,rfl⟩;exact ⟨rfl,hJ⟩)
              simp only [Reg.pz]
              iterate 9 ((first | (refine Reg.WalkT.cons undef (Reg.StepP.skip rfl) ?_) | (refine Reg.WalkT.cons ?_ (Reg.StepP.pure rfl ?_) ?_;rotate_left;(intro W hJ;obtain ⟨hcJ,hfJ⟩:=bcell hJ;go_simp;rfl)));simp only [Reg.pz])
              refine Reg.WalkT.cons (.bool true) (Reg.StepP.call (f:=162) (args:=#[.agg #[.int .u8 D.kind,strV D.text,intV D.n,.slice ka D.kids.length kc,intV D.pos]]) rfl ?hG5_20 ?cG5_20) ?rG5_20;case hG5_20=>intro W hJ;obtain ⟨hcJ,hfJ⟩:=bcell hJ;go_simp;try rfl
              case cG5_20=>intro W hJ;(refine (ya6 D ka kc W hkl).mono ?_;rw [HM.out];rintro e w2 ⟨rfl,hb2⟩;exact ⟨rfl,hJ.trans (hb2.mono hJ.size)⟩)
              simp only [Reg.pz]
              iterate 4 (refine Reg.WalkT.cons ?_ (Reg.StepP.pure rfl ?_) ?_;rotate_left;(intro W hJ;obtain ⟨hcJ,hfJ⟩:=bcell hJ;go_simp;rfl);simp only [Reg.pz])
              refine Reg.WalkT.cons (.bool true) (Reg.StepP.call (f:=163) (args:=#[.agg #[.int .u8 D.kind,strV D.text,intV D.n,.slice ka D.kids.length kc,intV D.pos]]) rfl ?hG5_25 ?cG5_25) ?rG5_25;case hG5_25=>intro W hJ;obtain ⟨hcJ,hfJ⟩:=bcell hJ;go_simp;try rfl
              case cG5_25=>intro W hJ;(refine (yaS D ka kc W).mono ?_;rw [HU.out];rintro e w2 ⟨rfl,hb2⟩;exact ⟨rfl,hJ.trans (hb2.mono hJ.size)⟩)
              simp only [Reg.pz]
              iterate 11 (refine Reg.WalkT.cons ?_ (Reg.StepP.pure rfl ?_) ?_;rotate_left;(intro W hJ;obtain ⟨hcJ,hfJ⟩:=bcell hJ;go_simp;rfl);simp only [Reg.pz])
              refine Reg.WalkT.nil fun W hJ=>?_;go_wp2;go_ret;exact ⟨za (by rw [yac,HND.out];simp [show ¬ (D.pos≤2000) by have:=HP.out;omega]),hbw4.trans (hJ.mono (by omega))⟩
             ·have HP0:=Hd hp0
              have HP1:=Hd hp1;have hpc:decide (2000<D.pos)=false:=decide_eq_false hp1;have HOKS:Hid ((okK D.kind&&(ybI D.kind==zW D.text)&&(ybI D.kind||D.text==[])&&zL D.kind D.n D.kids.length&&zu D.kind D.n&&decide (0≤D.pos)&&decide (D.pos≤2000))=true):=Hd (by simp [HOKK.out,HA.out,HW.out,HM.out,HU.out];have:=HP0.out;have:=HP1.out;omega);go_wp2;refine Reg.region_JTm 37 hmo (by kernel_rfl) (by kernel_rfl) rfl (by kernel_rfl) (by kernel_rfl) (fun Wz=>Below (W4).heap.size (W4) Wz) (brf.drew) ?_
              iterate 2 (refine Reg.WalkT.cons ?_ (Reg.StepP.pure rfl ?_) ?_;rotate_left;(intro W hJ;obtain ⟨hcJ,hfJ⟩:=bcell hJ;go_simp;rfl);simp only [Reg.pz])
              refine Reg.WalkT.cons (.bool true) (Reg.StepP.call (f:=161) (args:=#[.int .u8 D.kind]) rfl ?hG6_2 ?cG6_2) ?rG6_2;case hG6_2=>intro W hJ;obtain ⟨hcJ,hfJ⟩:=bcell hJ;go_simp;try rfl
              case cG6_2=>intro W hJ;(refine (zB D.kind W).mono ?_;rw [HA.out];rintro e w2 ⟨rfl,rfl⟩;exact ⟨rfl,hJ⟩)
              simp only [Reg.pz]
              iterate 2 (refine Reg.WalkT.cons ?_ (Reg.StepP.pure rfl ?_) ?_;rotate_left;(intro W hJ;obtain ⟨hcJ,hfJ⟩:=bcell hJ;go_simp;rfl);simp only [Reg.pz])
              refine Reg.WalkT.cons (.bool true) (Reg.StepP.call (f:=74) (args:=#[strV D.text]) rfl ?hG6_5 ?cG6_5) ?rG6_5;case hG6_5=>intro W hJ;obtain ⟨hcJ,hfJ⟩:=bcell hJ;go_simp;try rfl
              case cG6_5=>intro W hJ;(refine (yak D.text W hts).mono ?_;rw [HW.out];rintro e w2 ⟨rfl,hb2⟩;exact ⟨rfl,hJ.trans (hb2.mono hJ.size)⟩)
              simp only [Reg.pz]
              iterate 4 (refine Reg.WalkT.cons ?_ (Reg.StepP.pure rfl ?_) ?_;rotate_left;(intro W hJ;obtain ⟨hcJ,hfJ⟩:=bcell hJ;go_simp;rfl);simp only [Reg.pz])
              refine Reg.WalkT.cons (.bool true) (Reg.StepP.call (f:=161) (args:=#[.int .u8 D.kind]) rfl ?hG6_10 ?cG6_10) ?rG6_10;case hG6_10=>intro W hJ;obtain ⟨hcJ,hfJ⟩:=bcell hJ;go_simp;try rfl
              case cG6_10=>intro W hJ;(refine (zB D.kind W).mono ?_;rw [HA.out];rintro e w2 ⟨rfl,rfl⟩;exact ⟨rfl,hJ⟩)
              simp only [Reg.pz]
              iterate 9 ((first | (refine Reg.WalkT.cons undef (Reg.StepP.skip rfl) ?_) | (refine Reg.WalkT.cons ?_ (Reg.StepP.pure rfl ?_) ?_;rotate_left;(intro W hJ;obtain ⟨hcJ,hfJ⟩:=bcell hJ;go_simp;rfl)));simp only [Reg.pz])
              refine Reg.WalkT.cons (.bool true) (Reg.StepP.call (f:=162) (args:=#[.agg #[.int .u8 D.kind,strV D.text,intV D.n,.slice ka D.kids.length kc,intV D.pos]]) rfl ?hG6_20 ?cG6_20) ?rG6_20;case hG6_20=>intro W hJ;obtain ⟨hcJ,hfJ⟩:=bcell hJ;go_simp;try rfl
              case cG6_20=>intro W hJ;(refine (ya6 D ka kc W hkl).mono ?_;rw [HM.out];rintro e w2 ⟨rfl,hb2⟩;exact ⟨rfl,hJ.trans (hb2.mono hJ.size)⟩)
              simp only [Reg.pz]
              iterate 4 (refine Reg.WalkT.cons ?_ (Reg.StepP.pure rfl ?_) ?_;rotate_left;(intro W hJ;obtain ⟨hcJ,hfJ⟩:=bcell hJ;go_simp;rfl);simp only [Reg.pz])
              refine Reg.WalkT.cons (.bool true) (Reg.StepP.call (f:=163) (args:=#[.agg #[.int .u8 D.kind,strV D.text,intV D.n,.slice ka D.kids.length kc,intV D.pos]]) rfl ?hG6_25 ?cG6_25) ?rG6_25;case hG6_25=>intro W hJ;obtain ⟨hcJ,hfJ⟩:=bcell hJ;go_simp;try rfl
              case cG6_25=>intro W hJ;(refine (yaS D ka kc W).mono ?_;rw [HU.out];rintro e w2 ⟨rfl,hb2⟩;exact ⟨rfl,hJ.trans (hb2.mono hJ.size)⟩)
              simp only [Reg.pz]
              iterate 11 (refine Reg.WalkT.cons ?_ (Reg.StepP.pure rfl ?_) ?_;rotate_left;(intro W hJ;obtain ⟨hcJ,hfJ⟩:=bcell hJ;go_simp;rfl);simp only [Reg.pz])
              refine Reg.WalkT.nil fun W hJ=>?_;go_wp2;have hb5:Below (w.heap.size+1+1) (boxD (boxT w ⟨some ⟨b,o,none⟩,nc,ia,ic⟩ t) ka kc D) W:=Below.trans HB4.out (hJ.mono (by omega))
              go_loopw [6] (fun t6 wr=>∃ k:Nat,t6 = .int .i64 k∧k≤D.kids.length∧Hid (((List.range k).all fun j=>ycU t D j)=true)∧Hid (Below (w.heap.size+1+1) (boxD (boxT w ⟨some ⟨b,o,none⟩,nc,ia,ic⟩ t) ka kc D) wr)) (fun i _=>D.kids.length-(intOf i).toNat)
              case atStart=>exact ⟨0,rfl,Nat.zero_le _,Hd rfl,Hd hb5⟩
              case round=>
               obtain ⟨k,rfl,hk,HL,HB7⟩:=hrel;obtain ⟨⟨b70,b71⟩,⟨d70,d71,d72,d73⟩,-,⟨hs7,hs71,hs72,hs73⟩,hbw7⟩:=zP (v:=⟨some ⟨b,o,none⟩,nc,ia,ic⟩) (ka:=ka) (kc:=kc) (d:=D) (t:=t) (w:=w) (wr:=wr) HB7.out HT.out;have d74:=ybB (v:=⟨some ⟨b,o,none⟩,nc,ia,ic⟩) (ka:=ka) (kc:=kc) (d:=D) (t:=t) (w:=w) (wr:=wr) HB7.out;obtain ⟨hcw7,hfw7⟩:=bcell hbw7;have hbb7:b<wr.heap.size:=by omega
               by_cases hlt:k<D.kids.length
               ·obtain ⟨bk,ok,rfl,hbk,ck⟩:=Ints.at HKR.out hlt
                obtain ⟨hk1,hk2⟩:=HKI.out _ (List.getElem_mem hlt);obtain ⟨m,hm⟩:=Int.eq_ofNat_of_zero_le hk1;have hml:m<t.nodes.length:=by omega
                have HM2:=Hd hm;rw [hm] at ck;obtain ⟨b',o',ka',kc',ea',hb',f0,f1,f2,f3,f4,-⟩:=HT.out.nodes.at hml;simp only [Option.some.injEq,Addr.mk.injEq,and_true] at ea';obtain ⟨rfl,rfl⟩:=ea';have HND3:=Hd (t.nd_at hml);have hbk':bk<wr.heap.size:=by omega
                have hok:ycU t D k=(kidK D.kind D.kids.length k t.nodes[m].kind && !(t.nodes[m].kind==1&&decide (t.nodes[m].n<0)&&D.kind != 40)):=by
                 rw [ycU,List.getD_eq_getElem?_getD,List.getElem?_eq_getElem hlt,Option.getD_some,HM2.out,HND3.out]
                have HOK:=Hd hok;have HK:∀ W,Calls Tryz.prog 164 #[.agg #[.int .u8 D.kind,strV D.text,intV D.n,.slice (some ⟨bk,ok,none⟩) D.kids.length kc,intV D.pos],intV k,.int .u8 t.nodes[m].kind] W (zq W (kidK D.kind D.kids.length k t.nodes[m].kind)):=fun W=>yjr D (some ⟨bk,ok,none⟩) kc k _ W hkl;have HKC:=Hd HK;have hsn:∀ x,ycU t D k=x→((List.range (k+1)).all fun j=>ycU t D j)=x:=by intro x hx;rw [List.range_succ,List.all_append,HL.out];simp [hx]
                have HSN:=Hd hsn;clear hk1 hk2 hm hok HK hsn;go_wp2;generalize hWW:wr=WW at *;go_region;have hbn:Below (w.heap.size+1+1) (boxD (boxT w ⟨some ⟨b,o,none⟩,nc,ia,ic⟩ t) (some ⟨bk,ok,none⟩) kc D) ((WW.alloc (.cells #[.int .u8 t.nodes[m].kind,strV t.nodes[m].text,intV t.nodes[m].n,.slice ka' t.nodes[m].kids.length kc',intV t.nodes[m].pos] 52)).drew):=((HB7.out.alloc hs7 _).drew)
                have HLT:=Hd hlt
                cases hkk:kidK D.kind D.kids.length k t.nodes[m].kind with
                | false=>
                  have HKK:=Hd hkk;clear hkk
                  go_wp2_with (go_at_call 164;refine (HKC.out _).mono ?_;rw [HKK.out];rintro e w8 ⟨rfl,hb8⟩;have hb9:=hbn.trans (hb8.mono (by simp;omega));obtain ⟨-,⟨d80,d81,d82,d83⟩,-,⟨hs8,hs81,hs82,hs83⟩,hbw8⟩:=zP (v:=⟨some ⟨b,o,none⟩,nc,ia,ic⟩) (ka:=some ⟨bk,ok,none⟩) (kc:=kc) (d:=D) (t:=t) (w:=w) (wr:=w8) hb9 HT.out;obtain ⟨hc8,hf8⟩:=bcell hb8)
                  go_ret;exact ⟨za (by rw [yac,HND.out,HOKS.out,yd4 HLT.out (by rw [HOK.out];simp [HKK.out])];rfl),hbw8⟩
                | true=>
                  have HKK:=Hd hkk;clear hkk
                  cases h1:t.nodes[m].kind==1 with
                  | false=>
                    have H1:=Hd h1
                    go_wp2_with (go_at_call 164;refine (HKC.out _).mono ?_;rw [HKK.out];rintro e w8 ⟨rfl,hb8⟩;have hb9:=hbn.trans (hb8.mono (by simp;omega));obtain ⟨-,⟨d80,d81,d82,d83⟩,-,⟨hs8,hs81,hs82,hs83⟩,hbw8⟩:=zP (v:=⟨some ⟨b,o,none⟩,nc,ia,ic⟩) (ka:=some ⟨bk,ok,none⟩) (kc:=kc) (d:=D) (t:=t) (w:=w) (wr:=w8) hb9 HT.out;obtain ⟨hc8,hf8⟩:=bcell hb8)
                    go_roundw
                    case rel=>exact ⟨k+1,by go_num,by omega,Hd (HSN.out true (by rw [HOK.out];simp [HKK.out,H1.out])),Hd hb9⟩
                    case measure=>simp [intOf];omega
                  | true=>
                    have H1:=Hd h1
                    cases hng:decide (t.nodes[m].n<0) with
                    | false=>
                      have HNG:=Hd hng
                      go_wp2_with (go_at_call 164;refine (HKC.out _).mono ?_;rw [HKK.out];rintro e w8 ⟨rfl,hb8⟩;have hb9:=hbn.trans (hb8.mono (by simp;omega));obtain ⟨-,⟨d80,d81,d82,d83⟩,-,⟨hs8,hs81,hs82,hs83⟩,hbw8⟩:=zP (v:=⟨some ⟨b,o,none⟩,nc,ia,ic⟩) (ka:=some ⟨bk,ok,none⟩) (kc:=kc) (d:=D) (t:=t) (w:=w) (wr:=w8) hb9 HT.out;obtain ⟨hc8,hf8⟩:=bcell hb8)
                      go_roundw
                      case rel=>exact ⟨k+1,by go_num,by omega,Hd (HSN.out true (by rw [HOK.out];simp [HKK.out,H1.out,HNG.out])),Hd hb9⟩
                      case measure=>simp [intOf];omega
                    | true=>
                      have HNG:=Hd hng
                      cases h40:D.kind != 40 with
                      | false=>
                        have H40:=Hd h40
                        go_wp2_with (go_at_call 164;refine (HKC.out _).mono ?_;rw [HKK.out];rintro e w8 ⟨rfl,hb8⟩;have hb9:=hbn.trans (hb8.mono (by simp;omega));obtain ⟨-,⟨d80,d81,d82,d83⟩,-,⟨hs8,hs81,hs82,hs83⟩,hbw8⟩:=zP (v:=⟨some ⟨b,o,none⟩,nc,ia,ic⟩) (ka:=some ⟨bk,ok,none⟩) (kc:=kc) (d:=D) (t:=t) (w:=w) (wr:=w8) hb9 HT.out;obtain ⟨hc8,hf8⟩:=bcell hb8)
                        go_roundw
                        case rel=>exact ⟨k+1,by go_num,by omega,Hd (HSN.out true (by rw [HOK.out];simp [HKK.out,H1.out,HNG.out,H40.out])),Hd hb9⟩
                        case measure=>simp [intOf];omega
                      | true=>
                        have H40:=Hd h40
                        go_wp2_with (go_at_call 164;refine (HKC.out _).mono ?_;rw [HKK.out];rintro e w8 ⟨rfl,hb8⟩;have hb9:=hbn.trans (hb8.mono (by simp;omega));obtain ⟨-,⟨d80,d81,d82,d83⟩,-,⟨hs8,hs81,hs82,hs83⟩,hbw8⟩:=zP (v:=⟨some ⟨b,o,none⟩,nc,ia,ic⟩) (ka:=some ⟨bk,ok,none⟩) (kc:=kc) (d:=D) (t:=t) (w:=w) (wr:=w8) hb9 HT.out;obtain ⟨hc8,hf8⟩:=bcell hb8)
                        go_ret;exact ⟨za (by rw [yac,HND.out,HOKS.out,yd4 HLT.out (by rw [HOK.out];simp [HKK.out,H1.out,HNG.out,H40.out])];rfl),hbw8⟩
               ·obtain rfl:k=D.kids.length:=by omega
                go_wp2;go_ret;exact ⟨za (by rw [yac,HND.out,HOKS.out,ydw,HL.out];rfl),hbw7⟩
    | false=>
      have HA:=Hd hnm;clear hnm
      cases hw:zW D.text with
      | true=>
        have HW:=Hd hw;clear hw;go_wp2;refine Reg.region_JTm 37 hmo (by kernel_rfl) (by kernel_rfl) rfl (by kernel_rfl) (by kernel_rfl) (fun Wz=>Below (W4).heap.size (W4) Wz) (brf.drew) ?_
        iterate 2 (refine Reg.WalkT.cons ?_ (Reg.StepP.pure rfl ?_) ?_;rotate_left;(intro W hJ;obtain ⟨hcJ,hfJ⟩:=bcell hJ;go_simp;rfl);simp only [Reg.pz])
        refine Reg.WalkT.cons (.bool false) (Reg.StepP.call (f:=161) (args:=#[.int .u8 D.kind]) rfl ?hG7_2 ?cG7_2) ?rG7_2;case hG7_2=>intro W hJ;obtain ⟨hcJ,hfJ⟩:=bcell hJ;go_simp;try rfl
        case cG7_2=>intro W hJ;(refine (zB D.kind W).mono ?_;rw [HA.out];rintro e w2 ⟨rfl,rfl⟩;exact ⟨rfl,hJ⟩)
        simp only [Reg.pz]
        iterate 2 (refine Reg.WalkT.cons ?_ (Reg.StepP.pure rfl ?_) ?_;rotate_left;(intro W hJ;obtain ⟨hcJ,hfJ⟩:=bcell hJ;go_simp;rfl);simp only [Reg.pz])
        refine Reg.WalkT.cons (.bool true) (Reg.StepP.call (f:=74) (args:=#[strV D.text]) rfl ?hG7_5 ?cG7_5) ?rG7_5;case hG7_5=>intro W hJ;obtain ⟨hcJ,hfJ⟩:=bcell hJ;go_simp;try rfl
        case cG7_5=>intro W hJ;(refine (yak D.text W hts).mono ?_;rw [HW.out];rintro e w2 ⟨rfl,hb2⟩;exact ⟨rfl,hJ.trans (hb2.mono hJ.size)⟩)
        simp only [Reg.pz]
        iterate 31 ((first | (refine Reg.WalkT.cons undef (Reg.StepP.skip rfl) ?_) | (refine Reg.WalkT.cons ?_ (Reg.StepP.pure rfl ?_) ?_;rotate_left;(intro W hJ;obtain ⟨hcJ,hfJ⟩:=bcell hJ;go_simp;rfl)));simp only [Reg.pz])
        refine Reg.WalkT.nil fun W hJ=>?_;go_wp2;go_ret;exact ⟨za (by rw [yac,HND.out];simp [HA.out,HW.out]),hbw4.trans (hJ.mono (by omega))⟩
      | false=>
        have HW:=Hd hw;clear hw
        cases htx:D.text==[] with
        | false=>
          have HE:=Hd htx;go_wp2;refine Reg.region_JTm 37 hmo (by kernel_rfl) (by kernel_rfl) rfl (by kernel_rfl) (by kernel_rfl) (fun Wz=>Below (W4).heap.size (W4) Wz) (brf.drew) ?_
          iterate 2 (refine Reg.WalkT.cons ?_ (Reg.StepP.pure rfl ?_) ?_;rotate_left;(intro W hJ;obtain ⟨hcJ,hfJ⟩:=bcell hJ;go_simp;rfl);simp only [Reg.pz])
          refine Reg.WalkT.cons (.bool false) (Reg.StepP.call (f:=161) (args:=#[.int .u8 D.kind]) rfl ?hG8_2 ?cG8_2) ?rG8_2;case hG8_2=>intro W hJ;obtain ⟨hcJ,hfJ⟩:=bcell hJ;go_simp;try rfl
          case cG8_2=>intro W hJ;(refine (zB D.kind W).mono ?_;rw [HA.out];rintro e w2 ⟨rfl,rfl⟩;exact ⟨rfl,hJ⟩)
          simp only [Reg.pz]
          iterate 2 (refine Reg.WalkT.cons ?_ (Reg.StepP.pure rfl ?_) ?_;rotate_left;(intro W hJ;obtain ⟨hcJ,hfJ⟩:=bcell hJ;go_simp;rfl);simp only [Reg.pz])
          refine Reg.WalkT.cons (.bool false) (Reg.StepP.call (f:=74) (args:=#[strV D.text]) rfl ?hG8_5 ?cG8_5) ?rG8_5;case hG8_5=>intro W hJ;obtain ⟨hcJ,hfJ⟩:=bcell hJ;go_simp;try rfl
          case cG8_5=>intro W hJ;(refine (yak D.text W hts).mono ?_;rw [HW.out];rintro e w2 ⟨rfl,hb2⟩;exact ⟨rfl,hJ.trans (hb2.mono hJ.size)⟩)
          simp only [Reg.pz]
          iterate 4 (refine Reg.WalkT.cons ?_ (Reg.StepP.pure rfl ?_) ?_;rotate_left;(intro W hJ;obtain ⟨hcJ,hfJ⟩:=bcell hJ;go_simp;rfl);simp only [Reg.pz])
          refine Reg.WalkT.cons (.bool false) (Reg.StepP.call (f:=161) (args:=#[.int .u8 D.kind]) rfl ?hG8_10 ?cG8_10) ?rG8_10;case hG8_10=>intro W hJ;obtain ⟨hcJ,hfJ⟩:=bcell hJ;go_simp;try rfl
          case cG8_10=>intro W hJ;(refine (zB D.kind W).mono ?_;rw [HA.out];rintro e w2 ⟨rfl,rfl⟩;exact ⟨rfl,hJ⟩)
          simp only [Reg.pz]
          iterate 26 ((first | (refine Reg.WalkT.cons undef (Reg.StepP.skip rfl) ?_) | (refine Reg.WalkT.cons ?_ (Reg.StepP.pure rfl ?_) ?_;rotate_left;(intro W hJ;obtain ⟨hcJ,hfJ⟩:=bcell hJ;go_simp;rfl)));simp only [Reg.pz])
          refine Reg.WalkT.nil fun W hJ=>?_;go_wp2;go_ret;exact ⟨za (by rw [yac,HND.out];simp [HA.out,HE.out]),hbw4.trans (hJ.mono (by omega))⟩
        | true=>
          have HE:=Hd htx
          cases hm:zL D.kind D.n D.kids.length with
          | false=>
            have HM:=Hd hm;clear hm;go_wp2;refine Reg.region_JTm 37 hmo (by kernel_rfl) (by kernel_rfl) rfl (by kernel_rfl) (by kernel_rfl) (fun Wz=>Below (W4).heap.size (W4) Wz) (brf.drew) ?_
            iterate 2 (refine Reg.WalkT.cons ?_ (Reg.StepP.pure rfl ?_) ?_;rotate_left;(intro W hJ;obtain ⟨hcJ,hfJ⟩:=bcell hJ;go_simp;rfl);simp only [Reg.pz])
            refine Reg.WalkT.cons (.bool false) (Reg.StepP.call (f:=161) (args:=#[.int .u8 D.kind]) rfl ?hG9_2 ?cG9_2) ?rG9_2;case hG9_2=>intro W hJ;obtain ⟨hcJ,hfJ⟩:=bcell hJ;go_simp;try rfl
            case cG9_2=>intro W hJ;(refine (zB D.kind W).mono ?_;rw [HA.out];rintro e w2 ⟨rfl,rfl⟩;exact ⟨rfl,hJ⟩)
            simp only [Reg.pz]
            iterate 2 (refine Reg.WalkT.cons ?_ (Reg.StepP.pure rfl ?_) ?_;rotate_left;(intro W hJ;obtain ⟨hcJ,hfJ⟩:=bcell hJ;go_simp;rfl);simp only [Reg.pz])
            refine Reg.WalkT.cons (.bool false) (Reg.StepP.call (f:=74) (args:=#[strV D.text]) rfl ?hG9_5 ?cG9_5) ?rG9_5;case hG9_5=>intro W hJ;obtain ⟨hcJ,hfJ⟩:=bcell hJ;go_simp;try rfl
            case cG9_5=>intro W hJ;(refine (yak D.text W hts).mono ?_;rw [HW.out];rintro e w2 ⟨rfl,hb2⟩;exact ⟨rfl,hJ.trans (hb2.mono hJ.size)⟩)
            simp only [Reg.pz]
            iterate 4 (refine Reg.WalkT.cons ?_ (Reg.StepP.pure rfl ?_) ?_;rotate_left;(intro W hJ;obtain ⟨hcJ,hfJ⟩:=bcell hJ;go_simp;rfl);simp only [Reg.pz])
            refine Reg.WalkT.cons (.bool false) (Reg.StepP.call (f:=161) (args:=#[.int .u8 D.kind]) rfl ?hG9_10 ?cG9_10) ?rG9_10;case hG9_10=>intro W hJ;obtain ⟨hcJ,hfJ⟩:=bcell hJ;go_simp;try rfl
            case cG9_10=>intro W hJ;(refine (zB D.kind W).mono ?_;rw [HA.out];rintro e w2 ⟨rfl,rfl⟩;exact ⟨rfl,hJ⟩)
            simp only [Reg.pz]
            iterate 9 (refine Reg.WalkT.cons ?_ (Reg.StepP.pure rfl ?_) ?_;rotate_left;(intro W hJ;obtain ⟨hcJ,hfJ⟩:=bcell hJ;go_simp;rfl);simp only [Reg.pz])
            refine Reg.WalkT.cons (.bool false) (Reg.StepP.call (f:=162) (args:=#[.agg #[.int .u8 D.kind,strV D.text,intV D.n,.slice ka D.kids.length kc,intV D.pos]]) rfl ?hG9_20 ?cG9_20) ?rG9_20;case hG9_20=>intro W hJ;obtain ⟨hcJ,hfJ⟩:=bcell hJ;go_simp;try rfl
            case cG9_20=>intro W hJ;(refine (ya6 D ka kc W hkl).mono ?_;rw [HM.out];rintro e w2 ⟨rfl,hb2⟩;exact ⟨rfl,hJ.trans (hb2.mono hJ.size)⟩)
            simp only [Reg.pz]
            iterate 16 ((first | (refine Reg.WalkT.cons undef (Reg.StepP.skip rfl) ?_) | (refine Reg.WalkT.cons ?_ (Reg.StepP.pure rfl ?_) ?_;rotate_left;(intro W hJ;obtain ⟨hcJ,hfJ⟩:=bcell hJ;go_simp;rfl)));simp only [Reg.pz])
            refine Reg.WalkT.nil fun W hJ=>?_;go_wp2;go_ret;exact ⟨za (by rw [yac,HND.out];simp [HM.out]),hbw4.trans (hJ.mono (by omega))⟩
          | true=>
            have HM:=Hd hm;clear hm
            cases hu:zu D.kind D.n with
            | false=>
              have HU:=Hd hu;clear hu;go_wp2;refine Reg.region_JTm 37 hmo (by kernel_rfl) (by kernel_rfl) rfl (by kernel_rfl) (by kernel_rfl) (fun Wz=>Below (W4).heap.size (W4) Wz) (brf.drew) ?_
              iterate 2 (refine Reg.WalkT.cons ?_ (Reg.StepP.pure rfl ?_) ?_;rotate_left;(intro W hJ;obtain ⟨hcJ,hfJ⟩:=bcell hJ;go_simp;rfl);simp only [Reg.pz])
              refine Reg.WalkT.cons (.bool false) (Reg.StepP.call (f:=161) (args:=#[.int .u8 D.kind]) rfl ?hG10_2 ?cG10_2) ?rG10_2;case hG10_2=>intro W hJ;obtain ⟨hcJ,hfJ⟩:=bcell hJ;go_simp;try rfl
              case cG10_2=>intro W hJ;(refine (zB D.kind W).mono ?_;rw [HA.out];rintro e w2 ⟨rfl,rfl⟩;exact ⟨rfl,hJ⟩)
              simp only [Reg.pz]
              iterate 2 (refine Reg.WalkT.cons ?_ (Reg.StepP.pure rfl ?_) ?_;rotate_left;(intro W hJ;obtain ⟨hcJ,hfJ⟩:=bcell hJ;go_simp;rfl);simp only [Reg.pz])
              refine Reg.WalkT.cons (.bool false) (Reg.StepP.call (f:=74) (args:=#[strV D.text]) rfl ?hG10_5 ?cG10_5) ?rG10_5;case hG10_5=>intro W hJ;obtain ⟨hcJ,hfJ⟩:=bcell hJ;go_simp;try rfl
              case cG10_5=>intro W hJ;(refine (yak D.text W hts).mono ?_;rw [HW.out];rintro e w2 ⟨rfl,hb2⟩;exact ⟨rfl,hJ.trans (hb2.mono hJ.size)⟩)
              simp only [Reg.pz]
              iterate 4 (refine Reg.WalkT.cons ?_ (Reg.StepP.pure rfl ?_) ?_;rotate_left;(intro W hJ;obtain ⟨hcJ,hfJ⟩:=bcell hJ;go_simp;rfl);simp only [Reg.pz])
              refine Reg.WalkT.cons (.bool false) (Reg.StepP.call (f:=161) (args:=#[.int .u8 D.kind]) rfl ?hG10_10 ?cG10_10) ?rG10_10;case hG10_10=>intro W hJ;obtain ⟨hcJ,hfJ⟩:=bcell hJ;go_simp;try rfl
              case cG10_10=>intro W hJ;(refine (zB D.kind W).mono ?_;rw [HA.out];rintro e w2 ⟨rfl,rfl⟩;exact ⟨rfl,hJ⟩)
              simp only [Reg.pz]
              iterate 9 (refine Reg.WalkT.cons ?_ (Reg.StepP.pure rfl ?_) ?_;rotate_left;(intro W hJ;obtain ⟨hcJ,hfJ⟩:=bcell hJ;go_simp;rfl);simp only [Reg.pz])
              refine Reg.WalkT.cons (.bool true) (Reg.StepP.call (f:=162) (args:=#[.agg #[.int .u8 D.kind,strV D.text,intV D.n,.slice ka D.kids.length kc,intV D.pos]]) rfl ?hG10_20 ?cG10_20) ?rG10_20;case hG10_20=>intro W hJ;obtain ⟨hcJ,hfJ⟩:=bcell hJ;go_simp;try rfl
              case cG10_20=>intro W hJ;(refine (ya6 D ka kc W hkl).mono ?_;rw [HM.out];rintro e w2 ⟨rfl,hb2⟩;exact ⟨rfl,hJ.trans (hb2.mono hJ.size)⟩)
              simp only [Reg.pz]
              iterate 4 (refine Reg.WalkT.cons ?_ (Reg.StepP.pure rfl ?_) ?_;rotate_left;(intro W hJ;obtain ⟨hcJ,hfJ⟩:=bcell hJ;go_simp;rfl);simp only [Reg.pz])
              refine Reg.WalkT.cons (.bool false) (Reg.StepP.call (f:=163) (args:=#[.agg #[.int .u8 D.kind,strV D.text,intV D.n,.slice ka D.kids.length kc,intV D.pos]]) rfl ?hG10_25 ?cG10_25) ?rG10_25;case hG10_25=>intro W hJ;obtain ⟨hcJ,hfJ⟩:=bcell hJ;go_simp;try rfl
              case cG10_25=>intro W hJ;(refine (yaS D ka kc W).mono ?_;rw [HU.out];rintro e w2 ⟨rfl,hb2⟩;exact ⟨rfl,hJ.trans (hb2.mono hJ.size)⟩)
              simp only [Reg.pz]
              iterate 11 ((first | (refine Reg.WalkT.cons undef (Reg.StepP.skip rfl) ?_) | (refine Reg.WalkT.cons ?_ (Reg.StepP.pure rfl ?_) ?_;rotate_left;(intro W hJ;obtain ⟨hcJ,hfJ⟩:=bcell hJ;go_simp;rfl)));simp only [Reg.pz])
              refine Reg.WalkT.nil fun W hJ=>?_;go_wp2;go_ret;exact ⟨za (by rw [yac,HND.out];simp [HU.out]),hbw4.trans (hJ.mono (by omega))⟩
            | true=>
              have HU:=Hd hu;clear hu;by_cases hp0:D.pos<0
              ·have HP:=Hd hp0
               go_wp2;refine Reg.region_JTm 37 hmo (by kernel_rfl) (by kernel_rfl) rfl (by kernel_rfl) (by kernel_rfl) (fun Wz=>Below (W4).heap.size (W4) Wz) (brf.drew) ?_
               iterate 2 (refine Reg.WalkT.cons ?_ (Reg.StepP.pure rfl ?_) ?_;rotate_left;(intro W hJ;obtain ⟨hcJ,hfJ⟩:=bcell hJ;go_simp;rfl);simp only [Reg.pz])
               refine Reg.WalkT.cons (.bool false) (Reg.StepP.call (f:=161) (args:=#[.int .u8 D.kind]) rfl ?hG11_2 ?cG11_2) ?rG11_2;case hG11_2=>intro W hJ;obtain ⟨hcJ,hfJ⟩:=bcell hJ;go_simp;try rfl
               case cG11_2=>intro W hJ;(refine (zB D.kind W).mono ?_;rw [HA.out];rintro e w2 ⟨rfl,rfl⟩;exact ⟨rfl,hJ⟩)
               simp only [Reg.pz]
               iterate 2 (refine Reg.WalkT.cons ?_ (Reg.StepP.pure rfl ?_) ?_;rotate_left;(intro W hJ;obtain ⟨hcJ,hfJ⟩:=bcell hJ;go_simp;rfl);simp only [Reg.pz])
               refine Reg.WalkT.cons (.bool false) (Reg.StepP.call (f:=74) (args:=#[strV D.text]) rfl ?hG11_5 ?cG11_5) ?rG11_5;case hG11_5=>intro W hJ;obtain ⟨hcJ,hfJ⟩:=bcell hJ;go_simp;try rfl
               case cG11_5=>intro W hJ;(refine (yak D.text W hts).mono ?_;rw [HW.out];rintro e w2 ⟨rfl,hb2⟩;exact ⟨rfl,hJ.trans (hb2.mono hJ.size)⟩)
               simp only [Reg.pz]
               iterate 4 (refine Reg.WalkT.cons ?_ (Reg.StepP.pure rfl ?_) ?_;rotate_left;(intro W hJ;obtain ⟨hcJ,hfJ⟩:=bcell hJ;go_simp;rfl);simp only [Reg.pz])
               refine Reg.WalkT.cons (.bool false) (Reg.StepP.call (f:=161) (args:=#[.int .u8 D.kind]) rfl ?hG11_10 ?cG11_10) ?rG11_10;case hG11_10=>intro W hJ;obtain ⟨hcJ,hfJ⟩:=bcell hJ;go_simp;try rfl
               case cG11_10=>intro W hJ;(refine (zB D.kind W).mono ?_;rw [HA.out];rintro e w2 ⟨rfl,rfl⟩;exact ⟨rfl,hJ⟩)
               simp only [Reg.pz]
               iterate 9 (refine Reg.WalkT.cons ?_ (Reg.StepP.pure rfl ?_) ?_;rotate_left;(intro W hJ;obtain ⟨hcJ,hfJ⟩:=bcell hJ;go_simp;rfl);simp only [Reg.pz])
               refine Reg.WalkT.cons (.bool true) (Reg.StepP.call (f:=162) (args:=#[.agg #[.int .u8 D.kind,strV D.text,intV D.n,.slice ka D.kids.length kc,intV D.pos]]) rfl ?hG11_20 ?cG11_20) ?rG11_20;case hG11_20=>intro W hJ;obtain ⟨hcJ,hfJ⟩:=bcell hJ;go_simp;try rfl
               case cG11_20=>intro W hJ;(refine (ya6 D ka kc W hkl).mono ?_;rw [HM.out];rintro e w2 ⟨rfl,hb2⟩;exact ⟨rfl,hJ.trans (hb2.mono hJ.size)⟩)
               simp only [Reg.pz]
               iterate 4 (refine Reg.WalkT.cons ?_ (Reg.StepP.pure rfl ?_) ?_;rotate_left;(intro W hJ;obtain ⟨hcJ,hfJ⟩:=bcell hJ;go_simp;rfl);simp only [Reg.pz])
               refine Reg.WalkT.cons (.bool true) (Reg.StepP.call (f:=163) (args:=#[.agg #[.int .u8 D.kind,strV D.text,intV D.n,.slice ka D.kids.length kc,intV D.pos]]) rfl ?hG11_25 ?cG11_25) ?rG11_25;case hG11_25=>intro W hJ;obtain ⟨hcJ,hfJ⟩:=bcell hJ;go_simp;try rfl
               case cG11_25=>intro W hJ;(refine (yaS D ka kc W).mono ?_;rw [HU.out];rintro e w2 ⟨rfl,hb2⟩;exact ⟨rfl,hJ.trans (hb2.mono hJ.size)⟩)
               simp only [Reg.pz]
               iterate 11 ((first | (refine Reg.WalkT.cons undef (Reg.StepP.skip rfl) ?_) | (refine Reg.WalkT.cons ?_ (Reg.StepP.pure rfl ?_) ?_;rotate_left;(intro W hJ;obtain ⟨hcJ,hfJ⟩:=bcell hJ;go_simp;rfl)));simp only [Reg.pz])
               refine Reg.WalkT.nil fun W hJ=>?_;go_wp2;go_ret;exact ⟨za (by rw [yac,HND.out];simp [show ¬ (0≤D.pos) by have:=HP.out;omega]),hbw4.trans (hJ.mono (by omega))⟩
              ·have hpb:decide (D.pos<0)=false:=decide_eq_false hp0
               by_cases hp1:D.pos > 2000
               ·have HP:=Hd hp1
                go_wp2;refine Reg.region_JTm 37 hmo (by kernel_rfl) (by kernel_rfl) rfl (by kernel_rfl) (by kernel_rfl) (fun Wz=>Below (W4).heap.size (W4) Wz) (brf.drew) ?_
                iterate 2 (refine Reg.WalkT.cons ?_ (Reg.StepP.pure rfl ?_) ?_;rotate_left;(intro W hJ;obtain ⟨hcJ,hfJ⟩:=bcell hJ;go_simp;rfl);simp only [Reg.pz])
                refine Reg.WalkT.cons (.bool false) (Reg.StepP.call (f:=161) (args:=#[.int .u8 D.kind]) rfl ?hG12_2 ?cG12_2) ?rG12_2;case hG12_2=>intro W hJ;obtain ⟨hcJ,hfJ⟩:=bcell hJ;go_simp;try rfl
                case cG12_2=>intro W hJ;(refine (zB D.kind W).mono ?_;rw [HA.out];rintro e w2 ⟨rfl,rfl⟩;exact ⟨rfl,hJ⟩)
                simp only [Reg.pz]
                iterate 2 (refine Reg.WalkT.cons ?_ (Reg.StepP.pure rfl ?_) ?_;rotate_left;(intro W hJ;obtain ⟨hcJ,hfJ⟩:=bcell hJ;go_simp;rfl);simp only [Reg.pz])
                refine Reg.WalkT.cons (.bool false) (Reg.StepP.call (f:=74) (args:=#[strV D.text]) rfl ?hG12_5 ?cG12_5) ?rG12_5;case hG12_5=>intro W hJ;obtain ⟨hcJ,hfJ⟩:=bcell hJ;go_simp;try rfl
                case cG12_5=>intro W hJ;(refine (yak D.text W hts).mono ?_;rw [HW.out];rintro e w2 ⟨rfl,hb2⟩;exact ⟨rfl,hJ.trans (hb2.mono hJ.size)⟩)
                simp only [Reg.pz]
                iterate 4 (refine Reg.WalkT.cons ?_ (Reg.StepP.pure rfl ?_) ?_;rotate_left;(intro W hJ;obtain ⟨hcJ,hfJ⟩:=bcell hJ;go_simp;rfl);simp only [Reg.pz])
                refine Reg.WalkT.cons (.bool false) (Reg.StepP.call (f:=161) (args:=#[.int .u8 D.kind]) rfl ?hG12_10 ?cG12_10) ?rG12_10;case hG12_10=>intro W hJ;obtain ⟨hcJ,hfJ⟩:=bcell hJ;go_simp;try rfl
                case cG12_10=>intro W hJ;(refine (zB D.kind W).mono ?_;rw [HA.out];rintro e w2 ⟨rfl,rfl⟩;exact ⟨rfl,hJ⟩)
                simp only [Reg.pz]
                iterate 9 (refine Reg.WalkT.cons ?_ (Reg.StepP.pure rfl ?_) ?_;rotate_left;(intro W hJ;obtain ⟨hcJ,hfJ⟩:=bcell hJ;go_simp;rfl);simp only [Reg.pz])
                refine Reg.WalkT.cons (.bool true) (Reg.StepP.call (f:=162) (args:=#[.agg #[.int .u8 D.kind,strV D.text,intV D.n,.slice ka D.kids.length kc,intV D.pos]]) rfl ?hG12_20 ?cG12_20) ?rG12_20;case hG12_20=>intro W hJ;obtain ⟨hcJ,hfJ⟩:=bcell hJ;go_simp;try rfl
                case cG12_20=>intro W hJ;(refine (ya6 D ka kc W hkl).mono ?_;rw [HM.out];rintro e w2 ⟨rfl,hb2⟩;exact ⟨rfl,hJ.trans (hb2.mono hJ.size)⟩)
                simp only [Reg.pz]
                iterate 4 (refine Reg.WalkT.cons ?_ (Reg.StepP.pure rfl ?_) ?_;rotate_left;(intro W hJ;obtain ⟨hcJ,hfJ⟩:=bcell hJ;go_simp;rfl);simp only [Reg.pz])
                refine Reg.WalkT.cons (.bool true) (Reg.StepP.call (f:=163) (args:=#[.agg #[.int .u8 D.kind,strV D.text,intV D.n,.slice ka D.kids.length kc,intV D.pos]]) rfl ?hG12_25 ?cG12_25) ?rG12_25;case hG12_25=>intro W hJ;obtain ⟨hcJ,hfJ⟩:=bcell hJ;go_simp;try rfl
                case cG12_25=>intro W hJ;(refine (yaS D ka kc W).mono ?_;rw [HU.out];rintro e w2 ⟨rfl,hb2⟩;exact ⟨rfl,hJ.trans (hb2.mono hJ.size)⟩)
                simp only [Reg.pz]
                iterate 11 (refine Reg.WalkT.cons ?_ (Reg.StepP.pure rfl ?_) ?_;rotate_left;(intro W hJ;obtain ⟨hcJ,hfJ⟩:=bcell hJ;go_simp;rfl);simp only [Reg.pz])
                refine Reg.WalkT.nil fun W hJ=>?_;go_wp2;go_ret;exact ⟨za (by rw [yac,HND.out];simp [show ¬ (D.pos≤2000) by have:=HP.out;omega]),hbw4.trans (hJ.mono (by omega))⟩
               ·have HP0:=Hd hp0
                have HP1:=Hd hp1;have hpc:decide (2000<D.pos)=false:=decide_eq_false hp1;have HOKS:Hid ((okK D.kind&&(ybI D.kind==zW D.text)&&(ybI D.kind||D.text==[])&&zL D.kind D.n D.kids.length&&zu D.kind D.n&&decide (0≤D.pos)&&decide (D.pos≤2000))=true):=Hd (by simp [HOKK.out,HA.out,HW.out,HM.out,HU.out,HE.out];have:=HP0.out;have:=HP1.out;omega);go_wp2;refine Reg.region_JTm 37 hmo (by kernel_rfl) (by kernel_rfl) rfl (by kernel_rfl) (by kernel_rfl) (fun Wz=>Below (W4).heap.size (W4) Wz) (brf.drew) ?_
                iterate 2 (refine Reg.WalkT.cons ?_ (Reg.StepP.pure rfl ?_) ?_;rotate_left;(intro W hJ;obtain ⟨hcJ,hfJ⟩:=bcell hJ;go_simp;rfl);simp only [Reg.pz])
                refine Reg.WalkT.cons (.bool false) (Reg.StepP.call (f:=161) (args:=#[.int .u8 D.kind]) rfl ?hG13_2 ?cG13_2) ?rG13_2;case hG13_2=>intro W hJ;obtain ⟨hcJ,hfJ⟩:=bcell hJ;go_simp;try rfl
                case cG13_2=>intro W hJ;(refine (zB D.kind W).mono ?_;rw [HA.out];rintro e w2 ⟨rfl,rfl⟩;exact ⟨rfl,hJ⟩)
                simp only [Reg.pz]
                iterate 2 (refine Reg.WalkT.cons ?_ (Reg.StepP.pure rfl ?_) ?_;rotate_left;(intro W hJ;obtain ⟨hcJ,hfJ⟩:=bcell hJ;go_simp;rfl);simp only [Reg.pz])
                refine Reg.WalkT.cons (.bool false) (Reg.StepP.call (f:=74) (args:=#[strV D.text]) rfl ?hG13_5 ?cG13_5) ?rG13_5;case hG13_5=>intro W hJ;obtain ⟨hcJ,hfJ⟩:=bcell hJ;go_simp;try rfl
                case cG13_5=>intro W hJ;(refine (yak D.text W hts).mono ?_;rw [HW.out];rintro e w2 ⟨rfl,hb2⟩;exact ⟨rfl,hJ.trans (hb2.mono hJ.size)⟩)
                simp only [Reg.pz]
                iterate 4 (refine Reg.WalkT.cons ?_ (Reg.StepP.pure rfl ?_) ?_;rotate_left;(intro W hJ;obtain ⟨hcJ,hfJ⟩:=bcell hJ;go_simp;rfl);simp only [Reg.pz])
                refine Reg.WalkT.cons (.bool false) (Reg.StepP.call (f:=161) (args:=#[.int .u8 D.kind]) rfl ?hG13_10 ?cG13_10) ?rG13_10;case hG13_10=>intro W hJ;obtain ⟨hcJ,hfJ⟩:=bcell hJ;go_simp;try rfl
                case cG13_10=>intro W hJ;(refine (zB D.kind W).mono ?_;rw [HA.out];rintro e w2 ⟨rfl,rfl⟩;exact ⟨rfl,hJ⟩)
                simp only [Reg.pz]
                iterate 9 (refine Reg.WalkT.cons ?_ (Reg.StepP.pure rfl ?_) ?_;rotate_left;(intro W hJ;obtain ⟨hcJ,hfJ⟩:=bcell hJ;go_simp;rfl);simp only [Reg.pz])
                refine Reg.WalkT.cons (.bool true) (Reg.StepP.call (f:=162) (args:=#[.agg #[.int .u8 D.kind,strV D.text,intV D.n,.slice ka D.kids.length kc,intV D.pos]]) rfl ?hG13_20 ?cG13_20) ?rG13_20;case hG13_20=>intro W hJ;obtain ⟨hcJ,hfJ⟩:=bcell hJ;go_simp;try rfl
                case cG13_20=>intro W hJ;(refine (ya6 D ka kc W hkl).mono ?_;rw [HM.out];rintro e w2 ⟨rfl,hb2⟩;exact ⟨rfl,hJ.trans (hb2.mono hJ.size)⟩)
                simp only [Reg.pz]
                iterate 4 (refine Reg.WalkT.cons ?_ (Reg.StepP.pure rfl ?_) ?_;rotate_left;(intro W hJ;obtain ⟨hcJ,hfJ⟩:=bcell hJ;go_simp;rfl);simp only [Reg.pz])
                refine Reg.WalkT.cons (.bool true) (Reg.StepP.call (f:=163) (args:=#[.agg #[.int .u8 D.kind,strV D.text,intV D.n,.slice ka D.kids.length kc,intV D.pos]]) rfl ?hG13_25 ?cG13_25) ?rG13_25;case hG13_25=>intro W hJ;obtain ⟨hcJ,hfJ⟩:=bcell hJ;go_simp;try rfl
                case cG13_25=>intro W hJ;(refine (yaS D ka kc W).mono ?_;rw [HU.out];rintro e w2 ⟨rfl,hb2⟩;exact ⟨rfl,hJ.trans (hb2.mono hJ.size)⟩)
                simp only [Reg.pz]
                iterate 11 (refine Reg.WalkT.cons ?_ (Reg.StepP.pure rfl ?_) ?_;rotate_left;(intro W hJ;obtain ⟨hcJ,hfJ⟩:=bcell hJ;go_simp;rfl);simp only [Reg.pz])
                refine Reg.WalkT.nil fun W hJ=>?_;go_wp2;have hb5:Below (w.heap.size+1+1) (boxD (boxT w ⟨some ⟨b,o,none⟩,nc,ia,ic⟩ t) ka kc D) W:=Below.trans HB4.out (hJ.mono (by omega))
                go_loopw [6] (fun t6 wr=>∃ k:Nat,t6 = .int .i64 k∧k≤D.kids.length∧Hid (((List.range k).all fun j=>ycU t D j)=true)∧Hid (Below (w.heap.size+1+1) (boxD (boxT w ⟨some ⟨b,o,none⟩,nc,ia,ic⟩ t) ka kc D) wr)) (fun i _=>D.kids.length-(intOf i).toNat)
                case atStart=>exact ⟨0,rfl,Nat.zero_le _,Hd rfl,Hd hb5⟩
                case round=>
                 obtain ⟨k,rfl,hk,HL,HB7⟩:=hrel;obtain ⟨⟨b70,b71⟩,⟨d70,d71,d72,d73⟩,-,⟨hs7,hs71,hs72,hs73⟩,hbw7⟩:=zP (v:=⟨some ⟨b,o,none⟩,nc,ia,ic⟩) (ka:=ka) (kc:=kc) (d:=D) (t:=t) (w:=w) (wr:=wr) HB7.out HT.out;have d74:=ybB (v:=⟨some ⟨b,o,none⟩,nc,ia,ic⟩) (ka:=ka) (kc:=kc) (d:=D) (t:=t) (w:=w) (wr:=wr) HB7.out;obtain ⟨hcw7,hfw7⟩:=bcell hbw7;have hbb7:b<wr.heap.size:=by omega
                 by_cases hlt:k<D.kids.length
                 ·obtain ⟨bk,ok,rfl,hbk,ck⟩:=Ints.at HKR.out hlt
                  obtain ⟨hk1,hk2⟩:=HKI.out _ (List.getElem_mem hlt);obtain ⟨m,hm⟩:=Int.eq_ofNat_of_zero_le hk1;have hml:m<t.nodes.length:=by omega
                  have HM2:=Hd hm;rw [hm] at ck;obtain ⟨b',o',ka',kc',ea',hb',f0,f1,f2,f3,f4,-⟩:=HT.out.nodes.at hml;simp only [Option.some.injEq,Addr.mk.injEq,and_true] at ea';obtain ⟨rfl,rfl⟩:=ea';have HND3:=Hd (t.nd_at hml);have hbk':bk<wr.heap.size:=by omega
                  have hok:ycU t D k=(kidK D.kind D.kids.length k t.nodes[m].kind && !(t.nodes[m].kind==1&&decide (t.nodes[m].n<0)&&D.kind != 40)):=by
                   rw [ycU,List.getD_eq_getElem?_getD,List.getElem?_eq_getElem hlt,Option.getD_some,HM2.out,HND3.out]
                  have HOK:=Hd hok;have HK:∀ W,Calls Tryz.prog 164 #[.agg #[.int .u8 D.kind,strV D.text,intV D.n,.slice (some ⟨bk,ok,none⟩) D.kids.length kc,intV D.pos],intV k,.int .u8 t.nodes[m].kind] W (zq W (kidK D.kind D.kids.length k t.nodes[m].kind)):=fun W=>yjr D (some ⟨bk,ok,none⟩) kc k _ W hkl;have HKC:=Hd HK;have hsn:∀ x,ycU t D k=x→((List.range (k+1)).all fun j=>ycU t D j)=x:=by intro x hx;rw [List.range_succ,List.all_append,HL.out];simp [hx]
                  have HSN:=Hd hsn;clear hk1 hk2 hm hok HK hsn;go_wp2;generalize hWW:wr=WW at *;go_region;have hbn:Below (w.heap.size+1+1) (boxD (boxT w ⟨some ⟨b,o,none⟩,nc,ia,ic⟩ t) (some ⟨bk,ok,none⟩) kc D) ((WW.alloc (.cells #[.int .u8 t.nodes[m].kind,strV t.nodes[m].text,intV t.nodes[m].n,.slice ka' t.nodes[m].kids.length kc',intV t.nodes[m].pos] 52)).drew):=((HB7.out.alloc hs7 _).drew)
                  have HLT:=Hd hlt
                  cases hkk:kidK D.kind D.kids.length k t.nodes[m].kind with
                  | false=>
                    have HKK:=Hd hkk;clear hkk
                    go_wp2_with (go_at_call 164;refine (HKC.out _).mono ?_;rw [HKK.out];rintro e w8 ⟨rfl,hb8⟩;have hb9:=hbn.trans (hb8.mono (by simp;omega));obtain ⟨-,⟨d80,d81,d82,d83⟩,-,⟨hs8,hs81,hs82,hs83⟩,hbw8⟩:=zP (v:=⟨some ⟨b,o,none⟩,nc,ia,ic⟩) (ka:=some ⟨bk,ok,none⟩) (kc:=kc) (d:=D) (t:=t) (w:=w) (wr:=w8) hb9 HT.out;obtain ⟨hc8,hf8⟩:=bcell hb8)
                    go_ret;exact ⟨za (by rw [yac,HND.out,HOKS.out,yd4 HLT.out (by rw [HOK.out];simp [HKK.out])];rfl),hbw8⟩
                  | true=>
                    have HKK:=Hd hkk;clear hkk
                    cases h1:t.nodes[m].kind==1 with
                    | false=>
                      have H1:=Hd h1
                      go_wp2_with (go_at_call 164;refine (HKC.out _).mono ?_;rw [HKK.out];rintro e w8 ⟨rfl,hb8⟩;have hb9:=hbn.trans (hb8.mono (by simp;omega));obtain ⟨-,⟨d80,d81,d82,d83⟩,-,⟨hs8,hs81,hs82,hs83⟩,hbw8⟩:=zP (v:=⟨some ⟨b,o,none⟩,nc,ia,ic⟩) (ka:=some ⟨bk,ok,none⟩) (kc:=kc) (d:=D) (t:=t) (w:=w) (wr:=w8) hb9 HT.out;obtain ⟨hc8,hf8⟩:=bcell hb8)
                      go_roundw
                      case rel=>exact ⟨k+1,by go_num,by omega,Hd (HSN.out true (by rw [HOK.out];simp [HKK.out,H1.out])),Hd hb9⟩
                      case measure=>simp [intOf];omega
                    | true=>
                      have H1:=Hd h1
                      cases hng:decide (t.nodes[m].n<0) with
                      | false=>
                        have HNG:=Hd hng
                        go_wp2_with (go_at_call 164;refine (HKC.out _).mono ?_;rw [HKK.out];rintro e w8 ⟨rfl,hb8⟩;have hb9:=hbn.trans (hb8.mono (by simp;omega));obtain ⟨-,⟨d80,d81,d82,d83⟩,-,⟨hs8,hs81,hs82,hs83⟩,hbw8⟩:=zP (v:=⟨some ⟨b,o,none⟩,nc,ia,ic⟩) (ka:=some ⟨bk,ok,none⟩) (kc:=kc) (d:=D) (t:=t) (w:=w) (wr:=w8) hb9 HT.out;obtain ⟨hc8,hf8⟩:=bcell hb8)
                        go_roundw
                        case rel=>exact ⟨k+1,by go_num,by omega,Hd (HSN.out true (by rw [HOK.out];simp [HKK.out,H1.out,HNG.out])),Hd hb9⟩
                        case measure=>simp [intOf];omega
                      | true=>
                        have HNG:=Hd hng
                        cases h40:D.kind != 40 with
                        | false=>
                          have H40:=Hd h40
                          go_wp2_with (go_at_call 164;refine (HKC.out _).mono ?_;rw [HKK.out];rintro e w8 ⟨rfl,hb8⟩;have hb9:=hbn.trans (hb8.mono (by simp;omega));obtain ⟨-,⟨d80,d81,d82,d83⟩,-,⟨hs8,hs81,hs82,hs83⟩,hbw8⟩:=zP (v:=⟨some ⟨b,o,none⟩,nc,ia,ic⟩) (ka:=some ⟨bk,ok,none⟩) (kc:=kc) (d:=D) (t:=t) (w:=w) (wr:=w8) hb9 HT.out;obtain ⟨hc8,hf8⟩:=bcell hb8)
                          go_roundw
                          case rel=>exact ⟨k+1,by go_num,by omega,Hd (HSN.out true (by rw [HOK.out];simp [HKK.out,H1.out,HNG.out,H40.out])),Hd hb9⟩
                          case measure=>simp [intOf];omega
                        | true=>
                          have H40:=Hd h40
                          go_wp2_with (go_at_call 164;refine (HKC.out _).mono ?_;rw [HKK.out];rintro e w8 ⟨rfl,hb8⟩;have hb9:=hbn.trans (hb8.mono (by simp;omega));obtain ⟨-,⟨d80,d81,d82,d83⟩,-,⟨hs8,hs81,hs82,hs83⟩,hbw8⟩:=zP (v:=⟨some ⟨b,o,none⟩,nc,ia,ic⟩) (ka:=some ⟨bk,ok,none⟩) (kc:=kc) (d:=D) (t:=t) (w:=w) (wr:=w8) hb9 HT.out;obtain ⟨hc8,hf8⟩:=bcell hb8)
                          go_ret;exact ⟨za (by rw [yac,HND.out,HOKS.out,yd4 HLT.out (by rw [HOK.out];simp [HKK.out,H1.out,HNG.out,H40.out])];rfl),hbw8⟩
                 ·obtain rfl:k=D.kids.length:=by omega
                  go_wp2;go_ret;exact ⟨za (by rw [yac,HND.out,HOKS.out,ydw,HL.out];rfl),hbw7⟩
end
section
open Go.RowKit
def maxL (l:List Int):Int:=l.foldl max 0
theorem yd7 {l:List Int}{k:Nat}(h:k<l.length):maxL (l.take (k+1))=max (maxL (l.take k)) l[k]:=by
 rw [List.take_succ_eq_append_getElem h,maxL,List.foldl_append];rfl
def yas (t:Tr):Int:=maxL (ybL t)
theorem yeG (v:TreeV)(t:Tr)(w:World)(bd:Bd t)(hkid:∀ i,i<t.nodes.length → ∀ k∈(t.nd i).kids,0≤k∧k<(i:Int))(h:IsTree w v t) :
 Calls Tryz.prog 90 #[v.val t] w (ybh w (yas t)):=by
 have HT:=Hd h;have BD:=Hd bd;have HKID:=Hd hkid;obtain ⟨L,hL⟩:∃ L,L=ybL t:=⟨_,rfl⟩
 have hll:L.length≤1000000:=by rw [hL,ybL,yaW];exact bd.n
 have HL:=Hd hL;clear h bd hkid hL;unfold TreeV.val;go_enter Tryz.func90,Tryz.ntmps90
 go_wp2_with (go_at_call 125;refine (yiu v t _ BD.out HKID.out (HT.out.mono ((Below.refl _ w).alloc nlr _) nlr)).mono ?_;rw [← HL.out];rintro e w' ⟨a1,c1,rfl,hown,hb'⟩)
 have HR:=Hd (zE hown);have HB:=Hd (boxT_below.trans (hb'.mono (by simp)):Below w.heap.size w w');clear hown hb'
 go_loop [3,5] (fun t3 t5=>∃ (k:Nat) (x:Int),t5 = .int .i64 k∧k≤L.length∧t3=intV x∧Hid (x=maxL (L.take k))) (fun _ i=>L.length-(intOf i).toNat)
 case atStart=>exact ⟨0,0,rfl,Nat.zero_le _,rfl,Hd rfl⟩
 case round=>
  obtain ⟨k,x,rfl,hk,rfl,HX⟩:=hrel;by_cases hlt:k<L.length
  ·obtain ⟨b,o,rfl,hb,hc⟩:=Ints.at HR.out hlt
   obtain ⟨y,hy⟩:∃ y,y=L[k]:=⟨_,rfl⟩
   rw [← hy] at hc;have HY:=Hd hy;have HS:=Hd (yd7 hlt);clear hy;by_cases hxy:x≤y
   ·have HXY:=Hd hxy
    go_wp2
    all_goals
     go_round
     case rel=>exact ⟨k+1,y,by go_num,by omega,by first | rfl | (have:=HXY.out;go_num),Hd (by rw [HS.out,← HX.out,← HY.out];have:=HXY.out;omega)⟩
     case measure=>simp [intOf];omega
   ·have HXY:=Hd hxy
    go_wp2
    all_goals
     go_round
     case rel=>exact ⟨k+1,x,by go_num,by omega,by first | rfl | (have:=HXY.out;go_num),Hd (by rw [HS.out,← HX.out,← HY.out];have:=HXY.out;omega)⟩
     case measure=>simp [intOf];omega
  ·obtain rfl:k=L.length:=by omega
   go_wp2;go_ret;refine ⟨zo ?_,HB.out⟩;rw [yas,← HL.out];have:=HX.out;rw [List.take_length] at this;exact this
def ydb (t:Tr)(i:Nat):Bool:=
 if (t.nd i).kind==40 then decide ((t.nd ((t.nd i).kids.getD 0 0)).n≤(t.nd ((t.nd i).kids.getD 1 0)).n)&&decide ((t.nd ((t.nd i).kids.getD 1 0)).n-(t.nd ((t.nd i).kids.getD 0 0)).n+1≤12)
 else if (t.nd i).kind==41 then decide (((t.nd i).kids.length:Int)≤6)
 else if (t.nd i).kind==42 then decide (((t.nd i).kids.length:Int)-2≤4)&&decide ((t.nd i).n≤8)
 else if (t.nd i).kind==33 then decide (1≤(t.nd i).n)&&decide ((t.nd i).n≤6)
 else if (t.nd i).kind==26 then decide (((t.nd i).kids.length:Int)≤6)
 else if (t.nd i).kind==46 then decide (((t.nd i).kids.length:Int)≤4)
 else true
theorem ygb (v:TreeV)(t:Tr)(i:Nat)(w:World)(bd:Bd t)(hi:i<t.nodes.length)
 (hc:(t.nd i).kind=40 → ∃ k0 k1:Nat,k0<t.nodes.length∧k1<t.nodes.length∧(t.nd i).kids=[(k0:Int),(k1:Int)] ∧ -9999≤(t.nd k0).n∧(t.nd k0).n≤9999 ∧ -9999≤(t.nd k1).n∧(t.nd k1).n≤9999)(h:IsTree w v t) :
 Calls Tryz.prog 91 #[v.val t,intV i] w (zq w (ydb t i)):=by
 have hmo:Tryz.prog.follows .mixedOrders=true:=by kernel_rfl
 have HT:=Hd h;have hn3:=bd.n;have hkl:=bd.k _ (List.getElem_mem hi);obtain ⟨b,o,ka,kc,ea,hb,c0,c1,c2,c3,c4,hkr⟩:=HT.out.nodes.at hi;obtain ⟨na,nc,ia,ic⟩:=v;simp only at ea;subst ea;obtain ⟨D,hD⟩:∃ D,D=t.nodes[i]:=⟨_,rfl⟩
 have hnd:=t.nd_at hi;rw [← hD] at c0 c1 c2 c3 c4 hkr hkl hnd;rw [hnd] at hc;have HND:=Hd hnd;have HC:=Hd hc;have HKR:=Hd hkr;have hb1:b<w.heap.size+1:=by omega
 have hb2:b<w.heap.size+1+1:=by omega
 clear h bd hD hnd hkr hc;unfold TreeV.val;by_cases h40:D.kind=40
 ·obtain ⟨k0,k1,hk0,hk1,hks,hx0,hx1,hy0,hy1⟩:=HC.out h40
  have hlen:D.kids.length=2:=by rw [hks];rfl
  obtain ⟨bk,ok,rfl,hbk,ck0⟩:=Ints.at HKR.out (i:=0) (by omega);obtain ⟨bk',ok',ek,-,ck1⟩:=Ints.at HKR.out (i:=1) (by omega);simp only [Option.some.injEq,Addr.mk.injEq,and_true] at ek;obtain ⟨rfl,rfl⟩:=ek;simp only [hks,List.getElem_cons_zero,List.getElem_cons_succ,Nat.add_zero] at ck0 ck1;obtain ⟨p0,q0,_,_,e0,hp0,-,-,f0,-,-,-⟩:=HT.out.nodes.at hk0;obtain ⟨p1,q1,_,_,e1,hp1,-,-,f1,-,-,-⟩:=HT.out.nodes.at hk1;simp only [Option.some.injEq,Addr.mk.injEq,and_true] at e0 e1;obtain ⟨rfl,rfl⟩:=e0;obtain ⟨e1a,e1b⟩:=e1;subst e1a;subst e1b;rw [t.nd_at hk0] at hx0 hx1;rw [t.nd_at hk1] at hy0 hy1;obtain ⟨x,hx⟩:∃ x,x=t.nodes[k0].n:=⟨_,rfl⟩
  obtain ⟨y,hy⟩:∃ y,y=t.nodes[k1].n:=⟨_,rfl⟩
  rw [← hx] at f0 hx0 hx1;rw [← hy] at f1 hy0 hy1
  have hs:ydb t i=(decide (x≤y)&&decide (y-x+1≤12)):=by
   rw [ydb,HND.out,h40,hks];simp [t.nd_at hk0,t.nd_at hk1,← hx,← hy]
  have HS:=Hd hs;have h40':(D.kind==40)=true:=by simpa using h40
  have hbk1:bk<w.heap.size+1:=by omega
  have hbk2:bk<w.heap.size+1+1:=by omega
  rw [hlen] at c3;clear hx hy hs hks h40;by_cases hxy:x≤y
  ·have HXY:=Hd hxy
   go_enter Tryz.func91,Tryz.ntmps91;go_wp2
   go_quiet (fail)
   go_wp2;go_ret;refine ⟨za ?_,below_drewN (((Below.refl _ w).alloc nlr _).alloc (by simp) _) _⟩;rw [HS.out];have:=HXY.out;simp [this]
  ·have HXY:=Hd hxy
   have hxy':decide (x≤y)=false:=decide_eq_false hxy;go_enter Tryz.func91,Tryz.ntmps91;go_wp2
   go_quiet (fail)
   go_wp2;go_ret;refine ⟨za ?_,below_drewN (((Below.refl _ w).alloc nlr _).alloc (by simp) _) _⟩;rw [HS.out];have h2:decide (x≤y)=false:=decide_eq_false (by have:=HXY.out;omega);rw [h2];rfl
 ·have h40':(D.kind==40)=false:=by simpa using h40
  have hs:ydb t i=if D.kind==41 then decide ((D.kids.length:Int)≤6) else if D.kind==42 then decide ((D.kids.length:Int)-2≤4)&&decide (D.n≤8) else if D.kind==33 then decide (1≤D.n)&&decide (D.n≤6) else if D.kind==26 then decide ((D.kids.length:Int)≤6) else if D.kind==46 then decide ((D.kids.length:Int)≤4) else true:=by
   rw [ydb,HND.out,h40'];rfl
  have HS:=Hd hs;obtain ⟨k,hk⟩:∃ k,k=D.kind:=⟨_,rfl⟩
  obtain ⟨n,hn⟩:∃ n,n=D.n:=⟨_,rfl⟩
  rw [← hk,← hn] at hs;rw [← hk] at c0 h40';rw [← hn] at c2;have HS:=Hd hs;clear hs hk hn h40;go_enter Tryz.func91,Tryz.ntmps91;go_wp2
  all_goals
   go_ret;refine ⟨za ?_,(((Below.refl _ w).alloc nlr _).alloc (by simp) _)⟩;rw [HS.out]
   (try simp_all) <;> (try omega)
end
section
open Go.RowKit
def eatI (t:Tr)(sizes:List Int):List Int→Int→Bool
 | [],p=>p == -1
 | k::r,p=>if decide (p<0)||k != p || !ybt (t.nd p).kind then false else eatI t sizes r (p-sizes.getD p.toNat 0)
def ydK (t:Tr):Bool:=(List.range t.nodes.length).all fun i=>yac t i
def ybN (t:Tr):Bool:=(ybu t).length==t.nodes.length&&(ydK t&&eatI t (ybu t) t.items.reverse ((t.nodes.length:Int)-1))
theorem ymg {t:Tr}{k:Nat}(hk:k<t.nodes.length)(h:yac t k=false):ydK t=false:=by
 rw [ydK,Bool.eq_false_iff];intro ha;have:=List.all_eq_true.1 ha k (List.mem_range.2 hk);rw [h] at this;cases this
theorem ydy {p:Nat→Bool}{k:Nat}(h:((List.range k).all p)=true)(hp:p k=true):((List.range (k+1)).all p)=true:=by
 rw [List.range_succ,List.all_append,h];simp [hp]
theorem ycN {t:Tr}(h:(ybu t).length=t.nodes.length):zC t t.nodes.length=some (ybu t):=by
 unfold ybu at *
 cases hx:zC t t.nodes.length with
 | some o=>rfl
 | none=>
   rw [hx] at h;have h0:t.nodes.length=0:=by simpa using h.symm
   rw [h0] at hx;cases hx
theorem ye5 (v:TreeV)(t:Tr)(w:World)(bd:Bd t)(h:IsTree w v t) :
 Calls Tryz.prog 89 #[v.val t] w (zq w (ybN t)):=by
 have HT:=Hd h;have BD:=Hd bd;have hn3:=bd.n;have hi3:=bd.i;obtain ⟨L,hL⟩:∃ L,L=ybu t:=⟨_,rfl⟩
 have HL:=Hd hL
 have hll:L.length≤t.nodes.length:=by
  rw [hL,ybu]
  cases hx:zC t t.nodes.length with
  | none=>simp
  | some o=>rw [Option.getD_some,yaa _ _ hx];exact nlr
 clear h bd hL;unfold TreeV.val;by_cases hlen:L.length=t.nodes.length
 ·have hlb:((L.length:Int) != (t.nodes.length:Int))=false:=by simp [hlen]
  have HLEN:=Hd hlen;have hso:zC t t.nodes.length=some L:=by rw [HL.out];exact ycN (by rw [← HL.out];exact hlen)
  have HSO:=Hd hso;have hfm:ybN t=(ydK t&&eatI t L t.items.reverse ((t.nodes.length:Int)-1)):=by rw [ybN,← HL.out,HLEN.out];simp
  have HFM:=Hd hfm;have hll2:t.nodes.length≤L.length:=by omega
  clear hlen hso hfm;go_enter Tryz.func89,Tryz.ntmps89
  go_wp2_with (go_at_call 122;refine (ygc v t _ BD.out (HT.out.mono ((Below.refl _ w).alloc nlr _) nlr)).mono ?_;rw [← HL.out];rintro e w' ⟨a1,c1,rfl,hown,hb'⟩;have HB1:=Hd (by simpa using hb':Below (w.heap.size+1) (boxT w v t) w');obtain ⟨b0,b1,-,⟨hs,hs1,hs2⟩,hbw⟩:=boxed HB1.out HT.out)
  have HR:=Hd (zE hown);clear hown hb' b0 b1
  go_loopw [4] (fun t4 wr=>∃ k:Nat,t4 = .int .i64 k∧k≤t.nodes.length∧Hid (((List.range k).all fun i=>yac t i)=true)∧Hid (Below w'.heap.size w' wr)) (fun i _=>t.nodes.length-(intOf i).toNat)
  case atStart=>exact ⟨0,rfl,Nat.zero_le _,Hd rfl,Hd brf⟩
  case round=>
   obtain ⟨k,rfl,hk,HK,HB⟩:=hrel;have HB2:=Hd (HB1.out.trans (HB.out.mono (by omega)):Below (w.heap.size+1) (boxT w v t) wr);obtain ⟨b0,b1,-,⟨hs3,hs4,hs5⟩,hbw3⟩:=boxed HB2.out HT.out;by_cases hlt:k<t.nodes.length
   ·have hki:∀ x∈t.nodes[k].kids,0≤x∧x<(t.nodes.length:Int):=by
     intro x hx;have:=yeT (t:=t) (n:=t.nodes.length) (i:=k) (by rw [HSO.out];rfl) hlt x (by rw [t.nd_at hlt];exact hx);omega
    have HKI:=Hd hki;clear hki
    cases hr:yac t k with
    | false=>
      have HRR:=Hd hr;have HLT:=Hd hlt;clear hr
      go_wp2_with (go_at_call 123;refine (yga v t k _ BD.out HLT.out HKI.out (HT.out.mono hbw3 nlr)).mono ?_;rw [HRR.out];rintro e w2 ⟨rfl,hb2⟩)
      go_ret;exact ⟨za (by rw [HFM.out,ymg HLT.out HRR.out];rfl),hbw3.trans (hb2.mono (by omega))⟩
    | true=>
      have HRR:=Hd hr;have HLT:=Hd hlt;clear hr
      go_wp2_with (go_at_call 123;refine (yga v t k _ BD.out HLT.out HKI.out (HT.out.mono hbw3 nlr)).mono ?_;rw [HRR.out];rintro e w2 ⟨rfl,hb2⟩)
      go_roundw
      case rel=>exact ⟨k+1,by go_num,by omega,Hd (ydy HK.out HRR.out),Hd (HB.out.trans (hb2.mono HB.out.size))⟩
      case measure=>simp [intOf];omega
   ·obtain rfl:k=t.nodes.length:=by omega
    have HFM2:Hid (ybN t=eatI t L t.items.reverse ((t.nodes.length:Int)-1)):=Hd (by rw [HFM.out,ydK,HK.out];rfl);have HR3:=Hd (Row.mono HR.out HB.out nlr);obtain ⟨hcw,hfw⟩:=bcell hbw3;go_wp2
    go_loop [5,6] (fun t5 t6=>∃ (p k:Int),t5=intV p∧t6=intV k ∧ -1≤p∧p<t.nodes.length ∧ -1≤k∧k<t.items.length∧Hid (ybN t=eatI t L (t.items.take (k+1).toNat).reverse p)) (fun _ k=>(intOf k+1).toNat)
    case atStart=>exact ⟨(t.nodes.length:Int)-1,(t.items.length:Int)-1,by go_num,by go_num,by omega,by omega,by omega,by omega,Hd (by rw [HFM2.out,show ((t.items.length:Int)-1+1).toNat=t.items.length by omega,List.take_length])⟩
    case round=>
     obtain ⟨p,k,rfl,rfl,hp1,hp2,hk1,hk2,HE⟩:=hrel;by_cases hk0:0≤k
     ·obtain ⟨j,rfl⟩:=Int.eq_ofNat_of_zero_le hk0
      have hj:j<t.items.length:=by omega
      obtain ⟨bk,ok,eak,hbk,ck⟩:=Ints.at HT.out.items hj;have HX:Hid (ybN t=if decide (p<0)||t.items[j] != p || !ybt (t.nd p).kind then false else eatI t L (t.items.take j).reverse (p-L.getD p.toNat 0)):=Hd (by rw [HE.out,show ((j:Int)+1).toNat=j+1 by omega,yjM hj,eatI]);obtain ⟨na,nc,ia,ic⟩:=v;simp only at eak b0 b1;subst eak;have hbk2:bk<wr.heap.size:=by omega
      clear HE;by_cases hp0:p<0
      ·have HP:=Hd hp0
       go_wp2;go_ret;exact ⟨za (by rw [HX.out];simp [HP.out]),hbw3⟩
      ·have hdp:decide (p<0)=false:=decide_eq_false hp0
       have HDP:=Hd hdp
       cases hne:t.items[j] != p with
       | true=>
         have HNE:=Hd hne;go_wp2;go_ret;exact ⟨za (by rw [HX.out,HDP.out,HNE.out];rfl),hbw3⟩
       | false=>
         have HNE:=Hd hne;obtain ⟨pp,rfl⟩:=Int.eq_ofNat_of_zero_le (show 0≤p by omega);have hpl:pp<t.nodes.length:=by omega
         obtain ⟨bn,on,_,_,ean,hbn,f0,-,-,-,-,-⟩:=HT.out.nodes.at hpl;simp only at ean;subst ean;have hbn2:bn<wr.heap.size:=by omega
         have HND:=Hd (t.nd_at hpl);have hI:∀ W,Calls Tryz.prog 124 #[.int .u8 t.nodes[pp].kind] W fun e w'=>e = .returned (.bool (ybt t.nodes[pp].kind))∧W=w':=fun W=>ye7 _ W;have HI:=Hd hI;clear hI
         cases hit:ybt t.nodes[pp].kind with
         | false=>
           have HIT:=Hd hit;clear hit
           go_wp2_with (go_at_call 124;refine (HI.out _).mono ?_;rw [HIT.out];rintro e w2 ⟨rfl,rfl⟩)
           go_ret;exact ⟨za (by rw [HX.out,HDP.out,HNE.out,HND.out,HIT.out];rfl),hbw3⟩
         | true=>
           have HIT:=Hd hit;clear hit;obtain ⟨bq,oq,rfl,hbq,cq⟩:=Ints.at HR3.out (i:=pp) (by omega);have hqb:=yaH _ _ HSO.out pp hpl;have hqg:L.getD pp 0=L[pp]:=by rw [List.getD_eq_getElem?_getD,List.getElem?_eq_getElem (by omega),Option.getD_some]
           rw [hqg] at hqb;have hq1:=hqb.1;have hq2:=hqb.2;have HQG:=Hd hqg;clear hqb hqg
           go_wp2_with (go_at_call 124;refine (HI.out _).mono ?_;rw [HIT.out];rintro e w2 ⟨rfl,rfl⟩)
           go_round
           case rel=>exact ⟨(pp:Int)-L[pp],(j:Int)-1,by go_num,by go_num,by omega,by omega,by omega,by omega,Hd (by rw [HX.out,HDP.out,HNE.out,HND.out,HIT.out,if_neg (by simp),show ((j:Int)-1+1).toNat=j by omega,Int.toNat_natCast,HQG.out])⟩
           case measure=>simp [intOf];try omega
     ·have hk:k = -1:=by omega
      subst hk;go_wp2;go_ret;exact ⟨za (by rw [HE.out];rfl),hbw3⟩
 ·have hlb:((L.length:Int) != (t.nodes.length:Int))=true:=by simp;omega
  have HLEN:=Hd hlen;clear hlen;go_enter Tryz.func89,Tryz.ntmps89
  go_wp2_with (go_at_call 122;refine (ygc v t _ BD.out (HT.out.mono ((Below.refl _ w).alloc nlr _) nlr)).mono ?_;rw [← HL.out];rintro e w' ⟨a1,c1,rfl,hown,hb'⟩;have HB1:=Hd (by simpa using hb':Below (w.heap.size+1) (boxT w v t) w');obtain ⟨b0,b1,-,⟨hs,hs1,hs2⟩,hbw⟩:=boxed HB1.out HT.out)
  go_ret;exact ⟨za (by rw [ybN,← HL.out];simp [HLEN.out]),hbw⟩
end
end Go.Proofs.YtipjhljnkocioaaGreatDoor
