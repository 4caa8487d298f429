/- Part of a proof. -/
import Derived.Test.YtipjhljnkocioaaGreatDoorC12
import Derived.BigRegion
set_option maxRecDepth 100000
set_option maxHeartbeats 8000000
set_option linter.unusedVariables false
set_option linter.unusedSimpArgs false
open Go.Proofs.Tryz
namespace Go.Proofs.YtipjhljnkocioaaGreatDoor
section
open Go.RowKit
def eatK(out:List Int):List Int→Int→Option Int
 | [],p=>some p
 |k::r,p=>if k != p||decide (p<0)then none else eatK out r (p-out.getD p.toNat 0)
def zC(t:Tr):Nat→Option (List Int)
 |0=>some []
 |i+1=>(zC t i).bind fun out=>(eatK out (t.nd i).kids.reverse ((i:Int)-1)).map fun p=>out++[(i:Int)-p]
def dB(t:Tr):List Int:=(zC t t.nodes.length).getD []
theorem rF{out:List Int}{n:Nat}(ho:∀j,j<n→1≤out.getD j 0∧out.getD j 0≤j+1):∀(l:List Int) (p q:Int),p<n → -1≤p→eatK out l p=some q → -1≤q∧q≤p
 | [],p,q,_,h1,h=>by simp[eatK]at h;omega
 | k::l,p,q,h0,h1,h=>by
   rw[eatK]at h;split at h
   ·cases h
   ·rename_i hc
    simp only[Bool.or_eq_true,bne_iff_ne,ne_eq,decide_eq_true_eq,not_or,Classical.not_not]at hc;have hj:=ho p.toNat (by omega);have:=rF ho l _ q (by omega) (by omega) h;omega
theorem EA{out:List Int}{n:Nat}(ho:∀j,j<n→1≤out.getD j 0∧out.getD j 0≤j+1):∀(l:List Int) (p q:Int),p<n → -1≤p→eatK out l p=some q→∀k∈l,0≤k∧k≤p
 | [],p,q,_,h1,h=>by simp
 | k::l,p,q,h0,h1,h=>by
   rw[eatK]at h;split at h
   ·cases h
   ·rename_i hc
    simp only[Bool.or_eq_true,bne_iff_ne,ne_eq,decide_eq_true_eq,not_or,Classical.not_not]at hc;have hj:=ho p.toNat (by omega);intro x hx;rcases List.mem_cons.1 hx with rfl|hx
    ·omega
    ·have:=EA ho l _ q (by omega) (by omega) h x hx
     omega
theorem aD{t:Tr}:∀(i:Nat) (out:List Int),zC t i=some out→out.length=i
 |0,out,h=>by simp[zC]at h;subst h;rfl
 | i+1,out,h=>by
   simp only[zC,Option.bind_eq_some_iff,Option.map_eq_some_iff]at h;obtain⟨o,h1,p,h2,rfl⟩:=h;simp[aD i o h1]
theorem bI{t:Tr}:∀(i:Nat) (out:List Int),zC t i=some out→∀j,j<i→1≤out.getD j 0∧out.getD j 0≤j+1
 |0,out,h,j,hj=>by omega
 | i+1,out,h,j,hj=>by
   simp only[zC,Option.bind_eq_some_iff,Option.map_eq_some_iff]at h;obtain⟨o,h1,p,h2,rfl⟩:=h;have hl:=aD i o h1;have ih:=bI i o h1;by_cases hji:j<i
   ·have:=ih j hji
    rwa[List.getD_eq_getElem?_getD,List.getElem?_append_left (by omega),←List.getD_eq_getElem?_getD]
   ·obtain rfl:j=i:=by omega
    have hb:=rF ih _ _ p (by omega) (by omega) h2;rw[List.getD_eq_getElem?_getD,List.getElem?_append_right (by omega),hl];simp;omega
theorem nB{t:Tr}{i n:Nat}(h:i≤n)(hn:(zC t n).isSome):(zC t i).isSome:=by
 induction n with
 | zero=>
   have e:i=0:=by omega
   rw[e];rfl
 | succ n ih=>
   by_cases e:i=n+1
   ·subst e;exact hn
   ·refine ih (by omega) ?_
    simp only[zC]at hn
    cases hx:zC t n with
    |none=>rw[hx]at hn;simp at hn
    |some o=>rfl
theorem nA{t:Tr}{n i:Nat}(hn:(zC t n).isSome)(hi:i<n):∀k∈(t.nd i).kids,0≤k∧k<(i:Int):=by
 have h1:=nB (t:=t) (show i+1≤n by omega) hn;simp only[zC]at h1
 cases hx:zC t i with
 |none=>rw[hx]at h1;simp at h1
 | some o=>
   rw[hx]at h1;simp only[Option.bind_some]at h1;cases hy:eatK o (t.nd i).kids.reverse ((i:Int)-1)with
   |none=>rw[hy]at h1;simp at h1
   | some p=>
     intro k hk;have:=EA (bI i o hx) _ _ p (by omega) (by omega) hy k (by simpa using hk);omega
theorem vH{t:Tr}{i n:Nat}(h:i≤n)(hn:zC t i=none):zC t n=none:=by
 cases hx:zC t n with
 |none=>rfl
 | some o=>
   have:=nB (t:=t) h (by rw[hx];rfl);rw[hn]at this;cases this
theorem yU{l:List Int}{k:Nat}(h:k<l.length):(l.take (k+1)).reverse=l[k]::(l.take k).reverse:=by
 rw[List.take_succ_eq_append_getElem h];simp
theorem qN(v:TreeV)(t:Tr)(w:World)(bd:Bd t)(h:IsTree w v t) :
 Calls prog 122 #[v.val t] w (RetInts w (dB t)):=by
 have HT:=Hd h;have BD:=Hd bd;have hn3:=bd.n;clear h bd;unfold TreeV.val;go_enter func122,ntmps122;go_wp2
 go_loopw [3,4] (fun t3 t4 wr=>∃(i:Nat) (a3:Option Addr) (c3:Nat) (q:List Int),t4=.int .i64 i∧i≤t.nodes.length∧t3=.slice a3 q.length c3∧q.length≤i ∧
  Hid (zC t i=some q)∧Hid (OwnI wr (w.heap.size+1) a3 c3 q)∧Hid (Below (w.heap.size+1) (boxT w v t) wr)) (fun _ i _=>t.nodes.length-(intOf i).toNat)
 case atStart=>exact⟨0,_,_,[],rfl,Nat.zero_le _,rfl,by simp,Hd rfl,Hd (fA (boxT w v t) _ _ (by simp) nlr),Hd (brf.alloc (by simp) _)⟩
 case round=>
  obtain⟨i,a3,c3,q,rfl,hi,rfl,hq,HQ,HO,HB⟩:=hrel;obtain⟨b0,b1,-,⟨hs,hs1,hs2⟩,hbw⟩:=boxed HB.out HT.out;obtain⟨hcw,hfw⟩:=bcell hbw;by_cases hlt:i<t.nodes.length
  ·obtain⟨b,o,ka,kc,ea,hb,c0,c1,c2,c3',c4,hkr⟩:=HT.out.nodes.at hlt
   obtain⟨na,nc,ia,ic⟩:=v;simp only at ea b0 b1;subst ea;obtain⟨ks,hks⟩:∃ks,ks=t.nodes[i].kids:=⟨_,rfl⟩
   have hkl:=BD.out.k _ (List.getElem_mem hlt);rw[←hks]at hkr c3' hkl;have HKR:=Hd hkr;have HKS:Hid ((t.nd i).kids=ks):=Hd (by rw[t.nd_at hlt,hks]);have HOB:=Hd (bI i q HQ.out);have hql:q.length=i:=aD i q HQ.out;have HQL:=Hd hql;have hqi:i≤q.length:=by omega
   clear hkr hks hql;go_wp2
   go_loop [6,7] (fun t6 t7=>∃(p k:Int),t6=intV p∧t7=intV k ∧ -1≤p∧p<i ∧ -1≤k∧k<ks.length∧Hid (eatK q ks.reverse ((i:Int)-1)=eatK q (ks.take (k+1).toNat).reverse p)) (fun _ k=>(intOf k+1).toNat)
   case atStart=>exact⟨(i:Int)-1,(ks.length:Int)-1,by go_num,by go_num,by omega,by omega,by omega,by omega,Hd (by rw[show((ks.length:Int)-1+1).toNat=ks.length by omega,List.take_length])⟩
   case round=>
    obtain⟨p,k,rfl,rfl,hp1,hp2,hk1,hk2,HE⟩:=hrel;by_cases hk0:0≤k
    ·obtain⟨j,rfl⟩:=Int.eq_ofNat_of_zero_le hk0
     have hj:j<ks.length:=by omega
     obtain⟨bk,ok,rfl,hbk,ck⟩:=Ints.at HKR.out hj;have HR:Hid (eatK q ks.reverse ((i:Int)-1)=if ks[j] != p||decide (p<0)then none else eatK q (ks.take j).reverse (p-q.getD p.toNat 0)):=Hd (by rw[HE.out,show((j:Int)+1).toNat=j+1 by omega,yU hj,eatK])
     have hnone:eatK q ks.reverse ((i:Int)-1)=none→dB t=[]:=by
      intro hz;have:zC t (i+1)=none:=by rw[zC,HQ.out,Option.bind_some,HKS.out,hz];rfl
      rw[dB,vH (show i+1≤t.nodes.length by omega) this];rfl
     have HNONE:=Hd hnone;clear hnone HE
     cases hne:ks[j] != p with
     | true=>
       have HNE:=Hd hne;go_wp2;go_ret;rw[HNONE.out (by rw[HR.out,HNE.out];rfl)];exact⟨none,0,rfl,World.ownsRow_nil _ _ _ _,hbw⟩
     | false=>
       have HNE:=Hd hne;by_cases hp0:p<0
       ·have HP:=Hd hp0
        go_wp2;go_ret;rw[HNONE.out (by rw[HR.out,HNE.out];exact if_pos (by simpa using HP.out))];exact⟨none,0,rfl,World.ownsRow_nil _ _ _ _,hbw⟩
       ·obtain⟨pp,rfl⟩:=Int.eq_ofNat_of_zero_le (show 0≤p by omega)
        obtain⟨bq,oq,rfl,hbq,cq⟩:=Ints.at (zq HO.out) (i:=pp) (by omega);have hqb:=HOB.out pp (by omega);have hqg:q.getD pp 0=q[pp]:=by rw[List.getD_eq_getElem?_getD,List.getElem?_eq_getElem (by omega),Option.getD_some]
        rw[hqg]at hqb;have hq1:=hqb.1;have hq2:=hqb.2;have HQG:=Hd hqg;have hdp:decide ((pp:Int)<0)=false:=decide_eq_false hp0;clear hqb hqg;go_wp2
        go_round
        case rel=>exact⟨(pp:Int)-q[pp],(j:Int)-1,by go_num,by go_num,by omega,by omega,by omega,by omega,Hd (by rw[HR.out,HNE.out,if_neg (by simp),show((j:Int)-1+1).toNat=j by omega,Int.toNat_natCast,HQG.out])⟩
        case measure=>simp[intOf];try omega
    ·have hk:k = -1:=by omega
     subst hk;have HR:Hid (zC t (i+1)=some (q++[(i:Int)-p])):=Hd (by rw[zC,HQ.out,Option.bind_some,HKS.out,HE.out];rfl);clear HE
     go_wp2_with (at_builtin;refine zJ (news:=[(i:Int)-p]) rfl (.tmp 47) (.tmp 51) rfl rfl (HO.out.alloc _) rfl (zR _ _ _) (by omega) (by simp;omega) ?_;intro a9 c9 w9 l9 HL9 hle9 hown9 hkeep9)
     go_roundw
     case rel=>exact⟨i+1,a9,c9,l9,by go_num,by omega,rfl,by omega,Hd (by rw[HR.out,HL9.out]),Hd hown9,Hd (hkeep9 _ _ nlr (HB.out.alloc hs _))⟩
     case measure=>simp[intOf];try omega
  ·obtain rfl:i=t.nodes.length:=by omega
   go_wp2;go_ret;have e:dB t=q:=by rw[dB,HQ.out,Option.getD_some]
   rw[e];exact RetInts.mk HO.out (by omega) hbw
def dZ(n:Nat):Array Value:=Array.replicate n (intV 0)
theorem xZ(n:Nat):(dZ n).toList=zo (List.replicate n 0):=by simp[dZ]
theorem mK(W:World)(n:Nat)(h:n≤4398046511104) :
 (Instr.makeSlice 23 (.int .i64 n) (.int .i64 n)).run prog W=.ok (.slice (some ⟨W.heap.size,0,none⟩) n n) (W.alloc (.cells (dZ n) 3)):=by
 obtain⟨i0,hi,hz0,hz1,hz2⟩:=info_parts lA;rw[run_make (P:=prog) W 23 3 i0 (.int .i64 0) bJ hi hz0 .i64 .i64 n n (by omega) (Int.le_refl _) (by rw[hz2];omega) (by omega),hz1,Nat.mul_one,Int.toNat_natCast]
 have:madeCells (Value.int .i64 0).cells n=dZ n:=by
  apply Array.ext';rw[show(Value.int IntKind.i64 0).cells = #[Value.int .i64 0]from rfl,toList_madeCells_one,dZ];simp
 rw[this]
theorem rP(W:World){B n k:Nat}(hk:W.heap.size=k)(hB:B≤k)(hn:n≤4398046511104):(W.alloc (.cells (dZ n) 3)).ownsRow B 3 1 (.slice (some ⟨k,0,none⟩) n n) n (zo (List.replicate n 0)):=by
 subst hk;rw[←xZ];exact World.ownsRow_lit W (dZ n) n hB (by unfold maxLen;omega) (by simp[dZ])
def aJ(o:List Int)(d:Int):List Int→List Int
 | []=>o
 |k::r=>aJ (o.set k.toNat d) d r
def jY(t:Tr)(o:List Int)(i:Nat):List Int:=aJ (o.set i (max (o.getD i 0) 1)) (max (o.getD i 0) 1+1) (t.nd i).kids
def gM(t:Tr):Nat→List Int
 |0=>List.replicate t.nodes.length 0
 |m+1=>jY t (gM t m) (t.nodes.length-1-m)
def eA(t:Tr):List Int:=gM t t.nodes.length
theorem fR(d:Int):∀(l o:List Int),(aJ o d l).length=o.length
 | [],o=>rfl
 |k::l,o=>by rw[aJ,fR d l];simp
theorem bX(t:Tr):∀m,(gM t m).length=t.nodes.length
 |0=>by simp[gM]
 |m+1=>by rw[gM,jY,fR];simp[bX t m]
theorem kV{d:Int}{n:Nat}{i:Nat}(hd:0≤d∧d+i≤n+1):∀(l o:List Int),(∀k∈l,0≤k∧k<(i:Int))→(∀j,0≤o.getD j 0∧(j<n→o.getD j 0+j≤n))→∀j,0≤(aJ o d l).getD j 0∧(j<n→(aJ o d l).getD j 0+j≤n)
 | [],o,_,h=>h
 | k::l,o,hk,h=>by
   refine kV hd l _ (fun x hx=>hk x (List.mem_cons_of_mem _ hx)) fun j=>?_;have hk0:=hk k (by simp);rw[List.getD_eq_getElem?_getD,List.getElem?_set];split
   ·rename_i e
    split
    ·exact⟨hd.1,fun _=>by simp only[Option.getD_some];omega⟩
    ·exact⟨by simp,fun _=>by simp only[Option.getD_none];omega⟩
   ·rw[←List.getD_eq_getElem?_getD];exact h j
theorem gN{t:Tr}(hk:∀i,i<t.nodes.length→∀k∈(t.nd i).kids,0≤k∧k<(i:Int)):∀m,m≤t.nodes.length→∀j,0≤(gM t m).getD j 0∧(j<t.nodes.length→(gM t m).getD j 0+j≤t.nodes.length)
 | 0,_,j=>by
   rw[gM,List.getD_eq_getElem?_getD,List.getElem?_replicate];split<;>simp<;>omega
 | m+1,hm,j=>by
   have ih:=gN hk m (by omega);rw[gM,jY];have hi:=ih (t.nodes.length-1-m);refine kV (n:=t.nodes.length) (i:=t.nodes.length-1-m) (by have:=hi.2 (by omega);omega) _ _ (hk _ (by omega)) (fun j=>?_) j;rw[List.getD_eq_getElem?_getD,List.getElem?_set];have h2:=hi.2 (by omega);have h1:=hi.1;generalize (gM t m).getD (t.nodes.length-1-m) 0=x at *;split
   ·rename_i e
    split
    ·exact⟨by simp only[Option.getD_some];omega,fun _=>by simp only[Option.getD_some];omega⟩
    ·exact⟨by simp,fun _=>by simp only[Option.getD_none];omega⟩
   ·rw[←List.getD_eq_getElem?_getD];exact ih j
theorem dG{d:Int}{i:Nat}:∀(l o:List Int),(∀k∈l,0≤k∧k<(i:Int))→(aJ o d l).getD i 0=o.getD i 0
 | [],o,_=>rfl
 | k::l,o,hk=>by
   have hk0:=hk k (by simp);rw[aJ,dG l _ fun x hx=>hk x (List.mem_cons_of_mem _ hx),List.getD_eq_getElem?_getD,List.getElem?_set,if_neg (by omega),←List.getD_eq_getElem?_getD]
theorem dS{d:Int}:∀(l o:List Int) (k:Int),aJ o d (l++[k])=(aJ o d l).set k.toNat d
 | [],o,k=>rfl
 |x::l,o,k=>by rw[List.cons_append,aJ,dS l];rfl
theorem vR(v:TreeV)(t:Tr)(w:World)(bd:Bd t)(hkid:∀i,i<t.nodes.length→∀k∈(t.nd i).kids,0≤k∧k<(i:Int))(h:IsTree w v t) :
 Calls prog 125 #[v.val t] w (RetInts w (eA t)):=by
 have HT:=Hd h;have BD:=Hd bd;have HKID:=Hd hkid;have hn3:=bd.n;have hmk:=fun W=>mK W t.nodes.length (by omega);clear h bd hkid;unfold TreeV.val;go_enter func125,ntmps125;go_wp2;have HO0:=Hd (rP (boxT w v t) (B:=w.heap.size+1) (n:=t.nodes.length) (k:=w.heap.size+1) (by simp) nlr (by omega))
 go_loopw [4] (fun t4 wr=>∃(i:Int),t4=intV i ∧ -1≤i∧i<t.nodes.length∧Hid (wr.ownsRow (w.heap.size+1) 3 1 (.slice (some ⟨w.heap.size+1,0,none⟩) t.nodes.length t.nodes.length) t.nodes.length (zo (gM t ((t.nodes.length:Int)-1-i).toNat)))∧Hid (Below (w.heap.size+1) (boxT w v t) wr)) (fun i _=>(intOf i+1).toNat)
 case atStart=>exact⟨(t.nodes.length:Int)-1,by go_num,by omega,by omega,Hd (by rw[show((t.nodes.length:Int)-1-((t.nodes.length:Int)-1)).toNat=0 by omega];exact HO0.out),Hd (brf.alloc (by simp) _)⟩
 case round=>
  obtain⟨i,rfl,hi1,hi2,HO,HB⟩:=hrel;obtain⟨b0,b1,-,⟨hs,hs1,hs2⟩,hbw⟩:=boxed HB.out HT.out;obtain⟨hcw,hfw⟩:=bcell hbw;by_cases hi0:0≤i
  ·obtain⟨m,rfl⟩:=Int.eq_ofNat_of_zero_le hi0
   have hlt:m<t.nodes.length:=by omega
   obtain⟨b,o,ka,kc,ea,hb,c0,c1,c2,c3',c4,hkr⟩:=HT.out.nodes.at hlt;obtain⟨na,nc,ia,ic⟩:=v;simp only at ea b0 b1;subst ea;obtain⟨ks,hks⟩:∃ks,ks=t.nodes[m].kids:=⟨_,rfl⟩
   have hkl:=BD.out.k _ (List.getElem_mem hlt);rw[←hks]at hkr c3' hkl;have HKR:=Hd hkr;have HKS:Hid ((t.nd m).kids=ks):=Hd (by rw[t.nd_at hlt,hks]);have HKI:=HKID.out m hlt;rw[HKS.out]at HKI;obtain⟨L,hL⟩:∃L,L=gM t ((t.nodes.length:Int)-1-m).toNat:=⟨_,rfl⟩
   have HL:=Hd hL;have hLb:=gN HKID.out ((t.nodes.length:Int)-1-m).toNat (by omega);rw[←hL]at hLb;have HLB:=Hd hLb;obtain⟨x,hx⟩:∃x,x=L.getD m 0:=⟨_,rfl⟩
   have hxb:=hLb m;rw[←hx]at hxb;have hx0:=hxb.1;have hx1:=hxb.2 hlt;have HX:=Hd hx;have HKII:=Hd HKI;have hown:=HO.out;rw[←hL]at hown;obtain⟨g,hge,hg1,hg2,hLl,hcell,hfr⟩:=bK hown (by omega);simp only[Option.some.injEq,Addr.mk.injEq,and_true]at hge;subst hge;have ci:=hcell m hlt;have fi:=hfr m;rw[←hx]at ci;have HOWN:=Hd hown;have HFR:=Hd hfr;have HLL:=Hd hLl;clear hkr hks hL hLb hx hxb HKI hown hcell hfr hLl;by_cases hz:x=0
   ·have HMX:Hid (max x 1=1):=Hd (by omega)
    subst hz;go_wp2
    go_loopw [5] (fun t5 wr=>∃k:Nat,t5=.int .i64 k∧k≤ks.length∧Hid (wr.ownsRow (w.heap.size+1) 3 1 (.slice (some ⟨w.heap.size+1,0,none⟩) t.nodes.length t.nodes.length) t.nodes.length (zo (aJ (L.set m 1) (1+1) (ks.take k))))∧Hid (Below (w.heap.size+1) (boxT w ⟨some ⟨b,o,none⟩,nc,ia,ic⟩ t) wr)) (fun i _=>ks.length-(intOf i).toNat)
    case atStart=>exact⟨0,rfl,Nat.zero_le _,Hd (fB HOWN.out m 1),Hd (HB.out.setCell (by simp) _)⟩
    case round=>
     obtain⟨k,rfl,hk,HO5,HB5⟩:=hrel;obtain⟨b50,b51,-,⟨hs5,hs51,hs52⟩,hbw5⟩:=boxed HB5.out HT.out;obtain⟨hcw5,hfw5⟩:=bcell hbw5;by_cases hlk:k<ks.length
     ·obtain⟨bk,ok,rfl,hbk,ck⟩:=Ints.at HKR.out hlk
      obtain⟨hk1,hk2⟩:=HKII.out _ (List.getElem_mem hlk);obtain⟨c,hc⟩:=Int.eq_ofNat_of_zero_le hk1;have hcm:c<m:=by omega
      have HC:=Hd hc;rw[hc]at ck;obtain⟨g5,he5,-,-,-,hcell5,hfr5⟩:=bK HO5.out (by omega);simp only[Option.some.injEq,Addr.mk.injEq,and_true]at he5;subst he5;have cm:=hcell5 m hlt;rw[dG _ _ (fun x hx=>HKII.out x (List.mem_of_mem_take hx)),List.getD_eq_getElem?_getD,List.getElem?_set,if_pos rfl,if_pos (by have:=HLL.out;omega),Option.getD_some]at cm;have cc:=hcell5 c (by omega);have fc:=hfr5 c;have hbb:b<wr.heap.size:=by omega
      have hbb2:bk<wr.heap.size:=by omega
      have hcn:c<t.nodes.length:=by omega
      clear hc hk1 hk2 hcell5 hfr5;go_wp2;go_region;go_wp2
      go_roundw
      case rel=>
       refine⟨k+1,by go_num,by omega,Hd ?_,Hd ((HB5.out.setCell (by simp) _).drew)⟩;rw[List.take_succ_eq_append_getElem hlk,dS,HC.out];exact fB HO5.out c (1+1)
      case measure=>simp[intOf];omega
     ·obtain rfl:k=ks.length:=by omega
      go_wp2
      go_roundw
      case rel=>
       refine⟨(m:Int)-1,by go_num,by omega,by omega,Hd ?_,HB5⟩;have ho:=HO5.out;rw[List.take_length]at ho;rw[show((t.nodes.length:Int)-1-((m:Int)-1)).toNat=((t.nodes.length:Int)-1-m).toNat+1 by omega,gM,←HL.out,jY,show t.nodes.length-1-((t.nodes.length:Int)-1-m).toNat=m by omega,HKS.out,←HX.out,HMX.out];exact ho
      case measure=>simp[intOf];try omega
   ·have HMX:Hid (max x 1=x):=Hd (by omega)
    have hx2:1≤x:=by omega
    clear hz;go_wp2
    go_loopw [5] (fun t5 wr=>∃k:Nat,t5=.int .i64 k∧k≤ks.length∧Hid (wr.ownsRow (w.heap.size+1) 3 1 (.slice (some ⟨w.heap.size+1,0,none⟩) t.nodes.length t.nodes.length) t.nodes.length (zo (aJ (L.set m x) (x+1) (ks.take k))))∧Hid (Below (w.heap.size+1) (boxT w ⟨some ⟨b,o,none⟩,nc,ia,ic⟩ t) wr)) (fun i _=>ks.length-(intOf i).toNat)
    case atStart=>exact⟨0,rfl,Nat.zero_le _,Hd (fB HOWN.out m x),Hd (HB.out.setCell (by simp) _)⟩
    case round=>
     obtain⟨k,rfl,hk,HO5,HB5⟩:=hrel;obtain⟨b50,b51,-,⟨hs5,hs51,hs52⟩,hbw5⟩:=boxed HB5.out HT.out;obtain⟨hcw5,hfw5⟩:=bcell hbw5;by_cases hlk:k<ks.length
     ·obtain⟨bk,ok,rfl,hbk,ck⟩:=Ints.at HKR.out hlk
      obtain⟨hk1,hk2⟩:=HKII.out _ (List.getElem_mem hlk);obtain⟨c,hc⟩:=Int.eq_ofNat_of_zero_le hk1;have hcm:c<m:=by omega
      have HC:=Hd hc;rw[hc]at ck;obtain⟨g5,he5,-,-,-,hcell5,hfr5⟩:=bK HO5.out (by omega);simp only[Option.some.injEq,Addr.mk.injEq,and_true]at he5;subst he5;have cm:=hcell5 m hlt;rw[dG _ _ (fun x hx=>HKII.out x (List.mem_of_mem_take hx)),List.getD_eq_getElem?_getD,List.getElem?_set,if_pos rfl,if_pos (by have:=HLL.out;omega),Option.getD_some]at cm;have cc:=hcell5 c (by omega);have fc:=hfr5 c;have hbb:b<wr.heap.size:=by omega
      have hbb2:bk<wr.heap.size:=by omega
      have hcn:c<t.nodes.length:=by omega
      clear hc hk1 hk2 hcell5 hfr5;go_wp2;go_region;go_wp2
      go_roundw
      case rel=>
       refine⟨k+1,by go_num,by omega,Hd ?_,Hd ((HB5.out.setCell (by simp) _).drew)⟩;rw[List.take_succ_eq_append_getElem hlk,dS,HC.out];exact fB HO5.out c (x+1)
      case measure=>simp[intOf];omega
     ·obtain rfl:k=ks.length:=by omega
      go_wp2
      go_roundw
      case rel=>
       refine⟨(m:Int)-1,by go_num,by omega,by omega,Hd ?_,HB5⟩;have ho:=HO5.out;rw[List.take_length]at ho;rw[show((t.nodes.length:Int)-1-((m:Int)-1)).toNat=((t.nodes.length:Int)-1-m).toNat+1 by omega,gM,←HL.out,jY,show t.nodes.length-1-((t.nodes.length:Int)-1-m).toNat=m by omega,HKS.out,←HX.out,HMX.out];exact ho
      case measure=>simp[intOf];try omega
  ·have hi:i = -1:=by omega
   subst hi;go_wp2;go_ret;have ho:=HO.out;rw[show((t.nodes.length:Int)-1 - -1).toNat=t.nodes.length by omega]at ho;exact⟨some ⟨w.heap.size+1,0,none⟩,t.nodes.length,by simp[eA,bX],by rw[eA,bX];exact aL ho (by omega),hbw⟩
def okK(k:Int):Bool:=aH k||k==25||fJ k||k==34||dH k
def mF(t:Tr)(d:Nd)(j:Nat):Bool:=kidK d.kind d.kids.length j (t.nd (d.kids.getD j 0)).kind && !((t.nd (d.kids.getD j 0)).kind==1&&decide ((t.nd (d.kids.getD j 0)).n<0)&&d.kind != 40)
def lB(t:Tr)(d:Nd):Bool:=(List.range d.kids.length).all fun j=>mF t d j
def cB(t:Tr)(i:Nat):Bool:=
 (okK (t.nd i).kind&&(dX (t.nd i).kind==zQ (t.nd i).text)&&(dX (t.nd i).kind||(t.nd i).text==[])&&zO (t.nd i).kind (t.nd i).n (t.nd i).kids.length&&zw (t.nd i).kind (t.nd i).n&&decide (0≤(t.nd i).pos)&&decide ((t.nd i).pos≤2000))&&lB t (t.nd i)
theorem uJ{t:Tr}{d:Nd}{k:Nat}(hk:k<d.kids.length)(h:mF t d k=false):lB t d=false:=by
 rw[lB,Bool.eq_false_iff];intro ha;have:=List.all_eq_true.1 ha k (List.mem_range.2 hk);rw[h]at this;cases this
theorem eK{w wr:World}{v:TreeV}{t:Tr}{ka:Option Addr}{kc:Nat}{d:Nd}(hb:Below (w.heap.size+1+1) (boxD (boxT w v t) ka kc d) wr):wr.cell? ⟨w.heap.size+1,4,none⟩=some (intV d.pos):=by
 have hb':Below (boxD (boxT w v t) ka kc d).heap.size (boxD (boxT w v t) ka kc d) wr:=by simpa using hb
 obtain⟨hc,_⟩:=bcell hb';have e1:(boxD (boxT w v t) ka kc d).cell? ⟨w.heap.size+1,4,none⟩=some (intV d.pos):=by simp
 exact(hc _ _ (by simp)).trans e1
def eI(o a w e m u:Bool)(pos:Int):Bool:=o&&(a==w)&&(a||e)&&m&&u&&decide (0≤pos)&&decide (pos≤2000)
theorem KK{o a w e m u:Bool}{pos:Int}{x:Bool}(h:eI o a w e m u pos=false):(o&&(a==w)&&(a||e)&&m&&u&&decide (0≤pos)&&decide (pos≤2000)&&x)=false:=by unfold eI at h;rw[h];rfl
theorem xP(o a w e m u:Bool)(pos:Int)(ho:o=true) :
 (a=true∧w=false∧eI o a w e m u pos=false)∨(a=true∧w=true∧m=false∧eI o a w e m u pos=false)∨(a=true∧w=true∧m=true∧u=false∧eI o a w e m u pos=false) ∨
 (a=true∧w=true∧m=true∧u=true∧pos<0∧eI o a w e m u pos=false)∨(a=true∧w=true∧m=true∧u=true∧decide (pos<0)=false∧¬pos<0∧pos > 2000∧eI o a w e m u pos=false) ∨
 (a=false∧w=true∧eI o a w e m u pos=false)∨(a=false∧w=false∧e=false∧eI o a w e m u pos=false)∨(a=false∧w=false∧e=true∧m=false∧eI o a w e m u pos=false) ∨
 (a=false∧w=false∧e=true∧m=true∧u=false∧eI o a w e m u pos=false)∨(a=false∧w=false∧e=true∧m=true∧u=true∧pos<0∧eI o a w e m u pos=false) ∨
 (a=false∧w=false∧e=true∧m=true∧u=true∧decide (pos<0)=false∧¬pos<0∧pos > 2000∧eI o a w e m u pos=false) ∨
 (a=true∧w=true∧m=true∧u=true∧decide (pos<0)=false∧¬pos<0∧¬pos > 2000∧decide (2000<pos)=false∧eI o a w e m u pos=true) ∨
 (a=false∧w=false∧e=true∧m=true∧u=true∧decide (pos<0)=false∧¬pos<0∧¬pos > 2000∧decide (2000<pos)=false∧eI o a w e m u pos=true):=by
 subst ho;unfold eI;by_cases h0:pos<0
 ·have h1:decide (0≤pos)=false:=decide_eq_false (by omega)
  rw[h1];cases a<;>cases w<;>cases e<;>cases m<;>cases u<;>simp[h0]
 ·have h1:decide (0≤pos)=true:=decide_eq_true (by omega)
  rw[h1];by_cases h2:pos > 2000
  ·have h3:decide (pos≤2000)=false:=decide_eq_false (by omega)
   rw[h3];cases a<;>cases w<;>cases e<;>cases m<;>cases u<;>simp[h0,h2]<;>omega
  ·have h3:decide (pos≤2000)=true:=decide_eq_true (by omega)
   rw[h3];cases a<;>cases w<;>cases e<;>cases m<;>cases u<;>simp[h0,h2]<;>omega
theorem qL(v:TreeV)(t:Tr)(i:Nat)(w:World)(bd:Bd t)(hi:i<t.nodes.length)(hk:∀k∈t.nodes[i].kids,0≤k∧k<(t.nodes.length:Int))(h:IsTree w v t) :
 Calls prog 123 #[v.val t,intV i] w (zn w (cB t i)):=by
 have hmo:prog.follows .mixedOrders=true:=by kernel_rfl
 have HT:=Hd h;have hn3:=bd.n;have hts:=bd.s _ (List.getElem_mem hi);have hkl:=bd.k _ (List.getElem_mem hi);obtain⟨b,o,ka,kc,ea,hb,c0,c1,c2,c3,c4,hkr⟩:=HT.out.nodes.at hi;obtain⟨na,nc,ia,ic⟩:=v;simp only at ea;subst ea;obtain⟨D,hD⟩:∃D,D=t.nodes[i]:=⟨_,rfl⟩
 have hnd:=t.nd_at hi;rw[←hD]at c0 c1 c2 c3 c4 hkr hts hkl hk hnd;have HND:=Hd hnd;have HKI:=Hd hk;have HKR:=Hd hkr;clear h bd hD hnd hk hkr;unfold TreeV.val;go_enter func123,ntmps123;have hg:Below (w.heap.size+1+1) (boxD (boxT w ⟨some ⟨b,o,none⟩,nc,ia,ic⟩ t) ka kc D) (boxD (boxT w ⟨some ⟨b,o,none⟩,nc,ia,ic⟩ t) ka kc D):=brf;have HG:=Hd hg;clear hg
 go_upto_region 2 with fail
 go_cut [38]from 13 to 37 (fun v wc=>v=.bool (!okK D.kind)∧Below (w.heap.size+1+1) (boxD (boxT w ⟨some ⟨b,o,none⟩,nc,ia,ic⟩ t) ka kc D) wc)
 case first=>
  have hc1:∀W,Calls prog 159 #[.int .u8 D.kind] W fun e w'=>e=.returned (.bool (aH D.kind))∧W=w':=fun W=>nT _ W;have hc2:∀W,Calls prog 160 #[.int .u8 D.kind] W fun e w'=>e=.returned (.bool (fJ D.kind))∧W=w':=fun W=>nV _ W;have hc3:∀W,Calls prog 124 #[.int .u8 D.kind] W fun e w'=>e=.returned (.bool (dH D.kind))∧W=w':=fun W=>nU _ W;have HC1:=Hd hc1;have HC2:=Hd hc2;have HC3:=Hd hc3;clear hc1 hc2 hc3;obtain⟨e1,h1⟩:∃e1,aH D.kind=e1:=⟨_,rfl⟩
  obtain⟨e2,h2⟩:∃e2,fJ D.kind=e2:=⟨_,rfl⟩
  obtain⟨e3,h3⟩:∃e3,dH D.kind=e3:=⟨_,rfl⟩
  obtain⟨b25,h25⟩:∃x,(D.kind != 25)=x:=⟨_,rfl⟩
  obtain⟨b34,h34⟩:∃x,(D.kind != 34)=x:=⟨_,rfl⟩
  have H25:Hid ((D.kind==25) = !b25):=Hd (by rw[←h25];simp[bne]);have H34:Hid ((D.kind==34) = !b34):=Hd (by rw[←h34];simp[bne]);have H1:=Hd h1;have H2:=Hd h2;have H3:=Hd h3;clear h1 h2 h3
  go_wp2_with (first
   | (go_at_call 159;refine(HC1.out _).mono ?_;rw[H1.out];rintro e w' ⟨rfl,rfl⟩)
   | (go_at_call 160;refine(HC2.out _).mono ?_;rw[H2.out];rintro e w' ⟨rfl,rfl⟩)
   | (go_at_call 124;refine(HC3.out _).mono ?_;rw[H3.out];rintro e w' ⟨rfl,rfl⟩))
  all_goals go_meet
  all_goals exact⟨by rw[okK,H1.out,H2.out,H3.out,H25.out,H34.out];simp_all,HG.out⟩
 case rest=>
  obtain⟨rfl,hB4⟩:=hcut;have HB4:=Hd hB4;clear hB4
  cases hokk:okK D.kind with
  | false=>
    have HOKK:=Hd hokk;obtain⟨-,-,-,-,hbw4⟩:=aF (v:=⟨some ⟨b,o,none⟩,nc,ia,ic⟩) (ka:=ka) (kc:=kc) (d:=D) (t:=t) (w:=w) (wr:=wc) HB4.out HT.out;go_wp2;go_ret;exact⟨za (by rw[cB,HND.out];simp[HOKK.out]),hbw4⟩
  | true=>
    have HOKK:=Hd hokk;clear hokk;obtain⟨W4,hW4⟩:∃W4,W4=wc:=⟨_,rfl⟩
    subst hW4;obtain⟨⟨b40,b41⟩,⟨d40,d41,d42,d43⟩,-,⟨hs4,hs41,hs42,hs43⟩,hbw4⟩:=aF (v:=⟨some ⟨b,o,none⟩,nc,ia,ic⟩) (ka:=ka) (kc:=kc) (d:=D) (t:=t) (w:=w) (wr:=W4) HB4.out HT.out;have d44:=eK (v:=⟨some ⟨b,o,none⟩,nc,ia,ic⟩) (ka:=ka) (kc:=kc) (d:=D) (t:=t) (w:=w) (wr:=W4) HB4.out;obtain⟨hcw4,hfw4⟩:=bcell hbw4;have hbb4:b<W4.heap.size:=by omega
    have hcs:=xP (okK D.kind) (dX D.kind) (zQ D.text) (D.text==[]) (zO D.kind D.n D.kids.length) (zw D.kind D.n) D.pos HOKK.out;rcases hcs with⟨hA,hW,hq⟩|⟨hA,hW,hM,hq⟩|⟨hA,hW,hM,hU,hq⟩|⟨hA,hW,hM,hU,hp0,hq⟩|⟨hA,hW,hM,hU,hpb,hp0,hp1,hq⟩|⟨hA,hW,hq⟩|⟨hA,hW,htx,hq⟩|⟨hA,hW,htx,hM,hq⟩|⟨hA,hW,htx,hM,hU,hq⟩|⟨hA,hW,htx,hM,hU,hp0,hq⟩|⟨hA,hW,htx,hM,hU,hpb,hp0,hp1,hq⟩|⟨hA,hW,hM,hU,hpb,hp0,hp1,hpc,hq⟩|⟨hA,hW,htx,hM,hU,hpb,hp0,hp1,hpc,hq⟩
    all_goals
     have HQ:=Hd hq;clear hq;go_wp2;refine N.region_JTm 37 hmo (by kernel_rfl) (by kernel_rfl) rfl (by kernel_rfl) (by kernel_rfl) (fun Wz=>Below W4.heap.size W4 Wz) (brf.drew) ?_
     iterate 2 ((first|(refine N.WalkT.cons undef (N.StepP.skip rfl) ?_)|(refine N.WalkT.cons ?_ (N.StepP.pure rfl ?_) ?_;rotate_left;(intro W hJ;obtain⟨hcJ,hfJ⟩:=bcell hJ;go_simp;rfl)));simp only[N.pz])
     first|(refine N.WalkT.cons undef (N.StepP.skip rfl) ?_;simp only[N.pz])|(refine N.WalkT.cons (.bool (dX D.kind)) (N.StepP.call (f:=161) (args:=#[.int .u8 D.kind]) rfl ?_ ?_) ?_;(intro W hJ;obtain⟨hcJ,hfJ⟩:=bcell hJ;go_simp;try rfl);(intro W hJ;refine(qK D.kind W).mono ?_;rintro e w2 ⟨rfl,rfl⟩;exact⟨rfl,hJ⟩);simp only[N.pz,hA])
     iterate 2 ((first|(refine N.WalkT.cons undef (N.StepP.skip rfl) ?_)|(refine N.WalkT.cons ?_ (N.StepP.pure rfl ?_) ?_;rotate_left;(intro W hJ;obtain⟨hcJ,hfJ⟩:=bcell hJ;go_simp;rfl)));simp only[N.pz])
     first|(refine N.WalkT.cons undef (N.StepP.skip rfl) ?_;simp only[N.pz])|(refine N.WalkT.cons (.bool (zQ D.text)) (N.StepP.call (f:=74) (args:=#[strV D.text]) rfl ?_ ?_) ?_;(intro W hJ;obtain⟨hcJ,hfJ⟩:=bcell hJ;go_simp;try rfl);(intro W hJ;refine(oJ D.text W hts).mono ?_;rintro e w2 ⟨rfl,hb2⟩;exact⟨rfl,hJ.trans (hb2.mono hJ.size)⟩);simp only[N.pz,hW])
     iterate 4 ((first|(refine N.WalkT.cons undef (N.StepP.skip rfl) ?_)|(refine N.WalkT.cons ?_ (N.StepP.pure rfl ?_) ?_;rotate_left;(intro W hJ;obtain⟨hcJ,hfJ⟩:=bcell hJ;go_simp;rfl)));simp only[N.pz])
     first|(refine N.WalkT.cons undef (N.StepP.skip rfl) ?_;simp only[N.pz])|(refine N.WalkT.cons (.bool (dX D.kind)) (N.StepP.call (f:=161) (args:=#[.int .u8 D.kind]) rfl ?_ ?_) ?_;(intro W hJ;obtain⟨hcJ,hfJ⟩:=bcell hJ;go_simp;try rfl);(intro W hJ;refine(qK D.kind W).mono ?_;rintro e w2 ⟨rfl,rfl⟩;exact⟨rfl,hJ⟩);simp only[N.pz,hA])
     iterate 9 ((first|(refine N.WalkT.cons undef (N.StepP.skip rfl) ?_)|(refine N.WalkT.cons ?_ (N.StepP.pure rfl ?_) ?_;rotate_left;(intro W hJ;obtain⟨hcJ,hfJ⟩:=bcell hJ;go_simp;rfl)));simp only[N.pz])
     first|(refine N.WalkT.cons undef (N.StepP.skip rfl) ?_;simp only[N.pz])|(refine N.WalkT.cons (.bool (zO D.kind D.n D.kids.length)) (N.StepP.call (f:=162) (args:=#[.agg #[.int .u8 D.kind,strV D.text,intV D.n,.slice ka D.kids.length kc,intV D.pos]]) rfl ?_ ?_) ?_;(intro W hJ;obtain⟨hcJ,hfJ⟩:=bcell hJ;go_simp;try rfl);(intro W hJ;refine(CC D ka kc W hkl).mono ?_;rintro e w2 ⟨rfl,hb2⟩;exact⟨rfl,hJ.trans (hb2.mono hJ.size)⟩);simp only[N.pz,hM])
     iterate 4 ((first|(refine N.WalkT.cons undef (N.StepP.skip rfl) ?_)|(refine N.WalkT.cons ?_ (N.StepP.pure rfl ?_) ?_;rotate_left;(intro W hJ;obtain⟨hcJ,hfJ⟩:=bcell hJ;go_simp;rfl)));simp only[N.pz])
     first|(refine N.WalkT.cons undef (N.StepP.skip rfl) ?_;simp only[N.pz])|(refine N.WalkT.cons (.bool (zw D.kind D.n)) (N.StepP.call (f:=163) (args:=#[.agg #[.int .u8 D.kind,strV D.text,intV D.n,.slice ka D.kids.length kc,intV D.pos]]) rfl ?_ ?_) ?_;(intro W hJ;obtain⟨hcJ,hfJ⟩:=bcell hJ;go_simp;try rfl);(intro W hJ;refine(vS D ka kc W).mono ?_;rintro e w2 ⟨rfl,hb2⟩;exact⟨rfl,hJ.trans (hb2.mono hJ.size)⟩);simp only[N.pz,hU])
     iterate 11 ((first|(refine N.WalkT.cons undef (N.StepP.skip rfl) ?_)|(refine N.WalkT.cons ?_ (N.StepP.pure rfl ?_) ?_;rotate_left;(intro W hJ;obtain⟨hcJ,hfJ⟩:=bcell hJ;go_simp;rfl)));simp only[N.pz])
     refine N.WalkT.nil fun W hJ=>?_
    iterate 11 (go_wp2;go_ret;exact⟨za (by rw[cB,HND.out];exact(KK HQ.out).symm),hbw4.trans (hJ.mono (by omega))⟩)
    all_goals
     have HOKS:Hid ((okK D.kind&&(dX D.kind==zQ D.text)&&(dX D.kind||D.text==[])&&zO D.kind D.n D.kids.length&&zw D.kind D.n&&decide (0≤D.pos)&&decide (D.pos≤2000))=true):=HQ;go_wp2;have hb5:Below (w.heap.size+1+1) (boxD (boxT w ⟨some ⟨b,o,none⟩,nc,ia,ic⟩ t) ka kc D) W:=Below.trans HB4.out (hJ.mono (by omega))
     go_loopw [6] (fun t6 wr=>∃k:Nat,t6=.int .i64 k∧k≤D.kids.length∧Hid (((List.range k).all fun j=>mF t D j)=true)∧Hid (Below (w.heap.size+1+1) (boxD (boxT w ⟨some ⟨b,o,none⟩,nc,ia,ic⟩ t) ka kc D) wr)) (fun i _=>D.kids.length-(intOf i).toNat)
     case atStart=>exact⟨0,rfl,Nat.zero_le _,Hd rfl,Hd hb5⟩
     case round=>
      obtain⟨k,rfl,hk,HL,HB7⟩:=hrel;obtain⟨⟨b70,b71⟩,⟨d70,d71,d72,d73⟩,-,⟨hs7,hs71,hs72,hs73⟩,hbw7⟩:=aF (v:=⟨some ⟨b,o,none⟩,nc,ia,ic⟩) (ka:=ka) (kc:=kc) (d:=D) (t:=t) (w:=w) (wr:=wr) HB7.out HT.out;have d74:=eK (v:=⟨some ⟨b,o,none⟩,nc,ia,ic⟩) (ka:=ka) (kc:=kc) (d:=D) (t:=t) (w:=w) (wr:=wr) HB7.out;obtain⟨hcw7,hfw7⟩:=bcell hbw7;have hbb7:b<wr.heap.size:=by omega
      by_cases hlt:k<D.kids.length
      ·obtain⟨bk,ok,rfl,hbk,ck⟩:=Ints.at HKR.out hlt
       obtain⟨hk1,hk2⟩:=HKI.out _ (List.getElem_mem hlt);obtain⟨m,hm⟩:=Int.eq_ofNat_of_zero_le hk1;have hml:m<t.nodes.length:=by omega
       have HM2:=Hd hm;rw[hm]at ck;obtain⟨b',o',ka',kc',ea',hb',f0,f1,f2,f3,f4,-⟩:=HT.out.nodes.at hml;simp only[Option.some.injEq,Addr.mk.injEq,and_true]at ea';obtain⟨rfl,rfl⟩:=ea';have HND3:=Hd (t.nd_at hml);have hbk':bk<wr.heap.size:=by omega
       have hok:mF t D k=(kidK D.kind D.kids.length k t.nodes[m].kind && !(t.nodes[m].kind==1&&decide (t.nodes[m].n<0)&&D.kind != 40)):=by
        rw[mF,List.getD_eq_getElem?_getD,List.getElem?_eq_getElem hlt,Option.getD_some,HM2.out,HND3.out]
       have HOK:=Hd hok;have HK:∀W,Calls prog 164 #[.agg #[.int .u8 D.kind,strV D.text,intV D.n,.slice (some ⟨bk,ok,none⟩) D.kids.length kc,intV D.pos],intV k,.int .u8 t.nodes[m].kind] W (zn W (kidK D.kind D.kids.length k t.nodes[m].kind)):=fun W=>GU D (some ⟨bk,ok,none⟩) kc k _ W hkl;have HKC:=Hd HK;have hsn:∀x,mF t D k=x→((List.range (k+1)).all fun j=>mF t D j)=x:=by intro x hx;rw[List.range_succ,List.all_append,HL.out];simp[hx]
       have HSN:=Hd hsn;clear hk1 hk2 hm hok HK hsn;go_wp2;generalize hWW:wr=WW at *;go_region;have hbn:Below (w.heap.size+1+1) (boxD (boxT w ⟨some ⟨b,o,none⟩,nc,ia,ic⟩ t) (some ⟨bk,ok,none⟩) kc D) ((WW.alloc (.cells #[.int .u8 t.nodes[m].kind,strV t.nodes[m].text,intV t.nodes[m].n,.slice ka' t.nodes[m].kids.length kc',intV t.nodes[m].pos] 52)).drew):=((HB7.out.alloc hs7 _).drew)
       have HLT:=Hd hlt
       cases hkk:kidK D.kind D.kids.length k t.nodes[m].kind with
       | false=>
         have HKK:=Hd hkk;clear hkk
         go_wp2_with (go_at_call 164;refine(HKC.out _).mono ?_;rw[HKK.out];rintro e w8 ⟨rfl,hb8⟩;have hb9:=hbn.trans (hb8.mono (by simp;omega));obtain⟨-,⟨d80,d81,d82,d83⟩,-,⟨hs8,hs81,hs82,hs83⟩,hbw8⟩:=aF (v:=⟨some ⟨b,o,none⟩,nc,ia,ic⟩) (ka:=some ⟨bk,ok,none⟩) (kc:=kc) (d:=D) (t:=t) (w:=w) (wr:=w8) hb9 HT.out;obtain⟨hc8,hf8⟩:=bcell hb8)
         go_ret;exact⟨za (by rw[cB,HND.out,HOKS.out,uJ HLT.out (by rw[HOK.out];simp[HKK.out])];rfl),hbw8⟩
       | true=>
         have HKK:=Hd hkk;clear hkk
         cases h1:t.nodes[m].kind==1 with
         | false=>
           have H1:=Hd h1
           go_wp2_with (go_at_call 164;refine(HKC.out _).mono ?_;rw[HKK.out];rintro e w8 ⟨rfl,hb8⟩;have hb9:=hbn.trans (hb8.mono (by simp;omega));obtain⟨-,⟨d80,d81,d82,d83⟩,-,⟨hs8,hs81,hs82,hs83⟩,hbw8⟩:=aF (v:=⟨some ⟨b,o,none⟩,nc,ia,ic⟩) (ka:=some ⟨bk,ok,none⟩) (kc:=kc) (d:=D) (t:=t) (w:=w) (wr:=w8) hb9 HT.out;obtain⟨hc8,hf8⟩:=bcell hb8)
           go_roundw
           case rel=>exact⟨k+1,by go_num,by omega,Hd (HSN.out true (by rw[HOK.out];simp[HKK.out,H1.out])),Hd hb9⟩
           case measure=>simp[intOf];omega
         | true=>
           have H1:=Hd h1;cases hng:decide (t.nodes[m].n<0)with
           | false=>
             have HNG:=Hd hng
             go_wp2_with (go_at_call 164;refine(HKC.out _).mono ?_;rw[HKK.out];rintro e w8 ⟨rfl,hb8⟩;have hb9:=hbn.trans (hb8.mono (by simp;omega));obtain⟨-,⟨d80,d81,d82,d83⟩,-,⟨hs8,hs81,hs82,hs83⟩,hbw8⟩:=aF (v:=⟨some ⟨b,o,none⟩,nc,ia,ic⟩) (ka:=some ⟨bk,ok,none⟩) (kc:=kc) (d:=D) (t:=t) (w:=w) (wr:=w8) hb9 HT.out;obtain⟨hc8,hf8⟩:=bcell hb8)
             go_roundw
             case rel=>exact⟨k+1,by go_num,by omega,Hd (HSN.out true (by rw[HOK.out];simp[HKK.out,H1.out,HNG.out])),Hd hb9⟩
             case measure=>simp[intOf];omega
           | true=>
             have HNG:=Hd hng
             cases h40:D.kind != 40 with
             | false=>
               have H40:=Hd h40
               go_wp2_with (go_at_call 164;refine(HKC.out _).mono ?_;rw[HKK.out];rintro e w8 ⟨rfl,hb8⟩;have hb9:=hbn.trans (hb8.mono (by simp;omega));obtain⟨-,⟨d80,d81,d82,d83⟩,-,⟨hs8,hs81,hs82,hs83⟩,hbw8⟩:=aF (v:=⟨some ⟨b,o,none⟩,nc,ia,ic⟩) (ka:=some ⟨bk,ok,none⟩) (kc:=kc) (d:=D) (t:=t) (w:=w) (wr:=w8) hb9 HT.out;obtain⟨hc8,hf8⟩:=bcell hb8)
               go_roundw
               case rel=>exact⟨k+1,by go_num,by omega,Hd (HSN.out true (by rw[HOK.out];simp[HKK.out,H1.out,HNG.out,H40.out])),Hd hb9⟩
               case measure=>simp[intOf];omega
             | true=>
               have H40:=Hd h40
               go_wp2_with (go_at_call 164;refine(HKC.out _).mono ?_;rw[HKK.out];rintro e w8 ⟨rfl,hb8⟩;have hb9:=hbn.trans (hb8.mono (by simp;omega));obtain⟨-,⟨d80,d81,d82,d83⟩,-,⟨hs8,hs81,hs82,hs83⟩,hbw8⟩:=aF (v:=⟨some ⟨b,o,none⟩,nc,ia,ic⟩) (ka:=some ⟨bk,ok,none⟩) (kc:=kc) (d:=D) (t:=t) (w:=w) (wr:=w8) hb9 HT.out;obtain⟨hc8,hf8⟩:=bcell hb8)
               go_ret;exact⟨za (by rw[cB,HND.out,HOKS.out,uJ HLT.out (by rw[HOK.out];simp[HKK.out,H1.out,HNG.out,H40.out])];rfl),hbw8⟩
      ·obtain rfl:k=D.kids.length:=by omega
       go_wp2;go_ret;exact⟨za (by rw[cB,HND.out,HOKS.out,lB,HL.out];rfl),hbw7⟩
def maxL(l:List Int):Int:=l.foldl max 0
theorem lE{l:List Int}{k:Nat}(h:k<l.length):maxL (l.take (k+1))=max (maxL (l.take k)) l[k]:=by
 rw[List.take_succ_eq_append_getElem h,maxL,List.foldl_append];rfl
def aV(t:Tr):Int:=maxL (eA t)
theorem mO(v:TreeV)(t:Tr)(w:World)(bd:Bd t)(hkid:∀i,i<t.nodes.length→∀k∈(t.nd i).kids,0≤k∧k<(i:Int))(h:IsTree w v t) :
 Calls prog 90 #[v.val t] w (cW w (aV t)):=by
 have HT:=Hd h;have BD:=Hd bd;have HKID:=Hd hkid;obtain⟨L,hL⟩:∃L,L=eA t:=⟨_,rfl⟩
 have hll:L.length≤1000000:=by rw[hL,eA,bX];exact bd.n
 have HL:=Hd hL;clear h bd hkid hL;unfold TreeV.val;go_enter func90,ntmps90
 go_wp2_with (go_at_call 125;refine(vR v t _ BD.out HKID.out (HT.out.mono ((Below.refl _ w).alloc nlr _) nlr)).mono ?_;rw[←HL.out];rintro e w' ⟨a1,c1,rfl,hown,hb'⟩)
 have HR:=Hd (zq hown);have HB:=Hd (boxT_below.trans (hb'.mono (by simp)):Below w.heap.size w w');clear hown hb'
 go_loop [3,5] (fun t3 t5=>∃(k:Nat) (x:Int),t5=.int .i64 k∧k≤L.length∧t3=intV x∧Hid (x=maxL (L.take k))) (fun _ i=>L.length-(intOf i).toNat)
 case atStart=>exact⟨0,0,rfl,Nat.zero_le _,rfl,Hd rfl⟩
 case round=>
  obtain⟨k,x,rfl,hk,rfl,HX⟩:=hrel;by_cases hlt:k<L.length
  ·obtain⟨b,o,rfl,hb,hc⟩:=Ints.at HR.out hlt
   obtain⟨y,hy⟩:∃y,y=L[k]:=⟨_,rfl⟩
   rw[←hy]at hc;have HY:=Hd hy;have HS:=Hd (lE hlt);clear hy;by_cases hxy:x≤y
   ·have HXY:=Hd hxy
    go_wp2
    all_goals
     go_round
     case rel=>exact⟨k+1,y,by go_num,by omega,by first|rfl|(have:=HXY.out;go_num),Hd (by rw[HS.out,←HX.out,←HY.out];have:=HXY.out;omega)⟩
     case measure=>simp[intOf];omega
   ·have HXY:=Hd hxy
    go_wp2
    all_goals
     go_round
     case rel=>exact⟨k+1,x,by go_num,by omega,by first|rfl|(have:=HXY.out;go_num),Hd (by rw[HS.out,←HX.out,←HY.out];have:=HXY.out;omega)⟩
     case measure=>simp[intOf];omega
  ·obtain rfl:k=L.length:=by omega
   go_wp2;go_ret;refine⟨zr ?_,HB.out⟩;rw[aV,←HL.out];have:=HX.out;rw[List.take_length]at this;exact this
def iU(t:Tr)(i:Nat):Bool:=
 if (t.nd i).kind==40 then decide ((t.nd ((t.nd i).kids.getD 0 0)).n≤(t.nd ((t.nd i).kids.getD 1 0)).n)&&decide ((t.nd ((t.nd i).kids.getD 1 0)).n-(t.nd ((t.nd i).kids.getD 0 0)).n+1≤12)
 else if (t.nd i).kind==41 then decide (((t.nd i).kids.length:Int)≤6)
 else if (t.nd i).kind==42 then decide (((t.nd i).kids.length:Int)-2≤4)&&decide ((t.nd i).n≤8)
 else if (t.nd i).kind==33 then decide (1≤(t.nd i).n)&&decide ((t.nd i).n≤6)
 else if (t.nd i).kind==26 then decide (((t.nd i).kids.length:Int)≤6)
 else if (t.nd i).kind==46 then decide (((t.nd i).kids.length:Int)≤4)
 else true
theorem qM(v:TreeV)(t:Tr)(i:Nat)(w:World)(bd:Bd t)(hi:i<t.nodes.length)
 (hc:(t.nd i).kind=40→∃k0 k1:Nat,k0<t.nodes.length∧k1<t.nodes.length∧(t.nd i).kids=[(k0:Int),(k1:Int)] ∧ -9999≤(t.nd k0).n∧(t.nd k0).n≤9999 ∧ -9999≤(t.nd k1).n∧(t.nd k1).n≤9999)(h:IsTree w v t) :
 Calls prog 91 #[v.val t,intV i] w (zn w (iU t i)):=by
 have hmo:prog.follows .mixedOrders=true:=by kernel_rfl
 have HT:=Hd h;have hn3:=bd.n;have hkl:=bd.k _ (List.getElem_mem hi);obtain⟨b,o,ka,kc,ea,hb,c0,c1,c2,c3,c4,hkr⟩:=HT.out.nodes.at hi;obtain⟨na,nc,ia,ic⟩:=v;simp only at ea;subst ea;obtain⟨D,hD⟩:∃D,D=t.nodes[i]:=⟨_,rfl⟩
 have hnd:=t.nd_at hi;rw[←hD]at c0 c1 c2 c3 c4 hkr hkl hnd;rw[hnd]at hc;have HND:=Hd hnd;have HC:=Hd hc;have HKR:=Hd hkr;have hb1:b<w.heap.size+1:=by omega
 have hb2:b<w.heap.size+1+1:=by omega
 clear h bd hD hnd hkr hc;unfold TreeV.val;by_cases h40:D.kind=40
 ·obtain⟨k0,k1,hk0,hk1,hks,hx0,hx1,hy0,hy1⟩:=HC.out h40
  have hlen:D.kids.length=2:=by rw[hks];rfl
  obtain⟨bk,ok,rfl,hbk,ck0⟩:=Ints.at HKR.out (i:=0) (by omega);obtain⟨bk',ok',ek,-,ck1⟩:=Ints.at HKR.out (i:=1) (by omega);simp only[Option.some.injEq,Addr.mk.injEq,and_true]at ek;obtain⟨rfl,rfl⟩:=ek;simp only[hks,List.getElem_cons_zero,List.getElem_cons_succ,Nat.add_zero]at ck0 ck1;obtain⟨p0,q0,_,_,e0,hp0,-,-,f0,-,-,-⟩:=HT.out.nodes.at hk0;obtain⟨p1,q1,_,_,e1,hp1,-,-,f1,-,-,-⟩:=HT.out.nodes.at hk1;simp only[Option.some.injEq,Addr.mk.injEq,and_true]at e0 e1;obtain⟨rfl,rfl⟩:=e0;obtain⟨e1a,e1b⟩:=e1;subst e1a;subst e1b;rw[t.nd_at hk0]at hx0 hx1;rw[t.nd_at hk1]at hy0 hy1;obtain⟨x,hx⟩:∃x,x=t.nodes[k0].n:=⟨_,rfl⟩
  obtain⟨y,hy⟩:∃y,y=t.nodes[k1].n:=⟨_,rfl⟩
  rw[←hx]at f0 hx0 hx1;rw[←hy]at f1 hy0 hy1
  have hs:iU t i=(decide (x≤y)&&decide (y-x+1≤12)):=by
   rw[iU,HND.out,h40,hks];simp[t.nd_at hk0,t.nd_at hk1,←hx,←hy]
  have HS:=Hd hs;have h40':(D.kind==40)=true:=by simpa using h40
  have hbk1:bk<w.heap.size+1:=by omega
  have hbk2:bk<w.heap.size+1+1:=by omega
  rw[hlen]at c3;clear hx hy hs hks h40;by_cases hxy:x≤y
  ·have HXY:=Hd hxy
   go_enter func91,ntmps91;go_wp2
   go_quiet (fail)
   go_wp2;go_ret;refine⟨za ?_,below_drewN (((Below.refl _ w).alloc nlr _).alloc (by simp) _) _⟩;rw[HS.out];have:=HXY.out;simp[this]
  ·have HXY:=Hd hxy
   have hxy':decide (x≤y)=false:=decide_eq_false hxy;go_enter func91,ntmps91;go_wp2
   go_quiet (fail)
   go_wp2;go_ret;refine⟨za ?_,below_drewN (((Below.refl _ w).alloc nlr _).alloc (by simp) _) _⟩;rw[HS.out];have h2:decide (x≤y)=false:=decide_eq_false (by have:=HXY.out;omega);rw[h2];rfl
 ·have h40':(D.kind==40)=false:=by simpa using h40
  have hs:iU t i=if D.kind==41 then decide ((D.kids.length:Int)≤6)else if D.kind==42 then decide ((D.kids.length:Int)-2≤4)&&decide (D.n≤8)else if D.kind==33 then decide (1≤D.n)&&decide (D.n≤6)else if D.kind==26 then decide ((D.kids.length:Int)≤6)else if D.kind==46 then decide ((D.kids.length:Int)≤4)else true:=by
   rw[iU,HND.out,h40'];rfl
  have HS:=Hd hs;obtain⟨k,hk⟩:∃k,k=D.kind:=⟨_,rfl⟩
  obtain⟨n,hn⟩:∃n,n=D.n:=⟨_,rfl⟩
  rw[←hk,←hn]at hs;rw[←hk]at c0 h40';rw[←hn]at c2;have HS:=Hd hs;clear hs hk hn h40;go_enter func91,ntmps91;go_wp2
  all_goals
   go_ret;refine⟨za ?_,(((Below.refl _ w).alloc nlr _).alloc (by simp) _)⟩;rw[HS.out]
   (try simp_all)<;>(try omega)
def eatI(t:Tr)(sizes:List Int):List Int→Int→Bool
 | [],p=>p == -1
 |k::r,p=>if decide (p<0)||k != p || !dH (t.nd p).kind then false else eatI t sizes r (p-sizes.getD p.toNat 0)
def kE(t:Tr):Bool:=(List.range t.nodes.length).all fun i=>cB t i
def eD(t:Tr):Bool:=(dB t).length==t.nodes.length&&(kE t&&eatI t (dB t) t.items.reverse ((t.nodes.length:Int)-1))
theorem FO{t:Tr}{k:Nat}(hk:k<t.nodes.length)(h:cB t k=false):kE t=false:=by
 rw[kE,Bool.eq_false_iff];intro ha;have:=List.all_eq_true.1 ha k (List.mem_range.2 hk);rw[h]at this;cases this
theorem jS{p:Nat→Bool}{k:Nat}(h:((List.range k).all p)=true)(hp:p k=true):((List.range (k+1)).all p)=true:=by
 rw[List.range_succ,List.all_append,h];simp[hp]
theorem gV{t:Tr}(h:(dB t).length=t.nodes.length):zC t t.nodes.length=some (dB t):=by
 unfold dB at *
 cases hx:zC t t.nodes.length with
 |some o=>rfl
 | none=>
   rw[hx]at h;have h0:t.nodes.length=0:=by simpa using h.symm
   rw[h0]at hx;cases hx
theorem nS(v:TreeV)(t:Tr)(w:World)(bd:Bd t)(h:IsTree w v t) :
 Calls prog 89 #[v.val t] w (zn w (eD t)):=by
 have HT:=Hd h;have BD:=Hd bd;have hn3:=bd.n;have hi3:=bd.i;obtain⟨L,hL⟩:∃L,L=dB t:=⟨_,rfl⟩
 have HL:=Hd hL
 have hll:L.length≤t.nodes.length:=by
  rw[hL,dB]
  cases hx:zC t t.nodes.length with
  |none=>simp
  |some o=>rw[Option.getD_some,aD _ _ hx];exact nlr
 clear h bd hL;unfold TreeV.val;by_cases hlen:L.length=t.nodes.length
 ·have hlb:((L.length:Int) != (t.nodes.length:Int))=false:=by simp[hlen]
  have HLEN:=Hd hlen;have hso:zC t t.nodes.length=some L:=by rw[HL.out];exact gV (by rw[←HL.out];exact hlen)
  have HSO:=Hd hso;have hfm:eD t=(kE t&&eatI t L t.items.reverse ((t.nodes.length:Int)-1)):=by rw[eD,←HL.out,HLEN.out];simp
  have HFM:=Hd hfm;have hll2:t.nodes.length≤L.length:=by omega
  clear hlen hso hfm;go_enter func89,ntmps89
  go_wp2_with (go_at_call 122;refine(qN v t _ BD.out (HT.out.mono ((Below.refl _ w).alloc nlr _) nlr)).mono ?_;rw[←HL.out];rintro e w' ⟨a1,c1,rfl,hown,hb'⟩;have HB1:=Hd (by simpa using hb':Below (w.heap.size+1) (boxT w v t) w');obtain⟨b0,b1,-,⟨hs,hs1,hs2⟩,hbw⟩:=boxed HB1.out HT.out)
  have HR:=Hd (zq hown);clear hown hb' b0 b1
  go_loopw [4] (fun t4 wr=>∃k:Nat,t4=.int .i64 k∧k≤t.nodes.length∧Hid (((List.range k).all fun i=>cB t i)=true)∧Hid (Below w'.heap.size w' wr)) (fun i _=>t.nodes.length-(intOf i).toNat)
  case atStart=>exact⟨0,rfl,Nat.zero_le _,Hd rfl,Hd brf⟩
  case round=>
   obtain⟨k,rfl,hk,HK,HB⟩:=hrel;have HB2:=Hd (HB1.out.trans (HB.out.mono (by omega)):Below (w.heap.size+1) (boxT w v t) wr);obtain⟨b0,b1,-,⟨hs3,hs4,hs5⟩,hbw3⟩:=boxed HB2.out HT.out;by_cases hlt:k<t.nodes.length
   ·have hki:∀x∈t.nodes[k].kids,0≤x∧x<(t.nodes.length:Int):=by
     intro x hx;have:=nA (t:=t) (n:=t.nodes.length) (i:=k) (by rw[HSO.out];rfl) hlt x (by rw[t.nd_at hlt];exact hx);omega
    have HKI:=Hd hki;clear hki
    cases hr:cB t k with
    | false=>
      have HRR:=Hd hr;have HLT:=Hd hlt;clear hr
      go_wp2_with (go_at_call 123;refine(qL v t k _ BD.out HLT.out HKI.out (HT.out.mono hbw3 nlr)).mono ?_;rw[HRR.out];rintro e w2 ⟨rfl,hb2⟩)
      go_ret;exact⟨za (by rw[HFM.out,FO HLT.out HRR.out];rfl),hbw3.trans (hb2.mono (by omega))⟩
    | true=>
      have HRR:=Hd hr;have HLT:=Hd hlt;clear hr
      go_wp2_with (go_at_call 123;refine(qL v t k _ BD.out HLT.out HKI.out (HT.out.mono hbw3 nlr)).mono ?_;rw[HRR.out];rintro e w2 ⟨rfl,hb2⟩)
      go_roundw
      case rel=>exact⟨k+1,by go_num,by omega,Hd (jS HK.out HRR.out),Hd (HB.out.trans (hb2.mono HB.out.size))⟩
      case measure=>simp[intOf];omega
   ·obtain rfl:k=t.nodes.length:=by omega
    have HFM2:Hid (eD t=eatI t L t.items.reverse ((t.nodes.length:Int)-1)):=Hd (by rw[HFM.out,kE,HK.out];rfl);have HR3:=Hd (Row.mono HR.out HB.out nlr);obtain⟨hcw,hfw⟩:=bcell hbw3;go_wp2
    go_loop [5,6] (fun t5 t6=>∃(p k:Int),t5=intV p∧t6=intV k ∧ -1≤p∧p<t.nodes.length ∧ -1≤k∧k<t.items.length∧Hid (eD t=eatI t L (t.items.take (k+1).toNat).reverse p)) (fun _ k=>(intOf k+1).toNat)
    case atStart=>exact⟨(t.nodes.length:Int)-1,(t.items.length:Int)-1,by go_num,by go_num,by omega,by omega,by omega,by omega,Hd (by rw[HFM2.out,show((t.items.length:Int)-1+1).toNat=t.items.length by omega,List.take_length])⟩
    case round=>
     obtain⟨p,k,rfl,rfl,hp1,hp2,hk1,hk2,HE⟩:=hrel;by_cases hk0:0≤k
     ·obtain⟨j,rfl⟩:=Int.eq_ofNat_of_zero_le hk0
      have hj:j<t.items.length:=by omega
      obtain⟨bk,ok,eak,hbk,ck⟩:=Ints.at HT.out.items hj;have HX:Hid (eD t=if decide (p<0)||t.items[j] != p || !dH (t.nd p).kind then false else eatI t L (t.items.take j).reverse (p-L.getD p.toNat 0)):=Hd (by rw[HE.out,show((j:Int)+1).toNat=j+1 by omega,yU hj,eatI]);obtain⟨na,nc,ia,ic⟩:=v;simp only at eak b0 b1;subst eak;have hbk2:bk<wr.heap.size:=by omega
      clear HE;by_cases hp0:p<0
      ·have HP:=Hd hp0
       go_wp2;go_ret;exact⟨za (by rw[HX.out];simp[HP.out]),hbw3⟩
      ·have hdp:decide (p<0)=false:=decide_eq_false hp0
       have HDP:=Hd hdp
       cases hne:t.items[j] != p with
       | true=>
         have HNE:=Hd hne;go_wp2;go_ret;exact⟨za (by rw[HX.out,HDP.out,HNE.out];rfl),hbw3⟩
       | false=>
         have HNE:=Hd hne;obtain⟨pp,rfl⟩:=Int.eq_ofNat_of_zero_le (show 0≤p by omega);have hpl:pp<t.nodes.length:=by omega
         obtain⟨bn,on,_,_,ean,hbn,f0,-,-,-,-,-⟩:=HT.out.nodes.at hpl;simp only at ean;subst ean;have hbn2:bn<wr.heap.size:=by omega
         have HND:=Hd (t.nd_at hpl);have hI:∀W,Calls prog 124 #[.int .u8 t.nodes[pp].kind] W fun e w'=>e=.returned (.bool (dH t.nodes[pp].kind))∧W=w':=fun W=>nU _ W;have HI:=Hd hI;clear hI
         cases hit:dH t.nodes[pp].kind with
         | false=>
           have HIT:=Hd hit;clear hit
           go_wp2_with (go_at_call 124;refine(HI.out _).mono ?_;rw[HIT.out];rintro e w2 ⟨rfl,rfl⟩)
           go_ret;exact⟨za (by rw[HX.out,HDP.out,HNE.out,HND.out,HIT.out];rfl),hbw3⟩
         | true=>
           have HIT:=Hd hit;clear hit;obtain⟨bq,oq,rfl,hbq,cq⟩:=Ints.at HR3.out (i:=pp) (by omega);have hqb:=bI _ _ HSO.out pp hpl;have hqg:L.getD pp 0=L[pp]:=by rw[List.getD_eq_getElem?_getD,List.getElem?_eq_getElem (by omega),Option.getD_some]
           rw[hqg]at hqb;have hq1:=hqb.1;have hq2:=hqb.2;have HQG:=Hd hqg;clear hqb hqg
           go_wp2_with (go_at_call 124;refine(HI.out _).mono ?_;rw[HIT.out];rintro e w2 ⟨rfl,rfl⟩)
           go_round
           case rel=>exact⟨(pp:Int)-L[pp],(j:Int)-1,by go_num,by go_num,by omega,by omega,by omega,by omega,Hd (by rw[HX.out,HDP.out,HNE.out,HND.out,HIT.out,if_neg (by simp),show((j:Int)-1+1).toNat=j by omega,Int.toNat_natCast,HQG.out])⟩
           case measure=>simp[intOf];try omega
     ·have hk:k = -1:=by omega
      subst hk;go_wp2;go_ret;exact⟨za (by rw[HE.out];rfl),hbw3⟩
 ·have hlb:((L.length:Int) != (t.nodes.length:Int))=true:=by simp;omega
  have HLEN:=Hd hlen;clear hlen;go_enter func89,ntmps89
  go_wp2_with (go_at_call 122;refine(qN v t _ BD.out (HT.out.mono ((Below.refl _ w).alloc nlr _) nlr)).mono ?_;rw[←HL.out];rintro e w' ⟨a1,c1,rfl,hown,hb'⟩;have HB1:=Hd (by simpa using hb':Below (w.heap.size+1) (boxT w v t) w');obtain⟨b0,b1,-,⟨hs,hs1,hs2⟩,hbw⟩:=boxed HB1.out HT.out)
  go_ret;exact⟨za (by rw[eD,←HL.out];simp[HLEN.out]),hbw⟩
def gT(t:Tr):Bool:=(List.range t.nodes.length).all fun i=>iU t i
def aU(t:Tr):Int:=if 800<t.nodes.length∨60<t.items.length then 5 else if eD t then (if 30<aV t then 5 else if gT t then 0 else 3)else 4
theorem wY{t:Tr}(h:eD t=true):zC t t.nodes.length=some (dB t):=by
 simp only[eD,Bool.and_eq_true,beq_iff_eq]at h;exact gV h.1
theorem oT{t:Tr}(h:eD t=true){i:Nat}(hi:i<t.nodes.length):cB t i=true:=by
 simp only[eD,Bool.and_eq_true]at h;exact List.all_eq_true.1 h.2.1 i (List.mem_range.2 hi)
theorem rH{t:Tr}(h:eD t=true){i:Nat}(hi:i<t.nodes.length):∀k∈(t.nd i).kids,0≤k∧k<(i:Int):=
 nA (n:=t.nodes.length) (by rw[wY h];rfl) hi
theorem pS{t:Tr}{i:Nat}(h:cB t i=true):okK (t.nd i).kind=true∧dX (t.nd i).kind=zQ (t.nd i).text∧(dX (t.nd i).kind=true∨(t.nd i).text=[])∧zO (t.nd i).kind (t.nd i).n (t.nd i).kids.length=true∧zw (t.nd i).kind (t.nd i).n=true∧0≤(t.nd i).pos∧(t.nd i).pos≤2000 ∧
 ∀j,j<(t.nd i).kids.length→mF t (t.nd i) j=true:=by
 simp only[cB,Bool.and_eq_true,beq_iff_eq,Bool.or_eq_true,decide_eq_true_eq]at h;obtain⟨⟨⟨⟨⟨⟨⟨h1,h2⟩,h3⟩,h4⟩,h5⟩,h6⟩,h7⟩,h8⟩:=h;exact⟨h1,h2,h3,h4,h5,h6,h7,fun j hj=>List.all_eq_true.1 h8 j (List.mem_range.2 hj)⟩
theorem oU{t:Tr}(h:eD t=true){i:Nat}(hi:i<t.nodes.length)(hk:(t.nd i).kind=40) :
 ∃k0 k1:Nat,k0<t.nodes.length∧k1<t.nodes.length∧(t.nd i).kids=[(k0:Int),(k1:Int)] ∧ -9999≤(t.nd k0).n∧(t.nd k0).n≤9999 ∧ -9999≤(t.nd k1).n∧(t.nd k1).n≤9999:=by
 obtain⟨_,_,_,hm,_,_,_,ho⟩:=pS (oT h hi);have hkid:=rH h hi;rw[hk]at hm;have hl':((t.nd i).kids.length:Int)=2:=by simpa[zO]using hm
 have hl:(t.nd i).kids.length=2:=by omega
 obtain⟨a,b,hab⟩:∃a b,(t.nd i).kids=[a,b]:=by
  match hx:(t.nd i).kids with
  | [a,b]=>exact⟨a,b,rfl⟩
  | []=>rw[hx]at hl;simp at hl
  | [_]=>rw[hx]at hl;simp at hl
  |_::_::_::_=>rw[hx]at hl;simp at hl
 rw[hab]at hkid;have ha:=hkid a (by simp);have hb:=hkid b (by simp);obtain⟨k0,rfl⟩:=Int.eq_ofNat_of_zero_le ha.1;obtain⟨k1,rfl⟩:=Int.eq_ofNat_of_zero_le hb.1
 have num:∀(k:Nat) (j:Nat),k<i→j<2→(t.nd i).kids.getD j 0=(k:Int) → -9999≤(t.nd k).n∧(t.nd k).n≤9999:=by
  intro k j hki hj he;have h1:=ho j (by omega);simp only[mF,he,Bool.and_eq_true,hk]at h1;have hkind:(t.nd k).kind=1:=by simpa[kidK]using h1.1
  obtain⟨_,_,_,_,hn,_⟩:=pS (oT h (show k<t.nodes.length by omega));rw[hkind]at hn;simpa[zw]using hn
 have n0:=num k0 0 (by omega) (by omega) (by rw[hab];rfl);have n1:=num k1 1 (by omega) (by omega) (by rw[hab];rfl);exact⟨k0,k1,by omega,by omega,hab,n0.1,n0.2,n1.1,n1.2⟩
theorem qJ(v:TreeV)(t:Tr)(w:World)(bd:Bd t)(h:IsTree w v t) :
 Calls prog 52 #[v.val t] w (cW w (aU t)):=by
 have HT:=Hd h;have BD:=Hd bd;have hn3:=bd.n;have hi3:=bd.i;clear h bd;unfold TreeV.val;by_cases hlim:800<t.nodes.length∨60<t.items.length
 ·have hc:aU t=5:=if_pos hlim
  have HC:=Hd hc;clear hc;by_cases h800:800<t.nodes.length
  ·clear hlim
   go_enter func52,ntmps52;go_wp2;go_ret;exact⟨zr HC.out.symm,(Below.refl _ w).alloc nlr _⟩
  ·have h60:60<t.items.length:=by omega
   have h8:decide (800<t.nodes.length)=false:=decide_eq_false h800;clear hlim;go_enter func52,ntmps52;go_wp2;go_ret;exact⟨zr HC.out.symm,(Below.refl _ w).alloc nlr _⟩
 ·have h8':¬800<t.nodes.length:=by omega
  have h6':¬60<t.items.length:=by omega
  have h8:decide (800<t.nodes.length)=false:=decide_eq_false h8';have h6:decide (60<t.items.length)=false:=decide_eq_false h6';have HC:Hid (aU t=if eD t then (if 30<aV t then 5 else if gT t then 0 else 3)else 4):=Hd (if_neg hlim);clear hlim
  cases hf:eD t with
  | false=>
    have HF:=Hd hf;clear hf;go_enter func52,ntmps52
    go_wp2_with (go_at_call 89;refine(nS v t _ BD.out (HT.out.mono ((Below.refl _ w).alloc nlr _) nlr)).mono ?_;rw[HF.out];rintro e w1 ⟨rfl,hb1⟩)
    go_ret;exact⟨zr (by rw[HC.out,HF.out];rfl),((Below.refl _ w).alloc nlr _).trans (hb1.mono (by simp))⟩
  | true=>
    have HF:=Hd hf;have HKID:=Hd (fun i hi=>rH hf (i:=i) hi);have HCH:=Hd (fun i hi=>oU hf (i:=i) hi);clear hf;obtain⟨dp,hdp⟩:∃dp,dp=aV t:=⟨_,rfl⟩
    have HDP:=Hd hdp;clear hdp;by_cases h30:30<dp
    ·have H30:=Hd h30
     go_enter func52,ntmps52
     go_wp2_with (first
      | (go_at_call 89;refine(nS v t _ BD.out (HT.out.mono ((Below.refl _ w).alloc nlr _) nlr)).mono ?_;rw[HF.out];rintro e w1 ⟨rfl,hb1⟩;have HB1:=Hd (by simpa using hb1:Below (w.heap.size+1) (boxT w v t) w1);obtain⟨b0,b1,-,⟨hs,hs1,hs2⟩,hbw⟩:=boxed HB1.out HT.out)
      | (go_at_call 90;refine(mO v t _ BD.out HKID.out (HT.out.mono hbw nlr)).mono ?_;rw[←HDP.out];rintro e w2 ⟨rfl,hb2⟩))
     go_ret;exact⟨zr (by rw[HC.out,HF.out,if_pos rfl,←HDP.out,if_pos H30.out]),hbw.trans (hb2.mono (by omega))⟩
    ·have H30:=Hd h30
     have HC2:Hid (aU t=if gT t then 0 else 3):=Hd (by rw[HC.out,HF.out,if_pos rfl,←HDP.out,if_neg H30.out]);clear HC;go_enter func52,ntmps52
     go_wp2_with (first
      | (go_at_call 89;refine(nS v t _ BD.out (HT.out.mono ((Below.refl _ w).alloc nlr _) nlr)).mono ?_;rw[HF.out];rintro e w1 ⟨rfl,hb1⟩;have HB1:=Hd (by simpa using hb1:Below (w.heap.size+1) (boxT w v t) w1);obtain⟨b0,b1,-,⟨hs,hs1,hs2⟩,hbw⟩:=boxed HB1.out HT.out)
      | (go_at_call 90;refine(mO v t _ BD.out HKID.out (HT.out.mono hbw nlr)).mono ?_;rw[←HDP.out];rintro e w2 ⟨rfl,hb2⟩;have HB2:=Hd (HB1.out.trans (hb2.mono (by omega)):Below (w.heap.size+1) (boxT w v t) w2);clear b0 b1))
     go_loopw [3] (fun t3 wr=>∃k:Nat,t3=.int .i64 k∧k≤t.nodes.length∧Hid (((List.range k).all fun i=>iU t i)=true)∧Hid (Below (w.heap.size+1) (boxT w v t) wr)) (fun i _=>t.nodes.length-(intOf i).toNat)
     case atStart=>exact⟨0,rfl,Nat.zero_le _,Hd rfl,HB2⟩
     case round=>
      obtain⟨k,rfl,hk,HK,HB⟩:=hrel;obtain⟨b0,b1,-,⟨hs3,hs4,hs5⟩,hbw3⟩:=boxed HB.out HT.out;by_cases hlt:k<t.nodes.length
      ·have HLT:=Hd hlt
       cases hr:iU t k with
       | false=>
         have HRR:=Hd hr
         have hno:gT t=false:=by
          rw[gT,Bool.eq_false_iff];intro ha;have:=List.all_eq_true.1 ha k (List.mem_range.2 hlt);rw[hr]at this;cases this
         have HNO:=Hd hno;clear hr hno
         go_wp2_with (go_at_call 91;refine(qM v t k _ BD.out HLT.out (fun h40=>HCH.out k HLT.out h40) (HT.out.mono hbw3 nlr)).mono ?_;rw[HRR.out];rintro e w4 ⟨rfl,hb4⟩)
         go_ret;exact⟨zr (by rw[HC2.out,HNO.out];rfl),hbw3.trans (hb4.mono (by omega))⟩
       | true=>
         have HRR:=Hd hr;clear hr
         go_wp2_with (go_at_call 91;refine(qM v t k _ BD.out HLT.out (fun h40=>HCH.out k HLT.out h40) (HT.out.mono hbw3 nlr)).mono ?_;rw[HRR.out];rintro e w4 ⟨rfl,hb4⟩)
         go_roundw
         case rel=>exact⟨k+1,by go_num,by omega,Hd (jS HK.out HRR.out),Hd (HB.out.trans (hb4.mono (by omega)))⟩
         case measure=>simp[intOf];omega
      ·obtain rfl:k=t.nodes.length:=by omega
       go_wp2;go_ret;exact⟨zr (by rw[HC2.out,gT,HK.out];rfl),hbw3⟩
end
section
open Go.RowKit
structure Placed (t:Tr) (S:List Int):Prop where
 bd:∀j,j<t.nodes.length→1≤S.getD j 0∧S.getD j 0≤j+1
 eat:∀i,i<t.nodes.length→eatK S (t.nd i).kids.reverse ((i:Int)-1)=some ((i:Int)-S.getD i 0)
theorem mA{o o':List Int}{m:Nat}(h:∀j,j<m→o.getD j 0=o'.getD j 0)(hb:∀j,j<m→1≤o.getD j 0):∀(l:List Int) (p:Int),p<m→eatK o l p=eatK o' l p
 | [],p,_=>rfl
 | k::l,p,hp=>by
   simp only[eatK];by_cases hc:(k != p||decide (p<0))=true
   ·rw[if_pos hc,if_pos hc]
   ·rw[if_neg hc,if_neg hc]
    simp only[Bool.or_eq_true,bne_iff_ne,ne_eq,decide_eq_true_eq,not_or,Classical.not_not]at hc;rw[←h p.toNat (by omega)];have:=hb p.toNat (by omega);exact mA h hb l _ (by omega)
theorem iV{t:Tr}{n:Nat}{S:List Int}(h:zC t n=some S):∀i,i≤n→zC t i=some (S.take i):=by
 induction n generalizing S with
 | zero => intro i hi;obtain rfl:i=0:=by omega
           simp[zC]
 | succ n ih=>
   intro i hi;have hl:=aD _ _ h;by_cases e:i=n+1
   ·subst e;rw[h,List.take_of_length_le (by omega)]
   ·have h':=h
    simp only[zC,Option.bind_eq_some_iff,Option.map_eq_some_iff]at h';obtain⟨o,h1,p,h2,rfl⟩:=h';rw[ih h1 i (by omega),List.take_append_of_le_length (by rw[aD _ _ h1];omega)]
theorem uW{t:Tr}{S:List Int}(h:zC t t.nodes.length=some S):Placed t S:=by
 have hb:=bI _ _ h;have hl:=aD _ _ h;refine⟨hb,fun i hi=>?_⟩;have h1:=iV h (i+1) (by omega);simp only[zC,Option.bind_eq_some_iff,Option.map_eq_some_iff]at h1;obtain⟨o,h2,p,h3,h4⟩:=h1;have h5:=iV h i (by omega);rw[h5]at h2;obtain rfl:=Option.some.inj h2
 have hg:∀j,j<i→(S.take i).getD j 0=S.getD j 0:=fun j hj=>by
  rw[List.getD_eq_getElem?_getD,List.getElem?_take,if_pos hj,←List.getD_eq_getElem?_getD]
 rw[←mA hg (fun j hj=>by rw[hg j hj];exact(hb j (by omega)).1) _ _ (by omega),h3]
 have:S.getD i 0=(i:Int)-p:=by
  have:(S.take (i+1)).getD i 0=S.getD i 0:=by rw[List.getD_eq_getElem?_getD,List.getElem?_take,if_pos (by omega),←List.getD_eq_getElem?_getD]
  rw[←this,←h4,List.getD_eq_getElem?_getD,List.getElem?_append_right (by simp;omega)];simp;rw[Nat.min_eq_left (by omega)];simp
 rw[this];congr 1;omega
def stt(S:List Int)(i:Int):Int:=i-S.getD i.toNat 0
theorem rG{S:List Int}:∀(l:List Int) (p q:Int),eatK S l p=some q→∀j,q<j→j≤p→∃k∈l,stt S k<j∧j≤k
 | [],p,q,h,j,h1,h2=>by simp[eatK]at h;omega
 | k::l,p,q,h,j,h1,h2=>by
   rw[eatK]at h;split at h
   ·cases h
   ·rename_i hc
    simp only[Bool.or_eq_true,bne_iff_ne,ne_eq,decide_eq_true_eq,not_or,Classical.not_not]at hc;obtain⟨rfl,hc⟩:=hc;by_cases hj:stt S k<j
    ·exact⟨k,by simp,hj,h2⟩
    ·obtain⟨k',h3,h4⟩:=rG l _ q h j h1 (by unfold stt at hj;omega)
     exact⟨k',by simp[h3],h4⟩
theorem sC{S:List Int}{m:Nat}(hb:∀j,j<m→1≤S.getD j 0):∀(l:List Int) (p q:Int),p<m→eatK S l p=some q→q≤p∧∀k∈l,q≤stt S k∧stt S k<k∧k≤p∧0≤k
 | [],p,q,hp,h=>by simp only[eatK,Option.some.injEq]at h;subst h;exact⟨Int.le_refl _,fun _ h=>by simp at h⟩
 | k::l,p,q,hp,h=>by
   rw[eatK]at h;split at h
   ·cases h
   ·rename_i hc
    simp only[Bool.or_eq_true,bne_iff_ne,ne_eq,decide_eq_true_eq,not_or,Classical.not_not]at hc;obtain⟨rfl,hc⟩:=hc;have h1:=hb k.toNat (by omega);obtain⟨h2,h3⟩:=sC hb l _ q (by omega) h;refine⟨by omega,fun x hx=>?_⟩;rcases List.mem_cons.1 hx with rfl|hx
    ·exact⟨by unfold stt;omega,by unfold stt;omega,Int.le_refl _,by omega⟩
    ·have:=h3 x hx
     exact⟨this.1,this.2.1,by omega,this.2.2.2⟩
theorem tW{S:List Int}{m:Nat}(hb:∀j,j<m→1≤S.getD j 0):∀(l:List Int) (p q:Int),p<m→eatK S l p=some q→l.Pairwise (fun a b=>b≤stt S a)
 | [],p,q,hp,h=>.nil
 | k::l,p,q,hp,h=>by
   rw[eatK]at h;split at h
   ·cases h
   ·rename_i hc
    simp only[Bool.or_eq_true,bne_iff_ne,ne_eq,decide_eq_true_eq,not_or,Classical.not_not]at hc;obtain⟨rfl,hc⟩:=hc;have h1:=hb k.toNat (by omega);refine .cons (fun x hx=>?_) (tW hb l _ q (by omega) h);obtain⟨_,h3⟩:=sC hb l _ q (by omega) h;exact(h3 x hx).2.2.1
section
variable {t : Tr} {S : List Int} (P : Placed t S)
include P
theorem Placed.one:∀j,j<t.nodes.length→1≤S.getD j 0:=fun j h=>(P.bd j h).1
theorem Placed.kid{i:Nat}(hi:i<t.nodes.length):∀k∈(t.nd i).kids,stt S i≤stt S k∧stt S k<k∧k<(i:Int)∧0≤k:=fun k hk=>by
 obtain⟨_,h⟩:=sC P.one _ _ _ (by omega) (P.eat i hi);have:=h k (by simpa using hk);refine⟨?_,this.2.1,by omega,this.2.2.2⟩;have:=this.1;simpa[stt]using this
theorem Placed.cover{i:Nat}(hi:i<t.nodes.length){j:Int}(h1:stt S i<j)(h2:j<i):∃k∈(t.nd i).kids,stt S k<j∧j≤k:=by
 obtain⟨k,h3,h4⟩:=rG _ _ _ (P.eat i hi) j (by simpa[stt]using h1) (by omega);exact⟨k,by simpa using h3,h4⟩
theorem Placed.asc{i:Nat}(hi:i<t.nodes.length):(t.nd i).kids.Pairwise (fun a b=>a≤stt S b):=by
 have:=tW P.one _ _ _ (by omega) (P.eat i hi);rwa[List.pairwise_reverse]at this
theorem Placed.nest:∀(f:Nat) (k:Nat) (a:Nat),k≤f→k<t.nodes.length→stt S k<a→a≤k→stt S k≤stt S a
 | f,k,a,hf,hk,h1,h2=>by
   by_cases e:a=k
   ·subst e;exact Int.le_refl _
   ·obtain⟨c,hc,h3,h4⟩:=P.cover hk (j:=a) h1 (by omega)
    obtain⟨h5,h6,h7,h8⟩:=P.kid hk c hc;obtain⟨c,rfl⟩:=Int.eq_ofNat_of_zero_le h8
    cases f with
    |zero=>omega
    | succ f=>
      have:=Placed.nest f c a (by omega) (by omega) h3 (by omega);omega
theorem Placed.unique{a b:Nat}{j:Int}(ha:a<t.nodes.length)(hb:b<t.nodes.length)(h1:j∈(t.nd a).kids)(h2:j∈(t.nd b).kids):a=b:=by
 have key:∀a b:Nat,a<b→b<t.nodes.length→j∈(t.nd a).kids→j∈(t.nd b).kids→False:=by
  intro a b hab hb h1 h2;obtain⟨a1,a2,a3,a4⟩:=P.kid (by omega) j h1;obtain⟨b1,b2,b3,b4⟩:=P.kid hb j h2;obtain⟨c,hc,h3,h4⟩:=P.cover hb (j:=a) (by omega) (by omega);obtain⟨c1,c2,c3,c4⟩:=P.kid hb c hc;obtain⟨c,rfl⟩:=Int.eq_ofNat_of_zero_le c4;have hn:=P.nest c c a nlr (by omega) h3 (by omega);have hp:=P.asc hb;obtain⟨x,hx,ex⟩:=List.getElem_of_mem hc;obtain⟨y,hy,ey⟩:=List.getElem_of_mem h2;rw[List.pairwise_iff_getElem]at hp;rcases Nat.lt_trichotomy x y with h|h|h
  ·have:=hp x y hx hy h
   rw[ex,ey]at this;omega
  ·subst h
   rw[ex]at ey;omega
  ·have:=hp y x hy hx h
   rw[ex,ey]at this;omega
 rcases Nat.lt_trichotomy a b with h|h|h
 ·exact(key a b h hb h1 h2).elim
 ·exact h
 ·exact(key b a h ha h2 h1).elim
end
theorem nH{t:Tr}{S:List Int}{m:Nat}(hb:∀j,j<m→1≤S.getD j 0):∀(l:List Int) (p:Int),p<m→eatI t S l p=true → -1≤p∧∀k∈l,-1≤stt S k∧stt S k<k∧k≤p∧0≤k∧dH (t.nd k).kind=true
 | [],p,hp,h=>by simp[eatI]at h;simp;omega
 | k::l,p,hp,h=>by
   rw[eatI]at h;split at h
   ·cases h
   ·rename_i hc
    simp only[Bool.or_eq_true,bne_iff_ne,ne_eq,decide_eq_true_eq,not_or,Classical.not_not,Bool.not_eq_true',Bool.not_eq_false]at hc;obtain⟨⟨hc1,rfl⟩,hc3⟩:=hc;have h1:=hb k.toNat (by omega);obtain⟨h2,h3⟩:=nH hb l _ (by omega) h;refine⟨by omega,fun x hx=>?_⟩;rcases List.mem_cons.1 hx with rfl|hx
    ·exact⟨by unfold stt;omega,by unfold stt;omega,Int.le_refl _,by omega,hc3⟩
    ·have:=h3 x hx
     exact⟨this.1,this.2.1,by omega,this.2.2.2⟩
theorem rE{t:Tr}{S:List Int}:∀(l:List Int) (p:Int),eatI t S l p=true→∀j,0≤j→j≤p→∃k∈l,stt S k<j∧j≤k
 | [],p,h,j,h1,h2=>by simp[eatI]at h;omega
 | k::l,p,h,j,h1,h2=>by
   rw[eatI]at h;split at h
   ·cases h
   ·rename_i hc
    simp only[Bool.or_eq_true,bne_iff_ne,ne_eq,decide_eq_true_eq,not_or,Classical.not_not,Bool.not_eq_true',Bool.not_eq_false]at hc;obtain⟨⟨hc1,rfl⟩,hc3⟩:=hc;by_cases hj:stt S k<j
    ·exact⟨k,by simp,hj,h2⟩
    ·obtain⟨k',h3,h4⟩:=rE l _ h j h1 (by unfold stt at hj;omega)
     exact⟨k',by simp[h3],h4⟩
theorem tV{t:Tr}{S:List Int}{m:Nat}(hb:∀j,j<m→1≤S.getD j 0):∀(l:List Int) (p:Int),p<m→eatI t S l p=true→l.Pairwise (fun a b=>b≤stt S a)
 | [],p,hp,h=>.nil
 | k::l,p,hp,h=>by
   rw[eatI]at h;split at h
   ·cases h
   ·rename_i hc
    simp only[Bool.or_eq_true,bne_iff_ne,ne_eq,decide_eq_true_eq,not_or,Classical.not_not,Bool.not_eq_true',Bool.not_eq_false]at hc;obtain⟨⟨hc1,rfl⟩,hc3⟩:=hc;have h1:=hb k.toNat (by omega);refine .cons (fun x hx=>?_) (tV hb l _ (by omega) h);exact((nH hb l _ (by omega) h).2 x hx).2.2.1
structure Good (t:Tr) (S:List Int):Prop extends Placed t S where
 right:∀i,i<t.nodes.length→cB t i=true
 root:eatI t S t.items.reverse ((t.nodes.length:Int)-1)=true
theorem fS{t:Tr}(h:eD t=true):Good t (dB t):=by
 simp only[eD,Bool.and_eq_true,beq_iff_eq]at h;obtain⟨h1,h2,h3⟩:=h;exact⟨uW (gV h1),fun i hi=>List.all_eq_true.1 h2 i (List.mem_range.2 hi),h3⟩
section
variable {t : Tr} {S : List Int} (G : Good t S)
include G
theorem Good.item:∀k∈t.items,-1≤stt S k∧stt S k<k∧k<(t.nodes.length:Int)∧0≤k∧dH (t.nd k).kind=true:=fun k hk=>by
 have:=(nH G.one _ _ (by omega) G.root).2 k (by simpa using hk);exact⟨this.1,this.2.1,by omega,this.2.2.2⟩
theorem Good.items:t.items.Pairwise (fun a b=>a≤stt S b):=by
 have:=tV G.one _ _ (by omega) G.root;rwa[List.pairwise_reverse]at this
theorem Good.coverI{j:Int}(h0:0≤j)(h1:j<t.nodes.length):∃k∈t.items,stt S k<j∧j≤k:=by
 obtain⟨k,h3,h4⟩:=rE _ _ G.root j h0 (by omega);exact⟨k,by simpa using h3,h4⟩
theorem Good.kidOrItem{j:Nat}(hj:j<t.nodes.length):(j:Int)∈t.items∨∃i:Nat,i<t.nodes.length∧(j:Int)∈(t.nd i).kids:=by
 obtain⟨k,hk,h1,h2⟩:=G.coverI (j:=j) (by omega) (by omega);obtain⟨h3,h4,h5,h6,hz⟩:=G.item k hk;obtain⟨k,rfl⟩:=Int.eq_ofNat_of_zero_le h6;by_cases e:j=k
 ·subst e;exact .inl hk
 ·refine .inr ?_
  have hk':k<t.nodes.length:=by omega
  have hjk:j<k:=by omega
  clear hk h3 h5 h6 e h2 h4 hz;revert h1 hk' hjk
  induction k using Nat.strongRecOn with
  | _ k ih=>
    intro h1 hk' hjk;obtain⟨c,hc,h7,h8⟩:=G.cover hk' h1 (by omega);obtain⟨c1,c2,c3,c4⟩:=G.kid hk' c hc;obtain⟨c,rfl⟩:=Int.eq_ofNat_of_zero_le c4;by_cases e:j=c
    ·subst e;exact⟨k,hk',hc⟩
    ·exact ih c (by omega) h7 (by omega) (by omega)
end
theorem xF{t:Tr}{i:Nat}(h:i<t.nodes.length):t.nd (i:Int)=t.nodes[i]:=t.nd_at h
theorem Good.parent_of{t:Tr}{S:List Int}(G:Good t S){i:Nat}{j:Int}(hi:i<t.nodes.length)(h:j∈(t.nd i).kids):parent t j=i:=by
 obtain⟨a1,a2,a3,a4⟩:=G.kid hi j h;obtain⟨j,rfl⟩:=Int.eq_ofNat_of_zero_le a4
 have hkid:eZ t.nodes (j:Int) i=true:=by
  simp only[eZ,hasI,List.getElem?_eq_getElem hi,Option.map_some,Option.getD_some];rw[xF hi]at h;exact List.contains_iff_mem.2 h
 unfold parent
 have key:∀(f k:Nat),i-k≤f→k≤i→(j:Int)<k→first (eZ t.nodes (j:Int)) t.nodes.length k=i:=by
  intro f
  induction f with
  | zero => intro k hf hk _;obtain rfl:k=i:=by omega
            exact aE hi hkid
  | succ f ih=>
    intro k hf hk hjk;by_cases e:k=i
    ·subst e;exact aE hi hkid
    ·have hno:eZ t.nodes (j:Int) k=false:=by
      rw[Bool.eq_false_iff];intro hc;simp only[eZ,hasI,List.getElem?_eq_getElem (show k<t.nodes.length by omega),Option.map_some,Option.getD_some]at hc;have hc:=List.contains_iff_mem.1 hc;rw[←xF]at hc;exact e (G.unique (by omega) hi hc h)
     rw[bR (by omega) hno];exact ih (k+1) (by omega) (by omega) (by omega)
 exact key i _ (by omega) (by omega) (by omega)
theorem aK{t:Tr}{j:Int}(h:0≤parent t j):∃i:Nat,parent t j=i∧i<t.nodes.length∧j∈(t.nd i).kids:=by
 obtain⟨m,h1,h2,h3,h4⟩:=dT _ _ nlr h;refine⟨m,h1,h3,?_⟩;simp only[eZ,hasI,List.getElem?_eq_getElem h3,Option.map_some,Option.getD_some]at h4;rw[xF h3];exact List.contains_iff_mem.1 h4
theorem Good.kidKind{t:Tr}{S:List Int}(G:Good t S){i:Nat}{j:Int}(hi:i<t.nodes.length)(h:j∈(t.nd i).kids):dH (t.nd j).kind=false:=by
 have hr:=G.right i hi;simp only[cB,lB,Bool.and_eq_true]at hr;obtain⟨x,hx,rfl⟩:=List.getElem_of_mem h;have:=List.all_eq_true.1 hr.2 x (List.mem_range.2 hx);simp only[mF,Bool.and_eq_true,List.getD_eq_getElem?_getD,List.getElem?_eq_getElem hx,Option.getD_some]at this;have h1:=this.1;revert h1;generalize (t.nd (t.nd i).kids[x]).kind=d;generalize (t.nd i).kind=k;intro h1;rw[Bool.eq_false_iff];intro hd;simp only[dH,Bool.and_eq_true,decide_eq_true_eq]at hd;simp only[kidK,fJ,aH]at h1;split at h1
 ·simp at h1;omega
 split at h1
 ·simp at h1;omega
 split at h1
 ·simp at h1;omega
 split at h1
 ·simp at h1;omega
 split at h1
 ·split at h1
  ·simp at h1;omega
  ·split at h1
   ·simp at h1;omega
   ·simp at h1;omega
 ·simp at h1;omega
theorem Good.noParent{t:Tr}{S:List Int}(G:Good t S){j:Int}(h:j∈t.items):parent t j = -1:=by
 by_cases hp:0≤parent t j
 ·obtain⟨i,h1,h2,h3⟩:=aK hp
  have:=(G.item j h).2.2.2.2;rw[G.kidKind h2 h3]at this;cases this
 ·have:=nI (p:=eZ t.nodes j) (n:=t.nodes.length) _ (j+1).toNat nlr
  have : -1≤parent t j:=this;omega
theorem Good.parent_yes{t:Tr}{S:List Int}(G:Good t S){j:Nat}(hj:j<t.nodes.length)(h:(j:Int) ∉ t.items):0≤parent t j:=by
 rcases G.kidOrItem hj with h1|⟨i,h1,h2⟩
 ·exact(h h1).elim
 ·rw[G.parent_of h1 h2];omega
theorem Good.many{t:Tr}{S:List Int}(G:Good t S){i:Nat}(hi:i<t.nodes.length):zO (t.nd i).kind (t.nd i).n (t.nd i).kids.length=true:=by
 have hr:=G.right i hi;simp only[cB,Bool.and_eq_true]at hr;exact hr.1.1.1.1.2
theorem zT{t:Tr}(bd:Bd t)(h:aU t=0):WF t:=by
 have hf:eD t=true:=by
  unfold aU at h;split at h
  ·cases h
  ·split at h
   ·assumption
   ·cases h
 have G:=fS hf;refine⟨bd,fun i hi k hk=>?_,fun k hk=>?_,fun i hi hk=>?_,fun i hi hk=>?_,fun i hi hk=>?_⟩
 ·rw[←xF hi]at hk
  have:=G.kid hi k hk;omega
 ·have:=G.item k hk
  omega
 ·have:=G.many hi
  rw[xF hi,hk]at this;simp[zO]at this;omega
 ·have:=G.many hi
  rw[xF hi,hk]at this;simp[zO]at this;omega
 ·refine G.parent_yes hi fun hc=>?_
  have:=(G.item _ hc).2.2.2.2;rw[xF hi,hk]at this;cases this
end
section
open Go.RowKit
def goK(g:Int→Int→Option Int):List Int→Int→Option Int
 | [],p=>some p
 |k::l,p=>(g k p).bind (goK g l)
def dF(t:Tr):Nat→Int→Int→Int→Option Int
 |0,_,_,_=>none
 |f+1,i,d,p=>(goK (fun k q=>dF t f k (d+1) q) (t.nd i).kids p).bind fun m=>if i != m then none else if dH (t.nd i).kind==(d==1)then some (m+1)else none
def ordF(t:Tr):List Int→Int→Option Int
 | [],p=>some p
 |i::l,p=>if decide (p≤i)&&decide (i≤(t.nodes.length:Int)-1)then (dF t (i+1).toNat i 1 p).bind (ordF t l)else none
def aC(t:Tr):Bool:=ordF t t.items 0==some (t.nodes.length:Int)
theorem sE(g:Int→Int→Option Int):∀(l:List Int) (k p:Int),goK g (l++[k]) p=(goK g l p).bind (g k)
 | [],k,p=>by simp[goK]
 | a::l,k,p=>by
   simp only[List.cons_append,goK]
   cases g a p with
   |none=>rfl
   |some m=>simp only[Option.bind_some];exact sE g l k m
theorem pK(t:Tr):∀(l:List Int) (k p:Int),ordF t (l++[k]) p=(ordF t l p).bind (fun q=>ordF t [k] q)
 | [],k,p=>by simp[ordF]
 | a::l,k,p=>by
   simp only[List.cons_append];rw[ordF,ordF];split
   ·cases dF t (a+1).toNat a 1 p with
    |none=>rfl
    |some m=>simp only[Option.bind_some];exact pK t l k m
   ·rfl
theorem vI{t:Tr}{a b:Nat}{o o':List Int}(h:zC t a=some o)(h':zC t b=some o')(hab:a≤b):∀j,j<a→o.getD j 0=o'.getD j 0:=by
 have:=iV h' a hab;rw[h]at this;obtain rfl:=Option.some.inj this;intro j hj;rw[List.getD_eq_getElem?_getD,List.getElem?_take,if_pos hj,←List.getD_eq_getElem?_getD]
theorem nD(t:Tr):∀(f:Nat) (i d:Int) (p:Nat) (m:Int) (o:List Int),zC t p=some o→dF t f i d p=some m →
 m=i+1∧(p:Int)≤i∧dH (t.nd i).kind=(d==1)∧∃o',zC t m.toNat=some o'∧o'.getD i.toNat 0=i+1-p
 |0,i,d,p,m,o,ho,h=>by simp[dF]at h
 | f+1,i,d,p,m,o,ho,h=>by
   simp only[dF,Option.bind_eq_some_iff]at h;obtain⟨q,h1,h2⟩:=h
   have key:∀(l:List Int) (q:Int),goK (fun k q=>dF t f k (d+1) q) l p=some q→(p:Int)≤q∧∃o',zC t q.toNat=some o'∧eatK o' l.reverse (q-1)=some ((p:Int)-1):=by
    intro l
    induction hl:l.length generalizing l with
    | zero=>
      intro q hq;obtain rfl:=List.eq_nil_of_length_eq_zero hl;simp only[goK,Option.some.injEq]at hq;subst hq;exact⟨Int.le_refl _,o,by simpa using ho,by simp[eatK]⟩
    | succ n ih=>
      intro q hq;obtain⟨l',k,rfl⟩:∃l' k,l=l'++[k]:=⟨l.dropLast,l.getLast (by intro e;simp[e]at hl),(List.dropLast_concat_getLast _).symm⟩
      rw[sE,Option.bind_eq_some_iff]at hq;obtain⟨q1,hq1,hq2⟩:=hq;obtain⟨hp,o1,ho1,he1⟩:=ih l' (by simpa using hl) q1 hq1;obtain⟨q1,rfl⟩:=Int.eq_ofNat_of_zero_le (show 0≤q1 by omega);obtain⟨rfl,hle,_,o2,ho2,hg⟩:=nD t f k (d+1) q1 q o1 (by simpa using ho1) hq2;refine⟨by omega,o2,ho2,?_⟩;simp only[List.reverse_append,List.reverse_cons,List.reverse_nil,List.nil_append,List.cons_append,eatK];rw[if_neg (by simp;omega)];have e1:(k+1-1).toNat=k.toNat:=by omega
      rw[e1,hg,show k+1-1-(k+1-(q1:Int))=q1-1 by omega];have hpre:=vI (a:=q1) (by simpa using ho1) ho2 (by omega);rw[←mA hpre (fun j hj=>(bI _ _ (by simpa using ho1) j hj).1) _ _ (by omega),←he1]
   obtain⟨hpq,o',ho',he⟩:=key _ q h1;split at h2
   ·cases h2
   ·rename_i hc
    obtain rfl:i=q:=by simpa using hc
    split at h2
    ·rename_i hc2
     obtain rfl:i+1=m:=by simpa using h2
     refine⟨rfl,hpq,by simpa using hc2,?_⟩;obtain⟨i,rfl⟩:=Int.eq_ofNat_of_zero_le (show 0≤i by omega);refine⟨o'++[(i:Int)-((p:Int)-1)],?_,?_⟩
     ·rw[show((i:Int)+1).toNat=i+1 by omega,zC]
      rw[show(i:Int).toNat=i from rfl]at ho';rw[ho'];simp[he]
     ·have hl:=aD _ _ ho'
      rw[List.getD_eq_getElem?_getD,List.getElem?_append_right (by omega),hl];simp;omega
    ·cases h2
theorem xI(t:Tr):∀(l:List Int) (q:Int),ordF t l 0=some q→0≤q∧∃o,zC t q.toNat=some o∧eatI t o l.reverse (q-1)=true:=by
 intro l
 induction hl:l.length generalizing l with
 | zero=>
   intro q hq;obtain rfl:=List.eq_nil_of_length_eq_zero hl;simp only[ordF,Option.some.injEq]at hq;subst hq;exact⟨Int.le_refl _,[],by simp[zC],by simp[eatI]⟩
 | succ n ih=>
   intro q hq;obtain⟨l',k,rfl⟩:∃l' k,l=l'++[k]:=⟨l.dropLast,l.getLast (by intro e;simp[e]at hl),(List.dropLast_concat_getLast _).symm⟩
   rw[pK,Option.bind_eq_some_iff]at hq;obtain⟨q1,hq1,hq2⟩:=hq;obtain⟨hp,o1,ho1,he1⟩:=ih l' (by simpa using hl) q1 hq1;obtain⟨q1,rfl⟩:=Int.eq_ofNat_of_zero_le hp;simp only[ordF]at hq2;split at hq2
   ·rename_i hc
    simp only[Bool.and_eq_true,decide_eq_true_eq]at hc;rw[Option.bind_eq_some_iff]at hq2;obtain⟨q2,hq2,hq3⟩:=hq2;simp only[Option.some.injEq]at hq3;subst hq3;obtain⟨rfl,hle,hk,o2,ho2,hg⟩:=nD t _ k 1 q1 q2 o1 (by simpa using ho1) hq2;refine⟨by omega,o2,ho2,?_⟩;simp only[List.reverse_append,List.reverse_cons,List.reverse_nil,List.nil_append,List.cons_append,eatI];have e1:(k+1-1:Int)=k:=by omega
    rw[e1,if_neg (by simp[hk];omega),hg,show k-(k+1-(q1:Int))=q1-1 by omega];have hpre:=vI (a:=q1) (by simpa using ho1) ho2 (by omega)
    have hcong:∀(l:List Int) (p:Int),p<q1→eatI t o1 l p=eatI t o2 l p:=by
     intro l
     induction l with
     |nil=>intro p _;rfl
     | cons x l ih2=>
       intro p hp;simp only[eatI];by_cases hc:(decide (p<0)||x != p || !dH (t.nd p).kind)=true
       ·rw[if_pos hc,if_pos hc]
       ·rw[if_neg hc,if_neg hc]
        simp only[Bool.or_eq_true,bne_iff_ne,ne_eq,decide_eq_true_eq,not_or,Classical.not_not]at hc;rw[←hpre p.toNat (by omega)];have:=(bI _ _ (by simpa using ho1) p.toNat (show p.toNat<q1 by omega)).1;exact ih2 _ (by omega)
    rw[←hcong _ _ (by omega)];exact he1
   ·cases hq2
theorem Good.walk{t:Tr}{S:List Int}(G:Good t S):∀(f:Nat) (i:Nat) (d:Int),i<f→i<t.nodes.length→dH (t.nd i).kind=(d==1)→1≤d→dF t f i d (stt S i+1)=some ((i:Int)+1)
 |0,i,d,h,_,_,_=>by omega
 | f+1,i,d,h,hi,hk,hd=>by
   have key:∀(l:List Int) (p q:Int),p<t.nodes.length→(∀k∈l,dF t f k (d+1) (stt S k+1)=some (k+1))→eatK S l.reverse p=some q→goK (fun k q=>dF t f k (d+1) q) l (q+1)=some (p+1):=by
    intro l
    induction hl:l.length generalizing l with
    | zero=>
      intro p q _ _ he;obtain rfl:=List.eq_nil_of_length_eq_zero hl;simp only[List.reverse_nil,eatK,Option.some.injEq]at he;subst he;rfl
    | succ n ih=>
      intro p q hp hw he;obtain⟨l',k,rfl⟩:∃l' k,l=l'++[k]:=⟨l.dropLast,l.getLast (by intro e;simp[e]at hl),(List.dropLast_concat_getLast _).symm⟩
      simp only[List.reverse_append,List.reverse_cons,List.reverse_nil,List.nil_append,List.cons_append,eatK]at he;split at he
      ·cases he
      ·rename_i hc
       simp only[Bool.or_eq_true,bne_iff_ne,ne_eq,decide_eq_true_eq,not_or,Classical.not_not]at hc;obtain⟨rfl,hc⟩:=hc;have hb:=G.one k.toNat (by omega);rw[sE,ih l' (by simpa using hl) (k-S.getD k.toNat 0) q (by omega) (fun x hx=>hw x (by simp[hx])) he];simp only[Option.bind_some];exact hw k (by simp)
   simp only[dF];have he:=G.eat i hi;have hs:stt S i+1=(i:Int)-S.getD i 0+1:=by simp[stt]
   rw[hs,key (t.nd i).kids ((i:Int)-1) ((i:Int)-S.getD i 0) (by omega) (fun k hk=>?_) he]
   ·simp only[Option.bind_some]
    rw[if_neg (by simp),if_pos (by simp[hk])];simp
   ·obtain⟨h1,h2,h3,h4⟩:=G.kid hi k hk
    have hkk:=G.kidKind hi hk;obtain⟨k,rfl⟩:=Int.eq_ofNat_of_zero_le h4;exact Good.walk G f k (d+1) (by omega) (by omega) (by rw[hkk];symm;simp;omega) (by omega)
theorem Good.ordered{t:Tr}{S:List Int}(G:Good t S):aC t=true:=by
 have key:∀(l:List Int) (p:Int),p<t.nodes.length → -1≤p→eatI t S l.reverse p=true→ordF t l 0=some (p+1):=by
  intro l
  induction hl:l.length generalizing l with
  | zero=>
    intro p _ _ he;obtain rfl:=List.eq_nil_of_length_eq_zero hl;simp only[List.reverse_nil,eatI,beq_iff_eq]at he;subst he;rfl
  | succ n ih=>
    intro p hp hp0 he;obtain⟨l',k,rfl⟩:∃l' k,l=l'++[k]:=⟨l.dropLast,l.getLast (by intro e;simp[e]at hl),(List.dropLast_concat_getLast _).symm⟩
    simp only[List.reverse_append,List.reverse_cons,List.reverse_nil,List.nil_append,List.cons_append,eatI]at he;split at he
    ·cases he
    ·rename_i hc
     simp only[Bool.or_eq_true,bne_iff_ne,ne_eq,decide_eq_true_eq,not_or,Classical.not_not,Bool.not_eq_true',Bool.not_eq_false]at hc;obtain⟨⟨hc,rfl⟩,hc3⟩:=hc;have hb:=G.bd k.toNat (by omega);rw[pK,ih l' (by simpa using hl) (k-S.getD k.toNat 0) (by omega) (by omega) he];simp only[Option.bind_some,ordF];rw[if_pos (by simp only[Bool.and_eq_true,decide_eq_true_eq];omega)];obtain⟨k,rfl⟩:=Int.eq_ofNat_of_zero_le (show 0≤k by omega);have:=G.walk ((k:Int)+1).toNat k 1 (by omega) (by omega) (by rw[hc3];rfl) (Int.le_refl _);rw[show(k:Int)-S.getD (k:Int).toNat 0+1=stt S k+1 from rfl,this];rfl
 have:=key _ _ (by omega) (by omega) G.root;unfold aC;rw[this];simp
theorem qH{t:Tr}(h:aC t=true):(dB t).length=t.nodes.length∧eatI t (dB t) t.items.reverse ((t.nodes.length:Int)-1)=true:=by
 obtain⟨_,o,h1,h2⟩:=xI t _ _ (by simpa[aC]using h);have h1:zC t t.nodes.length=some o:=by simpa using h1
 have:dB t=o:=by unfold dB;rw[h1];rfl
 rw[this];exact⟨aD _ _ h1,h2⟩
end
end Go.Proofs.YtipjhljnkocioaaGreatDoor
