/- Part of a proof. -/
import Derived.Test.YtokdgiphdnjeoaaGreatDoorQ19
set_option maxRecDepth 100000
set_option maxHeartbeats 8000000
set_option linter.unusedVariables false
set_option linter.unusedSimpArgs false
open Go.Proofs.Tryz
namespace Go.Proofs.YtokdgiphdnjeoaaGreatDoor
section
open Go.RowKit
theorem yS:∀(L:List Int) (m:Nat),L.set m (L.getD m 0)=L
 | [],m=>rfl
 |a::l,0=>rfl
 |a::l,m+1=>by rw[List.set_cons_succ,List.getD_cons_succ,yS l m]
theorem wH(v:TreeV)(t:Tr)(w:World)(bd:Bd t)(hkid:∀i,i<t.nodes.length→∀k∈(t.nd i).kids,0≤k∧k<(i:Int))(h:IsTree w v t) :
 Calls prog 178 #[v.val t] w (RetInts w (bX t)):=by
 have HT:=Hd h;have BD:=Hd bd;have HKID:=Hd hkid;have hn3:=bd.n;have hmk:=fun W=>gW W t.nodes.length (by omega);clear h bd hkid;unfold TreeV.val;go_enter func178,ntmps178;go_wp2;have HO0:=Hd (rL (boxT w v t) (B:=w.heap.size+1) (n:=t.nodes.length) (k:=w.heap.size+1) (by simp) nlr (by omega))
 go_loopw [4] (fun t4 wr=>∃(i:Int),t4=intV i ∧ -1≤i∧i<t.nodes.length∧Hid (wr.ownsRow (w.heap.size+1) 3 1 (.slice (some ⟨w.heap.size+1,0,none⟩) t.nodes.length t.nodes.length) t.nodes.length (zm (dQ t ((t.nodes.length:Int)-1-i).toNat)))∧Hid (Below (w.heap.size+1) (boxT w v t) wr)) (fun i _=>(intOf i+1).toNat)
 case atStart=>exact⟨(t.nodes.length:Int)-1,by go_num,by omega,by omega,Hd (by rw[show((t.nodes.length:Int)-1-((t.nodes.length:Int)-1)).toNat=0 by omega];exact HO0.out),Hd (brf.alloc (by simp) _)⟩
 case round=>
  obtain⟨i,rfl,hi1,hi2,HO,HB⟩:=hrel;obtain⟨b0,b1,-,⟨hs,hs1,hs2⟩,hbw⟩:=boxed HB.out HT.out;obtain⟨hcw,hfw⟩:=bcell hbw;by_cases hi0:0≤i
  ·obtain⟨m,rfl⟩:=Int.eq_ofNat_of_zero_le hi0
   have hlt:m<t.nodes.length:=by omega
   obtain⟨b,o,ka,kc,ea,hb,c0,c1,c2,c3',c4,hkr⟩:=HT.out.nodes.at hlt;obtain⟨na,nc,ia,ic⟩:=v;simp only at ea b0 b1;subst ea;obtain⟨ks,hks⟩:∃ks,ks=t.nodes[m].kids:=⟨_,rfl⟩
   have hkl:=BD.out.k _ (List.getElem_mem hlt);rw[←hks]at hkr c3' hkl;have HKR:=Hd hkr;have HKS:Hid ((t.nd m).kids=ks):=Hd (by rw[t.nd_at hlt,hks]);have HKI:=HKID.out m hlt;rw[HKS.out]at HKI;obtain⟨L,hL⟩:∃L,L=dQ t ((t.nodes.length:Int)-1-m).toNat:=⟨_,rfl⟩
   have HL:=Hd hL;have hLb:=iB HKID.out ((t.nodes.length:Int)-1-m).toNat (by omega);rw[←hL]at hLb;have HLB:=Hd hLb;obtain⟨x,hx⟩:∃x,x=L.getD m 0:=⟨_,rfl⟩
   have hxb:=hLb m;rw[←hx]at hxb;have hx0:=hxb.1;have hx1:=hxb.2 hlt;have HX:=Hd hx;have HKII:=Hd HKI;have hown:=HO.out;rw[←hL]at hown;obtain⟨g,hge,hg1,hg2,hLl,hcell,hfr⟩:=dG hown (by omega);simp only[Option.some.injEq,Addr.mk.injEq,and_true]at hge;subst hge;have ci:=hcell m hlt;have fi:=hfr m;rw[←hx]at ci;have HOWN:=Hd hown;have HFR:=Hd hfr;have HLL:=Hd hLl;clear hkr hks hL hLb hx hxb HKI hown hcell hfr hLl;by_cases hz:x=0
   ·have HMX:Hid (max x 1=1):=Hd (by omega)
    subst hz;go_wp2
    go_loopw [34] (fun t5 wr=>∃k:Nat,t5=.int .i64 k∧k≤ks.length∧Hid (wr.ownsRow (w.heap.size+1) 3 1 (.slice (some ⟨w.heap.size+1,0,none⟩) t.nodes.length t.nodes.length) t.nodes.length (zm (aH (L.set m 1) (1+1) (ks.take k))))∧Hid (Below (w.heap.size+1) (boxT w ⟨some ⟨b,o,none⟩,nc,ia,ic⟩ t) wr)) (fun i _=>ks.length-(intOf i).toNat)
    case atStart=>exact⟨0,rfl,Nat.zero_le _,Hd (gJ HOWN.out m 1),Hd (HB.out.setCell (by simp) _)⟩
    case round=>
     obtain⟨k,rfl,hk,HO5,HB5⟩:=hrel;obtain⟨b50,b51,-,⟨hs5,hs51,hs52⟩,hbw5⟩:=boxed HB5.out HT.out;obtain⟨hcw5,hfw5⟩:=bcell hbw5;by_cases hlk:k<ks.length
     ·obtain⟨bk,ok,rfl,hbk,ck⟩:=Ints.at HKR.out hlk
      obtain⟨hk1,hk2⟩:=HKII.out _ (List.getElem_mem hlk);obtain⟨c,hc⟩:=Int.eq_ofNat_of_zero_le hk1;have hcm:c<m:=by omega
      have HC:=Hd hc;rw[hc]at ck;obtain⟨g5,he5,-,-,-,hcell5,hfr5⟩:=dG HO5.out (by omega);simp only[Option.some.injEq,Addr.mk.injEq,and_true]at he5;subst he5;have cm:=hcell5 m hlt;rw[dU _ _ (fun x hx=>HKII.out x (List.mem_of_mem_take hx)),List.getD_eq_getElem?_getD,List.getElem?_set,if_pos rfl,if_pos (by have:=HLL.out;omega),Option.getD_some]at cm;have cc:=hcell5 c (by omega);have fc:=hfr5 c;have hbb:b<wr.heap.size:=by omega
      have hbb2:bk<wr.heap.size:=by omega
      have hcn:c<t.nodes.length:=by omega
      clear hc hk1 hk2 hcell5 hfr5;go_wp2
      go_roundw
      case rel=>
       refine⟨k+1,by go_num,by omega,Hd ?_,Hd (HB5.out.setCell (by simp) _)⟩;rw[List.take_succ_eq_append_getElem hlk,eK,HC.out];exact gJ HO5.out c (1+1)
      case measure=>simp[intOf];omega
     ·obtain rfl:k=ks.length:=by omega
      go_wp2
      go_roundw
      case rel=>
       refine⟨(m:Int)-1,by go_num,by omega,by omega,Hd ?_,HB5⟩;have ho:=HO5.out;rw[List.take_length]at ho;rw[show((t.nodes.length:Int)-1-((m:Int)-1)).toNat=((t.nodes.length:Int)-1-m).toNat+1 by omega,dQ,←HL.out,gF,show t.nodes.length-1-((t.nodes.length:Int)-1-m).toNat=m by omega,HKS.out,←HX.out,HMX.out];exact ho
      case measure=>simp[intOf];try omega
   ·have HMX:Hid (max x 1=x):=Hd (by omega)
    have hx2:1≤x:=by omega
    have HSELF:Hid (L.set m x=L):=Hd (by rw[HX.out];exact yS L m);go_wp2
    go_loopw [34] (fun t5 wr=>∃k:Nat,t5=.int .i64 k∧k≤ks.length∧Hid (wr.ownsRow (w.heap.size+1) 3 1 (.slice (some ⟨w.heap.size+1,0,none⟩) t.nodes.length t.nodes.length) t.nodes.length (zm (aH (L.set m x) (x+1) (ks.take k))))∧Hid (Below (w.heap.size+1) (boxT w ⟨some ⟨b,o,none⟩,nc,ia,ic⟩ t) wr)) (fun i _=>ks.length-(intOf i).toNat)
    case atStart=>exact⟨0,rfl,Nat.zero_le _,Hd (by rw[HSELF.out];exact HOWN.out),HB⟩
    case round=>
     obtain⟨k,rfl,hk,HO5,HB5⟩:=hrel;obtain⟨b50,b51,-,⟨hs5,hs51,hs52⟩,hbw5⟩:=boxed HB5.out HT.out;obtain⟨hcw5,hfw5⟩:=bcell hbw5;by_cases hlk:k<ks.length
     ·obtain⟨bk,ok,rfl,hbk,ck⟩:=Ints.at HKR.out hlk
      obtain⟨hk1,hk2⟩:=HKII.out _ (List.getElem_mem hlk);obtain⟨c,hc⟩:=Int.eq_ofNat_of_zero_le hk1;have hcm:c<m:=by omega
      have HC:=Hd hc;rw[hc]at ck;obtain⟨g5,he5,-,-,-,hcell5,hfr5⟩:=dG HO5.out (by omega);simp only[Option.some.injEq,Addr.mk.injEq,and_true]at he5;subst he5;have cm:=hcell5 m hlt;rw[dU _ _ (fun x hx=>HKII.out x (List.mem_of_mem_take hx)),List.getD_eq_getElem?_getD,List.getElem?_set,if_pos rfl,if_pos (by have:=HLL.out;omega),Option.getD_some]at cm;have cc:=hcell5 c (by omega);have fc:=hfr5 c;have hbb:b<wr.heap.size:=by omega
      have hbb2:bk<wr.heap.size:=by omega
      have hcn:c<t.nodes.length:=by omega
      clear hc hk1 hk2 hcell5 hfr5;go_wp2
      go_roundw
      case rel=>
       refine⟨k+1,by go_num,by omega,Hd ?_,Hd (HB5.out.setCell (by simp) _)⟩;rw[List.take_succ_eq_append_getElem hlk,eK,HC.out];exact gJ HO5.out c (x+1)
      case measure=>simp[intOf];omega
     ·obtain rfl:k=ks.length:=by omega
      go_wp2
      go_roundw
      case rel=>
       refine⟨(m:Int)-1,by go_num,by omega,by omega,Hd ?_,HB5⟩;have ho:=HO5.out;rw[List.take_length]at ho;rw[show((t.nodes.length:Int)-1-((m:Int)-1)).toNat=((t.nodes.length:Int)-1-m).toNat+1 by omega,dQ,←HL.out,gF,show t.nodes.length-1-((t.nodes.length:Int)-1-m).toNat=m by omega,HKS.out,←HX.out,HMX.out];exact ho
      case measure=>simp[intOf];try omega
  ·have hi:i = -1:=by omega
   subst hi;go_wp2;go_ret;have ho:=HO.out;rw[show((t.nodes.length:Int)-1 - -1).toNat=t.nodes.length by omega]at ho;exact⟨some ⟨w.heap.size+1,0,none⟩,t.nodes.length,by simp[bX,zS],by rw[bX,zS];exact aY ho (by omega),hbw⟩
theorem GT(a:Option Addr)(c:Nat)(L:List Int)(w:World)(hl:L.length≤1000000)(h0:0<L.length)(hp:0≤L[0])(h:Ints w a c L) :
 Calls prog 177 #[.slice a L.length c] w fun e w'=>e=.returned (intV (maxL L))∧w=w':=by
 have HR:=Hd h;obtain⟨b,o,rfl,hb,hc0⟩:=Ints.at h h0;obtain⟨z,hz⟩:∃z,z=L[0]:=⟨_,rfl⟩
 rw[←hz]at hc0 hp;have hz1:z=maxL (L.take (0+1)):=by rw[lQ h0,←hz];simp[maxL];omega
 have HZ:=Hd hz1;clear h hz hz1;simp only[Nat.add_zero]at hc0;go_enter func177,ntmps177;go_wp2
 go_loop [3,4] (fun t3 t4=>∃(k:Nat) (x:Int),t4=.int .i64 k∧1≤k∧k≤L.length∧t3=intV x∧Hid (x=maxL (L.take k))) (fun _ i=>L.length-(intOf i).toNat)
 case atStart=>exact⟨1,z,rfl,nlr,by omega,rfl,HZ⟩
 case round=>
  obtain⟨k,x,rfl,hk1,hk,rfl,HX⟩:=hrel;by_cases hlt:k<L.length
  ·obtain⟨b',o',e',hb',hc⟩:=Ints.at HR.out hlt
   simp only[Option.some.injEq,Addr.mk.injEq,and_true]at e';obtain⟨rfl,rfl⟩:=e';obtain⟨y,hy⟩:∃y,y=L[k]:=⟨_,rfl⟩
   rw[←hy]at hc;have HY:=Hd hy;have HS:=Hd (lQ hlt);clear hy;by_cases hxy:x≤y
   ·have HXY:=Hd hxy
    go_wp2
    all_goals
     go_round
     case rel=>exact⟨k+1,y,by go_num,by omega,by omega,by first|rfl|(have:=HXY.out;go_num),Hd (by rw[HS.out,←HX.out,←HY.out];have:=HXY.out;omega)⟩
     case measure=>simp[intOf];omega
   ·have HXY:=Hd hxy
    go_wp2
    all_goals
     go_round
     case rel=>exact⟨k+1,x,by go_num,by omega,by omega,by first|rfl|(have:=HXY.out;go_num),Hd (by rw[HS.out,←HX.out,←HY.out];have:=HXY.out;omega)⟩
     case measure=>simp[intOf];omega
  ·obtain rfl:k=L.length:=by omega
   go_wp2;go_ret;refine⟨zo ?_,rfl⟩;have:=HX.out;rw[List.take_length]at this;exact this
theorem fU(v:TreeV)(t:Tr)(w:World)(bd:Bd t)(hkid:∀i,i<t.nodes.length→∀k∈(t.nd i).kids,0≤k∧k<(i:Int))(h:IsTree w v t) :
 Calls prog 129 #[v.val t] w (dL w (zW t)):=by
 have HT:=Hd h;have BD:=Hd bd;have HKID:=Hd hkid;obtain⟨L,hL⟩:∃L,L=bX t:=⟨_,rfl⟩
 have hln:L.length=t.nodes.length:=by rw[hL,bX,zS]
 have hll:t.nodes.length≤1000000:=bd.n
 have hlb:∀j (h:j<L.length),0≤L[j]:=by
  intro j h;have:=(iB hkid _ nlr j).1;rw[show dQ t t.nodes.length=L by rw[hL,bX],List.getD_eq_getElem?_getD,List.getElem?_eq_getElem h]at this;exact this
 have HL:=Hd hL;have HLN:=Hd hln;have HLB:=Hd hlb;clear h bd hkid hL hln hlb;obtain⟨na,nc,ia,ic⟩:=v;unfold TreeV.val;go_enter func129,ntmps129;by_cases h0:t.nodes.length=0
 ·have HD:Hid (zW t=0):=Hd (by rw[zW,←HL.out,List.eq_nil_of_length_eq_zero (HLN.out.trans h0)];rfl)
  go_wp2;go_ret;exact⟨zo HD.out.symm,by go_grown⟩
 ·go_wp2_with (first
   | (go_at_call 178;refine(wH ⟨na,nc,ia,ic⟩ t _ BD.out HKID.out (HT.out.mono ((Below.refl _ w).alloc nlr _) nlr)).mono ?_;rw[←HL.out];rintro e w' ⟨a1,c1,rfl,hown,hb'⟩;have HR:=Hd (zU hown);have HB:=Hd (((Below.refl _ w).alloc nlr _).trans (hb'.mono (by simp)):Below w.heap.size w w');clear hown hb';have HMX:=Hd (GT a1 c1 L w' (by rw[HLN.out];omega) (by rw[HLN.out];omega) (HLB.out 0 (by rw[HLN.out];omega)) HR.out))
   | (go_at_call 177;refine HMX.out.mono ?_;rintro e w2 ⟨rfl,rfl⟩))
  go_ret;exact⟨zo (by rw[zW,←HL.out]),HB.out⟩
theorem wJ(D:Nd)(ka:Option Addr)(kc:Nat)(w:World)(hl:D.kids.length≤1000000) :
 Calls prog 245 #[.agg #[.int .u8 D.kind,strV D.text,intV D.n,.slice ka D.kids.length kc,intV D.pos]] w fun e w'=>e=.returned (intV ((D.kids.length:Int)-2))∧Below w.heap.size w w':=by
 go_enter func245,ntmps245;go_wp2;go_ret;exact⟨zo (by go_num),by go_grown⟩
theorem AO(v:TreeV)(t:Tr)(i:Nat)(ka:Option Addr)(kc:Nat)(w:World)(bd:Bd t)(hi:i<t.nodes.length)
 (hc:(t.nd i).kind=40→∃k0 k1:Nat,k0<t.nodes.length∧k1<t.nodes.length∧(t.nd i).kids=[(k0:Int),(k1:Int)] ∧ -9999≤(t.nd k0).n∧(t.nd k0).n≤9999 ∧ -9999≤(t.nd k1).n∧(t.nd k1).n≤9999)(h:IsTree w v t)(hkr:Ints w ka kc t.nodes[i].kids) :
 Calls prog 181 #[v.val t,.agg #[.int .u8 t.nodes[i].kind,strV t.nodes[i].text,intV t.nodes[i].n,.slice ka t.nodes[i].kids.length kc,intV t.nodes[i].pos]] w (zq w (eP t i)):=by
 have hmo:prog.follows .mixedOrders=true:=by kernel_rfl
 have HT:=Hd h;have hn3:=bd.n;have hkl:=bd.k _ (List.getElem_mem hi);obtain⟨na,nc,ia,ic⟩:=v;have hnd:=t.nd_at hi;obtain⟨D,hD⟩:∃D,t.nodes[i]=D:=⟨_,rfl⟩
 rw[hD]at hkr hkl hnd⊢;rw[hnd]at hc;have HND:=Hd hnd;have HC:=Hd hc;have HKR:=Hd hkr;clear h bd hD hnd hkr hc;unfold TreeV.val;by_cases h40:D.kind=40
 ·obtain⟨k0,k1,hk0,hk1,hks,hx0,hx1,hy0,hy1⟩:=HC.out h40
  have hlen:D.kids.length=2:=by rw[hks];rfl
  obtain⟨bk,ok,rfl,hbk,ck0⟩:=Ints.at HKR.out (i:=0) (by omega);obtain⟨bk',ok',ek,-,ck1⟩:=Ints.at HKR.out (i:=1) (by omega);simp only[Option.some.injEq,Addr.mk.injEq,and_true]at ek;obtain⟨rfl,rfl⟩:=ek;simp only[hks,List.getElem_cons_zero,List.getElem_cons_succ,Nat.add_zero]at ck0 ck1;obtain⟨p0,q0,_,_,e0,hp0,-,-,f0,-,-,-⟩:=HT.out.nodes.at hk0;obtain⟨p1,q1,_,_,e1,hp1,-,-,f1,-,-,-⟩:=HT.out.nodes.at hk1;simp only at e0 e1;subst e0;simp only[Option.some.injEq,Addr.mk.injEq,and_true]at e1;obtain⟨e1a,e1b⟩:=e1;subst e1a;subst e1b;rw[t.nd_at hk0]at hx0 hx1;rw[t.nd_at hk1]at hy0 hy1;obtain⟨x,hx⟩:∃x,x=t.nodes[k0].n:=⟨_,rfl⟩
  obtain⟨y,hy⟩:∃y,y=t.nodes[k1].n:=⟨_,rfl⟩
  rw[←hx]at f0 hx0 hx1;rw[←hy]at f1 hy0 hy1
  have hs:eP t i=zv (y-x+1) 1 12:=by
   rw[eP,HND.out,h40,hks];simp[t.nd_at hk0,t.nd_at hk1,←hx,←hy]
  have HS:=Hd hs;have h40':(D.kind==40)=true:=by simpa using h40
  have hbk1:bk<w.heap.size+1:=by omega
  have hbk2:bk<w.heap.size+1+1:=by omega
  have hb1:p0<w.heap.size+1:=by omega
  have hb2:p0<w.heap.size+1+1:=by omega
  rw[hlen];clear hx hy hs hks h40;go_enter func181,ntmps181;go_wp2
  go_quiet (fail)
  go_wp2_with (go_at_call 94;refine(zu _ _ _ _).mono ?_;rintro e w' ⟨rfl,rfl⟩)
  go_ret;exact⟨zb HS.out.symm,below_drewN (((Below.refl _ w).alloc nlr _).alloc (by simp) _) _⟩
 ·have h40':(D.kind==40)=false:=by simpa using h40
  have hs:eP t i=if D.kind==41 then decide ((D.kids.length:Int)≤6)else if D.kind==42 then decide ((D.kids.length:Int)-2≤4)&&decide (D.n≤8)else if D.kind==33 then zv D.n 1 6 else if D.kind==26 then decide ((D.kids.length:Int)≤6)else if D.kind==46 then D.n != 8||decide ((D.kids.length:Int)≤4)else true:=by
   rw[eP,HND.out,h40'];rfl
  have HPA:∀W,Calls prog 245 #[.agg #[.int .u8 D.kind,strV D.text,intV D.n,.slice ka D.kids.length kc,intV D.pos]] W fun e w'=>e=.returned (intV ((D.kids.length:Int)-2))∧Below W.heap.size W w':=fun W=>wJ D ka kc W hkl;obtain⟨k,hk⟩:∃k,k=D.kind:=⟨_,rfl⟩
  obtain⟨n,hn⟩:∃n,n=D.n:=⟨_,rfl⟩
  obtain⟨l,hl⟩:∃l,l=D.kids.length:=⟨_,rfl⟩
  rw[←hk,←hn,←hl]at hs HPA⊢;rw[←hk]at h40';rw[←hl]at hkl;have HS:=Hd hs;have HP:=Hd HPA;clear hs hk hn hl h40 HPA;go_enter func181,ntmps181
  go_wp2_with (first
   | (go_at_call 245;refine(HP.out _).mono ?_;rintro e w' ⟨rfl,hb'⟩;have hcl:w'.cell? ⟨w.heap.size+1,2,none⟩=some (intV n):=(hb'.cell (p:=⟨w.heap.size+1,2,none⟩) (by simp)).trans (by simp);have HB':Hid (Below w.heap.size w w'):=Hd ((((Below.refl _ w).alloc nlr _).alloc (by simp) _).trans (hb'.mono (by simp;omega)));clear hb')
   | (go_at_call 94;refine(zu _ _ _ _).mono ?_;rintro e w' ⟨rfl,rfl⟩))
  all_goals
   go_ret;refine⟨zb ?_,by first|exact HB'.out|exact(((Below.refl _ w).alloc nlr _).alloc (by simp) _)⟩;rw[HS.out]
   (try simp_all)<;>(try omega)
theorem CI(v:TreeV)(t:Tr)(i s:Nat)(ka:Option Addr)(kc:Nat)(w:World)(bd:Bd t)(hi:i<t.nodes.length)
 (hc:(t.nd i).kind=40→∃k0 k1:Nat,k0<t.nodes.length∧k1<t.nodes.length∧(t.nd i).kids=[(k0:Int),(k1:Int)] ∧ -9999≤(t.nd k0).n∧(t.nd k0).n≤9999 ∧ -9999≤(t.nd k1).n∧(t.nd k1).n≤9999)(h:IsTree w v t)(hkr:Ints w ka kc t.nodes[i].kids)
 (h0:w.cell? ⟨s,0,none⟩=some (.slice v.na t.nodes.length v.nc))(h1:w.cell? ⟨s,1,none⟩=some (.slice v.ia t.items.length v.ic)) :
 Calls prog 180 #[.agg #[.int .u8 t.nodes[i].kind,strV t.nodes[i].text,intV t.nodes[i].n,.slice ka t.nodes[i].kids.length kc,intV t.nodes[i].pos],.pointer (some ⟨s,0,none⟩)] w (zq w (!eP t i)):=by
 have HS:∀W,Below w.heap.size w W→Calls prog 181 #[v.val t,.agg #[.int .u8 t.nodes[i].kind,strV t.nodes[i].text,intV t.nodes[i].n,.slice ka t.nodes[i].kids.length kc,intV t.nodes[i].pos]] W (zq W (eP t i)):=
  fun W hW=>AO v t i ka kc W bd hi hc (h.mono hW nlr) (hkr.mono hW nlr)
 obtain⟨D,hD⟩:∃D,t.nodes[i]=D:=⟨_,rfl⟩
 rw[hD]at HS⊢;obtain⟨y,hy⟩:∃y,eP t i=y:=⟨_,rfl⟩
 rw[hy]at HS⊢;have HSH:=Hd HS;have hs:=World.block_lt_of_cell? w ⟨s,0,none⟩ h0;simp only at hs;have hs':¬s=w.heap.size:=by omega
 clear h bd hD hkr hc HS hy;unfold TreeV.val at *;go_enter func180,ntmps180
 go_wp2_with (go_at_call 181;refine(HSH.out _ (by go_grown)).mono ?_;rintro e w' ⟨rfl,hb'⟩;have HB':Hid (Below w.heap.size w w'):=Hd (((Below.refl _ w).alloc nlr _).trans (hb'.mono (by simp)));clear hb')
 go_ret;exact⟨rfl,HB'.out⟩
def Choices(t:Tr):Prop:=∀i,i<t.nodes.length→(t.nd i).kind=40→∃k0 k1:Nat,k0<t.nodes.length∧k1<t.nodes.length∧(t.nd i).kids=[(k0:Int),(k1:Int)] ∧ -9999≤(t.nd k0).n∧(t.nd k0).n≤9999 ∧ -9999≤(t.nd k1).n∧(t.nd k1).n≤9999
theorem vW(v:TreeV)(t:Tr)(s:Nat)(w:World)(bd:Bd t)(hc:Choices t)(h:IsTree w v t)
 (h0:w.cell? ⟨s,0,none⟩=some (.slice v.na t.nodes.length v.nc))(h1:w.cell? ⟨s,1,none⟩=some (.slice v.ia t.items.length v.ic)) :
 Calls prog 179 #[.slice v.na t.nodes.length v.nc,.func (.func 180) #[] #[.pointer (some ⟨s,0,none⟩)]] w (dL w (aF t)):=by
 have hs:=World.block_lt_of_cell? w ⟨s,0,none⟩ h0;simp only at hs
 have HS:∀(i:Nat) (hi:i<t.nodes.length) ka kc W,Below w.heap.size w W→Ints W ka kc t.nodes[i].kids→Calls prog 180 #[.agg #[.int .u8 t.nodes[i].kind,strV t.nodes[i].text,intV t.nodes[i].n,.slice ka t.nodes[i].kids.length kc,intV t.nodes[i].pos],.pointer (some ⟨s,0,none⟩)] W (zq W (!eP t i)):=
  fun i hi ka kc W hW hk=>CI v t i s ka kc W bd hi (hc i hi) (h.mono hW nlr) hk ((hW.cell (p:=⟨s,0,none⟩) hs).trans h0) ((hW.cell (p:=⟨s,1,none⟩) hs).trans h1)
 have HSH:=Hd HS;have HT:=Hd h;have hn3:=bd.n;obtain⟨na,nc,ia,ic⟩:=v;clear h bd hc h0 h1 HS hs;go_enter func179,ntmps179;go_wp2
 go_loopw [8] (fun t8 wr=>∃k:Nat,t8=.int .i64 k∧k≤t.nodes.length∧Hid (aF t=first (fun i=>!eP t i) t.nodes.length k)∧Hid (Below w.heap.size w wr)) (fun t8 _=>t.nodes.length-(intOf t8).toNat)
 case atStart=>exact⟨0,rfl,Nat.zero_le _,Hd rfl,Hd brf⟩
 case round=>
  obtain⟨k,rfl,hk,HA,HB⟩:=hrel;by_cases hlt:k<t.nodes.length
  ·obtain⟨b,o,ka,kc,ea,hb,c0,c1,c2,c3,c4,hkr⟩:=(HT.out.mono HB.out nlr).nodes.at hlt
   simp only at ea;subst ea;have HC:=HSH.out k hlt ka kc wr HB.out hkr;obtain⟨D,hD⟩:∃D,t.nodes[k]=D:=⟨_,rfl⟩
   rw[hD]at HC c0 c1 c2 c3 c4;obtain⟨y,hy⟩:∃y,(!eP t k)=y:=⟨_,rfl⟩
   rw[hy]at HC;have HCH:=Hd HC;have HY:=Hd hy;clear hD hkr HC hy
   cases y with
   | true=>
     go_wp2_with (go_at_call 180;refine HCH.out.mono ?_;rintro e w' ⟨rfl,hb'⟩;have HB':Hid (Below w.heap.size w w'):=Hd (HB.out.trans (hb'.mono HB.out.size));clear hb')
     go_ret;exact⟨zo (by rw[HA.out];exact(aE hlt HY.out).symm),HB'.out⟩
   | false=>
     go_wp2_with (go_at_call 180;refine HCH.out.mono ?_;rintro e w' ⟨rfl,hb'⟩;have HB':Hid (Below w.heap.size w w'):=Hd (HB.out.trans (hb'.mono HB.out.size));clear hb')
     go_roundw
     case rel=>exact⟨k+1,by go_num,by omega,Hd (by rw[HA.out];exact cI hlt HY.out),HB'⟩
     case measure=>simp[intOf];omega
  ·go_wp2
   go_ret;exact⟨zo (by rw[HA.out];exact(cD (by omega)).symm),HB.out⟩
theorem gZ(v:TreeV)(t:Tr)(w:World)(bd:Bd t)(hc:Choices t)(h:IsTree w v t) :
 Calls prog 130 #[v.val t] w (dL w (aF t)):=by
 have HX:=Hd (vW v t w.heap.size (boxT w v t) bd hc (h.mono ((Below.refl _ w).alloc nlr _) nlr) (by simp) (by simp));clear h bd hc;unfold TreeV.val;go_enter func130,ntmps130
 go_wp2_with (go_at_call 179;refine HX.out.mono ?_;rintro e w' ⟨rfl,hb'⟩;have HB':Hid (Below w.heap.size w w'):=Hd (((Below.refl _ w).alloc nlr _).trans (hb'.mono (by simp)));clear hb')
 go_ret;exact⟨rfl,HB'.out⟩
theorem pE{E:PE}(tk:mD E):Good1 E (iE E):=by
 intro s a s' hs h;unfold iE at h;split at h
 ·rename_i hi
  have hlt:=eT hi;obtain⟨s1,h1,h2⟩:=bind_ok.1 h;obtain⟨rfl,hlt1,hk⟩:=cA (by decide) h1;obtain⟨rfl,rfl⟩:=bD h2;have hv:=tk _ (dW hlt1) hk;exact cR ((((Adv.refl hs).take hlt).take hlt1).less (by omega)) (ndok cK (by simp) (by omega) (by omega) (.inl rfl) (by omega))
 ·obtain⟨s1,h1,h2⟩:=bind_ok.1 h
  obtain⟨rfl,hlt1,hk⟩:=cA (by decide) h1;obtain⟨rfl,rfl⟩:=bD h2;have hv:=tk _ (dW hlt1) hk;exact cR ((Adv.refl hs).take hlt1) (ndok cK (by simp) (by omega) (by omega) (.inl rfl) (by omega))
def Item1(E:PE)(s0:PS)(r:PR (Int×PS)):Prop:=∀a s',r=.ok (a,s')→Rd E s0 a s'
theorem AY{E:PE}(tk:mD E){own:Tk}{s0 s:PS}(ad:Adv E 1 s0 s):Item1 E s0 (kM E own s):=by
 intro a s' h;unfold kM at h;obtain⟨s1,h1,h2⟩:=bind_ok.1 h;obtain⟨rfl,hlt1,-⟩:=cA (by decide) h1;obtain⟨s2,h3,h4⟩:=bind_ok.1 h2;obtain⟨rfl,hlt2⟩:=bF h3;obtain⟨⟨b,c⟩,h5,h6⟩:=bind_ok.1 h4;obtain⟨s4,h7,h8⟩:=bind_ok.1 h6;obtain⟨rfl,hlt4⟩:=bF h7;obtain⟨⟨d,e⟩,h9,h10⟩:=bind_ok.1 h8;obtain⟨rfl,rfl⟩:=bD h10;have r:=pE tk s.take.take b c (by simp only[PS.take]at hlt2⊢;omega) h5;have r2:=pE tk c.take d e (by simp only[PS.take]at hlt4⊢;omega) h9;have l2:=r2.adv.len;have a1:=r.lo;have a2:=r2.lo;have b1:=r.hi;have b2:=r2.hi;simp only[PS.take]at l2 a1 a2;refine cR (((((ad.take hlt1).take hlt2).trans r.adv).take hlt4).trans r2.adv |>.less (by omega)) (ndok ?_ (by simp) (by omega) (by omega) (.inr (fE hlt1)) (fun _=>⟨_,_,rfl⟩));intro k hk;simp only[List.mem_cons,List.not_mem_nil,or_false]at hk;simp only;rcases hk with rfl|rfl<;>omega
theorem BS{E:PE}{param:RdP}(g:Good1 E param){own:Tk}{s0 s:PS}(ad:Adv E 1 s0 s):Item1 E s0 (kT param E own s):=by
 intro a s' h;unfold kT at h;obtain⟨s1,h1,h2⟩:=bind_ok.1 h;obtain⟨rfl,hlt1,-⟩:=cA (by decide) h1;obtain⟨s2,h3,h4⟩:=bind_ok.1 h2;obtain⟨rfl,hlt2⟩:=bF h3;obtain⟨s3,h5,h6⟩:=bind_ok.1 h4;obtain⟨rfl,hlt3⟩:=bF h5;obtain⟨⟨l,c⟩,h7,h8⟩:=bind_ok.1 h6;obtain⟨s5,h9,h10⟩:=bind_ok.1 h8;obtain⟨rfl,hlt5⟩:=bF h9;obtain⟨rfl,rfl⟩:=bD h10;obtain⟨k1,k2,k3⟩:=jV g (by simp only[PS.take]at hlt3⊢;omega) h7;have hl:=k1.le;exact cR ((((((ad.take hlt1).take hlt2).take hlt3).trans k1).take hlt5).less (by omega)) (ndok (by simpa[PS.take]using k2) (by dsimp only;omega) (by omega) (by omega) (.inr (fE hlt1)) (by omega))
theorem KZ{E:PE}(tk:mD E){s s':PS}{n:Int}(hs:s.next≤E.toks.length)(h:sV E s=.ok (n,s')):Adv E 0 s s'∧0≤n∧n≤9999∧s'.nodes=s.nodes:=by
 unfold sV at h;split at h
 ·rename_i hi
  have hlt:=eT hi;split at h
  ·cases h
  ·obtain⟨s1,h1,h2⟩:=bind_ok.1 h
   obtain⟨rfl,hlt1,hk⟩:=cA (by decide) h1;simp only[Except.ok.injEq,Prod.mk.injEq]at h2;obtain⟨rfl,rfl⟩:=h2;have hv:=tk _ (dW hlt1) hk;exact⟨(((Adv.refl hs).take hlt).take hlt1).less (by omega),hv.1,hv.2,rfl⟩
 ·simp only[Except.ok.injEq,Prod.mk.injEq]at h
  obtain⟨rfl,rfl⟩:=h;exact⟨Adv.refl hs,by omega,by omega,rfl⟩
theorem uF{E:PE}(tk:mD E){param kindOf expr:RdP}(gp:Good1 E param)(gk:Good1 E kindOf)(ge:Good1 E expr){own:Tk}{s0 s:PS}(ad:Adv E 1 s0 s):Item1 E s0 (fM param kindOf expr E own s):=by
 intro a s' h;unfold fM at h;obtain⟨s1,h1,h2⟩:=bind_ok.1 h;obtain⟨rfl,hlt1,-⟩:=cA (by decide) h1;obtain⟨s2,h3,h4⟩:=bind_ok.1 h2;obtain⟨rfl,hlt2⟩:=bF h3;obtain⟨⟨l,c⟩,h5,h6⟩:=bind_ok.1 h4;obtain⟨s4,h7,h8⟩:=bind_ok.1 h6;obtain⟨rfl,hlt4⟩:=bF h7;obtain⟨s5,h9,h10⟩:=bind_ok.1 h8;obtain⟨rfl,hlt5⟩:=bF h9;obtain⟨⟨k,d⟩,h11,h12⟩:=bind_ok.1 h10;obtain⟨⟨u,e⟩,h13,h14⟩:=bind_ok.1 h12;obtain⟨s8,h15,h16⟩:=bind_ok.1 h14;obtain⟨rfl,hlt8⟩:=bF h15;obtain⟨⟨x,f⟩,h17,h18⟩:=bind_ok.1 h16;obtain⟨rfl,rfl⟩:=bD h18
 obtain⟨k1,k2,k3⟩:Adv E 0 s.take.take c∧(∀k∈l,0≤k∧k<(c.nodes.length:Int))∧l.length+s.take.take.next≤c.next:=by
  split at h5
  ·simp only[Except.ok.injEq,Prod.mk.injEq]at h5
   obtain⟨rfl,rfl⟩:=h5;exact⟨Adv.refl (by simp only[PS.take]at hlt2⊢;omega),cK,by simp⟩
  ·exact jV gp (by simp only[PS.take]at hlt2⊢;omega) h5
 have r1:=gk c.take.take k d (by simp only[PS.take]at hlt5⊢;omega) h11;obtain⟨u1,u2,u3,u4⟩:=KZ tk r1.adv.le h13;have r2:=ge e.take x f (by simp only[PS.take]at hlt8⊢;omega) h17;have l1:=r1.adv.len;have l2:=r2.adv.len;have l0:=k1.len;have a1:=r1.lo;have a2:=r2.lo;have b1:=r1.hi;have b2:=r2.hi;have hl:=k1.le;have hul:=u1.len;simp only[PS.take]at l1 l2 a1 a2 l0 hul k3;refine cR (((((((((ad.take hlt1).take hlt2).trans k1).take hlt4).take hlt5).trans r1.adv).trans u1).take hlt8).trans r2.adv |>.less (by omega)) (ndok ?_ (by simp;omega) (by omega) (by omega) (.inr (fE hlt1)) (by omega));intro y hy;simp only[List.mem_append,List.mem_cons,List.not_mem_nil,or_false]at hy;simp only;rcases hy with(hy|rfl) | rfl
 ·have:=k2 y hy;omega
 ·omega
 ·omega
theorem FQ{E:PE}{rd:RdP}(g:Good1 E rd){k:Int}{x:List UInt8}(hk:1≤k∧k≤46∧k≠40){own:Tk}{s0 s:PS}(ad:Adv E 1 s0 s) :
 Item1 E s0 ((bZ E s 1).bind fun s1=>(cM E s1 x).bind fun s2=>(rd s2).bind fun e=>addR e.2 k own (zi E s).text 0 [e.1]):=by
 intro a s' h;obtain⟨s1,h1,h2⟩:=bind_ok.1 h;obtain⟨rfl,hlt1,-⟩:=cA (by decide) h1;obtain⟨s2,h3,h4⟩:=bind_ok.1 h2;obtain⟨rfl,hlt2⟩:=bF h3;obtain⟨⟨b,c⟩,h5,h6⟩:=bind_ok.1 h4;obtain⟨rfl,rfl⟩:=bD h6;have r:=g s.take.take b c (by simp only[PS.take]at hlt2⊢;omega) h5;have hlo:=r.lo;exact cR ((((ad.take hlt1).take hlt2).trans r.adv).less (by omega)) (ndok (lN (by omega) r.hi) (by simp) (by omega) (by omega) (.inr (fE hlt1)) (by omega))
theorem xO{E:PE}{own:Tk}{s0 s:PS}(ad:Adv E 1 s0 s):Item1 E s0 (iI E own s):=by
 intro a s' h;unfold iI at h;obtain⟨s1,h1,h2⟩:=bind_ok.1 h;obtain⟨rfl,hlt1,-⟩:=cA (by decide) h1;obtain⟨rfl,rfl⟩:=bD h2;exact cR ((ad.take hlt1).less (by omega)) (ndok cK (by simp) (by omega) (by omega) (.inr (fE hlt1)) (by omega))
theorem uZ(x:List UInt8):0≤fX x∧fX x≤8:=by
 unfold fX
 repeat' split
 all_goals omega
theorem IL{E:PE}{expr:RdP}(g:Good1 E expr){own:Tk}{s0 s:PS}(ad:Adv E 1 s0 s):Item1 E s0 (wT expr E own s):=by
 intro a s' h;have hq:=uZ (zi E s).text;unfold wT at h;cases hz:(fX (zi E s).text==0)with
 |true=>rw[if_pos hz]at h;cases h
 | false=>
   rw[if_neg (by rw[hz];exact Bool.false_ne_true)]at h;have hlt:s.next<E.toks.length:=fV (kinds:=fX) (by decide) hz;obtain⟨⟨l,c⟩,h1,h2⟩:=bind_ok.1 h;obtain⟨rfl,rfl⟩:=bD h2
   obtain⟨k1,k2,k3⟩:Adv E 0 s.take c∧(∀k∈l,0≤k∧k<(c.nodes.length:Int))∧l.length+s.take.next≤c.next:=by
    split at h1
    ·simp only[Except.ok.injEq,Prod.mk.injEq]at h1
     obtain⟨rfl,rfl⟩:=h1;exact⟨Adv.refl (by simp only[PS.take];omega),cK,by simp⟩
    ·split at h1
     ·exact jV g (by simp only[PS.take];omega) h1
     ·obtain⟨⟨b,d⟩,h3,h4⟩:=bind_ok.1 h1
      simp only[Except.ok.injEq,Prod.mk.injEq]at h4;obtain⟨rfl,rfl⟩:=h4;have r:=g s.take b d (by simp only[PS.take];omega) h3;have hlo:=r.lo;have hm:=r.more;exact⟨r.adv,lN (by omega) r.hi,by simp;omega⟩
   have hl:=k1.le;exact cR (((ad.take hlt).trans k1).less (by omega)) (ndok k2 (by dsimp only;omega) (by omega) (by omega) (.inl rfl) (by omega))
theorem JG{E:PE}(tk:mD E):Good1 E (pG E):=by
 intro s a s' hs h;unfold pG at h;cases hk:((zi E s).kind != 3)with
 |true=>rw[if_pos hk]at h;cases h
 | false=>
   rw[if_neg (by rw[hk];exact Bool.false_ne_true)]at h;have hlt:s.next<E.toks.length:=pJ (k:=3) (by decide) (by simpa using hk);have ad:=(Adv.refl hs).take hlt;have G:=fun nt=>uV tk (ME E) nt;split at h
   ·exact AY tk ad a s' h
   ·split at h
    ·exact BS (G .param) ad a s' h
    ·split at h
     ·exact uF tk (G .param) (G .kindOf) (G .expr) ad a s' h
     ·split at h
      ·exact FQ (G .expr) (k:=43) (by omega) ad a s' h
      ·split at h
       ·exact FQ (G .expr) (k:=44) (by omega) ad a s' h
       ·split at h
        ·exact xO ad a s' h
        ·split at h
         ·exact IL (G .expr) ad a s' h
         ·cases h
theorem pS{E:PE}(tk:mD E):∀(f:Nat) (l:List Int) (s:PS) (l':List Int) (s':PS),s.next≤E.toks.length→(∀k∈l,0≤k∧k<(s.nodes.length:Int))→bS E f l s=.ok (l',s') →
 Adv E 0 s s'∧(∀k∈l',0≤k∧k<(s'.nodes.length:Int))∧l'.length+s.next≤l.length+s'.next
 | 0,l,s,l',s',hs,hl,h=>by
   simp only[bS,Except.ok.injEq,Prod.mk.injEq]at h;obtain⟨rfl,rfl⟩:=h;exact⟨Adv.refl hs,hl,nlr⟩
 | f+1,l,s,l',s',hs,hl,h=>by
   rw[bS]at h;split at h
   ·obtain⟨⟨a,b⟩,h1,h2⟩:=bind_ok.1 h
    obtain⟨s2,h6,h7⟩:=bind_ok.1 h2;obtain⟨rfl,hlt2⟩:=bF h6;have r:=JG tk s a b hs h1;have hb:=r.adv.len;have hlo:=r.lo;have hhi:=r.hi;have hm:=r.more
    obtain⟨h3,h4,h5⟩:=pS tk f _ b.take l' s' (by simp only[PS.take]at hlt2⊢;omega) (by
     intro k hk;simp only[PS.take];rcases List.mem_append.1 hk with hk|hk
     ·have:=hl k hk;omega
     ·obtain rfl:=List.mem_singleton.1 hk
      omega) h7
    refine⟨((r.adv.take hlt2).trans h3).less (by omega),h4,?_⟩;simp only[List.length_append,List.length_singleton,PS.take]at h5;omega
   ·simp only[Except.ok.injEq,Prod.mk.injEq]at h
    obtain⟨rfl,rfl⟩:=h;exact⟨Adv.refl hs,hl,nlr⟩
structure TreeOk (E:PE) (t:Tr):Prop where
 n:t.nodes.length≤E.toks.length
 i:t.items.length≤E.toks.length
 nd:∀i d,t.nodes[i]?=some d→NdOk E i d
 it:∀k∈t.items,0≤k∧k<(t.nodes.length:Int)
theorem yW{E:PE}(tk:mD E){t:Tr}(h:nG E=.ok t):TreeOk E t:=by
 unfold nG at h;cases hp:bS E (E.toks.length+1) [] ⟨0,[]⟩with
 |error e=>rw[hp]at h;cases h
 | ok r=>
   rw[hp]at h;obtain rfl:=Except.ok.inj h;obtain⟨l,s'⟩:=r;obtain⟨h1,h2,h3⟩:=pS tk _ [] ⟨0,[]⟩ l s' (Nat.zero_le _) cK hp;have hl:=h1.len;have hle:=h1.le;simp only[List.length_nil]at hl h3;exact⟨by simp only;omega,by simp only;omega,fun i d hd=>h1.ok i d (Nat.zero_le _) hd,h2⟩
theorem TreeOk.bd{E:PE}{t:Tr}(h:TreeOk E t)(hE:E.toks.length≤800)(hT:∀x∈E.toks,x.text.length≤1000000000):Bd t:=by
 have h1:=h.n;have h2:=h.i;refine⟨by omega,by omega,fun d hd=>?_,fun d hd=>?_⟩
 ·obtain⟨i,hi,rfl⟩:=List.getElem_of_mem hd
  have:=(h.nd i _ (List.getElem?_eq_getElem hi)).kids;omega
 ·obtain⟨i,hi,rfl⟩:=List.getElem_of_mem hd
  rcases(h.nd i _ (List.getElem?_eq_getElem hi)).text with e|⟨x,hx,e⟩
  ·rw[e];simp
  ·rw[e];exact hT x hx
theorem TreeOk.at_{E:PE}{t:Tr}(h:TreeOk E t){i:Nat}(hi:i<t.nodes.length):NdOk E i (t.nd i):=by
 rw[t.nd_at hi];exact h.nd i _ (List.getElem?_eq_getElem hi)
theorem TreeOk.rg{E:PE}{t:Tr}(h:TreeOk E t):Rg t:=fun i hi=>by
 have:=(h.at_ hi).n;omega
theorem TreeOk.kid{E:PE}{t:Tr}(h:TreeOk E t):∀i,i<t.nodes.length→∀k∈(t.nd i).kids,0≤k∧k<(i:Int):=fun _ hi=>(h.at_ hi).kid
theorem TreeOk.choices{E:PE}{t:Tr}(h:TreeOk E t):Choices t:=by
 intro i hi hk;have ok:=h.at_ hi;obtain⟨k0,k1,e⟩:=ok.choose hk;have a0:=ok.kid k0 (by rw[e];simp);have a1:=ok.kid k1 (by rw[e];simp);obtain⟨m0,rfl⟩:=Int.eq_ofNat_of_zero_le a0.1;obtain⟨m1,rfl⟩:=Int.eq_ofNat_of_zero_le a1.1;have n0:=(h.at_ (i:=m0) (by omega)).n;have n1:=(h.at_ (i:=m1) (by omega)).n;exact⟨m0,m1,by omega,by omega,e,n0.1,n0.2,n1.1,n1.2⟩
end
end Go.Proofs.YtokdgiphdnjeoaaGreatDoor
