/- Part of a proof. -/
import Derived.Test.YtcdkdiedphhdhaaGreatDoorK21
set_option maxRecDepth 100000
set_option maxHeartbeats 8000000
set_option linter.unusedVariables false
set_option linter.unusedSimpArgs false
open Go.Proofs.Tryz
namespace Go.Proofs.YtcdkdiedphhdhaaGreatDoor
section
open Go.RowKit
abbrev OwnU(W:World)(B:Nat)(a:Option Addr)(c:Nat)(l:List Int):Prop:=W.ownsRow B 5 1 (.slice a l.length c) l.length (u8sV l)
theorem QJ(l:List Int):∀u∈u8sV l,u.oneCell'=true:=by
 intro u hu;obtain⟨c,_,rfl⟩:=List.mem_map.1 hu;rfl
theorem JM{W:World}{B:Nat}{a:Option Addr}{c:Nat}{l:List Int}(h:OwnU W B a c l):U8s W a c l:=by
 obtain⟨a',c',e,hr⟩:=aZ h;simp at e;obtain⟨rfl,rfl⟩:=e;exact hr
theorem rU{W:World}{ops:Array Oper}{rest:List Oper}{o:Oper}{a:Act}{Q:Exit->Act->World->Prop}(hgd:o.guard=none)(s x:Operand)
 (ho:o.op=.call { callee:=.builtin .append,args:=#[s,x],argTypes:=#[46,46] })
 {B:Nat}{av:Option Addr}{cv:Nat}{l:List Int}(hs:a.eval s=.slice av l.length cv)(hown:OwnU W B av cv l)
 {ax:Option Addr}{m c:Nat}{news:List Int}(hx:a.eval x=.slice ax m c)(hr:Row 1 W ax m c (u8sV news))
 (hbytes:l.length+m<=4398046511104)(hB:B<=W.heap.size)
 (h:∀a' c' w' l',Hid (l'=l++news)->l'.length<=l.length+m->OwnU w' B a' c' l'->(∀B' A,B'<=B->Below B' A W->Below B' A w')->wpList prog ops Q rest (a.put o.dst (.slice a' l'.length c')) w'):wpList prog ops Q (o::rest) a W:=by
 have hm:m=news.length:=by have:=hr.1;simpa using this.symm
 subst hm;refine eF hgd s x 46 5 (.int .u8 0) 1 1 ho BR PV rfl (by decide) hs hown hx hr (QJ _) (by unfold maxLen;omega) (by omega) hB ?_;intro a' c' w' h1 h2 h3;have e:l.length+news.length=(l++news).length:=by simp
 have e2:u8sV l++u8sV news=u8sV (l++news):=by simp
 rw[e,e2]at h1;rw[e];exact h a' c' w' _ (Hd rfl) (by simp) h1 (dD hown h2 hB)
theorem pW{t:Tr}{i:Nat}(h:fV (t.nd i).kind (t.nd i).n=none):dC t i=false:=by unfold dC;rw[h]
theorem pX{t:Tr}{i:Nat}{s:Shape}(h:fV (t.nd i).kind (t.nd i).n=some s):dC t i=((zu (t.nd i).pos 0 2000&&(s.named==((t.nd i).text != []))&&(!s.named||zG (t.nd i).text))&&((t.nd i).kids.all (fun k=>zu k 0 ((i:Int)-1)) &&
 (eN s.parts (bK t i)&&(zu (t.nd i).n s.lo s.hi||(t.nd i).kind==1&&zu (t.nd i).n (-9999) (-1))))):=by unfold dC;rw[h]
theorem lT{l:List Int}{k:Nat}(h:k<l.length)(p:Int->Bool):(l.take (k+1)).all p=((l.take k).all p&&p l[k]):=by
 rw[List.take_succ_eq_append_getElem h,List.all_append];simp
theorem OK{l:List Int}{k:Nat}(h:k<l.length){p:Int->Bool}(hp:p l[k]=false):l.all p=false:=by
 rw[Bool.eq_false_iff];intro ha;have:=List.all_eq_true.1 ha _ (List.getElem_mem h);rw[hp]at this;cases this
theorem dJ{w w3 wr:World}{v:TreeV}{t:Tr}{ka:Option Addr}{kc:Nat}{d:Nd}{s:Shape}{sa:Option Addr}{sc:Nat}(h3:Below (w.heap.size+1+1) (boxD (boxT w v t) ka kc d) w3)(hb:Below (w3.heap.size+1) (boxS w3 s sa sc) wr)(h:IsTree w v t) :
 (wr.cell? ⟨w.heap.size,0,none⟩=some (.slice v.na t.nodes.length v.nc)) /\
 (wr.cell? ⟨w.heap.size+1,0,none⟩=some (.int .u8 d.kind)/\wr.cell? ⟨w.heap.size+1,1,none⟩=some (strV d.text)/\wr.cell? ⟨w.heap.size+1,2,none⟩=some (intV d.n)/\wr.cell? ⟨w.heap.size+1,3,none⟩=some (.slice ka d.kids.length kc)/\wr.cell? ⟨w.heap.size+1,4,none⟩=some (intV d.pos)) /\
 (wr.cell? ⟨w3.heap.size,0,none⟩=some (.bool s.named)/\wr.cell? ⟨w3.heap.size,1,none⟩=some (intV s.lo)/\wr.cell? ⟨w3.heap.size,2,none⟩=some (intV s.hi)/\wr.cell? ⟨w3.heap.size,3,none⟩=some (.slice sa s.parts.length sc)) /\
 Below w.heap.size w wr/\Below w3.heap.size w3 wr/\(w.heap.size+1+1<=w3.heap.size/\w3.heap.size+1<=wr.heap.size):=by
 have ha:=h3.size;simp only[World.size_alloc]at ha;have hs:=hb.size;simp only[World.size_alloc]at hs;have hd:Below w3.heap.size w3 wr:=((Below.refl _ w3).alloc nlr _).trans (hb.mono (by omega));have h4:Below (w.heap.size+1+1) (boxD (boxT w v t) ka kc d) wr:=h3.trans (hd.mono ha);obtain⟨⟨b0,b1⟩,⟨d0,d1,d2,d3⟩,hT,_,hW⟩:=kY h4 h;have d4:=iK h4;have he:Below (boxS w3 s sa sc).heap.size (boxS w3 s sa sc) wr:=by simpa using hb
 obtain⟨hc,_⟩:=bcell he;have e0:(boxS w3 s sa sc).cell? ⟨w3.heap.size,0,none⟩=some (.bool s.named):=by simp
 have e1:(boxS w3 s sa sc).cell? ⟨w3.heap.size,1,none⟩=some (intV s.lo):=by simp
 have e2:(boxS w3 s sa sc).cell? ⟨w3.heap.size,2,none⟩=some (intV s.hi):=by simp
 have e3:(boxS w3 s sa sc).cell? ⟨w3.heap.size,3,none⟩=some (.slice sa s.parts.length sc):=by simp
 exact⟨b0,⟨d0,d1,d2,d3,d4⟩,⟨(hc _ _ (by simp)).trans e0,(hc _ _ (by simp)).trans e1,(hc _ _ (by simp)).trans e2,(hc _ _ (by simp)).trans e3⟩,hW,hd,⟨ha,hs⟩⟩
theorem xY(v:TreeV)(t:Tr)(i:Nat)(w:World)(bd:Bd t)(hi:i<t.nodes.length)(hg:GV w)(h:IsTree w v t) :
 Calls prog 117 #[v.val t,intV i] w (zD w (dC t i)):=by
 have HT:=Hd h;have HG:=Hd hg;have hY:=bd.n;obtain⟨b,o,ka,kc,ea,hb,c0,c1,c2,c3,c4,hN⟩:=h.nodes.at hi;have hQ:=t.nd_at hi;have hW:=bd.k _ (List.getElem_mem hi);have hz:=bd.s _ (List.getElem_mem hi);obtain⟨d,hd⟩:∃d,t.nodes[i]=d:=⟨_,rfl⟩
 rw[hd]at c0 c1 c2 c3 c4 hN hQ hW hz;obtain⟨na,nc,ia,ic⟩:=v;simp only at ea;subst ea;have HJ:=Hd hN;have Hm:=Hd hQ;have HM:=Hd bd;clear h bd hN hQ hd hg;unfold TreeV.val;have hS:∀W,Calls prog 153 #[.agg #[.int .u8 d.kind,strV d.text,intV d.n,.slice ka d.kids.length kc,intV d.pos]] W (zJ W (fV d.kind d.n)):=fun W=>DQ d ka kc W;have Hv:=Hd hS;clear hS
 cases hsp:fV d.kind d.n with
 | none=>
   have Hq:=Hd hsp;clear hsp;go_enter func117,ntmps117
   go_wp2_with (go_at_call 153;refine(Hv.o _).mono ?_;rw[Hq.o];rintro e w3 ⟨sa,sn,sc,rfl,ho⟩;have Ha:=Hd ho;clear ho)
   go_ret;have h3:=Ha.o.mono (show w.heap.size<=_ by simp;omega);exact⟨zc (pW (by rw[Hm.o];exact Hq.o)).symm,((brf.alloc nlr _).alloc (by simp) _).trans h3 |>.alloc (by have:=h3.size;simp at this;omega) _⟩
 | some s=>
   have Hq:=Hd hsp;have hT:=AP hsp;have HL:=Hd hT;have HF:=Hd (pX (t:=t) (i:=i) (s:=s) (by rw[Hm.o];exact hsp));clear hsp hT
   cases hpo:zu d.pos 0 2000 with
   | false=>
     have Hg:=Hd hpo;have Hk:=Hg;clear hpo;go_enter func117,ntmps117
     go_wp2_with (first
      | (go_at_call 153;refine(Hv.o _).mono ?_;rw[Hq.o];rintro e w3 ⟨sa,sc,he,hl,ho⟩;have he:e=.returned (.tuple #[.agg #[.bool s.named,intV s.lo,intV s.hi,.slice sa s.parts.length sc],.bool true]):=he;subst he;have Ha:=Hd (show Below (w.heap.size+1+1) (boxD (boxT w ⟨some ⟨b,o,none⟩,nc,ia,ic⟩ t) ka kc d) w3 from ho.mono (by simp));have Hh:=Hd hl;obtain⟨b0,⟨d0,d1,d2,d3,d4⟩,⟨s0,s1,s2,s3⟩,hc,ha,⟨hG,hH⟩⟩:=dJ (s:=s) (sa:=sa) (sc:=sc) Ha.o brf HT.o;have Hi:=Hd hc;obtain⟨⟨q0,q1⟩,⟨e0,e1,e2,e3⟩,-,-,-⟩:=kY Ha.o HT.o;have e4:=iK Ha.o;have hI:w.heap.size+1<w3.heap.size:=(by omega);have hJ:w.heap.size<w3.heap.size:=(by omega);clear ho hl hc ha)
      | (go_at_call 135;refine(zw _ _ _ _).mono ?_;rw[Hg.o];rintro e w' ⟨rfl,rfl⟩)
      | (go_at_call 35;refine(bO d.text _ hz (HG.o.mono Hi.o nlr)).mono ?_;rw[Hk.o];rintro e w4 ⟨rfl,hq⟩;have Hl:=Hd (show Below (w3.heap.size+1) (boxS w3 s sa sc) w4 from hq.mono (by simp));obtain⟨b0,⟨d0,d1,d2,d3,d4⟩,⟨s0,s1,s2,s3⟩,hc,ha,⟨hs,hp⟩⟩:=dJ (s:=s) (sa:=sa) (sc:=sc) Ha.o Hl.o HT.o;have Hj:=Hd hc;clear hq hc ha))
     go_ret;exact⟨zc (by rw[HF.o,Hm.o,Hg.o];simp),Hi.o⟩
   | true=>
     have Hg:=Hd hpo;clear hpo;obtain⟨nm,lo,hi,ps⟩:=s;by_cases htx:d.text=[]
     .have HI:=Hd htx
      have hR:(d.text==[])=true:=by simpa using htx
      have hK:(d.text != [])=false:=by simpa using htx
      clear htx
      cases nm with
      | true=>
        have Hk:=Hg;go_enter func117,ntmps117
        go_wp2_with (first
         | (go_at_call 153;refine(Hv.o _).mono ?_;rw[Hq.o];rintro e w3 ⟨sa,sc,he,hl,ho⟩;have he:e=.returned (.tuple #[.agg #[.bool true,intV lo,intV hi,.slice sa ps.length sc],.bool true]):=he;subst he;have Ha:=Hd (show Below (w.heap.size+1+1) (boxD (boxT w ⟨some ⟨b,o,none⟩,nc,ia,ic⟩ t) ka kc d) w3 from ho.mono (by simp));have Hh:=Hd hl;obtain⟨b0,⟨d0,d1,d2,d3,d4⟩,⟨s0,s1,s2,s3⟩,hc,ha,⟨hG,hH⟩⟩:=dJ (s:=⟨true,lo,hi,ps⟩) (sa:=sa) (sc:=sc) Ha.o brf HT.o;have Hi:=Hd hc;obtain⟨⟨q0,q1⟩,⟨e0,e1,e2,e3⟩,-,-,-⟩:=kY Ha.o HT.o;have e4:=iK Ha.o;have hI:w.heap.size+1<w3.heap.size:=(by omega);have hJ:w.heap.size<w3.heap.size:=(by omega);clear ho hl hc ha)
         | (go_at_call 135;refine(zw _ _ _ _).mono ?_;rw[Hg.o];rintro e w' ⟨rfl,rfl⟩)
         | (go_at_call 35;refine(bO d.text _ hz (HG.o.mono Hi.o nlr)).mono ?_;rw[Hk.o];rintro e w4 ⟨rfl,hq⟩;have Hl:=Hd (show Below (w3.heap.size+1) (boxS w3 ⟨true,lo,hi,ps⟩ sa sc) w4 from hq.mono (by simp));obtain⟨b0,⟨d0,d1,d2,d3,d4⟩,⟨s0,s1,s2,s3⟩,hc,ha,⟨hs,hp⟩⟩:=dJ (s:=⟨true,lo,hi,ps⟩) (sa:=sa) (sc:=sc) Ha.o Hl.o HT.o;have Hj:=Hd hc;clear hq hc ha))
        go_ret;exact⟨zc (by rw[HF.o,Hm.o,Hg.o,HI.o];rfl),Hi.o⟩
      | false=>
        have Hk:=Hg;go_enter func117,ntmps117
        go_wp2_with (first
         | (go_at_call 153;refine(Hv.o _).mono ?_;rw[Hq.o];rintro e w3 ⟨sa,sc,he,hl,ho⟩;have he:e=.returned (.tuple #[.agg #[.bool false,intV lo,intV hi,.slice sa ps.length sc],.bool true]):=he;subst he;have Ha:=Hd (show Below (w.heap.size+1+1) (boxD (boxT w ⟨some ⟨b,o,none⟩,nc,ia,ic⟩ t) ka kc d) w3 from ho.mono (by simp));have Hh:=Hd hl;obtain⟨b0,⟨d0,d1,d2,d3,d4⟩,⟨s0,s1,s2,s3⟩,hc,ha,⟨hG,hH⟩⟩:=dJ (s:=⟨false,lo,hi,ps⟩) (sa:=sa) (sc:=sc) Ha.o brf HT.o;have Hi:=Hd hc;obtain⟨⟨q0,q1⟩,⟨e0,e1,e2,e3⟩,-,-,-⟩:=kY Ha.o HT.o;have e4:=iK Ha.o;have hI:w.heap.size+1<w3.heap.size:=(by omega);have hJ:w.heap.size<w3.heap.size:=(by omega);clear ho hl hc ha)
         | (go_at_call 135;refine(zw _ _ _ _).mono ?_;rw[Hg.o];rintro e w' ⟨rfl,rfl⟩)
         | (go_at_call 35;refine(bO d.text _ hz (HG.o.mono Hi.o nlr)).mono ?_;rw[Hk.o];rintro e w4 ⟨rfl,hq⟩;have Hl:=Hd (show Below (w3.heap.size+1) (boxS w3 ⟨false,lo,hi,ps⟩ sa sc) w4 from hq.mono (by simp));obtain⟨b0,⟨d0,d1,d2,d3,d4⟩,⟨s0,s1,s2,s3⟩,hc,ha,⟨hs,hp⟩⟩:=dJ (s:=⟨false,lo,hi,ps⟩) (sa:=sa) (sc:=sc) Ha.o Hl.o HT.o;have Hj:=Hd hc;clear hq hc ha))
        go_loopw [8,50] (fun t8 t50 wr=>∃(j:Nat) (a8:Option Addr) (c8:Nat) (q:List Int),t50=.int .i64 j/\t8=.slice a8 q.length c8/\j<=d.kids.length/\q.length=j/\Hid (q=(d.kids.take j).map fun k=>(t.nd k).kind)/\Hid ((d.kids.take j).all (fun k=>zu k 0 ((i:Int)-1))=true)/\Hid (OwnU wr (w3.heap.size+1) a8 c8 q)/\Hid (Below (w3.heap.size+1) (boxS w3 ⟨false,lo,hi,ps⟩ sa sc) wr)) (fun _ x _=>d.kids.length-(intOf x).toNat)
        case atStart=>exact⟨0,none,0,[],rfl,rfl,Nat.zero_le _,rfl,Hd rfl,Hd rfl,Hd ⟨rfl,.inl ⟨rfl,rfl⟩⟩,Hd brf⟩
        case round=>
         obtain⟨j,a8,c8,q,rfl,rfl,hj,hE,HQ,HA,HO,HB⟩:=hrel;obtain⟨b0,⟨d0,d1,d2,d3,d4⟩,⟨s0,s1,s2,s3⟩,hc,ha,⟨hs,hp⟩⟩:=dJ (s:=⟨false,lo,hi,ps⟩) (sa:=sa) (sc:=sc) Ha.o HB.o HT.o;have Hb:=Hd hc;have Hr:=Hd ha;have HC:=Hd hE;have hX:q.length<=1000000:=by omega
         clear hc ha hE;by_cases hlt:j<d.kids.length
         .obtain⟨bk,ok,ek,hV,hL⟩:=Ints.at (HJ.o.mono Hb.o nlr) hlt
          subst ek;obtain⟨k,hk⟩:∃k,d.kids[j]=k:=⟨_,rfl⟩
          rw[hk]at hL;have HK:=Hd hk;have hv:=List.take_succ_eq_append_getElem hlt;have HH:=Hd hv;have Hz:=Hd (lT hlt (fun k=>zu k 0 ((i:Int)-1)));clear hk hv;cases hin:zu k 0 ((i:Int)-1)with
          | false=>
            have Hp:=Hd hin;have HD:=Hd (OK hlt (p:=fun k=>zu k 0 ((i:Int)-1)) (by rw[HK.o];exact hin));clear hin
            go_wp2_with (go_at_call 135;refine(zw _ _ _ _).mono ?_;rw[Hp.o];rintro e w' ⟨rfl,rfl⟩)
            go_ret;exact⟨zc (by rw[HF.o,Hm.o,HD.o];simp),Hb.o⟩
          | true=>
            have Hp:=Hd hin;obtain⟨hM,hw⟩:=inRange_iff.1 hin;obtain⟨m,rfl⟩:=Int.eq_ofNat_of_zero_le hM;have hD:m<t.nodes.length:=by omega
            obtain⟨b',o',ka',kc',e',hU,k0',-⟩:=(HT.o.mono Hb.o nlr).nodes.at hD;simp only[Option.some.injEq,Addr.mk.injEq,and_true]at e';obtain⟨rfl,rfl⟩:=e';obtain⟨x,hx⟩:∃x,t.nodes[m].kind=x:=⟨_,rfl⟩
            rw[hx]at k0';have HX:=Hd (show(t.nd (m:Int)).kind=x by rw[t.nd_at hD];exact hx);clear hin hx
            go_wp2_with (first
             | (go_at_call 135;refine(zw _ _ _ _).mono ?_;rw[Hp.o];rintro e w' ⟨rfl,rfl⟩)
             | (at_builtin;refine rU (news:=[x]) rfl (.tmp 59) (.tmp 66) rfl rfl (HO.o.alloc _) rfl (cN _ _ _) (by omega) (by simp;omega) ?_;intro a9 c9 w9 l9 Hx hP hu hr))
            have hO:l9.length=j+1:=by rw[Hx.o];simp;exact HC.o
            go_roundw
            case rel=>
             refine⟨j+1,a9,c9,l9,by go_num,rfl,by omega,hO,Hd ?_,Hd ?_,Hd hu,Hd (hr _ _ nlr (HB.o.alloc (by omega) _))⟩
             .rw[Hx.o,HQ.o,HH.o,List.map_append,HK.o];simp[HX.o]
             .rw[Hz.o,HA.o,HK.o];simpa using Hp.o
            case measure=>simp[intOf];omega
         .have hC:j=d.kids.length:=by omega
          have hF:q=bK t i:=by rw[HQ.o,hC,List.take_length,bK,Hm.o]
          have hB:d.kids.all (fun k=>zu k 0 ((i:Int)-1))=true:=by have:=HA.o;rwa[hC,List.take_length]at this
          have HE:=Hd hF;have Hy:=Hd hB;have hA:dC t i=(eN ps q&&(zu d.n lo hi||d.kind==1&&zu d.n (-9999) (-1))):=by rw[HF.o,Hm.o,Hg.o,HI.o,Hy.o,HE.o];simp
          have Ho:=Hd hA;have ht:Calls prog 154 #[.agg #[.bool false,intV lo,intV hi,.slice sa ps.length sc],.slice a8 q.length c8] wr (zD wr (eN ps q)):=uP ⟨false,lo,hi,ps⟩ sa sc a8 c8 q wr HL.o (by omega) (Hh.o.mono Hr.o nlr) (JM HO.o);have He:=Hd ht;clear hF hB hA ht
          cases hf:eN ps q with
          | false=>
            have Hc:=Hd hf;clear hf
            go_wp2_with (go_at_call 154;refine He.o.mono ?_;rw[Hc.o];rintro e w5 ⟨rfl,hn⟩)
            go_ret;exact⟨zc (by rw[Ho.o,Hc.o];rfl),Hb.o.trans (hn.mono (by omega))⟩
          | true=>
            have Hc:=Hd hf;clear hf;have hm:∀w5,Below wr.heap.size wr w5->Below (w3.heap.size+1) (boxS w3 ⟨false,lo,hi,ps⟩ sa sc) w5:=fun w5 h=>HB.o.trans (h.mono hp);have Hs:=Hd hm;clear hm
            cases hn1:zu d.n lo hi with
            | true=>
              have Hf:=Hd hn1;clear hn1
              go_wp2_with (first
               | (go_at_call 154;refine He.o.mono ?_;rw[Hc.o];rintro e w5 ⟨rfl,hn⟩;obtain⟨b0,⟨d0,d1,d2,d3,d4⟩,⟨s0,s1,s2,s3⟩,hh,-,-⟩:=dJ (s:=⟨false,lo,hi,ps⟩) (sa:=sa) (sc:=sc) Ha.o (Hs.o w5 hn) HT.o;have Hn:=Hd hh;clear hn hh)
               | (go_at_call 135;refine(zw _ _ _ _).mono ?_;rw[Hf.o];rintro e w' ⟨rfl,rfl⟩))
              go_ret;exact⟨zc (by rw[Ho.o,Hc.o,Hf.o];rfl),Hn.o⟩
            | false=>
              have Hf:=Hd hn1;clear hn1
              cases hw:d.kind==1 with
              | false=>
                have Ht:=Hd hw
                go_wp2_with (first
                 | (go_at_call 154;refine He.o.mono ?_;rw[Hc.o];rintro e w5 ⟨rfl,hn⟩;obtain⟨b0,⟨d0,d1,d2,d3,d4⟩,⟨s0,s1,s2,s3⟩,hh,-,-⟩:=dJ (s:=⟨false,lo,hi,ps⟩) (sa:=sa) (sc:=sc) Ha.o (Hs.o w5 hn) HT.o;have Hn:=Hd hh;clear hn hh)
                 | (go_at_call 135;refine(zw _ _ _ _).mono ?_;rw[Hf.o];rintro e w' ⟨rfl,rfl⟩))
                go_ret;exact⟨zc (by rw[Ho.o,Hc.o,Hf.o,Ht.o];rfl),Hn.o⟩
              | true=>
                have Ht:=Hd hw;obtain⟨y,hy⟩:∃y,zu d.n (-9999) (-1)=y:=⟨_,rfl⟩
                have HY:=Hd hy;clear hy
                go_wp2_with (first
                 | (go_at_call 154;refine He.o.mono ?_;rw[Hc.o];rintro e w5 ⟨rfl,hn⟩;obtain⟨b0,⟨d0,d1,d2,d3,d4⟩,⟨s0,s1,s2,s3⟩,hh,-,-⟩:=dJ (s:=⟨false,lo,hi,ps⟩) (sa:=sa) (sc:=sc) Ha.o (Hs.o w5 hn) HT.o;have Hn:=Hd hh;clear hn hh)
                 | (have hx:=Hu;go_at_call 135;refine(zw d.n (-9999) (-1) _).mono ?_;rw[HY.o];rintro e w' ⟨rfl,rfl⟩)
                 | (go_at_call 135;refine(zw d.n lo hi _).mono ?_;rw[Hf.o];rintro e w' ⟨rfl,rfl⟩;have Hu:=Hf))
                go_ret;exact⟨zc (by rw[Ho.o,Hc.o,Hf.o,Ht.o,HY.o];rfl),Hn.o⟩
     .have HI:=Hd htx
      have hR:(d.text==[])=false:=by simpa using htx
      have hK:(d.text != [])=true:=by simpa using htx
      have Hw:=Hd hK;clear htx
      cases nm with
      | false=>
        have Hk:=Hg;go_enter func117,ntmps117
        go_wp2_with (first
         | (go_at_call 153;refine(Hv.o _).mono ?_;rw[Hq.o];rintro e w3 ⟨sa,sc,he,hl,ho⟩;have he:e=.returned (.tuple #[.agg #[.bool false,intV lo,intV hi,.slice sa ps.length sc],.bool true]):=he;subst he;have Ha:=Hd (show Below (w.heap.size+1+1) (boxD (boxT w ⟨some ⟨b,o,none⟩,nc,ia,ic⟩ t) ka kc d) w3 from ho.mono (by simp));have Hh:=Hd hl;obtain⟨b0,⟨d0,d1,d2,d3,d4⟩,⟨s0,s1,s2,s3⟩,hc,ha,⟨hG,hH⟩⟩:=dJ (s:=⟨false,lo,hi,ps⟩) (sa:=sa) (sc:=sc) Ha.o brf HT.o;have Hi:=Hd hc;obtain⟨⟨q0,q1⟩,⟨e0,e1,e2,e3⟩,-,-,-⟩:=kY Ha.o HT.o;have e4:=iK Ha.o;have hI:w.heap.size+1<w3.heap.size:=(by omega);have hJ:w.heap.size<w3.heap.size:=(by omega);clear ho hl hc ha)
         | (go_at_call 135;refine(zw _ _ _ _).mono ?_;rw[Hg.o];rintro e w' ⟨rfl,rfl⟩)
         | (go_at_call 35;refine(bO d.text _ hz (HG.o.mono Hi.o nlr)).mono ?_;rw[Hk.o];rintro e w4 ⟨rfl,hq⟩;have Hl:=Hd (show Below (w3.heap.size+1) (boxS w3 ⟨false,lo,hi,ps⟩ sa sc) w4 from hq.mono (by simp));obtain⟨b0,⟨d0,d1,d2,d3,d4⟩,⟨s0,s1,s2,s3⟩,hc,ha,⟨hs,hp⟩⟩:=dJ (s:=⟨false,lo,hi,ps⟩) (sa:=sa) (sc:=sc) Ha.o Hl.o HT.o;have Hj:=Hd hc;clear hq hc ha))
        go_ret;exact⟨zc (by rw[HF.o,Hm.o,Hg.o,Hw.o];rfl),Hi.o⟩
      | true=>
        cases hnb:zG d.text with
        | false=>
          have Hk:=Hd hnb;clear hnb;go_enter func117,ntmps117
          go_wp2_with (first
           | (go_at_call 153;refine(Hv.o _).mono ?_;rw[Hq.o];rintro e w3 ⟨sa,sc,he,hl,ho⟩;have he:e=.returned (.tuple #[.agg #[.bool true,intV lo,intV hi,.slice sa ps.length sc],.bool true]):=he;subst he;have Ha:=Hd (show Below (w.heap.size+1+1) (boxD (boxT w ⟨some ⟨b,o,none⟩,nc,ia,ic⟩ t) ka kc d) w3 from ho.mono (by simp));have Hh:=Hd hl;obtain⟨b0,⟨d0,d1,d2,d3,d4⟩,⟨s0,s1,s2,s3⟩,hc,ha,⟨hG,hH⟩⟩:=dJ (s:=⟨true,lo,hi,ps⟩) (sa:=sa) (sc:=sc) Ha.o brf HT.o;have Hi:=Hd hc;obtain⟨⟨q0,q1⟩,⟨e0,e1,e2,e3⟩,-,-,-⟩:=kY Ha.o HT.o;have e4:=iK Ha.o;have hI:w.heap.size+1<w3.heap.size:=(by omega);have hJ:w.heap.size<w3.heap.size:=(by omega);clear ho hl hc ha)
           | (go_at_call 135;refine(zw _ _ _ _).mono ?_;rw[Hg.o];rintro e w' ⟨rfl,rfl⟩)
           | (go_at_call 35;refine(bO d.text _ hz (HG.o.mono Hi.o nlr)).mono ?_;rw[Hk.o];rintro e w4 ⟨rfl,hq⟩;have Hl:=Hd (show Below (w3.heap.size+1) (boxS w3 ⟨true,lo,hi,ps⟩ sa sc) w4 from hq.mono (by simp));obtain⟨b0,⟨d0,d1,d2,d3,d4⟩,⟨s0,s1,s2,s3⟩,hc,ha,⟨hs,hp⟩⟩:=dJ (s:=⟨true,lo,hi,ps⟩) (sa:=sa) (sc:=sc) Ha.o Hl.o HT.o;have Hj:=Hd hc;clear hq hc ha))
          go_ret;exact⟨zc (by rw[HF.o,Hm.o,Hg.o,Hw.o,Hk.o];rfl),Hj.o⟩
        | true=>
          have Hk:=Hd hnb;clear hnb;go_enter func117,ntmps117
          go_wp2_with (first
           | (go_at_call 153;refine(Hv.o _).mono ?_;rw[Hq.o];rintro e w3 ⟨sa,sc,he,hl,ho⟩;have he:e=.returned (.tuple #[.agg #[.bool true,intV lo,intV hi,.slice sa ps.length sc],.bool true]):=he;subst he;have Ha:=Hd (show Below (w.heap.size+1+1) (boxD (boxT w ⟨some ⟨b,o,none⟩,nc,ia,ic⟩ t) ka kc d) w3 from ho.mono (by simp));have Hh:=Hd hl;obtain⟨b0,⟨d0,d1,d2,d3,d4⟩,⟨s0,s1,s2,s3⟩,hc,ha,⟨hG,hH⟩⟩:=dJ (s:=⟨true,lo,hi,ps⟩) (sa:=sa) (sc:=sc) Ha.o brf HT.o;have Hi:=Hd hc;obtain⟨⟨q0,q1⟩,⟨e0,e1,e2,e3⟩,-,-,-⟩:=kY Ha.o HT.o;have e4:=iK Ha.o;have hI:w.heap.size+1<w3.heap.size:=(by omega);have hJ:w.heap.size<w3.heap.size:=(by omega);clear ho hl hc ha)
           | (go_at_call 135;refine(zw _ _ _ _).mono ?_;rw[Hg.o];rintro e w' ⟨rfl,rfl⟩)
           | (go_at_call 35;refine(bO d.text _ hz (HG.o.mono Hi.o nlr)).mono ?_;rw[Hk.o];rintro e w4 ⟨rfl,hq⟩;have Hl:=Hd (show Below (w3.heap.size+1) (boxS w3 ⟨true,lo,hi,ps⟩ sa sc) w4 from hq.mono (by simp));obtain⟨b0,⟨d0,d1,d2,d3,d4⟩,⟨s0,s1,s2,s3⟩,hc,ha,⟨hs,hp⟩⟩:=dJ (s:=⟨true,lo,hi,ps⟩) (sa:=sa) (sc:=sc) Ha.o Hl.o HT.o;have Hj:=Hd hc;clear hq hc ha))
          go_loopw [8,50] (fun t8 t50 wr=>∃(j:Nat) (a8:Option Addr) (c8:Nat) (q:List Int),t50=.int .i64 j/\t8=.slice a8 q.length c8/\j<=d.kids.length/\q.length=j/\Hid (q=(d.kids.take j).map fun k=>(t.nd k).kind)/\Hid ((d.kids.take j).all (fun k=>zu k 0 ((i:Int)-1))=true)/\Hid (OwnU wr (w3.heap.size+1) a8 c8 q)/\Hid (Below (w3.heap.size+1) (boxS w3 ⟨true,lo,hi,ps⟩ sa sc) wr)) (fun _ x _=>d.kids.length-(intOf x).toNat)
          case atStart=>exact⟨0,none,0,[],rfl,rfl,Nat.zero_le _,rfl,Hd rfl,Hd rfl,Hd ⟨rfl,.inl ⟨rfl,rfl⟩⟩,Hl⟩
          case round=>
           obtain⟨j,a8,c8,q,rfl,rfl,hj,hE,HQ,HA,HO,HB⟩:=hrel;obtain⟨b0,⟨d0,d1,d2,d3,d4⟩,⟨s0,s1,s2,s3⟩,hc,ha,⟨hs,hp⟩⟩:=dJ (s:=⟨true,lo,hi,ps⟩) (sa:=sa) (sc:=sc) Ha.o HB.o HT.o;have Hb:=Hd hc;have Hr:=Hd ha;have HC:=Hd hE;have hX:q.length<=1000000:=by omega
           clear hc ha hE;by_cases hlt:j<d.kids.length
           .obtain⟨bk,ok,ek,hV,hL⟩:=Ints.at (HJ.o.mono Hb.o nlr) hlt
            subst ek;obtain⟨k,hk⟩:∃k,d.kids[j]=k:=⟨_,rfl⟩
            rw[hk]at hL;have HK:=Hd hk;have hv:=List.take_succ_eq_append_getElem hlt;have HH:=Hd hv;have Hz:=Hd (lT hlt (fun k=>zu k 0 ((i:Int)-1)));clear hk hv;cases hin:zu k 0 ((i:Int)-1)with
            | false=>
              have Hp:=Hd hin;have HD:=Hd (OK hlt (p:=fun k=>zu k 0 ((i:Int)-1)) (by rw[HK.o];exact hin));clear hin
              go_wp2_with (go_at_call 135;refine(zw _ _ _ _).mono ?_;rw[Hp.o];rintro e w' ⟨rfl,rfl⟩)
              go_ret;exact⟨zc (by rw[HF.o,Hm.o,HD.o];simp),Hb.o⟩
            | true=>
              have Hp:=Hd hin;obtain⟨hM,hw⟩:=inRange_iff.1 hin;obtain⟨m,rfl⟩:=Int.eq_ofNat_of_zero_le hM;have hD:m<t.nodes.length:=by omega
              obtain⟨b',o',ka',kc',e',hU,k0',-⟩:=(HT.o.mono Hb.o nlr).nodes.at hD;simp only[Option.some.injEq,Addr.mk.injEq,and_true]at e';obtain⟨rfl,rfl⟩:=e';obtain⟨x,hx⟩:∃x,t.nodes[m].kind=x:=⟨_,rfl⟩
              rw[hx]at k0';have HX:=Hd (show(t.nd (m:Int)).kind=x by rw[t.nd_at hD];exact hx);clear hin hx
              go_wp2_with (first
               | (go_at_call 135;refine(zw _ _ _ _).mono ?_;rw[Hp.o];rintro e w' ⟨rfl,rfl⟩)
               | (at_builtin;refine rU (news:=[x]) rfl (.tmp 59) (.tmp 66) rfl rfl (HO.o.alloc _) rfl (cN _ _ _) (by omega) (by simp;omega) ?_;intro a9 c9 w9 l9 Hx hP hu hr))
              have hO:l9.length=j+1:=by rw[Hx.o];simp;exact HC.o
              go_roundw
              case rel=>
               refine⟨j+1,a9,c9,l9,by go_num,rfl,by omega,hO,Hd ?_,Hd ?_,Hd hu,Hd (hr _ _ nlr (HB.o.alloc (by omega) _))⟩
               .rw[Hx.o,HQ.o,HH.o,List.map_append,HK.o];simp[HX.o]
               .rw[Hz.o,HA.o,HK.o];simpa using Hp.o
              case measure=>simp[intOf];omega
           .have hC:j=d.kids.length:=by omega
            have hF:q=bK t i:=by rw[HQ.o,hC,List.take_length,bK,Hm.o]
            have hB:d.kids.all (fun k=>zu k 0 ((i:Int)-1))=true:=by have:=HA.o;rwa[hC,List.take_length]at this
            have HE:=Hd hF;have Hy:=Hd hB;have hA:dC t i=(eN ps q&&(zu d.n lo hi||d.kind==1&&zu d.n (-9999) (-1))):=by rw[HF.o,Hm.o,Hg.o,Hw.o,Hk.o,Hy.o,HE.o];simp
            have Ho:=Hd hA;have ht:Calls prog 154 #[.agg #[.bool true,intV lo,intV hi,.slice sa ps.length sc],.slice a8 q.length c8] wr (zD wr (eN ps q)):=uP ⟨true,lo,hi,ps⟩ sa sc a8 c8 q wr HL.o (by omega) (Hh.o.mono Hr.o nlr) (JM HO.o);have He:=Hd ht;clear hF hB hA ht
            cases hf:eN ps q with
            | false=>
              have Hc:=Hd hf;clear hf
              go_wp2_with (go_at_call 154;refine He.o.mono ?_;rw[Hc.o];rintro e w5 ⟨rfl,hn⟩)
              go_ret;exact⟨zc (by rw[Ho.o,Hc.o];rfl),Hb.o.trans (hn.mono (by omega))⟩
            | true=>
              have Hc:=Hd hf;clear hf;have hm:∀w5,Below wr.heap.size wr w5->Below (w3.heap.size+1) (boxS w3 ⟨true,lo,hi,ps⟩ sa sc) w5:=fun w5 h=>HB.o.trans (h.mono hp);have Hs:=Hd hm;clear hm
              cases hn1:zu d.n lo hi with
              | true=>
                have Hf:=Hd hn1;clear hn1
                go_wp2_with (first
                 | (go_at_call 154;refine He.o.mono ?_;rw[Hc.o];rintro e w5 ⟨rfl,hn⟩;obtain⟨b0,⟨d0,d1,d2,d3,d4⟩,⟨s0,s1,s2,s3⟩,hh,-,-⟩:=dJ (s:=⟨true,lo,hi,ps⟩) (sa:=sa) (sc:=sc) Ha.o (Hs.o w5 hn) HT.o;have Hn:=Hd hh;clear hn hh)
                 | (go_at_call 135;refine(zw _ _ _ _).mono ?_;rw[Hf.o];rintro e w' ⟨rfl,rfl⟩))
                go_ret;exact⟨zc (by rw[Ho.o,Hc.o,Hf.o];rfl),Hn.o⟩
              | false=>
                have Hf:=Hd hn1;clear hn1
                cases hw:d.kind==1 with
                | false=>
                  have Ht:=Hd hw
                  go_wp2_with (first
                   | (go_at_call 154;refine He.o.mono ?_;rw[Hc.o];rintro e w5 ⟨rfl,hn⟩;obtain⟨b0,⟨d0,d1,d2,d3,d4⟩,⟨s0,s1,s2,s3⟩,hh,-,-⟩:=dJ (s:=⟨true,lo,hi,ps⟩) (sa:=sa) (sc:=sc) Ha.o (Hs.o w5 hn) HT.o;have Hn:=Hd hh;clear hn hh)
                   | (go_at_call 135;refine(zw _ _ _ _).mono ?_;rw[Hf.o];rintro e w' ⟨rfl,rfl⟩))
                  go_ret;exact⟨zc (by rw[Ho.o,Hc.o,Hf.o,Ht.o];rfl),Hn.o⟩
                | true=>
                  have Ht:=Hd hw;obtain⟨y,hy⟩:∃y,zu d.n (-9999) (-1)=y:=⟨_,rfl⟩
                  have HY:=Hd hy;clear hy
                  go_wp2_with (first
                   | (go_at_call 154;refine He.o.mono ?_;rw[Hc.o];rintro e w5 ⟨rfl,hn⟩;obtain⟨b0,⟨d0,d1,d2,d3,d4⟩,⟨s0,s1,s2,s3⟩,hh,-,-⟩:=dJ (s:=⟨true,lo,hi,ps⟩) (sa:=sa) (sc:=sc) Ha.o (Hs.o w5 hn) HT.o;have Hn:=Hd hh;clear hn hh)
                   | (have hx:=Hu;go_at_call 135;refine(zw d.n (-9999) (-1) _).mono ?_;rw[HY.o];rintro e w' ⟨rfl,rfl⟩)
                   | (go_at_call 135;refine(zw d.n lo hi _).mono ?_;rw[Hf.o];rintro e w' ⟨rfl,rfl⟩;have Hu:=Hf))
                  go_ret;exact⟨zc (by rw[Ho.o,Hc.o,Hf.o,Ht.o,HY.o];rfl),Hn.o⟩
def wayV(s:Nat):Value:=.func (.func 155) #[] #[.pointer (some ⟨s,0,none⟩),.pointer (some ⟨s+1+1,0,none⟩),.pointer (some ⟨s+1,0,none⟩)]
@[go_sem] theorem run_store_way {w:World}{a:Addr}{m:Mode}(s:Nat):(store a (wayV s) m).run prog w=stored prog w a (wayV s) m:=run_store prog w a _ m rfl
structure OrdW (w:World) (v:TreeV) (t:Tr) (s:Nat) (p:Int) (W:World):Prop where
 below:Below s w W
 size:s+1+1<W.heap.size
 n:W.cell? ⟨s,0,none⟩=some (.slice v.na t.nodes.length v.nc)
 items:W.cell? ⟨s,1,none⟩=some (.slice v.ia t.items.length v.ic)
 next:W.cell? ⟨s+1,0,none⟩=some (intV p)
 way:W.cell? ⟨s+1+1,0,none⟩=some (wayV s)
 open_:W.frozen? ⟨s+1,0,none⟩=false
theorem OrdW.set{w W:World}{v:TreeV}{t:Tr}{s:Nat}{p:Int}(h:OrdW w v t s p W)(m:Int):OrdW w v t s m (W.setCell ⟨s+1,0,none⟩ (intV m)):=by
 obtain⟨h1,h2,h3,h4,h5,h6,h7⟩:=h;refine⟨h1.setCell (by simp) _,by simpa using h2,?_,?_,World.cell?_setCell_same _ _ _ h5,?_,by rw[World.frozen?_setCell];exact h7⟩
 .rw[World.cell?_setCell_other _ _ _ _ (by simp)];exact h3
 .rw[World.cell?_setCell_other _ _ _ _ (by simp)];exact h4
 .rw[World.cell?_setCell_other _ _ _ _ (by simp)];exact h6
def GQ(w:World)(v:TreeV)(t:Tr)(s:Nat):Option Int->Ending->World->Prop
 |some m,e,w'=>e=.returned (.bool true)/\OrdW w v t s m w'
 |none,e,w'=>e=.returned (.bool false)/\Below s w w'
theorem LA{t:Tr}{f i:Nat}{d p q:Int}(h:goK (fun k q=>dO t f k (d+1) q) (t.nd i).kids p=some q) :
 dO t (f+1) i d p=if (i:Int) != q then none else if cQ (t.nd i).kind==(d==1)then some (q+1)else none:=by
 rw[dO,h];rfl
theorem LB{t:Tr}{f i:Nat}{d p:Int}(h:goK (fun k q=>dO t f k (d+1) q) (t.nd i).kids p=none):dO t (f+1) i d p=none:=by
 rw[dO,h];rfl
theorem RA{g:Int->Int->Option Int}{l:List Int}{k:Nat}(h:k<l.length)(p:Int):goK g (l.drop k) p=(g l[k] p).bind (goK g (l.drop (k+1))):=by
 rw[List.drop_eq_getElem_cons h];rfl
theorem uT(v:TreeV)(t:Tr)(w:World)(bd:Bd t)(hkid:∀i,i<t.nodes.length->∀k∈(t.nd i).kids,0<=k/\k<(i:Int))(h:IsTree w v t)(s:Nat)(hs:s=w.heap.size) :
 ∀(f i:Nat) (d p:Int) (W:World),i<t.nodes.length->i<f->1<=d->d+f<=4000000->OrdW w v t s p W ->
 Calls prog 155 #[intV i,intV d,.pointer (some ⟨s,0,none⟩),.pointer (some ⟨s+1+1,0,none⟩),.pointer (some ⟨s+1,0,none⟩)] W (GQ w v t s (dO t f i d p))
 |0,i,d,p,W,hi,hf,_,_,ho=>by omega
 | f+1,i,d,p,W,hi,hf,hd,hdf,ho=>by
   have IH:=uT v t w bd hkid h s hs f;have IHH:=Hd IH;clear IH;have HT:=Hd h;have HO:=Hd ho;have HK:=Hd (hkid i hi);have hC:=bd.n;have hz:=ho.n;obtain⟨b,o,ka,kc,ea,hb,c0,c1,c2,c3,c4,hl⟩:=h.nodes.at hi;have hh:=t.nd_at hi;have hu:=bd.k _ (List.getElem_mem hi);obtain⟨D,hD⟩:∃D,t.nodes[i]=D:=⟨_,rfl⟩
   rw[hD]at c0 c1 c2 c3 c4 hl hh hu;obtain⟨na,nc,ia,ic⟩:=v;simp only at ea;subst ea;have Hg:=Hd hl;have C0:=Hd c0;have C3:=Hd c3;have Hc:=Hd hh;have HS:=Hd hs;have hr:Below w.heap.size w W:=hs▸ho.below;obtain⟨hc,-⟩:=bcell hr;have d3:=(hc b (o+i*5+3) hb).trans C3.out;rw[hh]at HK;clear hkid bd h ho hl hh hD hs hc hr c0 c1 c2 c3 c4;go_enter func155,ntmps155;go_wp2
   go_loopw [17] (fun t17 wr=>∃(k:Nat) (q:Int),t17=.int .i64 k/\k<=D.kids.length/\Hid (goK (fun k q=>dO t f k (d+1) q) D.kids p=goK (fun k q=>dO t f k (d+1) q) (D.kids.drop k) q)/\Hid (OrdW w ⟨some ⟨b,o,none⟩,nc,ia,ic⟩ t s q wr)) (fun t17 _=>D.kids.length-(intOf t17).toNat)
   case atStart=>exact⟨0,p,rfl,Nat.zero_le _,Hd rfl,HO⟩
   case round=>
    obtain⟨k,q,rfl,hk,HG,HQ⟩:=hrel;have he:Below w.heap.size w wr:=HS.o▸HQ.o.below;have Hh:=Hd he;by_cases hlt:k<D.kids.length
    .obtain⟨bk,ok,ek,hA,ht⟩:=Ints.at (Hg.o.mono he nlr) hlt
     subst ek;have hx:=HK.o _ (List.getElem_mem hlt);have HA:=Hd (RA (g:=fun k q=>dO t f k (d+1) q) hlt q);obtain⟨x,hp⟩:∃x,D.kids[k]=x:=⟨_,rfl⟩
     rw[hp]at ht hx;obtain⟨hw,hH⟩:=hx;obtain⟨m,rfl⟩:=Int.eq_ofNat_of_zero_le hw;have Hf:=Hd hp;have hm:=HQ.o.way;unfold wayV at hm;have HC:Hid (Calls prog 155 #[intV m,intV (d+1),.pointer (some ⟨s,0,none⟩),.pointer (some ⟨s+1+1,0,none⟩),.pointer (some ⟨s+1,0,none⟩)] wr (GQ w ⟨some ⟨b,o,none⟩,nc,ia,ic⟩ t s (dO t f m (d+1) q))):=Hd (IHH.out m (d+1) q wr (by omega) (by omega) (by omega) (by omega) HQ.o);have hG:IntKind.i64.wrap (d+1)=d+1:=by rw[IntKind.wrap_i64];omega
     clear hp he
     cases hwk:dO t f m (d+1) q with
     | none=>
       have HW:=Hd hwk;clear hwk
       go_wp2_with (go_at_call 155;refine HC.o.mono ?_;rw[HW.o];rintro e w' ⟨rfl,ha⟩;have Hb:=Hd ha;clear ha)
       go_ret;have hv:dO t (f+1) i d p=none:=LB (by rw[Hc.o,HG.o,HA.o,Hf.o,HW.o];rfl);rw[hv];exact⟨rfl,Hb.o⟩
     | some m'=>
       have HW:=Hd hwk;clear hwk
       go_wp2_with (go_at_call 155;refine HC.o.mono ?_;rw[HW.o];rintro e w' ⟨rfl,ha⟩;have Hb:=Hd ha;clear ha)
       go_roundw
       case rel=>exact⟨k+1,m',by go_num,by omega,Hd (by rw[HG.o,HA.o,Hf.o,HW.o];rfl),Hb⟩
       case measure=>simp[intOf];omega
    .have hg:goK (fun k q=>dO t f k (d+1) q) (t.nd i).kids p=some q:=by rw[Hc.o,HG.o,List.drop_of_length_le (by omega)];rfl
     have hn:=LA hg;rw[Hc.o]at hn;have Ha:=Hd hn;have hq:=HQ.o.next;have hF:=HQ.o.n;obtain⟨hc,-⟩:=bcell he;have e0:=(hc b (o+i*5) hb).trans C0.out;clear hc he hg hn;by_cases hiq:(i:Int)=q
     .subst hiq
      have hB:¬b=s+1:=by have:=HS.o;omega
      have hE:=HQ.o.open_;have He:=Hd (HQ.o.set ((i:Int)+1));rw[if_neg (by simp)]at Ha
      go_wp2_with (go_at_call 156;refine(FK _ _).mono ?_;rintro e w' ⟨rfl,rfl⟩)
      go_ret;rw[Ha.o];cases hy:(cQ D.kind==(d==1))with
      |true=>exact⟨rfl,He.o⟩
      |false=>exact⟨rfl,He.o.below⟩
     .have hj:((i:Int) != q)=true:=by simpa using hiq
      rw[if_pos hj]at Ha;have Hi:=Hd hiq;go_wp2;all_goals go_ret
      rw[Ha.o];exact⟨rfl,HQ.o.below⟩
theorem sR{t:Tr}:∀{f:Nat}{i d p m:Int},dO t f i d p=some m->m=i+1
 |0,i,d,p,m,h=>by simp[dO]at h
 | f+1,i,d,p,m,h=>by
   simp only[dO,Option.bind_eq_some_iff]at h;obtain⟨q,_,h⟩:=h;by_cases hq:i=q
   .subst hq
    rw[if_neg (by simp)]at h;split at h
    .exact(Option.some.inj h).symm
    .cases h
   .rw[if_pos (by simpa using hq)]at h;cases h
theorem QB{t:Tr}{l:List Int}{k:Nat}(h:k<l.length)(p:Int) :
 ordF t (l.drop k) p=if decide (p<=l[k])&&decide (l[k]<=(t.nodes.length:Int)-1)then (dO t (l[k]+1).toNat l[k] 1 p).bind (ordF t (l.drop (k+1)))else none:=by
 rw[List.drop_eq_getElem_cons h];rfl
theorem sI{t:Tr}(h:ordF t t.items 0=none):aC t=false:=by unfold aC;rw[h];rfl
theorem AH{t:Tr}{q:Int}(h:ordF t t.items 0=some q):aC t=(q==(t.nodes.length:Int)):=by unfold aC;rw[h];rfl
theorem uR(v:TreeV)(t:Tr)(w:World)(bd:Bd t)(hkid:∀i,i<t.nodes.length->∀k∈(t.nd i).kids,0<=k/\k<(i:Int))(h:IsTree w v t) :
 Calls prog 118 #[v.val t] w (zD w (aC t)):=by
 have HW:=Hd (uT v t w bd hkid h w.heap.size rfl);have HI:=Hd h.items;have ho:=bd.n;obtain⟨na,nc,ia,ic⟩:=v;have hm:=bd.i;clear h bd hkid;simp only at HI;unfold TreeV.val;go_enter func118,ntmps118;go_wp2
 go_loopw [11] (fun t11 wr=>∃(k:Nat) (q:Int),t11=.int .i64 k/\k<=t.items.length/\0<=q/\Hid (ordF t t.items 0=ordF t (t.items.drop k) q)/\Hid (OrdW w ⟨na,nc,ia,ic⟩ t w.heap.size q wr)) (fun t11 _=>t.items.length-(intOf t11).toNat)
 case atStart=>
  refine⟨0,0,rfl,Nat.zero_le _,Int.le_refl _,Hd rfl,Hd ⟨?_,?_,?_,?_,?_,?_,?_⟩⟩
  .go_grown
  all_goals (try unfold wayV)
  all_goals (try go_simp)
 case round=>
  obtain⟨k,q,rfl,hk,hp,HG,HQ⟩:=hrel;have Hf:=Hd HQ.o.below;have hq:=HQ.o.n;have hr:=HQ.o.next;by_cases hlt:k<t.items.length
  .obtain⟨bk,ok,ek,hi,hg⟩:=Ints.at (HI.o.mono Hf.o nlr) hlt
   subst ek;have HA:=Hd (QB (t:=t) hlt q);obtain⟨x,hd⟩:∃x,t.items[k]=x:=⟨_,rfl⟩
   rw[hd]at hg HA;have hc:=HQ.o.way;unfold wayV at hc;cases hin:zu x q ((t.nodes.length:Int)-1)with
   | false=>
     have Ha:=Hd hin
     have hf:ordF t t.items 0=none:=by
      rw[HG.o,HA.o,if_neg];intro hh;rw[Bool.and_eq_true,decide_eq_true_iff,decide_eq_true_iff]at hh;rw[inRange_iff.2 hh]at hin;cases hin
     have Hg:=Hd (sI hf);clear hin hd hf
     go_wp2_with (go_at_call 135;refine(zw _ _ _ _).mono ?_;rw[Ha.o];rintro e w' ⟨rfl,rfl⟩)
     go_ret;exact⟨zc Hg.o.symm,Hf.o⟩
   | true=>
     have Ha:=Hd hin;have hh:=inRange_iff.1 hin;have Hc:=Hd (HA.o.trans (if_pos (by rw[Bool.and_eq_true,decide_eq_true_iff,decide_eq_true_iff];exact hh)));obtain⟨hj,hl⟩:=hh;obtain⟨m,rfl⟩:=Int.eq_ofNat_of_zero_le (show 0<=x by omega);have he:((m:Int)+1).toNat=m+1:=by omega
     rw[he]at Hc;have HC:=Hd (HW.o (m+1) m 1 q wr (by omega) (by omega) (by omega) (by omega) HQ.o);clear hin hd he HA
     cases hwk:dO t (m+1) m 1 q with
     | none=>
       have Hb:=Hd hwk;have Hg:=Hd (sI (t:=t) (by rw[HG.o,Hc.o,hwk];rfl));clear hwk
       go_wp2_with (first
        | (go_at_call 135;refine(zw _ _ _ _).mono ?_;rw[Ha.o];rintro e w' ⟨rfl,rfl⟩)
        | (go_at_call 155;refine HC.o.mono ?_;rw[Hb.o];rintro e w' ⟨rfl,ha⟩;have He:=Hd ha;clear ha))
       go_ret;exact⟨zc Hg.o.symm,He.o⟩
     | some m'=>
       have Hb:=Hd hwk;have hn:=sR hwk;clear hwk
       go_wp2_with (first
        | (go_at_call 135;refine(zw _ _ _ _).mono ?_;rw[Ha.o];rintro e w' ⟨rfl,rfl⟩)
        | (go_at_call 155;refine HC.o.mono ?_;rw[Hb.o];rintro e w' ⟨rfl,ha⟩;have He:=Hd ha;clear ha))
       go_roundw
       case rel=>exact⟨k+1,m',by go_num,by omega,by omega,Hd (by rw[HG.o,Hc.o,Hb.o];rfl),He⟩
       case measure=>simp[intOf];omega
  .have hb:ordF t t.items 0=some q:=by rw[HG.o,List.drop_of_length_le (by omega)];rfl
   have HE:=Hd (AH hb);clear hb;go_wp2;all_goals go_ret
   exact⟨zc (by rw[HE.o]),Hf.o⟩
theorem CQ:∀(L:List Int) (m:Nat),L.set m (L.getD m 0)=L
 | [],m=>rfl
 |a::l,0=>rfl
 |a::l,m+1=>by rw[List.set_cons_succ,List.getD_cons_succ,CQ l m]
theorem xX(v:TreeV)(t:Tr)(w:World)(bd:Bd t)(hkid:∀i,i<t.nodes.length->∀k∈(t.nd i).kids,0<=k/\k<(i:Int))(h:IsTree w v t) :
 Calls prog 91 #[v.val t] w (RetInts w (dQ t)):=by
 have HT:=Hd h;have BD:=Hd bd;have He:=Hd hkid;have hS:=bd.n;have hR:=fun W=>sL W t.nodes.length (by omega);clear h bd hkid;unfold TreeV.val;go_enter func91,ntmps91;go_wp2;have Hm:=Hd (EP (boxT w v t) (B:=w.heap.size+1) (n:=t.nodes.length) (k:=w.heap.size+1) (by simp) nlr (by omega))
 go_loopw [4] (fun t4 wr=>∃(i:Int),t4=intV i /\ -1<=i/\i<t.nodes.length/\Hid (wr.ownsRow (w.heap.size+1) 3 1 (.slice (some ⟨w.heap.size+1,0,none⟩) t.nodes.length t.nodes.length) t.nodes.length (zq (eK t ((t.nodes.length:Int)-1-i).toNat)))/\Hid (Below (w.heap.size+1) (boxT w v t) wr)) (fun i _=>(intOf i+1).toNat)
 case atStart=>exact⟨(t.nodes.length:Int)-1,by go_num,by omega,by omega,Hd (by rw[show((t.nodes.length:Int)-1-((t.nodes.length:Int)-1)).toNat=0 by omega];exact Hm.o),Hd (brf.alloc (by simp) _)⟩
 case round=>
  obtain⟨i,rfl,hP,hQ,HO,HB⟩:=hrel;obtain⟨b0,b1,-,⟨hs,hT,hU⟩,hC⟩:=boxed HB.o HT.o;obtain⟨hK,hM⟩:=bcell hC;by_cases hi0:0<=i
  .obtain⟨m,rfl⟩:=Int.eq_ofNat_of_zero_le hi0
   have hg:m<t.nodes.length:=by omega
   obtain⟨b,o,ka,kc,ea,hb,c0,c1,c2,c3',c4,hv⟩:=HT.o.nodes.at hg;obtain⟨na,nc,ia,ic⟩:=v;simp only at ea b0 b1;subst ea;obtain⟨ks,hw⟩:∃ks,ks=t.nodes[m].kids:=⟨_,rfl⟩
   have hI:=BD.out.k _ (List.getElem_mem hg);rw[<-hw]at hv c3' hI;have Hk:=Hd hv;have Hi:Hid ((t.nd m).kids=ks):=Hd (by rw[t.nd_at hg,hw]);have Hh:=He.o m hg;rw[Hi.o]at Hh;obtain⟨L,hL⟩:∃L,L=eK t ((t.nodes.length:Int)-1-m).toNat:=⟨_,rfl⟩
   have HL:=Hd hL;have hm:=lA He.o ((t.nodes.length:Int)-1-m).toNat (by omega);rw[<-hL]at hm;have Ho:=Hd hm;obtain⟨x,hx⟩:∃x,x=L.getD m 0:=⟨_,rfl⟩
   have hn:=hm m;rw[<-hx]at hn;have hV:=hn.1;have hW:=hn.2 hg;have HX:=Hd hx;have Ha:=Hd Hh;have he:=HO.o;rw[<-hL]at he;obtain⟨g,hD,hN,hO,hB,hf,hr⟩:=iB he (by omega);simp only[Option.some.injEq,Addr.mk.injEq,and_true]at hD;subst hD;have ci:=hf m hg;have fi:=hr m;rw[<-hx]at ci;have Hf:=Hd he;have Hn:=Hd hr;have Hl:=Hd hB;clear hv hw hL hm hx hn Hh he hf hr hB;by_cases hz:x=0
   .have Hj:Hid (max x 1=1):=Hd (by omega)
    subst hz;go_wp2
    go_loopw [34] (fun t5 wr=>∃k:Nat,t5=.int .i64 k/\k<=ks.length/\Hid (wr.ownsRow (w.heap.size+1) 3 1 (.slice (some ⟨w.heap.size+1,0,none⟩) t.nodes.length t.nodes.length) t.nodes.length (zq (aH (L.set m 1) (1+1) (ks.take k))))/\Hid (Below (w.heap.size+1) (boxT w ⟨some ⟨b,o,none⟩,nc,ia,ic⟩ t) wr)) (fun i _=>ks.length-(intOf i).toNat)
    case atStart=>exact⟨0,rfl,Nat.zero_le _,Hd (qP Hf.o m 1),Hd (HB.o.setCell (by simp) _)⟩
    case round=>
     obtain⟨k,rfl,hk,Hc,Hb⟩:=hrel;obtain⟨b50,b51,-,⟨hJ,hy,hA⟩,hh⟩:=boxed Hb.o HT.o;obtain⟨hq,ht⟩:=bcell hh;by_cases hlk:k<ks.length
     .obtain⟨bk,ok,rfl,hF,ck⟩:=Ints.at Hk.o hlk
      obtain⟨hl,hu⟩:=Ha.o _ (List.getElem_mem hlk);obtain⟨c,hc⟩:=Int.eq_ofNat_of_zero_le hl;have hG:c<m:=by omega
      have HC:=Hd hc;rw[hc]at ck;obtain⟨g5,hj,-,-,-,ha,hd⟩:=iB Hc.o (by omega);simp only[Option.some.injEq,Addr.mk.injEq,and_true]at hj;subst hj;have cm:=ha m hg;rw[iM _ _ (fun x hx=>Ha.o x (List.mem_of_mem_take hx)),List.getD_eq_getElem?_getD,List.getElem?_set,if_pos rfl,if_pos (by have:=Hl.o;omega),Option.getD_some]at cm;have cc:=ha c (by omega);have fc:=hd c;have hE:b<wr.heap.size:=by omega
      have hp:bk<wr.heap.size:=by omega
      have hH:c<t.nodes.length:=by omega
      clear hc hl hu ha hd;go_wp2
      go_roundw
      case rel=>
       refine⟨k+1,by go_num,by omega,Hd ?_,Hd (Hb.o.setCell (by simp) _)⟩;rw[List.take_succ_eq_append_getElem hlk,jG,HC.o];exact qP Hc.o c (1+1)
      case measure=>simp[intOf];omega
     .obtain rfl:k=ks.length:=by omega
      go_wp2
      go_roundw
      case rel=>
       refine⟨(m:Int)-1,by go_num,by omega,by omega,Hd ?_,Hb⟩;have ho:=Hc.o;rw[List.take_length]at ho;rw[show((t.nodes.length:Int)-1-((m:Int)-1)).toNat=((t.nodes.length:Int)-1-m).toNat+1 by omega,eK,<-HL.o,jH,show t.nodes.length-1-((t.nodes.length:Int)-1-m).toNat=m by omega,Hi.o,<-HX.o,Hj.o];exact ho
      case measure=>simp[intOf];try omega
   .have Hj:Hid (max x 1=x):=Hd (by omega)
    have hX:1<=x:=by omega
    have Hg:Hid (L.set m x=L):=Hd (by rw[HX.o];exact CQ L m);go_wp2
    go_loopw [34] (fun t5 wr=>∃k:Nat,t5=.int .i64 k/\k<=ks.length/\Hid (wr.ownsRow (w.heap.size+1) 3 1 (.slice (some ⟨w.heap.size+1,0,none⟩) t.nodes.length t.nodes.length) t.nodes.length (zq (aH (L.set m x) (x+1) (ks.take k))))/\Hid (Below (w.heap.size+1) (boxT w ⟨some ⟨b,o,none⟩,nc,ia,ic⟩ t) wr)) (fun i _=>ks.length-(intOf i).toNat)
    case atStart=>exact⟨0,rfl,Nat.zero_le _,Hd (by rw[Hg.o];exact Hf.o),HB⟩
    case round=>
     obtain⟨k,rfl,hk,Hc,Hb⟩:=hrel;obtain⟨b50,b51,-,⟨hJ,hy,hA⟩,hh⟩:=boxed Hb.o HT.o;obtain⟨hq,ht⟩:=bcell hh;by_cases hlk:k<ks.length
     .obtain⟨bk,ok,rfl,hF,ck⟩:=Ints.at Hk.o hlk
      obtain⟨hl,hu⟩:=Ha.o _ (List.getElem_mem hlk);obtain⟨c,hc⟩:=Int.eq_ofNat_of_zero_le hl;have hG:c<m:=by omega
      have HC:=Hd hc;rw[hc]at ck;obtain⟨g5,hj,-,-,-,ha,hd⟩:=iB Hc.o (by omega);simp only[Option.some.injEq,Addr.mk.injEq,and_true]at hj;subst hj;have cm:=ha m hg;rw[iM _ _ (fun x hx=>Ha.o x (List.mem_of_mem_take hx)),List.getD_eq_getElem?_getD,List.getElem?_set,if_pos rfl,if_pos (by have:=Hl.o;omega),Option.getD_some]at cm;have cc:=ha c (by omega);have fc:=hd c;have hE:b<wr.heap.size:=by omega
      have hp:bk<wr.heap.size:=by omega
      have hH:c<t.nodes.length:=by omega
      clear hc hl hu ha hd;go_wp2
      go_roundw
      case rel=>
       refine⟨k+1,by go_num,by omega,Hd ?_,Hd (Hb.o.setCell (by simp) _)⟩;rw[List.take_succ_eq_append_getElem hlk,jG,HC.o];exact qP Hc.o c (x+1)
      case measure=>simp[intOf];omega
     .obtain rfl:k=ks.length:=by omega
      go_wp2
      go_roundw
      case rel=>
       refine⟨(m:Int)-1,by go_num,by omega,by omega,Hd ?_,Hb⟩;have ho:=Hc.o;rw[List.take_length]at ho;rw[show((t.nodes.length:Int)-1-((m:Int)-1)).toNat=((t.nodes.length:Int)-1-m).toNat+1 by omega,eK,<-HL.o,jH,show t.nodes.length-1-((t.nodes.length:Int)-1-m).toNat=m by omega,Hi.o,<-HX.o,Hj.o];exact ho
      case measure=>simp[intOf];try omega
  .have hi:i = -1:=by omega
   subst hi;go_wp2;go_ret;have ho:=HO.o;rw[show((t.nodes.length:Int)-1 - -1).toNat=t.nodes.length by omega]at ho;exact⟨some ⟨w.heap.size+1,0,none⟩,t.nodes.length,by simp[dQ,aP],by rw[dQ,aP];exact cA ho (by omega),hC⟩
theorem LF(a:Option Addr)(c:Nat)(L:List Int)(w:World)(hl:L.length<=1000000)(h0:0<L.length)(hp:0<=L[0])(h:Ints w a c L) :
 Calls prog 90 #[.slice a L.length c] w fun e w'=>e=.returned (intV (maxL L))/\w=w':=by
 have HR:=Hd h;obtain⟨b,o,rfl,hb,ha⟩:=Ints.at h h0;obtain⟨z,hz⟩:∃z,z=L[0]:=⟨_,rfl⟩
 rw[<-hz]at ha hp;have hd:z=maxL (L.take (0+1)):=by rw[qK h0,<-hz];simp[maxL];omega
 have HZ:=Hd hd;clear h hz hd;simp only[Nat.add_zero]at ha;go_enter func90,ntmps90;go_wp2
 go_loop [3,4] (fun t3 t4=>∃(k:Nat) (x:Int),t4=.int .i64 k/\1<=k/\k<=L.length/\t3=intV x/\Hid (x=maxL (L.take k))) (fun _ i=>L.length-(intOf i).toNat)
 case atStart=>exact⟨1,z,rfl,nlr,by omega,rfl,HZ⟩
 case round=>
  obtain⟨k,x,rfl,hf,hk,rfl,HX⟩:=hrel;by_cases hlt:k<L.length
  .obtain⟨b',o',e',he,hc⟩:=Ints.at HR.o hlt
   simp only[Option.some.injEq,Addr.mk.injEq,and_true]at e';obtain⟨rfl,rfl⟩:=e';obtain⟨y,hy⟩:∃y,y=L[k]:=⟨_,rfl⟩
   rw[<-hy]at hc;have HY:=Hd hy;have HS:=Hd (qK hlt);clear hy;by_cases hxy:x<=y
   .have Ha:=Hd hxy
    go_wp2
    all_goals
     go_round
     case rel=>exact⟨k+1,y,by go_num,by omega,by omega,by first|rfl|(have:=Ha.o;go_num),Hd (by rw[HS.o,<-HX.o,<-HY.o];have:=Ha.o;omega)⟩
     case measure=>simp[intOf];omega
   .have Ha:=Hd hxy
    go_wp2
    all_goals
     go_round
     case rel=>exact⟨k+1,x,by go_num,by omega,by omega,by first|rfl|(have:=Ha.o;go_num),Hd (by rw[HS.o,<-HX.o,<-HY.o];have:=Ha.o;omega)⟩
     case measure=>simp[intOf];omega
  .obtain rfl:k=L.length:=by omega
   go_wp2;go_ret;refine⟨zO ?_,rfl⟩;have:=HX.o;rw[List.take_length]at this;exact this
theorem gA(v:TreeV)(t:Tr)(w:World)(bd:Bd t)(hkid:∀i,i<t.nodes.length->∀k∈(t.nd i).kids,0<=k/\k<(i:Int))(h:IsTree w v t) :
 Calls prog 64 #[v.val t] w (kS w (aM t)):=by
 have HT:=Hd h;have BD:=Hd bd;have Hb:=Hd hkid;obtain⟨L,hL⟩:∃L,L=dQ t:=⟨_,rfl⟩
 have hd:L.length=t.nodes.length:=by rw[hL,dQ,aP]
 have he:t.nodes.length<=1000000:=bd.n
 have hc:∀j (h:j<L.length),0<=L[j]:=by
  intro j h;have:=(lA hkid _ nlr j).1;rw[show eK t t.nodes.length=L by rw[hL,dQ],List.getD_eq_getElem?_getD,List.getElem?_eq_getElem h]at this;exact this
 have HL:=Hd hL;have Ha:=Hd hd;have Hc:=Hd hc;clear h bd hkid hL hd hc;obtain⟨na,nc,ia,ic⟩:=v;unfold TreeV.val;go_enter func64,ntmps64;by_cases h0:t.nodes.length=0
 .have HD:Hid (aM t=0):=Hd (by rw[aM,<-HL.o,List.eq_nil_of_length_eq_zero (Ha.o.trans h0)];rfl)
  go_wp2;go_ret;exact⟨zO HD.o.symm,by go_grown⟩
 .go_wp2_with (first
   | (go_at_call 91;refine(xX ⟨na,nc,ia,ic⟩ t _ BD.out Hb.o (HT.o.mono ((Below.refl _ w).alloc nlr _) nlr)).mono ?_;rw[<-HL.o];rintro e w' ⟨a1,c1,rfl,ha,hb⟩;have HR:=Hd (dX ha);have HB:=Hd (((Below.refl _ w).alloc nlr _).trans (hb.mono (by simp)):Below w.heap.size w w');clear ha hb;have He:=Hd (LF a1 c1 L w' (by rw[Ha.o];omega) (by rw[Ha.o];omega) (Hc.o 0 (by rw[Ha.o];omega)) HR.o))
   | (go_at_call 90;refine He.o.mono ?_;rintro e w2 ⟨rfl,rfl⟩))
  go_ret;exact⟨zO (by rw[aM,<-HL.o]),HB.o⟩
theorem xZ(D:Nd)(ka:Option Addr)(kc:Nat)(w:World)(hl:D.kids.length<=1000000) :
 Calls prog 136 #[.agg #[.int .u8 D.kind,strV D.text,intV D.n,.slice ka D.kids.length kc,intV D.pos]] w fun e w'=>e=.returned (intV ((D.kids.length:Int)-2))/\Below w.heap.size w w':=by
 go_enter func136,ntmps136;go_wp2;go_ret;exact⟨zO (by go_num),by go_grown⟩
theorem DS(v:TreeV)(t:Tr)(i:Nat)(ka:Option Addr)(kc:Nat)(w:World)(bd:Bd t)(hi:i<t.nodes.length)
 (hc:(t.nd i).kind=40->∃k0 k1:Nat,k0<t.nodes.length/\k1<t.nodes.length/\(t.nd i).kids=[(k0:Int),(k1:Int)] /\ -9999<=(t.nd k0).n/\(t.nd k0).n<=9999 /\ -9999<=(t.nd k1).n/\(t.nd k1).n<=9999)(h:IsTree w v t)(hkr:Ints w ka kc t.nodes[i].kids) :
 Calls prog 94 #[v.val t,.agg #[.int .u8 t.nodes[i].kind,strV t.nodes[i].text,intV t.nodes[i].n,.slice ka t.nodes[i].kids.length kc,intV t.nodes[i].pos]] w (zD w (eW t i)):=by
 have hA:prog.follows .mixedOrders=true:=by kernel_rfl
 have HT:=Hd h;have hB:=bd.n;have hh:=bd.k _ (List.getElem_mem hi);obtain⟨na,nc,ia,ic⟩:=v;have hd:=t.nd_at hi;obtain⟨D,hD⟩:∃D,t.nodes[i]=D:=⟨_,rfl⟩
 rw[hD]at hkr hh hd|-;rw[hd]at hc;have Hc:=Hd hd;have HC:=Hd hc;have Hb:=Hd hkr;clear h bd hD hd hkr hc;unfold TreeV.val;by_cases h40:D.kind=40
 .obtain⟨k0,k1,hf,hg,hb,hm,ho,hp,hq⟩:=HC.o h40
  have hj:D.kids.length=2:=by rw[hb];rfl
  obtain⟨bk,ok,rfl,hw,ck0⟩:=Ints.at Hb.o (i:=0) (by omega);obtain⟨bk',ok',ek,-,ck1⟩:=Ints.at Hb.o (i:=1) (by omega);simp only[Option.some.injEq,Addr.mk.injEq,and_true]at ek;obtain⟨rfl,rfl⟩:=ek;simp only[hb,List.getElem_cons_zero,List.getElem_cons_succ,Nat.add_zero]at ck0 ck1;obtain⟨p0,q0,_,_,e0,hC,-,-,f0,-,-,-⟩:=HT.o.nodes.at hf;obtain⟨p1,q1,_,_,e1,hE,-,-,f1,-,-,-⟩:=HT.o.nodes.at hg;simp only at e0 e1;subst e0;simp only[Option.some.injEq,Addr.mk.injEq,and_true]at e1;obtain⟨e1a,e1b⟩:=e1;subst e1a;subst e1b;rw[t.nd_at hf]at hm ho;rw[t.nd_at hg]at hp hq;obtain⟨x,hx⟩:∃x,x=t.nodes[k0].n:=⟨_,rfl⟩
  obtain⟨y,hy⟩:∃y,y=t.nodes[k1].n:=⟨_,rfl⟩
  rw[<-hx]at f0 hm ho;rw[<-hy]at f1 hp hq
  have hs:eW t i=zu (y-x+1) 1 12:=by
   rw[eW,Hc.o,h40,hb];simp[t.nd_at hf,t.nd_at hg,<-hx,<-hy]
  have HS:=Hd hs;have ha:(D.kind==40)=true:=by simpa using h40
  have hr:bk<w.heap.size+1:=by omega
  have ht:bk<w.heap.size+1+1:=by omega
  have hu:p0<w.heap.size+1:=by omega
  have hv:p0<w.heap.size+1+1:=by omega
  rw[hj];clear hx hy hs hb h40;go_enter func94,ntmps94;go_wp2
  go_quiet (fail)
  go_wp2_with (go_at_call 135;refine(zw _ _ _ _).mono ?_;rintro e w' ⟨rfl,rfl⟩)
  go_ret;exact⟨zc HS.o.symm,below_drewN (((Below.refl _ w).alloc nlr _).alloc (by simp) _) _⟩
 .have ha:(D.kind==40)=false:=by simpa using h40
  have hs:eW t i=if D.kind==41 then decide ((D.kids.length:Int)<=6)else if D.kind==42 then decide ((D.kids.length:Int)-2<=4)&&decide (D.n<=8)else if D.kind==33 then zu D.n 1 6 else if D.kind==26 then decide ((D.kids.length:Int)<=6)else if D.kind==46 then D.n != 8||decide ((D.kids.length:Int)<=4)else true:=by
   rw[eW,Hc.o,ha];rfl
  have Ha:∀W,Calls prog 136 #[.agg #[.int .u8 D.kind,strV D.text,intV D.n,.slice ka D.kids.length kc,intV D.pos]] W fun e w'=>e=.returned (intV ((D.kids.length:Int)-2))/\Below W.heap.size W w':=fun W=>xZ D ka kc W hh;obtain⟨k,hk⟩:∃k,k=D.kind:=⟨_,rfl⟩
  obtain⟨n,hn⟩:∃n,n=D.n:=⟨_,rfl⟩
  obtain⟨l,hl⟩:∃l,l=D.kids.length:=⟨_,rfl⟩
  rw[<-hk,<-hn,<-hl]at hs Ha|-;rw[<-hk]at ha;rw[<-hl]at hh;have HS:=Hd hs;have HP:=Hd Ha;clear hs hk hn hl h40 Ha;go_enter func94,ntmps94
  go_wp2_with (first
   | (go_at_call 136;refine(HP.o _).mono ?_;rintro e w' ⟨rfl,he⟩;have hz:w'.cell? ⟨w.heap.size+1,2,none⟩=some (intV n):=(he.cell (p:=⟨w.heap.size+1,2,none⟩) (by simp)).trans (by simp);have He:Hid (Below w.heap.size w w'):=Hd ((((Below.refl _ w).alloc nlr _).alloc (by simp) _).trans (he.mono (by simp;omega)));clear he)
   | (go_at_call 135;refine(zw _ _ _ _).mono ?_;rintro e w' ⟨rfl,rfl⟩))
  all_goals
   go_ret;refine⟨zc ?_,by first|exact He.o|exact(((Below.refl _ w).alloc nlr _).alloc (by simp) _)⟩;rw[HS.o]
   (try simp_all)<;>(try omega)
theorem FM(v:TreeV)(t:Tr)(i s:Nat)(ka:Option Addr)(kc:Nat)(w:World)(bd:Bd t)(hi:i<t.nodes.length)
 (hc:(t.nd i).kind=40->∃k0 k1:Nat,k0<t.nodes.length/\k1<t.nodes.length/\(t.nd i).kids=[(k0:Int),(k1:Int)] /\ -9999<=(t.nd k0).n/\(t.nd k0).n<=9999 /\ -9999<=(t.nd k1).n/\(t.nd k1).n<=9999)(h:IsTree w v t)(hkr:Ints w ka kc t.nodes[i].kids)
 (h0:w.cell? ⟨s,0,none⟩=some (.slice v.na t.nodes.length v.nc))(h1:w.cell? ⟨s,1,none⟩=some (.slice v.ia t.items.length v.ic)) :
 Calls prog 93 #[.agg #[.int .u8 t.nodes[i].kind,strV t.nodes[i].text,intV t.nodes[i].n,.slice ka t.nodes[i].kids.length kc,intV t.nodes[i].pos],.pointer (some ⟨s,0,none⟩)] w (zD w (!eW t i)):=by
 have HS:∀W,Below w.heap.size w W->Calls prog 94 #[v.val t,.agg #[.int .u8 t.nodes[i].kind,strV t.nodes[i].text,intV t.nodes[i].n,.slice ka t.nodes[i].kids.length kc,intV t.nodes[i].pos]] W (zD W (eW t i)):=
  fun W hW=>DS v t i ka kc W bd hi hc (h.mono hW nlr) (hkr.mono hW nlr)
 obtain⟨D,hD⟩:∃D,t.nodes[i]=D:=⟨_,rfl⟩
 rw[hD]at HS|-;obtain⟨y,hy⟩:∃y,eW t i=y:=⟨_,rfl⟩
 rw[hy]at HS|-;have Hb:=Hd HS;have hs:=World.block_lt_of_cell? w ⟨s,0,none⟩ h0;simp only at hs;have hb:¬s=w.heap.size:=by omega
 clear h bd hD hkr hc HS hy;unfold TreeV.val at *;go_enter func93,ntmps93
 go_wp2_with (go_at_call 94;refine(Hb.o _ (by go_grown)).mono ?_;rintro e w' ⟨rfl,ha⟩;have Ha:Hid (Below w.heap.size w w'):=Hd (((Below.refl _ w).alloc nlr _).trans (ha.mono (by simp)));clear ha)
 go_ret;exact⟨rfl,Ha.o⟩
def Choices(t:Tr):Prop:=∀i,i<t.nodes.length->(t.nd i).kind=40->∃k0 k1:Nat,k0<t.nodes.length/\k1<t.nodes.length/\(t.nd i).kids=[(k0:Int),(k1:Int)] /\ -9999<=(t.nd k0).n/\(t.nd k0).n<=9999 /\ -9999<=(t.nd k1).n/\(t.nd k1).n<=9999
theorem xO(v:TreeV)(t:Tr)(s:Nat)(w:World)(bd:Bd t)(hc:Choices t)(h:IsTree w v t)
 (h0:w.cell? ⟨s,0,none⟩=some (.slice v.na t.nodes.length v.nc))(h1:w.cell? ⟨s,1,none⟩=some (.slice v.ia t.items.length v.ic)) :
 Calls prog 92 #[.slice v.na t.nodes.length v.nc,.func (.func 93) #[] #[.pointer (some ⟨s,0,none⟩)]] w (kS w (aA t)):=by
 have hs:=World.block_lt_of_cell? w ⟨s,0,none⟩ h0;simp only at hs
 have HS:∀(i:Nat) (hi:i<t.nodes.length) ka kc W,Below w.heap.size w W->Ints W ka kc t.nodes[i].kids->Calls prog 93 #[.agg #[.int .u8 t.nodes[i].kind,strV t.nodes[i].text,intV t.nodes[i].n,.slice ka t.nodes[i].kids.length kc,intV t.nodes[i].pos],.pointer (some ⟨s,0,none⟩)] W (zD W (!eW t i)):=
  fun i hi ka kc W hW hk=>FM v t i s ka kc W bd hi (hc i hi) (h.mono hW nlr) hk ((hW.cell (p:=⟨s,0,none⟩) hs).trans h0) ((hW.cell (p:=⟨s,1,none⟩) hs).trans h1)
 have Hc:=Hd HS;have HT:=Hd h;have he:=bd.n;obtain⟨na,nc,ia,ic⟩:=v;clear h bd hc h0 h1 HS hs;go_enter func92,ntmps92;go_wp2
 go_loopw [8] (fun t8 wr=>∃k:Nat,t8=.int .i64 k/\k<=t.nodes.length/\Hid (aA t=first (fun i=>!eW t i) t.nodes.length k)/\Hid (Below w.heap.size w wr)) (fun t8 _=>t.nodes.length-(intOf t8).toNat)
 case atStart=>exact⟨0,rfl,Nat.zero_le _,Hd rfl,Hd brf⟩
 case round=>
  obtain⟨k,rfl,hk,HA,HB⟩:=hrel;by_cases hlt:k<t.nodes.length
  .obtain⟨b,o,ka,kc,ea,hb,c0,c1,c2,c3,c4,hd⟩:=(HT.o.mono HB.o nlr).nodes.at hlt
   simp only at ea;subst ea;have HC:=Hc.o k hlt ka kc wr HB.o hd;obtain⟨D,hD⟩:∃D,t.nodes[k]=D:=⟨_,rfl⟩
   rw[hD]at HC c0 c1 c2 c3 c4;obtain⟨y,hy⟩:∃y,(!eW t k)=y:=⟨_,rfl⟩
   rw[hy]at HC;have Hb:=Hd HC;have HY:=Hd hy;clear hD hd HC hy
   cases y with
   | true=>
     go_wp2_with (go_at_call 93;refine Hb.o.mono ?_;rintro e w' ⟨rfl,ha⟩;have Ha:Hid (Below w.heap.size w w'):=Hd (HB.o.trans (ha.mono HB.o.size));clear ha)
     go_ret;exact⟨zO (by rw[HA.o];exact(zV hlt HY.o).symm),Ha.o⟩
   | false=>
     go_wp2_with (go_at_call 93;refine Hb.o.mono ?_;rintro e w' ⟨rfl,ha⟩;have Ha:Hid (Below w.heap.size w w'):=Hd (HB.o.trans (ha.mono HB.o.size));clear ha)
     go_roundw
     case rel=>exact⟨k+1,by go_num,by omega,Hd (by rw[HA.o];exact bW hlt HY.o),Ha⟩
     case measure=>simp[intOf];omega
  .go_wp2
   go_ret;exact⟨zO (by rw[HA.o];exact(bS (by omega)).symm),HB.o⟩
theorem iF(v:TreeV)(t:Tr)(w:World)(bd:Bd t)(hc:Choices t)(h:IsTree w v t) :
 Calls prog 65 #[v.val t] w (kS w (aA t)):=by
 have HX:=Hd (xO v t w.heap.size (boxT w v t) bd hc (h.mono ((Below.refl _ w).alloc nlr _) nlr) (by simp) (by simp));clear h bd hc;unfold TreeV.val;go_enter func65,ntmps65
 go_wp2_with (go_at_call 92;refine HX.o.mono ?_;rintro e w' ⟨rfl,ha⟩;have Ha:Hid (Below w.heap.size w w'):=Hd (((Below.refl _ w).alloc nlr _).trans (ha.mono (by simp)));clear ha)
 go_ret;exact⟨rfl,Ha.o⟩
theorem qC{E:PE}(tk:mS E):Good1 E (iO E):=by
 intro s a s' hs h;unfold iO at h;split at h
 .rename_i hi
  have hb:=fT hi;obtain⟨s1,h1,h2⟩:=bind_ok.1 h;obtain⟨rfl,ha,hk⟩:=bY (by decide) h1;obtain⟨rfl,rfl⟩:=aV h2;have hv:=tk _ (dU ha) hk;exact cK ((((Adv.refl hs).take hb).take ha).less (by omega)) (ndok cE (by simp) (by omega) (by omega) (.inl rfl) (by omega))
 .obtain⟨s1,h1,h2⟩:=bind_ok.1 h
  obtain⟨rfl,ha,hk⟩:=bY (by decide) h1;obtain⟨rfl,rfl⟩:=aV h2;have hv:=tk _ (dU ha) hk;exact cK ((Adv.refl hs).take ha) (ndok cE (by simp) (by omega) (by omega) (.inl rfl) (by omega))
def Item1(E:PE)(s0:PS)(r:PR (Int×PS)):Prop:=∀a s',r=.ok (a,s')->Rd E s0 a s'
theorem DZ{E:PE}(tk:mS E){own:Tk}{s0 s:PS}(ad:Adv E 1 s0 s):Item1 E s0 (kZ E own s):=by
 intro a s' h;unfold kZ at h;obtain⟨s1,h1,h2⟩:=bind_ok.1 h;obtain⟨rfl,ha,-⟩:=bY (by decide) h1;obtain⟨s2,h3,h4⟩:=bind_ok.1 h2;obtain⟨rfl,hb⟩:=aY h3;obtain⟨⟨b,c⟩,h5,h6⟩:=bind_ok.1 h4;obtain⟨s4,h7,h8⟩:=bind_ok.1 h6;obtain⟨rfl,hc⟩:=aY h7;obtain⟨⟨d,e⟩,h9,hd⟩:=bind_ok.1 h8;obtain⟨rfl,rfl⟩:=aV hd;have r:=qC tk s.take.take b c (by simp only[PS.take]at hb|-;omega) h5;have r2:=qC tk c.take d e (by simp only[PS.take]at hc|-;omega) h9;have l2:=r2.adv.len;have a1:=r.lo;have a2:=r2.lo;have b1:=r.hi;have b2:=r2.hi;simp only[PS.take]at l2 a1 a2;refine cK (((((ad.take ha).take hb).trans r.adv).take hc).trans r2.adv |>.less (by omega)) (ndok ?_ (by simp) (by omega) (by omega) (.inr (fH ha)) (fun _=>⟨_,_,rfl⟩));intro k hk;simp only[List.mem_cons,List.not_mem_nil,or_false]at hk;simp only;rcases hk with rfl|rfl<;>omega
theorem ER{E:PE}{param:RdP}(g:Good1 E param){own:Tk}{s0 s:PS}(ad:Adv E 1 s0 s):Item1 E s0 (lF param E own s):=by
 intro a s' h;unfold lF at h;obtain⟨s1,h1,h2⟩:=bind_ok.1 h;obtain⟨rfl,ha,-⟩:=bY (by decide) h1;obtain⟨s2,h3,h4⟩:=bind_ok.1 h2;obtain⟨rfl,hc⟩:=aY h3;obtain⟨s3,h5,h6⟩:=bind_ok.1 h4;obtain⟨rfl,hb⟩:=aY h5;obtain⟨⟨l,c⟩,h7,h8⟩:=bind_ok.1 h6;obtain⟨s5,h9,he⟩:=bind_ok.1 h8;obtain⟨rfl,hd⟩:=aY h9;obtain⟨rfl,rfl⟩:=aV he;obtain⟨k1,k2,k3⟩:=kL g (by simp only[PS.take]at hb|-;omega) h7;have hl:=k1.le;exact cK ((((((ad.take ha).take hc).take hb).trans k1).take hd).less (by omega)) (ndok (by simpa[PS.take]using k2) (by dsimp only;omega) (by omega) (by omega) (.inr (fH ha)) (by omega))
theorem OC{E:PE}(tk:mS E){s s':PS}{n:Int}(hs:s.next<=E.toks.length)(h:uB E s=.ok (n,s')):Adv E 0 s s'/\0<=n/\n<=9999/\s'.nodes=s.nodes:=by
 unfold uB at h;split at h
 .rename_i hi
  have hb:=fT hi;split at h
  .cases h
  .obtain⟨s1,h1,h2⟩:=bind_ok.1 h
   obtain⟨rfl,ha,hk⟩:=bY (by decide) h1;simp only[Except.ok.injEq,Prod.mk.injEq]at h2;obtain⟨rfl,rfl⟩:=h2;have hv:=tk _ (dU ha) hk;exact⟨(((Adv.refl hs).take hb).take ha).less (by omega),hv.1,hv.2,rfl⟩
 .simp only[Except.ok.injEq,Prod.mk.injEq]at h
  obtain⟨rfl,rfl⟩:=h;exact⟨Adv.refl hs,by omega,by omega,rfl⟩
theorem vO{E:PE}(tk:mS E){param kindOf expr:RdP}(gp:Good1 E param)(gk:Good1 E kindOf)(ge:Good1 E expr){own:Tk}{s0 s:PS}(ad:Adv E 1 s0 s):Item1 E s0 (fR param kindOf expr E own s):=by
 intro a s' h;unfold fR at h;obtain⟨s1,h1,h2⟩:=bind_ok.1 h;obtain⟨rfl,hb,-⟩:=bY (by decide) h1;obtain⟨s2,h3,h4⟩:=bind_ok.1 h2;obtain⟨rfl,ha⟩:=aY h3;obtain⟨⟨l,c⟩,h5,h6⟩:=bind_ok.1 h4;obtain⟨s4,h7,h8⟩:=bind_ok.1 h6;obtain⟨rfl,he⟩:=aY h7;obtain⟨s5,h9,hf⟩:=bind_ok.1 h8;obtain⟨rfl,hc⟩:=aY h9;obtain⟨⟨k,d⟩,hg,hh⟩:=bind_ok.1 hf;obtain⟨⟨u,e⟩,hj,hk⟩:=bind_ok.1 hh;obtain⟨s8,hm,hn⟩:=bind_ok.1 hk;obtain⟨rfl,hd⟩:=aY hm;obtain⟨⟨x,f⟩,ho,hp⟩:=bind_ok.1 hn;obtain⟨rfl,rfl⟩:=aV hp
 obtain⟨k1,k2,k3⟩:Adv E 0 s.take.take c/\(∀k∈l,0<=k/\k<(c.nodes.length:Int))/\l.length+s.take.take.next<=c.next:=by
  split at h5
  .simp only[Except.ok.injEq,Prod.mk.injEq]at h5
   obtain⟨rfl,rfl⟩:=h5;exact⟨Adv.refl (by simp only[PS.take]at ha|-;omega),cE,by simp⟩
  .exact kL gp (by simp only[PS.take]at ha|-;omega) h5
 have r1:=gk c.take.take k d (by simp only[PS.take]at hc|-;omega) hg;obtain⟨u1,u2,u3,u4⟩:=OC tk r1.adv.le hj;have r2:=ge e.take x f (by simp only[PS.take]at hd|-;omega) ho;have l1:=r1.adv.len;have l2:=r2.adv.len;have l0:=k1.len;have a1:=r1.lo;have a2:=r2.lo;have b1:=r1.hi;have b2:=r2.hi;have hl:=k1.le;have hq:=u1.len;simp only[PS.take]at l1 l2 a1 a2 l0 hq k3;refine cK (((((((((ad.take hb).take ha).trans k1).take he).take hc).trans r1.adv).trans u1).take hd).trans r2.adv |>.less (by omega)) (ndok ?_ (by simp;omega) (by omega) (by omega) (.inr (fH hb)) (by omega));intro y hy;simp only[List.mem_append,List.mem_cons,List.not_mem_nil,or_false]at hy;simp only;rcases hy with(hy|rfl) | rfl
 .have:=k2 y hy;omega
 .omega
 .omega
theorem KE{E:PE}{rd:RdP}(g:Good1 E rd){k:Int}{x:List UInt8}(hk:1<=k/\k<=46/\k≠40){own:Tk}{s0 s:PS}(ad:Adv E 1 s0 s) :
 Item1 E s0 ((bU E s 1).bind fun s1=>(cC E s1 x).bind fun s2=>(rd s2).bind fun e=>addR e.2 k own (zh E s).text 0 [e.1]):=by
 intro a s' h;obtain⟨s1,h1,h2⟩:=bind_ok.1 h;obtain⟨rfl,ha,-⟩:=bY (by decide) h1;obtain⟨s2,h3,h4⟩:=bind_ok.1 h2;obtain⟨rfl,hb⟩:=aY h3;obtain⟨⟨b,c⟩,h5,h6⟩:=bind_ok.1 h4;obtain⟨rfl,rfl⟩:=aV h6;have r:=g s.take.take b c (by simp only[PS.take]at hb|-;omega) h5;have hc:=r.lo;exact cK ((((ad.take ha).take hb).trans r.adv).less (by omega)) (ndok (mC (by omega) r.hi) (by simp) (by omega) (by omega) (.inr (fH ha)) (by omega))
theorem AL{E:PE}{own:Tk}{s0 s:PS}(ad:Adv E 1 s0 s):Item1 E s0 (iS E own s):=by
 intro a s' h;unfold iS at h;obtain⟨s1,h1,h2⟩:=bind_ok.1 h;obtain⟨rfl,ha,-⟩:=bY (by decide) h1;obtain⟨rfl,rfl⟩:=aV h2;exact cK ((ad.take ha).less (by omega)) (ndok cE (by simp) (by omega) (by omega) (.inr (fH ha)) (by omega))
theorem wI(x:List UInt8):0<=gH x/\gH x<=8:=by
 unfold gH
 repeat' split
 all_goals omega
theorem LW{E:PE}{expr:RdP}(g:Good1 E expr){own:Tk}{s0 s:PS}(ad:Adv E 1 s0 s):Item1 E s0 (yL expr E own s):=by
 intro a s' h;have hq:=wI (zh E s).text;unfold yL at h;cases hz:(gH (zh E s).text==0)with
 |true=>rw[if_pos hz]at h;cases h
 | false=>
   rw[if_neg (by rw[hz];exact Bool.false_ne_true)]at h;have ha:s.next<E.toks.length:=mD (kinds:=gH) (by decide) hz;obtain⟨⟨l,c⟩,h1,h2⟩:=bind_ok.1 h;obtain⟨rfl,rfl⟩:=aV h2
   obtain⟨k1,k2,k3⟩:Adv E 0 s.take c/\(∀k∈l,0<=k/\k<(c.nodes.length:Int))/\l.length+s.take.next<=c.next:=by
    split at h1
    .simp only[Except.ok.injEq,Prod.mk.injEq]at h1
     obtain⟨rfl,rfl⟩:=h1;exact⟨Adv.refl (by simp only[PS.take];omega),cE,by simp⟩
    .split at h1
     .exact kL g (by simp only[PS.take];omega) h1
     .obtain⟨⟨b,d⟩,h3,h4⟩:=bind_ok.1 h1
      simp only[Except.ok.injEq,Prod.mk.injEq]at h4;obtain⟨rfl,rfl⟩:=h4;have r:=g s.take b d (by simp only[PS.take];omega) h3;have hb:=r.lo;have hm:=r.more;exact⟨r.adv,mC (by omega) r.hi,by simp;omega⟩
   have hl:=k1.le;exact cK (((ad.take ha).trans k1).less (by omega)) (ndok k2 (by dsimp only;omega) (by omega) (by omega) (.inl rfl) (by omega))
theorem MM{E:PE}(tk:mS E):Good1 E (qF E):=by
 intro s a s' hs h;unfold qF at h;cases hk:((zh E s).kind != 3)with
 |true=>rw[if_pos hk]at h;cases h
 | false=>
   rw[if_neg (by rw[hk];exact Bool.false_ne_true)]at h;have ha:s.next<E.toks.length:=qH (k:=3) (by decide) (by simpa using hk);have ad:=(Adv.refl hs).take ha;have G:=fun nt=>wD tk (PU E) nt;split at h
   .exact DZ tk ad a s' h
   .split at h
    .exact ER (G .param) ad a s' h
    .split at h
     .exact vO tk (G .param) (G .kindOf) (G .expr) ad a s' h
     .split at h
      .exact KE (G .expr) (k:=43) (by omega) ad a s' h
      .split at h
       .exact KE (G .expr) (k:=44) (by omega) ad a s' h
       .split at h
        .exact AL ad a s' h
        .split at h
         .exact LW (G .expr) ad a s' h
         .cases h
theorem qS{E:PE}(tk:mS E):∀(f:Nat) (l:List Int) (s:PS) (l':List Int) (s':PS),s.next<=E.toks.length->(∀k∈l,0<=k/\k<(s.nodes.length:Int))->bM E f l s=.ok (l',s') ->
 Adv E 0 s s'/\(∀k∈l',0<=k/\k<(s'.nodes.length:Int))/\l'.length+s.next<=l.length+s'.next
 | 0,l,s,l',s',hs,hl,h=>by
   simp only[bM,Except.ok.injEq,Prod.mk.injEq]at h;obtain⟨rfl,rfl⟩:=h;exact⟨Adv.refl hs,hl,nlr⟩
 | f+1,l,s,l',s',hs,hl,h=>by
   rw[bM]at h;split at h
   .obtain⟨⟨a,b⟩,h1,h2⟩:=bind_ok.1 h
    obtain⟨s2,h6,h7⟩:=bind_ok.1 h2;obtain⟨rfl,ha⟩:=aY h6;have r:=MM tk s a b hs h1;have hb:=r.adv.len;have hd:=r.lo;have hc:=r.hi;have hm:=r.more
    obtain⟨h3,h4,h5⟩:=qS tk f _ b.take l' s' (by simp only[PS.take]at ha|-;omega) (by
     intro k hk;simp only[PS.take];rcases List.mem_append.1 hk with hk|hk
     .have:=hl k hk;omega
     .obtain rfl:=List.mem_singleton.1 hk
      omega) h7
    refine⟨((r.adv.take ha).trans h3).less (by omega),h4,?_⟩;simp only[List.length_append,List.length_singleton,PS.take]at h5;omega
   .simp only[Except.ok.injEq,Prod.mk.injEq]at h
    obtain⟨rfl,rfl⟩:=h;exact⟨Adv.refl hs,hl,nlr⟩
structure TreeOk (E:PE) (t:Tr):Prop where
 n:t.nodes.length<=E.toks.length
 i:t.items.length<=E.toks.length
 nd:∀i d,t.nodes[i]?=some d->NdOk E i d
 it:∀k∈t.items,0<=k/\k<(t.nodes.length:Int)
theorem CV{E:PE}(tk:mS E){t:Tr}(h:oG E=.ok t):TreeOk E t:=by
 unfold oG at h;cases hp:bM E (E.toks.length+1) [] ⟨0,[]⟩with
 |error e=>rw[hp]at h;cases h
 | ok r=>
   rw[hp]at h;obtain rfl:=Except.ok.inj h;obtain⟨l,s'⟩:=r;obtain⟨h1,h2,h3⟩:=qS tk _ [] ⟨0,[]⟩ l s' (Nat.zero_le _) cE hp;have hl:=h1.len;have hle:=h1.le;simp only[List.length_nil]at hl h3;exact⟨by simp only;omega,by simp only;omega,fun i d hd=>h1.ok i d (Nat.zero_le _) hd,h2⟩
theorem TreeOk.bd{E:PE}{t:Tr}(h:TreeOk E t)(hE:E.toks.length<=800)(hT:∀x∈E.toks,x.text.length<=1000000000):Bd t:=by
 have h1:=h.n;have h2:=h.i;refine⟨by omega,by omega,fun d hd=>?_,fun d hd=>?_⟩
 .obtain⟨i,hi,rfl⟩:=List.getElem_of_mem hd
  have:=(h.nd i _ (List.getElem?_eq_getElem hi)).kids;omega
 .obtain⟨i,hi,rfl⟩:=List.getElem_of_mem hd
  rcases(h.nd i _ (List.getElem?_eq_getElem hi)).text with e|⟨x,hx,e⟩
  .rw[e];simp
  .rw[e];exact hT x hx
theorem TreeOk.at_{E:PE}{t:Tr}(h:TreeOk E t){i:Nat}(hi:i<t.nodes.length):NdOk E i (t.nd i):=by
 rw[t.nd_at hi];exact h.nd i _ (List.getElem?_eq_getElem hi)
theorem TreeOk.rg{E:PE}{t:Tr}(h:TreeOk E t):Rg t:=fun i hi=>by
 have:=(h.at_ hi).n;omega
theorem TreeOk.kid{E:PE}{t:Tr}(h:TreeOk E t):∀i,i<t.nodes.length->∀k∈(t.nd i).kids,0<=k/\k<(i:Int):=fun _ hi=>(h.at_ hi).kid
theorem TreeOk.choices{E:PE}{t:Tr}(h:TreeOk E t):Choices t:=by
 intro i hi hk;have ok:=h.at_ hi;obtain⟨k0,k1,e⟩:=ok.choose hk;have a0:=ok.kid k0 (by rw[e];simp);have a1:=ok.kid k1 (by rw[e];simp);obtain⟨m0,rfl⟩:=Int.eq_ofNat_of_zero_le a0.1;obtain⟨m1,rfl⟩:=Int.eq_ofNat_of_zero_le a1.1;have n0:=(h.at_ (i:=m0) (by omega)).n;have n1:=(h.at_ (i:=m1) (by omega)).n;exact⟨m0,m1,by omega,by omega,e,n0.1,n0.2,n1.1,n1.2⟩
end
end Go.Proofs.YtcdkdiedphhdhaaGreatDoor
