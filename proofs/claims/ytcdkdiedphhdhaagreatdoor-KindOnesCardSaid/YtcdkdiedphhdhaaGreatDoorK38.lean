/- Part of a proof. -/
import Derived.Test.YtcdkdiedphhdhaaGreatDoorK30
import Derived.Test.YtcdkdiedphhdhaaGreatDoorK35
import Derived.Test.YtcdkdiedphhdhaaGreatDoorK36
import Derived.Maps.RangeWalk
set_option maxRecDepth 100000
set_option maxHeartbeats 8000000
set_option linter.unusedVariables false
set_option linter.unusedSimpArgs false
open Go.Proofs.Tryz
namespace Go.Proofs.YtcdkdiedphhdhaaGreatDoor
section
open Go Go.RowKit
def okT(s:List UInt8):Option Tr:=match cJ s with|.ok t=>some t|_=>none
def aK(s:List UInt8):Tr:=(okT s).getD ⟨[],[]⟩
theorem mH{s:List UInt8}(h:(okT s).isSome=true):cJ s=.ok (aK s):=by
 unfold aK
 cases e:cJ s with
 |error p=>unfold okT at h;rw[e]at h;cases h
 |ok t=>unfold okT;rw[e];rfl
theorem jO{s:List UInt8}{t:Tr}(h:cJ s=.ok t):Bd t/\Rg t:=by
 unfold cJ wE at h
 cases hr:nI s with
 |error e=>rw[hr]at h;cases h
 | ok l=>
   rw[hr]at h;simp only at h;obtain⟨tk,hs⟩:=CO hr;have ha:mS ⟨l,s.length⟩:=fun t ht hk=>(nD (tk.tok t ht hk)).2;cases ht:oG ⟨l,(s.length:Int)⟩with
   |error p=>rw[ht]at h;cases h
   | ok t'=>
     rw[ht]at h;simp only at h;have tok:=CV ha ht;have hb:Bd t':=tok.bd tk.many (fun x hx=>Nat.le_trans (tk.text x hx) (by omega));split at h
     .cases h
     .split at h
      .cases h
      .split at h
       .cases h
       .cases h;exact⟨hb,tok.rg⟩
theorem bZ{W:World}{cs:Array Value}{T:TypeId}{i:Nat}{v:Value}(h:cs[i]?=some v):(W.alloc (.cells cs T)).cell? ⟨W.heap.size,i,none⟩=some v:=za (World.alloc_heap_new W _) h
end
section
open Go.RowKit
section
variable {t u : Tr} {S : List Int} {f : Nat -> Nat}
theorem Good.inItem(G:Good t S){a b x:Int}(ha:a∈t.items)(hb:b∈t.items)(h1:stt S a<x)(h2:x<=a)(h3:stt S b<x)(h4:x<=b):a=b:=by
 obtain⟨i,hi,rfl⟩:=List.getElem_of_mem ha;obtain⟨j,hj,rfl⟩:=List.getElem_of_mem hb;have hp:=List.pairwise_iff_getElem.1 G.items;rcases Nat.lt_trichotomy i j with h|h|h
 .have:=hp i j hi hj h;omega
 .subst h;rfl
 .have:=hp j i hj hi h;omega
end
end
section
open Go Go.RowKit
section
variable {t : Tr} {S : List Int}
theorem ON(G:Good t S){g i:Nat}(hg:g<t.nodes.length)(h1:stt S g<i)(h2:i<=g){k:Int}(hk:k∈(t.nd (i:Int)).kids):∃a:Nat,k=a/\a<i/\stt S g<a:=by
 have hn:=G.nest g g i nlr hg h1 (by omega);obtain⟨k1,k2,k3,k4⟩:=G.kid (show i<t.nodes.length by omega) k hk;obtain⟨a,rfl⟩:=Int.eq_ofNat_of_zero_le k4;exact⟨a,rfl,by omega,by omega⟩
theorem CB(G:Good t S){x:Nat}(hx:x<t.nodes.length)(hk:cQ (t.nd (x:Int)).kind=true):(x:Int)∈t.items:=by
 apply Classical.byContradiction;intro hn;obtain⟨i,_,hi,hm⟩:=zy (G.parent_yes hx hn);rw[G.kidKind hi hm]at hk;cases hk
theorem oJ(bd:Bd t)(hr:(zb t).2.2=0)(G:Good t S){i:Nat}(hi:i<t.nodes.length)(k21:(t.nd (i:Int)).kind=21) :
 ∃d:Nat,means t i=d/\d<t.nodes.length/\(t.nd (d:Int)).kind=42/\∀g:Nat,(g:Int)∈t.items->stt S g<i->i<=g->d=g\/d<i:=by
 obtain⟨d,hd,ha,-,-,he,-⟩:=cX bd hr hi (by rw[k21];rfl);rw[k21]at he;have q:(t.nd (d:Int)).kind=42:=by simpa[mM]using he
 refine⟨d,hd,ha,q,fun g hg h1 h2=>?_⟩;have hb:=eO G hi (by omega);rw[hd]at hb;rcases hb with⟨h3,_⟩|⟨_,h3⟩|h3
 .rw[q]at h3;cases h3
 .by_cases hlt:d<i
  .exact .inr hlt
  .left
   have hc:=G.many ha;rw[q]at hc
   have h4:2<=(t.nd (d:Int)).kids.length:=by
    have:(2:Int)<=((t.nd (d:Int)).kids.length:Int):=by simpa[zC]using hc
    omega
   have h5:=h3 0 _ (by omega) (List.getElem?_eq_getElem (show 0<(t.nd (d:Int)).kids.length by omega));obtain⟨k1,k2,k3,k4⟩:=G.kid ha _ (List.getElem_mem (show 0<(t.nd (d:Int)).kids.length by omega));have h6:=G.inItem hg (CB G ha (by rw[q];rfl)) h1 (show(i:Int)<=g by omega) (by omega) (show(i:Int)<=d by omega);omega
 .exact .inr (by omega)
theorem wU{F d:Int}:∀(l:List Int),(∀x∈l,∃f w,wOne t f F d x=some w)->∃f s,sumW (l.map (wOne t f F d))=some s
 | [],_=>⟨0,0,rfl⟩
 | x::l,h=>by
   obtain⟨f,w,hf⟩:=h x (by simp);obtain⟨g,s,hg⟩:=wU l fun y hy=>h y (by simp[hy]);refine⟨f+g,w+s,?_⟩;rw[List.map_cons,sumW,cZ f (f+g) _ _ _ _ (by omega) hf,jW (fun x r hx=>cZ g (f+g) _ _ x r (by omega) hx) _ _ hg];rfl
theorem JH{F d i:Int}(hs:∃f s,sumW ((t.nd i).kids.map (wOne t f F d))=some s)(hc:(t.nd i).kind=21->∀g e,cS t F d i=some (g,e)->∃b,BodyW t g e b):∃f w,wOne t f F d i=some w:=by
 obtain⟨f,s,hf⟩:=hs;by_cases hk:(t.nd i).kind=21
 .cases hcl:cS t F d i with
  | none=>
    refine⟨f+1,1+s,?_⟩;rw[wOne,hf];simp only[Option.bind_some,hk,hcl];rfl
  | some p=>
    obtain⟨g,e⟩:=p;obtain⟨b,f',hb⟩:=hc hk g e hcl;refine⟨f+f'+1,1+s+b,?_⟩;rw[wOne,jW (fun x r hx=>cZ f (f+f') _ _ x r (by omega) hx) _ _ hf];simp only[Option.bind_some,hk,hcl,cZ f' (f+f') _ _ _ _ (by omega) hb];rfl
 .refine⟨f+1,1+s,?_⟩
  rw[wOne,hf];have:((t.nd i).kind==21)=false:=by simpa using hk
  simp only[Option.bind_some,this];rfl
theorem tD(G:Good t S){g:Nat}(hg:g<t.nodes.length)(hk:(t.nd (g:Int)).kind=42):∃a:Nat,jD t g=a/\a<g/\stt S g<a/\jD t g∈(t.nd (g:Int)).kids:=by
 have hb:=G.many hg;rw[hk]at hb
 have h4:2<=(t.nd (g:Int)).kids.length:=by
  have:(2:Int)<=((t.nd (g:Int)).kids.length:Int):=by simpa[zC]using hb
  omega
 have e:jD t g=(t.nd (g:Int)).kids[(t.nd (g:Int)).kids.length-1]:=by
  unfold jD;rw[List.getD_eq_getElem?_getD,List.getElem?_eq_getElem (by omega),Option.getD_some]
 have hm:=List.getElem_mem (show(t.nd (g:Int)).kids.length-1<(t.nd (g:Int)).kids.length by omega);rw[<-e]at hm;obtain⟨k1,k2,k3,k4⟩:=G.kid hg _ hm;obtain⟨a,ha⟩:=Int.eq_ofNat_of_zero_le k4;exact⟨a,ha,by omega,by omega,hm⟩
theorem GZ(bd:Bd t)(hr:(zb t).2.2=0):∀g:Nat,g<t.nodes.length->(t.nd (g:Int)).kind=42->∀e:Int,∃b,BodyW t g e b:=by
 obtain⟨wf,G⟩:=zi bd hr;intro g
 induction g using Nat.strongRecOn with
 |ind g ih=>
 intro hg hk;have hj:=CB G hg (by rw[hk];rfl)
 have key:∀(m:Nat) (e:Int),((t.nd (g:Int)).n-e).toNat<=m->∃b,BodyW t g e b:=by
  intro m
  induction m with
  | zero=>
    intro e he
    have nodes:∀i:Nat,stt (dN t) g<i->i<=g->∃f w,wOne t f g e i=some w:=by
     intro i
     induction i using Nat.strongRecOn with
     |ind i ihi=>
     intro h1 h2;refine JH (wU _ fun x hx=>?_) fun k21 g' e' hc=>?_
     .obtain⟨a,rfl,h3,h4⟩:=ON G hg h1 h2 hx
      exact ihi a h3 h4 (by omega)
     .obtain⟨d,hd,hh,hb,hi⟩:=oJ bd hr G (show i<t.nodes.length by omega) k21
      unfold cS at hc;rw[hd]at hc;split at hc
      .rw[if_neg (by omega)]at hc;cases hc
      .rename_i hne
       cases hc
       rcases hi g hj h1 h2 with q|q
       .exact absurd (by omega) hne
       .exact ih d (by omega) hh hb 0
    obtain⟨a,ha,h1,h2,-⟩:=tD G hg hk;obtain⟨f,w,hf⟩:=nodes a h2 (by omega);exact⟨w,f,by rw[ha];exact hf⟩
  | succ m ihm=>
    intro e he
    have nodes:∀i:Nat,stt (dN t) g<i->i<=g->∃f w,wOne t f g e i=some w:=by
     intro i
     induction i using Nat.strongRecOn with
     |ind i ihi=>
     intro h1 h2;refine JH (wU _ fun x hx=>?_) fun k21 g' e' hc=>?_
     .obtain⟨a,rfl,h3,h4⟩:=ON G hg h1 h2 hx
      exact ihi a h3 h4 (by omega)
     .obtain⟨d,hd,hh,hb,hi⟩:=oJ bd hr G (show i<t.nodes.length by omega) k21
      unfold cS at hc;rw[hd]at hc;split at hc
      .split at hc
       .cases hc
        exact ihm (e+1) (by omega)
       .cases hc
      .rename_i hne
       cases hc
       rcases hi g hj h1 h2 with q|q
       .exact absurd (by omega) hne
       .exact ih d (by omega) hh hb 0
    obtain⟨a,ha,h1,h2,-⟩:=tD G hg hk;obtain⟨f,w,hf⟩:=nodes a h2 (by omega);exact⟨w,f,by rw[ha];exact hf⟩
 exact fun e=>key _ e nlr
theorem RJ(bd:Bd t)(hr:(zb t).2.2=0):∀i:Nat,i<t.nodes.length->∃f w,wOne t f (-1) 0 i=some w:=by
 obtain⟨wf,G⟩:=zi bd hr;intro i
 induction i using Nat.strongRecOn with
 |ind i ih=>
 intro hi;refine JH (wU _ fun x hx=>?_) fun k21 g' e' hc=>?_
 .obtain⟨a,rfl,h3⟩:=aN G hi hx
  exact ih a h3 (by omega)
 .obtain⟨d,hd,hb,ha,-⟩:=oJ bd hr G hi k21
  unfold cS at hc;rw[hd,if_neg (by omega)]at hc;cases hc
  exact GZ bd hr d hb ha 0
theorem BZ(bd:Bd t)(hr:(zb t).2.2=0){i:Nat}(hi:i<t.nodes.length):∃f w,jL t f i=some w:=by
 obtain⟨wf,G⟩:=zi bd hr;unfold jL;split
 .rename_i hk
  obtain⟨b,f,h⟩:=GZ bd hr i hi (by simpa using hk) 0;exact⟨f,b,h⟩
 .split
  .exact wU _ fun x hx=>by
    obtain⟨a,rfl,h3⟩:=aN G hi hx;exact RJ bd hr a (by omega)
  .exact⟨0,0,rfl⟩
theorem vL(bd:Bd t)(hr:(zb t).2.2=0):∀(l:List Int) (x:Int×Int×Int),(∀i∈l,∃k:Nat,i=k/\k<t.nodes.length)->∃f r,gC t f l x=some r
 | [],_,_=>⟨0,_,rfl⟩
 | i::l,x,h=>by
   obtain⟨k,rfl,hk⟩:=h i (by simp);obtain⟨f,w,hf⟩:=BZ bd hr hk;obtain⟨g,r,hg⟩:=vL bd hr l (iY t k x) fun y hy=>h y (by simp[hy]);refine⟨f+g,?_⟩;rw[gC,kK hf (show f<=f+g by omega),Option.bind_some];rw[iN (show g<=f+g by omega) _ _ _ hg];split
   .exact⟨_,rfl⟩
   .split
    .exact⟨_,rfl⟩
    .exact⟨_,rfl⟩
end
end
section
open Go Go.RowKit
theorem JN(s:List UInt8)(w:World)(hs:s.length<=1000000000)(hg:GV w) :
 Calls prog 42 #[strV s] w fun e w'=>∃(v:TreeV) (t:Tr) (pl er:Int),e=.returned (.tuple #[v.val t,intV pl,intV er])/\IsTree w' v t/\Below w.heap.size w w'/\Bd t/\Rg t/\(∀t',cJ s=.ok t'->t=t'/\er=0):=by
 have h:=yA s w hs hg
 cases hp:cJ s with
 | error p=>
   rw[hp]at h;refine h.mono ?_;rintro e w'⟨rfl,hb⟩;refine⟨⟨none,0,none,0⟩,⟨[],[]⟩,p.1,p.2,rfl,⟨⟨[],rfl,⟨rfl,nlr,(fun _=>rfl),.inl rfl⟩,(fun i hi=>by cases hi)⟩,⟨rfl,nlr,(fun _=>rfl),.inl rfl⟩⟩,hb,⟨by simp,by simp,(fun d hd=>by cases hd),(fun d hd=>by cases hd)⟩,(fun i hi=>by cases hi),(fun t' h=>by cases h)⟩
 | ok t=>
   rw[hp]at h;refine h.mono ?_;rintro e w'⟨v,rfl,ht,hb⟩;obtain⟨h1,h2⟩:=jO hp;exact⟨v,t,0,0,rfl,ht,hb,h1,h2,fun t' h=>⟨Except.ok.inj h,rfl⟩⟩
def LS(w:World)(s:List UInt8)(e:Ending)(w':World):Prop:=
 ∃(v:TreeV) (t:Tr) (ok:Bool),e=.returned (.tuple #[v.val t,.bool ok])/\IsTree w' v t/\Below w.heap.size w w'/\Bd t/\Rg t/\(∀t',cJ s=.ok t'->t=t'/\ok=true)
theorem oR(s:List UInt8)(w:World)(hs:s.length<=1000000000)(hg:GV w) :
 Calls prog 21 #[strV s] w (LS w s):=by
 have hd:Below w.heap.size w (w.alloc (.cells #[.slice none 0 0,.slice none 0 0] 25)):=(Below.refl _ w).alloc nlr _;have HP:=Hd (JN s _ hs (hg.mono hd nlr));have Hc:=Hd hd;have hj:(w.alloc (.cells #[.slice none 0 0,.slice none 0 0] 25)).heap.size=w.heap.size+1:=by simp
 have Hb:=Hd hj;clear hd hj hg;go_enter func21,ntmps21
 go_wp2_with (go_at_call 42;refine HP.o.mono ?_;rintro e w2 ⟨⟨na,nc,ia,ic⟩,t,pl,er,rfl,ht,ha,he,hi,hf⟩;have He:=Hd he;have Hf:=Hd hi;have Ha:=Hd hf;rw[Hb.o]at ha;unfold TreeV.val;have hc:=ha.alloc (by have:=ha.size;rw[Hb.o]at this;exact this) (.cells #[.slice na t.nodes.length nc,.slice ia t.items.length ic] 25);have hh:=(hc.block w.heap.size (by omega)).trans (World.alloc_heap_new w (.cells #[.slice none 0 0,.slice none 0 0] 25));have r0:=za (i:=0) (v:=.slice none 0 0) hh rfl;have r1:=za (i:=1) (v:=.slice none 0 0) hh rfl;have f0:=zr (i:=0) hh;have f1:=zr (i:=1) hh;have hk:=ht.mono ((Below.refl _ w2).alloc nlr (.cells #[.slice na t.nodes.length nc,.slice ia t.items.length ic] 25)) nlr;have Hg:=Hd (TreeAt.put (v:=⟨na,nc,ia,ic⟩) r0 r1 f0 f1 (fK hc) hk (Hc.o.trans (hc.mono (by omega))));clear ha hc hh ht hk he hi hf)
 obtain⟨k0,k1,-,-,-,ht,hb⟩:=Hg.o;unfold put2 at k0 k1;refine bodyPost_ret (v:=.tuple #[.agg #[.slice na t.nodes.length nc,.slice ia t.items.length ic],.bool (er==0)]) (by simp[results,results21,go_sem,loadVar,k0,k1,Result.andThen]) rfl ⟨⟨na,nc,ia,ic⟩,t,er==0,rfl,ht,hb,He.o,Hf.o,fun t' h=>⟨(Ha.o t' h).1,by rw[(Ha.o t' h).2];rfl⟩⟩
theorem fZ(v:TreeV)(t:Tr)(w:World)(bd:Bd t)(h:IsTree w v t) :
 Calls prog 10 #[v.val t] w (GP w t):=by
 have HT:=Hd h;have BD:=Hd bd;have hN:=bd.n;have hM:=bd.i;clear h bd;obtain⟨na,nc,ia,ic⟩:=v;unfold TreeV.val;go_enter func10,ntmps10;have ha:Ints (((boxT w ⟨na,nc,ia,ic⟩ t).alloc (.cells #[.slice none 0 0,.slice none 0 0] 25)).alloc (.cells #[] 3)) ia ic t.items:=Row.mono HT.o.items (((brf.alloc nlr _).alloc (by simp) _).alloc (by simp;omega) _) nlr;have HI:=Hd ha;clear ha
 go_wp2_with (at_builtin;refine iJ (news:=t.items) (l:=[]) (B:=w.heap.size+1+1) rfl (.tmp 6) (.tmp 8) rfl rfl (tO _ _ _ (by simp) (by omega)) rfl HI.o (by simp;omega) (by simp) ?_;intro a9 c9 w9 l9 Hm hJ hf he)
 have hu:Below (w.heap.size+1+1) ((boxT w ⟨na,nc,ia,ic⟩ t).alloc (.cells #[.slice none 0 0,.slice none 0 0] 25)) w9:=he _ _ nlr (brf.alloc (by simp) _);have hP:w.heap.size+1+1<=w9.heap.size:=by have:=hu.size;simpa using this
 have hH:l9=t.items:=Hm.o;subst hH;have Hq:=Hd (show Ints w9 a9 c9 t.items from dX hf);have Hf:=Hd hu;have ho:∀x,a9=some x->w.heap.size+1+1<=x.block/\x.block<w9.heap.size:=fun x e=>by subst e;exact hf.lt x.block rfl
 have Hg:=Hd ho;clear he hf hu Hm ho
 go_loopw [4] (fun t4 wr=>∃(k:Nat) (am:Option Addr) (cm:Nat) (ks:List (Option Addr×Nat)),t4=.int .i64 k/\k<=t.nodes.length /\
  Hid (OwnN wr (w9.heap.size+1) am cm (t.nodes.take k) ks)/\Hid (wr.cell? ⟨w9.heap.size,0,none⟩=some (.slice am k cm))/\Hid (wr.cell? ⟨w9.heap.size,1,none⟩=some (.slice a9 t.items.length c9))/\Hid (wr.frozen? ⟨w9.heap.size,0,none⟩=false) /\
  Hid (w9.heap.size+1<=wr.heap.size)/\Hid (Below w9.heap.size w9 wr)) (fun i _=>t.nodes.length-(intOf i).toNat)
 case atStart=>
  exact⟨0,none,0,[],rfl,Nat.zero_le _,Hd (OwnN.nil _ _),Hd (by simp),Hd (by simp),Hd (by simp),Hd (by simp),Hd (brf.alloc nlr _)⟩
 case round=>
  obtain⟨k,am,cm,ks,rfl,hk,HO,Ho,Hp,HF,Hs,Hb⟩:=hrel;have hw:Below w.heap.size w wr:=((((Below.refl _ w).alloc nlr _).alloc (by simp) _).trans (Hf.o.mono (by omega))).trans (Hb.o.mono (by omega));have HW:=Hd hw;obtain⟨hK,hL⟩:=bcell hw;have hr:=(bcell (show Below ((boxT w ⟨na,nc,ia,ic⟩ t).alloc (.cells #[.slice none 0 0,.slice none 0 0] 25)).heap.size _ _ by simpa using Hf.o)).1;have hq:=Hs.o;have hg:=Ho.o;have hE:=Hp.o;have hC:=HF.o;have e0:wr.cell? ⟨w.heap.size,0,none⟩=some (.slice na t.nodes.length nc):=(Hb.o.cell (p:=⟨w.heap.size,0,none⟩) (by simp;omega)).trans ((hr _ _ (by simp;omega)).trans (by simp));have e2:wr.cell? ⟨w.heap.size+1,0,none⟩=some (.slice none 0 0):=(Hb.o.cell (p:=⟨w.heap.size+1,0,none⟩) (by simp;omega)).trans ((hr _ _ (by simp)).trans (by simp));have e3:wr.cell? ⟨w.heap.size+1,1,none⟩=some (.slice none 0 0):=(Hb.o.cell (p:=⟨w.heap.size+1,1,none⟩) (by simp;omega)).trans ((hr _ _ (by simp)).trans (by simp));have hx:=(bcell (show Below ((boxT w ⟨na,nc,ia,ic⟩ t).alloc (.cells #[.slice none 0 0,.slice none 0 0] 25)).heap.size _ _ by simpa using Hf.o)).2;have e2f:wr.frozen? ⟨w.heap.size+1,0,none⟩=false:=(Hb.o.frozen (p:=⟨w.heap.size+1,0,none⟩) (by simp;omega)).trans ((hx _ _ (by simp)).trans (by simp));have e3f:wr.frozen? ⟨w.heap.size+1,1,none⟩=false:=(Hb.o.frozen (p:=⟨w.heap.size+1,1,none⟩) (by simp;omega)).trans ((hx _ _ (by simp)).trans (by simp));clear hr hx hw;by_cases hlt:k<t.nodes.length
  .obtain⟨b,o,ka,kc,ea,hb,c0,c1,c2,c3,c4,hy⟩:=HT.o.nodes.at hlt
   simp only at ea;subst ea;have hj:t.nodes.take (k+1)=t.nodes.take k++[t.nodes[k]]:=List.take_succ_eq_append_getElem hlt;have hF:t.nodes[k].kids.length<=1000000:=BD.out.k _ (List.getElem_mem _);obtain⟨d,hd⟩:∃d,t.nodes[k]=d:=⟨_,rfl⟩
   rw[hd]at c0 c1 c2 c3 c4 hy hF hj;have Hj:=Hd hj;clear hd hj;have hp:Ints ((wr.alloc (.cells #[.int .u8 d.kind,strV d.text,intV d.n,.slice ka d.kids.length kc,intV d.pos] 31)).alloc (.cells #[] 3)) ka kc d.kids:=Row.mono (Row.mono hy HW.o nlr) ((brf.alloc nlr _).alloc (by simp) _) nlr;have Hr:=Hd hp;clear hy hp
   go_wp2_with (first
    | (at_builtin;refine aO (news:=d.kids) (l:=[]) (B:=wr.heap.size+1) rfl (.tmp 23) (.tmp 25) rfl rfl (tO _ _ _ (by simp) nlr) rfl Hr.o (by simp;omega) (by simp) ?_;intro a5 c5 w5 l5 Hl hI hh hc hl;have ht:=hc _ _ nlr ((Below.refl (wr.heap.size+1) _).alloc (by simp) (.cells #[] 3));have hG:l5=d.kids:=Hl.o;subst hG;obtain⟨⟨x0,x1,x2,x3,x4⟩,xf,hA,hB,hm,hO⟩:=DX ht;have x3f:=xf 3;have y0:w5.cell? ⟨w9.heap.size,0,none⟩=some (.slice am k cm):=(hA _ _ hq).trans hg;have y0f:w5.frozen? ⟨w9.heap.size,0,none⟩=false:=(hB _ _ hq).trans hC;have Ht:=Hd ht;have Hc:=Hd hh;have Hn:=Hd hl;have He:=Hd hm;clear xf hA hB ht hh hl hc Hl hm)
    | (at_builtin;have hv:=(((He.o.setCell (p:=⟨wr.heap.size,3,none⟩) nlr (.slice a5 d.kids.length c5)).alloc (by simp;omega) (.cells #[.int .u8 d.kind,strV d.text,intV d.n,.slice a5 d.kids.length c5,intV d.pos] 31)));have Hh:=HO.o.below hv;have hs:=Hh.ownK (k:=k) (by simp;omega);have Ha:=Hd hv;clear hv;refine eF (news:=d.cells (a5,c5)) rfl (.tmp 29) (.tmp 31) 22 31 _ 5 64 rfl dK mA rfl (by decide) rfl hs rfl (tS _ d a5 c5 (by simp)) (gW d (a5,c5)) (by unfold maxLen;omega) (by omega) (by simp;omega) ?_;intro a6 c6 w6 h1 h2 h3;have hn:=(Below.refl (w9.heap.size+1) _).grown h2 (by simp;omega) (fun r e=>(hs.lt r e).1);have y1:w6.cell? ⟨w9.heap.size,0,none⟩=some (.slice am k cm):=(hn.cell (p:=⟨w9.heap.size,0,none⟩) (by simp)).trans ((Ha.o.cell (p:=⟨w9.heap.size,0,none⟩) hq).trans hg);have y1f:w6.frozen? ⟨w9.heap.size,0,none⟩=false:=(hn.frozen (p:=⟨w9.heap.size,0,none⟩) (by simp)).trans ((Ha.o.frozen (p:=⟨w9.heap.size,0,none⟩) hq).trans hC);have y2:w6.cell? ⟨w9.heap.size,1,none⟩=some (.slice a9 t.items.length c9):=(hn.cell (p:=⟨w9.heap.size,1,none⟩) (by simp)).trans ((Ha.o.cell (p:=⟨w9.heap.size,1,none⟩) hq).trans hE);have Y2:=Hd y2;have Hk:=Hd hn;have H1:=Hd h1;have H2:=Hd h2;have H3:=Hd h3;have Hi:=Hd Hh;clear hn h1 h2 h3 hs Hh y2))
   go_roundw
   case rel=>
    have hz:KRow ((w5.setCell ⟨wr.heap.size,3,none⟩ (.slice a5 d.kids.length c5)).alloc (.cells #[.int .u8 d.kind,strV d.text,intV d.n,.slice a5 d.kids.length c5,intV d.pos] 31)) (w9.heap.size+1) am (a5,c5) d.kids:=by
     refine⟨Row.mono (bA (dX Hc.o) _ fun _ x e=>?_) (brf.alloc nlr _) nlr,fun _ x e=>?_⟩
     .have e:a5=some x:=e
      subst e;have:=(Hc.o.lt x.block rfl).1;simp only;omega
     .have e:a5=some x:=e
      subst e;have h5:=(Hc.o.lt x.block rfl).1;exact⟨by omega,fun y ey=>by have:=(HO.o.lt y ey).2;omega⟩
    have hD:=Hi.o.snoc (d:=d) (k:=(a5,c5)) hz (a':=a6) (c':=c6) (w':=w6) (by rw[show(t.nodes.take k).length=k by simp;omega];exact H1.o) (by rw[show(t.nodes.take k).length=k by simp;omega];exact H2.o) H3.o;rw[<-Hj.o]at hD;refine⟨k+1,a6,c6,_,by go_num,by omega,Hd (hD.setCell (p:=⟨w9.heap.size,0,none⟩) (by simp) _),Hd (World.cell?_setCell_same _ _ _ y1),Hd ((World.cell?_setCell_other _ _ _ _ (by simp)).trans Y2.out),Hd (by rw[World.frozen?_setCell];exact y1f),Hd ?_,Hd ?_⟩
    .have h6:=Hk.o.size
     simp at h6|-;have:=He.o.size;omega
    .exact((Hb.o.trans ((Ha.o).mono (by omega))).trans (Hk.o.mono (by omega))).setCell (by simp) _
   case measure=>simp[intOf];omega
  .obtain rfl:k=t.nodes.length:=by omega
   have hj:t.nodes.take t.nodes.length=t.nodes:=List.take_length;have Hj:=Hd hj;clear hj;go_wp2
   have c2:((wr.setCell ⟨w.heap.size+1,0,none⟩ (.slice am t.nodes.length cm)).setCell ⟨w.heap.size+1,1,none⟩ (.slice a9 t.items.length c9)).cell? ⟨w.heap.size+1,0,none⟩=some (.slice am t.nodes.length cm):=by
    rw[World.cell?_setCell_other _ _ _ _ (by simp)];exact World.cell?_setCell_same _ _ _ e2
   have c3:((wr.setCell ⟨w.heap.size+1,0,none⟩ (.slice am t.nodes.length cm)).setCell ⟨w.heap.size+1,1,none⟩ (.slice a9 t.items.length c9)).cell? ⟨w.heap.size+1,1,none⟩=some (.slice a9 t.items.length c9):=
    World.cell?_setCell_same _ _ _ ((World.cell?_setCell_other _ _ _ _ (by simp)).trans e3)
   refine bodyPost_ret (v:=.agg #[.slice am t.nodes.length cm,.slice a9 t.items.length c9]) (by simp[results,results10,go_sem,loadVar,c2,c3,Result.andThen]) rfl ⟨⟨am,cm,a9,c9⟩,w9.heap.size+1,ks,rfl,by omega,?_,?_,?_,?_⟩
   .have:=HO.o
    rw[Hj.o]at this;exact(this.setCell (p:=⟨w.heap.size+1,0,none⟩) (by simp;omega) _).setCell (by simp;omega) _
   .have hi:Ints wr a9 c9 t.items:=Row.mono Hq.o Hb.o nlr
    exact bA (bA hi _ fun _ x e=>by have:=Hg.o x e;simp only;omega) _ fun _ x e=>by have:=Hg.o x e;simp only;omega
   .intro x e;have:=Hg.o x e;omega
   .exact(HW.o.setCell (by simp) _).setCell (by simp) _
end
end Go.Proofs.YtcdkdiedphhdhaaGreatDoor
