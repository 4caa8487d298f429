/- Part of a proof. -/
import Derived.Test.YtcdkdiedphhdhaaGreatDoorRows
import Derived.Test.YtcdkdiedphhdhaaGreatDoorK42
import Derived.Test.YtcdkdiedphhdhaaGreatDoorRK05
import Derived.Laws.IdiomStrings
set_option maxRecDepth 100000
set_option maxHeartbeats 8000000
set_option linter.unusedVariables false
set_option linter.unusedSimpArgs false
open Go.Proofs.Tryz
namespace Go.Proofs.YtcdkdiedphhdhaaGreatDoor
section
open Go Go.RowKit
theorem UV{α β:Type}{F:β->Option (Int×Bool)}{g:α->β}:∀(l:List α) (n:Int),capS F (l.map g) n=capS (fun x=>F (g x)) l n
 | [],_=>rfl
 | x::l,n=>by
   rw[List.map_cons,capS,capS];cases F (g x)with
   |none=>rfl
   |some r=>exact UV l _
theorem TY{α:Type}{F G:α->Option (Int×Bool)}:∀(l:List α) (n:Int),(∀x∈l,F x=G x)->capS F l n=capS G l n
 | [],_,_=>rfl
 | x::l,n,h=>by
   rw[capS,capS,h x (by simp)]
   cases G x with
   |none=>rfl
   |some r=>exact TY l _ fun y hy=>h y (by simp[hy])
section
variable {t : Tr} {S : List Int}
theorem UJ(G:Good t S){i:Nat}(hi:i<t.nodes.length):(t.nd (i:Int)).kids.map (ofK (tysP t (i+1)))=(t.nd (i:Int)).kids.map (tyN t):=List.map_congr_left fun x hx=>by
 obtain⟨a,rfl,ha⟩:=aN G hi hx;exact TE (by omega) (by omega) (by omega)
theorem WH(bd:Bd t)(hr:(zb t).2.2=0){i:Nat}(hi:i<t.nodes.length){k:List UInt8}(hk:cV t (tysP t (i+1)) i=some k):TyOk t (recB t i) k/\recB t i<=i+1/\(((t.nd (i:Int)).kind=26\/(t.nd (i:Int)).kind=33)/\k=tyP t i\/(t.nd (i:Int)).kind=41/\k=(t.nd (i:Int)).text):=by
 obtain⟨wf,G⟩:=zi bd hr;have e:ofK (tysP t (i+1)) (i:Int)=tyP t i:=eS (Nat.lt_succ_self i) hi;unfold cV at hk;unfold recB;rw[e]at hk;split at hk
 .rename_i hc
  obtain rfl:=Option.some.inj hk;simp only[Bool.or_eq_true,beq_iff_eq]at hc;have:((t.nd (i:Int)).kind==41)=false:=by simp;omega
  rw[this];exact⟨(fO bd hr i hi).2.ok,by simp,.inl ⟨hc,rfl⟩⟩
 split at hk
 .rename_i hc
  obtain rfl:=Option.some.inj hk;simp only[beq_iff_eq]at hc;rw[hc];exact⟨TyOk.record G (zt hr).err (Nat.lt_succ_self i) hi hc,nlr,.inr ⟨rfl,rfl⟩⟩
 cases hk
end
section
variable {u t : Tr} {f : Nat -> Nat} {s : List UInt8 -> List UInt8} {P : List UInt8 -> Prop} (M : TyMap u t f s P)
include M
theorem TyMap.mRecs{k:List UInt8}(hk:P k):recT t t.nodes.length (s k)=(recT u u.nodes.length k).map f:=by
 obtain⟨wfT,GT⟩:=zi M.bdT M.rT
 cases hc:recT u u.nodes.length k with
 | some r=>
   obtain⟨h1,h2,h3⟩:=jQ hc;exact qT GT (zt M.rT).err nlr (M.fLt r h1) ((M.kind r h1).trans h2) (by rw[M.txR r h1 (.inr (.inr h2)),h3])
 | none=>
   cases hd:recT t t.nodes.length (s k)with
   |none=>rfl
   | some q=>
     obtain⟨h1,h2,h3⟩:=jQ hd;obtain⟨r,g1,g2,g3⟩:=M.hasRec k hk q h1 h2 h3;exact absurd g3 (JV hc g1 g2)
theorem TyMap.mTyI{m:Nat}(hm:m<u.nodes.length):tyN t (mvI f m)=s (tyN u m):=by
 rw[zj];exact M.mTy m hm
theorem TyMap.mCells:∀(g:Nat) (k:List UInt8),P k->zU t (tysP t t.nodes.length) t.nodes.length g (s k)=zU u (tysP u u.nodes.length) u.nodes.length g k
 |0,_,_=>rfl
 | g+1,k,hk=>by
   obtain⟨wfU,GU⟩:=zi M.bdU M.rU;have h1:=M.mBeq hk M.pInt;have h2:=M.mBeq hk M.pBool;rw[M.sInt]at h1;rw[M.sBool]at h2;rw[zU,zU,h1,h2,M.sEl k hk];split
   .rfl
   cases he:aW k with
   | some p=>
     obtain⟨of,n⟩:=p;show(zU t _ _ g (s of)).map _=(zU u _ _ g of).map _
     rw[TyMap.mCells g of (M.pEl hk he)]
   | none=>
     show(match recT t t.nodes.length (s k)with|none=>_|some r=>_)=_
     rw[M.mRecs hk]
     cases hr:recT u u.nodes.length k with
     |none=>rfl
     | some r=>
       obtain⟨g1,g2,g3⟩:=jQ hr;show Option.map _ (capS _ (t.nd (f r:Nat)).kids 0)=Option.map _ (capS _ (u.nd r).kids 0)
       rw[M.kids r g1,UV,TY _ 0 fun x hx=>?_];obtain⟨a,rfl,ha⟩:=aN GU g1 hx
       have h3:ofK (tysP t t.nodes.length) (mvI f a)=s (ofK (tysP u u.nodes.length) a):=by
        rw[zj,eS (M.fLt a (by omega)) (M.fLt a (by omega)),eS (by omega) (by omega)];exact M.mTy a (by omega)
       rw[h3];exact TyMap.mCells g _ (by rw[eS (by omega) (by omega)];exact M.cl a (by omega))
theorem TyMap.mSmall{m:Nat}(hm:m<u.nodes.length):aR t (tysP t (f m+1)) (f m)=aR u (tysP u (m+1)) m:=by
 obtain⟨wfU,GU⟩:=zi M.bdU M.rU;obtain⟨wfT,GT⟩:=zi M.bdT M.rT;have hf:=M.fLt m hm
 have hk:(t.nd (f m:Nat)).kids.map (tyN t)=((u.nd (m:Int)).kids.map (tyN u)).map s:=by
  rw[M.kids m hm,List.map_map,List.map_map];refine List.map_congr_left fun x hx=>?_;obtain⟨a,rfl,ha⟩:=aN GU hm hx;exact M.mTyI (by omega)
 have hP:∀x∈(u.nd (m:Int)).kids.map (tyN u),P x:=fun x hx=>by
  obtain⟨y,hy,rfl⟩:=List.mem_map.1 hx;obtain⟨a,rfl,ha⟩:=aN GU hm hy;exact M.cl a (by omega)
 obtain⟨l,hl⟩:∃l,(u.nd (m:Int)).kids.map (tyN u)=l:=⟨_,rfl⟩
 rw[hl]at hk hP;have e1:ofK (tysP t (f m+1)) (f m:Nat)=s (tyP u m):=by rw[eS (Nat.lt_succ_self _) hf];exact M.mTy m hm
 have e2:ofK (tysP u (m+1)) (m:Nat)=tyP u m:=eS (Nat.lt_succ_self _) hm;have b0:=M.mBeq (M.cl m hm) M.pNil;have b1:=M.mBeq (M.mGet hP (l.length-1)) (M.mGet hP (l.length-2));have b2:=M.mBeq (M.mGet hP 0) M.pBool;have b3:=M.mAre M.pInt l hP;have b4:=M.mAre M.pBool l hP
 have b5:(l.map s).all (fun x=>x==intT||x==zz)=l.all (fun x=>x==intT||x==zz):=by
  rw[List.all_map,Bool.eq_iff_iff,List.all_eq_true,List.all_eq_true]
  have one:∀x∈l,((fun x=>x==intT||x==zz) ∘ s) x=(x==intT||x==zz):=fun x hx=>by
   have c1:=M.mBeq (hP x hx) M.pInt;have c2:=M.mBeq (hP x hx) M.pBool;rw[M.sInt]at c1;rw[M.sBool]at c2;show(s x==intT||s x==zz)=_
   rw[c1,c2]
  exact⟨fun h x hx=>by rw[<-one x hx];exact h x hx,fun h x hx=>by rw[one x hx];exact h x hx⟩
 rw[M.sNil]at b0;rw[M.sBool]at b2 b4;rw[M.sInt]at b3;unfold aR sZ;simp only[M.kind m hm,M.num m hm,UJ GU hm,UJ GT hf,hk,hl,e1,e2,M.mGetD,List.length_map,b0,b1,b2,b3,b4,b5]
theorem TyMap.mBig{m:Nat}(hm:m<u.nodes.length):cV t (tysP t (f m+1)) (f m)=(cV u (tysP u (m+1)) m).map s:=by
 have hf:=M.fLt m hm;have e1:ofK (tysP t (f m+1)) (f m:Nat)=s (tyP u m):=by rw[eS (Nat.lt_succ_self _) hf];exact M.mTy m hm
 have e2:ofK (tysP u (m+1)) (m:Nat)=tyP u m:=eS (Nat.lt_succ_self _) hm;unfold cV;rw[e1,e2,M.kind m hm];split
 .rfl
 split
 .rename_i hc
  rw[M.txR m hm (.inr (.inr (by simpa using hc)))];rfl
 rfl
theorem TyMap.mErrs{m:Nat}(hm:m<u.nodes.length){e e':Int}(h:ErrAt u m e)(h':ErrAt t (f m) e'):e=e':=by
 obtain⟨g,h⟩:=h.prog;obtain⟨g',h'⟩:=h'.prog;have hf:=M.fLt m hm;unfold errP at h h';rw[M.mSmall hm,M.mBig hm]at h';split at h
 .rename_i hs
  rw[if_pos hs]at h';exact(Option.some.inj h).symm.trans (Option.some.inj h')
 rename_i hs
 rw[if_neg hs]at h'
 cases hb:cV u (tysP u (m+1)) m with
 | none=>
   rw[hb]at h h';exact(Option.some.inj h).symm.trans (Option.some.inj h')
 | some k=>
   have ha:=M.mBig hm;rw[hb]at h h' ha;simp only[Option.map_some]at h h' ha;obtain⟨k1,k2,k3⟩:=WH M.bdU M.rU hm hb;obtain⟨j1,j2,j3⟩:=WH M.bdT M.rT hf ha
   have hd:P k:=by
    rcases k3 with⟨_,rfl⟩|⟨q,rfl⟩
    .exact M.cl m hm
    exact M.pRec m hm q
   obtain⟨c,o,hc⟩:=IS M.bdU M.rU k;obtain⟨w,hw⟩:=hc;have he:HasC t (tysP t t.nodes.length) t.nodes.length (s k) c o:=⟨w,by rw[M.mCells w k hd];exact hw⟩
   obtain⟨r,r1,r2⟩:=Option.map_eq_some_iff.1 h;obtain⟨r',r1',r2'⟩:=Option.map_eq_some_iff.1 h';have q1:=rZ M.bdU M.rU k1 nlr (by omega) (by omega) (by omega) ⟨g,r1⟩ ⟨w,hw⟩;have q2:=rZ M.bdT M.rT j1 nlr (by omega) (by omega) (by omega) ⟨g',r1'⟩ he;rw[<-r2,<-r2',q1,q2]
theorem TyMap.mInfT(hs:∀i,i<t.nodes.length->∃m,m<u.nodes.length/\f m=i)(h:InferAt u u.nodes.length 0):InferAt t t.nodes.length 0:=
 ⟨nlr,fun j hj=>by
  obtain⟨m,hm,rfl⟩:=hs j hj;obtain⟨g,e,h1,h2⟩:=PL M.bdT M.rT hj;have hE:ErrAt t (f m) e:=⟨g,h1,h2⟩
  have:=M.mErrs hm (h.zero m hm) hE
  rw[this];exact hE,.inl ⟨rfl,rfl⟩⟩
theorem TyMap.mBody{g:Nat}(hg:g<u.nodes.length)(hk:(u.nd (g:Int)).kind=42):jD t (f g:Nat)=mvI f (jD u g):=by
 obtain⟨wfU,GU⟩:=zi M.bdU M.rU;have ha:=GU.many hg;rw[hk]at ha
 have h4:2<=(u.nd (g:Int)).kids.length:=by
  have:(2:Int)<=((u.nd (g:Int)).kids.length:Int):=by simpa[zC]using ha
  omega
 unfold jD;rw[M.kids g hg,List.length_map,List.getD_eq_getElem?_getD,List.getElem?_map,List.getElem?_eq_getElem (by omega),List.getD_eq_getElem?_getD,List.getElem?_eq_getElem (by omega)];rfl
theorem TyMap.mOne:∀(g:Nat) (F d:Int) (m:Nat),(F = -1\/∃a:Nat,a<u.nodes.length/\F=a)->m<u.nodes.length->wOne t g (mvI f F) d (f m:Nat)=wOne u g F d m
 |0,_,_,_,_,_=>rfl
 | g+1,F,d,m,hF,hm=>by
   obtain⟨wfU,GU⟩:=zi M.bdU M.rU
   have hk:(t.nd (f m:Nat)).kids.map (wOne t g (mvI f F) d)=(u.nd (m:Int)).kids.map (wOne u g F d):=by
    rw[M.kids m hm,List.map_map];refine List.map_congr_left fun x hx=>?_;obtain⟨a,rfl,ha⟩:=aN GU hm hx;show wOne t g (mvI f F) d (mvI f a)=_
    rw[zj];exact TyMap.mOne g F d a hF (by omega)
   rw[wOne,wOne,hk,M.kind m hm];congr 1;funext w;by_cases k21:(u.nd (m:Int)).kind=21
   .obtain⟨e,he,hb,hf,-⟩:=oJ M.bdU M.rU GU hm k21
    have hg:=M.mean m hm (by rw[k21];rfl);rw[he,zj]at hg
    have hc:cS t (mvI f F) d (f m:Nat)=(cS u F d m).map fun p=>(mvI f p.1,p.2):=by
     unfold cS;rw[hg,he];rcases hF with rfl|⟨a,ha,rfl⟩
     .rw[if_neg (by unfold mvI;rw[if_pos (by omega)];omega),if_neg (by omega)]
      simp[zj]
     rw[zj,M.num a ha]
     by_cases q:e=a
     .subst q
      rw[if_pos rfl,if_pos rfl];split
      .simp[zj]
      rfl
     rw[if_neg (fun h=>q (M.fInj e a hb ha (by omega))),if_neg (by omega)]
     simp[zj]
    rw[hc]
    have hh:∀p,cS u F d m=some p->p.1=(e:Int):=fun p hp=>by
     unfold cS at hp;rw[he]at hp;split at hp
     .rename_i hq
      split at hp
      .cases hp;exact hq.symm
      cases hp
     cases hp;rfl
    cases hq:cS u F d m with
    |none=>rfl
    | some p=>
      obtain⟨a,b⟩:=p;obtain rfl:a=(e:Int):=hh _ hq;obtain⟨c,hc,hi,-,-⟩:=tD GU hb hf;have ih:=TyMap.mOne g e b c (.inr ⟨e,hb,rfl⟩) (by omega);have hd:=M.mBody hb hf;rw[hc,zj]at hd;simp only[Option.map_some];have e1:jD t (mvI f (e:Int))=(f c:Nat):=by rw[zj];exact hd
      rw[e1,ih,hc]
   have:((u.nd (m:Int)).kind==21)=false:=by simpa using k21
   rw[this];rfl
theorem TyMap.mItem(g:Nat){i:Nat}(hi:i<u.nodes.length):jL t g (f i:Nat)=jL u g i:=by
 obtain⟨wfU,GU⟩:=zi M.bdU M.rU;unfold jL;rw[M.kind i hi];split
 .rename_i hk
  have hk:(u.nd (i:Int)).kind=42:=by simpa using hk
  obtain⟨c,hc,hb,-,-⟩:=tD GU hi hk;have:=M.mOne g i 0 c (.inr ⟨i,hi,rfl⟩) (by omega);rw[zj]at this;rw[M.mBody hi hk,hc,zj,this]
 split
 .have hk:(t.nd (f i:Nat)).kids.map (wOne t g (-1) 0)=(u.nd (i:Int)).kids.map (wOne u g (-1) 0):=by
   rw[M.kids i hi,List.map_map];refine List.map_congr_left fun x hx=>?_;obtain⟨a,rfl,ha⟩:=aN GU hi hx;show wOne t g (-1) 0 (mvI f a)=_
   rw[zj];exact M.mOne g (-1) 0 a (.inl rfl) (by omega)
  rw[hk]
 rfl
end
end
section
open Go Go.RowKit
def swF(a b:List UInt8):Nat->List UInt8->List UInt8
 |0,k=>k
 |f+1,k=>match cutK k with|some p=>bC (swF a b f p.1) p.2|none=>if k=a then b else k
def swT(a b k:List UInt8):List UInt8:=swF a b (k.length+1) k
theorem WI(a b:List UInt8):∀(f g:Nat) (k:List UInt8),k.length<f->k.length<g->swF a b f k=swF a b g k
 |0,_,k,h,_=>by omega
 |f+1,0,k,_,h=>by omega
 | f+1,g+1,k,h1,h2=>by
   rw[swF,swF]
   cases hc:cutK k with
   |none=>rfl
   | some p=>
     have:=pQ (n:=p.2) (of:=p.1) hc;simp only;rw[WI a b f g p.1 (by omega) (by omega)]
theorem TA{a b k of:List UInt8}{n:Nat}(h:cutK k=some (of,n)):swT a b k=bC (swT a b of) n:=by
 have:=pQ h;unfold swT;rw[swF,h];simp only;rw[WI a b k.length (of.length+1) of (by omega) (by omega)]
theorem TB{a b k:List UInt8}(h:cutK k=none):swT a b k=if k=a then b else k:=by
 unfold swT;rw[swF,h]
theorem VC(a:List UInt8):∀(f:Nat) (k:List UInt8),k.length<f->swT a a k=k
 |0,k,h=>by omega
 | f+1,k,h=>by
   cases hc:cutK k with
   | none=>
     rw[TB hc];split
     .exact Eq.symm ‹_›
     rfl
   | some p=>
     obtain⟨of,n⟩:=p;have:=pQ hc;rw[TA hc,VC a f of (by omega)];exact(jF hc).2.2.symm
structure TyN (new k:List UInt8):Prop where
 ty:k=[]\/aX k=true
 ne:yM k≠new
theorem UB{k:List UInt8}(hc:cutK k=none)(h:aX k=true):k=intT\/k=zz\/zG k=true:=by
 rw[fL]at h;have:aW k=none:=by unfold aW;rw[hc]
 rw[this]at h;simpa[or_assoc]using h
theorem VE{k of:List UInt8}{n:Nat}(hc:cutK k=some (of,n))(h:aX k=true):aX of=true:=by
 rw[fL]at h;have ha:=vG hc;simp only[Bool.or_eq_true,beq_iff_eq]at h;rcases h with((rfl|rfl) | h) | h
 .cases ha
 .cases ha
 .exact absurd ha (qD h)
 obtain⟨⟨of',n'⟩,he⟩:=Option.isSome_iff_exists.1 h
 obtain⟨a1,a2,a3,a4⟩:=gY he;rw[a3,pP of' a1 a2]at hc;cases hc
 exact a4
section
variable {a new : List UInt8}
theorem TyN.head{k:List UInt8}(h:TyN new k)(hc:cutK k=none):k.head?≠some 91:=by
 rcases h.ty with rfl|h1
 .intro e;cases e
 rcases UB hc h1 with rfl|rfl|h1
 .decide
 .decide
 exact qD h1
theorem TyN.whole{k of:List UInt8}{n:Nat}(h:TyN new k)(hc:cutK k=some (of,n)):aX of=true:=by
 rcases h.ty with rfl|h1
 .cases hc
 exact VE hc h1
theorem TyN.part{k of:List UInt8}{n:Nat}(h:TyN new k)(hc:cutK k=some (of,n)):TyN new of:=
 ⟨.inr (h.whole hc),by rw[<-vC hc];exact h.ne⟩
theorem TyN.notNew{k:List UInt8}(h:TyN new k)(hc:cutK k=none):k≠new:=by
 rw[<-oI hc];exact h.ne
theorem swB(hn:zG new=true):∀(f:Nat) (k:List UInt8),k.length<f->aX k=true->aX (swT a new k)=true
 |0,k,h,_=>by omega
 | f+1,k,h,ht=>by
   cases hc:cutK k with
   | none=>
     rw[TB hc];split
     .rw[fL,hn];simp
     exact ht
   | some p=>
     obtain⟨of,n⟩:=p;have:=pQ hc;obtain⟨a1,a2,a3⟩:=jF hc;rw[TA hc,fL,mX a1 a2 (swB hn f of (by omega) (VE hc ht))];simp
theorem TyN.sEl(hn:zG new=true){k:List UInt8}(h:TyN new k):aW (swT a new k)=(aW k).map fun p=>(swT a new p.1,p.2):=by
 cases hc:cutK k with
 | none=>
   have e:aW k=none:=by unfold aW;rw[hc]
   rw[TB hc,e];split
   .unfold aW;rw[jE hn];rfl
   rw[e];rfl
 | some p=>
   obtain⟨of,n⟩:=p;obtain⟨a1,a2,a3⟩:=jF hc;have hw:=h.whole hc;rw[TA hc,mX a1 a2 (swB hn _ of (Nat.lt_succ_self _) hw),a3,mX a1 a2 hw];rfl
theorem TyN.sInj(hn:zG new=true):∀(f:Nat) (x y:List UInt8),x.length<f->TyN new x->TyN new y->swT a new x=swT a new y->x=y
 |0,x,y,h,_,_,_=>by omega
 | f+1,x,y,h,hx,hy,e=>by
   have hno:∀u v of n,TyN new v->cutK u=some (of,n)->cutK v=none->swT a new u=swT a new v->False:=fun u v of n hv h1 h2 e=>by
    rw[TA h1,TB h2]at e;split at e
    .exact qD hn (by rw[<-e];rfl)
    exact hv.head h2 (by rw[<-e];rfl)
   cases hc:cutK x with
   | none=>
     cases hd:cutK y with
     | none=>
       rw[TB hc,TB hd]at e;split at e
       .split at e
        .rename_i h1 h2;rw[h1,h2]
        exact absurd e.symm (hy.notNew hd)
       split at e
       .exact absurd e (hx.notNew hc)
       exact e
     |some p=>exact(hno y x p.1 p.2 hx hd hc e.symm).elim
   | some p=>
     cases hd:cutK y with
     |none=>exact(hno x y p.1 p.2 hy hc hd e).elim
     | some q=>
       obtain⟨of,n⟩:=p;obtain⟨of',n'⟩:=q;have:=pQ hc;obtain⟨a1,a2,a3⟩:=jF hc;obtain⟨b1,b2,b3⟩:=jF hd;rw[TA hc,TA hd]at e;have e2:=pP (swT a new of) a1 a2;rw[e,pP _ b1 b2]at e2;simp only[Option.some.injEq,Prod.mk.injEq]at e2;obtain⟨e2,rfl⟩:=e2;rw[a3,b3,TyN.sInj hn f of of' (by omega) (hx.part hc) (hy.part hd) e2.symm]
end
def swG(a b k:List UInt8):List UInt8:=
 let r:=k.dropWhile (· == 91)
 if r.takeWhile (· != 59)=a then k.takeWhile (· == 91)++(b++r.dropWhile (· != 59))else k
theorem WD{a b k:List UInt8}:swG a b (91::k)=91::swG a b k:=by
 unfold swG;simp only[List.dropWhile_cons,List.takeWhile_cons,BEq.rfl,if_true];split<;>rfl
theorem VO{k:List UInt8}(h:zG k=true):∀c∈k,c≠59:=by
 have hp:∀l:List UInt8,∀c∈l.takeWhile fG,c≠59:=fun l c hc e=>by
  have h1:=List.all_takeWhile (p:=fG) (l:=l);have h2:=List.all_eq_true.1 h1 c hc;subst e;revert h2;decide
 cases k with
 |nil=>intro c hc;cases hc
 | cons x l=>
   unfold zG tokF at h;simp only at h;split at h
   .split at h
    .simp at h
    split at h
    .simp only[BEq.rfl,Bool.true_and,beq_iff_eq]at h
     rw[<-h];exact hp _
    simp at h
   split at h
   .split at h<;>simp at h
   split at h<;>simp at h
theorem WR{k T:List UInt8}(h:∀c∈k,c≠59)(hT:T=[]\/T.head?=some 59):(k++T).takeWhile (· != 59)=k/\(k++T).dropWhile (· != 59)=T:=by
 induction k with
 | nil=>
   rcases hT with rfl|hT
   .exact⟨rfl,rfl⟩
   cases T with
   |nil=>cases hT
   | cons x l=>
     simp only[List.head?_cons,Option.some.injEq]at hT;subst hT;exact⟨rfl,rfl⟩
 | cons x l ih=>
   have hx:(x != 59)=true:=by simpa using h x (by simp)
   obtain⟨i1,i2⟩:=ih fun c hc=>h c (by simp[hc]);simp only[List.cons_append,List.takeWhile_cons,List.dropWhile_cons,hx,if_true];exact⟨by rw[i1],i2⟩
theorem TyN.word{new k:List UInt8}(h:TyN new k)(hc:cutK k=none):∀c∈k,c≠59:=by
 rcases h.ty with rfl|h1
 .intro c hc;cases hc
 rcases UB hc h1 with rfl|rfl|h1
 .decide
 .decide
 exact VO h1
theorem WJ{a new:List UInt8}:∀(f:Nat) (k T:List UInt8),k.length<f->TyN new k->(T=[]\/T.head?=some 59)->swG a new (k++T)=swT a new k++T
 |0,k,_,h,_,_=>by omega
 | f+1,k,T,h,hk,hT=>by
   cases hc:cutK k with
   | none=>
     have hh:(k++T).dropWhile (· == 91)=k++T/\(k++T).takeWhile (· == 91)=[]:=by
      cases hk2:k++T with
      |nil=>exact⟨rfl,rfl⟩
      | cons x l=>
        have hx:(x==91)=false:=by
         cases k with
         | nil=>
           rcases hT with rfl|hT
           .cases hk2
           rw[List.nil_append]at hk2
           rw[hk2]at hT;simp only[List.head?_cons,Option.some.injEq]at hT;subst hT;decide
         | cons y m=>
           simp only[List.cons_append,List.cons.injEq]at hk2;have:=hk.head hc;simp only[List.head?_cons,ne_eq,Option.some.injEq]at this;rw[<-hk2.1];simpa using this
        simp[List.dropWhile_cons,List.takeWhile_cons,hx]
     obtain⟨w1,w2⟩:=WR (hk.word hc) hT;unfold swG;simp only[hh.1,hh.2,w1,w2];rw[TB hc];split<;>rfl
   | some p=>
     obtain⟨of,n⟩:=p;have:=pQ hc;obtain⟨a1,a2,a3⟩:=jF hc;have e:k++T=91::(of++(59::32::(digN n++[93])++T)):=by rw[a3];unfold bC;simp
     rw[e,WD,WJ f of _ (by omega) (hk.part hc) (.inr rfl),TA hc];unfold bC;simp
theorem WU{a new k:List UInt8}(h:TyN new k):swG a new k=swT a new k:=by
 have:=WJ (a:=a) (k.length+1) k [] (Nat.lt_succ_self _) h (.inl rfl);simpa using this
theorem UY(x:Int):mvI (fun m=>m) x=x:=by
 unfold mvI;split
 .rfl
 show((x.toNat:Nat):Int)=x
 omega
theorem TyN.cl{t:Tr}{new:List UInt8}(bd:Bd t)(hr:(zb t).2.2=0)(ha:InferAt t t.nodes.length 0)(hn:zG new=true)(hf:∀i:Nat,i<t.nodes.length->(t.nd (i:Int)).text≠new):TyCl t (TyN new):=by
 obtain⟨wf,G⟩:=zi bd hr;refine⟨⟨.inr (by rw[fL];rfl),?_⟩,⟨.inr (by rw[fL];rfl),?_⟩,⟨.inl rfl,?_⟩,fun {k of n} h he=>?_,fun {r} hrn k41 _=>?_,fun {i x m} hi hk hxi hc h h1 h2 e=>?_⟩
 .rw[oI rfl];rintro rfl;rw[qB]at hn;cases hn
 .rw[oI rfl];rintro rfl;rw[mT]at hn;cases hn
 .rw[oI rfl];rintro rfl;rw[sF]at hn;cases hn
 .obtain⟨a1,a2,a3,a4⟩:=gY he
  exact h.part (by rw[a3];exact pP of a1 a2)
 .obtain⟨-,h4,-⟩:=G.ok hrn
  rw[k41]at h4;have h4:zG (t.nd (r:Int)).text=true:=h4.symm;refine⟨.inr (by rw[fL,h4];simp),?_⟩;rw[oI (jE h4)];exact hf r hrn
 have hd:tyP t x≠[]:=by
  rcases hc with q|q
  .exact yU (by omega) (ha.zero x (by omega)) q
  exact tZ G (by omega) q
 have hb:aX (tyP t x)=true:=by
  rcases h.ty with q|q
  .exact absurd q hd
  exact q
 refine⟨.inr (by rw[fL,mX h1 h2 hb];simp),?_⟩;rw[vC (pP _ h1 h2)];exact h.ne
theorem Renamed.tyMap{t t':Tr}{d:Nat}{new a:List UInt8}(R:Renamed t t' d new)(ha:InferAt t t.nodes.length 0)(hA:(t.nd (d:Int)).kind=41/\a=(t.nd (d:Int)).text\/(t.nd (d:Int)).kind≠41/\a=new) :
 TyMap t t' (fun m=>m) (swT a new) (TyN new):=by
 obtain⟨wf,G⟩:=zi R.bd R.res;have F:=R.form;have h0:=(zt R.res).err;have C:=TyN.cl R.bd R.res ha R.name R.fresh
 have ho:(t.nd (d:Int)).kind=40\/(t.nd (d:Int)).kind=41\/(t.nd (d:Int)).kind=42\/(t.nd (d:Int)).kind=43\/(t.nd (d:Int)).kind=44\/(t.nd (d:Int)).kind=20\/(t.nd (d:Int)).kind=34/\(t.nd (parent t d)).kind=42:=by
  have:=R.decl;unfold zn tB at this;simp only[Bool.or_eq_true,Bool.and_eq_true,beq_iff_eq]at this;omega
 have hn:a≠[]:=by
  rcases hA with⟨k,rfl⟩|⟨-,rfl⟩
  .exact IU (SZ G R.lt R.decl)
  exact IU R.name
 have he:zG a=true:=by
  rcases hA with⟨k,rfl⟩|⟨-,rfl⟩
  .exact SZ G R.lt R.decl
  exact R.name
 have hd:∀r:Nat,r<t.nodes.length->(t.nd (r:Int)).kind=41->zG (t.nd (r:Int)).text=true:=fun r hr k=>by
  obtain⟨-,h4,-⟩:=G.ok hr;rw[k]at h4;exact h4.symm
 have hb:∀r:Nat,r<t.nodes.length->(t.nd (r:Int)).kind=41->r≠d->(t.nd (r:Int)).text≠a:=fun r hr k hne e=>by
  rcases hA with⟨k2,rfl⟩|⟨-,rfl⟩
  .exact hne (nJ G h0 hr R.lt k k2 e)
  exact R.fresh r hr e
 have hc:∀r:Nat,r<t.nodes.length->(t.nd (r:Int)).kind=41->swT a new (t.nd (r:Int)).text=if r=d then new else (t.nd (r:Int)).text:=fun r hr k=>by
  rw[TB (jE (hd r hr k))];by_cases e:r=d
  .subst e
   rcases hA with⟨_,rfl⟩|⟨k2,_⟩
   .rw[if_pos rfl,if_pos rfl]
   exact absurd k k2
  rw[if_neg (hb r hr k e),if_neg e]
 have hh:∀m:Nat,m<t.nodes.length->bD (t.nd (m:Int)).kind=false->m≠d->(t'.nd (m:Int)).text=(t.nd (m:Int)).text:=fun m hm hk hne=>by
  rw[R.noName hm hk,if_neg hne]
 have hf:∀m:Nat,m<t.nodes.length->(t.nd (m:Int)).kind=24\/(t.nd (m:Int)).kind=32->(t'.nd (m:Int)).text=swT a new (t.nd (m:Int)).text:=fun m hm k=>by
  have ht:bD (t.nd (m:Int)).kind=true:=by rcases k with k|k<;>rw[k]<;>rfl
  obtain⟨q,hq,hu,-,hv,hg,-⟩:=cX R.bd R.res hm ht;have q41:(t.nd (q:Int)).kind=41:=by rcases k with k|k<;>rw[k]at hg<;>simpa[mM]using hg
  have hw:m≠d:=fun e=>by subst e;omega
  rw[R.text m hm,hq,<-hv,hc q hu q41];by_cases e:q=d
  .rw[if_pos (.inr (by rw[e])),if_pos e]
  rw[if_neg (by omega),if_neg e]
 refine⟨R.bd,F.bd R.bd fun i hi=>?_,R.res,by rw[R.resolve],fun m hm=>(vA C R.bd R.res m hm).2.p,C.nil,C.int,C.bool,fun {k of n}=>C.elem,fun r hr k=>C.record hr k fun x hx=>?_,fun m hm=>by rw[F.len];exact hm,fun _ _ _ _ h=>h,fun m _=>F.kind m,fun m _=>F.n m,fun m _=>?_,fun m hm _=>(R.means hm).trans (UY _).symm,fun m hm hk=>?_,fun m r hr k hm=>?_,fun m hm hk=>?_,?_,?_,?_,fun k n h1 h2=>TA (pP k h1 h2),fun k h=>h.sEl R.name,fun x y hx hy e=>TyN.sInj R.name _ x y (Nat.lt_succ_self _) hx hy e,fun k hk r hr k41 e=>?_⟩
 .rw[R.text i hi]
  split
  .have:=kJ R.name;omega
  rw[t.nd_at hi];exact R.bd.s _ (List.getElem_mem hi)
 .obtain⟨y,hy,hl⟩:=aN G hr hx
  obtain rfl:x=y:=by omega
  exact(vA C R.bd R.res x (by omega)).2.p
 .rw[F.kids]
  exact((List.map_congr_left fun x _=>UY x).trans (List.map_id _)).symm
 .refine hh m hm (by rcases hk with k|k<;>rw[k]<;>rfl) fun e=>?_
  subst e;omega
 .obtain⟨y,hy,hl⟩:=aN G hr hm
  obtain rfl:m=y:=by omega
  obtain⟨j,hj,hs⟩:=List.getElem_of_mem hm;have h1:=G.kidOk hr hj;rw[k,hs]at h1;have k34:(t.nd (m:Int)).kind=34:=by simpa[kidK]using h1
  refine hh m (by omega) (by rw[k34];rfl) fun e=>?_;subst e;rw[G.parent_of hr hm]at ho;omega
 .rcases hk with k|k|k
  .exact hf m hm (.inl k)
  .exact hf m hm (.inr k)
  rw[hc m hm k,R.noName hm (by rw[k];rfl)]
 .rw[TB rfl,if_neg]
  rintro rfl;rw[qB]at he;cases he
 .rw[TB rfl,if_neg]
  rintro rfl;rw[mT]at he;cases he
 .rw[TB rfl,if_neg fun e=>hn e.symm]
 rw[F.len]at hr
 rw[F.kind]at k41
 have hp:TyN new (t.nd (r:Int)).text:=C.record hr k41 fun x hx=>by
  obtain⟨y,hy,hl⟩:=aN G hr hx;obtain rfl:x=y:=by omega
  exact(vA C R.bd R.res x (by omega)).2.p
 rw[R.noName hr (by rw[k41];rfl),<-hc r hr k41]at e;exact⟨r,hr,k41,TyN.sInj R.name _ _ k (Nat.lt_succ_self _) hp hk e⟩
end
section
open Go Go.RowKit
structure WZ (t t':Tr) (d:Nat) (new:List UInt8):Prop where
 ok:InfOk t'
 len:t'.nodes.length=t.nodes.length
 items:t'.items=t.items
 ty:∀i:Nat,i<t.nodes.length->ofK (exT t') (i:Int)=if (t.nd (d:Int)).kind=41 then swG (t.nd (d:Int)).text new (ofK (exT t) (i:Int))else ofK (exT t) (i:Int)
 chk:∃(f:Nat) (r:Int×Int),gC t f t.items (0,1,0)=some r/\gC t' f t'.items (0,1,0)=some r
 wt:∀x∈t.items,∃f w:Nat,jL t f x=some w/\jL t' f x=some w
theorem TQ{t t':Tr}{f:Nat}(hk:∀i,(t'.nd i).kind=(t.nd i).kind)(hn:∀i,(t'.nd i).n=(t.nd i).n)(hs:∀i,(t'.nd i).kids=(t.nd i).kids):∀(l:List Int) (x:Int×Int×Int),(∀i∈l,jL t' f i=jL t f i)->gC t' f l x=gC t f l x
 | [],_,_=>rfl
 | i::l,x,h=>by
   have e:iY t' i x=iY t i x:=by unfold iY;simp only[hk,hn,hs]
   rw[gC,gC,e,h i (by simp)];split
   .rfl
   cases jL t f i with
   |none=>rfl
   | some w=>
     simp only[Option.bind_some];split
     .rfl
     exact TQ hk hn hs l _ fun j hj=>h j (by simp[hj])
theorem VN{t t':Tr}{d:Nat}{new:List UInt8}(R:Renamed t t' d new)(hok:InfOk t):WZ t t' d new:=by
 obtain⟨hr,ha⟩:=hok;obtain⟨wf,G⟩:=zi R.bd hr;have F:=R.form;have C:=TyN.cl R.bd hr ha R.name R.fresh
 obtain⟨a,hA,hc⟩:∃a:List UInt8,((t.nd (d:Int)).kind=41/\a=(t.nd (d:Int)).text\/(t.nd (d:Int)).kind≠41/\a=new)/\∀k,TyN new k->swT a new k=if (t.nd (d:Int)).kind=41 then swG (t.nd (d:Int)).text new k else k:=by
  by_cases k41:(t.nd (d:Int)).kind=41
  .refine⟨_,.inl ⟨k41,rfl⟩,fun k hk=>?_⟩
   rw[if_pos k41,WU hk]
  refine⟨_,.inr ⟨k41,rfl⟩,fun k hk=>?_⟩
  rw[if_neg k41,VC _ _ _ (Nat.lt_succ_self _)]
 have M:=R.tyMap ha hA;have hI:InferAt t' t'.nodes.length 0:=M.mInfT (fun i hi=>⟨i,by rw[<-F.len];exact hi,rfl⟩) ha
 have hb:∀x∈t.items,∃k:Nat,x=k/\k<t.nodes.length:=fun x hx=>by
  obtain⟨_,_,h2,h3,_⟩:=G.item x hx;obtain⟨y,rfl⟩:=Int.eq_ofNat_of_zero_le h3;exact⟨y,rfl,by omega⟩
 have hw:∀(f:Nat),∀x∈t.items,jL t' f x=jL t f x:=fun f x hx=>by
  obtain⟨k,rfl,hk⟩:=hb x hx;exact M.mItem f hk
 refine⟨⟨by rw[R.resolve],hI⟩,F.len,F.items,fun i hi=>?_,?_,fun x hx=>?_⟩
 .have hp:TyN new (ofK (exT t) (i:Int)):=by
   rw[TI hi];split
   .exact(vA C R.bd hr i hi).2.p
   exact C.nil
  rw[<-hc _ hp,TI (by rw[F.len];exact hi),TI hi,F.kind];split
  .exact M.mTy i hi
  exact M.sNil.symm
 .obtain⟨f,r,h⟩:=vL R.bd hr t.items (0,1,0) hb
  refine⟨f,r,h,?_⟩;rw[F.items,TQ F.kind F.n F.kids _ _ (hw f)];exact h
 obtain⟨k,rfl,hk⟩:=hb x hx
 obtain⟨f,w,h⟩:=BZ R.bd hr hk;refine⟨f,w,h,?_⟩;rw[hw f _ hx];exact h
def opB(c:UInt8):Bool:=c==91
def woB(c:UInt8):Bool:=c != 59
theorem UO(p:UInt8->Bool):∀l:List UInt8,l.drop (twl p l)=l.dropWhile p
 | []=>rfl
 | c::l=>by
   unfold twl;rw[List.takeWhile_cons,List.dropWhile_cons];split
   .show(c::l).drop ((l.takeWhile p).length+1)=_
    rw[List.drop_succ_cons];exact UO p l
   rfl
theorem WT(a b s:List UInt8){p q:Nat}(hp:twl opB s=p)(hq:twl woB (s.drop p)=q):swG a b s=if (s.drop p).take q=a then s.take p++(b++s.drop (p+q))else s:=by
 subst hp hq;rw[<-List.drop_drop,UO woB,AU woB,UO opB,AU opB];rfl
theorem WK(c n:UInt8):((c.toNat:Int)==(n.toNat:Int))=(c==n):=by
 by_cases h:c=n
 .subst h;simp
 have:c.toNat≠n.toNat:=fun e=>h (UInt8.toNat_inj.1 e)
 rw[beq_eq_false_iff_ne.2 h,beq_eq_false_iff_ne.2 (by omega)]
theorem UE(s a b:List UInt8)(w:World)(hs:s.length<=1000000)(hb:b.length<=1000000) :
 Calls prog 19 #[strV s,strV a,strV b] w fun e w'=>e=.returned (strV (swG a b s))/\Below w.heap.size w w':=by
 have hg:prog.follows .mixedOrders=true:=by kernel_rfl
 obtain⟨p,hp⟩:∃p,twl opB s=p:=⟨_,rfl⟩
 have hh:p<=s.length:=hp▸oB _ _;obtain⟨q,hq⟩:∃q,twl woB (s.drop p)=q:=⟨_,rfl⟩
 have hi:p+q<=s.length:=by
  have:=oB woB (s.drop p);rw[hq,List.length_drop]at this;omega
 have Hb:=Hd (WT a b s hp hq)
 have H1:Hid (∀(k:Nat) (h:k<s.length),k<=p->((s[k].toNat:Int)==91)=decide (k<p)):=Hd fun k h hk=>by
  have e:=WK s[k] 91;by_cases hkp:k<p
  .have:=RR opB s k h (by rw[hp];exact hkp)
   rw[decide_eq_true hkp];exact e.trans this
  obtain rfl:k=p:=by omega
  have:=OR opB s (by rw[hp];exact h);rw[decide_eq_false hkp];simp only[hp]at this;exact e.trans this
 have H2:Hid (∀(k:Nat) (h:p+k<s.length),k<=q->((s[p+k].toNat:Int) != 59)=decide (k<q)):=Hd fun k h hk=>by
  have e:((s[p+k].toNat:Int) != 59)=woB s[p+k]:=congrArg not (WK s[p+k] 59);have hl:k<(s.drop p).length:=by rw[List.length_drop];omega
  have eg:(s.drop p)[k]=s[p+k]:=List.getElem_drop;by_cases hkq:k<q
  .have:=RR woB (s.drop p) k hl (by rw[hq];exact hkq)
   rw[decide_eq_true hkq,e,<-eg];exact this
  obtain rfl:k=q:=by omega
  have:=OR woB (s.drop p) (by rw[hq];exact hl);rw[decide_eq_false hkq,e,<-eg];simp only[hq]at this;exact this
 clear hp hq;go_enter func19,ntmps19;go_wp2
 go_loop [7] (fun i=>∃k:Nat,k<=p/\i=.int .i64 k) (fun i=>p+1-(intOf i).toNat)
 case atStart=>exact⟨0,Nat.zero_le _,rfl⟩
 case round=>
  obtain⟨k,hk,rfl⟩:=hrel;by_cases hkp:k<p
  .have hd:k<s.length:=by omega
   have h1:=H1.o k hd hk;rw[decide_eq_true hkp]at h1;go_wp2
   go_round
   case rel=>exact⟨k+1,by omega,by go_num⟩
   case measure=>simp[intOf];omega
  obtain rfl:k=p:=by omega
  have ha:(∃h:k<s.length,((s[k].toNat:Int)==91)=false)\/s.length<=k:=by
   by_cases h:k<s.length
   .exact .inl ⟨h,(H1.o k h nlr).trans (decide_eq_false hkp)⟩
   exact .inr (by omega)
  rcases ha with⟨hd,h2⟩|hd
  all_goals
   go_wp2
   go_loop [8] (fun i=>∃m:Nat,m<=q/\i=.int .i64 ((k+m:Nat):Int)) (fun i=>k+q+1-(intOf i).toNat)
   case atStart=>exact⟨0,Nat.zero_le _,rfl⟩
   case round=>
    obtain⟨m,hm,rfl⟩:=hrel;by_cases hmq:m<q
    .have hc:k+m<s.length:=by omega
     first
      | (exfalso;omega)
      | (have h3:=H2.o m hc hm
         rw[decide_eq_true hmq]at h3;go_wp2
         go_round
         case rel=>exact⟨m+1,by omega,by go_num⟩
         case measure=>simp[intOf];omega)
    obtain rfl:m=q:=by omega
    have ha:(∃h:k+m<s.length,((s[k+m].toNat:Int) != 59)=false)\/s.length<=k+m:=by
     by_cases h:k+m<s.length
     .exact .inl ⟨h,(H2.o m h nlr).trans (decide_eq_false hmq)⟩
     exact .inr (by omega)
    have hj:(s.take k).length<=1000000:=by rw[List.length_take];omega
    have hn:(s.drop (k+m)).length<=1000000:=by rw[List.length_drop];omega
    have he:(s.take (k+m)).drop k=(s.drop k).take m:=by rw[List.drop_take,Nat.add_sub_cancel_left]
    have Hc:=Hd he;clear he;rcases ha with⟨hc,h4⟩|hc
    all_goals first
     | (exfalso;omega)
     | (by_cases hxa:(s.take (k+m)).drop k=a
        .have hf:((s.take (k+m)).drop k==a)=true:=by rw[hxa];simp
         have Ha:=Hd hxa;clear hxa;go_wp2;go_region;go_wp2;go_ret;exact⟨by rw[Hb.o,if_pos (Hc.o▸Ha.o)];simp[strV],brf.drew⟩
        have hf:((s.take (k+m)).drop k==a)=false:=beq_eq_false_iff_ne.2 hxa
        have Ha:=Hd hxa;clear hxa;go_wp2;go_ret
        exact⟨by rw[Hb.o,if_neg (Hc.o▸Ha.o)];rfl,brf⟩)
end
section
open Go Go.ChangeShapes Go.WideShapes Go.ChangeAt Go.RowKit
def WC:String:=String.ofList [Char.ofNat 42] ++ "errors.errorString"
theorem WN{n:String}(hn:n=WC)(u:TypeId)(h:prog.typeName? 3 u=some n):u=228:=
 typeName_ptr_named (nm := "errors.errorString") (by kernel_rfl) (by kernel_rfl) (by decide) u (h.trans (congrArg some (hn.trans (by decide +kernel))))
theorem VF{W:World}{n en:String}{g:Nat}{text:List UInt8}{r l:List (String×DataW Unit)}(k:Nat)(hp:(l.all fun x=>x.2.handleName?.isNone)=true)(h:laidMetH prog l W)(hd:l.drop k=(n,.iface en (.ptr (.agg [.lit (.string text)])))::r)(he:en=WC)
 (hg:prog.globalNamed n=some g)(ht:(prog.globals[g]?).map (·.type)=some 108):∃tp p,W.var? prog n=some #[.iface tp p]:=by
 rw[MakeChecks.laidMetH_plain _ _ _ hp]at h;have h6:=TT k l h;rw[hd]at h6;obtain⟨a,s,hv,-⟩:=laid_sentinel h6 hg ht underlying108 (WN he) underlying228 underlying230 rfl rfl underlying9 (by kernel_rfl) (by kernel_rfl);exact⟨_,_,hv⟩
theorem UQ{W:World}{e3 e4:String}{l r3 r4:List (String×DataW Unit)}{x3 x4:List UInt8}(hp:(l.all fun x=>x.2.handleName?.isNone)=true)(h:laidMetH prog l W)(h3:l.drop 3=("strconv.ErrRange",.iface e3 (.ptr (.agg [.lit (.string x3)])))::r3)
 (h4:l.drop 4=("strconv.ErrSyntax",.iface e4 (.ptr (.agg [.lit (.string x4)])))::r4)(he3:e3=WC)(he4:e4=WC)(hd:l.drop 6=[("strings.asciiSpace",Lib.tabData .u8 Lib.asciiSpaceTab)]):GVK W:=
 ⟨VI 6 hp hd h,VF (g:=1) 4 hp h h4 he4 (by kernel_rfl) (by kernel_rfl),VF (g:=2) 3 hp h h3 he3 (by kernel_rfl) (by kernel_rfl)⟩
end
section
open Go Go.RowKit
def OwR(t:Tr)(_:List Value)(v:Value)(W:World):Prop:=∃u:TreeV,v=u.val t/\IsTree W u t
theorem OwR.st{t:Tr}{l:List Value}{v:Value}{W W':World}(h:OwR t l v W)(k:Below W.heap.size W W'):OwR t l v W':=by
 obtain⟨u,h1,h2⟩:=h;exact⟨u,h1,h2.mono k nlr⟩
theorem US{X W:World}(v:TreeV)(t:Tr)(bd:Bd t)(hJ:Below X.heap.size X W)(h:IsTree W v t):Calls prog 10 #[v.val t] W fun e w'=>∃x,e=.returned x/\Below X.heap.size X w'/\Below W.heap.size W w'/\OwR t [] x w':=by
 refine(fZ v t W bd h).mono ?_;rintro e w'⟨u,B,ks,rfl,-,hc,ha,-,hb⟩;exact⟨_,rfl,hJ.trans (hb.mono hJ.size),hb,u,rfl,⟨hc.nodes,ha⟩⟩
section
variable {w w' : World} {t : Tr} {e : Ending}
end
end
end Go.Proofs.YtcdkdiedphhdhaaGreatDoor
