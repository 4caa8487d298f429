/- Part of a proof. -/
import Derived.Test.YthjpoaannjgdmaaGreatDoorK02
import Derived.Test.YthjpoaannjgdmaaGreatDoorK15
import Derived.Test.YthjpoaannjgdmaaGreatDoorK20
import Derived.Lib.AtoiErrMem
set_option maxRecDepth 100000
set_option maxHeartbeats 8000000
set_option linter.unusedVariables false
set_option linter.unusedSimpArgs false
open Go.Proofs.Tryz
namespace Go.Proofs.YthjpoaannjgdmaaGreatDoor
section
open Go Go.RowKit
theorem pX{c:UInt8}(h:aI c=true):Lib.digitVal c=some (c.toNat-48)/\48<=c.toNat/\c.toNat<=57:=by
 have h2:48<=c.toNat/\c.toNat<=57:=by simp only[aI,pW,Bool.and_eq_true,decide_eq_true_eq]at h;omega
 exact⟨by unfold Lib.digitVal;rw[if_pos h2],h2⟩
theorem kW:∀(l:List UInt8) (acc:Nat),(∀c∈l,aI c=true)->∃n:Nat,Lib.decFrom acc l=some n/\(n:Int)=l.foldl (fun a c=>a*10+((c.toNat:Int)-48)) (acc:Int)
 | [],acc,_=>⟨acc,rfl,rfl⟩
 | c::l,acc,h=>by
   obtain⟨h1,h2,h3⟩:=pX (h c (by simp));obtain⟨n,hn,e⟩:=kW l (acc*10+(c.toNat-48)) (fun x hx=>h x (List.mem_cons_of_mem _ hx));refine⟨n,by simp only[Lib.decFrom,h1];exact hn,?_⟩;rw[e,List.foldl_cons];congr 1;omega
theorem xB:∀(l:List UInt8) (acc:Int),0<=acc->(∀c∈l,aI c=true)->0<=l.foldl (fun a c=>a*10+((c.toNat:Int)-48)) acc/\l.foldl (fun a c=>a*10+((c.toNat:Int)-48)) acc<(acc+1)*10 ^ l.length
 | [],acc,h0,_=>by simp;omega
 | c::l,acc,h0,h=>by
   obtain⟨h1,h2,h3⟩:=pX (h c (by simp));obtain⟨a,b⟩:=xB l (acc*10+((c.toNat:Int)-48)) (by omega) (fun x hx=>h x (List.mem_cons_of_mem _ hx));refine⟨by rw[List.foldl_cons];exact a,?_⟩;rw[List.foldl_cons];refine Int.lt_of_lt_of_le b ?_;rw[List.length_cons,Int.pow_succ,Int.mul_comm (10 ^ l.length) 10,<-Int.mul_assoc];exact Int.mul_le_mul_of_nonneg_right (by omega) (Int.le_of_lt (Int.pow_pos (by decide)))
theorem JF{s:List UInt8}(h:tokF s=(2,s)):s≠[]/\(∀c∈s,aI c=true)/\s.length<=4:=by
 unfold tokF at h
 cases s with
 |nil=>cases h
 | cons c l=>
   simp only at h;split at h
   .split at h
    .simp at h
    .split at h<;>simp at h
   .split at h
    .split at h
     .rename_i hn
      have e:(c::l).takeWhile aI=c::l:=(Prod.mk.inj h).2;rw[e]at hn;refine⟨by simp,fun x hx=>?_,?_⟩
      .rw[<-e]at hx
       exact List.all_eq_true.1 (List.all_takeWhile (p:=aI) (l:=c::l)) x hx
      .unfold numB at hn
       simp only[Bool.and_eq_true,decide_eq_true_eq]at hn;exact hn.1
     .simp at h
    .split at h<;>simp at h
theorem nH{s:List UInt8}(h:tokF s=(2,s)):Lib.atoi s=some (valP s)/\0<=valP s/\valP s<=9999:=by
 obtain⟨h0,hd,h4⟩:=JF h;obtain⟨n,hn,e⟩:=kW s 0 hd;obtain⟨a,b⟩:=xB s 0 (by omega) hd;have hv:valP s=(n:Int):=by rw[e];rfl
 refine⟨?_,by rw[hv,e];exact a,?_⟩
 .cases s with
  |nil=>exact absurd rfl h0
  | cons c l=>
    obtain⟨-,h2,h3⟩:=pX (hd c (by simp))
    have e1:(c==45)=false:=by
     rw[beq_eq_false_iff_ne];rintro rfl;simp at h2
    have e2:(c==43)=false:=by
     rw[beq_eq_false_iff_ne];rintro rfl;simp at h2
    rw[hv];simp[Lib.atoi,e1,e2,Lib.decNat,hn]
 .have hp:(10:Int) ^ s.length<=10 ^ 4:=by
   have:=Nat.pow_le_pow_right (n:=10) (by decide) h4
   exact_mod_cast this
  have b':valP s<1*10 ^ s.length:=by simpa[valP]using b
  omega
theorem GT(s:List UInt8)(w:World)(hg:GV w)(h:tokF s=(2,s)) :
 Calls prog 199 #[strV s] w fun e w'=>e=.returned (.tuple #[intV (valP s),intV 0])/\Below w.heap.size w w':=by
 obtain⟨h0,hd,h4⟩:=JF h;obtain⟨hv,hb,hc⟩:=nH h;have HK:=Hd (vA s w (by omega) hg);have HA:Hid (∀W,Calls prog 40 #[.string ⟨s.toArray⟩] W fun e w'=>e=.returned (.tuple #[.int .i64 (valP s),.nilIface])/\∃t,w'=Lib.bytesWorld W 5 t):=Hd (fun W=>Tryz.strconv_Atoi ⟨s.toArray⟩ (valP s) (by simp[ByteArray.size];omega) hv W);have HE:Hid ((if (tokF s).1 != 0&&(tokF s).2==s then (tokF s).1 else 0)=2/\(if (tokF s).1 != 0&&(tokF s).2==s then (0:Int)else 4)=0):=Hd (by rw[h];simp);clear h hv h0 hd hg;go_enter func199,ntmps199
 go_wp2_with (first
  | (go_at_call 55;refine HK.o.mono ?_;rw[HE.o.1,HE.o.2];rintro e w1 ⟨rfl,ha⟩;have Ha:=Hd ha;clear ha)
  | (go_at_call 40;refine(HA.o _).mono ?_;rintro e w2 ⟨rfl,t,rfl⟩))
 go_ret2
 exact⟨rfl,Ha.o.trans (Below.mono (Lib.bytesWorld_below _ _ _) (Ha.o.size))⟩
theorem OC{c:PC}(he:OkC c){s:PS}{F:List (Nat×Obj)}{d:Nat}{X:World}(h:PQ c s F d X)(kd:Int)(hk0:kd≠0) :
 Calls prog 198 #[c.ptr,.int .u8 kd] X (RdT c F d s (bX c.E s kd)):=by
 have HE:=Hd he;have HP:=Hd h;clear he h;obtain⟨T,hT⟩:∃T,zg c.E s=T:=⟨_,rfl⟩
 have Ha:=Hd hT;obtain⟨k,tx,pos⟩:=T;cases ht:(k==kd)with
 | true=>
   have hc:s.next<c.E.toks.length:=qM hk0 (by rw[hT];exact eq_of_beq ht);have HS:Hid (bX c.E s kd=.ok s.take):=Hd (by unfold bX;rw[hT];simp only[ht];rfl);have hf:(k != kd)=false:=by simp[bne,ht]
   clear ht hT hk0;go_enter func198,ntmps198
   go_wp2_with (first
    | (go_at_call 107;refine(zS HE.o (HP.o.alloc tkZ) Ha.o).mono ?_;rintro e w1 ⟨rfl,ha⟩;have Hb:=Hd ha;clear ha)
    | (go_at_call 109;refine(iT HE.o Hb.o Ha.o hc).mono ?_;rintro e w2 ⟨rfl,hb⟩;obtain⟨⟨z0,z1,z2⟩,zf,hh⟩:=hb.own.tkz (List.mem_cons_self ..);have zf0:=zf 0;have zf1:=zf 1;have zf2:=zf 2;clear zf;have Hc:=Hd hb;clear hb))
   obtain⟨Y,hY,⟨y0,y1,y2⟩,hg⟩:=sS (.int .u8 k) (.string ⟨tx.toArray⟩) (intV pos) z0 z1 z2;rw[hY];clear hY;refine bodyPost_ret (by simp[results,results198,go_sem,loadVar,y0,y1,y2,Result.andThen];rfl) rfl ?_;exact .inr ⟨HS.o,hc,by rw[Ha.o],Hc.o.turned hg⟩
 | false=>
   have HS:Hid (bX c.E s kd=.error pos):=Hd (by unfold bX;rw[hT];simp only[ht];rfl);have hf:(k != kd)=true:=by simp[bne,ht]
   clear ht hT hk0;go_enter func198,ntmps198
   go_wp2_with (first
    | (go_at_call 107;refine(zS HE.o (HP.o.alloc tkZ) Ha.o).mono ?_;rintro e w1 ⟨rfl,ha⟩;have Hb:=Hd ha;clear ha)
    | (go_at_call 108;refine(pM HE.o Hb.o Ha.o).mono ?_;rintro e w2 ⟨rfl,hd⟩))
   exact⟨rfl,.inl ⟨pos,HS.o,rfl,hd⟩⟩
theorem jC{c:PC}(he:OkC c){s:PS}{F:List (Nat×Obj)}{d:Nat}{X:World}(h:PQ c s F d X) :
 Calls prog 171 #[c.ptr] X (RdT c F d s (bX c.E s 1)):=by
 have HE:=Hd he;have HP:=Hd h;clear he h;obtain⟨T,hT⟩:∃T,zg c.E s=T:=⟨_,rfl⟩
 have Ha:=Hd hT;obtain⟨k,tx,pos⟩:=T;clear hT;go_enter func171,ntmps171
 go_wp2_with (go_at_call 198;refine(OC HE.o (HP.o.alloc tkZ) 1 (by decide)).mono ?_;go_loud (rintro e w2 (⟨ps,hr,rfl,hb⟩|⟨hr,hc,he,ha⟩));rotate_left;rw[Ha.o]at he;subst he;rotate_left;(exact⟨rfl,.inl ⟨ps,hr,rfl,hb⟩⟩);obtain⟨⟨z0,z1,z2⟩,zf,hf⟩:=ha.own.tkz (List.mem_cons_self ..);have zf0:=zf 0;have zf1:=zf 1;have zf2:=zf 2;clear zf;have Hb:=Hd ha;have HR:=Hd hr;clear ha hr)
 obtain⟨Y,hY,⟨y0,y1,y2⟩,hd⟩:=sS (.int .u8 k) (.string ⟨tx.toArray⟩) (intV pos) z0 z1 z2;rw[hY];clear hY;refine bodyPost_ret (by simp[results,results171,go_sem,loadVar,y0,y1,y2,Result.andThen];rfl) rfl ?_;exact .inr ⟨HR.o,hc,by rw[Ha.o],Hb.o.turned hd⟩
theorem fB{c:PC}(he:OkC c){s:PS}{F:List (Nat×Obj)}{d:Nat}{X:World}(h:PQ c s F d X)(x:List UInt8)(hx:isP c.E s x=true) :
 Calls prog 177 #[c.ptr,strV x] X fun e Y=>e=.returned (.bool true)/\PQ c s.take F (d+1) Y:=by
 have HE:=Hd he;have HP:=Hd h;have HX:=Hd hx;have hc:s.next<c.E.toks.length:=eX hx;clear he h hx;go_enter func177,ntmps177
 go_wp2_with (first
  | (go_at_call 147;refine(QIsP HE.o HP.o x rfl HX.o).mono ?_;rintro e w1 ⟨rfl,ha⟩;have Ha:=Hd ha;clear ha)
  | (go_at_call 109;refine(iT HE.o Ha.o rfl hc).mono ?_;rintro e w2 ⟨rfl,hb⟩;have Hb:=Hd hb;clear hb))
 go_ret;exact⟨rfl,Hb.o⟩
theorem cU{c:PC}(he:OkC c){s:PS}{F:List (Nat×Obj)}{d:Nat}{X:World}(h:PQ c s F d X)(x:List UInt8)(hx:isP c.E s x=false) :
 Calls prog 177 #[c.ptr,strV x] X fun e Y=>e=.returned (.bool false)/\PQ c s F d Y:=by
 have HE:=Hd he;have HP:=Hd h;have HX:=Hd hx;clear he h hx;go_enter func177,ntmps177
 go_wp2_with (go_at_call 147;refine(QIsP HE.o HP.o x rfl HX.o).mono ?_;rintro e w1 ⟨rfl,ha⟩;have Ha:=Hd ha;clear ha)
 go_ret;exact⟨rfl,Ha.o⟩
def RdN(c:PC)(F:List (Nat×Obj))(d:Nat)(s:PS)(e:Ending)(Y:World):Prop:=
 (∃pos,bX c.E s 2=.error pos/\Thrown c.w0 pos e Y)\/(bX c.E s 2=.ok s.take/\s.next<c.E.toks.length/\e=.returned (.tuple #[tkA (zg c.E s),intV (valP (zg c.E s).text)])/\0<=valP (zg c.E s).text/\valP (zg c.E s).text<=9999/\PQ c s.take F (d+1) Y)
theorem kC{c:PC}(he:OkC c){s:PS}{F:List (Nat×Obj)}{d:Nat}{X:World}(h:PQ c s F d X) :
 Calls prog 178 #[c.ptr] X (RdN c F d s):=by
 have HE:=Hd he;have HP:=Hd h;clear he h;obtain⟨T,hT⟩:∃T,zg c.E s=T:=⟨_,rfl⟩
 have Ha:=Hd hT;obtain⟨k,tx,pos⟩:=T;clear hT;go_enter func178,ntmps178
 go_wp2_with (first
  | (go_at_call 198;refine(OC HE.o (HP.o.alloc tkZ) 2 (by decide)).mono ?_;rintro e w1 (⟨ps,hr,rfl,hb⟩|⟨hr,hf,he,hg⟩);rotate_left;rw[Ha.o]at he;subst he;rotate_left;(exact⟨rfl,.inl ⟨ps,hr,rfl,hb⟩⟩);have ha:=hg.alloc (tkO ⟨k,tx,pos⟩);have Hc:=Hd ha;have HR:=Hd hr;have hh:k=2:=(by have:=(bY (by decide) hr).2.2;rw[Ha.o]at this;exact this);have Hb:Hid (tokF tx=(2,tx)):=Hd (by have:=HE.o.tok _ (dV hf);rw[Ha.o]at this;exact this hh);obtain⟨⟨b0,b1,b2⟩,bf,bl⟩:((w1.alloc (tkO ⟨k,tx,pos⟩)).cell? ⟨w1.heap.size,0,none⟩=some (.int .u8 k)/\(w1.alloc (tkO ⟨k,tx,pos⟩)).cell? ⟨w1.heap.size,1,none⟩=some (strV tx)/\(w1.alloc (tkO ⟨k,tx,pos⟩)).cell? ⟨w1.heap.size,2,none⟩=some (intV pos))/\True/\True:=⟨ha.own.tk (t:=⟨k,tx,pos⟩) (List.mem_cons_self ..),trivial,trivial⟩;clear hg ha hr hh)
  | (go_at_call 199;refine(GT tx _ (HE.o.gv.mono Hc.o.w0 nlr) Hb.o).mono ?_;rintro e w2 ⟨rfl,hd⟩;have hc:=Hc.o.below hd;obtain⟨c0,c1,c2⟩:=hc.own.tk (b:=w1.heap.size) (t:=⟨k,tx,pos⟩) (List.mem_cons_self ..);obtain⟨⟨z0,z1,z2⟩,zf,hj⟩:=hc.own.tkz (b:=X.heap.size) (by simp);have zf0:=zf 0;have zf1:=zf 1;have zf2:=zf 2;clear zf;have He:=Hd (hc.drop);clear hc hd))
 obtain⟨Y,hY,⟨y0,y1,y2⟩,hi⟩:=sS (.int .u8 k) (.string ⟨tx.toArray⟩) (intV pos) z0 z1 z2;rw[hY];clear hY;refine bodyPost_ret (by simp[results,results178,go_sem,loadVar,y0,y1,y2,Result.andThen];rfl) rfl ?_;exact .inr ⟨HR.o,hf,by rw[Ha.o],by rw[Ha.o];exact(nH Hb.o).2.1,by rw[Ha.o];exact(nH Hb.o).2.2,He.o.turned hi⟩
theorem PQg.added{c:PC}{s:PS}{K F:List (Nat×Obj)}{G:Nat->Prop}{W:World}(h:PQg c s (K++F) G W){na:Option Addr}{nc:Nat}{ks:List (Option Addr×Nat)}
 (hown:OwnN W (c.w0.heap.size+1) na nc s.nodes ks)(hna:∀i,AtB na i->G i)(hks:∀j (h:j<s.nodes.length) (k:j<ks.length),0<s.nodes[j].kids.length->∀x,ks[j].1=some x->G x.block)
 (kd:Int)(T:Tk)(text:List UInt8)(n:Int){ka:Option Addr}{kc:Nat}{kids:List Int}(hk:Row 1 W ka kids.length kc (zr kids))(hK:0<kids.length->∀x,ka=some x->x.block∈K.map Prod.fst)(hn:s.nodes.length<=1000){d:Nat}(hd:s.nodes.length+(d+1)<=s.next) :
 ∃ a' c' w3 W4,(Builtin.append_ #[22,22] 22 #[.slice na s.nodes.length nc,.slice (some ⟨W.heap.size,0,none⟩) 1 1]).run prog (W.alloc (.cells #[.int .u8 kd,strV text,intV n,.slice ka kids.length kc,intV T.pos] 31))=.ok (.slice a' (s.nodes.length+1) c') w3 /\
   (∀b,b<W.heap.size->¬AtB na b->w3.heap[b]?=W.heap[b]?)/\w3.setCell ⟨c.w0.heap.size,3,none⟩ (.slice a' (s.nodes.length+1) c')=W4/\W4.cell? ⟨c.w0.heap.size,3,none⟩=some (.slice a' (s.nodes.length+1) c')/\PQ c (addP s kd T text n kids) F d W4:=by
 obtain⟨hp,ho,he,hv⟩:=h;have hA:=hp.lt;obtain⟨i0,hi,hC,hD,hE⟩:=info_parts qD;obtain⟨W2,hr⟩:∃W2,W.alloc (.cells #[.int .u8 kd,strV text,intV n,.slice ka kids.length kc,intV T.pos] 31)=W2:=⟨_,rfl⟩
 have hs:Below W.heap.size W W2:=by rw[<-hr];exact(Below.refl _ W).alloc nlr _
 have hL:W2.heap.size=W.heap.size+1:=by rw[<-hr];simp
 have hc:=hown.below hs;have hm:Row 5 W2 (some ⟨W.heap.size,0,none⟩) 1 1 ((⟨kd,text,n,kids,T.pos⟩:Nd).cells (ka,kc)):=by rw[<-hr];exact tW W ⟨kd,text,n,kids,T.pos⟩ ka kc rfl
 obtain⟨v',w3,hq,h2,h3⟩:=aS (P:=prog) W2 (c.w0.heap.size+1) 22 22 31 i0 _ 5 64 gZ hi hC hD hE rfl (by decide) (.slice na s.nodes.length nc) s.nodes.length _ hc.own (some ⟨W.heap.size,0,none⟩) 1 1 _ hm (gW _ _) (by unfold maxLen;omega) (by omega) (by omega);obtain⟨a',c',rfl,_⟩:=bC h2;have hw:=dK (P:=prog) W2 (c.w0.heap.size+1) 22 22 31 i0 _ 5 64 gZ hi hC hD hE rfl (by decide) na s.nodes.length nc _ hc.own (some ⟨W.heap.size,0,none⟩) 1 1 _ hm (gW _ _) (by unfold maxLen;omega) (by omega) (by omega) hq;rw[hr]
 have hy:0<kids.length->∀x,ka=some x->c.w0.heap.size<x.block/\¬G x.block:=fun h0 x e=>by
  obtain⟨p,hu,e2⟩:=List.mem_map.1 (hK h0 x e);have:=he p (List.mem_append_left _ hu);rw[e2]at this;exact this
 have hI:KRow W2 (c.w0.heap.size+1) na (ka,kc) kids:=⟨hk.mono hs nlr,fun h0 x e=>⟨(hy h0 x e).1,fun y ey e3=>(hy h0 x e).2 (hna _ ⟨y,ey,e3.symm⟩)⟩⟩
 have hB:=OwnN.snoc hc (d:=⟨kd,text,n,kids,T.pos⟩) (k:=(ka,kc)) hI h2 h3 hw
 have hh:∀b,b<W2.heap.size->¬AtB na b->w3.heap[b]?=W2.heap[b]?:=fun b hb hn=>h3.block b hb (by
  cases na with
  |none=>simp[Value.ownBlock]
  |some y=>simp only[Value.ownBlock];exact fun e=>hn ⟨y,rfl,by simpa using e.symm⟩)
 have ha:∀b,b<W.heap.size->¬AtB na b->w3.heap[b]?=W.heap[b]?:=fun b hb hn=>(hh b (by omega) hn).trans (hs.block b hb)
 have hF:∀i,AtB a' i->(AtB na i)\/W2.heap.size<=i:=by
  rintro i⟨x,e,rfl⟩;rcases hw x e with h1|h1
  .exact .inl ⟨x,h1,rfl⟩
  .exact .inr h1
 have hG:∀i,AtB a' i->c.w0.heap.size<i/\i<w3.heap.size:=by
  rintro i⟨x,e,rfl⟩;exact hB.lt x e
 have n0:¬AtB na c.w0.heap.size:=by
  rintro⟨x,e,e2⟩;have:=(hown.lt x e).1;omega
 have hf:∀i,w3.cell? ⟨c.w0.heap.size,i,none⟩=W.cell? ⟨c.w0.heap.size,i,none⟩:=fun i=>World.cell?_of_block (a:=⟨c.w0.heap.size,i,none⟩) (ha _ hA n0);have hH:∀i,w3.frozen? ⟨c.w0.heap.size,i,none⟩=W.frozen? ⟨c.w0.heap.size,i,none⟩:=fun i=>by unfold World.frozen?;rw[ha _ hA n0]
 obtain⟨ca,cc,ck,c3,cown,-⟩:=hp.nodes;have c3':=World.cell?_setCell_same w3 ⟨c.w0.heap.size,3,none⟩ (.slice a' (s.nodes.length+1) c') ((hf 3).trans c3);have ht:∀i,i≠3->(w3.setCell ⟨c.w0.heap.size,3,none⟩ (.slice a' (s.nodes.length+1) c')).cell? ⟨c.w0.heap.size,i,none⟩=W.cell? ⟨c.w0.heap.size,i,none⟩:=fun i hi=>(World.cell?_setCell_other _ _ _ _ (fun e=>hi (congrArg Addr.off e).symm)).trans (hf i);have hx:Below c.w0.heap.size W2 w3:=(Below.refl _ W2).grown h3 (by omega) (fun r e=>by have:=(hc.own.lt r e).1;omega);refine⟨a',c',w3,_,hq,ha,rfl,c3',⟨fun i=>G i\/i∈K.map Prod.fst\/AtB a' i,⟨?_,?_,?_,?_,?_,?_,⟨a',c',ks++[(ka,kc)],?_,?_,?_,?_⟩,.inl hp.g0,?_,hp.next⟩,?_,?_,(List.nodup_append.1 (by rw[<-List.map_append];exact hv)).2.1⟩,?_⟩
 .exact((hp.below.trans (hs.mono (by omega))).trans hx).setCell nlr _
 .exact(ht 0 (by omega)).trans hp.c0
 .exact(ht 1 (by omega)).trans hp.c1
 .exact(ht 2 (by omega)).trans hp.c2
 .exact(ht 4 (by omega)).trans hp.c4
 .intro i;rw[World.frozen?_setCell,hH];exact hp.fr i
 .rw[c3'];simp[addP]
 .exact hB.setCell (by simp) _
 .intro i hi;exact .inr (.inr hi)
 .intro j hj hJ h0 x e
  have hl:=hown.len;simp only[addP]at hj h0;by_cases hjl:j<s.nodes.length
  .rw[List.getElem_append_left (by omega)]at e
   rw[List.getElem_append_left hjl]at h0;exact .inl (hks j hjl (by omega) h0 x e)
  .obtain rfl:j=s.nodes.length:=by simp at hj;omega
   rw[List.getElem_append_right (by omega)]at e;rw[List.getElem_append_right (by omega)]at h0;simp[hl]at e h0;exact .inr (.inl (hK (by omega) x e))
 .intro i hi
  have hz:W.heap.size<=w3.heap.size:=by have:=hx.size;omega
  simp only[World.size_setCell];rcases hi with hi|hi|hi
  .exact⟨(hp.mem i hi).1,by have:=(hp.mem i hi).2;omega⟩
  .obtain⟨p,hu,rfl⟩:=List.mem_map.1 hi
   have h5:=(he p (List.mem_append_left _ hu)).1;have h6:=(Array.getElem?_eq_some_iff.1 (ho p (List.mem_append_left _ hu))).1;exact⟨by omega,by omega⟩
  .have:=hG i hi;exact⟨by omega,this.2⟩
 .intro p hg
  have h5:=he p (List.mem_append_right _ hg);have h6:=ho p (List.mem_append_right _ hg);refine(Below.heap_setCell _ _ _ _ (by simp only;omega)).trans ((ha p.1 (Array.getElem?_eq_some_iff.1 h6).1 (fun e=>h5.2 (hna _ e))).trans h6)
 .intro p hg
  have h5:=he p (List.mem_append_right _ hg);have h6:=(Array.getElem?_eq_some_iff.1 (ho p (List.mem_append_right _ hg))).1;refine⟨h5.1,?_⟩;rintro(h7|h7|h7)
  .exact h5.2 h7
  .rw[List.map_append]at hv
   exact(List.nodup_append.1 hv).2.2 _ h7 _ (List.mem_map_of_mem hg) rfl
  .rcases hF _ h7 with h8|h8
   .exact h5.2 (hna _ h8)
   .omega
 .simp only[addP,List.length_append,List.length_singleton];omega
theorem PQg.tail{c:PC}{s:PS}{p:Nat×Obj}{F:List (Nat×Obj)}{G:Nat->Prop}{X:World}(h:PQg c s (p::F) G X):PQg c s F G X:=
 ⟨h.par,fun q hq=>h.own q (List.mem_cons_of_mem _ hq),fun q hq=>h.out q (List.mem_cons_of_mem _ hq),(List.nodup_cons.1 h.nd).2⟩
theorem LM{c:PC}(he:OkC c){s:PS}{K F:List (Nat×Obj)}{d:Nat}{X:World}(h:PQ c s (K++F) (d+1) X)(kd:Int)(T:Tk)(text:List UInt8)(n:Int){ka:Option Addr}{kc:Nat}{kids:List Int}
 (hk:Row 1 X ka kids.length kc (zr kids))(hK:0<kids.length->∀x,ka=some x->x.block∈K.map Prod.fst) :
 Calls prog 173 #[c.ptr,.int .u8 kd,tkA T,strV text,intV n,.slice ka kids.length kc] X fun e Y=>e=.returned (intV s.nodes.length)/\PQ c (addP s kd T text n kids) F d Y:=by
 obtain⟨k,tx,pos⟩:=T;have h1:=h.alloc (tkO ⟨k,tx,pos⟩);have hd:=h.2
 have ht:s.nodes.length<=1000:=by
  obtain⟨⟨G,g⟩,_⟩:=h;have:=g.par.next;have:=he.many;omega
 have ho:Row 1 ((X.alloc (tkO ⟨k,tx,pos⟩)).drew) ka kids.length kc (zr kids):=(hk.mono ((Below.refl _ X).alloc nlr _) nlr).mono (brf.drew) nlr;have HE:=Hd he;have hy:=h.lt;obtain⟨⟨G,g1⟩,-⟩:=h1.drew;have hi:=g1.own _ (List.mem_cons_self ..);have hr:=(g1.out _ (List.mem_cons_self ..)).2;have g:=g1.tail;obtain⟨na,nc,ks,c3,hm,hl,hp⟩:=g.par.nodes;have hg:=g.par.fr 3;obtain⟨a',c',w3,W4,hh,ha,hn,hv,hu⟩:=g.added hm hl hp kd ⟨k,tx,pos⟩ text n ho hK ht hd;have hb:(X.alloc (tkO ⟨k,tx,pos⟩)).drew.heap.size=X.heap.size+1:=by simp
 have hq:¬AtB na X.heap.size:=fun e=>hr (hl _ e)
 have hj:¬AtB na c.w0.heap.size:=by
  rintro⟨x,e,e2⟩;have:=(hm.lt x e).1;omega
 have hc:=(ha X.heap.size (by rw[hb];omega) hq).trans hi;have hf:w3.cell? ⟨c.w0.heap.size,3,none⟩=some (.slice na s.nodes.length nc):=(World.cell?_of_block (a:=⟨c.w0.heap.size,3,none⟩) (ha c.w0.heap.size (by rw[hb];omega) hj)).trans c3
 have hw:w3.frozen? ⟨c.w0.heap.size,3,none⟩=false:=by
  have:=ha c.w0.heap.size (by rw[hb];omega) hj;unfold World.frozen? at hg|-;rw[this];exact hg
 have Hf:=Hd hu;have Hc:Hid ((fun Wz:World=>Wz.cell? ⟨c.w0.heap.size,3,none⟩=some (.slice na s.nodes.length nc)/\Wz.heap[X.heap.size]?=some (tkO ⟨k,tx,pos⟩)) (X.alloc (tkO ⟨k,tx,pos⟩)).drew):=Hd ⟨c3,hi⟩;have Hb:Hid ((fun Wz:World=>Wz.cell? ⟨c.w0.heap.size,3,none⟩=some (.slice na s.nodes.length nc)/\Wz.heap[X.heap.size]?=some (tkO ⟨k,tx,pos⟩)) w3):=Hd ⟨hf,hc⟩
 have He:Hid ((fun Wz:World=>Wz.cell? ⟨c.w0.heap.size,3,none⟩=some (.slice na s.nodes.length nc)/\Wz.heap[X.heap.size]?=some (tkO ⟨k,tx,pos⟩)) ((X.alloc (tkO ⟨k,tx,pos⟩)).drew.alloc (.cells #[.int .u8 kd,strV text,intV n,.slice ka kids.length kc,intV pos] 31))):=
  Hd ⟨((brf.alloc nlr _).cell (p:=⟨c.w0.heap.size,3,none⟩) (show c.w0.heap.size<_ by omega)).trans c3,(Below.heap_alloc _ _ _ (by rw[hb];omega)).trans hi⟩
 have Ha:=Hd hh;have Hg:=Hd hn;clear h h1 g g1 ho hk hK hm hl hp hi hc ha hu hf hq hj hb hh hn hd hr c3;go_enter func173,ntmps173;have hx:prog.follows .mixedOrders=true:=by kernel_rfl
 go_wp2;refine N.region_C [false,false,false,false,false,false,false,false,false,false,false,false,false,true,true,false,false,false,true] [?vC1_0,?vC1_1,?vC1_2,?vC1_3,?vC1_4,?vC1_5,?vC1_6,?vC1_7,?vC1_8,?vC1_9,?vC1_10,?vC1_11,?vC1_12,undef,undef,?vC1_15,?vC1_16,?vC1_17,undef] hx (by kernel_rfl) (by kernel_rfl) (by kernel_rfl) (by kernel_rfl) rfl rfl (fun _ _=>False) N.Pans.no (fun Wz=>Wz.cell? ⟨c.w0.heap.size,3,none⟩=some (.slice na s.nodes.length nc)/\Wz.heap[X.heap.size]?=some (tkO ⟨k,tx,pos⟩)) Hc.o ?wC1_ ?_
 case wC1_=>
  iterate 13 (refine N.WalkC.still (N.StillP.known rfl ?_) ?_;(intro W hJ;obtain⟨j3,jb⟩:=hJ;have jb2:=za (i:=2) jb rfl;go_simp;rfl);simp only[N.pz])
  refine N.WalkC.chain fun u13=>?_;simp only[N.pz];refine N.WalkC.chain fun u14=>?_;simp only[N.pz]
  iterate 3 (refine N.WalkC.still (N.StillP.known rfl ?_) ?_;(intro W hJ;obtain⟨j3,jb⟩:=hJ;have jb2:=za (i:=2) jb rfl;go_simp;rfl);simp only[N.pz])
  refine N.WalkC.chain fun u18=>?_;simp only[N.pz];exact .nil
 iterate 13 (refine N.TailC.still ?_;simp only[N.pz])
 refine N.TailC.run (v:=.slice (some ⟨(X.alloc (tkO ⟨k,tx,pos⟩)).drew.heap.size,0,none⟩) 1 1) (w':=(X.alloc (tkO ⟨k,tx,pos⟩)).drew.alloc (.cells #[.int .u8 kd,strV text,intV n,.slice ka kids.length kc,intV pos] 31)) rfl ?a13 (fun _=>He.o) ?b13;case a13=>go_simp;try rfl
 simp only[N.pz];refine N.TailC.append rfl (.tmp 18) (.tmp 26) 22 rfl rfl rfl Ha.o (fun _=>Hb.o) ?_;simp only[N.pz]
 iterate 3 (refine N.TailC.still ?_;simp only[N.pz])
 refine N.TailC.skips (w':=W4) rfl ?a18 (fun h=>absurd rfl h) ?b18;case a18=>rw[<-Hg.o];have jc:=Hb.o.1;go_simp;try rfl
 simp only[N.pz];refine N.TailC.nil ?_;obtain⟨nl,hs⟩:∃nl,s.nodes.length=nl:=⟨_,rfl⟩
 rw[hs]at hv ht;go_wp2;go_ret;exact⟨by rw[hs];rfl,Hf.o⟩
def RdI(c:PC)(F:List (Nat×Obj))(d n0:Nat)(S:PR (Int×PS))(e:Ending)(Y:World):Prop:=
 (∃pos,S=.error pos/\Thrown c.w0 pos e Y)\/∃a s',S=.ok (a,s')/\e=.returned (intV a)/\n0<=s'.next/\PQ c s' F d Y
def zt(c:PC)(fn:FuncId)(rd:RdP)(s:PS):Prop:=∀(F:List (Nat×Obj)) (d:Nat) (X:World),PQ c s F d X->Calls prog fn #[c.ptr] X (RdI c F d s.next (rd s))
theorem zh{ε α β:Type}{S:Except ε β}{m:Except ε α}{k:α->Except ε β}{a:α}(h:S=m.bind k)(hm:m=.ok a):S=k a:=by subst hm;exact h
theorem zi{ε α β:Type}{S:Except ε β}{m:Except ε α}{k:α->Except ε β}{p:ε}(h:S=m.bind k)(hm:m=.error p):S=.error p:=by subst hm;exact h
theorem RdI.er{c:PC}{F:List (Nat×Obj)}{d n0:Nat}{S:PR (Int×PS)}{pos:Int}{Y:World}(h:S=.error pos)(hb:Below c.w0.heap.size c.w0 Y):RdI c F d n0 S (.panicked [{ v:=sV pos,recovered:=false }]) Y:=.inl ⟨pos,h,rfl,hb⟩
theorem RdI.ok{c:PC}{F:List (Nat×Obj)}{d n0:Nat}{S:PR (Int×PS)}{a:Int}{s':PS}{Y:World}(h:S=.ok (a,s'))(hn:n0<=s'.next)(hp:PQ c s' F d Y):RdI c F d n0 S (.returned (intV a)) Y:=.inr ⟨a,s',h,rfl,hn,hp⟩
theorem QAdd0{c:PC}(he:OkC c){s:PS}{F:List (Nat×Obj)}{d:Nat}{X:World}(h:PQ c s F (d+1) X)(kd:Int)(T:Tk)(text:List UInt8)(n:Int) :
 Calls prog 173 #[c.ptr,.int .u8 kd,tkA T,strV text,intV n,.slice none 0 0] X fun e Y=>e=.returned (intV s.nodes.length)/\PQ c (addP s kd T text n []) F d Y:=
 LM he (K:=[]) h kd T text n (kids:=[]) (ka:=none) (kc:=0) ⟨rfl,nlr,fun _=>rfl,.inl rfl⟩ (fun h=>absurd h (by simp))
theorem kQ{c:PC}(he:OkC c){s:PS}{F:List (Nat×Obj)}{d:Nat}{X:World}(h:PQ c s F (d+1) X)(kd:Int)(T:Tk)(text:List UInt8)(n:Int)(kids:List Int){z:Nat}(hz:X.heap.size=z) :
 Calls prog 173 #[c.ptr,.int .u8 kd,tkA T,strV text,intV n,.slice (some ⟨z,0,none⟩) kids.length kids.length] (X.alloc (.cells (zr kids).toArray 3)) fun e Y=>e=.returned (intV s.nodes.length)/\PQ c (addP s kd T text n kids) F d Y:=by
 subst hz;refine LM he (K:=[(X.heap.size,.cells (zr kids).toArray 3)]) (h.alloc _) kd T text n ?_ (fun _ x e=>by obtain rfl:=Option.some.inj e;simp);have:=Row.made (k:=1) (n:=kids.length) (c:=kids.length) X (zr kids) 3 (by simp) nlr;exact this
structure KL (c:PC) (K:List (Nat×Obj)) (a:Option Addr) (cp:Nat) (l:List Int):Prop where
 own:∀X,Own K X->OwnI X (c.w0.heap.size+1) a cp l
 at_:∀x,a=some x->x.block∈K.map Prod.fst
theorem KL.nil(c:PC):KL c [] none 0 []:=⟨fun _ _=>⟨rfl,.inl ⟨rfl,rfl⟩⟩,fun _ h=>by cases h⟩
theorem Own.left{K F:List (Nat×Obj)}{X:World}(h:Own (K++F) X):Own K X:=fun p hp=>h p (List.mem_append_left _ hp)
theorem KL.of{c:PC}{X:World}{a:Option Addr}{cp:Nat}{l:List Int}(h:OwnI X (c.w0.heap.size+1) a cp l):∃K,KL c K a cp l/\Own K X/\(K=[]\/∃g o,a=some ⟨g,0,none⟩/\K=[(g,o)]):=by
 obtain⟨h1,h2⟩:=h;rcases h2 with⟨h2,h3⟩|⟨g,cap,cur,h2,hb,hg,hr⟩
 .simp only[Value.slice.injEq]at h2
  obtain⟨rfl,h4,rfl⟩:=h2;exact⟨[],⟨fun _ _=>⟨h1,.inl ⟨by rw[h4],h3⟩⟩,fun _ h=>by cases h⟩,(fun _ h=>by cases h),.inl rfl⟩
 .simp only[Value.slice.injEq]at h2
  obtain⟨rfl,-,rfl⟩:=h2;exact⟨[(g,.cells cur 3 (0,0))],⟨fun X hX=>⟨h1,.inr ⟨g,cp,cur,rfl,hb,hX _ (List.mem_cons_self ..),hr⟩⟩,fun x e=>by obtain rfl:=Option.some.inj e;simp⟩,fun p hp=>by obtain rfl:=List.mem_singleton.1 hp;exact hg,.inr ⟨g,_,rfl,rfl⟩⟩
theorem PQ.appended{c:PC}{s:PS}{K F:List (Nat×Obj)}{d:Nat}{W w':World}{a a':Option Addr}{cp cp':Nat}{l l':List Int}(h:PQ c s (K++F) d W)(hk:KL c K a cp l)(hown:OwnI w' (c.w0.heap.size+1) a' cp' l')
 (hkeep:∀B' A,B'<=c.w0.heap.size+1->Below B' A W->Below B' A w')(hap:∀g,g<W.heap.size->lT a g->w'.heap[g]?=W.heap[g]?/\lT a' g):∃K',KL c K' a' cp' l'/\PQ c s (K'++F) d w':=by
 obtain⟨K',hm,ho,hq⟩:=KL.of hown;refine⟨K',hm,?_⟩;have hb:=hkeep _ _ nlr (Below.refl _ W);obtain⟨⟨G,g⟩,hd⟩:=h
 have he:∀x,a=some x->c.w0.heap.size<x.block/\¬G x.block/\x.block∈K.map Prod.fst:=fun x e=>by
  obtain⟨p,hp,e2⟩:=List.mem_map.1 (hk.at_ x e);have:=g.out p (List.mem_append_left _ hp);rw[e2]at this;exact⟨this.1,this.2,hk.at_ x e⟩
 have hl:Turns (fun i=>AtB a i) W w':=⟨hb.os,hb.tape,hb.output,hb.size,fun i hi hn=>(hap i hi (fun p e e2=>hn ⟨p,e,e2⟩)).1⟩
 have hc:IsPar c.w0 c.E c.ta c.tc c.iv s G w':=g.par.turns hl (fun i hi ⟨x,e,e2⟩=>(he x e).2.1 (by rw[e2];exact hi)) (fun i ⟨x,e,e2⟩=>by have:=(he x e).1;omega);have hf:=List.nodup_append.1 (by have:=g.nd;rwa[List.map_append]at this);have hF:∀p∈F,¬AtB a p.1:=fun p hp ⟨x,e,e2⟩=>hf.2.2 _ (he x e).2.2 _ (List.mem_map_of_mem hp) e2;have hh:∀p∈F,p.1<W.heap.size:=fun p hp=>(Array.getElem?_eq_some_iff.1 (g.own p (List.mem_append_right _ hp))).1;have hj:∀p∈F,w'.heap[p.1]?=some p.2:=fun p hp=>(hl.block p.1 (hh p hp) (hF p hp)).trans (g.own p (List.mem_append_right _ hp))
 have hg:∀x,a'=some x->AtB a x.block\/W.heap.size<=x.block:=fun x e=>by
  rcases Nat.lt_or_ge x.block W.heap.size with h1|h1
  .refine .inl (Classical.byContradiction fun hn=>?_)
   exact(hap x.block h1 (fun p e1 e2=>hn ⟨p,e1,e2⟩)).2 x e rfl
  .exact .inr h1
 rcases hq with rfl|⟨gb,o,ea,rfl⟩
 .exact⟨⟨G,hc,hj,fun p hp=>g.out p (List.mem_append_right _ hp),hf.2.1⟩,hd⟩
 .have ha:c.w0.heap.size<gb/\¬G gb/\∀p∈F,p.1≠gb:=by
   rcases hg _ ea with⟨x,e,e2⟩|h1
   .have:=he x e
    simp only at e2;rw[e2]at this;exact⟨this.1,this.2.1,fun p hp e3=>hF p hp ⟨x,e,by rw[e2,e3]⟩⟩
   .simp only at h1
    have:=g.par.lt;exact⟨by omega,fun e=>by have:=(g.par.mem _ e).2;omega,fun p hp e3=>by have:=hh p hp;omega⟩
  refine⟨⟨G,hc,fun p hp=>?_,fun p hp=>?_,?_⟩,hd⟩
  .rcases List.mem_cons.1 hp with rfl|hp
   .exact ho _ (List.mem_cons_self ..)
   .exact hj p hp
  .rcases List.mem_cons.1 hp with rfl|hp
   .exact⟨ha.1,ha.2.1⟩
   .exact g.out p (List.mem_append_right _ hp)
  .refine List.nodup_cons.2 ⟨fun e=>?_,hf.2.1⟩
   obtain⟨p,hp,e⟩:=List.mem_map.1 e;exact ha.2.2 p hp e
theorem PQ.made{c:PC}{s:PS}{F:List (Nat×Obj)}{d:Nat}{X:World}(h:PQ c s F d X)(v:Int){n:Nat}(hn:X.heap.size=n):∃K,KL c K (some ⟨n,0,none⟩) 1 [v]/\PQ c s (K++F) d (X.alloc (.cells #[intV v] 3)):=by
 subst hn;have hl:=h.lt;refine⟨[(X.heap.size,.cells #[intV v] 3)],⟨fun Y hY=>?_,fun x e=>by obtain rfl:=Option.some.inj e;simp⟩,h.alloc _⟩;exact⟨rfl,.inr ⟨X.heap.size,1,#[intV v],rfl,by omega,hY _ (List.mem_cons_self ..),nlr,by decide,rfl,rfl⟩⟩
theorem pL{c:PC}(he:OkC c){s:PS}{K F:List (Nat×Obj)}{d:Nat}{X:World}(h:PQ c s (K++F) (d+1) X)(kd:Int)(T:Tk)(text:List UInt8)(n:Int){a:Option Addr}{cp:Nat}{l:List Int}(hk:KL c K a cp l) :
 Calls prog 173 #[c.ptr,.int .u8 kd,tkA T,strV text,intV n,.slice a l.length cp] X fun e Y=>e=.returned (intV s.nodes.length)/\PQ c (addP s kd T text n l) F d Y:=
 LM he h kd T text n (fF (hk.own X h.own.left)) (fun _ x e=>hk.at_ x e)
def RdL(c:PC)(F:List (Nat×Obj))(d n0:Nat)(S:PR (List Int×PS))(e:Ending)(Y:World):Prop:=
 (∃pos,S=.error pos/\Thrown c.w0 pos e Y)\/∃l s' a cp K,S=.ok (l,s')/\e=.returned (.slice a l.length cp)/\n0<=s'.next/\l.length<=s'.next+1/\KL c K a cp l/\PQ c s' (K++F) d Y
theorem RdL.er{c:PC}{F:List (Nat×Obj)}{d n0:Nat}{S:PR (List Int×PS)}{pos:Int}{Y:World}(h:S=.error pos)(hb:Below c.w0.heap.size c.w0 Y):RdL c F d n0 S (.panicked [{ v:=sV pos,recovered:=false }]) Y:=.inl ⟨pos,h,rfl,hb⟩
theorem tM{rd:RdP}{E:PE}{f:Nat}{l:List Int}{s:PS}(h:isP E s iW=false):nE rd E f l s=.ok (l,s):=by
 cases f with
 |zero=>rfl
 |succ f=>unfold nE;rw[h];rfl
theorem qN{rd:RdP}{E:PE}{f:Nat}{l:List Int}{s:PS}(h:isP E s iW=true):nE rd E (f+1) l s=(rd s.take).bind fun r=>nE rd E f (l++[r.1]) r.2:=by
 conv=>lhs;unfold nE
 rw[h];rfl
theorem PQ.next{c:PC}{s:PS}{F:List (Nat×Obj)}{d:Nat}{X:World}(h:PQ c s F d X):s.next<=c.E.toks.length:=by
 obtain⟨⟨G,g⟩,_⟩:=h;exact g.par.next
def mG(c:PC)(X:World):Nat:=c.E.toks.length-(intOf ((X.cell? ⟨c.w0.heap.size,2,none⟩).getD undef)).toNat
theorem PQ.meas{c:PC}{s:PS}{F:List (Nat×Obj)}{d:Nat}{X:World}(h:PQ c s F d X):mG c X=c.E.toks.length-s.next:=by
 obtain⟨⟨G,g⟩,_⟩:=h;unfold mG;rw[g.par.c2];simp[intOf]
theorem MN{E:PE}{s:PS}{T:Tk}(hT:zg E s=T)(h:(T.kind==2)=true):bX E s 2=.ok s.take:=by
 unfold bX;rw[hT,if_pos h]
theorem pN{c:PC}(he:OkC c){rd:RdP}{s:PS}(hrd:∀s',s.next<=s'.next->zt c 175 rd s'){F:List (Nat×Obj)}{d:Nat}{X:World}(h:PQ c s F d X) :
 Calls prog 174 #[c.ptr,.func (.func 175) #[] #[]] X (RdL c F d s.next (jO rd c.E s)):=by
 have HE:=Hd he;have HR:=Hd hrd;have Ho:=Hd h;have hj:=he.many;obtain⟨S,hS⟩:∃S,jO rd c.E s=S:=⟨_,rfl⟩
 rw[hS];unfold jO at hS;have Hh:=Hd hS.symm;have ho:=h.next;clear he hrd h hS;go_enter func174,ntmps174
 go_wp2_with (go_at_call 175;refine(HR.o s nlr _ _ _ Ho.o).mono ?_;rintro e w1 (⟨ps,hr,rfl,hb⟩|⟨a1,s1,hr,rfl,hn,hp⟩);(exact⟨rfl,.er (zi Hh.o hr) hb⟩);have Hr:=Hd (zh Hh.o hr);obtain⟨K1,hh,hk⟩:=hp.made a1 rfl;have Hj:=Hd hh;have Hp:=Hd hk;have Hm:=Hd hn;clear hr hn hp hh hk)
 go_loopw [5] (fun t5 wr=>∃(a:Option Addr) (cp:Nat) (l:List Int) (sk:PS) (f:Nat) (K:List (Nat×Obj)),t5=.slice a l.length cp/\Hid (S=nE rd c.E f l sk)/\Hid (s.next<=sk.next/\c.E.toks.length+1<=f+sk.next/\l.length<=sk.next+1)/\Hid (KL c K a cp l)/\Hid (PQ c sk (K++F) d wr)) (fun _ wr=>mG c wr)
 case atStart=>exact⟨_,_,[a1],s1,_,K1,rfl,Hr,Hd ⟨Hm.o,by simp,by simp⟩,Hj,Hp⟩
 case round=>
  obtain⟨a,cp,l,sk,f,K,rfl,Hi,Ha,He,Hb⟩:=hrel;have hu:=Hb.o.next;have HM:=Hd Hb.o.meas
  cases hc:isP c.E sk iW with
  | false=>
    have HC:=Hd hc;have Hc:=Hd (Hi.o.trans (tM hc));clear hc
    go_wp2_with (go_at_call 177;refine(cU HE.o Hb.o iW HC.o).mono ?_;rintro e w2 ⟨rfl,hp⟩;have Hf:=Hd hp;clear hp)
    go_ret;exact .inr ⟨l,sk,a,cp,K,Hc.o,rfl,Ha.o.1,Ha.o.2.2,He.o,Hf.o⟩
  | true=>
    have hs:=eX hc;obtain⟨f,rfl⟩:∃g,f=g+1:=⟨f-1,by have:=Ha.o.2.1;omega⟩
    have HC:=Hd hc;have Hc:=Hd (Hi.o.trans (qN hc));clear hc;have hq:l.length<=1000:=by have:=Ha.o.2.2;omega
    go_wp2_with (first
     | (at_builtin;have hg:=(Hq.o.alloc (.cells #[intV a3] 3)).drop;refine aB (news:=[a3]) rfl (.tmp 12) (.tmp 16) rfl rfl (He.o.own _ hg.own.left) rfl (cP _ _ _) (by omega) (by have:=hg.lt;omega) ?_;intro a9 c9 w9 l9 Hl hm hd ha hf;obtain⟨K9,hi,hl⟩:=hg.appended He.o hd ha hf;have Hk:=Hd hi;have Hg:=Hd hl;clear hg hd ha hf hi hl)
     | (go_at_call 177;refine(fB HE.o Hb.o iW HC.o).mono ?_;rintro e w2 ⟨rfl,hp⟩;have Hf:=Hd hp;clear hp)
     | (go_at_call 175;refine(HR.o sk.take (by have:=Ha.o.1;simp only[PS.take];omega) _ _ _ Hf.o).mono ?_;rintro e w3 (⟨ps,hr,rfl,hb⟩|⟨a3,s3,hr,rfl,hn,hp⟩);(exact⟨rfl,.er (zi Hc.o hr) hb⟩);have Hs:=Hd (zh Hc.o hr);have Hq:=Hd (hp.less (Nat.le_succ d));have Hn:=Hd hn;clear hr hn hp))
    have ht:sk.next+1<=s3.next:=Hn.o
    go_roundw
    case rel=>exact⟨a9,c9,l9,s3,f,K9,rfl,by rw[Hl.o];exact Hs,Hd ⟨by have:=Ha.o.1;omega,by have:=Ha.o.2.1;omega,by have:=Ha.o.2.2;omega⟩,Hk,Hg⟩
    case measure=>rw[Hg.o.meas,HM.o];omega
theorem mU{c:PC}(he:OkC c){rd:RdP}{s:PS}(hrd:∀s',s.next<=s'.next->zt c 179 rd s'){F:List (Nat×Obj)}{d:Nat}{X:World}(h:PQ c s F d X) :
 Calls prog 174 #[c.ptr,.func (.func 179) #[] #[]] X (RdL c F d s.next (jO rd c.E s)):=by
 have HE:=Hd he;have HR:=Hd hrd;have Ho:=Hd h;have hj:=he.many;obtain⟨S,hS⟩:∃S,jO rd c.E s=S:=⟨_,rfl⟩
 rw[hS];unfold jO at hS;have Hh:=Hd hS.symm;have ho:=h.next;clear he hrd h hS;go_enter func174,ntmps174
 go_wp2_with (go_at_call 179;refine(HR.o s nlr _ _ _ Ho.o).mono ?_;rintro e w1 (⟨ps,hr,rfl,hb⟩|⟨a1,s1,hr,rfl,hn,hp⟩);(exact⟨rfl,.er (zi Hh.o hr) hb⟩);have Hr:=Hd (zh Hh.o hr);obtain⟨K1,hh,hk⟩:=hp.made a1 rfl;have Hj:=Hd hh;have Hp:=Hd hk;have Hm:=Hd hn;clear hr hn hp hh hk)
 go_loopw [5] (fun t5 wr=>∃(a:Option Addr) (cp:Nat) (l:List Int) (sk:PS) (f:Nat) (K:List (Nat×Obj)),t5=.slice a l.length cp/\Hid (S=nE rd c.E f l sk)/\Hid (s.next<=sk.next/\c.E.toks.length+1<=f+sk.next/\l.length<=sk.next+1)/\Hid (KL c K a cp l)/\Hid (PQ c sk (K++F) d wr)) (fun _ wr=>mG c wr)
 case atStart=>exact⟨_,_,[a1],s1,_,K1,rfl,Hr,Hd ⟨Hm.o,by simp,by simp⟩,Hj,Hp⟩
 case round=>
  obtain⟨a,cp,l,sk,f,K,rfl,Hi,Ha,He,Hb⟩:=hrel;have hu:=Hb.o.next;have HM:=Hd Hb.o.meas
  cases hc:isP c.E sk iW with
  | false=>
    have HC:=Hd hc;have Hc:=Hd (Hi.o.trans (tM hc));clear hc
    go_wp2_with (go_at_call 177;refine(cU HE.o Hb.o iW HC.o).mono ?_;rintro e w2 ⟨rfl,hp⟩;have Hf:=Hd hp;clear hp)
    go_ret;exact .inr ⟨l,sk,a,cp,K,Hc.o,rfl,Ha.o.1,Ha.o.2.2,He.o,Hf.o⟩
  | true=>
    have hs:=eX hc;obtain⟨f,rfl⟩:∃g,f=g+1:=⟨f-1,by have:=Ha.o.2.1;omega⟩
    have HC:=Hd hc;have Hc:=Hd (Hi.o.trans (qN hc));clear hc;have hq:l.length<=1000:=by have:=Ha.o.2.2;omega
    go_wp2_with (first
     | (at_builtin;have hg:=(Hq.o.alloc (.cells #[intV a3] 3)).drop;refine aB (news:=[a3]) rfl (.tmp 12) (.tmp 16) rfl rfl (He.o.own _ hg.own.left) rfl (cP _ _ _) (by omega) (by have:=hg.lt;omega) ?_;intro a9 c9 w9 l9 Hl hm hd ha hf;obtain⟨K9,hi,hl⟩:=hg.appended He.o hd ha hf;have Hk:=Hd hi;have Hg:=Hd hl;clear hg hd ha hf hi hl)
     | (go_at_call 177;refine(fB HE.o Hb.o iW HC.o).mono ?_;rintro e w2 ⟨rfl,hp⟩;have Hf:=Hd hp;clear hp)
     | (go_at_call 179;refine(HR.o sk.take (by have:=Ha.o.1;simp only[PS.take];omega) _ _ _ Hf.o).mono ?_;rintro e w3 (⟨ps,hr,rfl,hb⟩|⟨a3,s3,hr,rfl,hn,hp⟩);(exact⟨rfl,.er (zi Hc.o hr) hb⟩);have Hs:=Hd (zh Hc.o hr);have Hq:=Hd (hp.less (Nat.le_succ d));have Hn:=Hd hn;clear hr hn hp))
    have ht:sk.next+1<=s3.next:=Hn.o
    go_roundw
    case rel=>exact⟨a9,c9,l9,s3,f,K9,rfl,by rw[Hl.o];exact Hs,Hd ⟨by have:=Ha.o.1;omega,by have:=Ha.o.2.1;omega,by have:=Ha.o.2.2;omega⟩,Hk,Hg⟩
    case measure=>rw[Hg.o.meas,HM.o];omega
theorem GL{c:PC}(he:OkC c){rd:RdP}{s:PS}(hrd:∀s',s.next<=s'.next->zt c 214 rd s'){F:List (Nat×Obj)}{d:Nat}{X:World}(h:PQ c s F d X) :
 Calls prog 174 #[c.ptr,.func (.func 214) #[] #[]] X (RdL c F d s.next (jO rd c.E s)):=by
 have HE:=Hd he;have HR:=Hd hrd;have Ho:=Hd h;have hj:=he.many;obtain⟨S,hS⟩:∃S,jO rd c.E s=S:=⟨_,rfl⟩
 rw[hS];unfold jO at hS;have Hh:=Hd hS.symm;have ho:=h.next;clear he hrd h hS;go_enter func174,ntmps174
 go_wp2_with (go_at_call 214;refine(HR.o s nlr _ _ _ Ho.o).mono ?_;rintro e w1 (⟨ps,hr,rfl,hb⟩|⟨a1,s1,hr,rfl,hn,hp⟩);(exact⟨rfl,.er (zi Hh.o hr) hb⟩);have Hr:=Hd (zh Hh.o hr);obtain⟨K1,hh,hk⟩:=hp.made a1 rfl;have Hj:=Hd hh;have Hp:=Hd hk;have Hm:=Hd hn;clear hr hn hp hh hk)
 go_loopw [5] (fun t5 wr=>∃(a:Option Addr) (cp:Nat) (l:List Int) (sk:PS) (f:Nat) (K:List (Nat×Obj)),t5=.slice a l.length cp/\Hid (S=nE rd c.E f l sk)/\Hid (s.next<=sk.next/\c.E.toks.length+1<=f+sk.next/\l.length<=sk.next+1)/\Hid (KL c K a cp l)/\Hid (PQ c sk (K++F) d wr)) (fun _ wr=>mG c wr)
 case atStart=>exact⟨_,_,[a1],s1,_,K1,rfl,Hr,Hd ⟨Hm.o,by simp,by simp⟩,Hj,Hp⟩
 case round=>
  obtain⟨a,cp,l,sk,f,K,rfl,Hi,Ha,He,Hb⟩:=hrel;have hu:=Hb.o.next;have HM:=Hd Hb.o.meas
  cases hc:isP c.E sk iW with
  | false=>
    have HC:=Hd hc;have Hc:=Hd (Hi.o.trans (tM hc));clear hc
    go_wp2_with (go_at_call 177;refine(cU HE.o Hb.o iW HC.o).mono ?_;rintro e w2 ⟨rfl,hp⟩;have Hf:=Hd hp;clear hp)
    go_ret;exact .inr ⟨l,sk,a,cp,K,Hc.o,rfl,Ha.o.1,Ha.o.2.2,He.o,Hf.o⟩
  | true=>
    have hs:=eX hc;obtain⟨f,rfl⟩:∃g,f=g+1:=⟨f-1,by have:=Ha.o.2.1;omega⟩
    have HC:=Hd hc;have Hc:=Hd (Hi.o.trans (qN hc));clear hc;have hq:l.length<=1000:=by have:=Ha.o.2.2;omega
    go_wp2_with (first
     | (at_builtin;have hg:=(Hq.o.alloc (.cells #[intV a3] 3)).drop;refine aB (news:=[a3]) rfl (.tmp 12) (.tmp 16) rfl rfl (He.o.own _ hg.own.left) rfl (cP _ _ _) (by omega) (by have:=hg.lt;omega) ?_;intro a9 c9 w9 l9 Hl hm hd ha hf;obtain⟨K9,hi,hl⟩:=hg.appended He.o hd ha hf;have Hk:=Hd hi;have Hg:=Hd hl;clear hg hd ha hf hi hl)
     | (go_at_call 177;refine(fB HE.o Hb.o iW HC.o).mono ?_;rintro e w2 ⟨rfl,hp⟩;have Hf:=Hd hp;clear hp)
     | (go_at_call 214;refine(HR.o sk.take (by have:=Ha.o.1;simp only[PS.take];omega) _ _ _ Hf.o).mono ?_;rintro e w3 (⟨ps,hr,rfl,hb⟩|⟨a3,s3,hr,rfl,hn,hp⟩);(exact⟨rfl,.er (zi Hc.o hr) hb⟩);have Hs:=Hd (zh Hc.o hr);have Hq:=Hd (hp.less (Nat.le_succ d));have Hn:=Hd hn;clear hr hn hp))
    have ht:sk.next+1<=s3.next:=Hn.o
    go_roundw
    case rel=>exact⟨a9,c9,l9,s3,f,K9,rfl,by rw[Hl.o];exact Hs,Hd ⟨by have:=Ha.o.1;omega,by have:=Ha.o.2.1;omega,by have:=Ha.o.2.2;omega⟩,Hk,Hg⟩
    case measure=>rw[Hg.o.meas,HM.o];omega
theorem OT{c:PC}(he:OkC c){kindOf:RdP}{s:PS}(hkindOf:∀s',s.next<s'.next->zt c 176 kindOf s'):zt c 175 (wC kindOf c.E) s:=by
 intro F d X h;have HE:=Hd he;have Ha:=Hd hkindOf;have Ho:=Hd h;have Hk:Hid (s.next<=s.next):=Hd nlr;obtain⟨S,hS⟩:∃S,wC kindOf c.E s=S:=⟨_,rfl⟩
 try rw[hS]
 unfold wC at hS;obtain⟨T,hT⟩:∃T,zg c.E s=T:=⟨_,rfl⟩
 rw[hT]at hS;have HT:=Hd hT;clear he h hkindOf;have ha:prog.follows .mixedOrders=true:=by kernel_rfl
 have Hh:=Hd hS.symm;clear hS hT;go_enter func175,ntmps175
 go_wp2_with (first
  | (go_at_call 110;refine(aX HE.o Hf.o _).mono ?_;rintro e w2 (⟨ps,hr,rfl,hb⟩|⟨hr,-,rfl,hp⟩);(exact⟨rfl,.er (zi Hi.o hr) hb⟩);have Hj:=Hd (zh Hi.o hr);have Hb:=Hd hp;clear hp hr;have He:Hid (s.next<_):=Hd (Nat.lt_succ_of_le (Nat.le_of_lt Hl.o));obtain⟨c2_00,c2_01,c2_02⟩:=Hb.o.own.tk (b:=w1.heap.size) (t:=T) (by simp);)
  | (go_at_call 171;refine(jC HE.o Ho.o).mono ?_;rintro e w1 (⟨ps,hr,rfl,hb⟩|⟨hr,-,he,hp⟩);(exact⟨rfl,.er (zi Hh.o hr) hb⟩);have q:=zh Hh.o hr;rw[HT.o]at he;subst he;have Hi:=Hd q;have Hf:=Hd (hp.alloc (tkO T));clear hp hr q;have Hl:Hid (s.next<_):=Hd (Nat.lt_succ_of_le Hk.o);obtain⟨c1_00,c1_01,c1_02⟩:=Hf.o.own.tk (b:=w1.heap.size) (t:=T) (by simp);))
 refine N.region_C [false,false,false,false,false,true,true,true,true] [?vC1_0,?vC1_1,?vC1_2,?vC1_3,?vC1_4,undef,undef,undef,undef] ha (by kernel_rfl) (by kernel_rfl) (by kernel_rfl) (by kernel_rfl) rfl rfl (fun ch w=>RdI c F d s.next S (.panicked ch) w) (fun ch b w hd h=>⟨hd,h⟩) (fun Wz=>Wz.heap[w1.heap.size]?=some (tkO T)) (Hb.o.drew.own (w1.heap.size,tkO T) (by simp)) ?wC1_ ?_
 case wC1_=>
  iterate 5 (refine N.WalkC.still (N.StillP.known rfl ?_) ?_;(intro W hJ;have j00:=za (i:=0) hJ rfl;have j01:=za (i:=1) hJ rfl;have j02:=za (i:=2) hJ rfl;go_simp;rfl);simp only[N.pz])
  refine N.WalkC.chain fun u5=>?_;simp only[N.pz];refine N.WalkC.chain fun u6=>?_;simp only[N.pz];refine N.WalkC.chain fun u7=>?_;simp only[N.pz];refine N.WalkC.chain fun u8=>?_;simp only[N.pz];exact .nil
 iterate 5 (refine N.TailC.still ?_;simp only[N.pz])
 refine N.TailC.call (f:=176) (args:=#[c.ptr]) rfl ?a5 ?_;case a5=>go_simp;try rfl
 refine(Ha.o _ He.o _ _ _ Hb.o.drew).mono ?_;rintro e w3 (⟨ps,hr,rfl,hb⟩|⟨a3,s3,hr,rfl,hn,hp⟩)
 .exact .inr ⟨_,rfl,.er (zi Hj.o hr) hb⟩
 have Hp:=Hd (zh Hj.o hr);have Hc:=Hd hp;have Hm:=Hd (Nat.lt_of_lt_of_le He.o hn);clear hp hn hr;refine .inl ⟨_,rfl,(fun _=>Hc.o.own (w1.heap.size,tkO T) (by simp)),?_⟩;simp only[N.pz];refine N.TailC.run (v:=.slice (some ⟨w3.heap.size,0,none⟩) 1 1) (w':=w3.alloc (.cells #[intV a3] 3)) rfl ?a6 (fun _=>(Hc.o.alloc _).drop.own (w1.heap.size,tkO T) (by simp)) ?b6;case a6=>go_simp;try rfl
 simp only[N.pz];refine N.TailC.call (f:=173) (args:=#[c.ptr,.int .u8 34,tkA T,strV T.text,intV 0,.slice (some ⟨w3.heap.size,0,none⟩) 1 1]) rfl ?a7 ?_;case a7=>go_simp;try rfl
 refine(kQ HE.o Hc.o 34 T T.text 0 [a3] rfl).mono ?_;rintro e w4⟨rfl,hp⟩;have Hg:=Hd hp;have Hq:=Hp;have Hn:=Hm;clear hp;refine .inl ⟨_,rfl,(fun _=>Hg.o.own (w1.heap.size,tkO T) (by simp)),?_⟩;simp only[N.pz];refine N.TailC.run (v:=intV s3.nodes.length) (w':=w4) rfl ?a8 (fun h=>absurd rfl h) ?b8;case a8=>go_simp;try rfl
 simp only[N.pz];refine N.TailC.nil ?_;go_wp2;go_ret;exact .ok Hq.o (Nat.le_of_lt Hn.o) ((Hg.o.drop).less (by omega))
theorem RY{c:PC}(he:OkC c){expr:RdP}{s:PS}(hexpr:∀s',s.next<s'.next->zt c 179 expr s'):zt c 214 (putP expr c.E) s:=by
 intro F d X h;have HE:=Hd he;have Ha:=Hd hexpr;have Ho:=Hd h;have Hk:Hid (s.next<=s.next):=Hd nlr;obtain⟨S,hS⟩:∃S,putP expr c.E s=S:=⟨_,rfl⟩
 try rw[hS]
 unfold putP at hS;obtain⟨T,hT⟩:∃T,zg c.E s=T:=⟨_,rfl⟩
 rw[hT]at hS;have HT:=Hd hT;clear he h hexpr;have ha:prog.follows .mixedOrders=true:=by kernel_rfl
 have Hh:=Hd hS.symm;clear hS hT;go_enter func214,ntmps214
 go_wp2_with (first
  | (go_at_call 110;refine(aX HE.o Hf.o _).mono ?_;rintro e w2 (⟨ps,hr,rfl,hb⟩|⟨hr,-,rfl,hp⟩);(exact⟨rfl,.er (zi Hi.o hr) hb⟩);have Hj:=Hd (zh Hi.o hr);have Hb:=Hd hp;clear hp hr;have He:Hid (s.next<_):=Hd (Nat.lt_succ_of_le (Nat.le_of_lt Hl.o));obtain⟨c2_00,c2_01,c2_02⟩:=Hb.o.own.tk (b:=w1.heap.size) (t:=T) (by simp);)
  | (go_at_call 171;refine(jC HE.o Ho.o).mono ?_;rintro e w1 (⟨ps,hr,rfl,hb⟩|⟨hr,-,he,hp⟩);(exact⟨rfl,.er (zi Hh.o hr) hb⟩);have q:=zh Hh.o hr;rw[HT.o]at he;subst he;have Hi:=Hd q;have Hf:=Hd (hp.alloc (tkO T));clear hp hr q;have Hl:Hid (s.next<_):=Hd (Nat.lt_succ_of_le Hk.o);obtain⟨c1_00,c1_01,c1_02⟩:=Hf.o.own.tk (b:=w1.heap.size) (t:=T) (by simp);))
 refine N.region_C [false,false,false,false,false,true,true,true,true] [?vC2_0,?vC2_1,?vC2_2,?vC2_3,?vC2_4,undef,undef,undef,undef] ha (by kernel_rfl) (by kernel_rfl) (by kernel_rfl) (by kernel_rfl) rfl rfl (fun ch w=>RdI c F d s.next S (.panicked ch) w) (fun ch b w hd h=>⟨hd,h⟩) (fun Wz=>Wz.heap[w1.heap.size]?=some (tkO T)) (Hb.o.drew.own (w1.heap.size,tkO T) (by simp)) ?wC2_ ?_
 case wC2_=>
  iterate 5 (refine N.WalkC.still (N.StillP.known rfl ?_) ?_;(intro W hJ;have j00:=za (i:=0) hJ rfl;have j01:=za (i:=1) hJ rfl;have j02:=za (i:=2) hJ rfl;go_simp;rfl);simp only[N.pz])
  refine N.WalkC.chain fun u5=>?_;simp only[N.pz];refine N.WalkC.chain fun u6=>?_;simp only[N.pz];refine N.WalkC.chain fun u7=>?_;simp only[N.pz];refine N.WalkC.chain fun u8=>?_;simp only[N.pz];exact .nil
 iterate 5 (refine N.TailC.still ?_;simp only[N.pz])
 refine N.TailC.call (f:=179) (args:=#[c.ptr]) rfl ?a5 ?_;case a5=>go_simp;try rfl
 refine(Ha.o _ He.o _ _ _ Hb.o.drew).mono ?_;rintro e w3 (⟨ps,hr,rfl,hb⟩|⟨a3,s3,hr,rfl,hn,hp⟩)
 .exact .inr ⟨_,rfl,.er (zi Hj.o hr) hb⟩
 have Hp:=Hd (zh Hj.o hr);have Hc:=Hd hp;have Hm:=Hd (Nat.lt_of_lt_of_le He.o hn);clear hp hn hr;refine .inl ⟨_,rfl,(fun _=>Hc.o.own (w1.heap.size,tkO T) (by simp)),?_⟩;simp only[N.pz];refine N.TailC.run (v:=.slice (some ⟨w3.heap.size,0,none⟩) 1 1) (w':=w3.alloc (.cells #[intV a3] 3)) rfl ?a6 (fun _=>(Hc.o.alloc _).drop.own (w1.heap.size,tkO T) (by simp)) ?b6;case a6=>go_simp;try rfl
 simp only[N.pz];refine N.TailC.call (f:=173) (args:=#[c.ptr,.int .u8 25,tkA T,strV T.text,intV 0,.slice (some ⟨w3.heap.size,0,none⟩) 1 1]) rfl ?a7 ?_;case a7=>go_simp;try rfl
 refine(kQ HE.o Hc.o 25 T T.text 0 [a3] rfl).mono ?_;rintro e w4⟨rfl,hp⟩;have Hg:=Hd hp;have Hq:=Hp;have Hn:=Hm;clear hp;refine .inl ⟨_,rfl,(fun _=>Hg.o.own (w1.heap.size,tkO T) (by simp)),?_⟩;simp only[N.pz];refine N.TailC.run (v:=intV s3.nodes.length) (w':=w4) rfl ?a8 (fun h=>absurd rfl h) ?b8;case a8=>go_simp;try rfl
 simp only[N.pz];refine N.TailC.nil ?_;go_wp2;go_ret;exact .ok Hq.o (Nat.le_of_lt Hn.o) ((Hg.o.drop).less (by omega))
theorem RX{c:PC}(he:OkC c){below self:RdP}{s:PS}(hself:∀s',s.next<s'.next->zt c 206 self s')(hbelow:zt c 207 below s):zt c 206 (kX 5 wNot self below c.E) s:=by
 intro F d X h;have HE:=Hd he;have Hg:=Hd hself;have Ha:=Hd hbelow;have Ho:=Hd h;have Hn:Hid (s.next<=s.next):=Hd nlr;obtain⟨S,hS⟩:∃S,kX 5 wNot self below c.E s=S:=⟨_,rfl⟩
 try rw[hS]
 unfold kX at hS;obtain⟨T,hT⟩:∃T,zg c.E s=T:=⟨_,rfl⟩
 rw[hT]at hS;have HT:=Hd hT;clear he h hself hbelow;have ha:prog.follows .mixedOrders=true:=by kernel_rfl
 cases h1:isP c.E s wNot with
 | true=>
   simp only[h1,if_true,if_false,Bool.false_eq_true,ite_true,ite_false]at hS;have Hk:=Hd hS.symm;have H1:=Hd h1;clear hS hT h1;go_enter func206,ntmps206
   go_wp2_with (first
    | (go_at_call 177;refine(fB HE.o He.o _ H1.o).mono ?_;rintro e w2 ⟨rfl,hp⟩;have Hb:=Hd hp;clear hp;have Hh:Hid (s.next<_):=Hd (Nat.lt_succ_of_le Hi.o);have Hf:=Hl;obtain⟨c2_00,c2_01,c2_02⟩:=Hb.o.own.tk (b:=w1.heap.size) (t:=T) (by simp);)
    | (go_at_call 107;refine(zS HE.o Ho.o HT.o).mono ?_;rintro e w1 ⟨rfl,hp⟩;have He:=Hd (hp.alloc (tkO T));clear hp;have Hi:=Hn;have Hl:=Hk;obtain⟨c1_00,c1_01,c1_02⟩:=He.o.own.tk (b:=w1.heap.size) (t:=T) (by simp);))
   refine N.region_C [false,false,false,true,true,true,true] [?vC3_0,?vC3_1,?vC3_2,undef,undef,undef,undef] ha (by kernel_rfl) (by kernel_rfl) (by kernel_rfl) (by kernel_rfl) rfl rfl (fun ch w=>RdI c F d s.next S (.panicked ch) w) (fun ch b w hd h=>⟨hd,h⟩) (fun Wz=>Wz.heap[w1.heap.size]?=some (tkO T)) (Hb.o.drew.own (w1.heap.size,tkO T) (by simp)) ?wC3_ ?_
   case wC3_=>
    iterate 3 (refine N.WalkC.still (N.StillP.known rfl ?_) ?_;(intro W hJ;have j00:=za (i:=0) hJ rfl;have j01:=za (i:=1) hJ rfl;have j02:=za (i:=2) hJ rfl;go_simp;rfl);simp only[N.pz])
    refine N.WalkC.chain fun u3=>?_;simp only[N.pz];refine N.WalkC.chain fun u4=>?_;simp only[N.pz];refine N.WalkC.chain fun u5=>?_;simp only[N.pz];refine N.WalkC.chain fun u6=>?_;simp only[N.pz];exact .nil
   iterate 3 (refine N.TailC.still ?_;simp only[N.pz])
   refine N.TailC.call (f:=206) (args:=#[c.ptr]) rfl ?a3 ?_;case a3=>go_simp;try rfl
   refine(Hg.o _ Hh.o _ _ _ Hb.o.drew).mono ?_;rintro e w3 (⟨ps,hr,rfl,hb⟩|⟨a3,s3,hr,rfl,hn,hp⟩)
   .exact .inr ⟨_,rfl,.er (zi Hf.o hr) hb⟩
   have Hm:=Hd (zh Hf.o hr);have Hc:=Hd hp;have Hj:=Hd (Nat.lt_of_lt_of_le Hh.o hn);clear hp hn hr;refine .inl ⟨_,rfl,(fun _=>Hc.o.own (w1.heap.size,tkO T) (by simp)),?_⟩;simp only[N.pz];refine N.TailC.run (v:=.slice (some ⟨w3.heap.size,0,none⟩) 1 1) (w':=w3.alloc (.cells #[intV a3] 3)) rfl ?a4 (fun _=>(Hc.o.alloc _).drop.own (w1.heap.size,tkO T) (by simp)) ?b4;case a4=>go_simp;try rfl
   simp only[N.pz];refine N.TailC.call (f:=173) (args:=#[c.ptr,.int .u8 5,tkA T,strV [],intV 0,.slice (some ⟨w3.heap.size,0,none⟩) 1 1]) rfl ?a5 ?_;case a5=>go_simp;try rfl
   refine(kQ HE.o Hc.o 5 T [] 0 [a3] rfl).mono ?_;rintro e w4⟨rfl,hp⟩;have Hp:=Hd hp;have Hr:=Hm;have Hq:=Hj;clear hp;refine .inl ⟨_,rfl,(fun _=>Hp.o.own (w1.heap.size,tkO T) (by simp)),?_⟩;simp only[N.pz];refine N.TailC.run (v:=intV s3.nodes.length) (w':=w4) rfl ?a6 (fun h=>absurd rfl h) ?b6;case a6=>go_simp;try rfl
   simp only[N.pz];refine N.TailC.nil ?_;go_wp2;go_ret;exact .ok Hr.o (Nat.le_of_lt Hq.o) ((Hp.o.drop).less (by omega))
 | false=>
   simp only[h1,if_true,if_false,Bool.false_eq_true,ite_true,ite_false]at hS;have Hk:=Hd hS.symm;have H1:=Hd h1;clear hS hT h1;go_enter func206,ntmps206
   go_wp2_with (first
    | (go_at_call 207;refine(Ha.o _ _ _ Hb.o).mono ?_;rintro e w3 (⟨ps,hr,rfl,hb⟩|⟨a3,s3,hr,rfl,hn,hp⟩);(exact⟨rfl,.er (Hf.o.trans hr) hb⟩);have Hm:=Hd (Hf.o.trans hr);have Hc:=Hd hp;clear hp hr;have Hj:=Hd (Nat.le_trans Hh.o hn);clear hn;obtain⟨c3_00,c3_01,c3_02⟩:=Hc.o.own.tk (b:=w1.heap.size) (t:=T) (by simp);)
    | (go_at_call 177;refine(cU HE.o He.o _ H1.o).mono ?_;rintro e w2 ⟨rfl,hp⟩;have Hb:=Hd hp;clear hp;have Hh:=Hi;have Hf:=Hl;obtain⟨c2_00,c2_01,c2_02⟩:=Hb.o.own.tk (b:=w1.heap.size) (t:=T) (by simp);)
    | (go_at_call 107;refine(zS HE.o Ho.o HT.o).mono ?_;rintro e w1 ⟨rfl,hp⟩;have He:=Hd (hp.alloc (tkO T));clear hp;have Hi:=Hn;have Hl:=Hk;obtain⟨c1_00,c1_01,c1_02⟩:=He.o.own.tk (b:=w1.heap.size) (t:=T) (by simp);))
   go_ret;exact .ok Hm.o Hj.o ((Hc.o.drop).less (by omega))
theorem OU{c:PC}(he:OkC c){below self:RdP}{s:PS}(hself:∀s',s.next<s'.next->zt c 210 self s')(hbelow:zt c 211 below s):zt c 210 (kX 4 rD self below c.E) s:=by
 intro F d X h;have HE:=Hd he;have Hg:=Hd hself;have Ha:=Hd hbelow;have Ho:=Hd h;have Hn:Hid (s.next<=s.next):=Hd nlr;obtain⟨S,hS⟩:∃S,kX 4 rD self below c.E s=S:=⟨_,rfl⟩
 try rw[hS]
 unfold kX at hS;obtain⟨T,hT⟩:∃T,zg c.E s=T:=⟨_,rfl⟩
 rw[hT]at hS;have HT:=Hd hT;clear he h hself hbelow;have ha:prog.follows .mixedOrders=true:=by kernel_rfl
 cases h1:isP c.E s rD with
 | true=>
   simp only[h1,if_true,if_false,Bool.false_eq_true,ite_true,ite_false]at hS;have Hk:=Hd hS.symm;have H1:=Hd h1;clear hS hT h1;go_enter func210,ntmps210
   go_wp2_with (first
    | (go_at_call 177;refine(fB HE.o He.o _ H1.o).mono ?_;rintro e w2 ⟨rfl,hp⟩;have Hb:=Hd hp;clear hp;have Hh:Hid (s.next<_):=Hd (Nat.lt_succ_of_le Hi.o);have Hf:=Hl;obtain⟨c2_00,c2_01,c2_02⟩:=Hb.o.own.tk (b:=w1.heap.size) (t:=T) (by simp);)
    | (go_at_call 107;refine(zS HE.o Ho.o HT.o).mono ?_;rintro e w1 ⟨rfl,hp⟩;have He:=Hd (hp.alloc (tkO T));clear hp;have Hi:=Hn;have Hl:=Hk;obtain⟨c1_00,c1_01,c1_02⟩:=He.o.own.tk (b:=w1.heap.size) (t:=T) (by simp);))
   refine N.region_C [false,false,false,true,true,true,true] [?vC4_0,?vC4_1,?vC4_2,undef,undef,undef,undef] ha (by kernel_rfl) (by kernel_rfl) (by kernel_rfl) (by kernel_rfl) rfl rfl (fun ch w=>RdI c F d s.next S (.panicked ch) w) (fun ch b w hd h=>⟨hd,h⟩) (fun Wz=>Wz.heap[w1.heap.size]?=some (tkO T)) (Hb.o.drew.own (w1.heap.size,tkO T) (by simp)) ?wC4_ ?_
   case wC4_=>
    iterate 3 (refine N.WalkC.still (N.StillP.known rfl ?_) ?_;(intro W hJ;have j00:=za (i:=0) hJ rfl;have j01:=za (i:=1) hJ rfl;have j02:=za (i:=2) hJ rfl;go_simp;rfl);simp only[N.pz])
    refine N.WalkC.chain fun u3=>?_;simp only[N.pz];refine N.WalkC.chain fun u4=>?_;simp only[N.pz];refine N.WalkC.chain fun u5=>?_;simp only[N.pz];refine N.WalkC.chain fun u6=>?_;simp only[N.pz];exact .nil
   iterate 3 (refine N.TailC.still ?_;simp only[N.pz])
   refine N.TailC.call (f:=210) (args:=#[c.ptr]) rfl ?a3 ?_;case a3=>go_simp;try rfl
   refine(Hg.o _ Hh.o _ _ _ Hb.o.drew).mono ?_;rintro e w3 (⟨ps,hr,rfl,hb⟩|⟨a3,s3,hr,rfl,hn,hp⟩)
   .exact .inr ⟨_,rfl,.er (zi Hf.o hr) hb⟩
   have Hm:=Hd (zh Hf.o hr);have Hc:=Hd hp;have Hj:=Hd (Nat.lt_of_lt_of_le Hh.o hn);clear hp hn hr;refine .inl ⟨_,rfl,(fun _=>Hc.o.own (w1.heap.size,tkO T) (by simp)),?_⟩;simp only[N.pz];refine N.TailC.run (v:=.slice (some ⟨w3.heap.size,0,none⟩) 1 1) (w':=w3.alloc (.cells #[intV a3] 3)) rfl ?a4 (fun _=>(Hc.o.alloc _).drop.own (w1.heap.size,tkO T) (by simp)) ?b4;case a4=>go_simp;try rfl
   simp only[N.pz];refine N.TailC.call (f:=173) (args:=#[c.ptr,.int .u8 4,tkA T,strV [],intV 0,.slice (some ⟨w3.heap.size,0,none⟩) 1 1]) rfl ?a5 ?_;case a5=>go_simp;try rfl
   refine(kQ HE.o Hc.o 4 T [] 0 [a3] rfl).mono ?_;rintro e w4⟨rfl,hp⟩;have Hp:=Hd hp;have Hr:=Hm;have Hq:=Hj;clear hp;refine .inl ⟨_,rfl,(fun _=>Hp.o.own (w1.heap.size,tkO T) (by simp)),?_⟩;simp only[N.pz];refine N.TailC.run (v:=intV s3.nodes.length) (w':=w4) rfl ?a6 (fun h=>absurd rfl h) ?b6;case a6=>go_simp;try rfl
   simp only[N.pz];refine N.TailC.nil ?_;go_wp2;go_ret;exact .ok Hr.o (Nat.le_of_lt Hq.o) ((Hp.o.drop).less (by omega))
 | false=>
   simp only[h1,if_true,if_false,Bool.false_eq_true,ite_true,ite_false]at hS;have Hk:=Hd hS.symm;have H1:=Hd h1;clear hS hT h1;go_enter func210,ntmps210
   go_wp2_with (first
    | (go_at_call 211;refine(Ha.o _ _ _ Hb.o).mono ?_;rintro e w3 (⟨ps,hr,rfl,hb⟩|⟨a3,s3,hr,rfl,hn,hp⟩);(exact⟨rfl,.er (Hf.o.trans hr) hb⟩);have Hm:=Hd (Hf.o.trans hr);have Hc:=Hd hp;clear hp hr;have Hj:=Hd (Nat.le_trans Hh.o hn);clear hn;obtain⟨c3_00,c3_01,c3_02⟩:=Hc.o.own.tk (b:=w1.heap.size) (t:=T) (by simp);)
    | (go_at_call 177;refine(cU HE.o He.o _ H1.o).mono ?_;rintro e w2 ⟨rfl,hp⟩;have Hb:=Hd hp;clear hp;have Hh:=Hi;have Hf:=Hl;obtain⟨c2_00,c2_01,c2_02⟩:=Hb.o.own.tk (b:=w1.heap.size) (t:=T) (by simp);)
    | (go_at_call 107;refine(zS HE.o Ho.o HT.o).mono ?_;rintro e w1 ⟨rfl,hp⟩;have He:=Hd (hp.alloc (tkO T));clear hp;have Hi:=Hn;have Hl:=Hk;obtain⟨c1_00,c1_01,c1_02⟩:=He.o.own.tk (b:=w1.heap.size) (t:=T) (by simp);))
   go_ret;exact .ok Hm.o Hj.o ((Hc.o.drop).less (by omega))
theorem uY{c:PC}(he:OkC c){s:PS}:zt c 172 (iM c.E) s:=by
 intro F d X h;have HE:=Hd he;have Hp:=Hd h;have Ho:Hid (s.next<=s.next):=Hd nlr;obtain⟨S,hS⟩:∃S,iM c.E s=S:=⟨_,rfl⟩
 try rw[hS]
 unfold iM at hS;obtain⟨T,hT⟩:∃T,zg c.E s=T:=⟨_,rfl⟩
 rw[hT]at hS;have HT:=Hd hT;clear he h;have hd:prog.follows .mixedOrders=true:=by kernel_rfl
 cases h1:isP c.E s rD with
 | true=>
   simp only[h1,if_true,if_false,Bool.false_eq_true,ite_true,ite_false]at hS;have Hk:=Hd hS.symm;have H1:=Hd h1;clear hS hT h1;go_enter func172,ntmps172
   go_wp2_with (first
    | (go_at_call 173;refine(QAdd0 HE.o Ha.o 1 T [] _).mono ?_;rintro e w4 ⟨rfl,hp⟩;have Hj:=Hd hp;clear hp;have Hi:=Hh;have Hn:=Hm;)
    | (go_at_call 178;refine(kC HE.o Hc.o).mono ?_;rintro e w3 (⟨ps,hr,rfl,hb⟩|⟨hr,-,he,ha,hc,hp⟩);(exact⟨rfl,.er (zi He.o hr) hb⟩);have q:=zh He.o hr;subst he;obtain⟨U,hU⟩:∃y,zg c.E s.take=y:=⟨_,rfl⟩;rw[hU];rw[hU]at q ha hc;have HU:=Hd hU;clear hU;obtain⟨v,hv⟩:∃v,valP U.text=v:=⟨_,rfl⟩;rw[hv]at q ha hc;rw[hv];clear hv;(try simp only[Int.neg_mul,Int.one_mul]at q);have Hm:=Hd q;have Ha:=Hd (hp.alloc (tkO U));clear hp hr q;have Hh:Hid (s.next<_):=Hd (Nat.lt_succ_of_le (Nat.le_of_lt Hg.o));obtain⟨c3_00,c3_01,c3_02⟩:=Ha.o.own.tk (b:=w3.heap.size) (t:=U) (by simp);obtain⟨c3_10,c3_11,c3_12⟩:=Ha.o.own.tk (b:=w1.heap.size) (t:=T) (by simp);)
    | (go_at_call 177;refine(fB HE.o Hb.o _ H1.o).mono ?_;rintro e w2 ⟨rfl,hp⟩;have Hc:=Hd hp;clear hp;have Hg:Hid (s.next<_):=Hd (Nat.lt_succ_of_le Hf.o);have He:=Hl;obtain⟨c2_00,c2_01,c2_02⟩:=Hc.o.own.tk (b:=w1.heap.size) (t:=T) (by simp);)
    | (go_at_call 107;refine(zS HE.o Hp.o HT.o).mono ?_;rintro e w1 ⟨rfl,hp⟩;have Hb:=Hd (hp.alloc (tkO T));clear hp;have Hf:=Ho;have Hl:=Hk;obtain⟨c1_00,c1_01,c1_02⟩:=Hb.o.own.tk (b:=w1.heap.size) (t:=T) (by simp);))
   go_ret;exact .ok Hn.o (Nat.le_of_lt Hi.o) ((Hj.o.drop.drop).less (by omega))
 | false=>
   simp only[h1,if_true,if_false,Bool.false_eq_true,ite_true,ite_false]at hS;have Hk:=Hd hS.symm;have H1:=Hd h1;clear hS hT h1;go_enter func172,ntmps172
   go_wp2_with (first
    | (go_at_call 173;refine(QAdd0 HE.o Ha.o 1 T [] _).mono ?_;rintro e w4 ⟨rfl,hp⟩;have Hj:=Hd hp;clear hp;have Hi:=Hh;have Hn:=Hm;)
    | (go_at_call 178;refine(kC HE.o Hc.o).mono ?_;rintro e w3 (⟨ps,hr,rfl,hb⟩|⟨hr,-,he,ha,hc,hp⟩);(exact⟨rfl,.er (zi He.o hr) hb⟩);have q:=zh He.o hr;rw[HT.o]at he ha hc;subst he;obtain⟨v,hv⟩:∃v,valP T.text=v:=⟨_,rfl⟩;rw[hv]at q ha hc;rw[hv];clear hv;(try simp only[Int.neg_mul,Int.one_mul]at q);have Hm:=Hd q;have Ha:=Hd (hp.alloc (tkO T));clear hp hr q;have Hh:Hid (s.next<_):=Hd (Nat.lt_succ_of_le Hg.o);obtain⟨c3_00,c3_01,c3_02⟩:=Ha.o.own.tk (b:=w3.heap.size) (t:=T) (by simp);obtain⟨c3_10,c3_11,c3_12⟩:=Ha.o.own.tk (b:=w1.heap.size) (t:=T) (by simp);)
    | (go_at_call 177;refine(cU HE.o Hb.o _ H1.o).mono ?_;rintro e w2 ⟨rfl,hp⟩;have Hc:=Hd hp;clear hp;have Hg:=Hf;have He:=Hl;obtain⟨c2_00,c2_01,c2_02⟩:=Hc.o.own.tk (b:=w1.heap.size) (t:=T) (by simp);)
    | (go_at_call 107;refine(zS HE.o Hp.o HT.o).mono ?_;rintro e w1 ⟨rfl,hp⟩;have Hb:=Hd (hp.alloc (tkO T));clear hp;have Hf:=Ho;have Hl:=Hk;obtain⟨c1_00,c1_01,c1_02⟩:=Hb.o.own.tk (b:=w1.heap.size) (t:=T) (by simp);))
   go_ret;exact .ok Hn.o (Nat.le_of_lt Hi.o) ((Hj.o.drop.drop).less (by omega))
theorem LO{c:PC}(he:OkC c){kindOf:RdP}{s:PS}(hkindOf:∀s',s.next<s'.next->zt c 176 kindOf s'):zt c 176 (nD kindOf c.E) s:=by
 intro F d X h;have HE:=Hd he;have He:=Hd hkindOf;have Hs:=Hd h;have Hr:Hid (s.next<=s.next):=Hd nlr;obtain⟨S,hS⟩:∃S,nD kindOf c.E s=S:=⟨_,rfl⟩
 try rw[hS]
 unfold nD at hS;obtain⟨T,hT⟩:∃T,zg c.E s=T:=⟨_,rfl⟩
 rw[hT]at hS;have HT:=Hd hT;clear he h hkindOf;have hf:prog.follows .mixedOrders=true:=by kernel_rfl
 cases h1:isP c.E s wInt with
 | true=>
   simp only[h1,if_true,if_false,Bool.false_eq_true,ite_true,ite_false]at hS;have Hj:=Hd hS.symm;have H1:=Hd h1;clear hS hT h1;go_enter func176,ntmps176
   go_wp2_with (first
    | (go_at_call 173;refine(QAdd0 HE.o Hb.o 30 T [] 0).mono ?_;rintro e w3 ⟨rfl,hp⟩;have Hc:=Hd hp;clear hp;have Hi:=Hh;have Hm:=Hl;)
    | (go_at_call 177;refine(fB HE.o Ha.o _ H1.o).mono ?_;rintro e w2 ⟨rfl,hp⟩;have Hb:=Hd hp;clear hp;have Hh:Hid (s.next<_):=Hd (Nat.lt_succ_of_le Hg.o);have Hl:=Hk;obtain⟨c2_00,c2_01,c2_02⟩:=Hb.o.own.tk (b:=w1.heap.size) (t:=T) (by simp);)
    | (go_at_call 107;refine(zS HE.o Hs.o HT.o).mono ?_;rintro e w1 ⟨rfl,hp⟩;have Ha:=Hd (hp.alloc (tkO T));clear hp;have Hg:=Hr;have Hk:=Hj;obtain⟨c1_00,c1_01,c1_02⟩:=Ha.o.own.tk (b:=w1.heap.size) (t:=T) (by simp);))
   go_ret;exact .ok Hm.o (Nat.le_of_lt Hi.o) ((Hc.o.drop).less (by omega))
 | false=>
   cases h2:isP c.E s RP with
   | true=>
     simp only[h1,h2,if_true,if_false,Bool.false_eq_true,ite_true,ite_false]at hS;have Hj:=Hd hS.symm;have H1:=Hd h1;have H2:=Hd h2;clear hS hT h1 h2;go_enter func176,ntmps176
     go_wp2_with (first
      | (go_at_call 173;refine(QAdd0 HE.o Hc.o 31 T [] 0).mono ?_;rintro e w4 ⟨rfl,hp⟩;have Hf:=Hd hp;clear hp;have Ho:=Hi;have Hn:=Hm;)
      | (go_at_call 177;refine(fB HE.o Hb.o _ H2.o).mono ?_;rintro e w3 ⟨rfl,hp⟩;have Hc:=Hd hp;clear hp;have Hi:Hid (s.next<_):=Hd (Nat.lt_succ_of_le Hh.o);have Hm:=Hl;obtain⟨c3_00,c3_01,c3_02⟩:=Hc.o.own.tk (b:=w1.heap.size) (t:=T) (by simp);)
      | (go_at_call 177;refine(cU HE.o Ha.o _ H1.o).mono ?_;rintro e w2 ⟨rfl,hp⟩;have Hb:=Hd hp;clear hp;have Hh:=Hg;have Hl:=Hk;obtain⟨c2_00,c2_01,c2_02⟩:=Hb.o.own.tk (b:=w1.heap.size) (t:=T) (by simp);)
      | (go_at_call 107;refine(zS HE.o Hs.o HT.o).mono ?_;rintro e w1 ⟨rfl,hp⟩;have Ha:=Hd (hp.alloc (tkO T));clear hp;have Hg:=Hr;have Hk:=Hj;obtain⟨c1_00,c1_01,c1_02⟩:=Ha.o.own.tk (b:=w1.heap.size) (t:=T) (by simp);))
     go_ret;exact .ok Hn.o (Nat.le_of_lt Ho.o) ((Hf.o.drop).less (by omega))
   | false=>
     cases h3:isP c.E s jV with
     | true=>
       simp only[h1,h2,h3,if_true,if_false,Bool.false_eq_true,ite_true,ite_false]at hS;have Hj:=Hd hS.symm;have H1:=Hd h1;have H2:=Hd h2;have H3:=Hd h3;clear hS hT h1 h2 h3;go_enter func176,ntmps176
       go_wp2_with (first
        | (go_at_call 173;refine(kQ HE.o Hy.o 33 T [] v [a5] rfl).mono ?_;rintro e w9 ⟨rfl,hp⟩;have HD:=Hd hp;clear hp;have HC:=HB;have HG:=HF;)
        | (go_at_call 110;refine(aX HE.o Hx.o _).mono ?_;rintro e w8 (⟨ps,hr,rfl,hb⟩|⟨hr,-,rfl,hp⟩);(exact⟨rfl,.er (zi Hz.o hr) hb⟩);have HF:=Hd (zh Hz.o hr);have Hy:=Hd hp;clear hp hr;have HB:Hid (s.next<_):=Hd (Nat.lt_succ_of_le (Nat.le_of_lt HA.o));obtain⟨c8_00,c8_01,c8_02⟩:=Hy.o.own.tk (b:=w7.heap.size) (t:=U) (by simp);obtain⟨c8_10,c8_11,c8_12⟩:=Hy.o.own.tk (b:=w1.heap.size) (t:=T) (by simp);)
        | (go_at_call 178;refine(kC HE.o Hq.o).mono ?_;rintro e w7 (⟨ps,hr,rfl,hb⟩|⟨hr,-,he,ha,hc,hp⟩);(exact⟨rfl,.er (zi Hu.o hr) hb⟩);have q:=zh Hu.o hr;subst he;obtain⟨U,hU⟩:∃y,zg c.E s5.take=y:=⟨_,rfl⟩;rw[hU];rw[hU]at q ha hc;have HU:=Hd hU;clear hU;obtain⟨v,hv⟩:∃v,valP U.text=v:=⟨_,rfl⟩;rw[hv]at q ha hc;rw[hv];clear hv;(try simp only[Int.neg_mul,Int.one_mul]at q);have Hz:=Hd q;have Hx:=Hd (hp.alloc (tkO U));clear hp hr q;have HA:Hid (s.next<_):=Hd (Nat.lt_succ_of_le (Nat.le_of_lt Hw.o));obtain⟨c7_00,c7_01,c7_02⟩:=Hx.o.own.tk (b:=w7.heap.size) (t:=U) (by simp);obtain⟨c7_10,c7_11,c7_12⟩:=Hx.o.own.tk (b:=w1.heap.size) (t:=T) (by simp);)
        | (go_at_call 110;refine(aX HE.o Hp.o _).mono ?_;rintro e w6 (⟨ps,hr,rfl,hb⟩|⟨hr,-,rfl,hp⟩);(exact⟨rfl,.er (zi Ht.o hr) hb⟩);have Hu:=Hd (zh Ht.o hr);have Hq:=Hd hp;clear hp hr;have Hw:Hid (s.next<_):=Hd (Nat.lt_succ_of_le (Nat.le_of_lt Hv.o));obtain⟨c6_00,c6_01,c6_02⟩:=Hq.o.own.tk (b:=w1.heap.size) (t:=T) (by simp);)
        | (go_at_call 176;refine(He.o _ Ho.o _ _ _ Hf.o).mono ?_;rintro e w5 (⟨ps,hr,rfl,hb⟩|⟨a5,s5,hr,rfl,hn,hp⟩);(exact⟨rfl,.er (zi Hn.o hr) hb⟩);have Ht:=Hd (zh Hn.o hr);have Hp:=Hd hp;clear hp hr;have Hv:=Hd (Nat.lt_of_lt_of_le Ho.o hn);clear hn;obtain⟨c5_00,c5_01,c5_02⟩:=Hp.o.own.tk (b:=w1.heap.size) (t:=T) (by simp);)
        | (go_at_call 177;refine(fB HE.o Hc.o _ H3.o).mono ?_;rintro e w4 ⟨rfl,hp⟩;have Hf:=Hd hp;clear hp;have Ho:Hid (s.next<_):=Hd (Nat.lt_succ_of_le Hi.o);have Hn:=Hm;obtain⟨c4_00,c4_01,c4_02⟩:=Hf.o.own.tk (b:=w1.heap.size) (t:=T) (by simp);)
        | (go_at_call 177;refine(cU HE.o Hb.o _ H2.o).mono ?_;rintro e w3 ⟨rfl,hp⟩;have Hc:=Hd hp;clear hp;have Hi:=Hh;have Hm:=Hl;obtain⟨c3_00,c3_01,c3_02⟩:=Hc.o.own.tk (b:=w1.heap.size) (t:=T) (by simp);)
        | (go_at_call 177;refine(cU HE.o Ha.o _ H1.o).mono ?_;rintro e w2 ⟨rfl,hp⟩;have Hb:=Hd hp;clear hp;have Hh:=Hg;have Hl:=Hk;obtain⟨c2_00,c2_01,c2_02⟩:=Hb.o.own.tk (b:=w1.heap.size) (t:=T) (by simp);)
        | (go_at_call 107;refine(zS HE.o Hs.o HT.o).mono ?_;rintro e w1 ⟨rfl,hp⟩;have Ha:=Hd (hp.alloc (tkO T));clear hp;have Hg:=Hr;have Hk:=Hj;obtain⟨c1_00,c1_01,c1_02⟩:=Ha.o.own.tk (b:=w1.heap.size) (t:=T) (by simp);))
       go_ret;exact .ok HG.o (Nat.le_of_lt HC.o) ((HD.o.drop.drop).less (by omega))
     | false=>
       simp only[h1,h2,h3,if_true,if_false,Bool.false_eq_true,ite_true,ite_false]at hS;have Hj:=Hd hS.symm;have H1:=Hd h1;have H2:=Hd h2;have H3:=Hd h3;clear hS hT h1 h2 h3;go_enter func176,ntmps176
       go_wp2_with (first
        | (go_at_call 177;refine(cU HE.o Hc.o _ H3.o).mono ?_;rintro e w4 ⟨rfl,hp⟩;have Hf:=Hd hp;clear hp;have Ho:=Hi;have Hn:=Hm;obtain⟨c4_00,c4_01,c4_02⟩:=Hf.o.own.tk (b:=w1.heap.size) (t:=T) (by simp);)
        | (go_at_call 177;refine(cU HE.o Hb.o _ H2.o).mono ?_;rintro e w3 ⟨rfl,hp⟩;have Hc:=Hd hp;clear hp;have Hi:=Hh;have Hm:=Hl;obtain⟨c3_00,c3_01,c3_02⟩:=Hc.o.own.tk (b:=w1.heap.size) (t:=T) (by simp);)
        | (go_at_call 177;refine(cU HE.o Ha.o _ H1.o).mono ?_;rintro e w2 ⟨rfl,hp⟩;have Hb:=Hd hp;clear hp;have Hh:=Hg;have Hl:=Hk;obtain⟨c2_00,c2_01,c2_02⟩:=Hb.o.own.tk (b:=w1.heap.size) (t:=T) (by simp);)
        | (go_at_call 107;refine(zS HE.o Hs.o HT.o).mono ?_;rintro e w1 ⟨rfl,hp⟩;have Ha:=Hd (hp.alloc (tkO T));clear hp;have Hg:=Hr;have Hk:=Hj;obtain⟨c1_00,c1_01,c1_02⟩:=Ha.o.own.tk (b:=w1.heap.size) (t:=T) (by simp);))
       refine N.region_C [false,false,false,true,true,true,true] [?vC5_0,?vC5_1,?vC5_2,undef,undef,undef,undef] hf (by kernel_rfl) (by kernel_rfl) (by kernel_rfl) (by kernel_rfl) rfl rfl (fun ch w=>RdI c F d s.next S (.panicked ch) w) (fun ch b w hd h=>⟨hd,h⟩) (fun Wz=>Wz.heap[w1.heap.size]?=some (tkO T)) (Hf.o.drew.own (w1.heap.size,tkO T) (by simp)) ?wC5_ ?_
       case wC5_=>
        iterate 3 (refine N.WalkC.still (N.StillP.known rfl ?_) ?_;(intro W hJ;have j00:=za (i:=0) hJ rfl;have j01:=za (i:=1) hJ rfl;have j02:=za (i:=2) hJ rfl;go_simp;rfl);simp only[N.pz])
        refine N.WalkC.chain fun u3=>?_;simp only[N.pz];refine N.WalkC.chain fun u4=>?_;simp only[N.pz];refine N.WalkC.chain fun u5=>?_;simp only[N.pz];refine N.WalkC.chain fun u6=>?_;simp only[N.pz];exact .nil
       iterate 3 (refine N.TailC.still ?_;simp only[N.pz])
       refine N.TailC.call (f:=171) (args:=#[c.ptr]) rfl ?a3 ?_;case a3=>go_simp;try rfl
       refine(jC HE.o Hf.o.drew).mono ?_;rintro e w5 (⟨ps,hr,rfl,hb⟩|⟨hr,-,he,hp⟩)
       .exact .inr ⟨_,rfl,.er (zi Hn.o hr) hb⟩
       rw[HT.o]at he;subst he;have Ht:=Hd (zh Hn.o hr);have Hp:=Hd hp;have Hv:Hid (s.next<_):=Hd (Nat.lt_succ_of_le Ho.o);clear hp hr;refine .inl ⟨_,rfl,(fun _=>Hp.o.own (w1.heap.size,tkO T) (by simp)),?_⟩;simp only[N.pz];refine N.TailC.run (v:=strV T.text) (w':=w5) rfl ?a4 (fun _=>Hp.o.own (w1.heap.size,tkO T) (by simp)) ?b4;case a4=>go_simp;try rfl
       simp only[N.pz];refine N.TailC.call (f:=173) (args:=#[c.ptr,.int .u8 32,tkA T,strV T.text,intV 0,.slice none 0 0]) rfl ?a5 ?_;case a5=>go_simp;try rfl
       refine(QAdd0 HE.o Hp.o 32 T T.text 0).mono ?_;rintro e w6⟨rfl,hp⟩;have Hq:=Hd hp;have Hu:=Ht;have Hw:=Hv;clear hp;refine .inl ⟨_,rfl,(fun _=>Hq.o.own (w1.heap.size,tkO T) (by simp)),?_⟩;simp only[N.pz];refine N.TailC.run (v:=intV s.take.nodes.length) (w':=w6) rfl ?a6 (fun h=>absurd rfl h) ?b6;case a6=>go_simp;try rfl
       simp only[N.pz];refine N.TailC.nil ?_;go_wp2;go_ret;exact .ok Hu.o (Nat.le_of_lt Hw.o) ((Hq.o.drop).less (by omega))
theorem LN{c:PC}(he:OkC c){s:PS}(nm:Tk):∀(F:List (Nat×Obj)) (d:Nat) (X:World),PQ c s F d X->Calls prog 140 #[c.ptr,tkA nm] X (RdI c F d s.next (lC c.E nm s)):=by
 intro F d X h;have HE:=Hd he;have Hc:=Hd h;have Hn:Hid (s.next<=s.next):=Hd nlr;obtain⟨S,hS⟩:∃S,lC c.E nm s=S:=⟨_,rfl⟩
 try rw[hS]
 unfold lC at hS;obtain⟨T,hT⟩:∃T,zg c.E s=T:=⟨_,rfl⟩
 rw[hT]at hS;have HT:=Hd hT;clear he h;have hf:prog.follows .mixedOrders=true:=by kernel_rfl
 have Hi:=Hd hS.symm;clear hS hT
 replace Hc:=Hd (Hc.o.alloc (tkO nm))
 obtain⟨c0_00,c0_01,c0_02⟩:=Hc.o.own.tk (b:=X.heap.size) (t:=nm) (by simp);go_enter func140,ntmps140
 go_wp2_with (first
  | (go_at_call 110;refine(aX HE.o Hg.o _).mono ?_;rintro e w4 (⟨ps,hr,rfl,hb⟩|⟨hr,-,rfl,hp⟩);(exact⟨rfl,.er (zi Hl.o hr) hb⟩);have Hm:=Hd (zh Hl.o hr);have Ha:=Hd hp;clear hp hr;have Hr:Hid (s.next<_):=Hd (Nat.lt_succ_of_le (Nat.le_of_lt Hq.o));obtain⟨c4_00,c4_01,c4_02⟩:=Ha.o.own.tk (b:=w1.heap.size) (t:=T) (by simp);obtain⟨c4_10,c4_11,c4_12⟩:=Ha.o.own.tk (b:=X.heap.size) (t:=nm) (by simp);)
  | (go_at_call 172;refine(uY HE.o _ _ _ Hf.o).mono ?_;rintro e w3 (⟨ps,hr,rfl,hb⟩|⟨a3,s3,hr,rfl,hn,hp⟩);(exact⟨rfl,.er (zi Hk.o hr) hb⟩);have Hl:=Hd (zh Hk.o hr);have Hg:=Hd hp;clear hp hr;have Hq:=Hd (Nat.lt_of_lt_of_le Hp.o hn);clear hn;obtain⟨c3_00,c3_01,c3_02⟩:=Hg.o.own.tk (b:=w1.heap.size) (t:=T) (by simp);obtain⟨c3_10,c3_11,c3_12⟩:=Hg.o.own.tk (b:=X.heap.size) (t:=nm) (by simp);)
  | (go_at_call 110;refine(aX HE.o He.o _).mono ?_;rintro e w2 (⟨ps,hr,rfl,hb⟩|⟨hr,-,rfl,hp⟩);(exact⟨rfl,.er (zi Hj.o hr) hb⟩);have Hk:=Hd (zh Hj.o hr);have Hf:=Hd hp;clear hp hr;have Hp:Hid (s.next<_):=Hd (Nat.lt_succ_of_le (Nat.le_of_lt Ho.o));obtain⟨c2_00,c2_01,c2_02⟩:=Hf.o.own.tk (b:=w1.heap.size) (t:=T) (by simp);obtain⟨c2_10,c2_11,c2_12⟩:=Hf.o.own.tk (b:=X.heap.size) (t:=nm) (by simp);)
  | (go_at_call 171;refine(jC HE.o Hc.o).mono ?_;rintro e w1 (⟨ps,hr,rfl,hb⟩|⟨hr,-,he,hp⟩);(exact⟨rfl,.er (zi Hi.o hr) hb⟩);have q:=zh Hi.o hr;rw[HT.o]at he;subst he;have Hj:=Hd q;have He:=Hd (hp.alloc (tkO T));clear hp hr q;have Ho:Hid (s.next<_):=Hd (Nat.lt_succ_of_le Hn.o);obtain⟨c1_00,c1_01,c1_02⟩:=He.o.own.tk (b:=w1.heap.size) (t:=T) (by simp);obtain⟨c1_10,c1_11,c1_12⟩:=He.o.own.tk (b:=X.heap.size) (t:=nm) (by simp);))
 refine N.region_C [false,false,false,false,false,false,true,true,true,true] [?vC6_0,?vC6_1,?vC6_2,?vC6_3,?vC6_4,?vC6_5,undef,undef,undef,undef] hf (by kernel_rfl) (by kernel_rfl) (by kernel_rfl) (by kernel_rfl) rfl rfl (fun ch w=>RdI c F d s.next S (.panicked ch) w) (fun ch b w hd h=>⟨hd,h⟩) (fun Wz=>Wz.heap[w1.heap.size]?=some (tkO T)/\Wz.heap[X.heap.size]?=some (tkO nm)) ⟨Ha.o.drew.own (w1.heap.size,tkO T) (by simp),Ha.o.drew.own (X.heap.size,tkO nm) (by simp)⟩ ?wC6_ ?_
 case wC6_=>
  iterate 6 (refine N.WalkC.still (N.StillP.known rfl ?_) ?_;(intro W hJ;obtain⟨ha,hc⟩:=hJ;have j00:=za (i:=0) ha rfl;have j01:=za (i:=1) ha rfl;have j02:=za (i:=2) ha rfl;have j10:=za (i:=0) hc rfl;have j11:=za (i:=1) hc rfl;have j12:=za (i:=2) hc rfl;go_simp;rfl);simp only[N.pz])
  refine N.WalkC.chain fun u6=>?_;simp only[N.pz];refine N.WalkC.chain fun u7=>?_;simp only[N.pz];refine N.WalkC.chain fun u8=>?_;simp only[N.pz];refine N.WalkC.chain fun u9=>?_;simp only[N.pz];exact .nil
 iterate 6 (refine N.TailC.still ?_;simp only[N.pz])
 refine N.TailC.call (f:=172) (args:=#[c.ptr]) rfl ?a6 ?_;case a6=>go_simp;try rfl
 refine(uY HE.o _ _ _ Ha.o.drew).mono ?_;rintro e w5 (⟨ps,hr,rfl,hb⟩|⟨a5,s5,hr,rfl,hn,hp⟩)
 .exact .inr ⟨_,rfl,.er (zi Hm.o hr) hb⟩
 have Hu:=Hd (zh Hm.o hr);have Hb:=Hd hp;have Hs:=Hd (Nat.lt_of_lt_of_le Hr.o hn);clear hp hn hr;refine .inl ⟨_,rfl,(fun _=>⟨Hb.o.own (w1.heap.size,tkO T) (by simp),Hb.o.own (X.heap.size,tkO nm) (by simp)⟩),?_⟩;simp only[N.pz];refine N.TailC.run (v:=.slice (some ⟨w5.heap.size,0,none⟩) 2 2) (w':=w5.alloc (.cells #[intV a3,intV a5] 3)) rfl ?a7 (fun _=>⟨(Hb.o.alloc _).drop.own (w1.heap.size,tkO T) (by simp),(Hb.o.alloc _).drop.own (X.heap.size,tkO nm) (by simp)⟩) ?b7;case a7=>go_simp;try rfl
 simp only[N.pz];refine N.TailC.call (f:=173) (args:=#[c.ptr,.int .u8 40,tkA nm,strV T.text,intV 0,.slice (some ⟨w5.heap.size,0,none⟩) 2 2]) rfl ?a8 ?_;case a8=>go_simp;try rfl
 refine(kQ HE.o Hb.o 40 nm T.text 0 [a3,a5] rfl).mono ?_;rintro e w6⟨rfl,hp⟩;have Hh:=Hd hp;have Hv:=Hu;have Ht:=Hs;clear hp;refine .inl ⟨_,rfl,(fun _=>⟨Hh.o.own (w1.heap.size,tkO T) (by simp),Hh.o.own (X.heap.size,tkO nm) (by simp)⟩),?_⟩;simp only[N.pz];refine N.TailC.run (v:=intV s5.nodes.length) (w':=w6) rfl ?a9 (fun h=>absurd rfl h) ?b9;case a9=>go_simp;try rfl
 simp only[N.pz];refine N.TailC.nil ?_;go_wp2;go_ret;exact .ok Hv.o (Nat.le_of_lt Ht.o) ((Hh.o.drop.drop).less (by omega))
theorem RW{c:PC}(he:OkC c){expr:RdP}{s:PS}(nm:Tk)(hexpr:∀s',s.next<s'.next->zt c 179 expr s'):∀(F:List (Nat×Obj)) (d:Nat) (X:World),PQ c s F d X->Calls prog 143 #[c.ptr,tkA nm] X (RdI c F d s.next (letP expr c.E nm s)):=by
 intro F d X h;have HE:=Hd he;have Hc:=Hd hexpr;have He:=Hd h;have Hl:Hid (s.next<=s.next):=Hd nlr;obtain⟨S,hS⟩:∃S,letP expr c.E nm s=S:=⟨_,rfl⟩
 try rw[hS]
 unfold letP at hS;obtain⟨T,hT⟩:∃T,zg c.E s=T:=⟨_,rfl⟩
 rw[hT]at hS;have HT:=Hd hT;clear he h hexpr;have hf:prog.follows .mixedOrders=true:=by kernel_rfl
 have Hi:=Hd hS.symm;clear hS hT
 replace He:=Hd (He.o.alloc (tkO nm))
 obtain⟨c0_00,c0_01,c0_02⟩:=He.o.own.tk (b:=X.heap.size) (t:=nm) (by simp);go_enter func143,ntmps143
 go_wp2_with (first
  | (go_at_call 110;refine(aX HE.o Hf.o _).mono ?_;rintro e w2 (⟨ps,hr,rfl,hb⟩|⟨hr,-,rfl,hp⟩);(exact⟨rfl,.er (zi Hj.o hr) hb⟩);have Hk:=Hd (zh Hj.o hr);have Ha:=Hd hp;clear hp hr;have Hh:Hid (s.next<_):=Hd (Nat.lt_succ_of_le (Nat.le_of_lt Hm.o));obtain⟨c2_00,c2_01,c2_02⟩:=Ha.o.own.tk (b:=w1.heap.size) (t:=T) (by simp);obtain⟨c2_10,c2_11,c2_12⟩:=Ha.o.own.tk (b:=X.heap.size) (t:=nm) (by simp);)
  | (go_at_call 171;refine(jC HE.o He.o).mono ?_;rintro e w1 (⟨ps,hr,rfl,hb⟩|⟨hr,-,he,hp⟩);(exact⟨rfl,.er (zi Hi.o hr) hb⟩);have q:=zh Hi.o hr;rw[HT.o]at he;subst he;have Hj:=Hd q;have Hf:=Hd (hp.alloc (tkO T));clear hp hr q;have Hm:Hid (s.next<_):=Hd (Nat.lt_succ_of_le Hl.o);obtain⟨c1_00,c1_01,c1_02⟩:=Hf.o.own.tk (b:=w1.heap.size) (t:=T) (by simp);obtain⟨c1_10,c1_11,c1_12⟩:=Hf.o.own.tk (b:=X.heap.size) (t:=nm) (by simp);))
 refine N.region_C [false,false,false,false,false,true,true,true,true] [?vC7_0,?vC7_1,?vC7_2,?vC7_3,?vC7_4,undef,undef,undef,undef] hf (by kernel_rfl) (by kernel_rfl) (by kernel_rfl) (by kernel_rfl) rfl rfl (fun ch w=>RdI c F d s.next S (.panicked ch) w) (fun ch b w hd h=>⟨hd,h⟩) (fun Wz=>Wz.heap[w1.heap.size]?=some (tkO T)/\Wz.heap[X.heap.size]?=some (tkO nm)) ⟨Ha.o.drew.own (w1.heap.size,tkO T) (by simp),Ha.o.drew.own (X.heap.size,tkO nm) (by simp)⟩ ?wC7_ ?_
 case wC7_=>
  iterate 5 (refine N.WalkC.still (N.StillP.known rfl ?_) ?_;(intro W hJ;obtain⟨ha,hc⟩:=hJ;have j00:=za (i:=0) ha rfl;have j01:=za (i:=1) ha rfl;have j02:=za (i:=2) ha rfl;have j10:=za (i:=0) hc rfl;have j11:=za (i:=1) hc rfl;have j12:=za (i:=2) hc rfl;go_simp;rfl);simp only[N.pz])
  refine N.WalkC.chain fun u5=>?_;simp only[N.pz];refine N.WalkC.chain fun u6=>?_;simp only[N.pz];refine N.WalkC.chain fun u7=>?_;simp only[N.pz];refine N.WalkC.chain fun u8=>?_;simp only[N.pz];exact .nil
 iterate 5 (refine N.TailC.still ?_;simp only[N.pz])
 refine N.TailC.call (f:=179) (args:=#[c.ptr]) rfl ?a5 ?_;case a5=>go_simp;try rfl
 refine(Hc.o _ Hh.o _ _ _ Ha.o.drew).mono ?_;rintro e w3 (⟨ps,hr,rfl,hb⟩|⟨a3,s3,hr,rfl,hn,hp⟩)
 .exact .inr ⟨_,rfl,.er (zi Hk.o hr) hb⟩
 have Hp:=Hd (zh Hk.o hr);have Hb:=Hd hp;have Hn:=Hd (Nat.lt_of_lt_of_le Hh.o hn);clear hp hn hr;refine .inl ⟨_,rfl,(fun _=>⟨Hb.o.own (w1.heap.size,tkO T) (by simp),Hb.o.own (X.heap.size,tkO nm) (by simp)⟩),?_⟩;simp only[N.pz];refine N.TailC.run (v:=.slice (some ⟨w3.heap.size,0,none⟩) 1 1) (w':=w3.alloc (.cells #[intV a3] 3)) rfl ?a6 (fun _=>⟨(Hb.o.alloc _).drop.own (w1.heap.size,tkO T) (by simp),(Hb.o.alloc _).drop.own (X.heap.size,tkO nm) (by simp)⟩) ?b6;case a6=>go_simp;try rfl
 simp only[N.pz];refine N.TailC.call (f:=173) (args:=#[c.ptr,.int .u8 43,tkA nm,strV T.text,intV 0,.slice (some ⟨w3.heap.size,0,none⟩) 1 1]) rfl ?a7 ?_;case a7=>go_simp;try rfl
 refine(kQ HE.o Hb.o 43 nm T.text 0 [a3] rfl).mono ?_;rintro e w4⟨rfl,hp⟩;have Hg:=Hd hp;have Hq:=Hp;have Ho:=Hn;clear hp;refine .inl ⟨_,rfl,(fun _=>⟨Hg.o.own (w1.heap.size,tkO T) (by simp),Hg.o.own (X.heap.size,tkO nm) (by simp)⟩),?_⟩;simp only[N.pz];refine N.TailC.run (v:=intV s3.nodes.length) (w':=w4) rfl ?a8 (fun h=>absurd rfl h) ?b8;case a8=>go_simp;try rfl
 simp only[N.pz];refine N.TailC.nil ?_;go_wp2;go_ret;exact .ok Hq.o (Nat.le_of_lt Ho.o) ((Hg.o.drop.drop).less (by omega))
theorem GN{c:PC}(he:OkC c){expr:RdP}{s:PS}(nm:Tk)(hexpr:∀s',s.next<s'.next->zt c 179 expr s'):∀(F:List (Nat×Obj)) (d:Nat) (X:World),PQ c s F d X->Calls prog 144 #[c.ptr,tkA nm] X (RdI c F d s.next (mI expr c.E nm s)):=by
 intro F d X h;have HE:=Hd he;have Hc:=Hd hexpr;have He:=Hd h;have Hl:Hid (s.next<=s.next):=Hd nlr;obtain⟨S,hS⟩:∃S,mI expr c.E nm s=S:=⟨_,rfl⟩
 try rw[hS]
 unfold mI at hS;obtain⟨T,hT⟩:∃T,zg c.E s=T:=⟨_,rfl⟩
 rw[hT]at hS;have HT:=Hd hT;clear he h hexpr;have hf:prog.follows .mixedOrders=true:=by kernel_rfl
 have Hi:=Hd hS.symm;clear hS hT
 replace He:=Hd (He.o.alloc (tkO nm))
 obtain⟨c0_00,c0_01,c0_02⟩:=He.o.own.tk (b:=X.heap.size) (t:=nm) (by simp);go_enter func144,ntmps144
 go_wp2_with (first
  | (go_at_call 110;refine(aX HE.o Hf.o _).mono ?_;rintro e w2 (⟨ps,hr,rfl,hb⟩|⟨hr,-,rfl,hp⟩);(exact⟨rfl,.er (zi Hj.o hr) hb⟩);have Hk:=Hd (zh Hj.o hr);have Ha:=Hd hp;clear hp hr;have Hh:Hid (s.next<_):=Hd (Nat.lt_succ_of_le (Nat.le_of_lt Hm.o));obtain⟨c2_00,c2_01,c2_02⟩:=Ha.o.own.tk (b:=w1.heap.size) (t:=T) (by simp);obtain⟨c2_10,c2_11,c2_12⟩:=Ha.o.own.tk (b:=X.heap.size) (t:=nm) (by simp);)
  | (go_at_call 171;refine(jC HE.o He.o).mono ?_;rintro e w1 (⟨ps,hr,rfl,hb⟩|⟨hr,-,he,hp⟩);(exact⟨rfl,.er (zi Hi.o hr) hb⟩);have q:=zh Hi.o hr;rw[HT.o]at he;subst he;have Hj:=Hd q;have Hf:=Hd (hp.alloc (tkO T));clear hp hr q;have Hm:Hid (s.next<_):=Hd (Nat.lt_succ_of_le Hl.o);obtain⟨c1_00,c1_01,c1_02⟩:=Hf.o.own.tk (b:=w1.heap.size) (t:=T) (by simp);obtain⟨c1_10,c1_11,c1_12⟩:=Hf.o.own.tk (b:=X.heap.size) (t:=nm) (by simp);))
 refine N.region_C [false,false,false,false,false,true,true,true,true] [?vC8_0,?vC8_1,?vC8_2,?vC8_3,?vC8_4,undef,undef,undef,undef] hf (by kernel_rfl) (by kernel_rfl) (by kernel_rfl) (by kernel_rfl) rfl rfl (fun ch w=>RdI c F d s.next S (.panicked ch) w) (fun ch b w hd h=>⟨hd,h⟩) (fun Wz=>Wz.heap[w1.heap.size]?=some (tkO T)/\Wz.heap[X.heap.size]?=some (tkO nm)) ⟨Ha.o.drew.own (w1.heap.size,tkO T) (by simp),Ha.o.drew.own (X.heap.size,tkO nm) (by simp)⟩ ?wC8_ ?_
 case wC8_=>
  iterate 5 (refine N.WalkC.still (N.StillP.known rfl ?_) ?_;(intro W hJ;obtain⟨ha,hc⟩:=hJ;have j00:=za (i:=0) ha rfl;have j01:=za (i:=1) ha rfl;have j02:=za (i:=2) ha rfl;have j10:=za (i:=0) hc rfl;have j11:=za (i:=1) hc rfl;have j12:=za (i:=2) hc rfl;go_simp;rfl);simp only[N.pz])
  refine N.WalkC.chain fun u5=>?_;simp only[N.pz];refine N.WalkC.chain fun u6=>?_;simp only[N.pz];refine N.WalkC.chain fun u7=>?_;simp only[N.pz];refine N.WalkC.chain fun u8=>?_;simp only[N.pz];exact .nil
 iterate 5 (refine N.TailC.still ?_;simp only[N.pz])
 refine N.TailC.call (f:=179) (args:=#[c.ptr]) rfl ?a5 ?_;case a5=>go_simp;try rfl
 refine(Hc.o _ Hh.o _ _ _ Ha.o.drew).mono ?_;rintro e w3 (⟨ps,hr,rfl,hb⟩|⟨a3,s3,hr,rfl,hn,hp⟩)
 .exact .inr ⟨_,rfl,.er (zi Hk.o hr) hb⟩
 have Hp:=Hd (zh Hk.o hr);have Hb:=Hd hp;have Hn:=Hd (Nat.lt_of_lt_of_le Hh.o hn);clear hp hn hr;refine .inl ⟨_,rfl,(fun _=>⟨Hb.o.own (w1.heap.size,tkO T) (by simp),Hb.o.own (X.heap.size,tkO nm) (by simp)⟩),?_⟩;simp only[N.pz];refine N.TailC.run (v:=.slice (some ⟨w3.heap.size,0,none⟩) 1 1) (w':=w3.alloc (.cells #[intV a3] 3)) rfl ?a6 (fun _=>⟨(Hb.o.alloc _).drop.own (w1.heap.size,tkO T) (by simp),(Hb.o.alloc _).drop.own (X.heap.size,tkO nm) (by simp)⟩) ?b6;case a6=>go_simp;try rfl
 simp only[N.pz];refine N.TailC.call (f:=173) (args:=#[c.ptr,.int .u8 44,tkA nm,strV T.text,intV 0,.slice (some ⟨w3.heap.size,0,none⟩) 1 1]) rfl ?a7 ?_;case a7=>go_simp;try rfl
 refine(kQ HE.o Hb.o 44 nm T.text 0 [a3] rfl).mono ?_;rintro e w4⟨rfl,hp⟩;have Hg:=Hd hp;have Hq:=Hp;have Ho:=Hn;clear hp;refine .inl ⟨_,rfl,(fun _=>⟨Hg.o.own (w1.heap.size,tkO T) (by simp),Hg.o.own (X.heap.size,tkO nm) (by simp)⟩),?_⟩;simp only[N.pz];refine N.TailC.run (v:=intV s3.nodes.length) (w':=w4) rfl ?a8 (fun h=>absurd rfl h) ?b8;case a8=>go_simp;try rfl
 simp only[N.pz];refine N.TailC.nil ?_;go_wp2;go_ret;exact .ok Hq.o (Nat.le_of_lt Ho.o) ((Hg.o.drop.drop).less (by omega))
theorem GQ{c:PC}(he:OkC c){s:PS}(nm:Tk):∀(F:List (Nat×Obj)) (d:Nat) (X:World),PQ c s F d X->Calls prog 145 #[c.ptr,tkA nm] X (RdI c F d s.next (iQ c.E nm s)):=by
 intro F d X h;have HE:=Hd he;have Ha:=Hd h;have Hf:Hid (s.next<=s.next):=Hd nlr;obtain⟨S,hS⟩:∃S,iQ c.E nm s=S:=⟨_,rfl⟩
 try rw[hS]
 unfold iQ at hS;obtain⟨T,hT⟩:∃T,zg c.E s=T:=⟨_,rfl⟩
 rw[hT]at hS;have HT:=Hd hT;clear he h;have ha:prog.follows .mixedOrders=true:=by kernel_rfl
 have He:=Hd hS.symm;clear hS hT
 replace Ha:=Hd (Ha.o.alloc (tkO nm))
 obtain⟨c0_00,c0_01,c0_02⟩:=Ha.o.own.tk (b:=X.heap.size) (t:=nm) (by simp);go_enter func145,ntmps145;go_wp2;refine N.region_C [false,false,false,true,true,true,true] [?vC9_0,?vC9_1,?vC9_2,undef,undef,undef,undef] ha (by kernel_rfl) (by kernel_rfl) (by kernel_rfl) (by kernel_rfl) rfl rfl (fun ch w=>RdI c F d s.next S (.panicked ch) w) (fun ch b w hd h=>⟨hd,h⟩) (fun Wz=>Wz.heap[X.heap.size]?=some (tkO nm)) (Ha.o.drew.own (X.heap.size,tkO nm) (by simp)) ?wC9_ ?_
 case wC9_=>
  iterate 3 (refine N.WalkC.still (N.StillP.known rfl ?_) ?_;(intro W hJ;have j00:=za (i:=0) hJ rfl;have j01:=za (i:=1) hJ rfl;have j02:=za (i:=2) hJ rfl;go_simp;rfl);simp only[N.pz])
  refine N.WalkC.chain fun u3=>?_;simp only[N.pz];refine N.WalkC.chain fun u4=>?_;simp only[N.pz];refine N.WalkC.chain fun u5=>?_;simp only[N.pz];refine N.WalkC.chain fun u6=>?_;simp only[N.pz];exact .nil
 iterate 3 (refine N.TailC.still ?_;simp only[N.pz])
 refine N.TailC.call (f:=171) (args:=#[c.ptr]) rfl ?a3 ?_;case a3=>go_simp;try rfl
 refine(jC HE.o Ha.o.drew).mono ?_;rintro e w1 (⟨ps,hr,rfl,hb⟩|⟨hr,-,he,hp⟩)
 .exact .inr ⟨_,rfl,.er (zi He.o hr) hb⟩
 rw[HT.o]at he;subst he;have Hi:=Hd (zh He.o hr);have Hb:=Hd hp;have Hg:Hid (s.next<_):=Hd (Nat.lt_succ_of_le Hf.o);clear hp hr;refine .inl ⟨_,rfl,(fun _=>Hb.o.own (X.heap.size,tkO nm) (by simp)),?_⟩;simp only[N.pz];refine N.TailC.run (v:=strV T.text) (w':=w1) rfl ?a4 (fun _=>Hb.o.own (X.heap.size,tkO nm) (by simp)) ?b4;case a4=>go_simp;try rfl
 simp only[N.pz];refine N.TailC.call (f:=173) (args:=#[c.ptr,.int .u8 45,tkA nm,strV T.text,intV 0,.slice none 0 0]) rfl ?a5 ?_;case a5=>go_simp;try rfl
 refine(QAdd0 HE.o Hb.o 45 nm T.text 0).mono ?_;rintro e w2⟨rfl,hp⟩;have Hc:=Hd hp;have Hj:=Hi;have Hh:=Hg;clear hp;refine .inl ⟨_,rfl,(fun _=>Hc.o.own (X.heap.size,tkO nm) (by simp)),?_⟩;simp only[N.pz];refine N.TailC.run (v:=intV s.take.nodes.length) (w':=w2) rfl ?a6 (fun h=>absurd rfl h) ?b6;case a6=>go_simp;try rfl
 simp only[N.pz];refine N.TailC.nil ?_;go_wp2;go_ret;exact .ok Hj.o (Nat.le_of_lt Hh.o) ((Hc.o.drop).less (by omega))
theorem QL{c:PC}(he:OkC c){expr or:RdP}{s:PS}(hexpr:∀s',s.next<s'.next->zt c 179 expr s')(hor:zt c 200 or s):zt c 179 (EI expr or c.E) s:=by
 intro F d X h;have HE:=Hd he;have Ha:=Hd hexpr;have HH:=Hd hor;have HB:=Hd h;have Hz:Hid (s.next<=s.next):=Hd nlr;obtain⟨S,hS⟩:∃S,EI expr or c.E s=S:=⟨_,rfl⟩
 try rw[hS]
 unfold EI at hS;obtain⟨T,hT⟩:∃T,zg c.E s=T:=⟨_,rfl⟩
 rw[hT]at hS;have HT:=Hd hT;clear he h hexpr hor;have hf:prog.follows .mixedOrders=true:=by kernel_rfl
 cases h1:isP c.E s wIf with
 | true=>
   simp only[h1,if_true,if_false,Bool.false_eq_true,ite_true,ite_false]at hS;have Hr:=Hd hS.symm;have H1:=Hd h1;clear hS hT h1;go_enter func179,ntmps179
   go_wp2_with (first
    | (go_at_call 110;refine(aX HE.o Hn.o _).mono ?_;rintro e w6 (⟨ps,hr,rfl,hb⟩|⟨hr,-,rfl,hp⟩);(exact⟨rfl,.er (zi Ht.o hr) hb⟩);have Hu:=Hd (zh Ht.o hr);have Hj:=Hd hp;clear hp hr;have Hw:Hid (s.next<_):=Hd (Nat.lt_succ_of_le (Nat.le_of_lt Hv.o));obtain⟨c6_00,c6_01,c6_02⟩:=Hj.o.own.tk (b:=w1.heap.size) (t:=T) (by simp);)
    | (go_at_call 179;refine(Ha.o _ Hm.o _ _ _ Hb.o).mono ?_;rintro e w5 (⟨ps,hr,rfl,hb⟩|⟨a5,s5,hr,rfl,hn,hp⟩);(exact⟨rfl,.er (zi Hk.o hr) hb⟩);have Ht:=Hd (zh Hk.o hr);have Hn:=Hd hp;clear hp hr;have Hv:=Hd (Nat.lt_of_lt_of_le Hm.o hn);clear hn;obtain⟨c5_00,c5_01,c5_02⟩:=Hn.o.own.tk (b:=w1.heap.size) (t:=T) (by simp);)
    | (go_at_call 110;refine(aX HE.o Hg.o _).mono ?_;rintro e w4 (⟨ps,hr,rfl,hb⟩|⟨hr,-,rfl,hp⟩);(exact⟨rfl,.er (zi Hi.o hr) hb⟩);have Hk:=Hd (zh Hi.o hr);have Hb:=Hd hp;clear hp hr;have Hm:Hid (s.next<_):=Hd (Nat.lt_succ_of_le (Nat.le_of_lt Hq.o));obtain⟨c4_00,c4_01,c4_02⟩:=Hb.o.own.tk (b:=w1.heap.size) (t:=T) (by simp);)
    | (go_at_call 179;refine(Ha.o _ Hl.o _ _ _ Hf.o).mono ?_;rintro e w3 (⟨ps,hr,rfl,hb⟩|⟨a3,s3,hr,rfl,hn,hp⟩);(exact⟨rfl,.er (zi Ho.o hr) hb⟩);have Hi:=Hd (zh Ho.o hr);have Hg:=Hd hp;clear hp hr;have Hq:=Hd (Nat.lt_of_lt_of_le Hl.o hn);clear hn;obtain⟨c3_00,c3_01,c3_02⟩:=Hg.o.own.tk (b:=w1.heap.size) (t:=T) (by simp);)
    | (go_at_call 177;refine(fB HE.o He.o _ H1.o).mono ?_;rintro e w2 ⟨rfl,hp⟩;have Hf:=Hd hp;clear hp;have Hl:Hid (s.next<_):=Hd (Nat.lt_succ_of_le Hp.o);have Ho:=Hs;obtain⟨c2_00,c2_01,c2_02⟩:=Hf.o.own.tk (b:=w1.heap.size) (t:=T) (by simp);)
    | (go_at_call 107;refine(zS HE.o HB.o HT.o).mono ?_;rintro e w1 ⟨rfl,hp⟩;have He:=Hd (hp.alloc (tkO T));clear hp;have Hp:=Hz;have Hs:=Hr;obtain⟨c1_00,c1_01,c1_02⟩:=He.o.own.tk (b:=w1.heap.size) (t:=T) (by simp);))
   refine N.region_C [false,false,false,false,false,true,true,true,true] [?vC10_0,?vC10_1,?vC10_2,?vC10_3,?vC10_4,undef,undef,undef,undef] hf (by kernel_rfl) (by kernel_rfl) (by kernel_rfl) (by kernel_rfl) rfl rfl (fun ch w=>RdI c F d s.next S (.panicked ch) w) (fun ch b w hd h=>⟨hd,h⟩) (fun Wz=>Wz.heap[w1.heap.size]?=some (tkO T)) (Hj.o.drew.own (w1.heap.size,tkO T) (by simp)) ?wC10_ ?_
   case wC10_=>
    iterate 5 (refine N.WalkC.still (N.StillP.known rfl ?_) ?_;(intro W hJ;have j00:=za (i:=0) hJ rfl;have j01:=za (i:=1) hJ rfl;have j02:=za (i:=2) hJ rfl;go_simp;rfl);simp only[N.pz])
    refine N.WalkC.chain fun u5=>?_;simp only[N.pz];refine N.WalkC.chain fun u6=>?_;simp only[N.pz];refine N.WalkC.chain fun u7=>?_;simp only[N.pz];refine N.WalkC.chain fun u8=>?_;simp only[N.pz];exact .nil
   iterate 5 (refine N.TailC.still ?_;simp only[N.pz])
   refine N.TailC.call (f:=179) (args:=#[c.ptr]) rfl ?a5 ?_;case a5=>go_simp;try rfl
   refine(Ha.o _ Hw.o _ _ _ Hj.o.drew).mono ?_;rintro e w7 (⟨ps,hr,rfl,hb⟩|⟨a7,s7,hr,rfl,hn,hp⟩)
   .exact .inr ⟨_,rfl,.er (zi Hu.o hr) hb⟩
   have Hy:=Hd (zh Hu.o hr);have Hc:=Hd hp;have Hx:=Hd (Nat.lt_of_lt_of_le Hw.o hn);clear hp hn hr;refine .inl ⟨_,rfl,(fun _=>Hc.o.own (w1.heap.size,tkO T) (by simp)),?_⟩;simp only[N.pz];refine N.TailC.run (v:=.slice (some ⟨w7.heap.size,0,none⟩) 3 3) (w':=w7.alloc (.cells #[intV a3,intV a5,intV a7] 3)) rfl ?a6 (fun _=>(Hc.o.alloc _).drop.own (w1.heap.size,tkO T) (by simp)) ?b6;case a6=>go_simp;try rfl
   simp only[N.pz];refine N.TailC.call (f:=173) (args:=#[c.ptr,.int .u8 19,tkA T,strV [],intV 0,.slice (some ⟨w7.heap.size,0,none⟩) 3 3]) rfl ?a7 ?_;case a7=>go_simp;try rfl
   refine(kQ HE.o Hc.o 19 T [] 0 [a3,a5,a7] rfl).mono ?_;rintro e w8⟨rfl,hp⟩;have Hh:=Hd hp;have HD:=Hy;have HA:=Hx;clear hp;refine .inl ⟨_,rfl,(fun _=>Hh.o.own (w1.heap.size,tkO T) (by simp)),?_⟩;simp only[N.pz];refine N.TailC.run (v:=intV s7.nodes.length) (w':=w8) rfl ?a8 (fun h=>absurd rfl h) ?b8;case a8=>go_simp;try rfl
   simp only[N.pz];refine N.TailC.nil ?_;go_wp2;go_ret;exact .ok HD.o (Nat.le_of_lt HA.o) ((Hh.o.drop).less (by omega))
 | false=>
   cases h2:isP c.E s wLet with
   | true=>
     simp only[h1,h2,if_true,if_false,Bool.false_eq_true,ite_true,ite_false]at hS;have Hr:=Hd hS.symm;have H1:=Hd h1;have H2:=Hd h2;clear hS hT h1 h2;go_enter func179,ntmps179
     go_wp2_with (first
      | (go_at_call 110;refine(aX HE.o Hj.o _).mono ?_;rintro e w7 (⟨ps,hr,rfl,hb⟩|⟨hr,-,rfl,hp⟩);(exact⟨rfl,.er (zi Hu.o hr) hb⟩);have Hy:=Hd (zh Hu.o hr);have Hc:=Hd hp;clear hp hr;have Hx:Hid (s.next<_):=Hd (Nat.lt_succ_of_le (Nat.le_of_lt Hw.o));obtain⟨c7_00,c7_01,c7_02⟩:=Hc.o.own.tk (b:=w4.heap.size) (t:=U) (by simp);obtain⟨c7_10,c7_11,c7_12⟩:=Hc.o.own.tk (b:=w1.heap.size) (t:=T) (by simp);)
      | (go_at_call 179;refine(Ha.o _ Hv.o _ _ _ Hn.o).mono ?_;rintro e w6 (⟨ps,hr,rfl,hb⟩|⟨a6,s6,hr,rfl,hn,hp⟩);(exact⟨rfl,.er (zi Ht.o hr) hb⟩);have Hu:=Hd (zh Ht.o hr);have Hj:=Hd hp;clear hp hr;have Hw:=Hd (Nat.lt_of_lt_of_le Hv.o hn);clear hn;obtain⟨c6_00,c6_01,c6_02⟩:=Hj.o.own.tk (b:=w4.heap.size) (t:=U) (by simp);obtain⟨c6_10,c6_11,c6_12⟩:=Hj.o.own.tk (b:=w1.heap.size) (t:=T) (by simp);)
      | (go_at_call 110;refine(aX HE.o Hb.o _).mono ?_;rintro e w5 (⟨ps,hr,rfl,hb⟩|⟨hr,-,rfl,hp⟩);(exact⟨rfl,.er (zi Hk.o hr) hb⟩);have Ht:=Hd (zh Hk.o hr);have Hn:=Hd hp;clear hp hr;have Hv:Hid (s.next<_):=Hd (Nat.lt_succ_of_le (Nat.le_of_lt Hm.o));obtain⟨c5_00,c5_01,c5_02⟩:=Hn.o.own.tk (b:=w4.heap.size) (t:=U) (by simp);obtain⟨c5_10,c5_11,c5_12⟩:=Hn.o.own.tk (b:=w1.heap.size) (t:=T) (by simp);)
      | (go_at_call 171;refine(jC HE.o Hg.o).mono ?_;rintro e w4 (⟨ps,hr,rfl,hb⟩|⟨hr,-,he,hp⟩);(exact⟨rfl,.er (zi Hi.o hr) hb⟩);have q:=zh Hi.o hr;subst he;obtain⟨U,hU⟩:∃y,zg c.E s.take=y:=⟨_,rfl⟩;rw[hU];rw[hU]at q;have HU:=Hd hU;clear hU;have Hk:=Hd q;have Hb:=Hd (hp.alloc (tkO U));clear hp hr q;have Hm:Hid (s.next<_):=Hd (Nat.lt_succ_of_le (Nat.le_of_lt Hq.o));obtain⟨c4_00,c4_01,c4_02⟩:=Hb.o.own.tk (b:=w4.heap.size) (t:=U) (by simp);obtain⟨c4_10,c4_11,c4_12⟩:=Hb.o.own.tk (b:=w1.heap.size) (t:=T) (by simp);)
      | (go_at_call 177;refine(fB HE.o Hf.o _ H2.o).mono ?_;rintro e w3 ⟨rfl,hp⟩;have Hg:=Hd hp;clear hp;have Hq:Hid (s.next<_):=Hd (Nat.lt_succ_of_le Hl.o);have Hi:=Ho;obtain⟨c3_00,c3_01,c3_02⟩:=Hg.o.own.tk (b:=w1.heap.size) (t:=T) (by simp);)
      | (go_at_call 177;refine(cU HE.o He.o _ H1.o).mono ?_;rintro e w2 ⟨rfl,hp⟩;have Hf:=Hd hp;clear hp;have Hl:=Hp;have Ho:=Hs;obtain⟨c2_00,c2_01,c2_02⟩:=Hf.o.own.tk (b:=w1.heap.size) (t:=T) (by simp);)
      | (go_at_call 107;refine(zS HE.o HB.o HT.o).mono ?_;rintro e w1 ⟨rfl,hp⟩;have He:=Hd (hp.alloc (tkO T));clear hp;have Hp:=Hz;have Hs:=Hr;obtain⟨c1_00,c1_01,c1_02⟩:=He.o.own.tk (b:=w1.heap.size) (t:=T) (by simp);))
     refine N.region_C [false,false,false,false,false,false,true,true,true,true] [?vC11_0,?vC11_1,?vC11_2,?vC11_3,?vC11_4,?vC11_5,undef,undef,undef,undef] hf (by kernel_rfl) (by kernel_rfl) (by kernel_rfl) (by kernel_rfl) rfl rfl (fun ch w=>RdI c F d s.next S (.panicked ch) w) (fun ch b w hd h=>⟨hd,h⟩) (fun Wz=>Wz.heap[w4.heap.size]?=some (tkO U)/\Wz.heap[w1.heap.size]?=some (tkO T)) ⟨Hc.o.drew.own (w4.heap.size,tkO U) (by simp),Hc.o.drew.own (w1.heap.size,tkO T) (by simp)⟩ ?wC11_ ?_
     case wC11_=>
      iterate 6 (refine N.WalkC.still (N.StillP.known rfl ?_) ?_;(intro W hJ;obtain⟨ha,hc⟩:=hJ;have j00:=za (i:=0) ha rfl;have j01:=za (i:=1) ha rfl;have j02:=za (i:=2) ha rfl;have j10:=za (i:=0) hc rfl;have j11:=za (i:=1) hc rfl;have j12:=za (i:=2) hc rfl;go_simp;rfl);simp only[N.pz])
      refine N.WalkC.chain fun u6=>?_;simp only[N.pz];refine N.WalkC.chain fun u7=>?_;simp only[N.pz];refine N.WalkC.chain fun u8=>?_;simp only[N.pz];refine N.WalkC.chain fun u9=>?_;simp only[N.pz];exact .nil
     iterate 6 (refine N.TailC.still ?_;simp only[N.pz])
     refine N.TailC.call (f:=179) (args:=#[c.ptr]) rfl ?a6 ?_;case a6=>go_simp;try rfl
     refine(Ha.o _ Hx.o _ _ _ Hc.o.drew).mono ?_;rintro e w8 (⟨ps,hr,rfl,hb⟩|⟨a8,s8,hr,rfl,hn,hp⟩)
     .exact .inr ⟨_,rfl,.er (zi Hy.o hr) hb⟩
     have HD:=Hd (zh Hy.o hr);have Hh:=Hd hp;have HA:=Hd (Nat.lt_of_lt_of_le Hx.o hn);clear hp hn hr;refine .inl ⟨_,rfl,(fun _=>⟨Hh.o.own (w4.heap.size,tkO U) (by simp),Hh.o.own (w1.heap.size,tkO T) (by simp)⟩),?_⟩;simp only[N.pz];refine N.TailC.run (v:=.slice (some ⟨w8.heap.size,0,none⟩) 2 2) (w':=w8.alloc (.cells #[intV a6,intV a8] 3)) rfl ?a7 (fun _=>⟨(Hh.o.alloc _).drop.own (w4.heap.size,tkO U) (by simp),(Hh.o.alloc _).drop.own (w1.heap.size,tkO T) (by simp)⟩) ?b7;case a7=>go_simp;try rfl
     simp only[N.pz];refine N.TailC.call (f:=173) (args:=#[c.ptr,.int .u8 20,tkA T,strV U.text,intV 0,.slice (some ⟨w8.heap.size,0,none⟩) 2 2]) rfl ?a8 ?_;case a8=>go_simp;try rfl
     refine(kQ HE.o Hh.o 20 T U.text 0 [a6,a8] rfl).mono ?_;rintro e w9⟨rfl,hp⟩;have HC:=Hd hp;have HG:=HD;have HF:=HA;clear hp;refine .inl ⟨_,rfl,(fun _=>⟨HC.o.own (w4.heap.size,tkO U) (by simp),HC.o.own (w1.heap.size,tkO T) (by simp)⟩),?_⟩;simp only[N.pz];refine N.TailC.run (v:=intV s8.nodes.length) (w':=w9) rfl ?a9 (fun h=>absurd rfl h) ?b9;case a9=>go_simp;try rfl
     simp only[N.pz];refine N.TailC.nil ?_;go_wp2;go_ret;exact .ok HG.o (Nat.le_of_lt HF.o) ((HC.o.drop.drop).less (by omega))
   | false=>
     simp only[h1,h2,if_true,if_false,Bool.false_eq_true,ite_true,ite_false]at hS;have Hr:=Hd hS.symm;have H1:=Hd h1;have H2:=Hd h2;clear hS hT h1 h2;go_enter func179,ntmps179
     go_wp2_with (first
      | (go_at_call 200;refine(HH.o _ _ _ Hg.o).mono ?_;rintro e w4 (⟨ps,hr,rfl,hb⟩|⟨a4,s4,hr,rfl,hn,hp⟩);(exact⟨rfl,.er (Hi.o.trans hr) hb⟩);have Hk:=Hd (Hi.o.trans hr);have Hb:=Hd hp;clear hp hr;have Hm:=Hd (Nat.le_trans Hq.o hn);clear hn;obtain⟨c4_00,c4_01,c4_02⟩:=Hb.o.own.tk (b:=w1.heap.size) (t:=T) (by simp);)
      | (go_at_call 177;refine(cU HE.o Hf.o _ H2.o).mono ?_;rintro e w3 ⟨rfl,hp⟩;have Hg:=Hd hp;clear hp;have Hq:=Hl;have Hi:=Ho;obtain⟨c3_00,c3_01,c3_02⟩:=Hg.o.own.tk (b:=w1.heap.size) (t:=T) (by simp);)
      | (go_at_call 177;refine(cU HE.o He.o _ H1.o).mono ?_;rintro e w2 ⟨rfl,hp⟩;have Hf:=Hd hp;clear hp;have Hl:=Hp;have Ho:=Hs;obtain⟨c2_00,c2_01,c2_02⟩:=Hf.o.own.tk (b:=w1.heap.size) (t:=T) (by simp);)
      | (go_at_call 107;refine(zS HE.o HB.o HT.o).mono ?_;rintro e w1 ⟨rfl,hp⟩;have He:=Hd (hp.alloc (tkO T));clear hp;have Hp:=Hz;have Hs:=Hr;obtain⟨c1_00,c1_01,c1_02⟩:=He.o.own.tk (b:=w1.heap.size) (t:=T) (by simp);))
     go_ret;exact .ok Hk.o Hm.o ((Hb.o.drop).less (by omega))
theorem OS{c:PC}(he:OkC c){expr put:RdP}{s:PS}(nm:Tk)(hexpr:∀s',s.next<s'.next->zt c 179 expr s')(hput:∀s',s.next<s'.next->zt c 214 put s'):∀(F:List (Nat×Obj)) (d:Nat) (X:World),PQ c s F (d+1) X->Calls prog 213 #[c.ptr,tkA nm] X (RdI c F d s.next (sK expr put c.E nm s)):=by
 intro F d X h;have HE:=Hd he;have Ht:=Hd hexpr;have Hw:=Hd hput;have Ha:=Hd h;have Hu:Hid (s.next<=s.next):=Hd nlr;obtain⟨S,hS⟩:∃S,sK expr put c.E nm s=S:=⟨_,rfl⟩
 try rw[hS]
 unfold sK at hS;obtain⟨T,hT⟩:∃T,zg c.E s=T:=⟨_,rfl⟩
 try rw[hT]at hS
 have HT:=Hd hT;clear he h hexpr hput;have hd:prog.follows .mixedOrders=true:=by kernel_rfl
 cases h1:isP c.E s JY with
 | true=>
   cases h2:isP c.E s.take rE with
   | true=>
     simp only[h1,h2,if_true,if_false,Bool.false_eq_true,ite_true,ite_false]at hS;have Hm:=Hd hS.symm;have H1:=Hd h1;have H2:=Hd h2;clear hS hT h1 h2
     replace Ha:=Hd (Ha.o.alloc (tkO nm))
     obtain⟨c0_00,c0_01,c0_02⟩:=Ha.o.own.tk (b:=X.heap.size) (t:=nm) (by simp);go_enter func213,ntmps213
     go_wp2_with (first
      | (go_at_call 173;refine(QAdd0 HE.o Hi.o 21 nm nm.text 0).mono ?_;rintro e w5 ⟨rfl,hp⟩;have Hq:=Hd hp;clear hp;have Hp:=Ho;have Hs:=Hr;)
      | (go_at_call 110;refine(aX HE.o Hg.o _).mono ?_;rintro e w4 (⟨ps,hr,rfl,hb⟩|⟨hr,-,rfl,hp⟩);(exact⟨rfl,.er (zi He.o hr) hb⟩);have Hr:=Hd (zh He.o hr);have Hi:=Hd hp;clear hp hr;have Ho:Hid (s.next<_):=Hd (Nat.lt_succ_of_le (Nat.le_of_lt Hl.o));obtain⟨c4_00,c4_01,c4_02⟩:=Hi.o.own.tk (b:=X.heap.size) (t:=nm) (by simp);)
      | (go_at_call 147;refine(QIsP HE.o Hb.o rE rfl H2.o).mono ?_;rintro e w2 ⟨rfl,hp⟩;have Hc:=Hd hp;clear hp;have Hf:=Hk;have Hh:=Hn;obtain⟨c2_00,c2_01,c2_02⟩:=Hc.o.own.tk (b:=X.heap.size) (t:=nm) (by simp);have He:=Hd (zh Hh.o rfl);have Hg:=Hc;have Hl:=Hf)
      | (go_at_call 177;refine(fB HE.o Ha.o _ H1.o).mono ?_;rintro e w1 ⟨rfl,hp⟩;have Hb:=Hd hp;clear hp;have Hk:Hid (s.next<_):=Hd (Nat.lt_succ_of_le Hu.o);have Hn:=Hm;obtain⟨c1_00,c1_01,c1_02⟩:=Hb.o.own.tk (b:=X.heap.size) (t:=nm) (by simp);))
     go_ret;exact .ok Hs.o (Nat.le_of_lt Hp.o) ((Hq.o.drop).less (by omega))
   | false=>
     simp only[h1,h2,if_true,if_false,Bool.false_eq_true,ite_true,ite_false]at hS;have Hm:=Hd hS.symm;have H1:=Hd h1;have H2:=Hd h2;clear hS hT h1 h2
     replace Ha:=Hd (Ha.o.alloc (tkO nm))
     obtain⟨c0_00,c0_01,c0_02⟩:=Ha.o.own.tk (b:=X.heap.size) (t:=nm) (by simp);go_enter func213,ntmps213
     go_wp2_with (first
      | (go_at_call 173;refine(pL HE.o Hi.o 21 nm nm.text 0 Hj.o).mono ?_;rintro e w5 ⟨rfl,hp⟩;have Hq:=Hd hp;clear hp;have Hp:=Ho;have Hs:=Hr;)
      | (go_at_call 110;refine(aX HE.o Hg.o _).mono ?_;rintro e w4 (⟨ps,hr,rfl,hb⟩|⟨hr,-,rfl,hp⟩);(exact⟨rfl,.er (zi He.o hr) hb⟩);have Hr:=Hd (zh He.o hr);have Hi:=Hd hp;clear hp hr;have Ho:Hid (s.next<_):=Hd (Nat.lt_succ_of_le (Nat.le_of_lt Hl.o));obtain⟨c4_00,c4_01,c4_02⟩:=Hi.o.own.tk (b:=X.heap.size) (t:=nm) (by simp);)
      | (go_at_call 174;refine(mU HE.o (fun s2 h2=>Ht.o s2 (Nat.lt_of_lt_of_le Hf.o h2)) Hc.o).mono ?_;rintro e w3 (⟨ps,hr,rfl,hb⟩|⟨l3,s3,q3,cp3,K3,hr,rfl,hn,hc,ha,hp⟩);(exact⟨rfl,.er (zi Hh.o hr) hb⟩);have He:=Hd (zh Hh.o hr);have Hg:=Hd hp;have Hj:=Hd ha;have Hv:=Hd hc;clear hp hr hc ha;have Hl:=Hd (Nat.lt_of_lt_of_le Hf.o hn);clear hn;obtain⟨c3_00,c3_01,c3_02⟩:=Hg.o.own.tk (b:=X.heap.size) (t:=nm) (by simp);)
      | (go_at_call 147;refine(QIsP HE.o Hb.o rE rfl H2.o).mono ?_;rintro e w2 ⟨rfl,hp⟩;have Hc:=Hd hp;clear hp;have Hf:=Hk;have Hh:=Hn;obtain⟨c2_00,c2_01,c2_02⟩:=Hc.o.own.tk (b:=X.heap.size) (t:=nm) (by simp);)
      | (go_at_call 177;refine(fB HE.o Ha.o _ H1.o).mono ?_;rintro e w1 ⟨rfl,hp⟩;have Hb:=Hd hp;clear hp;have Hk:Hid (s.next<_):=Hd (Nat.lt_succ_of_le Hu.o);have Hn:=Hm;obtain⟨c1_00,c1_01,c1_02⟩:=Hb.o.own.tk (b:=X.heap.size) (t:=nm) (by simp);))
     go_ret;exact .ok Hs.o (Nat.le_of_lt Hp.o) ((Hq.o.drop).less (by omega))
 | false=>
   cases h3:isP c.E s AO with
   | true=>
     simp only[h1,h3,if_true,if_false,Bool.false_eq_true,ite_true,ite_false]at hS;have Hm:=Hd hS.symm;have H1:=Hd h1;have H3:=Hd h3;clear hS hT h1 h3
     replace Ha:=Hd (Ha.o.alloc (tkO nm))
     obtain⟨c0_00,c0_01,c0_02⟩:=Ha.o.own.tk (b:=X.heap.size) (t:=nm) (by simp);go_enter func213,ntmps213
     go_wp2_with (first
      | (go_at_call 173;refine(pL HE.o Hi.o 24 nm nm.text 0 Hj.o).mono ?_;rintro e w5 ⟨rfl,hp⟩;have Hq:=Hd hp;clear hp;have Hp:=Ho;have Hs:=Hr;)
      | (go_at_call 110;refine(aX HE.o Hg.o _).mono ?_;rintro e w4 (⟨ps,hr,rfl,hb⟩|⟨hr,-,rfl,hp⟩);(exact⟨rfl,.er (zi He.o hr) hb⟩);have Hr:=Hd (zh He.o hr);have Hi:=Hd hp;clear hp hr;have Ho:Hid (s.next<_):=Hd (Nat.lt_succ_of_le (Nat.le_of_lt Hl.o));obtain⟨c4_00,c4_01,c4_02⟩:=Hi.o.own.tk (b:=X.heap.size) (t:=nm) (by simp);)
      | (go_at_call 174;refine(GL HE.o (fun s2 h2=>Hw.o s2 (Nat.lt_of_lt_of_le Hf.o h2)) Hc.o).mono ?_;rintro e w3 (⟨ps,hr,rfl,hb⟩|⟨l3,s3,q3,cp3,K3,hr,rfl,hn,hc,ha,hp⟩);(exact⟨rfl,.er (zi Hh.o hr) hb⟩);have He:=Hd (zh Hh.o hr);have Hg:=Hd hp;have Hj:=Hd ha;have Hv:=Hd hc;clear hp hr hc ha;have Hl:=Hd (Nat.lt_of_lt_of_le Hf.o hn);clear hn;obtain⟨c3_00,c3_01,c3_02⟩:=Hg.o.own.tk (b:=X.heap.size) (t:=nm) (by simp);)
      | (go_at_call 177;refine(fB HE.o Hb.o _ H3.o).mono ?_;rintro e w2 ⟨rfl,hp⟩;have Hc:=Hd hp;clear hp;have Hf:Hid (s.next<_):=Hd (Nat.lt_succ_of_le Hk.o);have Hh:=Hn;obtain⟨c2_00,c2_01,c2_02⟩:=Hc.o.own.tk (b:=X.heap.size) (t:=nm) (by simp);)
      | (go_at_call 177;refine(cU HE.o Ha.o _ H1.o).mono ?_;rintro e w1 ⟨rfl,hp⟩;have Hb:=Hd hp;clear hp;have Hk:=Hu;have Hn:=Hm;obtain⟨c1_00,c1_01,c1_02⟩:=Hb.o.own.tk (b:=X.heap.size) (t:=nm) (by simp);))
     go_ret;exact .ok Hs.o (Nat.le_of_lt Hp.o) ((Hq.o.drop).less (by omega))
   | false=>
     simp only[h1,h3,if_true,if_false,Bool.false_eq_true,ite_true,ite_false]at hS;have Hm:=Hd hS.symm;have H1:=Hd h1;have H3:=Hd h3;clear hS hT h1 h3
     replace Ha:=Hd (Ha.o.alloc (tkO nm))
     obtain⟨c0_00,c0_01,c0_02⟩:=Ha.o.own.tk (b:=X.heap.size) (t:=nm) (by simp);go_enter func213,ntmps213
     go_wp2_with (first
      | (go_at_call 173;refine(QAdd0 HE.o Hc.o 3 nm nm.text 0).mono ?_;rintro e w3 ⟨rfl,hp⟩;have Hg:=Hd hp;clear hp;have Hl:=Hf;have He:=Hh;)
      | (go_at_call 177;refine(cU HE.o Hb.o _ H3.o).mono ?_;rintro e w2 ⟨rfl,hp⟩;have Hc:=Hd hp;clear hp;have Hf:=Hk;have Hh:=Hn;obtain⟨c2_00,c2_01,c2_02⟩:=Hc.o.own.tk (b:=X.heap.size) (t:=nm) (by simp);)
      | (go_at_call 177;refine(cU HE.o Ha.o _ H1.o).mono ?_;rintro e w1 ⟨rfl,hp⟩;have Hb:=Hd hp;clear hp;have Hk:=Hu;have Hn:=Hm;obtain⟨c1_00,c1_01,c1_02⟩:=Hb.o.own.tk (b:=X.heap.size) (t:=nm) (by simp);))
     go_ret;exact .ok He.o Hl.o ((Hg.o.drop).less (by omega))
theorem LP{c:PC}(he:OkC c){param:RdP}{s:PS}(nm:Tk)(hparam:∀s',s.next<s'.next->zt c 175 param s'):∀(F:List (Nat×Obj)) (d:Nat) (X:World),PQ c s F d X->Calls prog 141 #[c.ptr,tkA nm] X (RdI c F d s.next (lI param c.E nm s)):=by
 intro F d X h;have HE:=Hd he;have Ha:=Hd hparam;have Hb:=Hd h;have Hq:Hid (s.next<=s.next):=Hd nlr;obtain⟨S,hS⟩:∃S,lI param c.E nm s=S:=⟨_,rfl⟩
 try rw[hS]
 unfold lI at hS;obtain⟨T,hT⟩:∃T,zg c.E s=T:=⟨_,rfl⟩
 rw[hT]at hS;have HT:=Hd hT;clear he h hparam;have hd:prog.follows .mixedOrders=true:=by kernel_rfl
 have Hk:=Hd hS.symm;clear hS hT
 replace Hb:=Hd (Hb.o.alloc (tkO nm))
 obtain⟨c0_00,c0_01,c0_02⟩:=Hb.o.own.tk (b:=X.heap.size) (t:=nm) (by simp);go_enter func141,ntmps141
 go_wp2_with (first
  | (go_at_call 173;refine(pL HE.o Hi.o 41 nm T.text 0 Hc.o).mono ?_;rintro e w6 ⟨rfl,hp⟩;have Hw:=Hd hp;clear hp;have Hv:=Hu;have Hy:=Hx;)
  | (go_at_call 110;refine(aX HE.o Hh.o _).mono ?_;rintro e w5 (⟨ps,hr,rfl,hb⟩|⟨hr,-,rfl,hp⟩);(exact⟨rfl,.er (zi Ho.o hr) hb⟩);have Hx:=Hd (zh Ho.o hr);have Hi:=Hd hp;clear hp hr;have Hu:Hid (s.next<_):=Hd (Nat.lt_succ_of_le (Nat.le_of_lt Ht.o));obtain⟨c5_00,c5_01,c5_02⟩:=Hi.o.own.tk (b:=w1.heap.size) (t:=T) (by simp);obtain⟨c5_10,c5_11,c5_12⟩:=Hi.o.own.tk (b:=X.heap.size) (t:=nm) (by simp);)
  | (go_at_call 174;refine(pN HE.o (fun s2 h2=>Ha.o s2 (Nat.lt_of_lt_of_le Hj.o h2)) Hg.o).mono ?_;rintro e w4 (⟨ps,hr,rfl,hb⟩|⟨l4,s4,q4,cp4,K4,hr,rfl,hn,hc,ha,hp⟩);(exact⟨rfl,.er (zi Hn.o hr) hb⟩);have Ho:=Hd (zh Hn.o hr);have Hh:=Hd hp;have Hc:=Hd ha;have Hp:=Hd hc;clear hp hr hc ha;have Ht:=Hd (Nat.lt_of_lt_of_le Hj.o hn);clear hn;obtain⟨c4_00,c4_01,c4_02⟩:=Hh.o.own.tk (b:=w1.heap.size) (t:=T) (by simp);obtain⟨c4_10,c4_11,c4_12⟩:=Hh.o.own.tk (b:=X.heap.size) (t:=nm) (by simp);)
  | (go_at_call 110;refine(aX HE.o Hf.o _).mono ?_;rintro e w3 (⟨ps,hr,rfl,hb⟩|⟨hr,-,rfl,hp⟩);(exact⟨rfl,.er (zi Hm.o hr) hb⟩);have Hn:=Hd (zh Hm.o hr);have Hg:=Hd hp;clear hp hr;have Hj:Hid (s.next<_):=Hd (Nat.lt_succ_of_le (Nat.le_of_lt Hs.o));obtain⟨c3_00,c3_01,c3_02⟩:=Hg.o.own.tk (b:=w1.heap.size) (t:=T) (by simp);obtain⟨c3_10,c3_11,c3_12⟩:=Hg.o.own.tk (b:=X.heap.size) (t:=nm) (by simp);)
  | (go_at_call 110;refine(aX HE.o He.o _).mono ?_;rintro e w2 (⟨ps,hr,rfl,hb⟩|⟨hr,-,rfl,hp⟩);(exact⟨rfl,.er (zi Hl.o hr) hb⟩);have Hm:=Hd (zh Hl.o hr);have Hf:=Hd hp;clear hp hr;have Hs:Hid (s.next<_):=Hd (Nat.lt_succ_of_le (Nat.le_of_lt Hr.o));obtain⟨c2_00,c2_01,c2_02⟩:=Hf.o.own.tk (b:=w1.heap.size) (t:=T) (by simp);obtain⟨c2_10,c2_11,c2_12⟩:=Hf.o.own.tk (b:=X.heap.size) (t:=nm) (by simp);)
  | (go_at_call 171;refine(jC HE.o Hb.o).mono ?_;rintro e w1 (⟨ps,hr,rfl,hb⟩|⟨hr,-,he,hp⟩);(exact⟨rfl,.er (zi Hk.o hr) hb⟩);have q:=zh Hk.o hr;rw[HT.o]at he;subst he;have Hl:=Hd q;have He:=Hd (hp.alloc (tkO T));clear hp hr q;have Hr:Hid (s.next<_):=Hd (Nat.lt_succ_of_le Hq.o);obtain⟨c1_00,c1_01,c1_02⟩:=He.o.own.tk (b:=w1.heap.size) (t:=T) (by simp);obtain⟨c1_10,c1_11,c1_12⟩:=He.o.own.tk (b:=X.heap.size) (t:=nm) (by simp);))
 go_ret;exact .ok Hy.o (Nat.le_of_lt Hv.o) ((Hw.o.drop.drop).less (by omega))
theorem QK{c:PC}(he:OkC c){expr put:RdP}{s:PS}(hexpr:∀s',s.next<s'.next->zt c 179 expr s')(hput:∀s',s.next<s'.next->zt c 214 put s'):zt c 212 (DY expr put c.E) s:=by
 intro F d X h;have HE:=Hd he;have Hl:=Hd hexpr;have HB:=Hd hput;have Hw:=Hd h;have Hu:Hid (s.next<=s.next):=Hd nlr;obtain⟨S,hS⟩:∃S,DY expr put c.E s=S:=⟨_,rfl⟩
 try rw[hS]
 unfold DY at hS;obtain⟨T,hT⟩:∃T,zg c.E s=T:=⟨_,rfl⟩
 rw[hT]at hS;have HT:=Hd hT;clear he h hexpr hput;have hg:prog.follows .mixedOrders=true:=by kernel_rfl
 cases h0:(T.kind==2)with
 | true=>
   simp only[h0,if_true,if_false,Bool.false_eq_true,ite_true,ite_false]at hS;have Hh:=Hd hS.symm;have H0:=Hd h0;clear hS hT;go_enter func212,ntmps212
   go_wp2_with (first
    | (go_at_call 173;refine(QAdd0 HE.o Ha.o 1 T [] v).mono ?_;rintro e w3 ⟨rfl,hp⟩;have Hc:=Hd hp;clear hp;have Hg:=Hf;have Hk:=Hj;)
    | (go_at_call 178;refine(kC HE.o Hb.o).mono ?_;rintro e w2 (⟨ps,hr,rfl,hb⟩|⟨hr,-,he,hd,hf,hp⟩);(exact absurd (hr.symm.trans (MN HT.o H0.o)) (by simp));have q:=Hi.o;rw[HT.o]at he hd hf;subst he;obtain⟨v,hv⟩:∃v,valP T.text=v:=⟨_,rfl⟩;rw[hv]at q hd hf;rw[hv];clear hv;(try simp only[Int.neg_mul,Int.one_mul]at q);have Hj:=Hd q;have Ha:=Hd (hp.alloc (tkO T));clear hp hr q;have Hf:Hid (s.next<_):=Hd (Nat.lt_succ_of_le He.o);obtain⟨c2_00,c2_01,c2_02⟩:=Ha.o.own.tk (b:=w2.heap.size) (t:=T) (by simp);obtain⟨c2_10,c2_11,c2_12⟩:=Ha.o.own.tk (b:=w1.heap.size) (t:=T) (by simp);)
    | (go_at_call 107;refine(zS HE.o Hw.o HT.o).mono ?_;rintro e w1 ⟨rfl,hp⟩;have Hb:=Hd (hp.alloc (tkO T));clear hp;have He:=Hu;have Hi:=Hh;obtain⟨c1_00,c1_01,c1_02⟩:=Hb.o.own.tk (b:=w1.heap.size) (t:=T) (by simp);))
   go_ret;exact .ok Hk.o (Nat.le_of_lt Hg.o) ((Hc.o.drop.drop).less (by omega))
 | false=>
   cases h1:isP c.E s RQ with
   | true=>
     simp only[h0,h1,if_true,if_false,Bool.false_eq_true,ite_true,ite_false]at hS;have Hh:=Hd hS.symm;have H0:=Hd h0;have H1:=Hd h1;clear hS hT h1;go_enter func212,ntmps212
     go_wp2_with (first
      | (go_at_call 173;refine(QAdd0 HE.o Ha.o 2 T [] 1).mono ?_;rintro e w3 ⟨rfl,hp⟩;have Hc:=Hd hp;clear hp;have Hg:=Hf;have Hk:=Hj;)
      | (go_at_call 177;refine(fB HE.o Hb.o _ H1.o).mono ?_;rintro e w2 ⟨rfl,hp⟩;have Ha:=Hd hp;clear hp;have Hf:Hid (s.next<_):=Hd (Nat.lt_succ_of_le He.o);have Hj:=Hi;obtain⟨c2_00,c2_01,c2_02⟩:=Ha.o.own.tk (b:=w1.heap.size) (t:=T) (by simp);)
      | (go_at_call 107;refine(zS HE.o Hw.o HT.o).mono ?_;rintro e w1 ⟨rfl,hp⟩;have Hb:=Hd (hp.alloc (tkO T));clear hp;have He:=Hu;have Hi:=Hh;obtain⟨c1_00,c1_01,c1_02⟩:=Hb.o.own.tk (b:=w1.heap.size) (t:=T) (by simp);))
     go_ret;exact .ok Hk.o (Nat.le_of_lt Hg.o) ((Hc.o.drop).less (by omega))
   | false=>
     cases h2:isP c.E s OO with
     | true=>
       simp only[h0,h1,h2,if_true,if_false,Bool.false_eq_true,ite_true,ite_false]at hS;have Hh:=Hd hS.symm;have H0:=Hd h0;have H1:=Hd h1;have H2:=Hd h2;clear hS hT h1 h2;go_enter func212,ntmps212
       go_wp2_with (first
        | (go_at_call 173;refine(QAdd0 HE.o Hc.o 2 T [] 0).mono ?_;rintro e w4 ⟨rfl,hp⟩;have Hm:=Hd hp;clear hp;have Hn:=Hg;have Hq:=Hk;)
        | (go_at_call 177;refine(fB HE.o Ha.o _ H2.o).mono ?_;rintro e w3 ⟨rfl,hp⟩;have Hc:=Hd hp;clear hp;have Hg:Hid (s.next<_):=Hd (Nat.lt_succ_of_le Hf.o);have Hk:=Hj;obtain⟨c3_00,c3_01,c3_02⟩:=Hc.o.own.tk (b:=w1.heap.size) (t:=T) (by simp);)
        | (go_at_call 177;refine(cU HE.o Hb.o _ H1.o).mono ?_;rintro e w2 ⟨rfl,hp⟩;have Ha:=Hd hp;clear hp;have Hf:=He;have Hj:=Hi;obtain⟨c2_00,c2_01,c2_02⟩:=Ha.o.own.tk (b:=w1.heap.size) (t:=T) (by simp);)
        | (go_at_call 107;refine(zS HE.o Hw.o HT.o).mono ?_;rintro e w1 ⟨rfl,hp⟩;have Hb:=Hd (hp.alloc (tkO T));clear hp;have He:=Hu;have Hi:=Hh;obtain⟨c1_00,c1_01,c1_02⟩:=Hb.o.own.tk (b:=w1.heap.size) (t:=T) (by simp);))
       go_ret;exact .ok Hq.o (Nat.le_of_lt Hn.o) ((Hm.o.drop).less (by omega))
     | false=>
       cases h3:isP c.E s JY with
       | true=>
         simp only[h0,h1,h2,h3,if_true,if_false,Bool.false_eq_true,ite_true,ite_false]at hS;have Hh:=Hd hS.symm;have H0:=Hd h0;have H1:=Hd h1;have H2:=Hd h2;have H3:=Hd h3;clear hS hT h1 h2 h3;go_enter func212,ntmps212
         go_wp2_with (first
          | (go_at_call 110;refine(aX HE.o Ho.o _).mono ?_;rintro e w6 (⟨ps,hr,rfl,hb⟩|⟨hr,-,rfl,hp⟩);(exact⟨rfl,.er (zi Hr.o hr) hb⟩);have Ht:=Hd (zh Hr.o hr);have Hp:=Hd hp;clear hp hr;have Hs:Hid (s.next<_):=Hd (Nat.lt_succ_of_le (Nat.le_of_lt Hv.o));obtain⟨c6_00,c6_01,c6_02⟩:=Hp.o.own.tk (b:=w1.heap.size) (t:=T) (by simp);)
          | (go_at_call 179;refine(Hl.o _ Hn.o _ _ _ Hm.o).mono ?_;rintro e w5 (⟨ps,hr,rfl,hb⟩|⟨a5,s5,hr,rfl,hn,hp⟩);(exact⟨rfl,.er (zi Hq.o hr) hb⟩);have Hr:=Hd (zh Hq.o hr);have Ho:=Hd hp;clear hp hr;have Hv:=Hd (Nat.lt_of_lt_of_le Hn.o hn);clear hn;obtain⟨c5_00,c5_01,c5_02⟩:=Ho.o.own.tk (b:=w1.heap.size) (t:=T) (by simp);)
          | (go_at_call 177;refine(fB HE.o Hc.o _ H3.o).mono ?_;rintro e w4 ⟨rfl,hp⟩;have Hm:=Hd hp;clear hp;have Hn:Hid (s.next<_):=Hd (Nat.lt_succ_of_le Hg.o);have Hq:=Hk;obtain⟨c4_00,c4_01,c4_02⟩:=Hm.o.own.tk (b:=w1.heap.size) (t:=T) (by simp);)
          | (go_at_call 177;refine(cU HE.o Ha.o _ H2.o).mono ?_;rintro e w3 ⟨rfl,hp⟩;have Hc:=Hd hp;clear hp;have Hg:=Hf;have Hk:=Hj;obtain⟨c3_00,c3_01,c3_02⟩:=Hc.o.own.tk (b:=w1.heap.size) (t:=T) (by simp);)
          | (go_at_call 177;refine(cU HE.o Hb.o _ H1.o).mono ?_;rintro e w2 ⟨rfl,hp⟩;have Ha:=Hd hp;clear hp;have Hf:=He;have Hj:=Hi;obtain⟨c2_00,c2_01,c2_02⟩:=Ha.o.own.tk (b:=w1.heap.size) (t:=T) (by simp);)
          | (go_at_call 107;refine(zS HE.o Hw.o HT.o).mono ?_;rintro e w1 ⟨rfl,hp⟩;have Hb:=Hd (hp.alloc (tkO T));clear hp;have He:=Hu;have Hi:=Hh;obtain⟨c1_00,c1_01,c1_02⟩:=Hb.o.own.tk (b:=w1.heap.size) (t:=T) (by simp);))
         go_ret;exact .ok Ht.o (Nat.le_of_lt Hs.o) ((Hp.o.drop).less (by omega))
       | false=>
         cases h4:isP c.E s jV with
         | true=>
           simp only[h0,h1,h2,h3,h4,if_true,if_false,Bool.false_eq_true,ite_true,ite_false]at hS;have Hh:=Hd hS.symm;have H0:=Hd h0;have H1:=Hd h1;have H2:=Hd h2;have H3:=Hd h3;have H4:=Hd h4;clear hS hT h1 h2 h3 h4;go_enter func212,ntmps212
           go_wp2_with (first
            | (go_at_call 173;refine(pL HE.o Hx.o 26 T [] 0 Hy.o).mono ?_;rintro e w8 ⟨rfl,hp⟩;have HF:=Hd hp;clear hp;have HD:=Hz;have HG:=HA;)
            | (go_at_call 110;refine(aX HE.o Hp.o _).mono ?_;rintro e w7 (⟨ps,hr,rfl,hb⟩|⟨hr,-,rfl,hp⟩);(exact⟨rfl,.er (zi Ht.o hr) hb⟩);have HA:=Hd (zh Ht.o hr);have Hx:=Hd hp;clear hp hr;have Hz:Hid (s.next<_):=Hd (Nat.lt_succ_of_le (Nat.le_of_lt Hs.o));obtain⟨c7_00,c7_01,c7_02⟩:=Hx.o.own.tk (b:=w1.heap.size) (t:=T) (by simp);)
            | (go_at_call 174;refine(mU HE.o (fun s2 h2=>Hl.o s2 (Nat.lt_of_lt_of_le Hv.o h2)) Ho.o).mono ?_;rintro e w6 (⟨ps,hr,rfl,hb⟩|⟨l6,s6,q6,cp6,K6,hr,rfl,hn,hc,ha,hp⟩);(exact⟨rfl,.er (zi Hr.o hr) hb⟩);have Ht:=Hd (zh Hr.o hr);have Hp:=Hd hp;have Hy:=Hd ha;have HC:=Hd hc;clear hp hr hc ha;have Hs:=Hd (Nat.lt_of_lt_of_le Hv.o hn);clear hn;obtain⟨c6_00,c6_01,c6_02⟩:=Hp.o.own.tk (b:=w1.heap.size) (t:=T) (by simp);)
            | (go_at_call 177;refine(fB HE.o Hm.o _ H4.o).mono ?_;rintro e w5 ⟨rfl,hp⟩;have Ho:=Hd hp;clear hp;have Hv:Hid (s.next<_):=Hd (Nat.lt_succ_of_le Hn.o);have Hr:=Hq;obtain⟨c5_00,c5_01,c5_02⟩:=Ho.o.own.tk (b:=w1.heap.size) (t:=T) (by simp);)
            | (go_at_call 177;refine(cU HE.o Hc.o _ H3.o).mono ?_;rintro e w4 ⟨rfl,hp⟩;have Hm:=Hd hp;clear hp;have Hn:=Hg;have Hq:=Hk;obtain⟨c4_00,c4_01,c4_02⟩:=Hm.o.own.tk (b:=w1.heap.size) (t:=T) (by simp);)
            | (go_at_call 177;refine(cU HE.o Ha.o _ H2.o).mono ?_;rintro e w3 ⟨rfl,hp⟩;have Hc:=Hd hp;clear hp;have Hg:=Hf;have Hk:=Hj;obtain⟨c3_00,c3_01,c3_02⟩:=Hc.o.own.tk (b:=w1.heap.size) (t:=T) (by simp);)
            | (go_at_call 177;refine(cU HE.o Hb.o _ H1.o).mono ?_;rintro e w2 ⟨rfl,hp⟩;have Ha:=Hd hp;clear hp;have Hf:=He;have Hj:=Hi;obtain⟨c2_00,c2_01,c2_02⟩:=Ha.o.own.tk (b:=w1.heap.size) (t:=T) (by simp);)
            | (go_at_call 107;refine(zS HE.o Hw.o HT.o).mono ?_;rintro e w1 ⟨rfl,hp⟩;have Hb:=Hd (hp.alloc (tkO T));clear hp;have He:=Hu;have Hi:=Hh;obtain⟨c1_00,c1_01,c1_02⟩:=Hb.o.own.tk (b:=w1.heap.size) (t:=T) (by simp);))
           go_ret;exact .ok HG.o (Nat.le_of_lt HD.o) ((HF.o.drop).less (by omega))
         | false=>
           simp only[h0,h1,h2,h3,h4,if_true,if_false,Bool.false_eq_true,ite_true,ite_false]at hS;have Hh:=Hd hS.symm;have H0:=Hd h0;have H1:=Hd h1;have H2:=Hd h2;have H3:=Hd h3;have H4:=Hd h4;clear hS hT h1 h2 h3 h4;go_enter func212,ntmps212
           go_wp2_with (first
            | (go_at_call 213;refine(OS HE.o T (fun s2 h2=>Hl.o s2 (Nat.lt_trans Hs.o h2)) (fun s2 h2=>HB.o s2 (Nat.lt_trans Hs.o h2)) _ _ _ Hp.o).mono ?_;rintro e w7 (⟨ps,hr,rfl,hb⟩|⟨a7,s7,hr,rfl,hn,hp⟩);(exact⟨rfl,.er (Ht.o.trans hr) hb⟩);have HA:=Hd (Ht.o.trans hr);have Hx:=Hd hp;clear hp hr;have Hz:=Hd (Nat.lt_of_lt_of_le Hs.o hn);clear hn;obtain⟨c7_00,c7_01,c7_02⟩:=Hx.o.own.tk (b:=w1.heap.size) (t:=T) (by simp);)
            | (go_at_call 171;refine(jC HE.o Ho.o).mono ?_;rintro e w6 (⟨ps,hr,rfl,hb⟩|⟨hr,-,he,hp⟩);(exact⟨rfl,.er (zi Hr.o hr) hb⟩);have q:=zh Hr.o hr;rw[HT.o]at he;subst he;have Ht:=Hd q;have Hp:=Hd hp;clear hp hr q;have Hs:Hid (s.next<_):=Hd (Nat.lt_succ_of_le Hv.o);obtain⟨c6_00,c6_01,c6_02⟩:=Hp.o.own.tk (b:=w1.heap.size) (t:=T) (by simp);)
            | (go_at_call 177;refine(cU HE.o Hm.o _ H4.o).mono ?_;rintro e w5 ⟨rfl,hp⟩;have Ho:=Hd hp;clear hp;have Hv:=Hn;have Hr:=Hq;obtain⟨c5_00,c5_01,c5_02⟩:=Ho.o.own.tk (b:=w1.heap.size) (t:=T) (by simp);)
            | (go_at_call 177;refine(cU HE.o Hc.o _ H3.o).mono ?_;rintro e w4 ⟨rfl,hp⟩;have Hm:=Hd hp;clear hp;have Hn:=Hg;have Hq:=Hk;obtain⟨c4_00,c4_01,c4_02⟩:=Hm.o.own.tk (b:=w1.heap.size) (t:=T) (by simp);)
            | (go_at_call 177;refine(cU HE.o Ha.o _ H2.o).mono ?_;rintro e w3 ⟨rfl,hp⟩;have Hc:=Hd hp;clear hp;have Hg:=Hf;have Hk:=Hj;obtain⟨c3_00,c3_01,c3_02⟩:=Hc.o.own.tk (b:=w1.heap.size) (t:=T) (by simp);)
            | (go_at_call 177;refine(cU HE.o Hb.o _ H1.o).mono ?_;rintro e w2 ⟨rfl,hp⟩;have Ha:=Hd hp;clear hp;have Hf:=He;have Hj:=Hi;obtain⟨c2_00,c2_01,c2_02⟩:=Ha.o.own.tk (b:=w1.heap.size) (t:=T) (by simp);)
            | (go_at_call 107;refine(zS HE.o Hw.o HT.o).mono ?_;rintro e w1 ⟨rfl,hp⟩;have Hb:=Hd (hp.alloc (tkO T));clear hp;have He:=Hu;have Hi:=Hh;obtain⟨c1_00,c1_01,c1_02⟩:=Hb.o.own.tk (b:=w1.heap.size) (t:=T) (by simp);))
           go_ret;exact .ok HA.o (Nat.le_of_lt Hz.o) ((Hx.o.drop).less (by omega))
theorem PQg.alloc{c:PC}{s:PS}{F:List (Nat×Obj)}{G:Nat->Prop}{X:World}(h:PQg c s F G X)(o:Obj):PQg c s ((X.heap.size,o)::F) G (X.alloc o):=by
 have ha:=h.par.lt;have hb:=(Below.refl X.heap.size X).alloc nlr o;refine⟨h.par.grow hb,?_,?_,?_⟩
 .intro p hp
  rcases List.mem_cons.1 hp with rfl|hp
  .exact World.alloc_heap_new X o
  .exact(hb.block p.1 (Array.getElem?_eq_some_iff.1 (h.own p hp)).1).trans (h.own p hp)
 .intro p hp
  rcases List.mem_cons.1 hp with rfl|hp
  .exact⟨ha,fun e=>by have:=(h.par.mem _ e).2;simp only at this;omega⟩
  .exact h.out p hp
 .refine List.nodup_cons.2 ⟨fun e=>?_,h.nd⟩
  obtain⟨p,hp,e⟩:=List.mem_map.1 e;have:=(Array.getElem?_eq_some_iff.1 (h.own p hp)).1;simp only at e;omega
theorem PQg.below{c:PC}{s:PS}{F:List (Nat×Obj)}{G:Nat->Prop}{X Y:World}(h:PQg c s F G X)(hb:Below X.heap.size X Y):PQg c s F G Y:=
 ⟨h.par.grow hb,fun p hp=>(hb.block p.1 (Array.getElem?_eq_some_iff.1 (h.own p hp)).1).trans (h.own p hp),h.out,h.nd⟩
theorem PQg.turned{c:PC}{s:PS}{b:Nat}{o:Obj}{F:List (Nat×Obj)}{G:Nat->Prop}{X Y:World}(h:PQg c s ((b,o)::F) G X)(ht:Turns (fun i=>i=b) X Y):PQg c s F G Y:=by
 obtain⟨h1,h2⟩:=h.out (b,o) (List.mem_cons_self ..);have hn:=List.nodup_cons.1 h.nd;refine⟨h.par.turns ht (fun i hi e=>h2 (by subst e;exact hi)) (fun i e=>by subst e;simp only at h1;omega),fun p hp=>?_,fun p hp=>h.out p (List.mem_cons_of_mem _ hp),hn.2⟩;have h3:=h.own p (List.mem_cons_of_mem _ hp);exact(ht.block p.1 (Array.getElem?_eq_some_iff.1 h3).1 (fun e=>hn.1 (by show b∈_;rw[<-e];exact List.mem_map_of_mem hp))).trans h3
theorem OD{c:PC}(he:OkC c){s:PS}{F:List (Nat×Obj)}{G:Nat->Prop}{X:World}(h:PQg c s F G X){T:Tk}(hT:zg c.E s=T) :
 Calls prog 107 #[c.ptr] X fun e Y=>e=.returned (tkA T)/\PQg c s F G Y/\StepG G X G Y:=by
 refine(QLook2 he h.par hT).mono ?_;rintro e w⟨rfl,hb⟩;exact⟨rfl,h.below hb,StepG.of_below hb (fun i hi=>(h.par.mem i hi).2)⟩
theorem QO{c:PC}(he:OkC c){s:PS}{F:List (Nat×Obj)}{G:Nat->Prop}{X:World}(h:PQg c s F G X){T:Tk}(hT:zg c.E s=T)(hlt:s.next<c.E.toks.length) :
 Calls prog 109 #[c.ptr] X fun e Y=>e=.returned (tkA T)/\PQg c s.take F G Y/\StepG G X G Y:=by
 refine(uZ he h.par hT hlt).mono ?_;rintro e w⟨rfl,hp,hs⟩;exact⟨rfl,h.step hp hs,hs⟩
def RdG(c:PC)(F:List (Nat×Obj))(G:Nat->Prop)(X:World)(s:PS)(S:PR PS)(e:Ending)(Y:World):Prop:=
 (∃pos,S=.error pos/\Thrown c.w0 pos e Y)\/(S=.ok s.take/\s.next<c.E.toks.length/\e=.returned (tkA (zg c.E s))/\PQg c s.take F G Y/\StepG G X G Y)
theorem wU{c:PC}{s:PS}{F:List (Nat×Obj)}{G:Nat->Prop}{X w2 Y:World}{o:Obj}(h:PQg c s F G X)(hs:StepG G (X.alloc o) G w2)(ht:Turns (fun i=>i=X.heap.size) w2 Y):StepG G X G Y:=by
 have hm:∀i,G i->i<X.heap.size:=fun i hi=>(h.par.mem i hi).2;have h1:Turns G X w2:=(Turns.alloc G X o).trans hs.turns;refine⟨⟨ht.os.trans h1.os,ht.tape.trans h1.tape,ht.output.trans h1.output,Nat.le_trans h1.size ht.size,fun k hk hn=>?_⟩,fun _ h=>h,fun _ h=>.inl h,fun i hi=>Nat.lt_of_lt_of_le (hm i hi) (Nat.le_trans h1.size ht.size)⟩;exact(ht.block k (Nat.lt_of_lt_of_le hk h1.size) (by omega)).trans (h1.block k hk hn)
theorem QM{c:PC}(he:OkC c){s:PS}{F:List (Nat×Obj)}{G:Nat->Prop}{X:World}(h:PQg c s F G X)(kd:Int)(hk0:kd≠0) :
 Calls prog 198 #[c.ptr,.int .u8 kd] X (RdG c F G X s (bX c.E s kd)):=by
 have HE:=Hd he;have HP:=Hd h;clear he h;obtain⟨T,hT⟩:∃T,zg c.E s=T:=⟨_,rfl⟩
 have Ha:=Hd hT;obtain⟨k,tx,pos⟩:=T;cases ht:(k==kd)with
 | true=>
   have hd:s.next<c.E.toks.length:=qM hk0 (by rw[hT];exact eq_of_beq ht);have HS:Hid (bX c.E s kd=.ok s.take):=Hd (by unfold bX;rw[hT];simp only[ht];rfl);have hi:(k != kd)=false:=by simp[bne,ht]
   clear ht hT hk0;go_enter func198,ntmps198
   go_wp2_with (first
    | (go_at_call 107;refine(OD HE.o (HP.o.alloc tkZ) Ha.o).mono ?_;rintro e w1 ⟨rfl,ha,hc⟩;have Hb:=Hd ha;have He:=Hd hc;clear ha hc)
    | (go_at_call 109;refine(QO HE.o Hb.o Ha.o hd).mono ?_;rintro e w2 ⟨rfl,hb,hf⟩;obtain⟨⟨z0,z1,z2⟩,zf,hj⟩:=hb.own.tkz (List.mem_cons_self ..);have zf0:=zf 0;have zf1:=zf 1;have zf2:=zf 2;clear zf;have Hc:=Hd hb;have Hf:=Hd (He.o.trans hf);clear hb hf))
   obtain⟨Y,hY,⟨y0,y1,y2⟩,hg⟩:=sS (.int .u8 k) (.string ⟨tx.toArray⟩) (intV pos) z0 z1 z2;rw[hY];clear hY;refine bodyPost_ret (by simp[results,results198,go_sem,loadVar,y0,y1,y2,Result.andThen];rfl) rfl ?_;exact .inr ⟨HS.o,hd,by rw[Ha.o],Hc.o.turned hg,wU HP.o Hf.o hg⟩
 | false=>
   have HS:Hid (bX c.E s kd=.error pos):=Hd (by unfold bX;rw[hT];simp only[ht];rfl);have hi:(k != kd)=true:=by simp[bne,ht]
   clear ht hT hk0;go_enter func198,ntmps198
   go_wp2_with (first
    | (go_at_call 107;refine(OD HE.o (HP.o.alloc tkZ) Ha.o).mono ?_;rintro e w1 ⟨rfl,ha,hc⟩;have Hb:=Hd ha;clear ha)
    | (go_at_call 108;refine(uX HE.o Hb.o.par Ha.o).mono ?_;rintro e w2 ⟨rfl,hh⟩))
   exact⟨rfl,.inl ⟨pos,HS.o,rfl,hh⟩⟩
theorem QN{c:PC}(he:OkC c){s:PS}{F:List (Nat×Obj)}{G:Nat->Prop}{X:World}(h:PQg c s F G X) :
 Calls prog 171 #[c.ptr] X (RdG c F G X s (bX c.E s 1)):=by
 have HE:=Hd he;have HP:=Hd h;clear he h;obtain⟨T,hT⟩:∃T,zg c.E s=T:=⟨_,rfl⟩
 have Ha:=Hd hT;obtain⟨k,tx,pos⟩:=T;clear hT;go_enter func171,ntmps171
 go_wp2_with (go_at_call 198;refine(QM HE.o (HP.o.alloc tkZ) 1 (by decide)).mono ?_;rintro e w2 (⟨ps,hr,rfl,hb⟩|⟨hr,hf,he,ha,hc⟩);(exact⟨rfl,.inl ⟨ps,hr,rfl,hb⟩⟩);rw[Ha.o]at he;subst he;obtain⟨⟨z0,z1,z2⟩,zf,hg⟩:=ha.own.tkz (List.mem_cons_self ..);have zf0:=zf 0;have zf1:=zf 1;have zf2:=zf 2;clear zf;have Hb:=Hd ha;have Hc:=Hd hc;have HR:=Hd hr;clear ha hr hc)
 obtain⟨Y,hY,⟨y0,y1,y2⟩,hd⟩:=sS (.int .u8 k) (.string ⟨tx.toArray⟩) (intV pos) z0 z1 z2;rw[hY];clear hY;refine bodyPost_ret (by simp[results,results171,go_sem,loadVar,y0,y1,y2,Result.andThen];rfl) rfl ?_;exact .inr ⟨HR.o,hf,by rw[Ha.o],Hb.o.turned hd,wU HP.o Hc.o hd⟩
end
end Go.Proofs.YthjpoaannjgdmaaGreatDoor
