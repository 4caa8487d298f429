/- Part of a proof. -/
import Derived.Test.YtcdkdiedphhdhaaGreatDoorK02
import Derived.Test.YtcdkdiedphhdhaaGreatDoorK16
import Derived.Test.YtcdkdiedphhdhaaGreatDoorK24
import Derived.Lib.AtoiErrMem
set_option maxRecDepth 100000
set_option maxHeartbeats 8000000
set_option linter.unusedVariables false
set_option linter.unusedSimpArgs false
open Go.Proofs.Tryz
namespace Go.Proofs.YtcdkdiedphhdhaaGreatDoor
section
open Go Go.RowKit
theorem pS{c:UInt8}(h:aF c=true):Lib.digitVal c=some (c.toNat-48)/\48<=c.toNat/\c.toNat<=57:=by
 have h2:48<=c.toNat/\c.toNat<=57:=by simp only[aF,pR,Bool.and_eq_true,decide_eq_true_eq]at h;omega
 exact⟨by unfold Lib.digitVal;rw[if_pos h2],h2⟩
theorem kU:∀(l:List UInt8) (acc:Nat),(∀c∈l,aF c=true)->∃n:Nat,Lib.decFrom acc l=some n/\(n:Int)=l.foldl (fun a c=>a*10+((c.toNat:Int)-48)) (acc:Int)
 | [],acc,_=>⟨acc,rfl,rfl⟩
 | c::l,acc,h=>by
   obtain⟨h1,h2,h3⟩:=pS (h c (by simp));obtain⟨n,hn,e⟩:=kU l (acc*10+(c.toNat-48)) (fun x hx=>h x (List.mem_cons_of_mem _ hx));refine⟨n,by simp only[Lib.decFrom,h1];exact hn,?_⟩;rw[e,List.foldl_cons];congr 1;omega
theorem xA:∀(l:List UInt8) (acc:Int),0<=acc->(∀c∈l,aF c=true)->0<=l.foldl (fun a c=>a*10+((c.toNat:Int)-48)) acc/\l.foldl (fun a c=>a*10+((c.toNat:Int)-48)) acc<(acc+1)*10 ^ l.length
 | [],acc,h0,_=>by simp;omega
 | c::l,acc,h0,h=>by
   obtain⟨h1,h2,h3⟩:=pS (h c (by simp));obtain⟨a,b⟩:=xA l (acc*10+((c.toNat:Int)-48)) (by omega) (fun x hx=>h x (List.mem_cons_of_mem _ hx));refine⟨by rw[List.foldl_cons];exact a,?_⟩;rw[List.foldl_cons];refine Int.lt_of_lt_of_le b ?_;rw[List.length_cons,Int.pow_succ,Int.mul_comm (10 ^ l.length) 10,<-Int.mul_assoc];exact Int.mul_le_mul_of_nonneg_right (by omega) (Int.le_of_lt (Int.pow_pos (by decide)))
theorem JF{s:List UInt8}(h:tokF s=(2,s)):s≠[]/\(∀c∈s,aF c=true)/\s.length<=4:=by
 unfold tokF at h
 cases s with
 |nil=>cases h
 | cons c l=>
   simp only at h;split at h
   .split at h
    .simp at h
    .split at h<;>simp at h
   .split at h
    .split at h
     .rename_i hn
      have e:(c::l).takeWhile aF=c::l:=(Prod.mk.inj h).2;rw[e]at hn;refine⟨by simp,fun x hx=>?_,?_⟩
      .rw[<-e]at hx
       exact List.all_eq_true.1 (List.all_takeWhile (p:=aF) (l:=c::l)) x hx
      .unfold numB at hn
       simp only[Bool.and_eq_true,decide_eq_true_eq]at hn;exact hn.1
     .simp at h
    .split at h<;>simp at h
theorem nD{s:List UInt8}(h:tokF s=(2,s)):Lib.atoi s=some (valP s)/\0<=valP s/\valP s<=9999:=by
 obtain⟨h0,hd,h4⟩:=JF h;obtain⟨n,hn,e⟩:=kU s 0 hd;obtain⟨a,b⟩:=xA s 0 (by omega) hd;have hv:valP s=(n:Int):=by rw[e];rfl
 refine⟨?_,by rw[hv,e];exact a,?_⟩
 .cases s with
  |nil=>exact absurd rfl h0
  | cons c l=>
    obtain⟨-,h2,h3⟩:=pS (hd c (by simp))
    have e1:(c==45)=false:=by
     rw[beq_eq_false_iff_ne];rintro rfl;simp at h2
    have e2:(c==43)=false:=by
     rw[beq_eq_false_iff_ne];rintro rfl;simp at h2
    rw[hv];simp[Lib.atoi,e1,e2,Lib.decNat,hn]
 .have hp:(10:Int) ^ s.length<=10 ^ 4:=by
   have:=Nat.pow_le_pow_right (n:=10) (by decide) h4
   exact_mod_cast this
  have b':valP s<1*10 ^ s.length:=by simpa[valP]using b
  omega
theorem GR(s:List UInt8)(w:World)(hg:GV w)(h:tokF s=(2,s)) :
 Calls prog 212 #[strV s] w fun e w'=>e=.returned (.tuple #[intV (valP s),intV 0])/\Below w.heap.size w w':=by
 obtain⟨h0,hd,h4⟩:=JF h;obtain⟨hv,hb,hc⟩:=nD h;have HK:=Hd (uX s w (by omega) hg);have HA:Hid (∀W,Calls prog 49 #[.string ⟨s.toArray⟩] W fun e w'=>e=.returned (.tuple #[.int .i64 (valP s),.nilIface])/\∃t,w'=Lib.bytesWorld W 5 t):=Hd (fun W=>Tryz.strconv_Atoi ⟨s.toArray⟩ (valP s) (by simp[ByteArray.size];omega) hv W);have HE:Hid ((if (tokF s).1 != 0&&(tokF s).2==s then (tokF s).1 else 0)=2/\(if (tokF s).1 != 0&&(tokF s).2==s then (0:Int)else 4)=0):=Hd (by rw[h];simp);clear h hv h0 hd hg;go_enter func212,ntmps212
 go_wp2_with (first
  | (go_at_call 54;refine HK.o.mono ?_;rw[HE.o.1,HE.o.2];rintro e w1 ⟨rfl,ha⟩;have Ha:=Hd ha;clear ha)
  | (go_at_call 49;refine(HA.o _).mono ?_;rintro e w2 ⟨rfl,t,rfl⟩))
 go_ret2
 exact⟨rfl,Ha.o.trans (Below.mono (Lib.bytesWorld_below _ _ _) (Ha.o.size))⟩
theorem OG{c:PC}(he:OkC c){s:PS}{F:List (Nat×Obj)}{d:Nat}{X:World}(h:PQ c s F d X)(kd:Int)(hk0:kd≠0) :
 Calls prog 211 #[c.ptr,.int .u8 kd] X (RdT c F d s (bU c.E s kd)):=by
 have HE:=Hd he;have HP:=Hd h;clear he h;obtain⟨T,hT⟩:∃T,zh c.E s=T:=⟨_,rfl⟩
 have Ha:=Hd hT;obtain⟨k,tx,pos⟩:=T;cases ht:(k==kd)with
 | true=>
   have hc:s.next<c.E.toks.length:=qH hk0 (by rw[hT];exact eq_of_beq ht);have HS:Hid (bU c.E s kd=.ok s.take):=Hd (by unfold bU;rw[hT];simp only[ht];rfl);have hf:(k != kd)=false:=by simp[bne,ht]
   clear ht hT hk0;go_enter func211,ntmps211
   go_wp2_with (first
    | (go_at_call 131;refine(cU HE.o (HP.o.alloc tkZ) Ha.o).mono ?_;rintro e w1 ⟨rfl,ha⟩;have Hb:=Hd ha;clear ha)
    | (go_at_call 133;refine(lR HE.o Hb.o Ha.o hc).mono ?_;rintro e w2 ⟨rfl,hb⟩;obtain⟨⟨z0,z1,z2⟩,zf,hh⟩:=hb.own.tkz (List.mem_cons_self ..);have zf0:=zf 0;have zf1:=zf 1;have zf2:=zf 2;clear zf;have Hc:=Hd hb;clear hb))
   obtain⟨Y,hY,⟨y0,y1,y2⟩,hg⟩:=sP (.int .u8 k) (.string ⟨tx.toArray⟩) (intV pos) z0 z1 z2;rw[hY];clear hY;refine bodyPost_ret (by simp[results,results211,go_sem,loadVar,y0,y1,y2,Result.andThen];rfl) rfl ?_;exact .inr ⟨HS.o,hc,by rw[Ha.o],Hc.o.turned hg⟩
 | false=>
   have HS:Hid (bU c.E s kd=.error pos):=Hd (by unfold bU;rw[hT];simp only[ht];rfl);have hf:(k != kd)=true:=by simp[bne,ht]
   clear ht hT hk0;go_enter func211,ntmps211
   go_wp2_with (first
    | (go_at_call 131;refine(cU HE.o (HP.o.alloc tkZ) Ha.o).mono ?_;rintro e w1 ⟨rfl,ha⟩;have Hb:=Hd ha;clear ha)
    | (go_at_call 132;refine(pI HE.o Hb.o Ha.o).mono ?_;rintro e w2 ⟨rfl,hd⟩))
   exact⟨rfl,.inl ⟨pos,HS.o,rfl,hd⟩⟩
theorem QS{c:PC}(he:OkC c){s:PS}{F:List (Nat×Obj)}{d:Nat}{X:World}(h:PQ c s F d X) :
 Calls prog 197 #[c.ptr] X (RdT c F d s (bU c.E s 1)):=by
 have HE:=Hd he;have HP:=Hd h;clear he h;obtain⟨T,hT⟩:∃T,zh c.E s=T:=⟨_,rfl⟩
 have Ha:=Hd hT;obtain⟨k,tx,pos⟩:=T;clear hT;go_enter func197,ntmps197
 go_wp2_with (go_at_call 211;refine(OG HE.o (HP.o.alloc tkZ) 1 (by decide)).mono ?_;go_loud (rintro e w2 (⟨ps,hr,rfl,hb⟩|⟨hr,hc,he,ha⟩));rotate_left;rw[Ha.o]at he;subst he;rotate_left;(exact⟨rfl,.inl ⟨ps,hr,rfl,hb⟩⟩);obtain⟨⟨z0,z1,z2⟩,zf,hf⟩:=ha.own.tkz (List.mem_cons_self ..);have zf0:=zf 0;have zf1:=zf 1;have zf2:=zf 2;clear zf;have Hb:=Hd ha;have HR:=Hd hr;clear ha hr)
 obtain⟨Y,hY,⟨y0,y1,y2⟩,hd⟩:=sP (.int .u8 k) (.string ⟨tx.toArray⟩) (intV pos) z0 z1 z2;rw[hY];clear hY;refine bodyPost_ret (by simp[results,results197,go_sem,loadVar,y0,y1,y2,Result.andThen];rfl) rfl ?_;exact .inr ⟨HR.o,hc,by rw[Ha.o],Hb.o.turned hd⟩
theorem LO{c:PC}(he:OkC c){s:PS}{F:List (Nat×Obj)}{d:Nat}{X:World}(h:PQ c s F d X)(x:List UInt8)(hx:isP c.E s x=true) :
 Calls prog 203 #[c.ptr,strV x] X fun e Y=>e=.returned (.bool true)/\PQ c s.take F (d+1) Y:=by
 have HE:=Hd he;have HP:=Hd h;have HX:=Hd hx;have hc:s.next<c.E.toks.length:=fT hx;clear he h hx;go_enter func203,ntmps203
 go_wp2_with (first
  | (go_at_call 172;refine(QIsP HE.o HP.o x rfl HX.o).mono ?_;rintro e w1 ⟨rfl,ha⟩;have Ha:=Hd ha;clear ha)
  | (go_at_call 133;refine(lR HE.o Ha.o rfl hc).mono ?_;rintro e w2 ⟨rfl,hb⟩;have Hb:=Hd hb;clear hb))
 go_ret;exact⟨rfl,Hb.o⟩
theorem GI{c:PC}(he:OkC c){s:PS}{F:List (Nat×Obj)}{d:Nat}{X:World}(h:PQ c s F d X)(x:List UInt8)(hx:isP c.E s x=false) :
 Calls prog 203 #[c.ptr,strV x] X fun e Y=>e=.returned (.bool false)/\PQ c s F d Y:=by
 have HE:=Hd he;have HP:=Hd h;have HX:=Hd hx;clear he h hx;go_enter func203,ntmps203
 go_wp2_with (go_at_call 172;refine(QIsP HE.o HP.o x rfl HX.o).mono ?_;rintro e w1 ⟨rfl,ha⟩;have Ha:=Hd ha;clear ha)
 go_ret;exact⟨rfl,Ha.o⟩
def RdN(c:PC)(F:List (Nat×Obj))(d:Nat)(s:PS)(e:Ending)(Y:World):Prop:=
 (∃pos,bU c.E s 2=.error pos/\Thrown c.w0 pos e Y)\/(bU c.E s 2=.ok s.take/\s.next<c.E.toks.length/\e=.returned (.tuple #[tkA (zh c.E s),intV (valP (zh c.E s).text)])/\0<=valP (zh c.E s).text/\valP (zh c.E s).text<=9999/\PQ c s.take F (d+1) Y)
theorem kB{c:PC}(he:OkC c){s:PS}{F:List (Nat×Obj)}{d:Nat}{X:World}(h:PQ c s F d X) :
 Calls prog 204 #[c.ptr] X (RdN c F d s):=by
 have HE:=Hd he;have HP:=Hd h;clear he h;obtain⟨T,hT⟩:∃T,zh c.E s=T:=⟨_,rfl⟩
 have Ha:=Hd hT;obtain⟨k,tx,pos⟩:=T;clear hT;go_enter func204,ntmps204
 go_wp2_with (first
  | (go_at_call 211;refine(OG HE.o (HP.o.alloc tkZ) 2 (by decide)).mono ?_;rintro e w1 (⟨ps,hr,rfl,hb⟩|⟨hr,hf,he,hg⟩);rotate_left;rw[Ha.o]at he;subst he;rotate_left;(exact⟨rfl,.inl ⟨ps,hr,rfl,hb⟩⟩);have ha:=hg.alloc (tkO ⟨k,tx,pos⟩);have Hc:=Hd ha;have HR:=Hd hr;have hh:k=2:=(by have:=(bY (by decide) hr).2.2;rw[Ha.o]at this;exact this);have Hb:Hid (tokF tx=(2,tx)):=Hd (by have:=HE.o.tok _ (dU hf);rw[Ha.o]at this;exact this hh);obtain⟨⟨b0,b1,b2⟩,bf,bl⟩:((w1.alloc (tkO ⟨k,tx,pos⟩)).cell? ⟨w1.heap.size,0,none⟩=some (.int .u8 k)/\(w1.alloc (tkO ⟨k,tx,pos⟩)).cell? ⟨w1.heap.size,1,none⟩=some (strV tx)/\(w1.alloc (tkO ⟨k,tx,pos⟩)).cell? ⟨w1.heap.size,2,none⟩=some (intV pos))/\True/\True:=⟨ha.own.tk (t:=⟨k,tx,pos⟩) (List.mem_cons_self ..),trivial,trivial⟩;clear hg ha hr hh)
  | (go_at_call 212;refine(GR tx _ (HE.o.gv.mono Hc.o.w0 nlr) Hb.o).mono ?_;rintro e w2 ⟨rfl,hd⟩;have hc:=Hc.o.below hd;obtain⟨c0,c1,c2⟩:=hc.own.tk (b:=w1.heap.size) (t:=⟨k,tx,pos⟩) (List.mem_cons_self ..);obtain⟨⟨z0,z1,z2⟩,zf,hj⟩:=hc.own.tkz (b:=X.heap.size) (by simp);have zf0:=zf 0;have zf1:=zf 1;have zf2:=zf 2;clear zf;have He:=Hd (hc.drop);clear hc hd))
 obtain⟨Y,hY,⟨y0,y1,y2⟩,hi⟩:=sP (.int .u8 k) (.string ⟨tx.toArray⟩) (intV pos) z0 z1 z2;rw[hY];clear hY;refine bodyPost_ret (by simp[results,results204,go_sem,loadVar,y0,y1,y2,Result.andThen];rfl) rfl ?_;exact .inr ⟨HR.o,hf,by rw[Ha.o],by rw[Ha.o];exact(nD Hb.o).2.1,by rw[Ha.o];exact(nD Hb.o).2.2,He.o.turned hi⟩
theorem PQg.added{c:PC}{s:PS}{K F:List (Nat×Obj)}{G:Nat->Prop}{W:World}(h:PQg c s (K++F) G W){na:Option Addr}{nc:Nat}{ks:List (Option Addr×Nat)}
 (hown:OwnN W (c.w0.heap.size+1) na nc s.nodes ks)(hna:∀i,AtB na i->G i)(hks:∀j (h:j<s.nodes.length) (k:j<ks.length),0<s.nodes[j].kids.length->∀x,ks[j].1=some x->G x.block)
 (kd:Int)(T:Tk)(text:List UInt8)(n:Int){ka:Option Addr}{kc:Nat}{kids:List Int}(hk:Row 1 W ka kids.length kc (zq kids))(hK:0<kids.length->∀x,ka=some x->x.block∈K.map Prod.fst)(hn:s.nodes.length<=1000){d:Nat}(hd:s.nodes.length+(d+1)<=s.next) :
 ∃ a' c' w3 W4,(Builtin.append_ #[22,22] 22 #[.slice na s.nodes.length nc,.slice (some ⟨W.heap.size,0,none⟩) 1 1]).run prog (W.alloc (.cells #[.int .u8 kd,strV text,intV n,.slice ka kids.length kc,intV T.pos] 31))=.ok (.slice a' (s.nodes.length+1) c') w3 /\
   (∀b,b<W.heap.size->¬AtB na b->w3.heap[b]?=W.heap[b]?)/\w3.setCell ⟨c.w0.heap.size,3,none⟩ (.slice a' (s.nodes.length+1) c')=W4/\W4.cell? ⟨c.w0.heap.size,3,none⟩=some (.slice a' (s.nodes.length+1) c')/\PQ c (addP s kd T text n kids) F d W4:=by
 obtain⟨hp,ho,he,hv⟩:=h;have hA:=hp.lt;obtain⟨i0,hi,hC,hD,hE⟩:=info_parts mA;obtain⟨W2,hr⟩:∃W2,W.alloc (.cells #[.int .u8 kd,strV text,intV n,.slice ka kids.length kc,intV T.pos] 31)=W2:=⟨_,rfl⟩
 have hs:Below W.heap.size W W2:=by rw[<-hr];exact(Below.refl _ W).alloc nlr _
 have hL:W2.heap.size=W.heap.size+1:=by rw[<-hr];simp
 have hc:=hown.below hs;have hm:Row 5 W2 (some ⟨W.heap.size,0,none⟩) 1 1 ((⟨kd,text,n,kids,T.pos⟩:Nd).cells (ka,kc)):=by rw[<-hr];exact tS W ⟨kd,text,n,kids,T.pos⟩ ka kc rfl
 obtain⟨v',w3,hq,h2,h3⟩:=aQ (P:=prog) W2 (c.w0.heap.size+1) 22 22 31 i0 _ 5 64 dK hi hC hD hE rfl (by decide) (.slice na s.nodes.length nc) s.nodes.length _ hc.own (some ⟨W.heap.size,0,none⟩) 1 1 _ hm (gW _ _) (by unfold maxLen;omega) (by omega) (by omega);obtain⟨a',c',rfl,_⟩:=aZ h2;have hw:=dI (P:=prog) W2 (c.w0.heap.size+1) 22 22 31 i0 _ 5 64 dK hi hC hD hE rfl (by decide) na s.nodes.length nc _ hc.own (some ⟨W.heap.size,0,none⟩) 1 1 _ hm (gW _ _) (by unfold maxLen;omega) (by omega) (by omega) hq;rw[hr]
 have hy:0<kids.length->∀x,ka=some x->c.w0.heap.size<x.block/\¬G x.block:=fun h0 x e=>by
  obtain⟨p,hu,e2⟩:=List.mem_map.1 (hK h0 x e);have:=he p (List.mem_append_left _ hu);rw[e2]at this;exact this
 have hI:KRow W2 (c.w0.heap.size+1) na (ka,kc) kids:=⟨hk.mono hs nlr,fun h0 x e=>⟨(hy h0 x e).1,fun y ey e3=>(hy h0 x e).2 (hna _ ⟨y,ey,e3.symm⟩)⟩⟩
 have hB:=OwnN.snoc hc (d:=⟨kd,text,n,kids,T.pos⟩) (k:=(ka,kc)) hI h2 h3 hw
 have hh:∀b,b<W2.heap.size->¬AtB na b->w3.heap[b]?=W2.heap[b]?:=fun b hb hn=>h3.block b hb (by
  cases na with
  |none=>simp[Value.ownBlock]
  |some y=>simp only[Value.ownBlock];exact fun e=>hn ⟨y,rfl,by simpa using e.symm⟩)
 have ha:∀b,b<W.heap.size->¬AtB na b->w3.heap[b]?=W.heap[b]?:=fun b hb hn=>(hh b (by omega) hn).trans (hs.block b hb)
 have hF:∀i,AtB a' i->(AtB na i)\/W2.heap.size<=i:=by
  rintro i⟨x,e,rfl⟩;rcases hw x e with h1|h1
  .exact .inl ⟨x,h1,rfl⟩
  .exact .inr h1
 have hG:∀i,AtB a' i->c.w0.heap.size<i/\i<w3.heap.size:=by
  rintro i⟨x,e,rfl⟩;exact hB.lt x e
 have n0:¬AtB na c.w0.heap.size:=by
  rintro⟨x,e,e2⟩;have:=(hown.lt x e).1;omega
 have hf:∀i,w3.cell? ⟨c.w0.heap.size,i,none⟩=W.cell? ⟨c.w0.heap.size,i,none⟩:=fun i=>World.cell?_of_block (a:=⟨c.w0.heap.size,i,none⟩) (ha _ hA n0);have hH:∀i,w3.frozen? ⟨c.w0.heap.size,i,none⟩=W.frozen? ⟨c.w0.heap.size,i,none⟩:=fun i=>by unfold World.frozen?;rw[ha _ hA n0]
 obtain⟨ca,cc,ck,c3,cown,-⟩:=hp.nodes;have c3':=World.cell?_setCell_same w3 ⟨c.w0.heap.size,3,none⟩ (.slice a' (s.nodes.length+1) c') ((hf 3).trans c3);have ht:∀i,i≠3->(w3.setCell ⟨c.w0.heap.size,3,none⟩ (.slice a' (s.nodes.length+1) c')).cell? ⟨c.w0.heap.size,i,none⟩=W.cell? ⟨c.w0.heap.size,i,none⟩:=fun i hi=>(World.cell?_setCell_other _ _ _ _ (fun e=>hi (congrArg Addr.off e).symm)).trans (hf i);have hx:Below c.w0.heap.size W2 w3:=(Below.refl _ W2).grown h3 (by omega) (fun r e=>by have:=(hc.own.lt r e).1;omega);refine⟨a',c',w3,_,hq,ha,rfl,c3',⟨fun i=>G i\/i∈K.map Prod.fst\/AtB a' i,⟨?_,?_,?_,?_,?_,?_,⟨a',c',ks++[(ka,kc)],?_,?_,?_,?_⟩,.inl hp.g0,?_,hp.next⟩,?_,?_,(List.nodup_append.1 (by rw[<-List.map_append];exact hv)).2.1⟩,?_⟩
 .exact((hp.below.trans (hs.mono (by omega))).trans hx).setCell nlr _
 .exact(ht 0 (by omega)).trans hp.c0
 .exact(ht 1 (by omega)).trans hp.c1
 .exact(ht 2 (by omega)).trans hp.c2
 .exact(ht 4 (by omega)).trans hp.c4
 .intro i;rw[World.frozen?_setCell,hH];exact hp.fr i
 .rw[c3'];simp[addP]
 .exact hB.setCell (by simp) _
 .intro i hi;exact .inr (.inr hi)
 .intro j hj hJ h0 x e
  have hl:=hown.len;simp only[addP]at hj h0;by_cases hjl:j<s.nodes.length
  .rw[List.getElem_append_left (by omega)]at e
   rw[List.getElem_append_left hjl]at h0;exact .inl (hks j hjl (by omega) h0 x e)
  .obtain rfl:j=s.nodes.length:=by simp at hj;omega
   rw[List.getElem_append_right (by omega)]at e;rw[List.getElem_append_right (by omega)]at h0;simp[hl]at e h0;exact .inr (.inl (hK (by omega) x e))
 .intro i hi
  have hz:W.heap.size<=w3.heap.size:=by have:=hx.size;omega
  simp only[World.size_setCell];rcases hi with hi|hi|hi
  .exact⟨(hp.mem i hi).1,by have:=(hp.mem i hi).2;omega⟩
  .obtain⟨p,hu,rfl⟩:=List.mem_map.1 hi
   have h5:=(he p (List.mem_append_left _ hu)).1;have h6:=(Array.getElem?_eq_some_iff.1 (ho p (List.mem_append_left _ hu))).1;exact⟨by omega,by omega⟩
  .have:=hG i hi;exact⟨by omega,this.2⟩
 .intro p hg
  have h5:=he p (List.mem_append_right _ hg);have h6:=ho p (List.mem_append_right _ hg);refine(Below.heap_setCell _ _ _ _ (by simp only;omega)).trans ((ha p.1 (Array.getElem?_eq_some_iff.1 h6).1 (fun e=>h5.2 (hna _ e))).trans h6)
 .intro p hg
  have h5:=he p (List.mem_append_right _ hg);have h6:=(Array.getElem?_eq_some_iff.1 (ho p (List.mem_append_right _ hg))).1;refine⟨h5.1,?_⟩;rintro(h7|h7|h7)
  .exact h5.2 h7
  .rw[List.map_append]at hv
   exact(List.nodup_append.1 hv).2.2 _ h7 _ (List.mem_map_of_mem hg) rfl
  .rcases hF _ h7 with h8|h8
   .exact h5.2 (hna _ h8)
   .omega
 .simp only[addP,List.length_append,List.length_singleton];omega
theorem PQg.tail{c:PC}{s:PS}{p:Nat×Obj}{F:List (Nat×Obj)}{G:Nat->Prop}{X:World}(h:PQg c s (p::F) G X):PQg c s F G X:=
 ⟨h.par,fun q hq=>h.own q (List.mem_cons_of_mem _ hq),fun q hq=>h.out q (List.mem_cons_of_mem _ hq),(List.nodup_cons.1 h.nd).2⟩
theorem LM{c:PC}(he:OkC c){s:PS}{K F:List (Nat×Obj)}{d:Nat}{X:World}(h:PQ c s (K++F) (d+1) X)(kd:Int)(T:Tk)(text:List UInt8)(n:Int){ka:Option Addr}{kc:Nat}{kids:List Int}
 (hk:Row 1 X ka kids.length kc (zq kids))(hK:0<kids.length->∀x,ka=some x->x.block∈K.map Prod.fst) :
 Calls prog 199 #[c.ptr,.int .u8 kd,tkA T,strV text,intV n,.slice ka kids.length kc] X fun e Y=>e=.returned (intV s.nodes.length)/\PQ c (addP s kd T text n kids) F d Y:=by
 obtain⟨k,tx,pos⟩:=T;have h1:=h.alloc (tkO ⟨k,tx,pos⟩);have hd:=h.2
 have ht:s.nodes.length<=1000:=by
  obtain⟨⟨G,g⟩,_⟩:=h;have:=g.par.next;have:=he.many;omega
 have ho:Row 1 ((X.alloc (tkO ⟨k,tx,pos⟩)).drew) ka kids.length kc (zq kids):=(hk.mono ((Below.refl _ X).alloc nlr _) nlr).mono (brf.drew) nlr;have HE:=Hd he;have hy:=h.lt;obtain⟨⟨G,g1⟩,-⟩:=h1.drew;have hi:=g1.own _ (List.mem_cons_self ..);have hr:=(g1.out _ (List.mem_cons_self ..)).2;have g:=g1.tail;obtain⟨na,nc,ks,c3,hm,hl,hp⟩:=g.par.nodes;have hg:=g.par.fr 3;obtain⟨a',c',w3,W4,hh,ha,hn,hv,hu⟩:=g.added hm hl hp kd ⟨k,tx,pos⟩ text n ho hK ht hd;have hb:(X.alloc (tkO ⟨k,tx,pos⟩)).drew.heap.size=X.heap.size+1:=by simp
 have hq:¬AtB na X.heap.size:=fun e=>hr (hl _ e)
 have hj:¬AtB na c.w0.heap.size:=by
  rintro⟨x,e,e2⟩;have:=(hm.lt x e).1;omega
 have hc:=(ha X.heap.size (by rw[hb];omega) hq).trans hi;have hf:w3.cell? ⟨c.w0.heap.size,3,none⟩=some (.slice na s.nodes.length nc):=(World.cell?_of_block (a:=⟨c.w0.heap.size,3,none⟩) (ha c.w0.heap.size (by rw[hb];omega) hj)).trans c3
 have hw:w3.frozen? ⟨c.w0.heap.size,3,none⟩=false:=by
  have:=ha c.w0.heap.size (by rw[hb];omega) hj;unfold World.frozen? at hg|-;rw[this];exact hg
 have Hf:=Hd hu;have Hc:Hid ((fun Wz:World=>Wz.cell? ⟨c.w0.heap.size,3,none⟩=some (.slice na s.nodes.length nc)/\Wz.heap[X.heap.size]?=some (tkO ⟨k,tx,pos⟩)) (X.alloc (tkO ⟨k,tx,pos⟩)).drew):=Hd ⟨c3,hi⟩;have Hb:Hid ((fun Wz:World=>Wz.cell? ⟨c.w0.heap.size,3,none⟩=some (.slice na s.nodes.length nc)/\Wz.heap[X.heap.size]?=some (tkO ⟨k,tx,pos⟩)) w3):=Hd ⟨hf,hc⟩
 have He:Hid ((fun Wz:World=>Wz.cell? ⟨c.w0.heap.size,3,none⟩=some (.slice na s.nodes.length nc)/\Wz.heap[X.heap.size]?=some (tkO ⟨k,tx,pos⟩)) ((X.alloc (tkO ⟨k,tx,pos⟩)).drew.alloc (.cells #[.int .u8 kd,strV text,intV n,.slice ka kids.length kc,intV pos] 31))):=
  Hd ⟨((brf.alloc nlr _).cell (p:=⟨c.w0.heap.size,3,none⟩) (show c.w0.heap.size<_ by omega)).trans c3,(Below.heap_alloc _ _ _ (by rw[hb];omega)).trans hi⟩
 have Ha:=Hd hh;have Hg:=Hd hn;clear h h1 g g1 ho hk hK hm hl hp hi hc ha hu hf hq hj hb hh hn hd hr c3;go_enter func199,ntmps199;have hx:prog.follows .mixedOrders=true:=by kernel_rfl
 go_wp2;refine N.region_C [false,false,false,false,false,false,false,false,false,false,false,false,false,true,true,false,false,false,true] [?vC1_0,?vC1_1,?vC1_2,?vC1_3,?vC1_4,?vC1_5,?vC1_6,?vC1_7,?vC1_8,?vC1_9,?vC1_10,?vC1_11,?vC1_12,undef,undef,?vC1_15,?vC1_16,?vC1_17,undef] hx (by kernel_rfl) (by kernel_rfl) (by kernel_rfl) (by kernel_rfl) rfl rfl (fun _ _=>False) N.Pans.no (fun Wz=>Wz.cell? ⟨c.w0.heap.size,3,none⟩=some (.slice na s.nodes.length nc)/\Wz.heap[X.heap.size]?=some (tkO ⟨k,tx,pos⟩)) Hc.o ?wC1_ ?_
 case wC1_=>
  iterate 13 (refine N.WalkC.still (N.StillP.known rfl ?_) ?_;(intro W hJ;obtain⟨j3,jb⟩:=hJ;have jb2:=za (i:=2) jb rfl;go_simp;rfl);simp only[N.pz])
  refine N.WalkC.chain fun u13=>?_;simp only[N.pz];refine N.WalkC.chain fun u14=>?_;simp only[N.pz]
  iterate 3 (refine N.WalkC.still (N.StillP.known rfl ?_) ?_;(intro W hJ;obtain⟨j3,jb⟩:=hJ;have jb2:=za (i:=2) jb rfl;go_simp;rfl);simp only[N.pz])
  refine N.WalkC.chain fun u18=>?_;simp only[N.pz];exact .nil
 iterate 13 (refine N.TailC.still ?_;simp only[N.pz])
 refine N.TailC.run (v:=.slice (some ⟨(X.alloc (tkO ⟨k,tx,pos⟩)).drew.heap.size,0,none⟩) 1 1) (w':=(X.alloc (tkO ⟨k,tx,pos⟩)).drew.alloc (.cells #[.int .u8 kd,strV text,intV n,.slice ka kids.length kc,intV pos] 31)) rfl ?a13 (fun _=>He.o) ?b13;case a13=>go_simp;try rfl
 simp only[N.pz];refine N.TailC.append rfl (.tmp 18) (.tmp 26) 22 rfl rfl rfl Ha.o (fun _=>Hb.o) ?_;simp only[N.pz]
 iterate 3 (refine N.TailC.still ?_;simp only[N.pz])
 refine N.TailC.skips (w':=W4) rfl ?a18 (fun h=>absurd rfl h) ?b18;case a18=>rw[<-Hg.o];have jc:=Hb.o.1;go_simp;try rfl
 simp only[N.pz];refine N.TailC.nil ?_;obtain⟨nl,hs⟩:∃nl,s.nodes.length=nl:=⟨_,rfl⟩
 rw[hs]at hv ht;go_wp2;go_ret;exact⟨by rw[hs];rfl,Hf.o⟩
def RdI(c:PC)(F:List (Nat×Obj))(d n0:Nat)(S:PR (Int×PS))(e:Ending)(Y:World):Prop:=
 (∃pos,S=.error pos/\Thrown c.w0 pos e Y)\/∃a s',S=.ok (a,s')/\e=.returned (intV a)/\n0<=s'.next/\PQ c s' F d Y
def zx(c:PC)(fn:FuncId)(rd:RdP)(s:PS):Prop:=∀(F:List (Nat×Obj)) (d:Nat) (X:World),PQ c s F d X->Calls prog fn #[c.ptr] X (RdI c F d s.next (rd s))
theorem bH{ε α β:Type}{S:Except ε β}{m:Except ε α}{k:α->Except ε β}{a:α}(h:S=m.bind k)(hm:m=.ok a):S=k a:=by subst hm;exact h
theorem bG{ε α β:Type}{S:Except ε β}{m:Except ε α}{k:α->Except ε β}{p:ε}(h:S=m.bind k)(hm:m=.error p):S=.error p:=by subst hm;exact h
theorem RdI.er{c:PC}{F:List (Nat×Obj)}{d n0:Nat}{S:PR (Int×PS)}{pos:Int}{Y:World}(h:S=.error pos)(hb:Below c.w0.heap.size c.w0 Y):RdI c F d n0 S (.panicked [{ v:=rC pos,recovered:=false }]) Y:=.inl ⟨pos,h,rfl,hb⟩
theorem RdI.ok{c:PC}{F:List (Nat×Obj)}{d n0:Nat}{S:PR (Int×PS)}{a:Int}{s':PS}{Y:World}(h:S=.ok (a,s'))(hn:n0<=s'.next)(hp:PQ c s' F d Y):RdI c F d n0 S (.returned (intV a)) Y:=.inr ⟨a,s',h,rfl,hn,hp⟩
theorem QAdd0{c:PC}(he:OkC c){s:PS}{F:List (Nat×Obj)}{d:Nat}{X:World}(h:PQ c s F (d+1) X)(kd:Int)(T:Tk)(text:List UInt8)(n:Int) :
 Calls prog 199 #[c.ptr,.int .u8 kd,tkA T,strV text,intV n,.slice none 0 0] X fun e Y=>e=.returned (intV s.nodes.length)/\PQ c (addP s kd T text n []) F d Y:=
 LM he (K:=[]) h kd T text n (kids:=[]) (ka:=none) (kc:=0) ⟨rfl,nlr,fun _=>rfl,.inl rfl⟩ (fun h=>absurd h (by simp))
theorem mR{c:PC}(he:OkC c){s:PS}{F:List (Nat×Obj)}{d:Nat}{X:World}(h:PQ c s F (d+1) X)(kd:Int)(T:Tk)(text:List UInt8)(n:Int)(kids:List Int){z:Nat}(hz:X.heap.size=z) :
 Calls prog 199 #[c.ptr,.int .u8 kd,tkA T,strV text,intV n,.slice (some ⟨z,0,none⟩) kids.length kids.length] (X.alloc (.cells (zq kids).toArray 3)) fun e Y=>e=.returned (intV s.nodes.length)/\PQ c (addP s kd T text n kids) F d Y:=by
 subst hz;refine LM he (K:=[(X.heap.size,.cells (zq kids).toArray 3)]) (h.alloc _) kd T text n ?_ (fun _ x e=>by obtain rfl:=Option.some.inj e;simp);have:=Row.made (k:=1) (n:=kids.length) (c:=kids.length) X (zq kids) 3 (by simp) nlr;exact this
structure KL (c:PC) (K:List (Nat×Obj)) (a:Option Addr) (cp:Nat) (l:List Int):Prop where
 own:∀X,Own K X->OwnI X (c.w0.heap.size+1) a cp l
 at_:∀x,a=some x->x.block∈K.map Prod.fst
theorem KL.nil(c:PC):KL c [] none 0 []:=⟨fun _ _=>⟨rfl,.inl ⟨rfl,rfl⟩⟩,fun _ h=>by cases h⟩
theorem Own.left{K F:List (Nat×Obj)}{X:World}(h:Own (K++F) X):Own K X:=fun p hp=>h p (List.mem_append_left _ hp)
theorem KL.of{c:PC}{X:World}{a:Option Addr}{cp:Nat}{l:List Int}(h:OwnI X (c.w0.heap.size+1) a cp l):∃K,KL c K a cp l/\Own K X/\(K=[]\/∃g o,a=some ⟨g,0,none⟩/\K=[(g,o)]):=by
 obtain⟨h1,h2⟩:=h;rcases h2 with⟨h2,h3⟩|⟨g,cap,cur,h2,hb,hg,hr⟩
 .simp only[Value.slice.injEq]at h2
  obtain⟨rfl,h4,rfl⟩:=h2;exact⟨[],⟨fun _ _=>⟨h1,.inl ⟨by rw[h4],h3⟩⟩,fun _ h=>by cases h⟩,(fun _ h=>by cases h),.inl rfl⟩
 .simp only[Value.slice.injEq]at h2
  obtain⟨rfl,-,rfl⟩:=h2;exact⟨[(g,.cells cur 3 (0,0))],⟨fun X hX=>⟨h1,.inr ⟨g,cp,cur,rfl,hb,hX _ (List.mem_cons_self ..),hr⟩⟩,fun x e=>by obtain rfl:=Option.some.inj e;simp⟩,fun p hp=>by obtain rfl:=List.mem_singleton.1 hp;exact hg,.inr ⟨g,_,rfl,rfl⟩⟩
theorem PQ.appended{c:PC}{s:PS}{K F:List (Nat×Obj)}{d:Nat}{W w':World}{a a':Option Addr}{cp cp':Nat}{l l':List Int}(h:PQ c s (K++F) d W)(hk:KL c K a cp l)(hown:OwnI w' (c.w0.heap.size+1) a' cp' l')
 (hkeep:∀B' A,B'<=c.w0.heap.size+1->Below B' A W->Below B' A w')(hap:∀g,g<W.heap.size->lO a g->w'.heap[g]?=W.heap[g]?/\lO a' g):∃K',KL c K' a' cp' l'/\PQ c s (K'++F) d w':=by
 obtain⟨K',hm,ho,hq⟩:=KL.of hown;refine⟨K',hm,?_⟩;have hb:=hkeep _ _ nlr (Below.refl _ W);obtain⟨⟨G,g⟩,hd⟩:=h
 have he:∀x,a=some x->c.w0.heap.size<x.block/\¬G x.block/\x.block∈K.map Prod.fst:=fun x e=>by
  obtain⟨p,hp,e2⟩:=List.mem_map.1 (hk.at_ x e);have:=g.out p (List.mem_append_left _ hp);rw[e2]at this;exact⟨this.1,this.2,hk.at_ x e⟩
 have hl:Turns (fun i=>AtB a i) W w':=⟨hb.os,hb.tape,hb.output,hb.size,fun i hi hn=>(hap i hi (fun p e e2=>hn ⟨p,e,e2⟩)).1⟩
 have hc:IsPar c.w0 c.E c.ta c.tc c.iv s G w':=g.par.turns hl (fun i hi ⟨x,e,e2⟩=>(he x e).2.1 (by rw[e2];exact hi)) (fun i ⟨x,e,e2⟩=>by have:=(he x e).1;omega);have hf:=List.nodup_append.1 (by have:=g.nd;rwa[List.map_append]at this);have hF:∀p∈F,¬AtB a p.1:=fun p hp ⟨x,e,e2⟩=>hf.2.2 _ (he x e).2.2 _ (List.mem_map_of_mem hp) e2;have hh:∀p∈F,p.1<W.heap.size:=fun p hp=>(Array.getElem?_eq_some_iff.1 (g.own p (List.mem_append_right _ hp))).1;have hj:∀p∈F,w'.heap[p.1]?=some p.2:=fun p hp=>(hl.block p.1 (hh p hp) (hF p hp)).trans (g.own p (List.mem_append_right _ hp))
 have hg:∀x,a'=some x->AtB a x.block\/W.heap.size<=x.block:=fun x e=>by
  rcases Nat.lt_or_ge x.block W.heap.size with h1|h1
  .refine .inl (Classical.byContradiction fun hn=>?_)
   exact(hap x.block h1 (fun p e1 e2=>hn ⟨p,e1,e2⟩)).2 x e rfl
  .exact .inr h1
 rcases hq with rfl|⟨gb,o,ea,rfl⟩
 .exact⟨⟨G,hc,hj,fun p hp=>g.out p (List.mem_append_right _ hp),hf.2.1⟩,hd⟩
 .have ha:c.w0.heap.size<gb/\¬G gb/\∀p∈F,p.1≠gb:=by
   rcases hg _ ea with⟨x,e,e2⟩|h1
   .have:=he x e
    simp only at e2;rw[e2]at this;exact⟨this.1,this.2.1,fun p hp e3=>hF p hp ⟨x,e,by rw[e2,e3]⟩⟩
   .simp only at h1
    have:=g.par.lt;exact⟨by omega,fun e=>by have:=(g.par.mem _ e).2;omega,fun p hp e3=>by have:=hh p hp;omega⟩
  refine⟨⟨G,hc,fun p hp=>?_,fun p hp=>?_,?_⟩,hd⟩
  .rcases List.mem_cons.1 hp with rfl|hp
   .exact ho _ (List.mem_cons_self ..)
   .exact hj p hp
  .rcases List.mem_cons.1 hp with rfl|hp
   .exact⟨ha.1,ha.2.1⟩
   .exact g.out p (List.mem_append_right _ hp)
  .refine List.nodup_cons.2 ⟨fun e=>?_,hf.2.1⟩
   obtain⟨p,hp,e⟩:=List.mem_map.1 e;exact ha.2.2 p hp e
theorem PQ.made{c:PC}{s:PS}{F:List (Nat×Obj)}{d:Nat}{X:World}(h:PQ c s F d X)(v:Int){n:Nat}(hn:X.heap.size=n):∃K,KL c K (some ⟨n,0,none⟩) 1 [v]/\PQ c s (K++F) d (X.alloc (.cells #[intV v] 3)):=by
 subst hn;have hl:=h.lt;refine⟨[(X.heap.size,.cells #[intV v] 3)],⟨fun Y hY=>?_,fun x e=>by obtain rfl:=Option.some.inj e;simp⟩,h.alloc _⟩;exact⟨rfl,.inr ⟨X.heap.size,1,#[intV v],rfl,by omega,hY _ (List.mem_cons_self ..),nlr,by decide,rfl,rfl⟩⟩
theorem pH{c:PC}(he:OkC c){s:PS}{K F:List (Nat×Obj)}{d:Nat}{X:World}(h:PQ c s (K++F) (d+1) X)(kd:Int)(T:Tk)(text:List UInt8)(n:Int){a:Option Addr}{cp:Nat}{l:List Int}(hk:KL c K a cp l) :
 Calls prog 199 #[c.ptr,.int .u8 kd,tkA T,strV text,intV n,.slice a l.length cp] X fun e Y=>e=.returned (intV s.nodes.length)/\PQ c (addP s kd T text n l) F d Y:=
 LM he h kd T text n (dX (hk.own X h.own.left)) (fun _ x e=>hk.at_ x e)
def RdL(c:PC)(F:List (Nat×Obj))(d n0:Nat)(S:PR (List Int×PS))(e:Ending)(Y:World):Prop:=
 (∃pos,S=.error pos/\Thrown c.w0 pos e Y)\/∃l s' a cp K,S=.ok (l,s')/\e=.returned (.slice a l.length cp)/\n0<=s'.next/\l.length<=s'.next+1/\KL c K a cp l/\PQ c s' (K++F) d Y
theorem RdL.er{c:PC}{F:List (Nat×Obj)}{d n0:Nat}{S:PR (List Int×PS)}{pos:Int}{Y:World}(h:S=.error pos)(hb:Below c.w0.heap.size c.w0 Y):RdL c F d n0 S (.panicked [{ v:=rC pos,recovered:=false }]) Y:=.inl ⟨pos,h,rfl,hb⟩
theorem NA{rd:RdP}{E:PE}{f:Nat}{l:List Int}{s:PS}(h:isP E s sN=false):qI rd E f l s=.ok (l,s):=by
 cases f with
 |zero=>rfl
 |succ f=>unfold qI;rw[h];rfl
theorem IY{rd:RdP}{E:PE}{f:Nat}{l:List Int}{s:PS}(h:isP E s sN=true):qI rd E (f+1) l s=(rd s.take).bind fun r=>qI rd E f (l++[r.1]) r.2:=by
 conv=>lhs;unfold qI
 rw[h];rfl
theorem PQ.next{c:PC}{s:PS}{F:List (Nat×Obj)}{d:Nat}{X:World}(h:PQ c s F d X):s.next<=c.E.toks.length:=by
 obtain⟨⟨G,g⟩,_⟩:=h;exact g.par.next
def tI(c:PC)(X:World):Nat:=c.E.toks.length-(intOf ((X.cell? ⟨c.w0.heap.size,2,none⟩).getD undef)).toNat
theorem PQ.meas{c:PC}{s:PS}{F:List (Nat×Obj)}{d:Nat}{X:World}(h:PQ c s F d X):tI c X=c.E.toks.length-s.next:=by
 obtain⟨⟨G,g⟩,_⟩:=h;unfold tI;rw[g.par.c2];simp[intOf]
theorem MO{E:PE}{s:PS}{T:Tk}(hT:zh E s=T)(h:(T.kind==2)=true):bU E s 2=.ok s.take:=by
 unfold bU;rw[hT,if_pos h]
theorem rS{c:PC}(he:OkC c){fn:FuncId}(hfn:∀(args:Array Value) (w:World),(callFunc fn args).run prog w=.ok (.enter fn args) w){rd:RdP}{s:PS}(hrd:∀s',s.next<=s'.next->zx c fn rd s'){F:List (Nat×Obj)}{d:Nat}{X:World}(h:PQ c s F d X) :
 Calls prog 200 #[c.ptr,.func (.func fn) #[] #[]] X (RdL c F d s.next (nB rd c.E s)):=by
 have HE:=Hd he;have HR:=Hd hrd;have Ho:=Hd h;have hj:=he.many;obtain⟨S,hS⟩:∃S,nB rd c.E s=S:=⟨_,rfl⟩
 rw[hS];unfold nB at hS;have Hh:=Hd hS.symm;have ho:=h.next;clear he hrd h hS;go_enter func200,ntmps200
 go_wp2_with (guard_target =~ Calls _ fn _ _ _;refine(HR.o s nlr _ _ _ Ho.o).mono ?_;rintro e w1 (⟨ps,hr,rfl,hb⟩|⟨a1,s1,hr,rfl,hn,hp⟩);(exact⟨rfl,.er (bG Hh.o hr) hb⟩);have Hr:=Hd (bH Hh.o hr);obtain⟨K1,hh,hk⟩:=hp.made a1 rfl;have Hj:=Hd hh;have Hp:=Hd hk;have Hm:=Hd hn;clear hr hn hp hh hk)
 go_loopw [5] (fun t5 wr=>∃(a:Option Addr) (cp:Nat) (l:List Int) (sk:PS) (f:Nat) (K:List (Nat×Obj)),t5=.slice a l.length cp/\Hid (S=qI rd c.E f l sk)/\Hid (s.next<=sk.next/\c.E.toks.length+1<=f+sk.next/\l.length<=sk.next+1)/\Hid (KL c K a cp l)/\Hid (PQ c sk (K++F) d wr)) (fun _ wr=>tI c wr)
 case atStart=>exact⟨_,_,[a1],s1,_,K1,rfl,Hr,Hd ⟨Hm.o,by simp,by simp⟩,Hj,Hp⟩
 case round=>
  obtain⟨a,cp,l,sk,f,K,rfl,Hi,Ha,He,Hb⟩:=hrel;have hu:=Hb.o.next;have HM:=Hd Hb.o.meas
  cases hc:isP c.E sk sN with
  | false=>
    have HC:=Hd hc;have Hc:=Hd (Hi.o.trans (NA hc));clear hc
    go_wp2_with (go_at_call 203;refine(GI HE.o Hb.o sN HC.o).mono ?_;rintro e w2 ⟨rfl,hp⟩;have Hf:=Hd hp;clear hp)
    go_ret;exact .inr ⟨l,sk,a,cp,K,Hc.o,rfl,Ha.o.1,Ha.o.2.2,He.o,Hf.o⟩
  | true=>
    have hs:=fT hc;obtain⟨f,rfl⟩:∃g,f=g+1:=⟨f-1,by have:=Ha.o.2.1;omega⟩
    have HC:=Hd hc;have Hc:=Hd (Hi.o.trans (IY hc));clear hc;have hq:l.length<=1000:=by have:=Ha.o.2.2;omega
    go_wp2_with (first
     | (at_builtin;have hg:=(Hq.o.alloc (.cells #[intV a3] 3)).drop;refine aO (news:=[a3]) rfl (.tmp 12) (.tmp 16) rfl rfl (He.o.own _ hg.own.left) rfl (cN _ _ _) (by omega) (by have:=hg.lt;omega) ?_;intro a9 c9 w9 l9 Hl hm hd ha hf;obtain⟨K9,hi,hl⟩:=hg.appended He.o hd ha hf;have Hk:=Hd hi;have Hg:=Hd hl;clear hg hd ha hf hi hl)
     | (go_at_call 203;refine(LO HE.o Hb.o sN HC.o).mono ?_;rintro e w2 ⟨rfl,hp⟩;have Hf:=Hd hp;clear hp)
     | (guard_target =~ Calls _ fn _ _ _;refine(HR.o sk.take (by have:=Ha.o.1;simp only[PS.take];omega) _ _ _ Hf.o).mono ?_;rintro e w3 (⟨ps,hr,rfl,hb⟩|⟨a3,s3,hr,rfl,hn,hp⟩);(exact⟨rfl,.er (bG Hc.o hr) hb⟩);have Hs:=Hd (bH Hc.o hr);have Hq:=Hd (hp.less (Nat.le_succ d));have Hn:=Hd hn;clear hr hn hp))
    have ht:sk.next+1<=s3.next:=Hn.o
    go_roundw
    case rel=>exact⟨a9,c9,l9,s3,f,K9,rfl,by rw[Hl.o];exact Hs,Hd ⟨by have:=Ha.o.1;omega,by have:=Ha.o.2.1;omega,by have:=Ha.o.2.2;omega⟩,Hk,Hg⟩
    case measure=>rw[Hg.o.meas,HM.o];omega
end
section
open Go Go.RowKit
structure AtP {β:Type}(c:PC) (n0 m:Nat) (F:List (Nat×Obj)) (d:Nat) (X:World) (s:PS) (S Sk:PR β):Prop where
 eq:S=Sk
 p:PQ c s F d X
 n:m<=s.next
 nm:n0<=m
abbrev sS(pos:Int):Ending:=.panicked [{ v:=rC pos,recovered:=false }]
section
variable {α β : Type} {c : PC} {n0 m : Nat} {F : List (Nat × Obj)} {d : Nat} {X : World} {s : PS} {S Sk : PR β} {Q : Ending -> World -> Prop}
theorem AtP.le(A:AtP c n0 m F d X s S Sk):n0<=s.next:=Nat.le_trans A.nm A.n
theorem AtP.drew(A:AtP c n0 m F d X s S Sk):AtP c n0 m F d X.drew s S Sk:=⟨A.eq,A.p.drew,A.n,A.nm⟩
theorem AtP.up(A:AtP c n0 m F d X s S Sk){G:List (Nat×Obj)}{e:Nat}{Y:World}{s':PS}(h:PQ c s' G e Y)(hn:s'.next=s.next):AtP c n0 m G e Y s' S Sk:=⟨A.eq,h,hn▸A.n,A.nm⟩
theorem AtP.box(A:AtP c n0 m F d X s S Sk)(t:Tk):AtP c n0 m ((X.heap.size,tkO t)::F) d (X.alloc (tkO t)) s S Sk:=⟨A.eq,A.p.alloc _,A.n,A.nm⟩
theorem AtP.pure{a:α}{k:α->PR β}(A:AtP c n0 m F d X s S ((Except.ok a:PR α).bind k)):AtP c n0 m F d X s S (k a):=⟨A.eq,A.p,A.n,A.nm⟩
theorem iP(he:Hid (OkC c)){T:Tk}(hT:Hid (zh c.E s=T))(A:AtP c n0 m F d X s S Sk)(H:∀Y,AtP c n0 m ((Y.heap.size,tkO T)::F) d (Y.alloc (tkO T)) s S Sk->Q (.returned (tkA T)) Y):Calls prog 131 #[c.ptr] X Q:=by
 refine(cU he.out A.p hT.out).mono ?_;rintro e Y⟨rfl,hp⟩;exact H Y (AtP.box ⟨A.eq,hp,A.n,A.nm⟩ T)
theorem dV(he:Hid (OkC c)){x:List UInt8}{k:PS->PR β}(A:AtP c n0 m F d X s S ((cC c.E s x).bind k))(her:∀pos Y,S=.error pos->Below c.w0.heap.size c.w0 Y->Q (sS pos) Y)
 (H:∀Y,AtP c n0 (n0+1) F (d+1) Y s.take S (k s.take)->Q (.returned (tkA (zh c.E s))) Y):Calls prog 134 #[c.ptr,strV x] X Q:=by
 refine(GK he.out A.p x).mono ?_;rintro e Y (⟨pos,hr,rfl,hb⟩|⟨hr,-,rfl,hp⟩)
 .exact her pos Y (bG A.eq hr) hb
 .exact H Y ⟨bH A.eq hr,hp,Nat.succ_le_succ A.le,Nat.le_succ _⟩
theorem ND(he:Hid (OkC c)){T:Tk}(hT:Hid (zh c.E s=T)){k:PS->PR β}(A:AtP c n0 m F d X s S ((bU c.E s 1).bind k))(her:∀pos Y,S=.error pos->Below c.w0.heap.size c.w0 Y->Q (sS pos) Y)
 (H:∀Y,AtP c n0 (n0+1) F (d+1) Y s.take S (k s.take)->Q (.returned (tkA T)) Y):Calls prog 197 #[c.ptr] X Q:=by
 refine(QS he.out A.p).mono ?_;rintro e Y (⟨pos,hr,rfl,hb⟩|⟨hr,-,ha,hp⟩)
 .exact her pos Y (bG A.eq hr) hb
 .rw[hT.out]at ha
  subst ha;exact H Y ⟨bH A.eq hr,hp,Nat.succ_le_succ A.le,Nat.le_succ _⟩
theorem vY(he:Hid (OkC c)){T:Tk}(hT:Hid (zh c.E s=T)){k:PS->PR β}(A:AtP c n0 m F d X s S ((bU c.E s 1).bind k))(her:∀pos Y,S=.error pos->Below c.w0.heap.size c.w0 Y->Q (sS pos) Y)
 (H:∀Y,AtP c n0 (n0+1) ((Y.heap.size,tkO T)::F) (d+1) (Y.alloc (tkO T)) s.take S (k s.take)->Q (.returned (tkA T)) Y):Calls prog 197 #[c.ptr] X Q:=
 ND he hT A her fun Y A'=>H Y (A'.box T)
theorem hasT(he:Hid (OkC c)){x:List UInt8}(hx:Hid (isP c.E s x=true))(A:AtP c n0 m F d X s S Sk)(H:∀Y,AtP c n0 (n0+1) F (d+1) Y s.take S Sk->Q (.returned (.bool true)) Y) :
 Calls prog 203 #[c.ptr,strV x] X Q:=by
 refine(LO he.out A.p x hx.out).mono ?_;rintro e Y⟨rfl,hp⟩;exact H Y ⟨A.eq,hp,Nat.succ_le_succ A.le,Nat.le_succ _⟩
theorem hasF(he:Hid (OkC c)){x:List UInt8}(hx:Hid (isP c.E s x=false))(A:AtP c n0 m F d X s S Sk)(H:∀Y,AtP c n0 m F d Y s S Sk->Q (.returned (.bool false)) Y) :
 Calls prog 203 #[c.ptr,strV x] X Q:=by
 refine(GI he.out A.p x hx.out).mono ?_;rintro e Y⟨rfl,hp⟩;exact H Y ⟨A.eq,hp,A.n,A.nm⟩
theorem isC(he:Hid (OkC c)){x:List UInt8}{b:Bool}(hx:Hid (isP c.E s x=b))(A:AtP c n0 m F d X s S Sk){n:Nat}(hn:X.heap.size=n)(H:∀Y,AtP c n0 m F d Y s S Sk->Q (.returned (.bool b)) Y) :
 Calls prog 172 #[c.ptr,.slice (some ⟨n,0,none⟩) 1 1] (X.alloc (.cells #[strV x] 9)) Q:=by
 refine(QIsP he.out A.p x hn hx.out).mono ?_;rintro e Y⟨rfl,hp⟩;exact H Y ⟨A.eq,hp,A.n,A.nm⟩
theorem gQ{fn:FuncId}{rd:RdP}{k:Int×PS->PR β}(hR:Hid (∀s',n0<s'.next->zx c fn rd s'))(A:AtP c n0 (n0+1) F d X s S ((rd s).bind k))(her:∀pos Y,S=.error pos->Below c.w0.heap.size c.w0 Y->Q (sS pos) Y)
 (H:∀a s' Y,AtP c n0 (n0+1) F d Y s' S (k (a,s'))->Q (.returned (intV a)) Y):Calls prog fn #[c.ptr] X Q:=by
 refine(hR.out s A.n F d X A.p).mono ?_;rintro e Y (⟨pos,hr,rfl,hb⟩|⟨a,s',hr,rfl,hn,hp⟩)
 .exact her pos Y (bG A.eq hr) hb
 .exact H a s' Y ⟨bH A.eq hr,hp,Nat.le_trans A.n hn,Nat.le_succ _⟩
theorem NJ{fn:FuncId}{args:Array Value}{S R:PR (Int×PS)}{G:List (Nat×Obj)}{i:Nat}(A:AtP c n0 m F d X s S R)(hR:Calls prog fn args X (RdI c G i s.next R))(her:∀pos Y,S=.error pos->Below c.w0.heap.size c.w0 Y->Q (sS pos) Y)
 (H:∀a s' Y,AtP c n0 m G i Y s' S (.ok (a,s'))->Q (.returned (intV a)) Y):Calls prog fn args X Q:=by
 refine hR.mono ?_;rintro e Y (⟨pos,hr,rfl,hb⟩|⟨a,s',hr,rfl,hn,hp⟩)
 .exact her pos Y (A.eq.trans hr) hb
 .exact H a s' Y ⟨A.eq.trans hr,hp,Nat.le_trans A.n hn,A.nm⟩
theorem IX{f:FuncId}{args:Array Value}{rd:RdP}{k:List Int×PS->PR β}(A:AtP c n0 (n0+1) F d X s S ((nB rd c.E s).bind k))(hL:Calls prog f args X (RdL c F d s.next (nB rd c.E s)))(her:∀pos Y,S=.error pos->Below c.w0.heap.size c.w0 Y->Q (sS pos) Y)
 (H:∀l s' q cp K Y,l.length<=s'.next+1->Hid (KL c K q cp l)->AtP c n0 (n0+1) (K++F) d Y s' S (k (l,s'))->Q (.returned (.slice q l.length cp)) Y):Calls prog f args X Q:=by
 refine hL.mono ?_;rintro e Y (⟨pos,hr,rfl,hb⟩|⟨l,s',q,cp,K,hr,rfl,hn,hl,hk,hp⟩)
 .exact her pos Y (bG A.eq hr) hb
 .exact H l s' q cp K Y hl (Hd hk) ⟨bH A.eq hr,hp,Nat.le_trans A.n hn,Nat.le_succ _⟩
theorem AtP.fin{F':List (Nat×Obj)}{S:PR (Int×PS)}{e:Nat}{a:Int}(A:AtP c n0 m F' d X s S (.ok (a,s)))(hs:List.Sublist F F')(he:e<=d):RdI c F e n0 S (.returned (intV a)) X:=.ok A.eq A.le ((A.p.sub hs).less he)
end
end
section
open Go Go.RowKit
theorem OX{c:PC}(he:OkC c){kindOf:RdP}{s:PS}(hkindOf:∀s',s.next<s'.next->zx c 202 kindOf s'):zx c 201 (wB kindOf c.E) s:=by
 intro F d X h;have HE:=Hd he;have Ha:=Hd hkindOf;have Hb:=Hd h;obtain⟨S,hS⟩:∃S,wB kindOf c.E s=S:=⟨_,rfl⟩
 try rw[hS]
 unfold wB at hS;obtain⟨T,hT⟩:∃T,zh c.E s=T:=⟨_,rfl⟩
 rw[hT]at hS;have HT:=Hd hT;clear he h hkindOf;have ha:prog.follows .mixedOrders=true:=by kernel_rfl
 have A0:AtP c s.next s.next _ _ _ _ S _:=⟨hS.symm,Hb.o,nlr,nlr⟩
 clear hS hT Hb;go_enter func201,ntmps201
 go_wp2_with (first
  | (go_at_call 134;refine dV HE A1 (fun _ _ a b=>⟨rfl,.er a b⟩) ?_;intro w2 A2;)
  | (go_at_call 197;refine vY HE HT A0 (fun _ _ a b=>⟨rfl,.er a b⟩) ?_;intro w1 A1;))
 refine N.region_C [false,false,false,false,false,true,true,true,true] [?vC1_0,?vC1_1,?vC1_2,?vC1_3,?vC1_4,undef,undef,undef,undef] ha (by kernel_rfl) (by kernel_rfl) (by kernel_rfl) (by kernel_rfl) rfl rfl (fun ch w=>RdI c F d s.next S (.panicked ch) w) (fun ch b w hd h=>⟨hd,h⟩) (fun Wz=>Wz.heap[w1.heap.size]?=some (tkO T)) (A2.p.drew.own (w1.heap.size,tkO T) (by simp)) ?wC1_ ?_
 case wC1_=>
  iterate 5 (refine N.WalkC.still (N.StillP.known rfl ?_) ?_;(intro W hJ;have j00:=za (i:=0) hJ rfl;have j01:=za (i:=1) hJ rfl;have j02:=za (i:=2) hJ rfl;go_simp;rfl);simp only[N.pz])
  refine N.WalkC.chain fun u5=>?_;simp only[N.pz];refine N.WalkC.chain fun u6=>?_;simp only[N.pz];refine N.WalkC.chain fun u7=>?_;simp only[N.pz];refine N.WalkC.chain fun u8=>?_;simp only[N.pz];exact .nil
 iterate 5 (refine N.TailC.still ?_;simp only[N.pz])
 refine N.TailC.call (f:=202) (args:=#[c.ptr]) rfl ?a5 ?_;case a5=>go_simp;try rfl
 refine gQ Ha A2.drew (fun _ _ a b=>.inr ⟨_,rfl,.er a b⟩) ?_;intro a3 s3 w3 A3;refine .inl ⟨_,rfl,(fun _=>A3.p.own (w1.heap.size,tkO T) (by simp)),?_⟩;simp only[N.pz];refine N.TailC.run (v:=.slice (some ⟨w3.heap.size,0,none⟩) 1 1) (w':=w3.alloc (.cells #[intV a3] 3)) rfl ?a6 (fun _=>(A3.p.alloc _).drop.own (w1.heap.size,tkO T) (by simp)) ?b6;case a6=>go_simp;try rfl
 simp only[N.pz];refine N.TailC.call (f:=199) (args:=#[c.ptr,.int .u8 34,tkA T,strV T.text,intV 0,.slice (some ⟨w3.heap.size,0,none⟩) 1 1]) rfl ?a7 ?_;case a7=>go_simp;try rfl
 refine(mR HE.o A3.p 34 T T.text 0 [a3] rfl).mono ?_;rintro e w4⟨rfl,hp⟩;have A4:=A3.up hp rfl;clear hp;refine .inl ⟨_,rfl,(fun _=>A4.p.own (w1.heap.size,tkO T) (by simp)),?_⟩;simp only[N.pz];refine N.TailC.run (v:=intV s3.nodes.length) (w':=w4) rfl ?a8 (fun h=>absurd rfl h) ?b8;case a8=>go_simp;try rfl
 simp only[N.pz];refine N.TailC.nil ?_;go_wp2;go_ret;exact .ok A4.eq A4.le ((A4.p.drop).less (by omega))
theorem SC{c:PC}(he:OkC c){expr:RdP}{s:PS}(hexpr:∀s',s.next<s'.next->zx c 205 expr s'):zx c 226 (putP expr c.E) s:=by
 intro F d X h;have HE:=Hd he;have Ha:=Hd hexpr;have Hb:=Hd h;obtain⟨S,hS⟩:∃S,putP expr c.E s=S:=⟨_,rfl⟩
 try rw[hS]
 unfold putP at hS;obtain⟨T,hT⟩:∃T,zh c.E s=T:=⟨_,rfl⟩
 rw[hT]at hS;have HT:=Hd hT;clear he h hexpr;have ha:prog.follows .mixedOrders=true:=by kernel_rfl
 have A0:AtP c s.next s.next _ _ _ _ S _:=⟨hS.symm,Hb.o,nlr,nlr⟩
 clear hS hT Hb;go_enter func226,ntmps226
 go_wp2_with (first
  | (go_at_call 134;refine dV HE A1 (fun _ _ a b=>⟨rfl,.er a b⟩) ?_;intro w2 A2;)
  | (go_at_call 197;refine vY HE HT A0 (fun _ _ a b=>⟨rfl,.er a b⟩) ?_;intro w1 A1;))
 refine N.region_C [false,false,false,false,false,true,true,true,true] [?vC2_0,?vC2_1,?vC2_2,?vC2_3,?vC2_4,undef,undef,undef,undef] ha (by kernel_rfl) (by kernel_rfl) (by kernel_rfl) (by kernel_rfl) rfl rfl (fun ch w=>RdI c F d s.next S (.panicked ch) w) (fun ch b w hd h=>⟨hd,h⟩) (fun Wz=>Wz.heap[w1.heap.size]?=some (tkO T)) (A2.p.drew.own (w1.heap.size,tkO T) (by simp)) ?wC2_ ?_
 case wC2_=>
  iterate 5 (refine N.WalkC.still (N.StillP.known rfl ?_) ?_;(intro W hJ;have j00:=za (i:=0) hJ rfl;have j01:=za (i:=1) hJ rfl;have j02:=za (i:=2) hJ rfl;go_simp;rfl);simp only[N.pz])
  refine N.WalkC.chain fun u5=>?_;simp only[N.pz];refine N.WalkC.chain fun u6=>?_;simp only[N.pz];refine N.WalkC.chain fun u7=>?_;simp only[N.pz];refine N.WalkC.chain fun u8=>?_;simp only[N.pz];exact .nil
 iterate 5 (refine N.TailC.still ?_;simp only[N.pz])
 refine N.TailC.call (f:=205) (args:=#[c.ptr]) rfl ?a5 ?_;case a5=>go_simp;try rfl
 refine gQ Ha A2.drew (fun _ _ a b=>.inr ⟨_,rfl,.er a b⟩) ?_;intro a3 s3 w3 A3;refine .inl ⟨_,rfl,(fun _=>A3.p.own (w1.heap.size,tkO T) (by simp)),?_⟩;simp only[N.pz];refine N.TailC.run (v:=.slice (some ⟨w3.heap.size,0,none⟩) 1 1) (w':=w3.alloc (.cells #[intV a3] 3)) rfl ?a6 (fun _=>(A3.p.alloc _).drop.own (w1.heap.size,tkO T) (by simp)) ?b6;case a6=>go_simp;try rfl
 simp only[N.pz];refine N.TailC.call (f:=199) (args:=#[c.ptr,.int .u8 25,tkA T,strV T.text,intV 0,.slice (some ⟨w3.heap.size,0,none⟩) 1 1]) rfl ?a7 ?_;case a7=>go_simp;try rfl
 refine(mR HE.o A3.p 25 T T.text 0 [a3] rfl).mono ?_;rintro e w4⟨rfl,hp⟩;have A4:=A3.up hp rfl;clear hp;refine .inl ⟨_,rfl,(fun _=>A4.p.own (w1.heap.size,tkO T) (by simp)),?_⟩;simp only[N.pz];refine N.TailC.run (v:=intV s3.nodes.length) (w':=w4) rfl ?a8 (fun h=>absurd rfl h) ?b8;case a8=>go_simp;try rfl
 simp only[N.pz];refine N.TailC.nil ?_;go_wp2;go_ret;exact .ok A4.eq A4.le ((A4.p.drop).less (by omega))
theorem SB{c:PC}(he:OkC c){below self:RdP}{s:PS}(hself:∀s',s.next<s'.next->zx c 218 self s')(hbelow:zx c 219 below s):zx c 218 (kV 5 wNot self below c.E) s:=by
 intro F d X h;have HE:=Hd he;have Hb:=Hd hself;have Ha:=Hd hbelow;have Hc:=Hd h;obtain⟨S,hS⟩:∃S,kV 5 wNot self below c.E s=S:=⟨_,rfl⟩
 try rw[hS]
 unfold kV at hS;obtain⟨T,hT⟩:∃T,zh c.E s=T:=⟨_,rfl⟩
 rw[hT]at hS;have HT:=Hd hT;clear he h hself hbelow;have ha:prog.follows .mixedOrders=true:=by kernel_rfl
 cases h1:isP c.E s wNot with
 | true=>
   simp only[h1,if_true,if_false,Bool.false_eq_true,ite_true,ite_false]at hS;have A0:AtP c s.next s.next _ _ _ _ S _:=⟨hS.symm,Hc.o,nlr,nlr⟩
   have H1:=Hd h1;clear hS hT Hc h1;go_enter func218,ntmps218
   go_wp2_with (first
    | (go_at_call 203;refine hasT HE H1 A1 ?_;intro w2 A2;)
    | (go_at_call 131;refine iP HE HT A0 ?_;intro w1 A1;))
   refine N.region_C [false,false,false,true,true,true,true] [?vC3_0,?vC3_1,?vC3_2,undef,undef,undef,undef] ha (by kernel_rfl) (by kernel_rfl) (by kernel_rfl) (by kernel_rfl) rfl rfl (fun ch w=>RdI c F d s.next S (.panicked ch) w) (fun ch b w hd h=>⟨hd,h⟩) (fun Wz=>Wz.heap[w1.heap.size]?=some (tkO T)) (A2.p.drew.own (w1.heap.size,tkO T) (by simp)) ?wC3_ ?_
   case wC3_=>
    iterate 3 (refine N.WalkC.still (N.StillP.known rfl ?_) ?_;(intro W hJ;have j00:=za (i:=0) hJ rfl;have j01:=za (i:=1) hJ rfl;have j02:=za (i:=2) hJ rfl;go_simp;rfl);simp only[N.pz])
    refine N.WalkC.chain fun u3=>?_;simp only[N.pz];refine N.WalkC.chain fun u4=>?_;simp only[N.pz];refine N.WalkC.chain fun u5=>?_;simp only[N.pz];refine N.WalkC.chain fun u6=>?_;simp only[N.pz];exact .nil
   iterate 3 (refine N.TailC.still ?_;simp only[N.pz])
   refine N.TailC.call (f:=218) (args:=#[c.ptr]) rfl ?a3 ?_;case a3=>go_simp;try rfl
   refine gQ Hb A2.drew (fun _ _ a b=>.inr ⟨_,rfl,.er a b⟩) ?_;intro a3 s3 w3 A3;refine .inl ⟨_,rfl,(fun _=>A3.p.own (w1.heap.size,tkO T) (by simp)),?_⟩;simp only[N.pz];refine N.TailC.run (v:=.slice (some ⟨w3.heap.size,0,none⟩) 1 1) (w':=w3.alloc (.cells #[intV a3] 3)) rfl ?a4 (fun _=>(A3.p.alloc _).drop.own (w1.heap.size,tkO T) (by simp)) ?b4;case a4=>go_simp;try rfl
   simp only[N.pz];refine N.TailC.call (f:=199) (args:=#[c.ptr,.int .u8 5,tkA T,strV [],intV 0,.slice (some ⟨w3.heap.size,0,none⟩) 1 1]) rfl ?a5 ?_;case a5=>go_simp;try rfl
   refine(mR HE.o A3.p 5 T [] 0 [a3] rfl).mono ?_;rintro e w4⟨rfl,hp⟩;have A4:=A3.up hp rfl;clear hp;refine .inl ⟨_,rfl,(fun _=>A4.p.own (w1.heap.size,tkO T) (by simp)),?_⟩;simp only[N.pz];refine N.TailC.run (v:=intV s3.nodes.length) (w':=w4) rfl ?a6 (fun h=>absurd rfl h) ?b6;case a6=>go_simp;try rfl
   simp only[N.pz];refine N.TailC.nil ?_;go_wp2;go_ret;exact .ok A4.eq A4.le ((A4.p.drop).less (by omega))
 | false=>
   simp only[h1,if_true,if_false,Bool.false_eq_true,ite_true,ite_false]at hS;have A0:AtP c s.next s.next _ _ _ _ S _:=⟨hS.symm,Hc.o,nlr,nlr⟩
   have H1:=Hd h1;clear hS hT Hc h1;go_enter func218,ntmps218
   go_wp2_with (first
    | (go_at_call 219;refine NJ A2 (Ha.o _ _ _ A2.p) (fun _ _ a b=>⟨rfl,.er a b⟩) ?_;intro a3 s3 w3 A3;)
    | (go_at_call 203;refine hasF HE H1 A1 ?_;intro w2 A2;)
    | (go_at_call 131;refine iP HE HT A0 ?_;intro w1 A1;))
   go_ret;exact .ok A3.eq A3.le ((A3.p.drop).less (by omega))
theorem OY{c:PC}(he:OkC c){below self:RdP}{s:PS}(hself:∀s',s.next<s'.next->zx c 222 self s')(hbelow:zx c 223 below s):zx c 222 (kV 4 qY self below c.E) s:=by
 intro F d X h;have HE:=Hd he;have Hb:=Hd hself;have Ha:=Hd hbelow;have Hc:=Hd h;obtain⟨S,hS⟩:∃S,kV 4 qY self below c.E s=S:=⟨_,rfl⟩
 try rw[hS]
 unfold kV at hS;obtain⟨T,hT⟩:∃T,zh c.E s=T:=⟨_,rfl⟩
 rw[hT]at hS;have HT:=Hd hT;clear he h hself hbelow;have ha:prog.follows .mixedOrders=true:=by kernel_rfl
 cases h1:isP c.E s qY with
 | true=>
   simp only[h1,if_true,if_false,Bool.false_eq_true,ite_true,ite_false]at hS;have A0:AtP c s.next s.next _ _ _ _ S _:=⟨hS.symm,Hc.o,nlr,nlr⟩
   have H1:=Hd h1;clear hS hT Hc h1;go_enter func222,ntmps222
   go_wp2_with (first
    | (go_at_call 203;refine hasT HE H1 A1 ?_;intro w2 A2;)
    | (go_at_call 131;refine iP HE HT A0 ?_;intro w1 A1;))
   refine N.region_C [false,false,false,true,true,true,true] [?vC4_0,?vC4_1,?vC4_2,undef,undef,undef,undef] ha (by kernel_rfl) (by kernel_rfl) (by kernel_rfl) (by kernel_rfl) rfl rfl (fun ch w=>RdI c F d s.next S (.panicked ch) w) (fun ch b w hd h=>⟨hd,h⟩) (fun Wz=>Wz.heap[w1.heap.size]?=some (tkO T)) (A2.p.drew.own (w1.heap.size,tkO T) (by simp)) ?wC4_ ?_
   case wC4_=>
    iterate 3 (refine N.WalkC.still (N.StillP.known rfl ?_) ?_;(intro W hJ;have j00:=za (i:=0) hJ rfl;have j01:=za (i:=1) hJ rfl;have j02:=za (i:=2) hJ rfl;go_simp;rfl);simp only[N.pz])
    refine N.WalkC.chain fun u3=>?_;simp only[N.pz];refine N.WalkC.chain fun u4=>?_;simp only[N.pz];refine N.WalkC.chain fun u5=>?_;simp only[N.pz];refine N.WalkC.chain fun u6=>?_;simp only[N.pz];exact .nil
   iterate 3 (refine N.TailC.still ?_;simp only[N.pz])
   refine N.TailC.call (f:=222) (args:=#[c.ptr]) rfl ?a3 ?_;case a3=>go_simp;try rfl
   refine gQ Hb A2.drew (fun _ _ a b=>.inr ⟨_,rfl,.er a b⟩) ?_;intro a3 s3 w3 A3;refine .inl ⟨_,rfl,(fun _=>A3.p.own (w1.heap.size,tkO T) (by simp)),?_⟩;simp only[N.pz];refine N.TailC.run (v:=.slice (some ⟨w3.heap.size,0,none⟩) 1 1) (w':=w3.alloc (.cells #[intV a3] 3)) rfl ?a4 (fun _=>(A3.p.alloc _).drop.own (w1.heap.size,tkO T) (by simp)) ?b4;case a4=>go_simp;try rfl
   simp only[N.pz];refine N.TailC.call (f:=199) (args:=#[c.ptr,.int .u8 4,tkA T,strV [],intV 0,.slice (some ⟨w3.heap.size,0,none⟩) 1 1]) rfl ?a5 ?_;case a5=>go_simp;try rfl
   refine(mR HE.o A3.p 4 T [] 0 [a3] rfl).mono ?_;rintro e w4⟨rfl,hp⟩;have A4:=A3.up hp rfl;clear hp;refine .inl ⟨_,rfl,(fun _=>A4.p.own (w1.heap.size,tkO T) (by simp)),?_⟩;simp only[N.pz];refine N.TailC.run (v:=intV s3.nodes.length) (w':=w4) rfl ?a6 (fun h=>absurd rfl h) ?b6;case a6=>go_simp;try rfl
   simp only[N.pz];refine N.TailC.nil ?_;go_wp2;go_ret;exact .ok A4.eq A4.le ((A4.p.drop).less (by omega))
 | false=>
   simp only[h1,if_true,if_false,Bool.false_eq_true,ite_true,ite_false]at hS;have A0:AtP c s.next s.next _ _ _ _ S _:=⟨hS.symm,Hc.o,nlr,nlr⟩
   have H1:=Hd h1;clear hS hT Hc h1;go_enter func222,ntmps222
   go_wp2_with (first
    | (go_at_call 223;refine NJ A2 (Ha.o _ _ _ A2.p) (fun _ _ a b=>⟨rfl,.er a b⟩) ?_;intro a3 s3 w3 A3;)
    | (go_at_call 203;refine hasF HE H1 A1 ?_;intro w2 A2;)
    | (go_at_call 131;refine iP HE HT A0 ?_;intro w1 A1;))
   go_ret;exact .ok A3.eq A3.le ((A3.p.drop).less (by omega))
theorem uV{c:PC}(he:OkC c){s:PS}:zx c 198 (iO c.E) s:=by
 intro F d X h;have HE:=Hd he;have Ha:=Hd h;obtain⟨S,hS⟩:∃S,iO c.E s=S:=⟨_,rfl⟩
 try rw[hS]
 unfold iO at hS;obtain⟨T,hT⟩:∃T,zh c.E s=T:=⟨_,rfl⟩
 rw[hT]at hS;have HT:=Hd hT;clear he h;have hd:prog.follows .mixedOrders=true:=by kernel_rfl
 cases h1:isP c.E s qY with
 | true=>
   simp only[h1,if_true,if_false,Bool.false_eq_true,ite_true,ite_false]at hS;have A0:AtP c s.next s.next _ _ _ _ S _:=⟨hS.symm,Ha.o,nlr,nlr⟩
   have H1:=Hd h1;clear hS hT Ha h1;go_enter func198,ntmps198
   go_wp2_with (first
    | (go_at_call 199;refine(QAdd0 HE.o A3.p 1 T [] _).mono ?_;rintro e w4 ⟨rfl,hp⟩;have A4:=A3.up hp rfl;clear hp)
    | (go_at_call 204;refine(kB HE.o A2.p).mono ?_;rintro e w3 (⟨ps,hr,rfl,hb⟩|⟨hr,-,he,ha,hc,hp⟩);(exact⟨rfl,.er (bG A2.eq hr) hb⟩);have q:=bH A2.eq hr;subst he;obtain⟨U,hU⟩:∃y,zh c.E s.take=y:=⟨_,rfl⟩;rw[hU];rw[hU]at q ha hc;have HU:=Hd hU;clear hU;obtain⟨v,hv⟩:∃v,valP U.text=v:=⟨_,rfl⟩;rw[hv]at q ha hc;rw[hv];clear hv;(try simp only[Int.neg_mul,Int.one_mul]at q);have A3:AtP c s.next (s.next+1) _ _ _ _ S _:=⟨q,hp.alloc (tkO U),Nat.succ_le_succ A2.le,Nat.le_succ _⟩;clear hp hr q;obtain⟨c3_00,c3_01,c3_02⟩:=A3.p.own.tk (b:=w3.heap.size) (t:=U) (by simp);obtain⟨c3_10,c3_11,c3_12⟩:=A3.p.own.tk (b:=w1.heap.size) (t:=T) (by simp);)
    | (go_at_call 203;refine hasT HE H1 A1 ?_;intro w2 A2;)
    | (go_at_call 131;refine iP HE HT A0 ?_;intro w1 A1;))
   go_ret;exact .ok A4.eq A4.le ((A4.p.drop.drop).less (by omega))
 | false=>
   simp only[h1,if_true,if_false,Bool.false_eq_true,ite_true,ite_false]at hS;have A0:AtP c s.next s.next _ _ _ _ S _:=⟨hS.symm,Ha.o,nlr,nlr⟩
   have H1:=Hd h1;clear hS hT Ha h1;go_enter func198,ntmps198
   go_wp2_with (first
    | (go_at_call 199;refine(QAdd0 HE.o A3.p 1 T [] _).mono ?_;rintro e w4 ⟨rfl,hp⟩;have A4:=A3.up hp rfl;clear hp)
    | (go_at_call 204;refine(kB HE.o A2.p).mono ?_;rintro e w3 (⟨ps,hr,rfl,hb⟩|⟨hr,-,he,ha,hc,hp⟩);(exact⟨rfl,.er (bG A2.eq hr) hb⟩);have q:=bH A2.eq hr;rw[HT.o]at he ha hc;subst he;obtain⟨v,hv⟩:∃v,valP T.text=v:=⟨_,rfl⟩;rw[hv]at q ha hc;rw[hv];clear hv;(try simp only[Int.neg_mul,Int.one_mul]at q);have A3:AtP c s.next (s.next+1) _ _ _ _ S _:=⟨q,hp.alloc (tkO T),Nat.succ_le_succ A2.le,Nat.le_succ _⟩;clear hp hr q;obtain⟨c3_00,c3_01,c3_02⟩:=A3.p.own.tk (b:=w3.heap.size) (t:=T) (by simp);obtain⟨c3_10,c3_11,c3_12⟩:=A3.p.own.tk (b:=w1.heap.size) (t:=T) (by simp);)
    | (go_at_call 203;refine hasF HE H1 A1 ?_;intro w2 A2;)
    | (go_at_call 131;refine iP HE HT A0 ?_;intro w1 A1;))
   go_ret;exact .ok A4.eq A4.le ((A4.p.drop.drop).less (by omega))
theorem LP{c:PC}(he:OkC c){kindOf:RdP}{s:PS}(hkindOf:∀s',s.next<s'.next->zx c 202 kindOf s'):zx c 202 (nA kindOf c.E) s:=by
 intro F d X h;have HE:=Hd he;have Ha:=Hd hkindOf;have Hb:=Hd h;obtain⟨S,hS⟩:∃S,nA kindOf c.E s=S:=⟨_,rfl⟩
 try rw[hS]
 unfold nA at hS;obtain⟨T,hT⟩:∃T,zh c.E s=T:=⟨_,rfl⟩
 rw[hT]at hS;have HT:=Hd hT;clear he h hkindOf;have hf:prog.follows .mixedOrders=true:=by kernel_rfl
 cases h1:isP c.E s wInt with
 | true=>
   simp only[h1,if_true,if_false,Bool.false_eq_true,ite_true,ite_false]at hS;have A0:AtP c s.next s.next _ _ _ _ S _:=⟨hS.symm,Hb.o,nlr,nlr⟩
   have H1:=Hd h1;clear hS hT Hb h1;go_enter func202,ntmps202
   go_wp2_with (first
    | (go_at_call 199;refine(QAdd0 HE.o A2.p 30 T [] 0).mono ?_;rintro e w3 ⟨rfl,hp⟩;have A3:=A2.up hp rfl;clear hp)
    | (go_at_call 203;refine hasT HE H1 A1 ?_;intro w2 A2;obtain⟨c2_00,c2_01,c2_02⟩:=A2.p.own.tk (b:=w1.heap.size) (t:=T) (by simp);)
    | (go_at_call 131;refine iP HE HT A0 ?_;intro w1 A1;))
   go_ret;exact .ok A3.eq A3.le ((A3.p.drop).less (by omega))
 | false=>
   cases h2:isP c.E s RT with
   | true=>
     simp only[h1,h2,if_true,if_false,Bool.false_eq_true,ite_true,ite_false]at hS;have A0:AtP c s.next s.next _ _ _ _ S _:=⟨hS.symm,Hb.o,nlr,nlr⟩
     have H1:=Hd h1;have H2:=Hd h2;clear hS hT Hb h1 h2;go_enter func202,ntmps202
     go_wp2_with (first
      | (go_at_call 199;refine(QAdd0 HE.o A3.p 31 T [] 0).mono ?_;rintro e w4 ⟨rfl,hp⟩;have A4:=A3.up hp rfl;clear hp)
      | (go_at_call 203;refine hasT HE H2 A2 ?_;intro w3 A3;obtain⟨c3_00,c3_01,c3_02⟩:=A3.p.own.tk (b:=w1.heap.size) (t:=T) (by simp);)
      | (go_at_call 203;refine hasF HE H1 A1 ?_;intro w2 A2;)
      | (go_at_call 131;refine iP HE HT A0 ?_;intro w1 A1;))
     go_ret;exact .ok A4.eq A4.le ((A4.p.drop).less (by omega))
   | false=>
     cases h3:isP c.E s jT with
     | true=>
       simp only[h1,h2,h3,if_true,if_false,Bool.false_eq_true,ite_true,ite_false]at hS;have A0:AtP c s.next s.next _ _ _ _ S _:=⟨hS.symm,Hb.o,nlr,nlr⟩
       have H1:=Hd h1;have H2:=Hd h2;have H3:=Hd h3;clear hS hT Hb h1 h2 h3;go_enter func202,ntmps202
       go_wp2_with (first
        | (go_at_call 199;refine(mR HE.o A8.p 33 T [] v [a5] rfl).mono ?_;rintro e w9 ⟨rfl,hp⟩;have A9:=A8.up hp rfl;clear hp)
        | (go_at_call 134;refine dV HE A7 (fun _ _ a b=>⟨rfl,.er a b⟩) ?_;intro w8 A8;obtain⟨c8_00,c8_01,c8_02⟩:=A8.p.own.tk (b:=w7.heap.size) (t:=U) (by simp);obtain⟨c8_10,c8_11,c8_12⟩:=A8.p.own.tk (b:=w1.heap.size) (t:=T) (by simp);)
        | (go_at_call 204;refine(kB HE.o A6.p).mono ?_;rintro e w7 (⟨ps,hr,rfl,hb⟩|⟨hr,-,he,ha,hc,hp⟩);(exact⟨rfl,.er (bG A6.eq hr) hb⟩);have q:=bH A6.eq hr;subst he;obtain⟨U,hU⟩:∃y,zh c.E s5.take=y:=⟨_,rfl⟩;rw[hU];rw[hU]at q ha hc;have HU:=Hd hU;clear hU;obtain⟨v,hv⟩:∃v,valP U.text=v:=⟨_,rfl⟩;rw[hv]at q ha hc;rw[hv];clear hv;(try simp only[Int.neg_mul,Int.one_mul]at q);have A7:AtP c s.next (s.next+1) _ _ _ _ S _:=⟨q,hp.alloc (tkO U),Nat.succ_le_succ A6.le,Nat.le_succ _⟩;clear hp hr q;)
        | (go_at_call 134;refine dV HE A5 (fun _ _ a b=>⟨rfl,.er a b⟩) ?_;intro w6 A6;)
        | (go_at_call 202;refine gQ Ha A4 (fun _ _ a b=>⟨rfl,.er a b⟩) ?_;intro a5 s5 w5 A5;)
        | (go_at_call 203;refine hasT HE H3 A3 ?_;intro w4 A4;)
        | (go_at_call 203;refine hasF HE H2 A2 ?_;intro w3 A3;)
        | (go_at_call 203;refine hasF HE H1 A1 ?_;intro w2 A2;)
        | (go_at_call 131;refine iP HE HT A0 ?_;intro w1 A1;))
       go_ret;exact .ok A9.eq A9.le ((A9.p.drop.drop).less (by omega))
     | false=>
       simp only[h1,h2,h3,if_true,if_false,Bool.false_eq_true,ite_true,ite_false]at hS;have A0:AtP c s.next s.next _ _ _ _ S _:=⟨hS.symm,Hb.o,nlr,nlr⟩
       have H1:=Hd h1;have H2:=Hd h2;have H3:=Hd h3;clear hS hT Hb h1 h2 h3;go_enter func202,ntmps202
       go_wp2_with (first
        | (go_at_call 203;refine hasF HE H3 A3 ?_;intro w4 A4;)
        | (go_at_call 203;refine hasF HE H2 A2 ?_;intro w3 A3;)
        | (go_at_call 203;refine hasF HE H1 A1 ?_;intro w2 A2;)
        | (go_at_call 131;refine iP HE HT A0 ?_;intro w1 A1;))
       refine N.region_C [false,false,false,true,true,true,true] [?vC5_0,?vC5_1,?vC5_2,undef,undef,undef,undef] hf (by kernel_rfl) (by kernel_rfl) (by kernel_rfl) (by kernel_rfl) rfl rfl (fun ch w=>RdI c F d s.next S (.panicked ch) w) (fun ch b w hd h=>⟨hd,h⟩) (fun Wz=>Wz.heap[w1.heap.size]?=some (tkO T)) (A4.p.drew.own (w1.heap.size,tkO T) (by simp)) ?wC5_ ?_
       case wC5_=>
        iterate 3 (refine N.WalkC.still (N.StillP.known rfl ?_) ?_;(intro W hJ;have j00:=za (i:=0) hJ rfl;have j01:=za (i:=1) hJ rfl;have j02:=za (i:=2) hJ rfl;go_simp;rfl);simp only[N.pz])
        refine N.WalkC.chain fun u3=>?_;simp only[N.pz];refine N.WalkC.chain fun u4=>?_;simp only[N.pz];refine N.WalkC.chain fun u5=>?_;simp only[N.pz];refine N.WalkC.chain fun u6=>?_;simp only[N.pz];exact .nil
       iterate 3 (refine N.TailC.still ?_;simp only[N.pz])
       refine N.TailC.call (f:=197) (args:=#[c.ptr]) rfl ?a3 ?_;case a3=>go_simp;try rfl
       refine ND HE HT A4.drew (fun _ _ a b=>.inr ⟨_,rfl,.er a b⟩) ?_;intro w5 A5;refine .inl ⟨_,rfl,(fun _=>A5.p.own (w1.heap.size,tkO T) (by simp)),?_⟩;simp only[N.pz];refine N.TailC.run (v:=strV T.text) (w':=w5) rfl ?a4 (fun _=>A5.p.own (w1.heap.size,tkO T) (by simp)) ?b4;case a4=>go_simp;try rfl
       simp only[N.pz];refine N.TailC.call (f:=199) (args:=#[c.ptr,.int .u8 32,tkA T,strV T.text,intV 0,.slice none 0 0]) rfl ?a5 ?_;case a5=>go_simp;try rfl
       refine(QAdd0 HE.o A5.p 32 T T.text 0).mono ?_;rintro e w6⟨rfl,hp⟩;have A6:=A5.up hp rfl;clear hp;refine .inl ⟨_,rfl,(fun _=>A6.p.own (w1.heap.size,tkO T) (by simp)),?_⟩;simp only[N.pz];refine N.TailC.run (v:=intV s.take.nodes.length) (w':=w6) rfl ?a6 (fun h=>absurd rfl h) ?b6;case a6=>go_simp;try rfl
       simp only[N.pz];refine N.TailC.nil ?_;go_wp2;go_ret;exact .ok A6.eq A6.le ((A6.p.drop).less (by omega))
theorem LN{c:PC}(he:OkC c){s:PS}(nm:Tk):∀(F:List (Nat×Obj)) (d:Nat) (X:World),PQ c s F d X->Calls prog 165 #[c.ptr,tkA nm] X (RdI c F d s.next (kZ c.E nm s)):=by
 intro F d X h;have HE:=Hd he;have Ha:=Hd h;obtain⟨S,hS⟩:∃S,kZ c.E nm s=S:=⟨_,rfl⟩
 try rw[hS]
 unfold kZ at hS;obtain⟨T,hT⟩:∃T,zh c.E s=T:=⟨_,rfl⟩
 rw[hT]at hS;have HT:=Hd hT;clear he h;have hc:prog.follows .mixedOrders=true:=by kernel_rfl
 have A0:AtP c s.next s.next _ _ _ _ S _:=⟨hS.symm,Ha.o,nlr,nlr⟩
 clear hS hT Ha
 replace A0:=A0.box nm
 go_enter func165,ntmps165
 go_wp2_with (first
  | (go_at_call 134;refine dV HE A3 (fun _ _ a b=>⟨rfl,.er a b⟩) ?_;intro w4 A4;)
  | (go_at_call 198;refine gQ (Hd fun _ _=>uV HE.o) A2 (fun _ _ a b=>⟨rfl,.er a b⟩) ?_;intro a3 s3 w3 A3;)
  | (go_at_call 134;refine dV HE A1 (fun _ _ a b=>⟨rfl,.er a b⟩) ?_;intro w2 A2;)
  | (go_at_call 197;refine vY HE HT A0 (fun _ _ a b=>⟨rfl,.er a b⟩) ?_;intro w1 A1;))
 refine N.region_C [false,false,false,false,false,false,true,true,true,true] [?vC6_0,?vC6_1,?vC6_2,?vC6_3,?vC6_4,?vC6_5,undef,undef,undef,undef] hc (by kernel_rfl) (by kernel_rfl) (by kernel_rfl) (by kernel_rfl) rfl rfl (fun ch w=>RdI c F d s.next S (.panicked ch) w) (fun ch b w hd h=>⟨hd,h⟩) (fun Wz=>Wz.heap[w1.heap.size]?=some (tkO T)/\Wz.heap[X.heap.size]?=some (tkO nm)) ⟨A4.p.drew.own (w1.heap.size,tkO T) (by simp),A4.p.drew.own (X.heap.size,tkO nm) (by simp)⟩ ?wC6_ ?_
 case wC6_=>
  iterate 6 (refine N.WalkC.still (N.StillP.known rfl ?_) ?_;(intro W hJ;obtain⟨ha,hb⟩:=hJ;have j00:=za (i:=0) ha rfl;have j01:=za (i:=1) ha rfl;have j02:=za (i:=2) ha rfl;have j10:=za (i:=0) hb rfl;have j11:=za (i:=1) hb rfl;have j12:=za (i:=2) hb rfl;go_simp;rfl);simp only[N.pz])
  refine N.WalkC.chain fun u6=>?_;simp only[N.pz];refine N.WalkC.chain fun u7=>?_;simp only[N.pz];refine N.WalkC.chain fun u8=>?_;simp only[N.pz];refine N.WalkC.chain fun u9=>?_;simp only[N.pz];exact .nil
 iterate 6 (refine N.TailC.still ?_;simp only[N.pz])
 refine N.TailC.call (f:=198) (args:=#[c.ptr]) rfl ?a6 ?_;case a6=>go_simp;try rfl
 refine gQ (Hd fun _ _=>uV HE.o) A4.drew (fun _ _ a b=>.inr ⟨_,rfl,.er a b⟩) ?_;intro a5 s5 w5 A5;refine .inl ⟨_,rfl,(fun _=>⟨A5.p.own (w1.heap.size,tkO T) (by simp),A5.p.own (X.heap.size,tkO nm) (by simp)⟩),?_⟩;simp only[N.pz];refine N.TailC.run (v:=.slice (some ⟨w5.heap.size,0,none⟩) 2 2) (w':=w5.alloc (.cells #[intV a3,intV a5] 3)) rfl ?a7 (fun _=>⟨(A5.p.alloc _).drop.own (w1.heap.size,tkO T) (by simp),(A5.p.alloc _).drop.own (X.heap.size,tkO nm) (by simp)⟩) ?b7;case a7=>go_simp;try rfl
 simp only[N.pz];refine N.TailC.call (f:=199) (args:=#[c.ptr,.int .u8 40,tkA nm,strV T.text,intV 0,.slice (some ⟨w5.heap.size,0,none⟩) 2 2]) rfl ?a8 ?_;case a8=>go_simp;try rfl
 refine(mR HE.o A5.p 40 nm T.text 0 [a3,a5] rfl).mono ?_;rintro e w6⟨rfl,hp⟩;have A6:=A5.up hp rfl;clear hp;refine .inl ⟨_,rfl,(fun _=>⟨A6.p.own (w1.heap.size,tkO T) (by simp),A6.p.own (X.heap.size,tkO nm) (by simp)⟩),?_⟩;simp only[N.pz];refine N.TailC.run (v:=intV s5.nodes.length) (w':=w6) rfl ?a9 (fun h=>absurd rfl h) ?b9;case a9=>go_simp;try rfl
 simp only[N.pz];refine N.TailC.nil ?_;go_wp2;go_ret;exact .ok A6.eq A6.le ((A6.p.drop.drop).less (by omega))
theorem SA{c:PC}(he:OkC c){expr:RdP}{s:PS}(nm:Tk)(hexpr:∀s',s.next<s'.next->zx c 205 expr s'):∀(F:List (Nat×Obj)) (d:Nat) (X:World),PQ c s F d X->Calls prog 168 #[c.ptr,tkA nm] X (RdI c F d s.next (letP expr c.E nm s)):=by
 intro F d X h;have HE:=Hd he;have Ha:=Hd hexpr;have Hb:=Hd h;obtain⟨S,hS⟩:∃S,letP expr c.E nm s=S:=⟨_,rfl⟩
 try rw[hS]
 unfold letP at hS;obtain⟨T,hT⟩:∃T,zh c.E s=T:=⟨_,rfl⟩
 rw[hT]at hS;have HT:=Hd hT;clear he h hexpr;have hc:prog.follows .mixedOrders=true:=by kernel_rfl
 have A0:AtP c s.next s.next _ _ _ _ S _:=⟨hS.symm,Hb.o,nlr,nlr⟩
 clear hS hT Hb
 replace A0:=A0.box nm
 go_enter func168,ntmps168
 go_wp2_with (first
  | (go_at_call 134;refine dV HE A1 (fun _ _ a b=>⟨rfl,.er a b⟩) ?_;intro w2 A2;)
  | (go_at_call 197;refine vY HE HT A0 (fun _ _ a b=>⟨rfl,.er a b⟩) ?_;intro w1 A1;))
 refine N.region_C [false,false,false,false,false,true,true,true,true] [?vC7_0,?vC7_1,?vC7_2,?vC7_3,?vC7_4,undef,undef,undef,undef] hc (by kernel_rfl) (by kernel_rfl) (by kernel_rfl) (by kernel_rfl) rfl rfl (fun ch w=>RdI c F d s.next S (.panicked ch) w) (fun ch b w hd h=>⟨hd,h⟩) (fun Wz=>Wz.heap[w1.heap.size]?=some (tkO T)/\Wz.heap[X.heap.size]?=some (tkO nm)) ⟨A2.p.drew.own (w1.heap.size,tkO T) (by simp),A2.p.drew.own (X.heap.size,tkO nm) (by simp)⟩ ?wC7_ ?_
 case wC7_=>
  iterate 5 (refine N.WalkC.still (N.StillP.known rfl ?_) ?_;(intro W hJ;obtain⟨ha,hb⟩:=hJ;have j00:=za (i:=0) ha rfl;have j01:=za (i:=1) ha rfl;have j02:=za (i:=2) ha rfl;have j10:=za (i:=0) hb rfl;have j11:=za (i:=1) hb rfl;have j12:=za (i:=2) hb rfl;go_simp;rfl);simp only[N.pz])
  refine N.WalkC.chain fun u5=>?_;simp only[N.pz];refine N.WalkC.chain fun u6=>?_;simp only[N.pz];refine N.WalkC.chain fun u7=>?_;simp only[N.pz];refine N.WalkC.chain fun u8=>?_;simp only[N.pz];exact .nil
 iterate 5 (refine N.TailC.still ?_;simp only[N.pz])
 refine N.TailC.call (f:=205) (args:=#[c.ptr]) rfl ?a5 ?_;case a5=>go_simp;try rfl
 refine gQ Ha A2.drew (fun _ _ a b=>.inr ⟨_,rfl,.er a b⟩) ?_;intro a3 s3 w3 A3;refine .inl ⟨_,rfl,(fun _=>⟨A3.p.own (w1.heap.size,tkO T) (by simp),A3.p.own (X.heap.size,tkO nm) (by simp)⟩),?_⟩;simp only[N.pz];refine N.TailC.run (v:=.slice (some ⟨w3.heap.size,0,none⟩) 1 1) (w':=w3.alloc (.cells #[intV a3] 3)) rfl ?a6 (fun _=>⟨(A3.p.alloc _).drop.own (w1.heap.size,tkO T) (by simp),(A3.p.alloc _).drop.own (X.heap.size,tkO nm) (by simp)⟩) ?b6;case a6=>go_simp;try rfl
 simp only[N.pz];refine N.TailC.call (f:=199) (args:=#[c.ptr,.int .u8 43,tkA nm,strV T.text,intV 0,.slice (some ⟨w3.heap.size,0,none⟩) 1 1]) rfl ?a7 ?_;case a7=>go_simp;try rfl
 refine(mR HE.o A3.p 43 nm T.text 0 [a3] rfl).mono ?_;rintro e w4⟨rfl,hp⟩;have A4:=A3.up hp rfl;clear hp;refine .inl ⟨_,rfl,(fun _=>⟨A4.p.own (w1.heap.size,tkO T) (by simp),A4.p.own (X.heap.size,tkO nm) (by simp)⟩),?_⟩;simp only[N.pz];refine N.TailC.run (v:=intV s3.nodes.length) (w':=w4) rfl ?a8 (fun h=>absurd rfl h) ?b8;case a8=>go_simp;try rfl
 simp only[N.pz];refine N.TailC.nil ?_;go_wp2;go_ret;exact .ok A4.eq A4.le ((A4.p.drop.drop).less (by omega))
theorem GL{c:PC}(he:OkC c){expr:RdP}{s:PS}(nm:Tk)(hexpr:∀s',s.next<s'.next->zx c 205 expr s'):∀(F:List (Nat×Obj)) (d:Nat) (X:World),PQ c s F d X->Calls prog 169 #[c.ptr,tkA nm] X (RdI c F d s.next (mG expr c.E nm s)):=by
 intro F d X h;have HE:=Hd he;have Ha:=Hd hexpr;have Hb:=Hd h;obtain⟨S,hS⟩:∃S,mG expr c.E nm s=S:=⟨_,rfl⟩
 try rw[hS]
 unfold mG at hS;obtain⟨T,hT⟩:∃T,zh c.E s=T:=⟨_,rfl⟩
 rw[hT]at hS;have HT:=Hd hT;clear he h hexpr;have hc:prog.follows .mixedOrders=true:=by kernel_rfl
 have A0:AtP c s.next s.next _ _ _ _ S _:=⟨hS.symm,Hb.o,nlr,nlr⟩
 clear hS hT Hb
 replace A0:=A0.box nm
 go_enter func169,ntmps169
 go_wp2_with (first
  | (go_at_call 134;refine dV HE A1 (fun _ _ a b=>⟨rfl,.er a b⟩) ?_;intro w2 A2;)
  | (go_at_call 197;refine vY HE HT A0 (fun _ _ a b=>⟨rfl,.er a b⟩) ?_;intro w1 A1;))
 refine N.region_C [false,false,false,false,false,true,true,true,true] [?vC8_0,?vC8_1,?vC8_2,?vC8_3,?vC8_4,undef,undef,undef,undef] hc (by kernel_rfl) (by kernel_rfl) (by kernel_rfl) (by kernel_rfl) rfl rfl (fun ch w=>RdI c F d s.next S (.panicked ch) w) (fun ch b w hd h=>⟨hd,h⟩) (fun Wz=>Wz.heap[w1.heap.size]?=some (tkO T)/\Wz.heap[X.heap.size]?=some (tkO nm)) ⟨A2.p.drew.own (w1.heap.size,tkO T) (by simp),A2.p.drew.own (X.heap.size,tkO nm) (by simp)⟩ ?wC8_ ?_
 case wC8_=>
  iterate 5 (refine N.WalkC.still (N.StillP.known rfl ?_) ?_;(intro W hJ;obtain⟨ha,hb⟩:=hJ;have j00:=za (i:=0) ha rfl;have j01:=za (i:=1) ha rfl;have j02:=za (i:=2) ha rfl;have j10:=za (i:=0) hb rfl;have j11:=za (i:=1) hb rfl;have j12:=za (i:=2) hb rfl;go_simp;rfl);simp only[N.pz])
  refine N.WalkC.chain fun u5=>?_;simp only[N.pz];refine N.WalkC.chain fun u6=>?_;simp only[N.pz];refine N.WalkC.chain fun u7=>?_;simp only[N.pz];refine N.WalkC.chain fun u8=>?_;simp only[N.pz];exact .nil
 iterate 5 (refine N.TailC.still ?_;simp only[N.pz])
 refine N.TailC.call (f:=205) (args:=#[c.ptr]) rfl ?a5 ?_;case a5=>go_simp;try rfl
 refine gQ Ha A2.drew (fun _ _ a b=>.inr ⟨_,rfl,.er a b⟩) ?_;intro a3 s3 w3 A3;refine .inl ⟨_,rfl,(fun _=>⟨A3.p.own (w1.heap.size,tkO T) (by simp),A3.p.own (X.heap.size,tkO nm) (by simp)⟩),?_⟩;simp only[N.pz];refine N.TailC.run (v:=.slice (some ⟨w3.heap.size,0,none⟩) 1 1) (w':=w3.alloc (.cells #[intV a3] 3)) rfl ?a6 (fun _=>⟨(A3.p.alloc _).drop.own (w1.heap.size,tkO T) (by simp),(A3.p.alloc _).drop.own (X.heap.size,tkO nm) (by simp)⟩) ?b6;case a6=>go_simp;try rfl
 simp only[N.pz];refine N.TailC.call (f:=199) (args:=#[c.ptr,.int .u8 44,tkA nm,strV T.text,intV 0,.slice (some ⟨w3.heap.size,0,none⟩) 1 1]) rfl ?a7 ?_;case a7=>go_simp;try rfl
 refine(mR HE.o A3.p 44 nm T.text 0 [a3] rfl).mono ?_;rintro e w4⟨rfl,hp⟩;have A4:=A3.up hp rfl;clear hp;refine .inl ⟨_,rfl,(fun _=>⟨A4.p.own (w1.heap.size,tkO T) (by simp),A4.p.own (X.heap.size,tkO nm) (by simp)⟩),?_⟩;simp only[N.pz];refine N.TailC.run (v:=intV s3.nodes.length) (w':=w4) rfl ?a8 (fun h=>absurd rfl h) ?b8;case a8=>go_simp;try rfl
 simp only[N.pz];refine N.TailC.nil ?_;go_wp2;go_ret;exact .ok A4.eq A4.le ((A4.p.drop.drop).less (by omega))
theorem GO{c:PC}(he:OkC c){s:PS}(nm:Tk):∀(F:List (Nat×Obj)) (d:Nat) (X:World),PQ c s F d X->Calls prog 170 #[c.ptr,tkA nm] X (RdI c F d s.next (iS c.E nm s)):=by
 intro F d X h;have HE:=Hd he;have Ha:=Hd h;obtain⟨S,hS⟩:∃S,iS c.E nm s=S:=⟨_,rfl⟩
 try rw[hS]
 unfold iS at hS;obtain⟨T,hT⟩:∃T,zh c.E s=T:=⟨_,rfl⟩
 rw[hT]at hS;have HT:=Hd hT;clear he h;have ha:prog.follows .mixedOrders=true:=by kernel_rfl
 have A0:AtP c s.next s.next _ _ _ _ S _:=⟨hS.symm,Ha.o,nlr,nlr⟩
 clear hS hT Ha
 replace A0:=A0.box nm
 go_enter func170,ntmps170;go_wp2;refine N.region_C [false,false,false,true,true,true,true] [?vC9_0,?vC9_1,?vC9_2,undef,undef,undef,undef] ha (by kernel_rfl) (by kernel_rfl) (by kernel_rfl) (by kernel_rfl) rfl rfl (fun ch w=>RdI c F d s.next S (.panicked ch) w) (fun ch b w hd h=>⟨hd,h⟩) (fun Wz=>Wz.heap[X.heap.size]?=some (tkO nm)) (A0.p.drew.own (X.heap.size,tkO nm) (by simp)) ?wC9_ ?_
 case wC9_=>
  iterate 3 (refine N.WalkC.still (N.StillP.known rfl ?_) ?_;(intro W hJ;have j00:=za (i:=0) hJ rfl;have j01:=za (i:=1) hJ rfl;have j02:=za (i:=2) hJ rfl;go_simp;rfl);simp only[N.pz])
  refine N.WalkC.chain fun u3=>?_;simp only[N.pz];refine N.WalkC.chain fun u4=>?_;simp only[N.pz];refine N.WalkC.chain fun u5=>?_;simp only[N.pz];refine N.WalkC.chain fun u6=>?_;simp only[N.pz];exact .nil
 iterate 3 (refine N.TailC.still ?_;simp only[N.pz])
 refine N.TailC.call (f:=197) (args:=#[c.ptr]) rfl ?a3 ?_;case a3=>go_simp;try rfl
 refine ND HE HT A0.drew (fun _ _ a b=>.inr ⟨_,rfl,.er a b⟩) ?_;intro w1 A1;refine .inl ⟨_,rfl,(fun _=>A1.p.own (X.heap.size,tkO nm) (by simp)),?_⟩;simp only[N.pz];refine N.TailC.run (v:=strV T.text) (w':=w1) rfl ?a4 (fun _=>A1.p.own (X.heap.size,tkO nm) (by simp)) ?b4;case a4=>go_simp;try rfl
 simp only[N.pz];refine N.TailC.call (f:=199) (args:=#[c.ptr,.int .u8 45,tkA nm,strV T.text,intV 0,.slice none 0 0]) rfl ?a5 ?_;case a5=>go_simp;try rfl
 refine(QAdd0 HE.o A1.p 45 nm T.text 0).mono ?_;rintro e w2⟨rfl,hp⟩;have A2:=A1.up hp rfl;clear hp;refine .inl ⟨_,rfl,(fun _=>A2.p.own (X.heap.size,tkO nm) (by simp)),?_⟩;simp only[N.pz];refine N.TailC.run (v:=intV s.take.nodes.length) (w':=w2) rfl ?a6 (fun h=>absurd rfl h) ?b6;case a6=>go_simp;try rfl
 simp only[N.pz];refine N.TailC.nil ?_;go_wp2;go_ret;exact .ok A2.eq A2.le ((A2.p.drop).less (by omega))
theorem QP{c:PC}(he:OkC c){expr or:RdP}{s:PS}(hexpr:∀s',s.next<s'.next->zx c 205 expr s')(hor:zx c 213 or s):zx c 205 (EF expr or c.E) s:=by
 intro F d X h;have HE:=Hd he;have Ha:=Hd hexpr;have Hc:=Hd hor;have Hb:=Hd h;obtain⟨S,hS⟩:∃S,EF expr or c.E s=S:=⟨_,rfl⟩
 try rw[hS]
 unfold EF at hS;obtain⟨T,hT⟩:∃T,zh c.E s=T:=⟨_,rfl⟩
 rw[hT]at hS;have HT:=Hd hT;clear he h hexpr hor;have hc:prog.follows .mixedOrders=true:=by kernel_rfl
 cases h1:isP c.E s wIf with
 | true=>
   simp only[h1,if_true,if_false,Bool.false_eq_true,ite_true,ite_false]at hS;have A0:AtP c s.next s.next _ _ _ _ S _:=⟨hS.symm,Hb.o,nlr,nlr⟩
   have H1:=Hd h1;clear hS hT Hb h1;go_enter func205,ntmps205
   go_wp2_with (first
    | (go_at_call 134;refine dV HE A5 (fun _ _ a b=>⟨rfl,.er a b⟩) ?_;intro w6 A6;)
    | (go_at_call 205;refine gQ Ha A4 (fun _ _ a b=>⟨rfl,.er a b⟩) ?_;intro a5 s5 w5 A5;)
    | (go_at_call 134;refine dV HE A3 (fun _ _ a b=>⟨rfl,.er a b⟩) ?_;intro w4 A4;)
    | (go_at_call 205;refine gQ Ha A2 (fun _ _ a b=>⟨rfl,.er a b⟩) ?_;intro a3 s3 w3 A3;)
    | (go_at_call 203;refine hasT HE H1 A1 ?_;intro w2 A2;)
    | (go_at_call 131;refine iP HE HT A0 ?_;intro w1 A1;))
   refine N.region_C [false,false,false,false,false,true,true,true,true] [?vC10_0,?vC10_1,?vC10_2,?vC10_3,?vC10_4,undef,undef,undef,undef] hc (by kernel_rfl) (by kernel_rfl) (by kernel_rfl) (by kernel_rfl) rfl rfl (fun ch w=>RdI c F d s.next S (.panicked ch) w) (fun ch b w hd h=>⟨hd,h⟩) (fun Wz=>Wz.heap[w1.heap.size]?=some (tkO T)) (A6.p.drew.own (w1.heap.size,tkO T) (by simp)) ?wC10_ ?_
   case wC10_=>
    iterate 5 (refine N.WalkC.still (N.StillP.known rfl ?_) ?_;(intro W hJ;have j00:=za (i:=0) hJ rfl;have j01:=za (i:=1) hJ rfl;have j02:=za (i:=2) hJ rfl;go_simp;rfl);simp only[N.pz])
    refine N.WalkC.chain fun u5=>?_;simp only[N.pz];refine N.WalkC.chain fun u6=>?_;simp only[N.pz];refine N.WalkC.chain fun u7=>?_;simp only[N.pz];refine N.WalkC.chain fun u8=>?_;simp only[N.pz];exact .nil
   iterate 5 (refine N.TailC.still ?_;simp only[N.pz])
   refine N.TailC.call (f:=205) (args:=#[c.ptr]) rfl ?a5 ?_;case a5=>go_simp;try rfl
   refine gQ Ha A6.drew (fun _ _ a b=>.inr ⟨_,rfl,.er a b⟩) ?_;intro a7 s7 w7 A7;refine .inl ⟨_,rfl,(fun _=>A7.p.own (w1.heap.size,tkO T) (by simp)),?_⟩;simp only[N.pz];refine N.TailC.run (v:=.slice (some ⟨w7.heap.size,0,none⟩) 3 3) (w':=w7.alloc (.cells #[intV a3,intV a5,intV a7] 3)) rfl ?a6 (fun _=>(A7.p.alloc _).drop.own (w1.heap.size,tkO T) (by simp)) ?b6;case a6=>go_simp;try rfl
   simp only[N.pz];refine N.TailC.call (f:=199) (args:=#[c.ptr,.int .u8 19,tkA T,strV [],intV 0,.slice (some ⟨w7.heap.size,0,none⟩) 3 3]) rfl ?a7 ?_;case a7=>go_simp;try rfl
   refine(mR HE.o A7.p 19 T [] 0 [a3,a5,a7] rfl).mono ?_;rintro e w8⟨rfl,hp⟩;have A8:=A7.up hp rfl;clear hp;refine .inl ⟨_,rfl,(fun _=>A8.p.own (w1.heap.size,tkO T) (by simp)),?_⟩;simp only[N.pz];refine N.TailC.run (v:=intV s7.nodes.length) (w':=w8) rfl ?a8 (fun h=>absurd rfl h) ?b8;case a8=>go_simp;try rfl
   simp only[N.pz];refine N.TailC.nil ?_;go_wp2;go_ret;exact .ok A8.eq A8.le ((A8.p.drop).less (by omega))
 | false=>
   cases h2:isP c.E s wLet with
   | true=>
     simp only[h1,h2,if_true,if_false,Bool.false_eq_true,ite_true,ite_false]at hS;have A0:AtP c s.next s.next _ _ _ _ S _:=⟨hS.symm,Hb.o,nlr,nlr⟩
     have H1:=Hd h1;have H2:=Hd h2;clear hS hT Hb h1 h2;go_enter func205,ntmps205
     go_wp2_with (first
      | (go_at_call 134;refine dV HE A6 (fun _ _ a b=>⟨rfl,.er a b⟩) ?_;intro w7 A7;)
      | (go_at_call 205;refine gQ Ha A5 (fun _ _ a b=>⟨rfl,.er a b⟩) ?_;intro a6 s6 w6 A6;)
      | (go_at_call 134;refine dV HE A4 (fun _ _ a b=>⟨rfl,.er a b⟩) ?_;intro w5 A5;)
      | (go_at_call 197;obtain⟨U,hU⟩:∃y,zh c.E s.take=y:=⟨_,rfl⟩;have HU:=Hd hU;refine vY HE HU A3 (fun _ _ a b=>⟨rfl,.er a b⟩) ?_;intro w4 A4;rw[hU]at A4;clear hU;)
      | (go_at_call 203;refine hasT HE H2 A2 ?_;intro w3 A3;)
      | (go_at_call 203;refine hasF HE H1 A1 ?_;intro w2 A2;)
      | (go_at_call 131;refine iP HE HT A0 ?_;intro w1 A1;))
     refine N.region_C [false,false,false,false,false,false,true,true,true,true] [?vC11_0,?vC11_1,?vC11_2,?vC11_3,?vC11_4,?vC11_5,undef,undef,undef,undef] hc (by kernel_rfl) (by kernel_rfl) (by kernel_rfl) (by kernel_rfl) rfl rfl (fun ch w=>RdI c F d s.next S (.panicked ch) w) (fun ch b w hd h=>⟨hd,h⟩) (fun Wz=>Wz.heap[w4.heap.size]?=some (tkO U)/\Wz.heap[w1.heap.size]?=some (tkO T)) ⟨A7.p.drew.own (w4.heap.size,tkO U) (by simp),A7.p.drew.own (w1.heap.size,tkO T) (by simp)⟩ ?wC11_ ?_
     case wC11_=>
      iterate 6 (refine N.WalkC.still (N.StillP.known rfl ?_) ?_;(intro W hJ;obtain⟨ha,hb⟩:=hJ;have j00:=za (i:=0) ha rfl;have j01:=za (i:=1) ha rfl;have j02:=za (i:=2) ha rfl;have j10:=za (i:=0) hb rfl;have j11:=za (i:=1) hb rfl;have j12:=za (i:=2) hb rfl;go_simp;rfl);simp only[N.pz])
      refine N.WalkC.chain fun u6=>?_;simp only[N.pz];refine N.WalkC.chain fun u7=>?_;simp only[N.pz];refine N.WalkC.chain fun u8=>?_;simp only[N.pz];refine N.WalkC.chain fun u9=>?_;simp only[N.pz];exact .nil
     iterate 6 (refine N.TailC.still ?_;simp only[N.pz])
     refine N.TailC.call (f:=205) (args:=#[c.ptr]) rfl ?a6 ?_;case a6=>go_simp;try rfl
     refine gQ Ha A7.drew (fun _ _ a b=>.inr ⟨_,rfl,.er a b⟩) ?_;intro a8 s8 w8 A8;refine .inl ⟨_,rfl,(fun _=>⟨A8.p.own (w4.heap.size,tkO U) (by simp),A8.p.own (w1.heap.size,tkO T) (by simp)⟩),?_⟩;simp only[N.pz];refine N.TailC.run (v:=.slice (some ⟨w8.heap.size,0,none⟩) 2 2) (w':=w8.alloc (.cells #[intV a6,intV a8] 3)) rfl ?a7 (fun _=>⟨(A8.p.alloc _).drop.own (w4.heap.size,tkO U) (by simp),(A8.p.alloc _).drop.own (w1.heap.size,tkO T) (by simp)⟩) ?b7;case a7=>go_simp;try rfl
     simp only[N.pz];refine N.TailC.call (f:=199) (args:=#[c.ptr,.int .u8 20,tkA T,strV U.text,intV 0,.slice (some ⟨w8.heap.size,0,none⟩) 2 2]) rfl ?a8 ?_;case a8=>go_simp;try rfl
     refine(mR HE.o A8.p 20 T U.text 0 [a6,a8] rfl).mono ?_;rintro e w9⟨rfl,hp⟩;have A9:=A8.up hp rfl;clear hp;refine .inl ⟨_,rfl,(fun _=>⟨A9.p.own (w4.heap.size,tkO U) (by simp),A9.p.own (w1.heap.size,tkO T) (by simp)⟩),?_⟩;simp only[N.pz];refine N.TailC.run (v:=intV s8.nodes.length) (w':=w9) rfl ?a9 (fun h=>absurd rfl h) ?b9;case a9=>go_simp;try rfl
     simp only[N.pz];refine N.TailC.nil ?_;go_wp2;go_ret;exact .ok A9.eq A9.le ((A9.p.drop.drop).less (by omega))
   | false=>
     simp only[h1,h2,if_true,if_false,Bool.false_eq_true,ite_true,ite_false]at hS;have A0:AtP c s.next s.next _ _ _ _ S _:=⟨hS.symm,Hb.o,nlr,nlr⟩
     have H1:=Hd h1;have H2:=Hd h2;clear hS hT Hb h1 h2;go_enter func205,ntmps205
     go_wp2_with (first
      | (go_at_call 213;refine NJ A3 (Hc.o _ _ _ A3.p) (fun _ _ a b=>⟨rfl,.er a b⟩) ?_;intro a4 s4 w4 A4;)
      | (go_at_call 203;refine hasF HE H2 A2 ?_;intro w3 A3;)
      | (go_at_call 203;refine hasF HE H1 A1 ?_;intro w2 A2;)
      | (go_at_call 131;refine iP HE HT A0 ?_;intro w1 A1;))
     go_ret;exact .ok A4.eq A4.le ((A4.p.drop).less (by omega))
theorem OW{c:PC}(he:OkC c){expr put:RdP}{s:PS}(nm:Tk)(hexpr:∀s',s.next<s'.next->zx c 205 expr s')(hput:∀s',s.next<s'.next->zx c 226 put s'):∀(F:List (Nat×Obj)) (d:Nat) (X:World),PQ c s F (d+1) X->Calls prog 225 #[c.ptr,tkA nm] X (RdI c F d s.next (sG expr put c.E nm s)):=by
 intro F d X h;have HE:=Hd he;have Hc:=Hd hexpr;have He:=Hd hput;have Ha:=Hd h;obtain⟨S,hS⟩:∃S,sG expr put c.E nm s=S:=⟨_,rfl⟩
 try rw[hS]
 unfold sG at hS;obtain⟨T,hT⟩:∃T,zh c.E s=T:=⟨_,rfl⟩
 try rw[hT]at hS
 have HT:=Hd hT;clear he h hexpr hput;have hb:prog.follows .mixedOrders=true:=by kernel_rfl
 cases h1:isP c.E s JY with
 | true=>
   cases h2:isP c.E s.take AO with
   | true=>
     simp only[h1,h2,if_true,if_false,Bool.false_eq_true,ite_true,ite_false]at hS;have A0:AtP c s.next s.next _ _ _ _ S _:=⟨hS.symm,Ha.o,nlr,nlr⟩
     have H1:=Hd h1;have H2:=Hd h2;clear hS hT Ha h1 h2
     replace A0:=A0.box nm
     go_enter func225,ntmps225
     go_wp2_with (first
      | (go_at_call 199;refine(QAdd0 HE.o A4.p 21 nm nm.text 0).mono ?_;rintro e w5 ⟨rfl,hp⟩;have A5:=A4.up hp rfl;clear hp)
      | (go_at_call 134;refine dV HE A3 (fun _ _ a b=>⟨rfl,.er a b⟩) ?_;intro w4 A4;obtain⟨c4_00,c4_01,c4_02⟩:=A4.p.own.tk (b:=X.heap.size) (t:=nm) (by simp);)
      | (go_at_call 172;refine isC HE H2 A1 rfl ?_;intro w2 A2;have A3:=A2.pure)
      | (go_at_call 203;refine hasT HE H1 A0 ?_;intro w1 A1;))
     go_ret;exact .ok A5.eq A5.le ((A5.p.drop).less (by omega))
   | false=>
     simp only[h1,h2,if_true,if_false,Bool.false_eq_true,ite_true,ite_false]at hS;have A0:AtP c s.next s.next _ _ _ _ S _:=⟨hS.symm,Ha.o,nlr,nlr⟩
     have H1:=Hd h1;have H2:=Hd h2;clear hS hT Ha h1 h2
     replace A0:=A0.box nm
     go_enter func225,ntmps225
     go_wp2_with (first
      | (go_at_call 199;refine(pH HE.o A4.p 21 nm nm.text 0 Hb.o).mono ?_;rintro e w5 ⟨rfl,hp⟩;have A5:=A4.up hp rfl;clear hp)
      | (go_at_call 134;refine dV HE A3 (fun _ _ a b=>⟨rfl,.er a b⟩) ?_;intro w4 A4;obtain⟨c4_00,c4_01,c4_02⟩:=A4.p.own.tk (b:=X.heap.size) (t:=nm) (by simp);)
      | (go_at_call 200;refine IX A2 (rS HE.o (fun _ _=>by go_simp) (fun s2 h2=>Hc.o s2 (Nat.lt_of_lt_of_le A2.n h2)) A2.p) (fun _ _ a b=>⟨rfl,.er a b⟩) ?_;intro l3 s3 q3 cp3 K3 w3 ha Hb A3;)
      | (go_at_call 172;refine isC HE H2 A1 rfl ?_;intro w2 A2;)
      | (go_at_call 203;refine hasT HE H1 A0 ?_;intro w1 A1;))
     go_ret;exact .ok A5.eq A5.le ((A5.p.drop).less (by omega))
 | false=>
   cases h3:isP c.E s AN with
   | true=>
     simp only[h1,h3,if_true,if_false,Bool.false_eq_true,ite_true,ite_false]at hS;have A0:AtP c s.next s.next _ _ _ _ S _:=⟨hS.symm,Ha.o,nlr,nlr⟩
     have H1:=Hd h1;have H3:=Hd h3;clear hS hT Ha h1 h3
     replace A0:=A0.box nm
     go_enter func225,ntmps225
     go_wp2_with (first
      | (go_at_call 199;refine(pH HE.o A4.p 24 nm nm.text 0 Hb.o).mono ?_;rintro e w5 ⟨rfl,hp⟩;have A5:=A4.up hp rfl;clear hp)
      | (go_at_call 134;refine dV HE A3 (fun _ _ a b=>⟨rfl,.er a b⟩) ?_;intro w4 A4;obtain⟨c4_00,c4_01,c4_02⟩:=A4.p.own.tk (b:=X.heap.size) (t:=nm) (by simp);)
      | (go_at_call 200;refine IX A2 (rS HE.o (fun _ _=>by go_simp) (fun s2 h2=>He.o s2 (Nat.lt_of_lt_of_le A2.n h2)) A2.p) (fun _ _ a b=>⟨rfl,.er a b⟩) ?_;intro l3 s3 q3 cp3 K3 w3 ha Hb A3;)
      | (go_at_call 203;refine hasT HE H3 A1 ?_;intro w2 A2;)
      | (go_at_call 203;refine hasF HE H1 A0 ?_;intro w1 A1;))
     go_ret;exact .ok A5.eq A5.le ((A5.p.drop).less (by omega))
   | false=>
     simp only[h1,h3,if_true,if_false,Bool.false_eq_true,ite_true,ite_false]at hS;have A0:AtP c s.next s.next _ _ _ _ S _:=⟨hS.symm,Ha.o,nlr,nlr⟩
     have H1:=Hd h1;have H3:=Hd h3;clear hS hT Ha h1 h3
     replace A0:=A0.box nm
     go_enter func225,ntmps225
     go_wp2_with (first
      | (go_at_call 199;refine(QAdd0 HE.o A2.p 3 nm nm.text 0).mono ?_;rintro e w3 ⟨rfl,hp⟩;have A3:=A2.up hp rfl;clear hp)
      | (go_at_call 203;refine hasF HE H3 A1 ?_;intro w2 A2;obtain⟨c2_00,c2_01,c2_02⟩:=A2.p.own.tk (b:=X.heap.size) (t:=nm) (by simp);)
      | (go_at_call 203;refine hasF HE H1 A0 ?_;intro w1 A1;))
     go_ret;exact .ok A3.eq A3.le ((A3.p.drop).less (by omega))
theorem LQ{c:PC}(he:OkC c){param:RdP}{s:PS}(nm:Tk)(hparam:∀s',s.next<s'.next->zx c 201 param s'):∀(F:List (Nat×Obj)) (d:Nat) (X:World),PQ c s F d X->Calls prog 166 #[c.ptr,tkA nm] X (RdI c F d s.next (lF param c.E nm s)):=by
 intro F d X h;have HE:=Hd he;have Ha:=Hd hparam;have Hc:=Hd h;obtain⟨S,hS⟩:∃S,lF param c.E nm s=S:=⟨_,rfl⟩
 try rw[hS]
 unfold lF at hS;obtain⟨T,hT⟩:∃T,zh c.E s=T:=⟨_,rfl⟩
 rw[hT]at hS;have HT:=Hd hT;clear he h hparam;have hb:prog.follows .mixedOrders=true:=by kernel_rfl
 have A0:AtP c s.next s.next _ _ _ _ S _:=⟨hS.symm,Hc.o,nlr,nlr⟩
 clear hS hT Hc
 replace A0:=A0.box nm
 go_enter func166,ntmps166
 go_wp2_with (first
  | (go_at_call 199;refine(pH HE.o A5.p 41 nm T.text 0 Hb.o).mono ?_;rintro e w6 ⟨rfl,hp⟩;have A6:=A5.up hp rfl;clear hp)
  | (go_at_call 134;refine dV HE A4 (fun _ _ a b=>⟨rfl,.er a b⟩) ?_;intro w5 A5;obtain⟨c5_00,c5_01,c5_02⟩:=A5.p.own.tk (b:=w1.heap.size) (t:=T) (by simp);obtain⟨c5_10,c5_11,c5_12⟩:=A5.p.own.tk (b:=X.heap.size) (t:=nm) (by simp);)
  | (go_at_call 200;refine IX A3 (rS HE.o (fun _ _=>by go_simp) (fun s2 h2=>Ha.o s2 (Nat.lt_of_lt_of_le A3.n h2)) A3.p) (fun _ _ a b=>⟨rfl,.er a b⟩) ?_;intro l4 s4 q4 cp4 K4 w4 ha Hb A4;)
  | (go_at_call 134;refine dV HE A2 (fun _ _ a b=>⟨rfl,.er a b⟩) ?_;intro w3 A3;)
  | (go_at_call 134;refine dV HE A1 (fun _ _ a b=>⟨rfl,.er a b⟩) ?_;intro w2 A2;)
  | (go_at_call 197;refine vY HE HT A0 (fun _ _ a b=>⟨rfl,.er a b⟩) ?_;intro w1 A1;))
 go_ret;exact .ok A6.eq A6.le ((A6.p.drop.drop).less (by omega))
theorem QO{c:PC}(he:OkC c){expr put:RdP}{s:PS}(hexpr:∀s',s.next<s'.next->zx c 205 expr s')(hput:∀s',s.next<s'.next->zx c 226 put s'):zx c 224 (DV expr put c.E) s:=by
 intro F d X h;have HE:=Hd he;have Hb:=Hd hexpr;have He:=Hd hput;have Ha:=Hd h;obtain⟨S,hS⟩:∃S,DV expr put c.E s=S:=⟨_,rfl⟩
 try rw[hS]
 unfold DV at hS;obtain⟨T,hT⟩:∃T,zh c.E s=T:=⟨_,rfl⟩
 rw[hT]at hS;have HT:=Hd hT;clear he h hexpr hput;have hf:prog.follows .mixedOrders=true:=by kernel_rfl
 cases h0:(T.kind==2)with
 | true=>
   simp only[h0,if_true,if_false,Bool.false_eq_true,ite_true,ite_false]at hS;have A0:AtP c s.next s.next _ _ _ _ S _:=⟨hS.symm,Ha.o,nlr,nlr⟩
   have H0:=Hd h0;clear hS hT Ha;go_enter func224,ntmps224
   go_wp2_with (first
    | (go_at_call 199;refine(QAdd0 HE.o A2.p 1 T [] v).mono ?_;rintro e w3 ⟨rfl,hp⟩;have A3:=A2.up hp rfl;clear hp)
    | (go_at_call 204;refine(kB HE.o A1.p).mono ?_;rintro e w2 (⟨ps,hr,rfl,hb⟩|⟨hr,-,he,ha,hc,hp⟩);(exact absurd (hr.symm.trans (MO HT.o H0.o)) (by simp));have q:=A1.eq;rw[HT.o]at he ha hc;subst he;obtain⟨v,hv⟩:∃v,valP T.text=v:=⟨_,rfl⟩;rw[hv]at q ha hc;rw[hv];clear hv;(try simp only[Int.neg_mul,Int.one_mul]at q);have A2:AtP c s.next (s.next+1) _ _ _ _ S _:=⟨q,hp.alloc (tkO T),Nat.succ_le_succ A1.le,Nat.le_succ _⟩;clear hp hr q;obtain⟨c2_00,c2_01,c2_02⟩:=A2.p.own.tk (b:=w2.heap.size) (t:=T) (by simp);obtain⟨c2_10,c2_11,c2_12⟩:=A2.p.own.tk (b:=w1.heap.size) (t:=T) (by simp);)
    | (go_at_call 131;refine iP HE HT A0 ?_;intro w1 A1;obtain⟨c1_00,c1_01,c1_02⟩:=A1.p.own.tk (b:=w1.heap.size) (t:=T) (by simp);))
   go_ret;exact .ok A3.eq A3.le ((A3.p.drop.drop).less (by omega))
 | false=>
   cases h1:isP c.E s RU with
   | true=>
     simp only[h0,h1,if_true,if_false,Bool.false_eq_true,ite_true,ite_false]at hS;have A0:AtP c s.next s.next _ _ _ _ S _:=⟨hS.symm,Ha.o,nlr,nlr⟩
     have H0:=Hd h0;have H1:=Hd h1;clear hS hT Ha h1;go_enter func224,ntmps224
     go_wp2_with (first
      | (go_at_call 199;refine(QAdd0 HE.o A2.p 2 T [] 1).mono ?_;rintro e w3 ⟨rfl,hp⟩;have A3:=A2.up hp rfl;clear hp)
      | (go_at_call 203;refine hasT HE H1 A1 ?_;intro w2 A2;obtain⟨c2_00,c2_01,c2_02⟩:=A2.p.own.tk (b:=w1.heap.size) (t:=T) (by simp);)
      | (go_at_call 131;refine iP HE HT A0 ?_;intro w1 A1;obtain⟨c1_00,c1_01,c1_02⟩:=A1.p.own.tk (b:=w1.heap.size) (t:=T) (by simp);))
     go_ret;exact .ok A3.eq A3.le ((A3.p.drop).less (by omega))
   | false=>
     cases h2:isP c.E s OS with
     | true=>
       simp only[h0,h1,h2,if_true,if_false,Bool.false_eq_true,ite_true,ite_false]at hS;have A0:AtP c s.next s.next _ _ _ _ S _:=⟨hS.symm,Ha.o,nlr,nlr⟩
       have H0:=Hd h0;have H1:=Hd h1;have H2:=Hd h2;clear hS hT Ha h1 h2;go_enter func224,ntmps224
       go_wp2_with (first
        | (go_at_call 199;refine(QAdd0 HE.o A3.p 2 T [] 0).mono ?_;rintro e w4 ⟨rfl,hp⟩;have A4:=A3.up hp rfl;clear hp)
        | (go_at_call 203;refine hasT HE H2 A2 ?_;intro w3 A3;obtain⟨c3_00,c3_01,c3_02⟩:=A3.p.own.tk (b:=w1.heap.size) (t:=T) (by simp);)
        | (go_at_call 203;refine hasF HE H1 A1 ?_;intro w2 A2;)
        | (go_at_call 131;refine iP HE HT A0 ?_;intro w1 A1;obtain⟨c1_00,c1_01,c1_02⟩:=A1.p.own.tk (b:=w1.heap.size) (t:=T) (by simp);))
       go_ret;exact .ok A4.eq A4.le ((A4.p.drop).less (by omega))
     | false=>
       cases h3:isP c.E s JY with
       | true=>
         simp only[h0,h1,h2,h3,if_true,if_false,Bool.false_eq_true,ite_true,ite_false]at hS;have A0:AtP c s.next s.next _ _ _ _ S _:=⟨hS.symm,Ha.o,nlr,nlr⟩
         have H0:=Hd h0;have H1:=Hd h1;have H2:=Hd h2;have H3:=Hd h3;clear hS hT Ha h1 h2 h3;go_enter func224,ntmps224
         go_wp2_with (first
          | (go_at_call 134;refine dV HE A5 (fun _ _ a b=>⟨rfl,.er a b⟩) ?_;intro w6 A6;)
          | (go_at_call 205;refine gQ Hb A4 (fun _ _ a b=>⟨rfl,.er a b⟩) ?_;intro a5 s5 w5 A5;)
          | (go_at_call 203;refine hasT HE H3 A3 ?_;intro w4 A4;)
          | (go_at_call 203;refine hasF HE H2 A2 ?_;intro w3 A3;)
          | (go_at_call 203;refine hasF HE H1 A1 ?_;intro w2 A2;)
          | (go_at_call 131;refine iP HE HT A0 ?_;intro w1 A1;obtain⟨c1_00,c1_01,c1_02⟩:=A1.p.own.tk (b:=w1.heap.size) (t:=T) (by simp);))
         go_ret;exact .ok A6.eq A6.le ((A6.p.drop).less (by omega))
       | false=>
         cases h4:isP c.E s jT with
         | true=>
           simp only[h0,h1,h2,h3,h4,if_true,if_false,Bool.false_eq_true,ite_true,ite_false]at hS;have A0:AtP c s.next s.next _ _ _ _ S _:=⟨hS.symm,Ha.o,nlr,nlr⟩
           have H0:=Hd h0;have H1:=Hd h1;have H2:=Hd h2;have H3:=Hd h3;have H4:=Hd h4;clear hS hT Ha h1 h2 h3 h4;go_enter func224,ntmps224
           go_wp2_with (first
            | (go_at_call 199;refine(pH HE.o A7.p 26 T [] 0 Hc.o).mono ?_;rintro e w8 ⟨rfl,hp⟩;have A8:=A7.up hp rfl;clear hp)
            | (go_at_call 134;refine dV HE A6 (fun _ _ a b=>⟨rfl,.er a b⟩) ?_;intro w7 A7;obtain⟨c7_00,c7_01,c7_02⟩:=A7.p.own.tk (b:=w1.heap.size) (t:=T) (by simp);)
            | (go_at_call 200;refine IX A5 (rS HE.o (fun _ _=>by go_simp) (fun s2 h2=>Hb.o s2 (Nat.lt_of_lt_of_le A5.n h2)) A5.p) (fun _ _ a b=>⟨rfl,.er a b⟩) ?_;intro l6 s6 q6 cp6 K6 w6 hd Hc A6;)
            | (go_at_call 203;refine hasT HE H4 A4 ?_;intro w5 A5;)
            | (go_at_call 203;refine hasF HE H3 A3 ?_;intro w4 A4;)
            | (go_at_call 203;refine hasF HE H2 A2 ?_;intro w3 A3;)
            | (go_at_call 203;refine hasF HE H1 A1 ?_;intro w2 A2;)
            | (go_at_call 131;refine iP HE HT A0 ?_;intro w1 A1;obtain⟨c1_00,c1_01,c1_02⟩:=A1.p.own.tk (b:=w1.heap.size) (t:=T) (by simp);))
           go_ret;exact .ok A8.eq A8.le ((A8.p.drop).less (by omega))
         | false=>
           simp only[h0,h1,h2,h3,h4,if_true,if_false,Bool.false_eq_true,ite_true,ite_false]at hS;have A0:AtP c s.next s.next _ _ _ _ S _:=⟨hS.symm,Ha.o,nlr,nlr⟩
           have H0:=Hd h0;have H1:=Hd h1;have H2:=Hd h2;have H3:=Hd h3;have H4:=Hd h4;clear hS hT Ha h1 h2 h3 h4;go_enter func224,ntmps224
           go_wp2_with (first
            | (go_at_call 225;refine NJ A6 (OW HE.o T (fun s2 h2=>Hb.o s2 (Nat.lt_trans A6.n h2)) (fun s2 h2=>He.o s2 (Nat.lt_trans A6.n h2)) _ _ _ A6.p) (fun _ _ a b=>⟨rfl,.er a b⟩) ?_;intro a7 s7 w7 A7;)
            | (go_at_call 197;refine ND HE HT A5 (fun _ _ a b=>⟨rfl,.er a b⟩) ?_;intro w6 A6;)
            | (go_at_call 203;refine hasF HE H4 A4 ?_;intro w5 A5;)
            | (go_at_call 203;refine hasF HE H3 A3 ?_;intro w4 A4;)
            | (go_at_call 203;refine hasF HE H2 A2 ?_;intro w3 A3;)
            | (go_at_call 203;refine hasF HE H1 A1 ?_;intro w2 A2;)
            | (go_at_call 131;refine iP HE HT A0 ?_;intro w1 A1;obtain⟨c1_00,c1_01,c1_02⟩:=A1.p.own.tk (b:=w1.heap.size) (t:=T) (by simp);))
           go_ret;exact .ok A7.eq A7.le ((A7.p.drop).less (by omega))
theorem PQg.alloc{c:PC}{s:PS}{F:List (Nat×Obj)}{G:Nat->Prop}{X:World}(h:PQg c s F G X)(o:Obj):PQg c s ((X.heap.size,o)::F) G (X.alloc o):=by
 have ha:=h.par.lt;have hb:=(Below.refl X.heap.size X).alloc nlr o;refine⟨h.par.grow hb,?_,?_,?_⟩
 .intro p hp
  rcases List.mem_cons.1 hp with rfl|hp
  .exact World.alloc_heap_new X o
  .exact(hb.block p.1 (Array.getElem?_eq_some_iff.1 (h.own p hp)).1).trans (h.own p hp)
 .intro p hp
  rcases List.mem_cons.1 hp with rfl|hp
  .exact⟨ha,fun e=>by have:=(h.par.mem _ e).2;simp only at this;omega⟩
  .exact h.out p hp
 .refine List.nodup_cons.2 ⟨fun e=>?_,h.nd⟩
  obtain⟨p,hp,e⟩:=List.mem_map.1 e;have:=(Array.getElem?_eq_some_iff.1 (h.own p hp)).1;simp only at e;omega
theorem PQg.below{c:PC}{s:PS}{F:List (Nat×Obj)}{G:Nat->Prop}{X Y:World}(h:PQg c s F G X)(hb:Below X.heap.size X Y):PQg c s F G Y:=
 ⟨h.par.grow hb,fun p hp=>(hb.block p.1 (Array.getElem?_eq_some_iff.1 (h.own p hp)).1).trans (h.own p hp),h.out,h.nd⟩
theorem PQg.turned{c:PC}{s:PS}{b:Nat}{o:Obj}{F:List (Nat×Obj)}{G:Nat->Prop}{X Y:World}(h:PQg c s ((b,o)::F) G X)(ht:Turns (fun i=>i=b) X Y):PQg c s F G Y:=by
 obtain⟨h1,h2⟩:=h.out (b,o) (List.mem_cons_self ..);have hn:=List.nodup_cons.1 h.nd;refine⟨h.par.turns ht (fun i hi e=>h2 (by subst e;exact hi)) (fun i e=>by subst e;simp only at h1;omega),fun p hp=>?_,fun p hp=>h.out p (List.mem_cons_of_mem _ hp),hn.2⟩;have h3:=h.own p (List.mem_cons_of_mem _ hp);exact(ht.block p.1 (Array.getElem?_eq_some_iff.1 h3).1 (fun e=>hn.1 (by show b∈_;rw[<-e];exact List.mem_map_of_mem hp))).trans h3
theorem OH{c:PC}(he:OkC c){s:PS}{F:List (Nat×Obj)}{G:Nat->Prop}{X:World}(h:PQg c s F G X){T:Tk}(hT:zh c.E s=T) :
 Calls prog 131 #[c.ptr] X fun e Y=>e=.returned (tkA T)/\PQg c s F G Y/\StepG G X G Y:=by
 refine(QLook2 he h.par hT).mono ?_;rintro e w⟨rfl,hb⟩;exact⟨rfl,h.below hb,StepG.of_below hb (fun i hi=>(h.par.mem i hi).2)⟩
theorem QT{c:PC}(he:OkC c){s:PS}{F:List (Nat×Obj)}{G:Nat->Prop}{X:World}(h:PQg c s F G X){T:Tk}(hT:zh c.E s=T)(hlt:s.next<c.E.toks.length) :
 Calls prog 133 #[c.ptr] X fun e Y=>e=.returned (tkA T)/\PQg c s.take F G Y/\StepG G X G Y:=by
 refine(uW he h.par hT hlt).mono ?_;rintro e w⟨rfl,hp,hs⟩;exact⟨rfl,h.step hp hs,hs⟩
def RdG(c:PC)(F:List (Nat×Obj))(G:Nat->Prop)(X:World)(s:PS)(S:PR PS)(e:Ending)(Y:World):Prop:=
 (∃pos,S=.error pos/\Thrown c.w0 pos e Y)\/(S=.ok s.take/\s.next<c.E.toks.length/\e=.returned (tkA (zh c.E s))/\PQg c s.take F G Y/\StepG G X G Y)
theorem wT{c:PC}{s:PS}{F:List (Nat×Obj)}{G:Nat->Prop}{X w2 Y:World}{o:Obj}(h:PQg c s F G X)(hs:StepG G (X.alloc o) G w2)(ht:Turns (fun i=>i=X.heap.size) w2 Y):StepG G X G Y:=by
 have hm:∀i,G i->i<X.heap.size:=fun i hi=>(h.par.mem i hi).2;have h1:Turns G X w2:=(Turns.alloc G X o).trans hs.turns;refine⟨⟨ht.os.trans h1.os,ht.tape.trans h1.tape,ht.output.trans h1.output,Nat.le_trans h1.size ht.size,fun k hk hn=>?_⟩,fun _ h=>h,fun _ h=>.inl h,fun i hi=>Nat.lt_of_lt_of_le (hm i hi) (Nat.le_trans h1.size ht.size)⟩;exact(ht.block k (Nat.lt_of_lt_of_le hk h1.size) (by omega)).trans (h1.block k hk hn)
theorem QQ{c:PC}(he:OkC c){s:PS}{F:List (Nat×Obj)}{G:Nat->Prop}{X:World}(h:PQg c s F G X)(kd:Int)(hk0:kd≠0) :
 Calls prog 211 #[c.ptr,.int .u8 kd] X (RdG c F G X s (bU c.E s kd)):=by
 have HE:=Hd he;have HP:=Hd h;clear he h;obtain⟨T,hT⟩:∃T,zh c.E s=T:=⟨_,rfl⟩
 have Ha:=Hd hT;obtain⟨k,tx,pos⟩:=T;cases ht:(k==kd)with
 | true=>
   have hd:s.next<c.E.toks.length:=qH hk0 (by rw[hT];exact eq_of_beq ht);have HS:Hid (bU c.E s kd=.ok s.take):=Hd (by unfold bU;rw[hT];simp only[ht];rfl);have hi:(k != kd)=false:=by simp[bne,ht]
   clear ht hT hk0;go_enter func211,ntmps211
   go_wp2_with (first
    | (go_at_call 131;refine(OH HE.o (HP.o.alloc tkZ) Ha.o).mono ?_;rintro e w1 ⟨rfl,ha,hc⟩;have Hb:=Hd ha;have He:=Hd hc;clear ha hc)
    | (go_at_call 133;refine(QT HE.o Hb.o Ha.o hd).mono ?_;rintro e w2 ⟨rfl,hb,hf⟩;obtain⟨⟨z0,z1,z2⟩,zf,hj⟩:=hb.own.tkz (List.mem_cons_self ..);have zf0:=zf 0;have zf1:=zf 1;have zf2:=zf 2;clear zf;have Hc:=Hd hb;have Hf:=Hd (He.o.trans hf);clear hb hf))
   obtain⟨Y,hY,⟨y0,y1,y2⟩,hg⟩:=sP (.int .u8 k) (.string ⟨tx.toArray⟩) (intV pos) z0 z1 z2;rw[hY];clear hY;refine bodyPost_ret (by simp[results,results211,go_sem,loadVar,y0,y1,y2,Result.andThen];rfl) rfl ?_;exact .inr ⟨HS.o,hd,by rw[Ha.o],Hc.o.turned hg,wT HP.o Hf.o hg⟩
 | false=>
   have HS:Hid (bU c.E s kd=.error pos):=Hd (by unfold bU;rw[hT];simp only[ht];rfl);have hi:(k != kd)=true:=by simp[bne,ht]
   clear ht hT hk0;go_enter func211,ntmps211
   go_wp2_with (first
    | (go_at_call 131;refine(OH HE.o (HP.o.alloc tkZ) Ha.o).mono ?_;rintro e w1 ⟨rfl,ha,hc⟩;have Hb:=Hd ha;clear ha)
    | (go_at_call 132;refine(uU HE.o Hb.o.par Ha.o).mono ?_;rintro e w2 ⟨rfl,hh⟩))
   exact⟨rfl,.inl ⟨pos,HS.o,rfl,hh⟩⟩
theorem QR{c:PC}(he:OkC c){s:PS}{F:List (Nat×Obj)}{G:Nat->Prop}{X:World}(h:PQg c s F G X) :
 Calls prog 197 #[c.ptr] X (RdG c F G X s (bU c.E s 1)):=by
 have HE:=Hd he;have HP:=Hd h;clear he h;obtain⟨T,hT⟩:∃T,zh c.E s=T:=⟨_,rfl⟩
 have Ha:=Hd hT;obtain⟨k,tx,pos⟩:=T;clear hT;go_enter func197,ntmps197
 go_wp2_with (go_at_call 211;refine(QQ HE.o (HP.o.alloc tkZ) 1 (by decide)).mono ?_;rintro e w2 (⟨ps,hr,rfl,hb⟩|⟨hr,hf,he,ha,hc⟩);(exact⟨rfl,.inl ⟨ps,hr,rfl,hb⟩⟩);rw[Ha.o]at he;subst he;obtain⟨⟨z0,z1,z2⟩,zf,hg⟩:=ha.own.tkz (List.mem_cons_self ..);have zf0:=zf 0;have zf1:=zf 1;have zf2:=zf 2;clear zf;have Hb:=Hd ha;have Hc:=Hd hc;have HR:=Hd hr;clear ha hr hc)
 obtain⟨Y,hY,⟨y0,y1,y2⟩,hd⟩:=sP (.int .u8 k) (.string ⟨tx.toArray⟩) (intV pos) z0 z1 z2;rw[hY];clear hY;refine bodyPost_ret (by simp[results,results197,go_sem,loadVar,y0,y1,y2,Result.andThen];rfl) rfl ?_;exact .inr ⟨HR.o,hf,by rw[Ha.o],Hb.o.turned hd,wT HP.o Hc.o hd⟩
end
end Go.Proofs.YtcdkdiedphhdhaaGreatDoor
