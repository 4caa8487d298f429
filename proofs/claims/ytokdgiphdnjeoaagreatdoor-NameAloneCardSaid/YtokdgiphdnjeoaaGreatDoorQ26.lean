/- Part of a proof. -/
import Derived.Test.YtokdgiphdnjeoaaGreatDoorQ02
import Derived.Test.YtokdgiphdnjeoaaGreatDoorQ16
import Derived.Test.YtokdgiphdnjeoaaGreatDoorQ23
import Derived.Lib.AtoiErrMem
set_option maxRecDepth 100000
set_option maxHeartbeats 8000000
set_option linter.unusedVariables false
set_option linter.unusedSimpArgs false
open Go.Proofs.Tryz
namespace Go.Proofs.YtokdgiphdnjeoaaGreatDoor
section
open Go Go.RowKit
theorem oU{c:UInt8}(h:zK c=true):Lib.digitVal c=some (c.toNat-48)∧48≤c.toNat∧c.toNat≤57:=by
 have h2:48≤c.toNat∧c.toNat≤57:=by simp only[zK,lL,Bool.and_eq_true,decide_eq_true_eq]at h;omega
 exact⟨by unfold Lib.digitVal;rw[if_pos h2],h2⟩
theorem kG:∀(l:List UInt8) (acc:Nat),(∀c∈l,zK c=true)→∃n:Nat,Lib.decFrom acc l=some n∧(n:Int)=l.foldl (fun a c=>a*10+((c.toNat:Int)-48)) (acc:Int)
 | [],acc,_=>⟨acc,rfl,rfl⟩
 | c::l,acc,h=>by
   obtain⟨h1,h2,h3⟩:=oU (h c (by simp));obtain⟨n,hn,e⟩:=kG l (acc*10+(c.toNat-48)) (fun x hx=>h x (List.mem_cons_of_mem _ hx));refine⟨n,by simp only[Lib.decFrom,h1];exact hn,?_⟩;rw[e,List.foldl_cons];congr 1;omega
theorem vP:∀(l:List UInt8) (acc:Int),0≤acc→(∀c∈l,zK c=true)→0≤l.foldl (fun a c=>a*10+((c.toNat:Int)-48)) acc∧l.foldl (fun a c=>a*10+((c.toNat:Int)-48)) acc<(acc+1)*10 ^ l.length
 | [],acc,h0,_=>by simp;omega
 | c::l,acc,h0,h=>by
   obtain⟨h1,h2,h3⟩:=oU (h c (by simp));obtain⟨a,b⟩:=vP l (acc*10+((c.toNat:Int)-48)) (by omega) (fun x hx=>h x (List.mem_cons_of_mem _ hx));refine⟨by rw[List.foldl_cons];exact a,?_⟩;rw[List.foldl_cons];refine Int.lt_of_lt_of_le b ?_;rw[List.length_cons,Int.pow_succ,Int.mul_comm (10 ^ l.length) 10,←Int.mul_assoc];exact Int.mul_le_mul_of_nonneg_right (by omega) (Int.le_of_lt (Int.pow_pos (by decide)))
theorem ES{s:List UInt8}(h:tokF s=(2,s)):s≠[]∧(∀c∈s,zK c=true)∧s.length≤4:=by
 unfold tokF at h
 cases s with
 |nil=>cases h
 | cons c l=>
   simp only at h;split at h
   ·split at h
    ·simp at h
    ·split at h<;>simp at h
   ·split at h
    ·split at h
     ·rename_i hn
      have e:(c::l).takeWhile zK=c::l:=(Prod.mk.inj h).2;rw[e]at hn;refine⟨by simp,fun x hx=>?_,?_⟩
      ·rw[←e]at hx
       exact List.all_eq_true.1 (List.all_takeWhile (p:=zK) (l:=c::l)) x hx
      ·unfold numB at hn
       simp only[Bool.and_eq_true,decide_eq_true_eq]at hn;exact hn.1
     ·simp at h
    ·split at h<;>simp at h
theorem mL{s:List UInt8}(h:tokF s=(2,s)):Lib.atoi s=some (valP s)∧0≤valP s∧valP s≤9999:=by
 obtain⟨h0,hd,h4⟩:=ES h;obtain⟨n,hn,e⟩:=kG s 0 hd;obtain⟨a,b⟩:=vP s 0 (by omega) hd;have hv:valP s=(n:Int):=by rw[e];rfl
 refine⟨?_,by rw[hv,e];exact a,?_⟩
 ·cases s with
  |nil=>exact absurd rfl h0
  | cons c l=>
    obtain⟨-,h2,h3⟩:=oU (hd c (by simp))
    have e1:(c==45)=false:=by
     rw[beq_eq_false_iff_ne];rintro rfl;simp at h2
    have e2:(c==43)=false:=by
     rw[beq_eq_false_iff_ne];rintro rfl;simp at h2
    rw[hv];simp[Lib.atoi,e1,e2,Lib.decNat,hn]
 ·have hp:(10:Int) ^ s.length≤10 ^ 4:=by
   have:=Nat.pow_le_pow_right (n:=10) (by decide) h4
   exact_mod_cast this
  have b':valP s<1*10 ^ s.length:=by simpa[valP]using b
  omega
theorem DM(s:List UInt8)(w:World)(hg:GV w)(h:tokF s=(2,s)) :
 Calls prog 328 #[strV s] w fun e w'=>e=.returned (.tuple #[intV (valP s),intV 0])∧Below w.heap.size w w':=by
 obtain⟨h0,hd,h4⟩:=ES h;obtain⟨hv,hv0,hv1⟩:=mL h;have HK:=Hd (tU s w (by omega) hg);have HA:Hid (∀W,Calls prog 113 #[.string ⟨s.toArray⟩] W fun e w'=>e=.returned (.tuple #[.int .i64 (valP s),.nilIface])∧∃t,w'=Lib.bytesWorld W 5 t):=Hd (fun W=>Tryz.strconv_Atoi ⟨s.toArray⟩ (valP s) (by simp[ByteArray.size];omega) hv W);have HE:Hid ((if (tokF s).1 != 0&&(tokF s).2==s then (tokF s).1 else 0)=2∧(if (tokF s).1 != 0&&(tokF s).2==s then (0:Int)else 4)=0):=Hd (by rw[h];simp);clear h hv h0 hd hg;go_enter func328,ntmps328
 go_wp2_with (first
  | (go_at_call 134;refine HK.out.mono ?_;rw[HE.out.1,HE.out.2];rintro e w1 ⟨rfl,hb1⟩;have HB1:=Hd hb1;clear hb1)
  | (go_at_call 113;refine(HA.out _).mono ?_;rintro e w2 ⟨rfl,t,rfl⟩))
 go_ret2
 exact⟨rfl,HB1.out.trans (Below.mono (Lib.bytesWorld_below _ _ _) (HB1.out.size))⟩
theorem LE{c:PC}(he:OkC c){s:PS}{F:List (Nat×Obj)}{d:Nat}{X:World}(h:PQ c s F d X)(kd:Int)(hk0:kd≠0) :
 Calls prog 327 #[c.ptr,.int .u8 kd] X (RdT c F d s (bZ c.E s kd)):=by
 have HE:=Hd he;have HP:=Hd h;clear he h;obtain⟨T,hT⟩:∃T,zi c.E s=T:=⟨_,rfl⟩
 have HLT:=Hd hT;obtain⟨k,tx,pos⟩:=T;cases ht:(k==kd)with
 | true=>
   have hlt:s.next<c.E.toks.length:=pJ hk0 (by rw[hT];exact eq_of_beq ht);have HS:Hid (bZ c.E s kd=.ok s.take):=Hd (by unfold bZ;rw[hT];simp only[ht];rfl);have hne:(k != kd)=false:=by simp[bne,ht]
   clear ht hT hk0;go_enter func327,ntmps327
   go_wp2_with (first
    | (go_at_call 241;refine(zM HE.out (HP.out.alloc tkZ) HLT.out).mono ?_;rintro e w1 ⟨rfl,hp1⟩;have HP1:=Hd hp1;clear hp1)
    | (go_at_call 243;refine(iP HE.out HP1.out HLT.out hlt).mono ?_;rintro e w2 ⟨rfl,hp2⟩;obtain⟨⟨z0,z1,z2⟩,zf,hzl⟩:=hp2.own.tkz (List.mem_cons_self ..);have zf0:=zf 0;have zf1:=zf 1;have zf2:=zf 2;clear zf;have HP2:=Hd hp2;clear hp2))
   obtain⟨Y,hY,⟨y0,y1,y2⟩,htY⟩:=rQ (.int .u8 k) (.string ⟨tx.toArray⟩) (intV pos) z0 z1 z2;rw[hY];clear hY;refine bodyPost_ret (by simp[results,results327,go_sem,loadVar,y0,y1,y2,Result.andThen];rfl) rfl ?_;exact .inr ⟨HS.out,hlt,by rw[HLT.out],HP2.out.turned htY⟩
 | false=>
   have HS:Hid (bZ c.E s kd=.error pos):=Hd (by unfold bZ;rw[hT];simp only[ht];rfl);have hne:(k != kd)=true:=by simp[bne,ht]
   clear ht hT hk0;go_enter func327,ntmps327
   go_wp2_with (first
    | (go_at_call 241;refine(zM HE.out (HP.out.alloc tkZ) HLT.out).mono ?_;rintro e w1 ⟨rfl,hp1⟩;have HP1:=Hd hp1;clear hp1)
    | (go_at_call 242;refine(oE HE.out HP1.out HLT.out).mono ?_;rintro e w2 ⟨rfl,hb2⟩))
   exact⟨rfl,.inl ⟨pos,HS.out,rfl,hb2⟩⟩
theorem iV{c:PC}(he:OkC c){s:PS}{F:List (Nat×Obj)}{d:Nat}{X:World}(h:PQ c s F d X) :
 Calls prog 314 #[c.ptr] X (RdT c F d s (bZ c.E s 1)):=by
 have HE:=Hd he;have HP:=Hd h;clear he h;obtain⟨T,hT⟩:∃T,zi c.E s=T:=⟨_,rfl⟩
 have HLT:=Hd hT;obtain⟨k,tx,pos⟩:=T;clear hT;go_enter func314,ntmps314
 go_wp2_with (go_at_call 327;refine(LE HE.out (HP.out.alloc tkZ) 1 (by decide)).mono ?_;go_loud (rintro e w2 (⟨ps,hr,rfl,hb⟩|⟨hr,hlt,he,hp2⟩));rotate_left;rw[HLT.out]at he;subst he;rotate_left;(exact⟨rfl,.inl ⟨ps,hr,rfl,hb⟩⟩);obtain⟨⟨z0,z1,z2⟩,zf,hzl⟩:=hp2.own.tkz (List.mem_cons_self ..);have zf0:=zf 0;have zf1:=zf 1;have zf2:=zf 2;clear zf;have HP2:=Hd hp2;have HR:=Hd hr;clear hp2 hr)
 obtain⟨Y,hY,⟨y0,y1,y2⟩,htY⟩:=rQ (.int .u8 k) (.string ⟨tx.toArray⟩) (intV pos) z0 z1 z2;rw[hY];clear hY;refine bodyPost_ret (by simp[results,results314,go_sem,loadVar,y0,y1,y2,Result.andThen];rfl) rfl ?_;exact .inr ⟨HR.out,hlt,by rw[HLT.out],HP2.out.turned htY⟩
theorem eY{c:PC}(he:OkC c){s:PS}{F:List (Nat×Obj)}{d:Nat}{X:World}(h:PQ c s F d X)(x:List UInt8)(hx:isP c.E s x=true) :
 Calls prog 320 #[c.ptr,strV x] X fun e Y=>e=.returned (.bool true)∧PQ c s.take F (d+1) Y:=by
 have HE:=Hd he;have HP:=Hd h;have HX:=Hd hx;have hlt:s.next<c.E.toks.length:=eT hx;clear he h hx;go_enter func320,ntmps320
 go_wp2_with (first
  | (go_at_call 294;refine(QIsP HE.out HP.out x rfl HX.out).mono ?_;rintro e w1 ⟨rfl,hp1⟩;have HP1:=Hd hp1;clear hp1)
  | (go_at_call 243;refine(iP HE.out HP1.out rfl hlt).mono ?_;rintro e w2 ⟨rfl,hp2⟩;have HP2:=Hd hp2;clear hp2))
 go_ret;exact⟨rfl,HP2.out⟩
theorem dE{c:PC}(he:OkC c){s:PS}{F:List (Nat×Obj)}{d:Nat}{X:World}(h:PQ c s F d X)(x:List UInt8)(hx:isP c.E s x=false) :
 Calls prog 320 #[c.ptr,strV x] X fun e Y=>e=.returned (.bool false)∧PQ c s F d Y:=by
 have HE:=Hd he;have HP:=Hd h;have HX:=Hd hx;clear he h hx;go_enter func320,ntmps320
 go_wp2_with (go_at_call 294;refine(QIsP HE.out HP.out x rfl HX.out).mono ?_;rintro e w1 ⟨rfl,hp1⟩;have HP1:=Hd hp1;clear hp1)
 go_ret;exact⟨rfl,HP1.out⟩
def RdN(c:PC)(F:List (Nat×Obj))(d:Nat)(s:PS)(e:Ending)(Y:World):Prop:=
 (∃pos,bZ c.E s 2=.error pos∧Thrown c.w0 pos e Y)∨(bZ c.E s 2=.ok s.take∧s.next<c.E.toks.length∧e=.returned (.tuple #[tkA (zi c.E s),intV (valP (zi c.E s).text)])∧0≤valP (zi c.E s).text∧valP (zi c.E s).text≤9999∧PQ c s.take F (d+1) Y)
theorem jP{c:PC}(he:OkC c){s:PS}{F:List (Nat×Obj)}{d:Nat}{X:World}(h:PQ c s F d X) :
 Calls prog 321 #[c.ptr] X (RdN c F d s):=by
 have HE:=Hd he;have HP:=Hd h;clear he h;obtain⟨T,hT⟩:∃T,zi c.E s=T:=⟨_,rfl⟩
 have HLT:=Hd hT;obtain⟨k,tx,pos⟩:=T;clear hT;go_enter func321,ntmps321
 go_wp2_with (first
  | (go_at_call 327;refine(LE HE.out (HP.out.alloc tkZ) 2 (by decide)).mono ?_;rintro e w1 (⟨ps,hr,rfl,hb⟩|⟨hr,hlt,he,hp1⟩);rotate_left;rw[HLT.out]at he;subst he;rotate_left;(exact⟨rfl,.inl ⟨ps,hr,rfl,hb⟩⟩);have hp1b:=hp1.alloc (tkO ⟨k,tx,pos⟩);have HP1:=Hd hp1b;have HR:=Hd hr;have htk:k=2:=(by have:=(cA (by decide) hr).2.2;rw[HLT.out]at this;exact this);have HTK:Hid (tokF tx=(2,tx)):=Hd (by have:=HE.out.tok _ (dW hlt);rw[HLT.out]at this;exact this htk);obtain⟨⟨b0,b1,b2⟩,bf,bl⟩:((w1.alloc (tkO ⟨k,tx,pos⟩)).cell? ⟨w1.heap.size,0,none⟩=some (.int .u8 k)∧(w1.alloc (tkO ⟨k,tx,pos⟩)).cell? ⟨w1.heap.size,1,none⟩=some (strV tx)∧(w1.alloc (tkO ⟨k,tx,pos⟩)).cell? ⟨w1.heap.size,2,none⟩=some (intV pos))∧True∧True:=⟨hp1b.own.tk (t:=⟨k,tx,pos⟩) (List.mem_cons_self ..),trivial,trivial⟩;clear hp1 hp1b hr htk)
  | (go_at_call 328;refine(DM tx _ (HE.out.gv.mono HP1.out.w0 nlr) HTK.out).mono ?_;rintro e w2 ⟨rfl,hb2⟩;have hp2:=HP1.out.below hb2;obtain⟨c0,c1,c2⟩:=hp2.own.tk (b:=w1.heap.size) (t:=⟨k,tx,pos⟩) (List.mem_cons_self ..);obtain⟨⟨z0,z1,z2⟩,zf,hzl⟩:=hp2.own.tkz (b:=X.heap.size) (by simp);have zf0:=zf 0;have zf1:=zf 1;have zf2:=zf 2;clear zf;have HP2:=Hd (hp2.drop);clear hp2 hb2))
 obtain⟨Y,hY,⟨y0,y1,y2⟩,htY⟩:=rQ (.int .u8 k) (.string ⟨tx.toArray⟩) (intV pos) z0 z1 z2;rw[hY];clear hY;refine bodyPost_ret (by simp[results,results321,go_sem,loadVar,y0,y1,y2,Result.andThen];rfl) rfl ?_;exact .inr ⟨HR.out,hlt,by rw[HLT.out],by rw[HLT.out];exact(mL HTK.out).2.1,by rw[HLT.out];exact(mL HTK.out).2.2,HP2.out.turned htY⟩
theorem PQg.added{c:PC}{s:PS}{K F:List (Nat×Obj)}{G:Nat→Prop}{W:World}(h:PQg c s (K++F) G W){na:Option Addr}{nc:Nat}{ks:List (Option Addr×Nat)}
 (hown:OwnN W (c.w0.heap.size+1) na nc s.nodes ks)(hna:∀i,AtB na i→G i)(hks:∀j (h:j<s.nodes.length) (k:j<ks.length),0<s.nodes[j].kids.length→∀x,ks[j].1=some x→G x.block)
 (kd:Int)(T:Tk)(text:List UInt8)(n:Int){ka:Option Addr}{kc:Nat}{kids:List Int}(hk:Row 1 W ka kids.length kc (zm kids))(hK:0<kids.length→∀x,ka=some x→x.block∈K.map Prod.fst)(hn:s.nodes.length≤1000){d:Nat}(hd:s.nodes.length+(d+1)≤s.next) :
 ∃ a' c' w3 W4,(Builtin.append_ #[22,22] 22 #[.slice na s.nodes.length nc,.slice (some ⟨W.heap.size,0,none⟩) 1 1]).run prog (W.alloc (.cells #[.int .u8 kd,strV text,intV n,.slice ka kids.length kc,intV T.pos] 57))=.ok (.slice a' (s.nodes.length+1) c') w3 ∧
   (∀b,b<W.heap.size→¬AtB na b→w3.heap[b]?=W.heap[b]?)∧w3.setCell ⟨c.w0.heap.size,3,none⟩ (.slice a' (s.nodes.length+1) c')=W4∧W4.cell? ⟨c.w0.heap.size,3,none⟩=some (.slice a' (s.nodes.length+1) c')∧PQ c (addP s kd T text n kids) F d W4:=by
 obtain⟨hp,ho,hout,hnd⟩:=h;have hlt:=hp.lt;obtain⟨i0,hi,hz0,hz1,hz2⟩:=info_parts iZ;obtain⟨W2,hW2⟩:∃W2,W.alloc (.cells #[.int .u8 kd,strV text,intV n,.slice ka kids.length kc,intV T.pos] 57)=W2:=⟨_,rfl⟩
 have hb2:Below W.heap.size W W2:=by rw[←hW2];exact(Below.refl _ W).alloc nlr _
 have hs2:W2.heap.size=W.heap.size+1:=by rw[←hW2];simp
 have hown2:=hown.below hb2;have hrow:Row 5 W2 (some ⟨W.heap.size,0,none⟩) 1 1 ((⟨kd,text,n,kids,T.pos⟩:Nd).cells (ka,kc)):=by rw[←hW2];exact nN W ⟨kd,text,n,kids,T.pos⟩ ka kc rfl
 obtain⟨v',w3,hrun,h2,h3⟩:=aZ (P:=prog) W2 (c.w0.heap.size+1) 22 22 57 i0 _ 5 64 cZ hi hz0 hz1 hz2 rfl (by decide) (.slice na s.nodes.length nc) s.nodes.length _ hown2.own (some ⟨W.heap.size,0,none⟩) 1 1 _ hrow (fI _ _) (by unfold maxLen;omega) (by omega) (by omega);obtain⟨a',c',rfl,_⟩:=bK h2;have hw:=dM (P:=prog) W2 (c.w0.heap.size+1) 22 22 57 i0 _ 5 64 cZ hi hz0 hz1 hz2 rfl (by decide) na s.nodes.length nc _ hown2.own (some ⟨W.heap.size,0,none⟩) 1 1 _ hrow (fI _ _) (by unfold maxLen;omega) (by omega) (by omega) hrun;rw[hW2]
 have hkb:0<kids.length→∀x,ka=some x→c.w0.heap.size<x.block∧¬G x.block:=fun h0 x e=>by
  obtain⟨p,hp2,e2⟩:=List.mem_map.1 (hK h0 x e);have:=hout p (List.mem_append_left _ hp2);rw[e2]at this;exact this
 have hkr:KRow W2 (c.w0.heap.size+1) na (ka,kc) kids:=⟨hk.mono hb2 nlr,fun h0 x e=>⟨(hkb h0 x e).1,fun y ey e3=>(hkb h0 x e).2 (hna _ ⟨y,ey,e3.symm⟩)⟩⟩
 have hsn:=OwnN.snoc hown2 (d:=⟨kd,text,n,kids,T.pos⟩) (k:=(ka,kc)) hkr h2 h3 hw
 have hkeep:∀b,b<W2.heap.size→¬AtB na b→w3.heap[b]?=W2.heap[b]?:=fun b hb hn=>h3.block b hb (by
  cases na with
  |none=>simp[Value.ownBlock]
  |some y=>simp only[Value.ownBlock];exact fun e=>hn ⟨y,rfl,by simpa using e.symm⟩)
 have hkeepW:∀b,b<W.heap.size→¬AtB na b→w3.heap[b]?=W.heap[b]?:=fun b hb hn=>(hkeep b (by omega) hn).trans (hb2.block b hb)
 have ha':∀i,AtB a' i→(AtB na i)∨W2.heap.size≤i:=by
  rintro i⟨x,e,rfl⟩;rcases hw x e with h1|h1
  ·exact .inl ⟨x,h1,rfl⟩
  ·exact .inr h1
 have hal:∀i,AtB a' i→c.w0.heap.size<i∧i<w3.heap.size:=by
  rintro i⟨x,e,rfl⟩;exact hsn.lt x e
 have n0:¬AtB na c.w0.heap.size:=by
  rintro⟨x,e,e2⟩;have:=(hown.lt x e).1;omega
 have hcell:∀i,w3.cell? ⟨c.w0.heap.size,i,none⟩=W.cell? ⟨c.w0.heap.size,i,none⟩:=fun i=>World.cell?_of_block (a:=⟨c.w0.heap.size,i,none⟩) (hkeepW _ hlt n0);have hfr:∀i,w3.frozen? ⟨c.w0.heap.size,i,none⟩=W.frozen? ⟨c.w0.heap.size,i,none⟩:=fun i=>by unfold World.frozen?;rw[hkeepW _ hlt n0]
 obtain⟨ca,cc,ck,c3,cown,-⟩:=hp.nodes;have c3':=World.cell?_setCell_same w3 ⟨c.w0.heap.size,3,none⟩ (.slice a' (s.nodes.length+1) c') ((hcell 3).trans c3);have hne:∀i,i≠3→(w3.setCell ⟨c.w0.heap.size,3,none⟩ (.slice a' (s.nodes.length+1) c')).cell? ⟨c.w0.heap.size,i,none⟩=W.cell? ⟨c.w0.heap.size,i,none⟩:=fun i hi=>(World.cell?_setCell_other _ _ _ _ (fun e=>hi (congrArg Addr.off e).symm)).trans (hcell i);have hb3:Below c.w0.heap.size W2 w3:=(Below.refl _ W2).grown h3 (by omega) (fun r e=>by have:=(hown2.own.lt r e).1;omega);refine⟨a',c',w3,_,hrun,hkeepW,rfl,c3',⟨fun i=>G i∨i∈K.map Prod.fst∨AtB a' i,⟨?_,?_,?_,?_,?_,?_,⟨a',c',ks++[(ka,kc)],?_,?_,?_,?_⟩,.inl hp.g0,?_,hp.next⟩,?_,?_,(List.nodup_append.1 (by rw[←List.map_append];exact hnd)).2.1⟩,?_⟩
 ·exact((hp.below.trans (hb2.mono (by omega))).trans hb3).setCell nlr _
 ·exact(hne 0 (by omega)).trans hp.c0
 ·exact(hne 1 (by omega)).trans hp.c1
 ·exact(hne 2 (by omega)).trans hp.c2
 ·exact(hne 4 (by omega)).trans hp.c4
 ·intro i;rw[World.frozen?_setCell,hfr];exact hp.fr i
 ·rw[c3'];simp[addP]
 ·exact hsn.setCell (by simp) _
 ·intro i hi;exact .inr (.inr hi)
 ·intro j hj hjk h0 x e
  have hl:=hown.len;simp only[addP]at hj h0;by_cases hjl:j<s.nodes.length
  ·rw[List.getElem_append_left (by omega)]at e
   rw[List.getElem_append_left hjl]at h0;exact .inl (hks j hjl (by omega) h0 x e)
  ·obtain rfl:j=s.nodes.length:=by simp at hj;omega
   rw[List.getElem_append_right (by omega)]at e;rw[List.getElem_append_right (by omega)]at h0;simp[hl]at e h0;exact .inr (.inl (hK (by omega) x e))
 ·intro i hi
  have hz:W.heap.size≤w3.heap.size:=by have:=hb3.size;omega
  simp only[World.size_setCell];rcases hi with hi|hi|hi
  ·exact⟨(hp.mem i hi).1,by have:=(hp.mem i hi).2;omega⟩
  ·obtain⟨p,hp2,rfl⟩:=List.mem_map.1 hi
   have h5:=(hout p (List.mem_append_left _ hp2)).1;have h6:=(Array.getElem?_eq_some_iff.1 (ho p (List.mem_append_left _ hp2))).1;exact⟨by omega,by omega⟩
  ·have:=hal i hi;exact⟨by omega,this.2⟩
 ·intro p hpF
  have h5:=hout p (List.mem_append_right _ hpF);have h6:=ho p (List.mem_append_right _ hpF);refine(Below.heap_setCell _ _ _ _ (by simp only;omega)).trans ((hkeepW p.1 (Array.getElem?_eq_some_iff.1 h6).1 (fun e=>h5.2 (hna _ e))).trans h6)
 ·intro p hpF
  have h5:=hout p (List.mem_append_right _ hpF);have h6:=(Array.getElem?_eq_some_iff.1 (ho p (List.mem_append_right _ hpF))).1;refine⟨h5.1,?_⟩;rintro(h7|h7|h7)
  ·exact h5.2 h7
  ·rw[List.map_append]at hnd
   exact(List.nodup_append.1 hnd).2.2 _ h7 _ (List.mem_map_of_mem hpF) rfl
  ·rcases ha' _ h7 with h8|h8
   ·exact h5.2 (hna _ h8)
   ·omega
 ·simp only[addP,List.length_append,List.length_singleton];omega
theorem PQg.tail{c:PC}{s:PS}{p:Nat×Obj}{F:List (Nat×Obj)}{G:Nat→Prop}{X:World}(h:PQg c s (p::F) G X):PQg c s F G X:=
 ⟨h.par,fun q hq=>h.own q (List.mem_cons_of_mem _ hq),fun q hq=>h.out q (List.mem_cons_of_mem _ hq),(List.nodup_cons.1 h.nd).2⟩
theorem IC{c:PC}(he:OkC c){s:PS}{K F:List (Nat×Obj)}{d:Nat}{X:World}(h:PQ c s (K++F) (d+1) X)(kd:Int)(T:Tk)(text:List UInt8)(n:Int){ka:Option Addr}{kc:Nat}{kids:List Int}
 (hk:Row 1 X ka kids.length kc (zm kids))(hK:0<kids.length→∀x,ka=some x→x.block∈K.map Prod.fst) :
 Calls prog 316 #[c.ptr,.int .u8 kd,tkA T,strV text,intV n,.slice ka kids.length kc] X fun e Y=>e=.returned (intV s.nodes.length)∧PQ c (addP s kd T text n kids) F d Y:=by
 obtain⟨k,tx,pos⟩:=T;have h1:=h.alloc (tkO ⟨k,tx,pos⟩);have hd:=h.2
 have hnx:s.nodes.length≤1000:=by
  obtain⟨⟨G,g⟩,_⟩:=h;have:=g.par.next;have:=he.many;omega
 have hkr:Row 1 ((X.alloc (tkO ⟨k,tx,pos⟩)).drew) ka kids.length kc (zm kids):=(hk.mono ((Below.refl _ X).alloc nlr _) nlr).mono (brf.drew) nlr;have HE:=Hd he;have hpl:=h.lt;obtain⟨⟨G,g1⟩,-⟩:=h1.drew;have hbx:=g1.own _ (List.mem_cons_self ..);have hnG:=(g1.out _ (List.mem_cons_self ..)).2;have g:=g1.tail;obtain⟨na,nc,ks,c3,hon,hna,hks⟩:=g.par.nodes;have hfr3:=g.par.fr 3;obtain⟨a',c',w3,W4,hrun,hkeep,hW4,hc4,hp4⟩:=g.added hon hna hks kd ⟨k,tx,pos⟩ text n hkr hK hnx hd;have hXs:(X.alloc (tkO ⟨k,tx,pos⟩)).drew.heap.size=X.heap.size+1:=by simp
 have hn0:¬AtB na X.heap.size:=fun e=>hnG (hna _ e)
 have hn1:¬AtB na c.w0.heap.size:=by
  rintro⟨x,e,e2⟩;have:=(hon.lt x e).1;omega
 have hbx3:=(hkeep X.heap.size (by rw[hXs];omega) hn0).trans hbx;have hc33:w3.cell? ⟨c.w0.heap.size,3,none⟩=some (.slice na s.nodes.length nc):=(World.cell?_of_block (a:=⟨c.w0.heap.size,3,none⟩) (hkeep c.w0.heap.size (by rw[hXs];omega) hn1)).trans c3
 have hf33:w3.frozen? ⟨c.w0.heap.size,3,none⟩=false:=by
  have:=hkeep c.w0.heap.size (by rw[hXs];omega) hn1;unfold World.frozen? at hfr3⊢;rw[this];exact hfr3
 have HP4:=Hd hp4;have HJ0:Hid ((fun Wz:World=>Wz.cell? ⟨c.w0.heap.size,3,none⟩=some (.slice na s.nodes.length nc)∧Wz.heap[X.heap.size]?=some (tkO ⟨k,tx,pos⟩)) (X.alloc (tkO ⟨k,tx,pos⟩)).drew):=Hd ⟨c3,hbx⟩;have HJ3:Hid ((fun Wz:World=>Wz.cell? ⟨c.w0.heap.size,3,none⟩=some (.slice na s.nodes.length nc)∧Wz.heap[X.heap.size]?=some (tkO ⟨k,tx,pos⟩)) w3):=Hd ⟨hc33,hbx3⟩
 have HJA:Hid ((fun Wz:World=>Wz.cell? ⟨c.w0.heap.size,3,none⟩=some (.slice na s.nodes.length nc)∧Wz.heap[X.heap.size]?=some (tkO ⟨k,tx,pos⟩)) ((X.alloc (tkO ⟨k,tx,pos⟩)).drew.alloc (.cells #[.int .u8 kd,strV text,intV n,.slice ka kids.length kc,intV pos] 57))):=
  Hd ⟨((brf.alloc nlr _).cell (p:=⟨c.w0.heap.size,3,none⟩) (show c.w0.heap.size<_ by omega)).trans c3,(Below.heap_alloc _ _ _ (by rw[hXs];omega)).trans hbx⟩
 have HRUN:=Hd hrun;have HW4:=Hd hW4;clear h h1 g g1 hkr hk hK hon hna hks hbx hbx3 hkeep hp4 hc33 hn0 hn1 hXs hrun hW4 hd hnG c3;go_enter func316,ntmps316;have hmo:prog.follows .mixedOrders=true:=by kernel_rfl
 go_wp2;refine N.region_C [false,false,false,false,false,false,false,false,false,false,false,false,false,true,true,false,false,false,true] [?vC1_0,?vC1_1,?vC1_2,?vC1_3,?vC1_4,?vC1_5,?vC1_6,?vC1_7,?vC1_8,?vC1_9,?vC1_10,?vC1_11,?vC1_12,undef,undef,?vC1_15,?vC1_16,?vC1_17,undef] hmo (by kernel_rfl) (by kernel_rfl) (by kernel_rfl) (by kernel_rfl) rfl rfl (fun _ _=>False) N.Pans.no (fun Wz=>Wz.cell? ⟨c.w0.heap.size,3,none⟩=some (.slice na s.nodes.length nc)∧Wz.heap[X.heap.size]?=some (tkO ⟨k,tx,pos⟩)) HJ0.out ?wC1_ ?_
 case wC1_=>
  iterate 13 (refine N.WalkC.still (N.StillP.known rfl ?_) ?_;(intro W hJ;obtain⟨j3,jb⟩:=hJ;have jb2:=za (i:=2) jb rfl;go_simp;rfl);simp only[N.pz])
  refine N.WalkC.chain fun u13=>?_;simp only[N.pz];refine N.WalkC.chain fun u14=>?_;simp only[N.pz]
  iterate 3 (refine N.WalkC.still (N.StillP.known rfl ?_) ?_;(intro W hJ;obtain⟨j3,jb⟩:=hJ;have jb2:=za (i:=2) jb rfl;go_simp;rfl);simp only[N.pz])
  refine N.WalkC.chain fun u18=>?_;simp only[N.pz];exact .nil
 iterate 13 (refine N.TailC.still ?_;simp only[N.pz])
 refine N.TailC.run (v:=.slice (some ⟨(X.alloc (tkO ⟨k,tx,pos⟩)).drew.heap.size,0,none⟩) 1 1) (w':=(X.alloc (tkO ⟨k,tx,pos⟩)).drew.alloc (.cells #[.int .u8 kd,strV text,intV n,.slice ka kids.length kc,intV pos] 57)) rfl ?a13 (fun _=>HJA.out) ?b13;case a13=>go_simp;try rfl
 simp only[N.pz];refine N.TailC.append rfl (.tmp 18) (.tmp 26) 22 rfl rfl rfl HRUN.out (fun _=>HJ3.out) ?_;simp only[N.pz]
 iterate 3 (refine N.TailC.still ?_;simp only[N.pz])
 refine N.TailC.skips (w':=W4) rfl ?a18 (fun h=>absurd rfl h) ?b18;case a18=>rw[←HW4.out];have jc:=HJ3.out.1;go_simp;try rfl
 simp only[N.pz];refine N.TailC.nil ?_;obtain⟨nl,hnl⟩:∃nl,s.nodes.length=nl:=⟨_,rfl⟩
 rw[hnl]at hc4 hnx;go_wp2;go_ret;exact⟨by rw[hnl];rfl,HP4.out⟩
def RdI(c:PC)(F:List (Nat×Obj))(d n0:Nat)(S:PR (Int×PS))(e:Ending)(Y:World):Prop:=
 (∃pos,S=.error pos∧Thrown c.w0 pos e Y)∨∃a s',S=.ok (a,s')∧e=.returned (intV a)∧n0≤s'.next∧PQ c s' F d Y
def zt(c:PC)(fn:FuncId)(rd:RdP)(s:PS):Prop:=∀(F:List (Nat×Obj)) (d:Nat) (X:World),PQ c s F d X→Calls prog fn #[c.ptr] X (RdI c F d s.next (rd s))
theorem zj{ε α β:Type}{S:Except ε β}{m:Except ε α}{k:α→Except ε β}{a:α}(h:S=m.bind k)(hm:m=.ok a):S=k a:=by subst hm;exact h
theorem zk{ε α β:Type}{S:Except ε β}{m:Except ε α}{k:α→Except ε β}{p:ε}(h:S=m.bind k)(hm:m=.error p):S=.error p:=by subst hm;exact h
theorem RdI.er{c:PC}{F:List (Nat×Obj)}{d n0:Nat}{S:PR (Int×PS)}{pos:Int}{Y:World}(h:S=.error pos)(hb:Below c.w0.heap.size c.w0 Y):RdI c F d n0 S (.panicked [{ v:=rS pos,recovered:=false }]) Y:=.inl ⟨pos,h,rfl,hb⟩
theorem RdI.ok{c:PC}{F:List (Nat×Obj)}{d n0:Nat}{S:PR (Int×PS)}{a:Int}{s':PS}{Y:World}(h:S=.ok (a,s'))(hn:n0≤s'.next)(hp:PQ c s' F d Y):RdI c F d n0 S (.returned (intV a)) Y:=.inr ⟨a,s',h,rfl,hn,hp⟩
theorem QAdd0{c:PC}(he:OkC c){s:PS}{F:List (Nat×Obj)}{d:Nat}{X:World}(h:PQ c s F (d+1) X)(kd:Int)(T:Tk)(text:List UInt8)(n:Int) :
 Calls prog 316 #[c.ptr,.int .u8 kd,tkA T,strV text,intV n,.slice none 0 0] X fun e Y=>e=.returned (intV s.nodes.length)∧PQ c (addP s kd T text n []) F d Y:=
 IC he (K:=[]) h kd T text n (kids:=[]) (ka:=none) (kc:=0) ⟨rfl,nlr,fun _=>rfl,.inl rfl⟩ (fun h=>absurd h (by simp))
theorem kA{c:PC}(he:OkC c){s:PS}{F:List (Nat×Obj)}{d:Nat}{X:World}(h:PQ c s F (d+1) X)(kd:Int)(T:Tk)(text:List UInt8)(n:Int)(kids:List Int){z:Nat}(hz:X.heap.size=z) :
 Calls prog 316 #[c.ptr,.int .u8 kd,tkA T,strV text,intV n,.slice (some ⟨z,0,none⟩) kids.length kids.length] (X.alloc (.cells (zm kids).toArray 3)) fun e Y=>e=.returned (intV s.nodes.length)∧PQ c (addP s kd T text n kids) F d Y:=by
 subst hz;refine IC he (K:=[(X.heap.size,.cells (zm kids).toArray 3)]) (h.alloc _) kd T text n ?_ (fun _ x e=>by obtain rfl:=Option.some.inj e;simp);have:=Row.made (k:=1) (n:=kids.length) (c:=kids.length) X (zm kids) 3 (by simp) nlr;exact this
structure KL (c:PC) (K:List (Nat×Obj)) (a:Option Addr) (cp:Nat) (l:List Int):Prop where
 own:∀X,Own K X→OwnI X (c.w0.heap.size+1) a cp l
 at_:∀x,a=some x→x.block∈K.map Prod.fst
theorem KL.nil(c:PC):KL c [] none 0 []:=⟨fun _ _=>⟨rfl,.inl ⟨rfl,rfl⟩⟩,fun _ h=>by cases h⟩
theorem Own.left{K F:List (Nat×Obj)}{X:World}(h:Own (K++F) X):Own K X:=fun p hp=>h p (List.mem_append_left _ hp)
theorem KL.of{c:PC}{X:World}{a:Option Addr}{cp:Nat}{l:List Int}(h:OwnI X (c.w0.heap.size+1) a cp l):∃K,KL c K a cp l∧Own K X∧(K=[]∨∃g o,a=some ⟨g,0,none⟩∧K=[(g,o)]):=by
 obtain⟨h1,h2⟩:=h;rcases h2 with⟨h2,h3⟩|⟨g,cap,cur,h2,hb,hg,hr⟩
 ·simp only[Value.slice.injEq]at h2
  obtain⟨rfl,h4,rfl⟩:=h2;exact⟨[],⟨fun _ _=>⟨h1,.inl ⟨by rw[h4],h3⟩⟩,fun _ h=>by cases h⟩,(fun _ h=>by cases h),.inl rfl⟩
 ·simp only[Value.slice.injEq]at h2
  obtain⟨rfl,-,rfl⟩:=h2;exact⟨[(g,.cells cur 3 (0,0))],⟨fun X hX=>⟨h1,.inr ⟨g,cp,cur,rfl,hb,hX _ (List.mem_cons_self ..),hr⟩⟩,fun x e=>by obtain rfl:=Option.some.inj e;simp⟩,fun p hp=>by obtain rfl:=List.mem_singleton.1 hp;exact hg,.inr ⟨g,_,rfl,rfl⟩⟩
theorem PQ.appended{c:PC}{s:PS}{K F:List (Nat×Obj)}{d:Nat}{W w':World}{a a':Option Addr}{cp cp':Nat}{l l':List Int}(h:PQ c s (K++F) d W)(hk:KL c K a cp l)(hown:OwnI w' (c.w0.heap.size+1) a' cp' l')
 (hkeep:∀B' A,B'≤c.w0.heap.size+1→Below B' A W→Below B' A w')(hap:∀g,g<W.heap.size→gK a g→w'.heap[g]?=W.heap[g]?∧gK a' g):∃K',KL c K' a' cp' l'∧PQ c s (K'++F) d w':=by
 obtain⟨K',hk',ho',hs'⟩:=KL.of hown;refine⟨K',hk',?_⟩;have hb:=hkeep _ _ nlr (Below.refl _ W);obtain⟨⟨G,g⟩,hd⟩:=h
 have hka:∀x,a=some x→c.w0.heap.size<x.block∧¬G x.block∧x.block∈K.map Prod.fst:=fun x e=>by
  obtain⟨p,hp,e2⟩:=List.mem_map.1 (hk.at_ x e);have:=g.out p (List.mem_append_left _ hp);rw[e2]at this;exact⟨this.1,this.2,hk.at_ x e⟩
 have htn:Turns (fun i=>AtB a i) W w':=⟨hb.os,hb.tape,hb.output,hb.size,fun i hi hn=>(hap i hi (fun p e e2=>hn ⟨p,e,e2⟩)).1⟩
 have hpar:IsPar c.w0 c.E c.ta c.tc c.iv s G w':=g.par.turns htn (fun i hi ⟨x,e,e2⟩=>(hka x e).2.1 (by rw[e2];exact hi)) (fun i ⟨x,e,e2⟩=>by have:=(hka x e).1;omega);have hnd:=List.nodup_append.1 (by have:=g.nd;rwa[List.map_append]at this);have hF:∀p∈F,¬AtB a p.1:=fun p hp ⟨x,e,e2⟩=>hnd.2.2 _ (hka x e).2.2 _ (List.mem_map_of_mem hp) e2;have hFl:∀p∈F,p.1<W.heap.size:=fun p hp=>(Array.getElem?_eq_some_iff.1 (g.own p (List.mem_append_right _ hp))).1;have hFo:∀p∈F,w'.heap[p.1]?=some p.2:=fun p hp=>(htn.block p.1 (hFl p hp) (hF p hp)).trans (g.own p (List.mem_append_right _ hp))
 have hnew:∀x,a'=some x→AtB a x.block∨W.heap.size≤x.block:=fun x e=>by
  rcases Nat.lt_or_ge x.block W.heap.size with h1|h1
  ·refine .inl (Classical.byContradiction fun hn=>?_)
   exact(hap x.block h1 (fun p e1 e2=>hn ⟨p,e1,e2⟩)).2 x e rfl
  ·exact .inr h1
 rcases hs' with rfl|⟨gb,o,ea,rfl⟩
 ·exact⟨⟨G,hpar,hFo,fun p hp=>g.out p (List.mem_append_right _ hp),hnd.2.1⟩,hd⟩
 ·have hout:c.w0.heap.size<gb∧¬G gb∧∀p∈F,p.1≠gb:=by
   rcases hnew _ ea with⟨x,e,e2⟩|h1
   ·have:=hka x e
    simp only at e2;rw[e2]at this;exact⟨this.1,this.2.1,fun p hp e3=>hF p hp ⟨x,e,by rw[e2,e3]⟩⟩
   ·simp only at h1
    have:=g.par.lt;exact⟨by omega,fun e=>by have:=(g.par.mem _ e).2;omega,fun p hp e3=>by have:=hFl p hp;omega⟩
  refine⟨⟨G,hpar,fun p hp=>?_,fun p hp=>?_,?_⟩,hd⟩
  ·rcases List.mem_cons.1 hp with rfl|hp
   ·exact ho' _ (List.mem_cons_self ..)
   ·exact hFo p hp
  ·rcases List.mem_cons.1 hp with rfl|hp
   ·exact⟨hout.1,hout.2.1⟩
   ·exact g.out p (List.mem_append_right _ hp)
  ·refine List.nodup_cons.2 ⟨fun e=>?_,hnd.2.1⟩
   obtain⟨p,hp,e⟩:=List.mem_map.1 e;exact hout.2.2 p hp e
theorem PQ.made{c:PC}{s:PS}{F:List (Nat×Obj)}{d:Nat}{X:World}(h:PQ c s F d X)(v:Int){n:Nat}(hn:X.heap.size=n):∃K,KL c K (some ⟨n,0,none⟩) 1 [v]∧PQ c s (K++F) d (X.alloc (.cells #[intV v] 3)):=by
 subst hn;have hl:=h.lt;refine⟨[(X.heap.size,.cells #[intV v] 3)],⟨fun Y hY=>?_,fun x e=>by obtain rfl:=Option.some.inj e;simp⟩,h.alloc _⟩;exact⟨rfl,.inr ⟨X.heap.size,1,#[intV v],rfl,by omega,hY _ (List.mem_cons_self ..),nlr,by decide,rfl,rfl⟩⟩
theorem oD{c:PC}(he:OkC c){s:PS}{K F:List (Nat×Obj)}{d:Nat}{X:World}(h:PQ c s (K++F) (d+1) X)(kd:Int)(T:Tk)(text:List UInt8)(n:Int){a:Option Addr}{cp:Nat}{l:List Int}(hk:KL c K a cp l) :
 Calls prog 316 #[c.ptr,.int .u8 kd,tkA T,strV text,intV n,.slice a l.length cp] X fun e Y=>e=.returned (intV s.nodes.length)∧PQ c (addP s kd T text n l) F d Y:=
 IC he h kd T text n (zU (hk.own X h.own.left)) (fun _ x e=>hk.at_ x e)
def RdL(c:PC)(F:List (Nat×Obj))(d n0:Nat)(S:PR (List Int×PS))(e:Ending)(Y:World):Prop:=
 (∃pos,S=.error pos∧Thrown c.w0 pos e Y)∨∃l s' a cp K,S=.ok (l,s')∧e=.returned (.slice a l.length cp)∧n0≤s'.next∧l.length≤s'.next+1∧KL c K a cp l∧PQ c s' (K++F) d Y
theorem RdL.er{c:PC}{F:List (Nat×Obj)}{d n0:Nat}{S:PR (List Int×PS)}{pos:Int}{Y:World}(h:S=.error pos)(hb:Below c.w0.heap.size c.w0 Y):RdL c F d n0 S (.panicked [{ v:=rS pos,recovered:=false }]) Y:=.inl ⟨pos,h,rfl,hb⟩
theorem sJ{rd:RdP}{E:PE}{f:Nat}{l:List Int}{s:PS}(h:isP E s iS=false):mI rd E f l s=.ok (l,s):=by
 cases f with
 |zero=>rfl
 |succ f=>unfold mI;rw[h];rfl
theorem pK{rd:RdP}{E:PE}{f:Nat}{l:List Int}{s:PS}(h:isP E s iS=true):mI rd E (f+1) l s=(rd s.take).bind fun r=>mI rd E f (l++[r.1]) r.2:=by
 conv=>lhs;unfold mI
 rw[h];rfl
theorem PQ.next{c:PC}{s:PS}{F:List (Nat×Obj)}{d:Nat}{X:World}(h:PQ c s F d X):s.next≤c.E.toks.length:=by
 obtain⟨⟨G,g⟩,_⟩:=h;exact g.par.next
def lO(c:PC)(X:World):Nat:=c.E.toks.length-(intOf ((X.cell? ⟨c.w0.heap.size,2,none⟩).getD undef)).toNat
theorem PQ.meas{c:PC}{s:PS}{F:List (Nat×Obj)}{d:Nat}{X:World}(h:PQ c s F d X):lO c X=c.E.toks.length-s.next:=by
 obtain⟨⟨G,g⟩,_⟩:=h;unfold lO;rw[g.par.c2];simp[intOf]
theorem JK{E:PE}{s:PS}{T:Tk}(hT:zi E s=T)(h:(T.kind==2)=true):bZ E s 2=.ok s.take:=by
 unfold bZ;rw[hT,if_pos h]
theorem oF{c:PC}(he:OkC c){rd:RdP}{s:PS}(hrd:∀s',s.next≤s'.next→zt c 318 rd s'){F:List (Nat×Obj)}{d:Nat}{X:World}(h:PQ c s F d X) :
 Calls prog 317 #[c.ptr,.func (.func 318) #[] #[]] X (RdL c F d s.next (jC rd c.E s)):=by
 have HE:=Hd he;have HR:=Hd hrd;have HP0:=Hd h;have hmany:=he.many;obtain⟨S,hS⟩:∃S,jC rd c.E s=S:=⟨_,rfl⟩
 rw[hS];unfold jC at hS;have HS0:=Hd hS.symm;have hnx0:=h.next;clear he hrd h hS;go_enter func317,ntmps317
 go_wp2_with (go_at_call 318;refine(HR.out s nlr _ _ _ HP0.out).mono ?_;rintro e w1 (⟨ps,hr,rfl,hb⟩|⟨a1,s1,hr,rfl,hn,hp⟩);(exact⟨rfl,.er (zk HS0.out hr) hb⟩);have HS1:=Hd (zj HS0.out hr);obtain⟨K1,hk1,hp1⟩:=hp.made a1 rfl;have HK1:=Hd hk1;have HP1:=Hd hp1;have HN1:=Hd hn;clear hr hn hp hk1 hp1)
 go_loopw [5] (fun t5 wr=>∃(a:Option Addr) (cp:Nat) (l:List Int) (sk:PS) (f:Nat) (K:List (Nat×Obj)),t5=.slice a l.length cp∧Hid (S=mI rd c.E f l sk)∧Hid (s.next≤sk.next∧c.E.toks.length+1≤f+sk.next∧l.length≤sk.next+1)∧Hid (KL c K a cp l)∧Hid (PQ c sk (K++F) d wr)) (fun _ wr=>lO c wr)
 case atStart=>exact⟨_,_,[a1],s1,_,K1,rfl,HS1,Hd ⟨HN1.out,by simp,by simp⟩,HK1,HP1⟩
 case round=>
  obtain⟨a,cp,l,sk,f,K,rfl,HSK,HNK,HKK,HPK⟩:=hrel;have hnk:=HPK.out.next;have HM:=Hd HPK.out.meas
  cases hc:isP c.E sk iS with
  | false=>
    have HC:=Hd hc;have HS2:=Hd (HSK.out.trans (sJ hc));clear hc
    go_wp2_with (go_at_call 320;refine(dE HE.out HPK.out iS HC.out).mono ?_;rintro e w2 ⟨rfl,hp⟩;have HP2:=Hd hp;clear hp)
    go_ret;exact .inr ⟨l,sk,a,cp,K,HS2.out,rfl,HNK.out.1,HNK.out.2.2,HKK.out,HP2.out⟩
  | true=>
    have hlt:=eT hc;obtain⟨f,rfl⟩:∃g,f=g+1:=⟨f-1,by have:=HNK.out.2.1;omega⟩
    have HC:=Hd hc;have HS2:=Hd (HSK.out.trans (pK hc));clear hc;have hll:l.length≤1000:=by have:=HNK.out.2.2;omega
    go_wp2_with (first
     | (at_builtin;have hpa:=(HP3.out.alloc (.cells #[intV a3] 3)).drop;refine zR (news:=[a3]) rfl (.tmp 12) (.tmp 16) rfl rfl (HKK.out.own _ hpa.own.left) rfl (aK _ _ _) (by omega) (by have:=hpa.lt;omega) ?_;intro a9 c9 w9 l9 HL9 hle9 hown9 hkeep9 hap9;obtain⟨K9,hk9,hp9⟩:=hpa.appended HKK.out hown9 hkeep9 hap9;have HK9:=Hd hk9;have HP9:=Hd hp9;clear hpa hown9 hkeep9 hap9 hk9 hp9)
     | (go_at_call 320;refine(eY HE.out HPK.out iS HC.out).mono ?_;rintro e w2 ⟨rfl,hp⟩;have HP2:=Hd hp;clear hp)
     | (go_at_call 318;refine(HR.out sk.take (by have:=HNK.out.1;simp only[PS.take];omega) _ _ _ HP2.out).mono ?_;rintro e w3 (⟨ps,hr,rfl,hb⟩|⟨a3,s3,hr,rfl,hn,hp⟩);(exact⟨rfl,.er (zk HS2.out hr) hb⟩);have HS3:=Hd (zj HS2.out hr);have HP3:=Hd (hp.less (Nat.le_succ d));have HN3:=Hd hn;clear hr hn hp))
    have hn3:sk.next+1≤s3.next:=HN3.out
    go_roundw
    case rel=>exact⟨a9,c9,l9,s3,f,K9,rfl,by rw[HL9.out];exact HS3,Hd ⟨by have:=HNK.out.1;omega,by have:=HNK.out.2.1;omega,by have:=HNK.out.2.2;omega⟩,HK9,HP9⟩
    case measure=>rw[HP9.out.meas,HM.out];omega
theorem mB{c:PC}(he:OkC c){rd:RdP}{s:PS}(hrd:∀s',s.next≤s'.next→zt c 322 rd s'){F:List (Nat×Obj)}{d:Nat}{X:World}(h:PQ c s F d X) :
 Calls prog 317 #[c.ptr,.func (.func 322) #[] #[]] X (RdL c F d s.next (jC rd c.E s)):=by
 have HE:=Hd he;have HR:=Hd hrd;have HP0:=Hd h;have hmany:=he.many;obtain⟨S,hS⟩:∃S,jC rd c.E s=S:=⟨_,rfl⟩
 rw[hS];unfold jC at hS;have HS0:=Hd hS.symm;have hnx0:=h.next;clear he hrd h hS;go_enter func317,ntmps317
 go_wp2_with (go_at_call 322;refine(HR.out s nlr _ _ _ HP0.out).mono ?_;rintro e w1 (⟨ps,hr,rfl,hb⟩|⟨a1,s1,hr,rfl,hn,hp⟩);(exact⟨rfl,.er (zk HS0.out hr) hb⟩);have HS1:=Hd (zj HS0.out hr);obtain⟨K1,hk1,hp1⟩:=hp.made a1 rfl;have HK1:=Hd hk1;have HP1:=Hd hp1;have HN1:=Hd hn;clear hr hn hp hk1 hp1)
 go_loopw [5] (fun t5 wr=>∃(a:Option Addr) (cp:Nat) (l:List Int) (sk:PS) (f:Nat) (K:List (Nat×Obj)),t5=.slice a l.length cp∧Hid (S=mI rd c.E f l sk)∧Hid (s.next≤sk.next∧c.E.toks.length+1≤f+sk.next∧l.length≤sk.next+1)∧Hid (KL c K a cp l)∧Hid (PQ c sk (K++F) d wr)) (fun _ wr=>lO c wr)
 case atStart=>exact⟨_,_,[a1],s1,_,K1,rfl,HS1,Hd ⟨HN1.out,by simp,by simp⟩,HK1,HP1⟩
 case round=>
  obtain⟨a,cp,l,sk,f,K,rfl,HSK,HNK,HKK,HPK⟩:=hrel;have hnk:=HPK.out.next;have HM:=Hd HPK.out.meas
  cases hc:isP c.E sk iS with
  | false=>
    have HC:=Hd hc;have HS2:=Hd (HSK.out.trans (sJ hc));clear hc
    go_wp2_with (go_at_call 320;refine(dE HE.out HPK.out iS HC.out).mono ?_;rintro e w2 ⟨rfl,hp⟩;have HP2:=Hd hp;clear hp)
    go_ret;exact .inr ⟨l,sk,a,cp,K,HS2.out,rfl,HNK.out.1,HNK.out.2.2,HKK.out,HP2.out⟩
  | true=>
    have hlt:=eT hc;obtain⟨f,rfl⟩:∃g,f=g+1:=⟨f-1,by have:=HNK.out.2.1;omega⟩
    have HC:=Hd hc;have HS2:=Hd (HSK.out.trans (pK hc));clear hc;have hll:l.length≤1000:=by have:=HNK.out.2.2;omega
    go_wp2_with (first
     | (at_builtin;have hpa:=(HP3.out.alloc (.cells #[intV a3] 3)).drop;refine zR (news:=[a3]) rfl (.tmp 12) (.tmp 16) rfl rfl (HKK.out.own _ hpa.own.left) rfl (aK _ _ _) (by omega) (by have:=hpa.lt;omega) ?_;intro a9 c9 w9 l9 HL9 hle9 hown9 hkeep9 hap9;obtain⟨K9,hk9,hp9⟩:=hpa.appended HKK.out hown9 hkeep9 hap9;have HK9:=Hd hk9;have HP9:=Hd hp9;clear hpa hown9 hkeep9 hap9 hk9 hp9)
     | (go_at_call 320;refine(eY HE.out HPK.out iS HC.out).mono ?_;rintro e w2 ⟨rfl,hp⟩;have HP2:=Hd hp;clear hp)
     | (go_at_call 322;refine(HR.out sk.take (by have:=HNK.out.1;simp only[PS.take];omega) _ _ _ HP2.out).mono ?_;rintro e w3 (⟨ps,hr,rfl,hb⟩|⟨a3,s3,hr,rfl,hn,hp⟩);(exact⟨rfl,.er (zk HS2.out hr) hb⟩);have HS3:=Hd (zj HS2.out hr);have HP3:=Hd (hp.less (Nat.le_succ d));have HN3:=Hd hn;clear hr hn hp))
    have hn3:sk.next+1≤s3.next:=HN3.out
    go_roundw
    case rel=>exact⟨a9,c9,l9,s3,f,K9,rfl,by rw[HL9.out];exact HS3,Hd ⟨by have:=HNK.out.1;omega,by have:=HNK.out.2.1;omega,by have:=HNK.out.2.2;omega⟩,HK9,HP9⟩
    case measure=>rw[HP9.out.meas,HM.out];omega
theorem DE{c:PC}(he:OkC c){rd:RdP}{s:PS}(hrd:∀s',s.next≤s'.next→zt c 342 rd s'){F:List (Nat×Obj)}{d:Nat}{X:World}(h:PQ c s F d X) :
 Calls prog 317 #[c.ptr,.func (.func 342) #[] #[]] X (RdL c F d s.next (jC rd c.E s)):=by
 have HE:=Hd he;have HR:=Hd hrd;have HP0:=Hd h;have hmany:=he.many;obtain⟨S,hS⟩:∃S,jC rd c.E s=S:=⟨_,rfl⟩
 rw[hS];unfold jC at hS;have HS0:=Hd hS.symm;have hnx0:=h.next;clear he hrd h hS;go_enter func317,ntmps317
 go_wp2_with (go_at_call 342;refine(HR.out s nlr _ _ _ HP0.out).mono ?_;rintro e w1 (⟨ps,hr,rfl,hb⟩|⟨a1,s1,hr,rfl,hn,hp⟩);(exact⟨rfl,.er (zk HS0.out hr) hb⟩);have HS1:=Hd (zj HS0.out hr);obtain⟨K1,hk1,hp1⟩:=hp.made a1 rfl;have HK1:=Hd hk1;have HP1:=Hd hp1;have HN1:=Hd hn;clear hr hn hp hk1 hp1)
 go_loopw [5] (fun t5 wr=>∃(a:Option Addr) (cp:Nat) (l:List Int) (sk:PS) (f:Nat) (K:List (Nat×Obj)),t5=.slice a l.length cp∧Hid (S=mI rd c.E f l sk)∧Hid (s.next≤sk.next∧c.E.toks.length+1≤f+sk.next∧l.length≤sk.next+1)∧Hid (KL c K a cp l)∧Hid (PQ c sk (K++F) d wr)) (fun _ wr=>lO c wr)
 case atStart=>exact⟨_,_,[a1],s1,_,K1,rfl,HS1,Hd ⟨HN1.out,by simp,by simp⟩,HK1,HP1⟩
 case round=>
  obtain⟨a,cp,l,sk,f,K,rfl,HSK,HNK,HKK,HPK⟩:=hrel;have hnk:=HPK.out.next;have HM:=Hd HPK.out.meas
  cases hc:isP c.E sk iS with
  | false=>
    have HC:=Hd hc;have HS2:=Hd (HSK.out.trans (sJ hc));clear hc
    go_wp2_with (go_at_call 320;refine(dE HE.out HPK.out iS HC.out).mono ?_;rintro e w2 ⟨rfl,hp⟩;have HP2:=Hd hp;clear hp)
    go_ret;exact .inr ⟨l,sk,a,cp,K,HS2.out,rfl,HNK.out.1,HNK.out.2.2,HKK.out,HP2.out⟩
  | true=>
    have hlt:=eT hc;obtain⟨f,rfl⟩:∃g,f=g+1:=⟨f-1,by have:=HNK.out.2.1;omega⟩
    have HC:=Hd hc;have HS2:=Hd (HSK.out.trans (pK hc));clear hc;have hll:l.length≤1000:=by have:=HNK.out.2.2;omega
    go_wp2_with (first
     | (at_builtin;have hpa:=(HP3.out.alloc (.cells #[intV a3] 3)).drop;refine zR (news:=[a3]) rfl (.tmp 12) (.tmp 16) rfl rfl (HKK.out.own _ hpa.own.left) rfl (aK _ _ _) (by omega) (by have:=hpa.lt;omega) ?_;intro a9 c9 w9 l9 HL9 hle9 hown9 hkeep9 hap9;obtain⟨K9,hk9,hp9⟩:=hpa.appended HKK.out hown9 hkeep9 hap9;have HK9:=Hd hk9;have HP9:=Hd hp9;clear hpa hown9 hkeep9 hap9 hk9 hp9)
     | (go_at_call 320;refine(eY HE.out HPK.out iS HC.out).mono ?_;rintro e w2 ⟨rfl,hp⟩;have HP2:=Hd hp;clear hp)
     | (go_at_call 342;refine(HR.out sk.take (by have:=HNK.out.1;simp only[PS.take];omega) _ _ _ HP2.out).mono ?_;rintro e w3 (⟨ps,hr,rfl,hb⟩|⟨a3,s3,hr,rfl,hn,hp⟩);(exact⟨rfl,.er (zk HS2.out hr) hb⟩);have HS3:=Hd (zj HS2.out hr);have HP3:=Hd (hp.less (Nat.le_succ d));have HN3:=Hd hn;clear hr hn hp))
    have hn3:sk.next+1≤s3.next:=HN3.out
    go_roundw
    case rel=>exact⟨a9,c9,l9,s3,f,K9,rfl,by rw[HL9.out];exact HS3,Hd ⟨by have:=HNK.out.1;omega,by have:=HNK.out.2.1;omega,by have:=HNK.out.2.2;omega⟩,HK9,HP9⟩
    case measure=>rw[HP9.out.meas,HM.out];omega
end
end Go.Proofs.YtokdgiphdnjeoaaGreatDoor
