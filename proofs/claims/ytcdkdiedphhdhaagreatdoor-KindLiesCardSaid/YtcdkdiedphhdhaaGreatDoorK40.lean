/- Part of a proof. -/
import Derived.Test.YtcdkdiedphhdhaaGreatDoorK35
import Derived.Test.YtcdkdiedphhdhaaGreatDoorK39
set_option maxRecDepth 100000
set_option maxHeartbeats 8000000
set_option linter.unusedVariables false
set_option linter.unusedSimpArgs false
open Go.Proofs.Tryz
namespace Go.Proofs.YtcdkdiedphhdhaaGreatDoor
section
open Go Go.RowKit
theorem CP{t:Tr}{i:Nat}(h:(t.nd (i:Int)).kind=41)(s:List UInt8):recT t (i+1) s=if (t.nd (i:Int)).text=s then some i else recT t i s:=by
 unfold recT;rw[List.range_succ,List.filter_append];by_cases e:(t.nd (i:Int)).text=s
 .rw[if_pos e]
  have:([i].filter fun i:Nat=>(t.nd (i:Int)).kind==41&&(t.nd (i:Int)).text==s)=[i]:=by simp[h,e]
  rw[this];simp
 .rw[if_neg e]
  have:([i].filter fun i:Nat=>(t.nd (i:Int)).kind==41&&(t.nd (i:Int)).text==s)=[]:=by simp[e]
  rw[this,List.append_nil]
theorem JU{t:Tr}{i:Nat}(h:(t.nd (i:Int)).kind≠41)(s:List UInt8):recT t (i+1) s=recT t i s:=by
 unfold recT;rw[List.range_succ,List.filter_append];have:([i].filter fun i:Nat=>(t.nd (i:Int)).kind==41&&(t.nd (i:Int)).text==s)=[]:=by simp[h]
 rw[this,List.append_nil]
theorem RecD.next{t:Tr}{i:Nat}{D:DataW Unit}(h:RecD t i D)(hk:(t.nd (i:Int)).kind≠41):RecD t (i+1) D:=⟨h.map,fun s=>by rw[h.has,JU hk],fun s=>by rw[h.val,JU hk]⟩
theorem RecD.put{t:Tr}{i:Nat}{D:DataW Unit}(h:RecD t i D)(hk:(t.nd (i:Int)).kind=41):RecD t (i+1) (D.put (.string (t.nd (i:Int)).text) (.lit (.int .i64 i))):=by
 refine⟨aI h.map _ _,fun s=>?_,fun s=>?_⟩
 .rw[CP hk]
  by_cases e:(t.nd (i:Int)).text=s
  .rw[if_pos e,<-e,Maps.has_put_same h.map (show WideAt.IsKeyLit (.string (t.nd (i:Int)).text)from trivial)];rfl
  .rw[if_neg e,Maps.has_put_other (by intro e2;injection e2 with e2;exact e e2.symm),h.has]
 .rw[eV h.map,CP hk,h.val]
  by_cases e:(t.nd (i:Int)).text=s
  .rw[if_pos e,if_pos e.symm];rfl
  .rw[if_neg e,if_neg (fun e2=>e e2.symm)]
structure KindO (w1:World) (t:Tr) (L:List (List UInt8)) (b:Nat) (p:bF) (W:World):Prop where
 base:Below w1.heap.size w1 W
 tree:IsTree w1 p.v t
 decl:Row 1 w1 p.da t.nodes.length p.dc (zq (zg t t.nodes.length))
 gvk:GVK w1
 obj:W.heap[p.g]?=some (.cells #[.slice p.v.na t.nodes.length p.v.nc,.slice p.v.ia t.items.length p.v.ic,.slice p.da t.nodes.length p.dc,.map (some p.mb),.slice p.oa t.nodes.length p.oc] 76 (0,0))
 pg:w1.heap.size<=p.g
 own:dA W w1.heap.size p.oa p.oc L
 len:L.length=t.nodes.length
 recs:∃n D,n<=b/\OwnS W p.mb n D/\RecD t b D
 mbl:w1.heap.size<=p.mb
theorem KindO.prog{w1 W:World}{t:Tr}{L:List (List UInt8)}{b:Nat}{p:bF}(h:KindO w1 t L b p W):KindP t L b p W:=by
 obtain⟨n,D,h0,h1,h2⟩:=h.recs;have hs:=zT h.own;unfold Strs at hs;rw[h.len]at hs;exact⟨za h.obj rfl,za h.obj rfl,za h.obj rfl,za h.obj rfl,za h.obj rfl,(Array.getElem?_eq_some_iff.1 h.obj).1,h.tree.mono h.base nlr,Row.mono h.decl h.base nlr,hs,⟨n,D,h1,h2⟩,h.gvk.mono h.base nlr⟩
theorem KindO.step{W':World}{w1 W:World}{t:Tr}{L:List (List UInt8)}{b:Nat}{p:bF}(h:KindO w1 t L b p W)(hb:Below W.heap.size W W'):KindO w1 t L b p W':=by
 obtain⟨n,D,h0,h1,h2⟩:=h.recs;exact⟨h.base.trans (hb.mono h.base.size),h.tree,h.decl,h.gvk,(hb.block p.g (Array.getElem?_eq_some_iff.1 h.obj).1).trans h.obj,h.pg,zL h.own hb,h.len,⟨n,D,h0,mI h1 hb,h2⟩,h.mbl⟩
theorem KindO.at_{w1 W:World}{t:Tr}{L:List (List UInt8)}{b:Nat}{p:bF}(h:KindO w1 t L b p W){i:Nat}(hi:i<t.nodes.length):∃o,p.oa=some ⟨o,0,none⟩/\w1.heap.size<=o/\o<W.heap.size/\o≠p.g/\o≠p.mb/\W.cell? ⟨o,i,none⟩=some (strV (L.getD i []))/\W.frozen? ⟨o,i,none⟩=false:=by
 have hl:=h.len;obtain⟨n,D,h0,h1,h2⟩:=h.recs;obtain⟨es,clock,h3,-⟩:=nG h1;obtain⟨nb,e,hB,hd,hb⟩:=JL h.own (by omega);have hg:=tP h.own h.obj (by decide);rw[e]at hg;have hg:=hg _ rfl;obtain⟨c,o,e2,hc,hv⟩:=Strs.at (zT h.own) (show i<L.length by omega);rw[e]at e2;simp only[Option.some.injEq,Addr.mk.injEq,and_true]at e2;obtain⟨rfl,rfl⟩:=e2;refine⟨nb,e,hB,hd,hg,?_,?_,hb i⟩
 .intro e3
  subst e3;rcases h.own.2 with⟨h',_⟩|⟨g2,cap,cur,h',_,ha,_⟩
  .rw[e]at h';cases h'
  .simp only[Value.slice.injEq]at h'
   obtain⟨h',-⟩:=h';rw[e]at h';simp only[Option.some.injEq,Addr.mk.injEq,and_true]at h';rw[<-h',h3]at ha;cases ha
 .rw[Nat.zero_add]at hv
  rw[hv,List.getD_eq_getElem?_getD,List.getElem?_eq_getElem (by omega),Option.getD_some]
theorem KindO.set{w1 W:World}{t:Tr}{L:List (List UInt8)}{b:Nat}{p:bF}(h:KindO w1 t L b p W){o:Nat}(e:p.oa=some ⟨o,0,none⟩)(hg:o≠p.g)(hm:o≠p.mb)(i:Nat)(x:List UInt8):KindO w1 t (L.set i x) b p (W.setCell ⟨o,i,none⟩ (strV x)):=by
 have ho:=h.own;unfold dA at ho;rw[e]at ho;have hB:=(ho.lt o rfl).1;have ha:=(ho.stored i (strV x)).1;rw[<-List.map_set]at ha;obtain⟨n,D,h0,h1,h2⟩:=h.recs;obtain⟨es,clock,h3,h4⟩:=nG h1;refine⟨h.base.setCell hB _,h.tree,h.decl,h.gvk,(zQ (Ne.symm hg)).trans h.obj,h.pg,?_,by rw[List.length_set];exact h.len,⟨n,D,h0,h4 _ ((zQ (Ne.symm hm)).trans h3),h2⟩,h.mbl⟩;unfold dA;rw[e,List.length_set];exact ha
theorem KindO.next{w1 W:World}{t:Tr}{L:List (List UInt8)}{i:Nat}{p:bF}(h:KindO w1 t L i p W)(hk:(t.nd (i:Int)).kind≠41):KindO w1 t L (i+1) p W:=by
 obtain⟨n,D,h0,h1,h2⟩:=h.recs;exact⟨h.base,h.tree,h.decl,h.gvk,h.obj,h.pg,h.own,h.len,⟨n,D,by omega,h1,h2.next hk⟩,h.mbl⟩
def fY(t:Tr)(i:Nat)(l:List (List UInt8)):Int:=
 if (t.nd (i:Int)).kind==42 then (if l.getD (l.length-1) []==l.getD (l.length-2) []then 0 else 11)
 else if (t.nd (i:Int)).kind==44 then (if l.getD 0 []==zz then 0 else 11)
 else if (t.nd (i:Int)).kind==46 then (if sZ (t.nd (i:Int)).n l then 0 else 11)
 else 0
theorem FE(w1:World)(t:Tr)(L:List (List UInt8))(p:bF)(i:Nat)(la:Option Addr)(lc:Nat)(l:List (List UInt8))(W:World)(hn3:t.nodes.length<=1000000)(hi:i<t.nodes.length)(n41:(t.nd (i:Int)).kind≠41)
 (h42:(t.nd (i:Int)).kind=42->2<=l.length)(h44:(t.nd (i:Int)).kind=44->1<=l.length)(hll:l.length<=1000000)(hl:Strs W la lc l)(hO:KindO w1 t L i p W) :
 Calls prog 69 #[.pointer (some ⟨p.g,0,none⟩),intV i,.slice la l.length lc] W fun e w'=>e=.returned (intV (fY t i l))/\KindO w1 t L (i+1) p w':=by
 have hx:prog.follows .mixedOrders=true:=by kernel_rfl
 have hP:=hO.prog;have HN:=Hd (hO.next n41);have He:=Hd hl;have c0:=hP.c0;have hu:=hP.gl;obtain⟨bn,on,ka,kc,ea,ht,m0,m1,m2,m3,m4,hg⟩:=hP.tree.nodes.at hi;rw[ea]at c0;have hh:=t.nd_at hi;have hc:fY t i l=(fun k n=>if k==42 then (if l.getD (l.length-1) []==l.getD (l.length-2) []then (0:Int)else 11)else if k==44 then (if l.getD 0 []==zz then 0 else 11)else if k==46 then (if sZ n l then 0 else 11)else 0) (t.nd (i:Int)).kind (t.nd (i:Int)).n:=rfl;rw[hh]at hc n41 h42 h44;obtain⟨D,hD⟩:∃D,t.nodes[i]=D:=⟨_,rfl⟩
 rw[hD]at m0 m1 m2 m3 m4 hg hc n41 h42 h44;obtain⟨k,tx,nn,kids,pos⟩:=D;simp only at m0 m1 m2 m3 m4 hg hc n41 h42 h44;have Hc:=Hd hc;have Ha:Hid (Below W.heap.size W (W.alloc (.cells #[.int .u8 k,strV tx,intV nn,.slice ka kids.length kc,intV pos] 31))):=Hd (brf.alloc nlr _);have g41:(k==41)=false:=by simpa using n41
 have hb:l.length<=1000000000:=by omega
 clear hP hO hc hg hD hh ea hl n41;go_enter func69,ntmps69;by_cases g42:k=42
 .subst g42
  have hn:=h42 rfl;obtain⟨m,hm⟩:∃m,l.length=m+2:=⟨l.length-2,by omega⟩
  obtain⟨bl,ol,hf,hj,he⟩:=nO He.o (show m<l.length by omega);obtain⟨bl1,ol1,ha,-,hk⟩:=nO He.o (show m+1<l.length by omega);rw[hf]at ha;simp only[Option.some.injEq,Addr.mk.injEq,and_true]at ha;obtain⟨rfl,rfl⟩:=ha;subst hf;obtain⟨k0,e0⟩:∃q,l.getD m []=q:=⟨_,rfl⟩
  obtain⟨k1,e1⟩:∃q,l.getD (m+1) []=q:=⟨_,rfl⟩
  have Hb:Hid (fY t i l=if k1==k0 then 0 else 11):=Hd (by rw[Hc.o,<-e0,<-e1,hm];rfl);rw[e0]at he;rw[e1]at hk;have hr:IntKind.i64.wrap (((m+2:Nat):Int)-1)=((m+1:Nat):Int):=by rw[IntWalk.i64_in _ (by omega)];omega
  have hs:IntKind.i64.wrap (((m+2:Nat):Int)-2)=(m:Int):=by rw[IntWalk.i64_in _ (by omega)];omega
  have ho:((m+1:Nat):Int)<((m+2:Nat):Int):=by omega
  have hp:(m:Int)<((m+2:Nat):Int):=by omega
  have hw:m<=1000000:=by omega
  rw[hm];clear h42 h44 e0 e1 hm hn hll hb hr hs
  cases q0:k1==k0 with
  | true=>
    have HR:Hid (fY t i l=0):=Hd (by rw[Hb.o,q0];rfl);go_wp2;go_region;go_wp2;go_ret;exact⟨by rw[HR.o];rfl,HN.o.step (Ha.o.trans (brf.drew.mono Ha.o.size))⟩
  | false=>
    have HR:Hid (fY t i l=11):=Hd (by rw[Hb.o,q0];rfl);go_wp2;go_region;go_wp2;go_ret;exact⟨by rw[HR.o];rfl,HN.o.step (Ha.o.trans (brf.drew.mono Ha.o.size))⟩
 have n42:(k==42)=false:=by simpa using g42
 rw[n42]at Hc;simp only[Bool.false_eq_true,if_false]at Hc;by_cases g44:k=44
 .subst g44
  have hv:=h44 rfl;obtain⟨bl,ol,hf,hj,he⟩:=nO He.o (show 0<l.length by omega);subst hf;rw[Nat.add_zero]at he;obtain⟨k0,e0⟩:∃q,l.getD 0 []=q:=⟨_,rfl⟩
  have Hb:Hid (fY t i l=if k0==zz then 0 else 11):=Hd (by rw[Hc.o,<-e0];rfl);rw[e0]at he;unfold zz at Hb;clear h42 h44 e0;cases q0:k0==[98,111,111,108]with
  | true=>
    have HR:Hid (fY t i l=0):=Hd (by rw[Hb.o,q0];rfl);go_wp2;go_ret;exact⟨by rw[HR.o];rfl,HN.o.step Ha.o⟩
  | false=>
    have HR:Hid (fY t i l=11):=Hd (by rw[Hb.o,q0];rfl);go_wp2;go_ret;exact⟨by rw[HR.o];rfl,HN.o.step Ha.o⟩
 have n44:(k==44)=false:=by simpa using g44
 rw[n44]at Hc;simp only[Bool.false_eq_true,if_false]at Hc;by_cases g46:k=46
 .subst g46
  obtain⟨q,hq⟩:∃q,sZ nn l=q:=⟨_,rfl⟩
  have Hb:Hid (fY t i l=if q then 0 else 11):=Hd (by rw[Hc.o,<-hq];rfl);have HQ:=Hd hq;clear h42 h44 hq
  cases q with
  | true=>
    go_wp2_with (go_at_call 98;refine(uF nn la lc l _ hb (Row.mono He.o Ha.o nlr)).mono ?_;rw[HQ.o];rintro e w2 ⟨rfl,hd⟩;have Hf:=Hd (Ha.o.trans (hd.mono Ha.o.size));clear hd)
    go_ret;exact⟨by rw[Hb.o];rfl,HN.o.step Hf.o⟩
  | false=>
    go_wp2_with (go_at_call 98;refine(uF nn la lc l _ hb (Row.mono He.o Ha.o nlr)).mono ?_;rw[HQ.o];rintro e w2 ⟨rfl,hd⟩;have Hf:=Hd (Ha.o.trans (hd.mono Ha.o.size));clear hd)
    go_ret;exact⟨by rw[Hb.o];rfl,HN.o.step Hf.o⟩
 have n46:(k==46)=false:=by simpa using g46
 have HR:Hid (fY t i l=0):=Hd (by rw[Hc.o,n46];rfl);clear h42 h44 g42 g44 g46;go_wp2;go_ret;exact⟨by rw[HR.o];rfl,HN.o.step Ha.o⟩
theorem KindO.put{w1 W W':World}{t:Tr}{L:List (List UInt8)}{i:Nat}{p:bF}(h:KindO w1 t L i p W)(hk:(t.nd (i:Int)).kind=41){n:Nat}{D:DataW Unit}(hn:n<=i)(hD:RecD t i D)(ho:OwnS W p.mb n D)
 (ho':OwnS W' p.mb (n+1) (D.put (.string (t.nd (i:Int)).text) (.lit (.int .i64 i))))(hg:W.grownBy W' (some p.mb)):KindO w1 t L (i+1) p W':=by
 obtain⟨es,clock,h3,-⟩:=nG ho;have hT:Turns (fun j=>j=p.mb) W W':=⟨hg.os,hg.tape,hg.output,hg.size,fun j hj hne=>hg.block j hj (by intro e;exact hne (Option.some.inj e))⟩
 have hd:p.g≠p.mb:=fun e=>by
  have:=h.obj;rw[e,h3]at this;cases this
 have ha:dA W' w1.heap.size p.oa p.oc L:=zW h.own hT (fun j hj e=>by
  obtain⟨x,hx,hb⟩:=hj;rcases h.own.2 with⟨h',_⟩|⟨g2,cap,cur,h',_,hc,_⟩
  .rw[hx]at h';cases h'
  .simp only[Value.slice.injEq]at h'
   obtain⟨h',-⟩:=h';rw[hx]at h';simp only[Option.some.injEq]at h';subst h';simp only at hb;rw[hb,e,h3]at hc
   cases hc)
 exact⟨h.base.grown hg h.base.size (fun j e=>by rw[<-Option.some.inj e];exact h.mbl),h.tree,h.decl,h.gvk,(hT.block p.g (Array.getElem?_eq_some_iff.1 h.obj).1 hd).trans h.obj,h.pg,ha,h.len,⟨n+1,_,by omega,ho',hD.put hk⟩,h.mbl⟩
def bigE(r:Int×Bool):Int:=if 8<r.1 then 5 else 0
theorem DH(w1:World)(t:Tr)(L:List (List UInt8))(p:bF)(i:Nat)(la:Option Addr)(lc:Nat)(l:List (List UInt8))(W:World)(wf:WF t)(hi:i<t.nodes.length)(k41:(t.nd (i:Int)).kind=41)
 (f:Nat)(r:Int×Bool)(hc:zU t L (i+1) f (t.nd (i:Int)).text=some r)(htx:(t.nd (i:Int)).text.length<=1000000)(hL:Short L)(hO:KindO w1 t L i p W) :
 Calls prog 69 #[.pointer (some ⟨p.g,0,none⟩),intV i,.slice la l.length lc] W fun e w'=>e=.returned (intV (bigE r))/\KindO w1 t L (i+1) p w':=by
 have hp:prog.follows .mixedOrders=true:=by kernel_rfl
 have hu:=wf.bd.n;have hP:=hO.prog;have HO:=Hd hO;have HC:=Hd hc;have HK:=Hd k41;have Hi:=Hd wf;have HL:=Hd hL;obtain⟨n,D,hn,ho,hD⟩:=hO.recs;have HN:=Hd hn;have Hl:=Hd ho;have Hj:=Hd hD;have c0:=hP.c0;have c3:=hP.c3;have hj:=hP.gl;obtain⟨bn,on,ka,kc,ea,hl,m0,m1,m2,m3,m4,hm⟩:=hP.tree.nodes.at hi;rw[ea]at c0;have hf:=t.nd_at hi;rw[hf]at k41;have Hc:Hid ((t.nd (i:Int)).text=t.nodes[i].text):=Hd (by rw[hf]);rw[hf]at htx;obtain⟨DD,hg⟩:∃D,t.nodes[i]=D:=⟨_,rfl⟩
 rw[hg]at m0 m1 m2 m3 m4 k41 Hc htx;obtain⟨k,tx,nn,kids,pos⟩:=DD;simp only at m0 m1 m2 m3 m4 k41 Hc htx;subst k41;clear hP hO hc wf hL hm hg hf ea hn ho hD;go_enter func69,ntmps69;go_wp2;obtain⟨X1,hd⟩:∃X,W.alloc (.cells #[.int .u8 41,strV tx,intV nn,.slice ka kids.length kc,intV pos] 31)=X:=⟨_,rfl⟩
 have Hg:Hid (Below W.heap.size W X1):=Hd (by rw[<-hd];exact brf.alloc nlr _);have e1:X1.cell? ⟨W.heap.size,1,none⟩=some (strV tx):=by rw[<-hd];exact za (World.alloc_heap_new _ _) rfl
 have es:W.heap.size<X1.heap.size:=by rw[<-hd];simp
 rw[hd];clear hd m0 m1 m2 m3 m4 c0 c3 hl;have He:=Hd (HO.o.step Hg.o);have c3:=He.o.prog.c3;have hj:=He.o.prog.gl;obtain⟨gN,hh⟩:∃g,W.heap.size=g:=⟨_,rfl⟩
 rw[hh]at e1 es|-;clear hh;refine N.region_JTm 7 hp (by kernel_rfl) (by kernel_rfl) rfl (by kernel_rfl) (by kernel_rfl) (fun Wz=>Below (X1).heap.size (X1) Wz) (brf.drew) ?_
 iterate 7 (refine N.WalkT.cons ?_ (N.StepP.pure rfl ?_) ?_;rotate_left;(intro W hJ;obtain⟨hr,hs⟩:=bcell hJ;go_simp;rfl);simp only[N.pz])
 refine N.WalkT.nil fun W hJ=>?_;rename World=>W5
 have HJ:=Hd hJ;have Hk:=Hd (He.o.step hJ);have Ha:=Hd (mI (mI Hl.o Hg.o) hJ);have e2:=(hJ.cell (p:=⟨gN,1,none⟩) es).trans e1;have es2:=Nat.lt_of_lt_of_le es hJ.size;clear hJ e1 es c3 hj;have ht:i<=1000000:=by omega
 try simp only[List.drop_succ_cons,List.drop_zero]
 refine wpList_mapUpdate_own _ rfl _ _ _ 74 rfl 9 3 zF fX rdV p.mb n D rfl Ha.o (by have:=HN.o;unfold maxLen;omega) _ _ (.string tx) rfl rfl (zR htx) (.lit (.int .i64 i)) [] rfl ?_;intro w7 hb ha;have Hb:=Hd (Hk.o.put HK.o HN.o Hj.o Ha.o (by rw[Hc.o];exact hb) ha)
 have hk:gN≠p.mb:=fun e=>by
  obtain⟨es0,clock,h3,-⟩:=nG Ha.o;rw[e]at e2;simp[World.cell?,h3]at e2
 have e7:w7.cell? ⟨gN,1,none⟩=some (strV tx):=(World.cell?_of_block (a:=⟨gN,1,none⟩) (ha.block gN es2 (by intro e;exact hk (Option.some.inj e)))).trans e2;have es7:gN<w7.heap.size:=Nat.lt_of_lt_of_le es2 ha.size;clear hb ha e2 es2 hk;have Hh:Hid (zU t L (i+1) f tx=some r):=Hd (by rw[<-Hc.o];exact HC.o);cases hq:decide (8<r.1)with
 | true=>
   have HQ:=Hd hq;have HR:Hid (bigE r=5):=Hd (if_pos (of_decide_eq_true hq));clear hq
   go_wp2_with (go_at_call 67;refine(kA t L (i+1) p Hi.o (by omega) HL.o f tx r Hh.o htx _ Hb.o.prog).mono ?_;rw[HQ.o];rintro e w8 ⟨rfl,he⟩;have Hf:=Hd (Hb.o.step he);clear he)
   go_ret;exact⟨by rw[HR.o];rfl,Hf.o⟩
 | false=>
   have HQ:=Hd hq;have HR:Hid (bigE r=0):=Hd (if_neg (of_decide_eq_false hq));clear hq
   go_wp2_with (go_at_call 67;refine(kA t L (i+1) p Hi.o (by omega) HL.o f tx r Hh.o htx _ Hb.o.prog).mono ?_;rw[HQ.o];rintro e w8 ⟨rfl,he⟩;have Hf:=Hd (Hb.o.step he);clear he)
   go_ret;exact⟨by rw[HR.o];rfl,Hf.o⟩
theorem vZ{t:Tr}(hc:aD t=0):t.nodes.length<=800:=by
 unfold aD at hc;split at hc
 .cases hc
 .omega
theorem uA{t:Tr}(bd:Bd t)(hr:(zb t).2.2=0){k:Nat}(hk:k<=t.nodes.length)(i:Int):(ofK (tysP t k) i).length<=12+5*800:=by
 have h8:=vZ (zt hr).check;unfold ofK;by_cases h:i.toNat<k
 .rw[FI t (by omega) h]
  have h1:=(fO bd hr i.toNat (by omega)).2.len;have h2:(typP t (tysP t i.toNat) i.toNat).length<=12+5*i.toNat:=h1;omega
 .rw[sU t (by omega)];simp
theorem mO{t:Tr}(bd:Bd t)(hr:(zb t).2.2=0){k:Nat}(hk:k<=t.nodes.length):Short (tysP t k):=fun i=>Nat.le_trans (uA bd hr hk i) (by omega)
theorem PN{t:Tr}(bd:Bd t)(hr:(zb t).2.2=0){i:Nat}(hi:i<t.nodes.length):FA t (tysP t i) i:=by
 obtain⟨wf,G⟩:=zi bd hr;have hk:=(zt hr).check;have hm:=G.many hi;have hp:=wf.bd.k;have hf:∀{d:Nat},d<t.nodes.length->(t.nd (d:Int)).kids.length<=1000000:=fun {d} hd=>by rw[t.nd_at hd];exact wf.bd.k _ (List.getElem_mem hd)
 have he:∀{d:Nat},d<t.nodes.length->∀(j:Nat) (hj:j<(t.nd (d:Int)).kids.length),∃a:Nat,(t.nd (d:Int)).kids[j]=a/\a<t.nodes.length:=fun {d} hd j hj=>by
  obtain⟨_,_,h1,h2⟩:=G.kid hd _ (List.getElem_mem hj);obtain⟨a,ha⟩:=Int.eq_ofNat_of_zero_le h2;exact⟨a,ha,by omega⟩
 refine⟨⟨fun k=>?_,fun k=>?_,fun k=>?_,fun k=>?_,fun k=>?_,fun x hx=>?_,by rw[List.length_map];exact hf hi⟩,fun k=>?_,fun k=>?_,fun k=>?_⟩
 .obtain⟨d,hd,hb,-,-,hg,-⟩:=cX bd hr hi (by rw[k];rfl)
  rw[k]at hg;have q:(t.nd (d:Int)).kind=42:=by simpa[mM]using hg
  have hc:=G.many hb;rw[q]at hc;have h2:(2:Int)<=((t.nd (d:Int)).kids.length:Int):=by simpa[zC]using hc
  obtain⟨r,hl,hn⟩:=he hb ((t.nd (d:Int)).kids.length-2) (by omega);exact⟨d,r,hd,hb,by omega,by rw[List.getElem?_eq_getElem (by omega),hl],hn⟩
 .rw[k]at hm
  have:((t.nd (i:Int)).kids.length:Int)=1:=by simpa[zC]using hm
  rw[List.length_map];omega
 .rw[k]at hm
  have:((t.nd (i:Int)).kids.length:Int)=2:=by simpa[zC]using hm
  rw[List.length_map];omega
 .obtain⟨d,hd,hb,-⟩:=cX bd hr hi (by rw[k];rfl)
  exact⟨d,hd,hb⟩
 .rw[k]at hm
  have h1:(1:Int)<=((t.nd (i:Int)).kids.length:Int):=by simpa[zC]using hm
  have ho:=Good.sizedOk hk hi;have h2:(t.nd (i:Int)).kids.length<=6:=by simp[eX,k]at ho;omega
  rw[List.length_map];omega
 .obtain⟨a,-,rfl⟩:=List.mem_map.1 hx
  exact mO bd hr (by omega) a
 .obtain⟨d,hd,hb,-⟩:=cX bd hr hi (by rw[k];rfl)
  refine⟨d,hd,hb,fun q=>?_,hf hb⟩;have hc:=G.many hb
  have h1:0<(t.nd (d:Int)).kids.length:=by
   rcases q with q|q<;>rw[q]at hc
   .have:((t.nd (d:Int)).kids.length:Int)=1:=by simpa[zC]using hc
    omega
   .have:((t.nd (d:Int)).kids.length:Int)=2:=by simpa[zC]using hc
    omega
  obtain⟨a,ha,hh⟩:=he hb 0 h1;exact⟨a,by rw[List.getElem?_eq_getElem h1,ha],hh⟩
 .rw[k]at hm
  have:((t.nd (i:Int)).kids.length:Int)=3:=by simpa[zC]using hm
  omega
 .rw[k]at hm
  have:((t.nd (i:Int)).kids.length:Int)=2:=by simpa[zC]using hm
  omega
theorem NX{t:Tr}{i:Nat}(h:40<=(t.nd (i:Int)).kind):tysP t (i+1)=tysP t i:=by
 have hx:zl (t.nd (i:Int)).kind=false:=by simp[zl];omega
 have ht:typP t (tysP t i) i=[]:=by
  have q:¬(t.nd (i:Int)).kind=30/\¬(t.nd (i:Int)).kind=31/\¬(t.nd (i:Int)).kind=32/\¬(t.nd (i:Int)).kind=33/\¬(t.nd (i:Int)).kind=25/\¬(t.nd (i:Int)).kind=34:=by omega
  unfold typP;simp[hx,q]
 rw[tysP,ht];refine List.ext_getElem (by simp) fun j h1 h2=>?_;rw[List.getElem_set];split
 .rename_i e
  subst e;have:=sU t (Nat.le_refl i);rw[List.getD_eq_getElem?_getD,List.getElem?_eq_getElem h2,Option.getD_some]at this;exact this.symm
 .rfl
theorem bN(k:Int)(w:World)(h1:1<=k):Calls prog 39 #[.int .u8 k] w fun e w'=>e=.returned (.bool (zl k))/\w=w':=by
 by_cases h2:k<=26
 .by_cases h3:k=25
  .subst h3
   go_enter func39,ntmps39;go_wp2;go_ret;exact⟨rfl,rfl⟩
  .have h4:(k != 25)=true:=by simpa using h3
   have HR:Hid (zl k=true):=Hd (by simp[zl];omega);clear h1;go_enter func39,ntmps39;go_wp2;go_ret;exact⟨by rw[HR.o];rfl,rfl⟩
 .have HR:Hid (zl k=false):=Hd (by simp[zl];omega)
  have h5:decide (k<=26)=false:=by simpa using h2
  clear h1;go_enter func39,ntmps39;go_wp2;go_ret;exact⟨by rw[HR.o];rfl,rfl⟩
theorem xH(w1:World)(t:Tr)(L:List (List UInt8))(p:bF)(i:Nat)(x:List UInt8)(err:Int)(W:World)(wf:WF t)(hi:i<t.nodes.length)(hx:zl (t.nd (i:Int)).kind=true)(hE:FA t L i)
 (hr:aJ t L i i=x)(hxl:x.length<=1000000)(hL:Short (L.set i x))
 (herr:(x=[]/\err=11)\/(x≠[]/\(t.nd (i:Int)).kind=26/\∃f r,zU t (L.set i x) i f x=some r/\err=bigE r)\/(x≠[]/\(t.nd (i:Int)).kind≠26/\err=0))(hO:KindO w1 t L i p W) :
 Calls prog 45 #[.pointer (some ⟨p.g,0,none⟩),intV i] W fun e w'=>e=.returned (intV err)/\KindO w1 t (L.set i x) (i+1) p w':=by
 have hK:prog.follows .mixedOrders=true:=by kernel_rfl
 have hM:=wf.bd.n;have hP:=hO.prog;have HO:=Hd hO;have Ho:=Hd wf;have HL:=Hd hL;have HE:=Hd hE;have Hu:=Hd hr;have HX:=Hd hx;have Hc:=Hd herr;have c0:=hP.c0;have hg:=hP.gl;obtain⟨bn,on,ka,kc,ea,hH,m0,m1,m2,m3,m4,hj⟩:=hP.tree.nodes.at hi;rw[ea]at c0;have hz:=t.nd_at hi;have hh:=wf.kid i hi;have hn:=wf.bd.k _ (List.getElem_mem hi);rw[hz]at Hc HX;obtain⟨DD,ht⟩:∃D,t.nodes[i]=D:=⟨_,rfl⟩
 rw[ht]at m0 m1 m2 m3 m4 hj hh hn Hc HX;obtain⟨k,tx,nn,kids,pos⟩:=DD;simp only at m0 m1 m2 m3 m4 hj hh hn Hc HX;have hy:1<=k:=by have:=HX.o;simp[zl]at this;omega
 have Hr:=Hd hy;have Hk:=Hd hj;have Hs:Hid (∀x∈kids,0<=x/\x<(t.nodes.length:Int)):=Hd fun x hx=>by have:=hh x hx;omega
 have Hg:Hid ((t.nd (i:Int)).kind≠41):=Hd (by intro e;rw[e]at hx;cases hx);have Hb:Hid (Below W.heap.size W (W.alloc (.cells #[.int .u8 k,strV tx,intV nn,.slice ka kids.length kc,intV pos] 31))):=Hd (brf.alloc nlr _);have Hn:=Hd (hP.step Hb.o);clear hP hO wf hj ht hz hh ea hE hr hx herr hL hy;go_enter func45,ntmps45
 go_upto_region 3 with(go_at_call 31;refine(dH t L i p ka kc kids _ Hn.o (Row.mono Hk.o Hb.o nlr) hn hM Hs.o).mono ?_;rintro e w6 ⟨a6,c6,rfl,-,hf⟩;have Hp:=Hd (Hb.o.trans (hf.mono Hb.o.size));have n0:=(hf.cell (p:=⟨W.heap.size,0,none⟩) (by simp)).trans (show _=some (.int .u8 k)from by simp);have ng:W.heap.size<w6.heap.size:=Nat.lt_of_lt_of_le (by simp) hf.size;clear hf)
 clear m0 m1 m2 m3 m4 c0 hg hH
 have Hm:Hid (∀o,p.oa=some ⟨o,0,none⟩->o<W.heap.size):=Hd fun o e=>by
  obtain⟨o',e',-,h,-⟩:=HO.o.at_ hi;rw[e]at e';simp only[Option.some.injEq,Addr.mk.injEq,and_true]at e';rw[e'];exact h
 obtain⟨gN,hw⟩:∃g,W.heap.size=g:=⟨_,rfl⟩
 have Hq:Hid (Below W.heap.size W w6):=Hp;rw[hw]at n0 ng Hm|-;clear hw Hb Hn Hk;have Ha:=Hd (HO.o.step Hq.o);obtain⟨o,eo,hQ,hm,hC,hD,hA,hB⟩:=Ha.o.at_ hi;have c4:=Ha.o.prog.c4;have hg:=Ha.o.prog.gl;rw[eo]at c4
 go_upto_region 4 with(go_at_call 39;refine(bN k _ Hr.o).mono ?_;rw[HX.o];rintro e w' ⟨rfl,rfl⟩)
 have HG:=Hd (show gN<w6.heap.size from ng);have N0:=Hd n0;refine N.region_JTm 9 hK (by kernel_rfl) (by kernel_rfl) rfl (by kernel_rfl) (by kernel_rfl) (fun Wz=>Below (w6).heap.size (w6) Wz) (brf.drew) ?_
 iterate 7 (refine N.WalkT.cons ?_ (N.StepP.pure rfl ?_) ?_;rotate_left;(intro W hJ;obtain⟨hu,hv⟩:=bcell hJ;go_simp;rfl);simp only[N.pz])
 refine N.WalkT.cons (strV x) (N.StepP.call (f:=66) (args:=#[.pointer (some ⟨p.g,0,none⟩),intV i]) rfl ?hG1_7 ?cG1_7) ?rG1_7;case hG1_7=>intro W hJ;obtain⟨hu,hv⟩:=bcell hJ;go_simp;try rfl
 case cG1_7=>intro W hJ;(refine(FF t L i p i W Ho.o hi (by omega) HE.o ((Ha.o.step hJ).prog)).mono ?_;rw[Hu.o];rintro e w' ⟨rfl,hG⟩;exact⟨rfl,hJ.trans (hG.mono hJ.size)⟩)
 simp only[N.pz];refine N.WalkT.cons ?_ (N.StepP.pure rfl ?_) ?_;rotate_left;(intro W hJ;obtain⟨hu,hv⟩:=bcell hJ;go_simp;rfl);simp only[N.pz];refine N.WalkT.nil fun W hJ=>?_;rename World=>W5
 have Ht:=Hd (Ha.o.step hJ);have n0':=(hJ.cell (p:=⟨gN,0,none⟩) ng).trans n0;have ng':=Nat.lt_of_lt_of_le ng hJ.size;have ho:=(hJ.cell (p:=⟨o,i,none⟩) hm).trans hA;have hp:=(hJ.frozen (p:=⟨o,i,none⟩) hm).trans hB;have hs:=Nat.lt_of_lt_of_le hm hJ.size;clear hJ n0 ng hA hB hm c4 hg
 go_upto_region 5 with fail
 obtain⟨X8,hd⟩:∃X,W5.setCell ⟨o,i,none⟩ (strV x)=X:=⟨_,rfl⟩
 have Hi:=Hd (Ht.o.set eo hC hD i x)
 have n8:X8.cell? ⟨gN,0,none⟩=some (.int .u8 k):=by
  rw[<-hd]
  have hN:gN≠o:=fun e=>by
   have:=Hm.o o eo;omega
  exact(World.cell?_of_block (a:=⟨gN,0,none⟩) (zQ hN)).trans n0'
 have g8:gN<X8.heap.size:=by rw[<-hd];simpa using ng'
 rw[hd]at Hi|-;clear hd n0' ng' ho hp hs eo hC hD hQ;have Hf:=Hd Hi.o.prog;have He:=Hd (Hi.o.next Hg.o);have c4:=Hf.o.c4;have hg:=Hf.o.gl;obtain⟨co,oo,eoa,hT,hI⟩:=Hf.o.ofAt hi;rw[eoa]at c4
 have hF:ofK (L.set i x) (i:Int)=x:=by
  have hl:=Ha.o.len;unfold ofK;rw[Int.toNat_natCast,List.getD_eq_getElem?_getD,List.getElem?_set_self (by omega)];rfl
 rw[hF]at hI;clear eoa hF;rcases Hc.o with⟨hS,he⟩|⟨hb,hk,f,r,hc,he⟩|⟨hb,hk,he⟩
 .subst hS he
  go_wp2;go_ret;exact⟨rfl,He.o⟩
 .have hR:(x==[])=false:=by simpa using hb
  subst hk;have HC:=Hd hc;have Hl:=Hd (kA t (L.set i x) i p Ho.o (by omega) HL.o f x r hc hxl X8 Hf.o);have Hj:=Hd he;clear hb hc he;cases hq:decide (8<r.1)with
  | true=>
    have HQ:=Hd hq;have HR:Hid (err=5):=Hd (by rw[Hj.o];exact if_pos (of_decide_eq_true hq));clear hq
    go_wp2_with (go_at_call 67;refine Hl.o.mono ?_;rw[HQ.o];rintro e w8 ⟨rfl,ha⟩;have Hh:=Hd (He.o.step ha);clear ha)
    go_ret;exact⟨by rw[HR.o];rfl,Hh.o⟩
  | false=>
    have HQ:=Hd hq;have HR:Hid (err=0):=Hd (by rw[Hj.o];exact if_neg (of_decide_eq_false hq));clear hq
    go_wp2_with (go_at_call 67;refine Hl.o.mono ?_;rw[HQ.o];rintro e w8 ⟨rfl,ha⟩;have Hh:=Hd (He.o.step ha);clear ha)
    go_ret;exact⟨by rw[HR.o];rfl,Hh.o⟩
 .have hR:(x==[])=false:=by simpa using hb
  have hU:(k==26)=false:=by simpa using hk
  subst he;clear hb hk;go_wp2;go_ret;exact⟨rfl,He.o⟩
theorem xI(w1:World)(t:Tr)(L:List (List UInt8))(p:bF)(i:Nat)(err:Int)(W:World)(wf:WF t)(hi:i<t.nodes.length)(hk:40<=(t.nd (i:Int)).kind)
 (hcall:∀(W':World) (la:Option Addr) (lc:Nat),KindO w1 t L i p W'->Strs W' la lc ((t.nd (i:Int)).kids.map (ofK L)) ->
  Calls prog 69 #[.pointer (some ⟨p.g,0,none⟩),intV i,.slice la ((t.nd (i:Int)).kids.map (ofK L)).length lc] W' fun e w'=>e=.returned (intV err)/\KindO w1 t L (i+1) p w')(hO:KindO w1 t L i p W) :
 Calls prog 45 #[.pointer (some ⟨p.g,0,none⟩),intV i] W fun e w'=>e=.returned (intV err)/\KindO w1 t L (i+1) p w':=by
 have ho:prog.follows .mixedOrders=true:=by kernel_rfl
 have hj:=wf.bd.n;have hP:=hO.prog;have HO:=Hd hO;have Ha:=Hd hcall;have c0:=hP.c0;have hn:=hP.gl;obtain⟨bn,on,ka,kc,ea,hm,m0,m1,m2,m3,m4,hc⟩:=hP.tree.nodes.at hi;rw[ea]at c0;have hf:=t.nd_at hi;have hb:=wf.kid i hi;have hd:=wf.bd.k _ (List.getElem_mem hi);rw[hf]at Ha hk;obtain⟨DD,he⟩:∃D,t.nodes[i]=D:=⟨_,rfl⟩
 rw[he]at m0 m1 m2 m3 m4 hc hb hd Ha hk;obtain⟨k,tx,nn,kids,pos⟩:=DD;simp only at m0 m1 m2 m3 m4 hc hb hd Ha hk;obtain⟨l,hl⟩:∃l,kids.map (ofK L)=l:=⟨_,rfl⟩
 rw[hl]at Ha;have HL:=Hd hl;have HX:Hid (zl k=false):=Hd (by simp[zl];omega);have Hg:=Hd hc;have Hf:Hid (∀x∈kids,0<=x/\x<(t.nodes.length:Int)):=Hd fun x hx=>by have:=hb x hx;omega
 have Hb:Hid (Below W.heap.size W (W.alloc (.cells #[.int .u8 k,strV tx,intV nn,.slice ka kids.length kc,intV pos] 31))):=Hd (brf.alloc nlr _);have Hi:=Hd (hP.step Hb.o);have He:Hid (1<=k):=Hd (by omega);have g30:(k==30)=false:=by simp;omega
 have g31:(k==31)=false:=by simp;omega
 have g32:(k==32)=false:=by simp;omega
 have g25:(k==25)=false:=by simp;omega
 have g34:(k==34)=false:=by simp;omega
 have g33:(k==33)=false:=by simp;omega
 clear hP hO wf hc he hf hb ea hcall hl hk;go_enter func45,ntmps45
 go_wp2_with (first
  | (go_at_call 69;refine(Ha.o w6 a6 c6 (HO.o.step Hc.o) Hj.o).mono ?_;rintro e w9 ⟨rfl,hh⟩;have Hh:=Hd hh;clear hh)
  | (go_at_call 39;refine(bN k _ He.o).mono ?_;rw[HX.o];rintro e w' ⟨rfl,rfl⟩)
  | (go_at_call 31;refine(dH t L i p ka kc kids _ Hi.o (Row.mono Hg.o Hb.o nlr) hd hj Hf.o).mono ?_;rw[HL.o];rintro e w6 ⟨a6,c6,rfl,hg,ha⟩;have Hc:=Hd (Hb.o.trans (ha.mono Hb.o.size));have Hj:=Hd (zT hg);have n0:=(ha.cell (p:=⟨W.heap.size,0,none⟩) (by simp)).trans (show _=some (.int .u8 k)from by simp);have ng:W.heap.size<w6.heap.size:=Nat.lt_of_lt_of_le (by simp) ha.size;clear ha hg))
 go_ret;exact⟨rfl,Hh.o⟩
theorem xK(w1:World)(t:Tr)(L:List (List UInt8))(p:bF)(i:Nat)(x:List UInt8)(err:Int)(W:World)(wf:WF t)(hi:i<t.nodes.length)(hk:((t.nd (i:Int)).kind=30/\x=intT)\/((t.nd (i:Int)).kind=31/\x=zz)\/((t.nd (i:Int)).kind=32/\x=(t.nd (i:Int)).text))
 (hcall:∀(W':World) (la:Option Addr) (lc:Nat),KindO w1 t (L.set i x) i p W'->Strs W' la lc ((t.nd (i:Int)).kids.map (ofK L)) ->
  Calls prog 69 #[.pointer (some ⟨p.g,0,none⟩),intV i,.slice la ((t.nd (i:Int)).kids.map (ofK L)).length lc] W' fun e w'=>e=.returned (intV err)/\KindO w1 t (L.set i x) (i+1) p w')(hO:KindO w1 t L i p W) :
 Calls prog 45 #[.pointer (some ⟨p.g,0,none⟩),intV i] W fun e w'=>e=.returned (intV err)/\KindO w1 t (L.set i x) (i+1) p w':=by
 have hu:prog.follows .mixedOrders=true:=by kernel_rfl
 have hr:=wf.bd.n;have hP:=hO.prog;have HO:=Hd hO;have Ha:=Hd hcall;have c0:=hP.c0;have ho:=hP.gl;obtain⟨bn,on,ka,kc,ea,hq,m0,m1,m2,m3,m4,he⟩:=hP.tree.nodes.at hi;rw[ea]at c0;have hp:=t.nd_at hi;have hd:=wf.kid i hi;have hf:=wf.bd.k _ (List.getElem_mem hi);rw[hp]at Ha hk;obtain⟨DD,hn⟩:∃D,t.nodes[i]=D:=⟨_,rfl⟩
 rw[hn]at m0 m1 m2 m3 m4 he hd hf Ha hk;obtain⟨k,tx,nn,kids,pos⟩:=DD;simp only at m0 m1 m2 m3 m4 he hd hf Ha hk;obtain⟨l,hl⟩:∃l,kids.map (ofK L)=l:=⟨_,rfl⟩
 rw[hl]at Ha;have HL:=Hd hl;have HX:Hid (zl k=false):=Hd (by rcases hk with⟨rfl,_⟩|⟨rfl,_⟩|⟨rfl,_⟩<;>rfl);have Hm:=Hd he;have Hl:Hid (∀x∈kids,0<=x/\x<(t.nodes.length:Int)):=Hd fun x hx=>by have:=hd x hx;omega
 have Hf:Hid (Below W.heap.size W (W.alloc (.cells #[.int .u8 k,strV tx,intV nn,.slice ka kids.length kc,intV pos] 31))):=Hd (brf.alloc nlr _);have Hn:=Hd (hP.step Hf.o);have Hi:Hid (1<=k):=Hd (by rcases hk with⟨rfl,_⟩|⟨rfl,_⟩|⟨rfl,_⟩<;>decide);clear hP hO wf he hn hp hd ea hcall hl;go_enter func45,ntmps45
 go_upto_region 3 with(go_at_call 31;refine(dH t L i p ka kc kids _ Hn.o (Row.mono Hm.o Hf.o nlr) hf hr Hl.o).mono ?_;rw[HL.o];rintro e w6 ⟨a6,c6,rfl,hg,hc⟩;have Hk:=Hd (Hf.o.trans (hc.mono Hf.o.size));have Hp:=Hd (zT hg);have He:=Hd hg;have n0:=(hc.cell (p:=⟨W.heap.size,0,none⟩) (by simp)).trans (show _=some (.int .u8 k)from by simp);have n1:=(hc.cell (p:=⟨W.heap.size,1,none⟩) (by simp)).trans (show _=some (strV tx)from by simp);have ng:W.heap.size<w6.heap.size:=Nat.lt_of_lt_of_le (by simp) hc.size;clear hc hg)
 clear m0 m1 m2 m3 m4 c0 ho hq;have Hb:=Hd (HO.o.step Hk.o);obtain⟨o,eo,hs,hz,hh,hm,hv,hw⟩:=Hb.o.at_ hi;have c4:=Hb.o.prog.c4;have ho:=Hb.o.prog.gl;rw[eo]at c4
 have ht:o<W.heap.size:=by
  obtain⟨o',e',-,h,-⟩:=HO.o.at_ hi;rw[eo]at e';simp only[Option.some.injEq,Addr.mk.injEq,and_true]at e';rw[e'];exact h
 have Hg:=Hd (Hb.o.set eo hh hm i x);have Ho:Hid (∀(a:Addr) (v:Value),(w6.setCell ⟨o,i,none⟩ v).heap.size=w6.heap.size):=Hd (by intro a v;simp)
 have Hh:Hid (Strs (w6.setCell ⟨o,i,none⟩ (strV x)) a6 c6 l):=Hd (zT (zW He.o (M:=fun j=>j=o) ⟨rfl,rfl,rfl,by simp,fun j _ hj=>zQ hj⟩ (fun j hj e=>by
  obtain⟨y,hy,hb⟩:=hj;subst hy;have:=(He.o.lt y.block rfl).1;simp only[World.size_alloc]at this
  omega)))
 have Hj:Hid (KindO w1 t (L.set i x) i p (w6.drew.setCell ⟨o,i,none⟩ (strV x))/\Strs (w6.drew.setCell ⟨o,i,none⟩ (strV x)) a6 c6 l):=Hd ⟨(Hb.o.step brf.drew).set eo hh hm i x,Row.mono (Row.mono (zT He.o) brf.drew nlr |> fun h=>h) (brf) nlr |> fun _=>by
  have h1:dA w6.drew _ a6 c6 l:=zL He.o brf.drew
  exact zT (zW h1 (M:=fun j=>j=o) ⟨rfl,rfl,rfl,by simp,fun j _ hj=>zQ hj⟩ (fun j hj e=>by
   obtain⟨y,hy,hb⟩:=hj;subst hy;have:=(He.o.lt y.block rfl).1;simp only[World.size_alloc]at this
   omega))⟩
 clear ht hh hm hs eo;rcases hk with⟨rfl,rfl⟩|⟨rfl,rfl⟩|⟨rfl,rfl⟩
 .unfold intT at Hg Hh
  go_wp2_with (first
   | (go_at_call 69;refine(Ha.o _ a6 c6 Hg.o Hh.o).mono ?_;rintro e w9 ⟨rfl,ha⟩;have Hc:=Hd ha;clear ha)
   | (go_at_call 39;refine(bN 30 _ Hi.o).mono ?_;rw[HX.o];rintro e w' ⟨rfl,rfl⟩))
  go_ret;exact⟨rfl,Hc.o⟩
 .unfold zz at Hg Hh
  go_wp2_with (first
   | (go_at_call 69;refine(Ha.o _ a6 c6 Hg.o Hh.o).mono ?_;rintro e w9 ⟨rfl,ha⟩;have Hc:=Hd ha;clear ha)
   | (go_at_call 39;refine(bN 31 _ Hi.o).mono ?_;rw[HX.o];rintro e w' ⟨rfl,rfl⟩))
  go_ret;exact⟨rfl,Hc.o⟩
 .go_wp2_with (go_at_call 39;refine(bN 32 _ Hi.o).mono ?_;rw[HX.o];rintro e w' ⟨rfl,rfl⟩)
  go_region
  go_wp2_with (go_at_call 69;refine(Ha.o _ a6 c6 Hj.o.1 Hj.o.2).mono ?_;rintro e w9 ⟨rfl,ha⟩;have Hc:=Hd ha;clear ha)
  go_ret;exact⟨rfl,Hc.o⟩
theorem oT(w1:World)(t:Tr)(L:List (List UInt8))(p:bF)(i:Nat)(x:List UInt8)(err:Int)(W:World)(wf:WF t)(hi:i<t.nodes.length)(hk:(t.nd (i:Int)).kind=25\/(t.nd (i:Int)).kind=34)(hlx:1<=(t.nd (i:Int)).kids.length)(hxe:((t.nd (i:Int)).kids.map (ofK L)).getD 0 []=x)
 (hcall:∀(W':World) (la:Option Addr) (lc:Nat),KindO w1 t (L.set i x) i p W'->Strs W' la lc ((t.nd (i:Int)).kids.map (ofK L)) ->
  Calls prog 69 #[.pointer (some ⟨p.g,0,none⟩),intV i,.slice la ((t.nd (i:Int)).kids.map (ofK L)).length lc] W' fun e w'=>e=.returned (intV err)/\KindO w1 t (L.set i x) (i+1) p w')(hO:KindO w1 t L i p W) :
 Calls prog 45 #[.pointer (some ⟨p.g,0,none⟩),intV i] W fun e w'=>e=.returned (intV err)/\KindO w1 t (L.set i x) (i+1) p w':=by
 have hB:prog.follows .mixedOrders=true:=by kernel_rfl
 have ht:=wf.bd.n;have hP:=hO.prog;have HO:=Hd hO;have Ha:=Hd hcall;have c0:=hP.c0;have ho:=hP.gl;obtain⟨bn,on,ka,kc,ea,hq,m0,m1,m2,m3,m4,he⟩:=hP.tree.nodes.at hi;rw[ea]at c0;have hp:=t.nd_at hi;have hd:=wf.kid i hi;have hf:=wf.bd.k _ (List.getElem_mem hi);rw[hp]at Ha hk hlx hxe;obtain⟨DD,hn⟩:∃D,t.nodes[i]=D:=⟨_,rfl⟩
 rw[hn]at m0 m1 m2 m3 m4 he hd hf Ha hk hlx hxe;obtain⟨k,tx,nn,kids,pos⟩:=DD;simp only at m0 m1 m2 m3 m4 he hd hf Ha hk hlx hxe;obtain⟨l,hl⟩:∃l,kids.map (ofK L)=l:=⟨_,rfl⟩
 have hA:1<=l.length:=by rw[<-hl];simpa using hlx
 rw[hl]at Ha hxe;have HL:=Hd hl;have HX:Hid (zl k=false):=Hd (by rcases hk with rfl|rfl<;>rfl);have Hk:=Hd he;have Hj:Hid (∀x∈kids,0<=x/\x<(t.nodes.length:Int)):=Hd fun x hx=>by have:=hd x hx;omega
 have He:Hid (Below W.heap.size W (W.alloc (.cells #[.int .u8 k,strV tx,intV nn,.slice ka kids.length kc,intV pos] 31))):=Hd (brf.alloc nlr _);have Hl:=Hd (hP.step He.o);have Hh:Hid (1<=k):=Hd (by rcases hk with rfl|rfl<;>decide);clear hP hO wf he hn hp hd ea hcall hl;go_enter func45,ntmps45
 go_upto_region 3 with(go_at_call 31;refine(dH t L i p ka kc kids _ Hl.o (Row.mono Hk.o He.o nlr) hf ht Hj.o).mono ?_;rw[HL.o];rintro e w6 ⟨a6,c6,rfl,hg,ha⟩;have Hi:=Hd (He.o.trans (ha.mono He.o.size));have Hm:=Hd (zT hg);have Hc:=Hd hg;have n0:=(ha.cell (p:=⟨W.heap.size,0,none⟩) (by simp)).trans (show _=some (.int .u8 k)from by simp);have n1:=(ha.cell (p:=⟨W.heap.size,1,none⟩) (by simp)).trans (show _=some (strV tx)from by simp);have ng:W.heap.size<w6.heap.size:=Nat.lt_of_lt_of_le (by simp) ha.size;clear ha hg)
 clear m0 m1 m2 m3 m4 c0 ho hq;have Hb:=Hd (HO.o.step Hi.o);obtain⟨o,eo,hu,hE,hh,hm,hC,hD⟩:=Hb.o.at_ hi;have c4:=Hb.o.prog.c4;have ho:=Hb.o.prog.gl;rw[eo]at c4
 have hv:o<W.heap.size:=by
  obtain⟨o',e',-,h,-⟩:=HO.o.at_ hi;rw[eo]at e';simp only[Option.some.injEq,Addr.mk.injEq,and_true]at e';rw[e'];exact h
 have Ho:=Hd (Hb.o.set eo hh hm i x);have Hn:Hid (∀(a:Addr) (v:Value),(w6.setCell ⟨o,i,none⟩ v).heap.size=w6.heap.size):=Hd (by intro a v;simp)
 have Hp:Hid (Strs (w6.setCell ⟨o,i,none⟩ (strV x)) a6 c6 l):=Hd (zT (zW Hc.o (M:=fun j=>j=o) ⟨rfl,rfl,rfl,by simp,fun j _ hj=>zQ hj⟩ (fun j hj e=>by
  obtain⟨y,hy,hb⟩:=hj;subst hy;have:=(Hc.o.lt y.block rfl).1;simp only[World.size_alloc]at this
  omega)))
 have Hf:Hid (KindO w1 t (L.set i x) i p (w6.drew.setCell ⟨o,i,none⟩ (strV x))/\Strs (w6.drew.setCell ⟨o,i,none⟩ (strV x)) a6 c6 l):=Hd ⟨(Hb.o.step brf.drew).set eo hh hm i x,Row.mono (Row.mono (zT Hc.o) brf.drew nlr |> fun h=>h) (brf) nlr |> fun _=>by
  have h1:dA w6.drew _ a6 c6 l:=zL Hc.o brf.drew
  exact zT (zW h1 (M:=fun j=>j=o) ⟨rfl,rfl,rfl,by simp,fun j _ hj=>zQ hj⟩ (fun j hj e=>by
   obtain⟨y,hy,hb⟩:=hj;subst hy;have:=(Hc.o.lt y.block rfl).1;simp only[World.size_alloc]at this
   omega))⟩
 clear hv hh hm hu eo;obtain⟨bl,ol,hs,hw,hr⟩:=nO Hm.o (show 0<l.length by omega);rw[Nat.add_zero,hxe]at hr;subst hs;have hz:0<l.length:=by omega
 clear hxe hlx;rcases hk with rfl|rfl
 .go_wp2_with (go_at_call 39;refine(bN 25 _ Hh.o).mono ?_;rw[HX.o];rintro e w' ⟨rfl,rfl⟩)
  go_region
  go_wp2_with (go_at_call 69;refine(Ha.o _ (some ⟨bl,ol,none⟩) c6 Hf.o.1 Hf.o.2).mono ?_;rintro e w9 ⟨rfl,hc⟩;have Hg:=Hd hc;clear hc)
  go_ret;exact⟨rfl,Hg.o⟩
 .go_wp2_with (go_at_call 39;refine(bN 34 _ Hh.o).mono ?_;rw[HX.o];rintro e w' ⟨rfl,rfl⟩)
  go_region
  go_wp2_with (go_at_call 69;refine(Ha.o _ (some ⟨bl,ol,none⟩) c6 Hf.o.1 Hf.o.2).mono ?_;rintro e w9 ⟨rfl,hc⟩;have Hg:=Hd hc;clear hc)
  go_ret;exact⟨rfl,Hg.o⟩
theorem xJ(w1:World)(t:Tr)(L:List (List UInt8))(p:bF)(i m:Nat)(x y:List UInt8)(f:Nat)(r:Int×Bool)(W:World)(wf:WF t)(hi:i<t.nodes.length)(hk:(t.nd (i:Int)).kind=33)(hnm:(t.nd (i:Int)).n=(m:Int))(hm10:m<10)(hlx:1<=(t.nd (i:Int)).kids.length)(hxe:((t.nd (i:Int)).kids.map (ofK L)).getD 0 []=y)(hyl:y.length<=900000)(hxy:bC y m=x)(hxl:x.length<=1000000)(hSh:Short (L.set i x))(hcc:zU t (L.set i x) i f x=some r)
 (hcall:∀(W':World) (la:Option Addr) (lc:Nat),KindO w1 t (L.set i x) i p W'->Strs W' la lc ((t.nd (i:Int)).kids.map (ofK L)) ->
  Calls prog 69 #[.pointer (some ⟨p.g,0,none⟩),intV i,.slice la ((t.nd (i:Int)).kids.map (ofK L)).length lc] W' fun e w'=>e=.returned (intV 0)/\KindO w1 t (L.set i x) (i+1) p w')(hO:KindO w1 t L i p W) :
 Calls prog 45 #[.pointer (some ⟨p.g,0,none⟩),intV i] W fun e w'=>e=.returned (intV (bigE r))/\KindO w1 t (L.set i x) (i+1) p w':=by
 have hL:prog.follows .mixedOrders=true:=by kernel_rfl
 have hM:=wf.bd.n;have hP:=hO.prog;have HO:=Hd hO;have Hc:=Hd hcall;have c0:=hP.c0;have hd:=hP.gl;obtain⟨bn,on,ka,kc,ea,hH,m0,m1,m2,m3,m4,hf⟩:=hP.tree.nodes.at hi;rw[ea]at c0;have hA:=t.nd_at hi;have he:=wf.kid i hi;have hn:=wf.bd.k _ (List.getElem_mem hi);have Hh:Hid ((t.nd (i:Int)).kind≠41):=Hd (by rw[hk];decide);have Hy:=Hd wf;have Hw:=Hd hSh;have Hl:=Hd hcc;rw[hA]at Hc hk hlx hxe hnm;obtain⟨DD,ht⟩:∃D,t.nodes[i]=D:=⟨_,rfl⟩
 rw[ht]at m0 m1 m2 m3 m4 hf he hn Hc hk hlx hxe hnm;obtain⟨k,tx,nn,kids,pos⟩:=DD;simp only at m0 m1 m2 m3 m4 hf he hn Hc hk hlx hxe hnm;subst hk hnm;obtain⟨l,hl⟩:∃l,kids.map (ofK L)=l:=⟨_,rfl⟩
 have hS:1<=l.length:=by rw[<-hl];simpa using hlx
 rw[hl]at Hc hxe;have HL:=Hd hl;have HX:Hid (zl 33=false):=Hd (by rfl);have Ho:=Hd hf;have Hn:Hid (∀x∈kids,0<=x/\x<(t.nodes.length:Int)):=Hd fun x hx=>by have:=he x hx;omega
 have He:Hid (Below W.heap.size W (W.alloc (.cells #[.int .u8 33,strV tx,intV m,.slice ka kids.length kc,intV pos] 31))):=Hd (brf.alloc nlr _);have Hu:=Hd (hP.step He.o);have Hm:Hid ((1:Int)<=33):=Hd (by decide);clear hP hO wf hf ht hA he ea hcall hl hSh hcc;go_enter func45,ntmps45
 go_upto_region 3 with(go_at_call 31;refine(dH t L i p ka kc kids _ Hu.o (Row.mono Ho.o He.o nlr) hn hM Hn.o).mono ?_;rw[HL.o];rintro e w6 ⟨a6,c6,rfl,ho,hc⟩;have Hk:=Hd (He.o.trans (hc.mono He.o.size));have Hv:=Hd (zT ho);have Hb:=Hd ho;have n0:=(hc.cell (p:=⟨W.heap.size,0,none⟩) (by simp)).trans (show _=some (.int .u8 33)from by simp);have n2:=(hc.cell (p:=⟨W.heap.size,2,none⟩) (by simp)).trans (show _=some (intV m)from by simp);have ng:W.heap.size<w6.heap.size:=Nat.lt_of_lt_of_le (by simp) hc.size;clear hc ho)
 clear m0 m1 m2 m3 m4 c0 hd hH;have Ha:=Hd (HO.o.step Hk.o);obtain⟨o,eo,hN,hh,hg,hm,hD,hE⟩:=Ha.o.at_ hi;have c4:=Ha.o.prog.c4;have hd:=Ha.o.prog.gl;rw[eo]at c4
 have hC:o<W.heap.size:=by
  obtain⟨o',e',-,h,-⟩:=HO.o.at_ hi;rw[eo]at e';simp only[Option.some.injEq,Addr.mk.injEq,and_true]at e';rw[e'];exact h
 have HD:=Hd (Ha.o.set eo hg hm i x);have HC:Hid (∀(a:Addr) (v:Value),(w6.setCell ⟨o,i,none⟩ v).heap.size=w6.heap.size):=Hd (by intro a v;simp)
 have HE:Hid (Strs (w6.setCell ⟨o,i,none⟩ (strV x)) a6 c6 l):=Hd (zT (zW Hb.o (M:=fun j=>j=o) ⟨rfl,rfl,rfl,by simp,fun j _ hj=>zQ hj⟩ (fun j hj e=>by
  obtain⟨y,hy,hb⟩:=hj;subst hy;have:=(Hb.o.lt y.block rfl).1;simp only[World.size_alloc]at this
  omega)))
 have HB:Hid (KindO w1 t (L.set i x) i p (w6.drew.setCell ⟨o,i,none⟩ (strV x))/\Strs (w6.drew.setCell ⟨o,i,none⟩ (strV x)) a6 c6 l):=Hd ⟨(Ha.o.step brf.drew).set eo hg hm i x,Row.mono (Row.mono (zT Hb.o) brf.drew nlr |> fun h=>h) (brf) nlr |> fun _=>by
  have h1:dA w6.drew _ a6 c6 l:=zL Hb.o brf.drew
  exact zT (zW h1 (M:=fun j=>j=o) ⟨rfl,rfl,rfl,by simp,fun j _ hj=>zQ hj⟩ (fun j hj e=>by
   obtain⟨y,hy,hb⟩:=hj;subst hy;have:=(Hb.o.lt y.block rfl).1;simp only[World.size_alloc]at this
   omega))⟩
 have Hs:=Hd hC;clear hC hN;obtain⟨bl,ol,hK,hG,hv⟩:=nO Hv.o (show 0<l.length by omega);rw[Nat.add_zero,hxe]at hv;subst hK;have hR:0<l.length:=by omega
 have Hz:=Hd hxy;clear hxe hlx hxy
 go_wp2_with (go_at_call 39;refine(bN 33 _ Hm.o).mono ?_;rw[HX.o];rintro e w' ⟨rfl,rfl⟩)
 refine N.region_JTm 12 hL (by kernel_rfl) (by kernel_rfl) rfl (by kernel_rfl) (by kernel_rfl) (fun Wz=>Below (w6).heap.size (w6) Wz) (brf.drew) ?_
 iterate 10 (refine N.WalkT.cons ?_ (N.StepP.pure rfl ?_) ?_;rotate_left;(intro W hJ;obtain⟨hw,hz⟩:=bcell hJ;go_simp;rfl);simp only[N.pz])
 refine N.WalkT.cons (strV x) (N.StepP.call (f:=68) (args:=#[strV y,intV m]) rfl ?hG1_10 ?cG1_10) ?rG1_10;case hG1_10=>intro W hJ;obtain⟨hw,hz⟩:=bcell hJ;go_simp;try rfl
 case cG1_10=>intro W hJ;(refine(lM y m W (by omega) (by omega)).mono ?_;rw[Hz.o];rintro e w' ⟨rfl,rfl⟩;exact⟨rfl,hJ⟩)
 simp only[N.pz];refine N.WalkT.cons ?_ (N.StepP.pure rfl ?_) ?_;rotate_left;(intro W hJ;obtain⟨hw,hz⟩:=bcell hJ;go_simp;rfl);simp only[N.pz];refine N.WalkT.nil fun W hJ=>?_;rename World=>W5
 have HA:=Hd hJ;have hp:=(hJ.cell (p:=⟨o,i,none⟩) hh).trans hD;have hr:=(hJ.frozen (p:=⟨o,i,none⟩) hh).trans hE;have hs:=Nat.lt_of_lt_of_le hh hJ.size;have Hf:=Hd ((Ha.o.step hJ).set eo hg hm i x)
 have Hj:Hid (Strs (W5.setCell ⟨o,i,none⟩ (strV x)) (some ⟨bl,ol,none⟩) c6 l):=Hd (zT (zW (zL Hb.o hJ) (M:=fun j=>j=o) ⟨rfl,rfl,rfl,by simp,fun j _ hj=>zQ hj⟩ (fun j hj e=>by
  obtain⟨y,hy,hb⟩:=hj;have h1:=Hs.o;have:=(Hb.o.lt bl rfl).1;cases hy
  simp only[World.size_alloc]at this;simp only at hb
  omega)))
 clear hJ hD hE hh c4 hd hv hG n0 n2 ng
 go_upto_region 20 with fail
 obtain⟨X8,hu⟩:∃X,W5.setCell ⟨o,i,none⟩ (strV x)=X:=⟨_,rfl⟩
 rw[hu]at Hf Hj|-;clear hu hp hr hs eo hg hm;have Hg:=Hd Hf.o.prog;have Hq:=Hd (Hf.o.next Hh.o);have c4:=Hg.o.c4;have hd:=Hg.o.gl;obtain⟨co,oo,eoa,hQ,hI⟩:=Hg.o.ofAt hi;rw[eoa]at c4
 have hF:ofK (L.set i x) (i:Int)=x:=by
  have hl:=Ha.o.len;unfold ofK;rw[Int.toNat_natCast,List.getD_eq_getElem?_getD,List.getElem?_set_self (by omega)];rfl
 rw[hF]at hI;have Hi:=Hd (kA t (L.set i x) i p Hy.o (by omega) Hw.o f x r Hl.o hxl X8 Hg.o);clear eoa hF;cases hq:decide (8<r.1)with
 | true=>
   have HQ:=Hd hq;have HR:Hid (bigE r=5):=Hd (if_pos (of_decide_eq_true hq));clear hq
   go_wp2_with (go_at_call 67;refine Hi.o.mono ?_;rw[HQ.o];rintro e w8 ⟨rfl,ha⟩;have Hp:=Hd (Hq.o.step ha);clear ha)
   go_ret;exact⟨by rw[HR.o];rfl,Hp.o⟩
 | false=>
   have HQ:=Hd hq;have HR:Hid (bigE r=0):=Hd (if_neg (of_decide_eq_false hq));clear hq
   go_wp2_with (first
    | (go_at_call 69;refine(Hc.o w8 (some ⟨bl,ol,none⟩) c6 Ht.o Hx.o).mono ?_;rintro e w9 ⟨rfl,hB⟩;have Hr:=Hd hB;clear hB)
    | (go_at_call 67;refine Hi.o.mono ?_;rw[HQ.o];rintro e w8 ⟨rfl,ha⟩;have Ht:=Hd (Hf.o.step ha);have Hx:=Hd (show Strs w8 (some ⟨bl,ol,none⟩) c6 l from Row.mono Hj.o ha nlr);clear ha))
   go_ret;exact⟨by rw[HR.o];rfl,Hr.o⟩
theorem QA{k:Int}(h:okK k=true):zl k=true\/k=25\/(k=30\/k=31\/k=32)\/k=33\/k=34\/(40<=k/\k<=46):=by
 simp only[okK,zl,cG,cQ,Bool.or_eq_true,Bool.and_eq_true,decide_eq_true_eq,bne_iff_ne,beq_iff_eq]at h|-;omega
theorem NY{t:Tr}{S:List Int}(G:Good t S){i:Nat}(hi:i<t.nodes.length)(x:List UInt8):∀a∈(t.nd (i:Int)).kids,ofK ((tysP t i).set i x) a=ofK (tysP t i) a:=fun a ha=>by
 obtain⟨_,_,h1,h2⟩:=G.kid hi a ha;unfold ofK;rw[List.getD_eq_getElem?_getD,List.getElem?_set_ne (by omega),<-List.getD_eq_getElem?_getD]
theorem NZ{t:Tr}{i:Nat}(hi:i<t.nodes.length):ofK (tysP t (i+1)) i=typP t (tysP t i) i:=FI t hi (Nat.lt_succ_self i)
theorem rL(w1:World)(t:Tr)(p:bF)(i f:Nat)(err:Int)(W:World)(bd:Bd t)(hr:(zb t).2.2=0)(hi:i<t.nodes.length)(he:errP t f i=some err)(hO:KindO w1 t (tysP t i) i p W) :
 Calls prog 45 #[.pointer (some ⟨p.g,0,none⟩),intV i] W fun e w'=>e=.returned (intV err)/\KindO w1 t (tysP t (i+1)) (i+1) p w':=by
 obtain⟨wf,G⟩:=zi bd hr;have hm:=G.many hi;have hl:=mO bd hr (k:=i+1) (by omega);have hp:=uA bd hr (k:=i+1) (by omega) (i:Int);have hc:=NZ hi;rw[hc]at hp;have hg:=NY G hi (typP t (tysP t i) i);have hw:(t.nd (i:Int)).kids.map (ofK (tysP t (i+1)))=(t.nd (i:Int)).kids.map (ofK (tysP t i)):=List.map_congr_left hg
 have hv:((t.nd (i:Int)).kids.map (ofK (tysP t i))).length<=1000000:=by
  rw[List.length_map,t.nd_at hi];exact wf.bd.k _ (List.getElem_mem hi)
 have hy:=wf.bd.n
 have item:∀(L:List (List UInt8)),40<=(t.nd (i:Int)).kind\/(t.nd (i:Int)).kind<40->(t.nd (i:Int)).kind≠41->∀(W':World) (la:Option Addr) (lc:Nat),KindO w1 t L i p W'->Strs W' la lc ((t.nd (i:Int)).kids.map (ofK (tysP t i))) ->
  Calls prog 69 #[.pointer (some ⟨p.g,0,none⟩),intV i,.slice la ((t.nd (i:Int)).kids.map (ofK (tysP t i))).length lc] W' fun e w'=>e=.returned (intV (fY t i ((t.nd (i:Int)).kids.map (ofK (tysP t i)))))/\KindO w1 t L (i+1) p w':=fun L _ n41 W' la lc ho hs=>
  FE w1 t L p i la lc _ W' hy hi n41 (fun k=>by rw[k]at hm;have:(2:Int)<=((t.nd (i:Int)).kids.length:Int):=by { simpa[zC]using hm };rw[List.length_map];omega)
   (fun k=>by rw[k]at hm;have:((t.nd (i:Int)).kids.length:Int)=1:=by { simpa[zC]using hm };rw[List.length_map];omega) hv hs ho
 have hf:(t.nd (i:Int)).kind=25\/(t.nd (i:Int)).kind=33\/(t.nd (i:Int)).kind=34->(t.nd (i:Int)).kids.length=1:=fun q=>by
  have:((t.nd (i:Int)).kids.length:Int)=1:=by rcases q with q|q|q<;>(rw[q]at hm;simpa[zC]using hm)
  omega
 unfold errP at he;rcases QA (G.ok hi).1 with hx|q|q|q|q|q
 .have ht:typP t (tysP t i) i=aJ t (tysP t i) i i:=by unfold typP;simp[hx]
  refine xH w1 t (tysP t i) p i (typP t (tysP t i) i) err W wf hi hx (PN bd hr hi) ht.symm (by omega) hl ?_ hO;have hD:(1<=(t.nd (i:Int)).kind/\(t.nd (i:Int)).kind<=26):=by simp[zl]at hx;omega
  have hs:aR t (tysP t (i+1)) i=if typP t (tysP t i) i==[]then 11 else 0:=by
   unfold aR;simp only[hx,if_true,hc]
  rw[hs]at he;by_cases hX:typP t (tysP t i) i=[]
  .left
   refine⟨hX,?_⟩;rw[hX]at he;simpa using he.symm
  .right
   have hq:(typP t (tysP t i) i==[])=false:=by simpa using hX
   rw[hq]at he;by_cases k26:(t.nd (i:Int)).kind=26
   .left
    have hb:cV t (tysP t (i+1)) i=some (typP t (tysP t i) i):=by unfold cV;simp[k26,hc]
    have hk:recB t i=i:=by unfold recB;simp[k26]
    rw[hb,hk]at he;simp only[Bool.false_eq_true,if_false,ne_eq,not_true_eq_false]at he;obtain⟨r,hh,hj⟩:=Option.map_eq_some_iff.1 he;exact⟨hX,k26,f,r,hh,hj.symm⟩
   .right
    have hb:cV t (tysP t (i+1)) i=none:=by
     have q1:¬(t.nd (i:Int)).kind=33/\¬(t.nd (i:Int)).kind=41:=by omega
     unfold cV;simp[k26,q1]
    rw[hb]at he;simp at he;exact⟨hX,k26,he.symm⟩
 .have q1:¬(t.nd (i:Int)).kind=30/\¬(t.nd (i:Int)).kind=31/\¬(t.nd (i:Int)).kind=32:=by omega
  have hn:zl (t.nd (i:Int)).kind=false:=by rw[q];rfl
  have ht:typP t (tysP t i) i=ofK (tysP t i) ((t.nd (i:Int)).kids.getD 0 0):=by unfold typP;simp[zl,q]
  have h0:err=0:=by simp[aR,cV,q,zl]at he;exact he.symm
  have hd:fY t i ((t.nd (i:Int)).kids.map (ofK (tysP t i)))=err:=by simp[fY,q,h0]
  have h1:=hf (Or.inl q);refine oT w1 t (tysP t i) p i (typP t (tysP t i) i) err W wf hi (Or.inl q) (by omega) ?_ ?_ hO
  .rw[ht]
   obtain⟨a,ha⟩:=List.length_eq_one_iff.1 h1;rw[ha];rfl
  .have z:=item ((tysP t i).set i (typP t (tysP t i) i)) (by omega) (by omega)
   rw[hd]at z;exact z
 .have hn:zl (t.nd (i:Int)).kind=false:=by rcases q with q|q|q<;>(rw[q];rfl)
  have h0:err=0:=by rcases q with q|q|q<;>(simp[aR,cV,q,zl]at he;exact he.symm)
  have hd:fY t i ((t.nd (i:Int)).kids.map (ofK (tysP t i)))=err:=by rcases q with q|q|q<;>simp[fY,q,h0]
  refine xK w1 t (tysP t i) p i (typP t (tysP t i) i) err W wf hi ?_ ?_ hO
  .rcases q with q|q|q
   .left;exact⟨q,by unfold typP;simp[zl,q]⟩
   .right;left;exact⟨q,by unfold typP;simp[zl,q]⟩
   .right;right;exact⟨q,by unfold typP;simp[zl,q]⟩
  .have z:=item ((tysP t i).set i (typP t (tysP t i) i)) (by omega) (by omega)
   rw[hd]at z;exact z
 .have ht:typP t (tysP t i) i=bC (ofK (tysP t i) ((t.nd (i:Int)).kids.getD 0 0)) (t.nd (i:Int)).n.toNat:=by unfold typP;simp[zl,q]
  have h1:=hf (Or.inr (Or.inl q));have hA:=Good.sizedOk (zt hr).check hi;have hB:1<=(t.nd (i:Int)).n/\(t.nd (i:Int)).n<=6:=by simp[eX,q]at hA;omega
  have hb:cV t (tysP t (i+1)) i=some (typP t (tysP t i) i):=by unfold cV;simp[q,hc]
  have hk:recB t i=i:=by unfold recB;simp[q]
  have hs:aR t (tysP t (i+1)) i=0:=by simp[aR,zl,q]
  rw[hs,hb,hk]at he;simp only[ne_eq,not_true_eq_false,if_false]at he;obtain⟨r,hh,hj⟩:=Option.map_eq_some_iff.1 he;have hd:fY t i ((t.nd (i:Int)).kids.map (ofK (tysP t i)))=0:=by simp[fY,q]
  have z:=item ((tysP t i).set i (typP t (tysP t i) i)) (by omega) (by omega);rw[hd]at z
  have w:=xJ w1 t (tysP t i) p i (t.nd (i:Int)).n.toNat (typP t (tysP t i) i) (ofK (tysP t i) ((t.nd (i:Int)).kids.getD 0 0)) f r W wf hi q (by omega) (by omega) (by omega) (by
   obtain⟨a,ha⟩:=List.length_eq_one_iff.1 h1
   rw[ha];rfl) (by
   have:=uA bd hr (k:=i) (by omega) ((t.nd (i:Int)).kids.getD 0 0)
   omega) ht.symm (by omega) hl hh z hO
  rw[<-hj];exact w
 .have hn:zl (t.nd (i:Int)).kind=false:=by rw[q];rfl
  have ht:typP t (tysP t i) i=ofK (tysP t i) ((t.nd (i:Int)).kids.getD 0 0):=by unfold typP;simp[zl,q]
  have h0:err=0:=by simp[aR,cV,q,zl]at he;exact he.symm
  have hd:fY t i ((t.nd (i:Int)).kids.map (ofK (tysP t i)))=err:=by simp[fY,q,h0]
  have h1:=hf (Or.inr (Or.inr q));refine oT w1 t (tysP t i) p i (typP t (tysP t i) i) err W wf hi (Or.inr q) (by omega) ?_ ?_ hO
  .rw[ht]
   obtain⟨a,ha⟩:=List.length_eq_one_iff.1 h1;rw[ha];rfl
  .have z:=item ((tysP t i).set i (typP t (tysP t i) i)) (by omega) (by omega)
   rw[hd]at z;exact z
 .have te:=NX (t:=t) (i:=i) q.1
  rw[te]at he hl|-;refine xI w1 t (tysP t i) p i err W wf hi q.1 ?_ hO;have hn:zl (t.nd (i:Int)).kind=false:=by simp[zl];omega
  by_cases k41:(t.nd (i:Int)).kind=41
  .have hs:aR t (tysP t i) i=0:=by simp[aR,zl,k41]
   have hb:cV t (tysP t i) i=some (t.nd (i:Int)).text:=by unfold cV;simp[k41]
   have hk:recB t i=i+1:=by unfold recB;simp[k41]
   rw[hs,hb,hk]at he;simp only[ne_eq,not_true_eq_false,if_false]at he;obtain⟨r,hh,hj⟩:=Option.map_eq_some_iff.1 he;have hz:zG (t.nd (i:Int)).text=true:=by rw[<- (G.ok hi).2.1,k41];rfl
   have hC:=kJ hz;intro W' la lc ho _;rw[<-hj];exact DH w1 t (tysP t i) p i la lc _ W' wf hi k41 f r hh (by omega) hl ho
  .have hb:cV t (tysP t i) i=none:=by
    have q1:¬(t.nd (i:Int)).kind=33/\¬(t.nd (i:Int)).kind=26:=by omega
    unfold cV;simp[k41,q1]
   have hs:aR t (tysP t i) i=fY t i ((t.nd (i:Int)).kids.map (ofK (tysP t i))):=by
    unfold aR fY;simp only[hn,Bool.false_eq_true,if_false]
   rw[hb,hs]at he
   have hu:fY t i ((t.nd (i:Int)).kids.map (ofK (tysP t i)))=err:=by
    split at he
    .exact Option.some.inj he
    .rename_i h;simp only[ne_eq,Classical.not_not]at h;rw[h];exact Option.some.inj he
   have z:=item (tysP t i) (by omega) k41;rw[hu]at z;exact z
end
end Go.Proofs.YtcdkdiedphhdhaaGreatDoor
