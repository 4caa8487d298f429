/- Part of a proof. -/
import Derived.Test.YtcdkdiedphhdhaaGreatDoorK05
import Derived.Test.YtcdkdiedphhdhaaGreatDoorK13
import Derived.Test.YtcdkdiedphhdhaaGreatDoorK15
set_option maxRecDepth 100000
set_option maxHeartbeats 8000000
set_option linter.unusedVariables false
set_option linter.unusedSimpArgs false
open Go.Proofs.Tryz
namespace Go.Proofs.YtcdkdiedphhdhaaGreatDoor
section
open Go Go.RowKit
def Tk.cells(t:Tk):List Value:=[.int .u8 t.kind,strV t.text,intV t.pos]
abbrev tkV(t:Tk):Value:=.agg #[.int .u8 t.kind,strV t.text,intV t.pos]
def gV:List Tk->List Value
 | []=>[]
 |t::l=>t.cells++gV l
theorem lV:∀l:List Tk,(gV l).length=l.length*3
 | []=>rfl
 |t::l=>by simp only[gV,List.length_append,Tk.cells,List.length_cons,List.length_nil,lV l];omega
theorem rY:∀(l:List Tk) (i:Nat) (h:i<l.length) (j:Nat) (hj:j<3),(gV l)[i*3+j]?=(l[i].cells)[j]?
 | t::l,0,_,j,hj=>by
   simp only[gV,Nat.zero_mul,Nat.zero_add,List.getElem_cons_zero];rw[List.getElem?_append_left (by simp[Tk.cells];omega)]
 | t::l,i+1,h,j,hj=>by
   simp only[gV,List.getElem_cons_succ];rw[List.getElem?_append_right (by simp[Tk.cells];omega),<-rY l i (by simpa using h) j hj];congr 1;simp[Tk.cells];omega
 | [],_,h,_,_=>by simp at h
structure ParE (w0:World) (E:PE) (ta:Option Addr) (tc:Nat):Prop where
 row:Row 3 w0 ta E.toks.length tc (gV E.toks)
 gv:GV w0
 many:E.toks.length<=800
 text:∀t∈E.toks,t.text.length<=2000
 tok:∀t∈E.toks,t.kind=2->tokF t.text=(2,t.text)
theorem ParE.at_{w0 W:World}{E:PE}{ta:Option Addr}{tc:Nat}(h:ParE w0 E ta tc)(hb:Below w0.heap.size w0 W){i:Nat}(hi:i<E.toks.length) :
 ∃b o,ta=some ⟨b,o,none⟩/\b<w0.heap.size/\W.cell? ⟨b,o+i*3,none⟩=some (.int .u8 E.toks[i].kind)/\W.cell? ⟨b,o+i*3+1,none⟩=some (strV E.toks[i].text)/\W.cell? ⟨b,o+i*3+2,none⟩=some (intV E.toks[i].pos):=by
 obtain⟨b,o,rfl,hd,hc⟩:=h.row.some (by omega);have hl:=lV E.toks
 have key:∀j,j<3->W.cell? ⟨b,o+i*3+j,none⟩=(E.toks[i].cells)[j]?:=by
  intro j hj;have ha:i*3+j<(gV E.toks).length:=by omega
  rw[hb.cell (p:=⟨b,o+i*3+j,none⟩) hd,Nat.add_assoc,hc (i*3+j) ha,<-rY E.toks i hi j hj,List.getElem?_eq_getElem ha]
 exact⟨b,o,rfl,hd,key 0 (by omega),key 1 (by omega),key 2 (by omega)⟩
def AtB(a:Option Addr)(i:Nat):Prop:=∃x,a=some x/\x.block=i
theorem zW{W W':World}{B:Nat}{e:TypeId}{k:Nat}{a:Option Addr}{m c n:Nat}{xs:List Value}{M:Nat->Prop}(h:W.ownsRow B e k (.slice a m c) n xs)(ht:Turns M W W')(hn:∀i,AtB a i->¬M i):W'.ownsRow B e k (.slice a m c) n xs:=by
 obtain⟨h1,h2⟩:=h;refine⟨h1,?_⟩;rcases h2 with h2|⟨g,cap,cur,h2,hb,hg,hr⟩
 .exact .inl h2
 .refine .inr ⟨g,cap,cur,h2,hb,?_,hr⟩
  simp only[Value.slice.injEq]at h2;exact(ht.block g (Array.getElem?_eq_some_iff.1 hg).1 (hn g ⟨_,h2.1,rfl⟩)).trans hg
theorem JX{W W':World}{k:Nat}{a:Option Addr}{c n:Nat}{xs:List Value}{M:Nat->Prop}(h:Row k W a n c xs)(ht:Turns M W W')(hn:0<n->∀x,a=some x->¬M x.block):Row k W' a n c xs:=by
 obtain⟨h1,h2,h3,h4⟩:=h;refine⟨h1,h2,h3,?_⟩;rcases h4 with h4|⟨b,o,e,ha,hc⟩
 .exact .inl h4
 .by_cases h0:n=0
  .exact .inl h0
  .exact .inr ⟨b,o,e,Nat.lt_of_lt_of_le ha ht.size,fun i hi=>(ht.cell ha (hn (by omega) ⟨b,o,none⟩ e)).trans (hc i hi)⟩
theorem OwnN.turns{W W':World}{B:Nat}{a:Option Addr}{c:Nat}{ns:List Nd}{ks:List (Option Addr×Nat)}{M:Nat->Prop}(h:OwnN W B a c ns ks)(ht:Turns M W W')(hn:∀i,AtB a i->¬M i)
 (hk:∀j (h:j<ns.length) (k:j<ks.length),0<ns[j].kids.length->∀x,ks[j].1=some x->¬M x.block):OwnN W' B a c ns ks:=
 ⟨h.len,zW h.own ht hn,fun i hi k=>⟨JX (h.kids i hi k).1 ht (hk i hi k),(h.kids i hi k).2⟩⟩
structure IsPar (w0:World) (E:PE) (ta:Option Addr) (tc:Nat) (iv:Value) (s:PS) (G:Nat->Prop) (W:World):Prop where
 below:Below w0.heap.size w0 W
 c0:W.cell? ⟨w0.heap.size,0,none⟩=some (.slice ta E.toks.length tc)
 c1:W.cell? ⟨w0.heap.size,1,none⟩=some (intV E.fin)
 c2:W.cell? ⟨w0.heap.size,2,none⟩=some (intV s.next)
 c4:W.cell? ⟨w0.heap.size,4,none⟩=some iv
 fr:∀i,W.frozen? ⟨w0.heap.size,i,none⟩=false
 nodes:∃na nc ks,W.cell? ⟨w0.heap.size,3,none⟩=some (.slice na s.nodes.length nc)/\OwnN W (w0.heap.size+1) na nc s.nodes ks/\(∀i,AtB na i->G i) /\
  ∀j (h:j<s.nodes.length) (k:j<ks.length),0<s.nodes[j].kids.length->∀x,ks[j].1=some x->G x.block
 g0:G w0.heap.size
 mem:∀i,G i->w0.heap.size<=i/\i<W.heap.size
 next:s.next<=E.toks.length
theorem IsPar.lt{w0 W:World}{E:PE}{ta:Option Addr}{tc:Nat}{iv:Value}{s:PS}{G:Nat->Prop}(h:IsPar w0 E ta tc iv s G W):w0.heap.size<W.heap.size:=World.block_lt_of_cell? W _ h.c0
theorem IsPar.turns{w0 W W':World}{E:PE}{ta:Option Addr}{tc:Nat}{iv:Value}{s:PS}{G M:Nat->Prop}(h:IsPar w0 E ta tc iv s G W)(ht:Turns M W W')(hn:∀i,G i->¬M i)(hl:∀i,M i->w0.heap.size<=i):IsPar w0 E ta tc iv s G W':=by
 have ha:=h.lt;obtain⟨h1,h2,h3,h4,h6,h7,⟨na,nc,ks,h5,h8,hb,hc⟩,hg,hm,h9⟩:=h;have n0:=hn _ hg
 exact⟨h1.trans (ht.below hl (by omega)),(ht.cell ha n0).trans h2,(ht.cell ha n0).trans h3,(ht.cell ha n0).trans h4,(ht.cell ha n0).trans h6,fun i=>(ht.frozen ha n0).trans (h7 i),
  ⟨na,nc,ks,(ht.cell ha n0).trans h5,h8.turns ht (fun i hi=>hn i (hb i hi)) (fun j hj hk h0 x hx=>hn _ (hc j hj hk h0 x hx)),hb,hc⟩,hg,fun i hi=>⟨(hm i hi).1,Nat.lt_of_lt_of_le (hm i hi).2 ht.size⟩,h9⟩
theorem IsPar.grow{w0 W W':World}{E:PE}{ta:Option Addr}{tc:Nat}{iv:Value}{s:PS}{G:Nat->Prop}(h:IsPar w0 E ta tc iv s G W)(hb:Below W.heap.size W W'):IsPar w0 E ta tc iv s G W':=
 h.turns (M:=fun i=>W.heap.size<=i) (Turns.of_below hb fun _ _ h=>h) (fun i hi=>by have:=(h.mem i hi).2;omega) (fun i hi=>by have:=h.lt;omega)
theorem IsPar.took{w0 W:World}{E:PE}{ta:Option Addr}{tc:Nat}{iv:Value}{s:PS}{G:Nat->Prop}(h:IsPar w0 E ta tc iv s G W)(hlt:s.next<E.toks.length) :
 IsPar w0 E ta tc iv s.take G (W.setCell ⟨w0.heap.size,2,none⟩ (intV ((s.next:Int)+1))):=by
 obtain⟨h1,h2,h3,h4,h6,h7,⟨na,nc,ks,h5,h8,hb,hc⟩,hg,hm,h9⟩:=h;have ha:∀i,i≠2->(W.setCell ⟨w0.heap.size,2,none⟩ (intV ((s.next:Int)+1))).cell? ⟨w0.heap.size,i,none⟩=W.cell? ⟨w0.heap.size,i,none⟩:=fun i hi=>World.cell?_setCell_other _ _ _ _ (fun e=>hi (by injection e with _ e2;omega));refine⟨h1.setCell (by simp) _,(ha 0 (by omega)).trans h2,(ha 1 (by omega)).trans h3,?_,(ha 4 (by omega)).trans h6,fun i=>by rw[World.frozen?_setCell];exact h7 i,⟨na,nc,ks,(ha 3 (by omega)).trans h5,h8.setCell (by simp) _,hb,hc⟩,hg,fun i hi=>by simpa using hm i hi,by simp only[PS.take];omega⟩;rw[World.cell?_setCell_same _ _ _ h4];simp[PS.take]
theorem GJ{w0 W:World}{E:PE}{ta:Option Addr}{tc:Nat}{iv:Value}{s:PS}{G:Nat->Prop}(he:ParE w0 E ta tc)(h:IsPar w0 E ta tc iv s G W) :
 Calls prog 131 #[.pointer (some ⟨w0.heap.size,0,none⟩)] W fun e w'=>e=.returned (tkV (zh E s))/\Below W.heap.size W w':=by
 have hm:=he.many;have hf:=h.next;have hj:=h.lt;have hh:=h.c0;have hi:=h.c1;have hc:=h.c2;by_cases hlast:s.next<E.toks.length
 .obtain⟨b,o,rfl,hb,t0,t1,t2⟩:=he.at_ h.below hlast
  have ha:zh E s=E.toks[s.next]:=by unfold zh;rw[List.getD_eq_getElem?_getD,List.getElem?_eq_getElem hlast];rfl
  obtain⟨T,hT⟩:∃T,E.toks[s.next]=T:=⟨_,rfl⟩
  rw[hT]at t0 t1 t2 ha;have HL:=Hd ha;have hg:b<W.heap.size:=by omega
  have hd:((s.next:Int)==(E.toks.length:Int))=false:=by simp;omega
  clear hT ha he h;obtain⟨n,hn⟩:∃n,s.next=n:=⟨_,rfl⟩
  rw[hn]at hc t0 t1 t2 hlast hf hd;clear hn;go_enter func131,ntmps131;go_wp2
  go_quiet (fail)
  go_wp2;go_region;go_wp2
  go_returns
  exact⟨by rw[HL.o],by go_grown;exact below_drewN ((Below.refl _ W).alloc nlr _) _⟩
 .have hn:s.next=E.toks.length:=by omega
  have HL:=Hd (jN (E:=E) (s:=s) (by omega));have hd:((E.toks.length:Int)==(E.toks.length:Int))=true:=by simp
  rw[hn]at hc;clear he h hn hlast hf;go_enter func131,ntmps131;go_wp2
  go_quiet (fail)
  go_wp2
  go_returns
  exact⟨by rw[HL.o],by go_grown;exact below_drewN ((Below.refl _ W).alloc nlr _) _⟩
@[go_sem] theorem run_tk0 (k pos:Int) (tx:ByteArray) (W:World):(Instr.field 143 (.agg #[.int .u8 k,.string tx,.int .i64 pos]) 0).run prog W=.ok (.int .u8 k) W:=by kernel_rfl
@[go_sem] theorem run_tk1 (k pos:Int) (tx:ByteArray) (W:World):(Instr.field 143 (.agg #[.int .u8 k,.string tx,.int .i64 pos]) 1).run prog W=.ok (.string tx) W:=by kernel_rfl
@[go_sem] theorem run_tk2 (k pos:Int) (tx:ByteArray) (W:World):(Instr.field 143 (.agg #[.int .u8 k,.string tx,.int .i64 pos]) 2).run prog W=.ok (.int .i64 pos) W:=by kernel_rfl
theorem QLook2{w0 W:World}{E:PE}{ta:Option Addr}{tc:Nat}{iv:Value}{s:PS}{G:Nat->Prop}(he:ParE w0 E ta tc)(h:IsPar w0 E ta tc iv s G W){T:Tk}(hT:zh E s=T) :
 Calls prog 131 #[.pointer (some ⟨w0.heap.size,0,none⟩)] W fun e w'=>e=.returned (.agg #[.int .u8 T.kind,strV T.text,intV T.pos])/\Below W.heap.size W w':=hT▸GJ he h
abbrev rC(pos:Int):Value:=.iface 148 (.agg #[intV pos])
def Thrown(w0:World)(pos:Int)(e:Ending)(w':World):Prop:=e=.panicked [{ v:=rC pos,recovered:=false }]/\Below w0.heap.size w0 w'
theorem uU{w0 W:World}{E:PE}{ta:Option Addr}{tc:Nat}{iv:Value}{s:PS}{G:Nat->Prop}(he:ParE w0 E ta tc)(h:IsPar w0 E ta tc iv s G W){T:Tk}(hT:zh E s=T) :
 Calls prog 132 #[.pointer (some ⟨w0.heap.size,0,none⟩)] W (Thrown w0 T.pos):=by
 have HL:=Hd (QLook2 he h hT);have HB:=Hd h.below;have hb:=h.lt;clear he h;go_enter func132,ntmps132
 go_wp2_with (go_at_call 131;refine HL.o.mono ?_;rintro e w' ⟨rfl,ha⟩;have Ha:=Hd ha;clear ha)
 exact⟨rfl,rfl,HB.o.trans (Ha.o.mono (by omega))⟩
theorem OU{w0 W:World}{E:PE}{ta:Option Addr}{tc:Nat}{iv:Value}{s:PS}{G:Nat->Prop}(he:ParE w0 E ta tc)(h:IsPar w0 E ta tc iv s G W){T:Tk}(hT:zh E s=T)
 {sa:Option Addr}{c:Nat}{l:List (List UInt8)}(hl:l.length<=1000000000)(hs:Strs W sa c l) :
 Calls prog 172 #[.pointer (some ⟨w0.heap.size,0,none⟩),.slice sa l.length c] W (zD W (isTk T l)):=by
 have HL:=Hd (QLook2 he h hT);have HS:=Hd hs;clear he h hs;obtain⟨k,tx,pos⟩:=T;simp only at HL;have HX:Hid (isTk ⟨k,tx,pos⟩ l=((k==3||k==4)&&hasS l tx)):=Hd rfl;cases h3:(k==3)with
 | true=>
   have H3:=Hd h3;go_enter func172,ntmps172
   go_wp2_with (first
    | (go_at_call 131;refine HL.o.mono ?_;rintro e w' ⟨rfl,ha⟩;have Ha:=Hd ha;have hz:=ha.size;clear ha)
    | (go_at_call 111;refine(cT sa c l tx _ hl (Row.mono HS.o (Ha.o.alloc Ha.o.size _) nlr)).mono ?_;rintro e w' ⟨rfl,rfl⟩))
   go_ret;exact⟨zc (by rw[HX.o,H3.o];rfl),Ha.o.alloc Ha.o.size _⟩
 | false=>
   cases h4:(k==4)with
   | true=>
     have H3:=Hd h3;have H4:=Hd h4;go_enter func172,ntmps172
     go_wp2_with (first
      | (go_at_call 131;refine HL.o.mono ?_;rintro e w' ⟨rfl,ha⟩;have Ha:=Hd ha;have hz:=ha.size;clear ha)
      | (go_at_call 111;refine(cT sa c l tx _ hl (Row.mono HS.o (Ha.o.alloc Ha.o.size _) nlr)).mono ?_;rintro e w' ⟨rfl,rfl⟩))
     go_ret;exact⟨zc (by rw[HX.o,H3.o,H4.o];rfl),Ha.o.alloc Ha.o.size _⟩
   | false=>
     have H3:=Hd h3;have H4:=Hd h4;go_enter func172,ntmps172
     go_wp2_with (go_at_call 131;refine HL.o.mono ?_;rintro e w' ⟨rfl,ha⟩;have Ha:=Hd ha;have hz:=ha.size;clear ha)
     go_ret;exact⟨zc (by rw[HX.o,H3.o,H4.o];rfl),Ha.o.alloc Ha.o.size _⟩
theorem DW{B:Nat}{W X:World}(p:Addr)(v:Value)(h:Below B W X):Below B (W.setCell p v) (X.setCell p v):=by
 refine⟨h.os,h.tape,h.output,by simpa[World.setCell]using h.size,fun k hk=>?_⟩;have hb:=h.block k hk;by_cases e:k=p.block
 .subst e
  simp only[World.setCell,Array.getElem?_modify,if_true,hb]
 .rw[Below.heap_setCell _ _ _ _ e,Below.heap_setCell _ _ _ _ e,hb]
theorem SL{W w':World}{v0 v1 v2:Value}{e:TypeId}(hb:Below (W.alloc (.cells #[v0,v1,v2] e)).heap.size (W.alloc (.cells #[v0,v1,v2] e)) w') :
 (w'.cell? ⟨W.heap.size,0,none⟩=some v0/\w'.cell? ⟨W.heap.size,1,none⟩=some v1/\w'.cell? ⟨W.heap.size,2,none⟩=some v2)/\(w'.frozen? ⟨W.heap.size,0,none⟩=false/\w'.frozen? ⟨W.heap.size,1,none⟩=false/\w'.frozen? ⟨W.heap.size,2,none⟩=false) /\
 W.heap.size+1<=w'.heap.size/\Below W.heap.size W w':=by
 obtain⟨hc,hf⟩:=bcell hb;refine⟨⟨(hc _ _ (by simp)).trans ?_,(hc _ _ (by simp)).trans ?_,(hc _ _ (by simp)).trans ?_⟩,⟨(hf _ _ (by simp)).trans ?_,(hf _ _ (by simp)).trans ?_,(hf _ _ (by simp)).trans ?_⟩,by have:=hb.size;simpa using this,((Below.refl _ W).alloc nlr _).trans (hb.mono (by simp))⟩;all_goals go_simp
theorem SM{Y:World}{b:Nat}{u0 u1 u2:Value}(a0 a1 a2:Value)(o:Obj)(h0:Y.cell? ⟨b,0,none⟩=some u0)(h1:Y.cell? ⟨b,1,none⟩=some u1)(h2:Y.cell? ⟨b,2,none⟩=some u2) :
 ∃X,(((Y.setCell ⟨b,0,none⟩ a0).setCell ⟨b,1,none⟩ a1).setCell ⟨b,2,none⟩ a2).alloc o=X/\(X.cell? ⟨b,0,none⟩=some a0/\X.cell? ⟨b,1,none⟩=some a1/\X.cell? ⟨b,2,none⟩=some a2)/\Below b Y X:=by
 have hl:b<Y.heap.size:=World.block_lt_of_cell? Y _ h0;have ha:b≠Y.heap.size:=by omega
 have hb:Below b Y (((Y.setCell ⟨b,0,none⟩ a0).setCell ⟨b,1,none⟩ a1).setCell ⟨b,2,none⟩ a2):=
  Below.setCell (p:=⟨b,2,none⟩) (Below.setCell (p:=⟨b,1,none⟩) (Below.setCell (p:=⟨b,0,none⟩) (Below.refl _ Y) nlr a0) nlr a1) nlr a2
 refine⟨_,rfl,⟨?_,?_,?_⟩,hb.alloc (by simp only[World.size_setCell];omega) _⟩;all_goals go_simp
theorem uW{w0 W:World}{E:PE}{ta:Option Addr}{tc:Nat}{iv:Value}{s:PS}{G:Nat->Prop}(he:ParE w0 E ta tc)(h:IsPar w0 E ta tc iv s G W){T:Tk}(hT:zh E s=T)(hlt:s.next<E.toks.length) :
 Calls prog 133 #[.pointer (some ⟨w0.heap.size,0,none⟩)] W fun e w'=>e=.returned (.agg #[.int .u8 T.kind,strV T.text,intV T.pos])/\IsPar w0 E ta tc iv s.take G w'/\StepG G W G w':=by
 have hm:=he.many;have hl:=h.lt;have hd:=h.c2;have hj:=h.fr 2;have HL:Hid (∀X,Below W.heap.size W X->Calls prog 131 #[.pointer (some ⟨w0.heap.size,0,none⟩)] X fun e w'=>e=.returned (.agg #[.int .u8 T.kind,strV T.text,intV T.pos])/\Below X.heap.size X w'):=Hd (fun X hX=>QLook2 he (h.grow hX) hT);have HP:=Hd h
 have Ha:Hid (∀X,Below W.heap.size (W.setCell ⟨w0.heap.size,2,none⟩ (intV ((s.next:Int)+1))) X->IsPar w0 E ta tc iv s.take G X/\StepG G W G X):=Hd (fun X hX=>by
  have hb:Below (W.setCell ⟨w0.heap.size,2,none⟩ (intV ((s.next:Int)+1))).heap.size (W.setCell ⟨w0.heap.size,2,none⟩ (intV ((s.next:Int)+1))) X:=by simpa[World.setCell]using hX
  exact⟨(h.took hlt).grow hb,(StepG.same (Turns.setCell (a:=⟨w0.heap.size,2,none⟩) h.g0 _) (fun i hi=>(h.mem i hi).2)).trans (StepG.of_below hb (fun i hi=>by simpa using(h.mem i hi).2))⟩)
 clear he h hT;obtain⟨n,hn⟩:∃n,s.next=n:=⟨_,rfl⟩
 rw[hn]at hd hlt Ha;clear hn;obtain⟨k,tx,pos⟩:=T;simp only at HL;go_enter func133,ntmps133
 go_wp2_with (go_at_call 131;go_loud (refine(HL.o _ ((Below.refl _ W).alloc nlr _)).mono ?_;rintro e w' ⟨rfl,hc⟩;obtain⟨⟨z0,z1,z2⟩,⟨g0,g1,g2⟩,hq,ha⟩:=SL hc;have Hb:=Hd ha;obtain⟨hf,hg⟩:=bcell ha;have hu:=(hf _ _ hl).trans hd;have ht:=(hg _ _ hl).trans hj;have hr:w0.heap.size<w'.heap.size:=(by omega);have hs:W.heap.size<w'.heap.size:=hq;have hk:W.heap.size≠w0.heap.size:=(by omega);have ho:W.heap.size≠w'.heap.size:=(by omega);have hp:w0.heap.size≠W.heap.size:=(by omega);clear ha hf hg hc))
 have y0:=(World.cell?_setCell_other w' ⟨w0.heap.size,2,none⟩ ⟨W.heap.size,0,none⟩ (intV ((n:Int)+1)) (by simp)).trans z0;have y1:=(World.cell?_setCell_other w' ⟨w0.heap.size,2,none⟩ ⟨W.heap.size,1,none⟩ (intV ((n:Int)+1)) (by simp)).trans z1;have y2:=(World.cell?_setCell_other w' ⟨w0.heap.size,2,none⟩ ⟨W.heap.size,2,none⟩ (intV ((n:Int)+1)) (by simp)).trans z2;obtain⟨X,hX,⟨x0,x1,x2⟩,hh⟩:=SM (.int .u8 k) (.string ⟨tx.toArray⟩) (intV pos) (.cells #[.int .u8 k,.string ⟨tx.toArray⟩,intV pos] 143) y0 y1 y2;rw[hX];clear hX;refine bodyPost_ret (by simp[results,results133,go_sem,loadVar,x0,x1,x2,Result.andThen];rfl) rfl ?_;exact⟨rfl,Ha.o _ ((DW _ _ Hb.o).trans hh)⟩
structure PC where
 w0:World
 E:PE
 ta:Option Addr
 tc:Nat
 iv:Value
abbrev PC.ptr(c:PC):Value:=.pointer (some ⟨c.w0.heap.size,0,none⟩)
abbrev OkC(c:PC):Prop:=ParE c.w0 c.E c.ta c.tc
def Own(F:List (Nat×Obj))(X:World):Prop:=∀p∈F,X.heap[p.1]?=some p.2
structure PQg (c:PC) (s:PS) (F:List (Nat×Obj)) (G:Nat->Prop) (X:World):Prop where
 par:IsPar c.w0 c.E c.ta c.tc c.iv s G X
 own:Own F X
 out:∀p∈F,c.w0.heap.size<p.1/\¬G p.1
 nd:(F.map Prod.fst).Nodup
def PQ(c:PC)(s:PS)(F:List (Nat×Obj))(d:Nat)(X:World):Prop:=(∃G,PQg c s F G X)/\s.nodes.length+d<=s.next
theorem PQ.ofPar{c:PC}{s:PS}{G:Nat->Prop}{X:World}(h:IsPar c.w0 c.E c.ta c.tc c.iv s G X){d:Nat}(hd:s.nodes.length+d<=s.next):PQ c s [] d X:=
 ⟨⟨G,h,(fun _ h=>by cases h),(fun _ h=>by cases h),List.nodup_nil⟩,hd⟩
theorem PQ.own{c:PC}{s:PS}{F:List (Nat×Obj)}{d:Nat}{X:World}(h:PQ c s F d X):Own F X:=by
 obtain⟨⟨G,h⟩,_⟩:=h;exact h.own
theorem PQ.below{c:PC}{s:PS}{F:List (Nat×Obj)}{d:Nat}{X Y:World}(h:PQ c s F d X)(hb:Below X.heap.size X Y):PQ c s F d Y:=by
 obtain⟨⟨G,h⟩,hd⟩:=h;exact⟨⟨G,h.par.grow hb,fun p hp=>(hb.block p.1 (Array.getElem?_eq_some_iff.1 (h.own p hp)).1).trans (h.own p hp),h.out,h.nd⟩,hd⟩
theorem PQ.drew{c:PC}{s:PS}{F:List (Nat×Obj)}{d:Nat}{X:World}(h:PQ c s F d X):PQ c s F d X.drew:=h.below (brf.drew)
theorem PQ.less{c:PC}{s:PS}{F:List (Nat×Obj)}{d e:Nat}{X:World}(h:PQ c s F d X)(he:e<=d):PQ c s F e X:=⟨h.1,by have:=h.2;omega⟩
theorem PQ.sub{c:PC}{s:PS}{F F':List (Nat×Obj)}{d:Nat}{X:World}(h:PQ c s F d X)(hs:List.Sublist F' F):PQ c s F' d X:=by
 obtain⟨⟨G,h⟩,hd⟩:=h;exact⟨⟨G,h.par,fun p hp=>h.own p (hs.subset hp),fun p hp=>h.out p (hs.subset hp),(h.nd).sublist (hs.map _)⟩,hd⟩
theorem PQ.drop{c:PC}{s:PS}{p:Nat×Obj}{F:List (Nat×Obj)}{d:Nat}{X:World}(h:PQ c s (p::F) d X):PQ c s F d X:=h.sub (List.sublist_cons_self _ _)
theorem PQ.alloc{c:PC}{s:PS}{F:List (Nat×Obj)}{d:Nat}{X:World}(h:PQ c s F d X)(o:Obj):PQ c s ((X.heap.size,o)::F) d (X.alloc o):=by
 have h':=h.below ((Below.refl X.heap.size X).alloc nlr o);have hw:=h.own;obtain⟨⟨G,h⟩,hd⟩:=h;have ha:=h.par.lt;obtain⟨⟨G',h'⟩,_⟩:=h';refine⟨⟨G,h.par.grow ((Below.refl X.heap.size X).alloc nlr o),?_,?_,?_⟩,hd⟩
 .intro p hp
  rcases List.mem_cons.1 hp with rfl|hp
  .exact World.alloc_heap_new X o
  .exact h'.own p hp
 .intro p hp
  rcases List.mem_cons.1 hp with rfl|hp
  .exact⟨ha,fun e=>by have:=(h.par.mem _ e).2;simp only at this;omega⟩
  .exact h.out p hp
 .refine List.nodup_cons.2 ⟨fun e=>?_,h.nd⟩
  obtain⟨p,hp,e⟩:=List.mem_map.1 e;have:=(Array.getElem?_eq_some_iff.1 (hw p hp)).1;simp only at e;omega
theorem PQ.turned{c:PC}{s:PS}{b:Nat}{o:Obj}{F:List (Nat×Obj)}{d:Nat}{X Y:World}(h:PQ c s ((b,o)::F) d X)(ht:Turns (fun i=>i=b) X Y):PQ c s F d Y:=by
 obtain⟨⟨G,h⟩,hd⟩:=h;obtain⟨h1,h2⟩:=h.out (b,o) (List.mem_cons_self ..);have hn:=List.nodup_cons.1 h.nd;refine⟨⟨G,h.par.turns ht (fun i hi e=>h2 (by subst e;exact hi)) (fun i e=>by subst e;simp only at h1;omega),fun p hp=>?_,fun p hp=>h.out p (List.mem_cons_of_mem _ hp),hn.2⟩,hd⟩;have h3:=h.own p (List.mem_cons_of_mem _ hp);exact(ht.block p.1 (Array.getElem?_eq_some_iff.1 h3).1 (fun e=>hn.1 (by show b∈_;rw[<-e];exact List.mem_map_of_mem hp))).trans h3
theorem PQg.step{c:PC}{s s':PS}{F:List (Nat×Obj)}{G G':Nat->Prop}{X Y:World}(h:PQg c s F G X)(hp:IsPar c.w0 c.E c.ta c.tc c.iv s' G' Y)(hs:StepG G X G' Y):PQg c s' F G' Y:=
 ⟨hp,fun p hp=>(hs.turns.block p.1 (Array.getElem?_eq_some_iff.1 (h.own p hp)).1 (h.out p hp).2).trans (h.own p hp),fun p hp=>⟨(h.out p hp).1,fun e=>by
  rcases hs.news p.1 e with h1|h1
  .exact(h.out p hp).2 h1
  .have:=(Array.getElem?_eq_some_iff.1 (h.own p hp)).1;omega⟩,h.nd⟩
theorem PQ.w0{c:PC}{s:PS}{F:List (Nat×Obj)}{d:Nat}{X:World}(h:PQ c s F d X):Below c.w0.heap.size c.w0 X:=by
 obtain⟨⟨G,h⟩,_⟩:=h;exact h.par.below
theorem PQ.lt{c:PC}{s:PS}{F:List (Nat×Obj)}{d:Nat}{X:World}(h:PQ c s F d X):c.w0.heap.size<X.heap.size:=by
 obtain⟨⟨G,h⟩,_⟩:=h;exact h.par.lt
abbrev tkA(t:Tk):Value:=.agg #[.int .u8 t.kind,strV t.text,intV t.pos]
abbrev tkO(t:Tk):Obj:=.cells #[.int .u8 t.kind,strV t.text,intV t.pos] 143
abbrev tkZ:Obj:=.cells #[.int .u8 0,.string ByteArray.empty,intV 0] 143
theorem za{X:World}{b i:Nat}{cs:Array Value}{T:TypeId}{v:Value}(h:X.heap[b]?=some (.cells cs T))(hv:cs[i]?=some v):X.cell? ⟨b,i,none⟩=some v:=by
 simp[World.cell?,h,hv]
theorem zr{X:World}{b i:Nat}{cs:Array Value}{T:TypeId}(h:X.heap[b]?=some (.cells cs T)):X.frozen? ⟨b,i,none⟩=false:=by
 simp[World.frozen?,h]
theorem Own.tk{F:List (Nat×Obj)}{X:World}(h:Own F X){b:Nat}{t:Tk}(hm:(b,tkO t)∈F):X.cell? ⟨b,0,none⟩=some (.int .u8 t.kind)/\X.cell? ⟨b,1,none⟩=some (strV t.text)/\X.cell? ⟨b,2,none⟩=some (intV t.pos):=
 ⟨za (h _ hm) rfl,za (h _ hm) rfl,za (h _ hm) rfl⟩
theorem Own.tkz{F:List (Nat×Obj)}{X:World}(h:Own F X){b:Nat}(hm:(b,tkZ)∈F):(X.cell? ⟨b,0,none⟩=some (.int .u8 0)/\X.cell? ⟨b,1,none⟩=some (.string ByteArray.empty)/\X.cell? ⟨b,2,none⟩=some (intV 0))/\(∀i,X.frozen? ⟨b,i,none⟩=false)/\b<X.heap.size:=
 ⟨⟨za (h _ hm) rfl,za (h _ hm) rfl,za (h _ hm) rfl⟩,fun _=>zr (h _ hm),(Array.getElem?_eq_some_iff.1 (h _ hm)).1⟩
theorem cU{c:PC}(he:OkC c){s:PS}{F:List (Nat×Obj)}{d:Nat}{X:World}(h:PQ c s F d X){T:Tk}(hT:zh c.E s=T) :
 Calls prog 131 #[c.ptr] X fun e Y=>e=.returned (tkA T)/\PQ c s F d Y:=by
 have h0:=h;obtain⟨⟨G,h⟩,_⟩:=h;refine(QLook2 he h.par hT).mono ?_;rintro e w⟨rfl,hb⟩;exact⟨rfl,h0.below hb⟩
theorem pI{c:PC}(he:OkC c){s:PS}{F:List (Nat×Obj)}{d:Nat}{X:World}(h:PQ c s F d X){T:Tk}(hT:zh c.E s=T) :
 Calls prog 132 #[c.ptr] X (Thrown c.w0 T.pos):=by
 obtain⟨⟨G,h⟩,_⟩:=h;exact uU he h.par hT
theorem QIsP{c:PC}(he:OkC c){s:PS}{F:List (Nat×Obj)}{d:Nat}{X:World}(h:PQ c s F d X)(x:List UInt8){n:Nat}(hn:X.heap.size=n){b:Bool}(hb:isP c.E s x=b) :
 Calls prog 172 #[c.ptr,.slice (some ⟨n,0,none⟩) 1 1] (X.alloc (.cells #[strV x] 9)) fun e Y=>e=.returned (.bool b)/\PQ c s F d Y:=by
 subst hn;have h1:=h.below ((Below.refl X.heap.size X).alloc nlr (.cells #[strV x] 9));have h0:=h1;obtain⟨⟨G,h⟩,_⟩:=h1;refine(OU he h.par rfl (l:=[x]) (by simp) (cN _ _ _)).mono ?_;rintro e w⟨rfl,hw⟩;exact⟨by rw[<-hb];rfl,h0.below hw⟩
theorem lR{c:PC}(he:OkC c){s:PS}{F:List (Nat×Obj)}{d:Nat}{X:World}(h:PQ c s F d X){T:Tk}(hT:zh c.E s=T)(hlt:s.next<c.E.toks.length) :
 Calls prog 133 #[c.ptr] X fun e Y=>e=.returned (tkA T)/\PQ c s.take F (d+1) Y:=by
 obtain⟨⟨G,h⟩,hd⟩:=h;refine(uW he h.par hT hlt).mono ?_;rintro e w⟨rfl,hp,hs⟩;exact⟨rfl,⟨_,h.step hp hs⟩,by simp only[PS.take];omega⟩
def RdT(c:PC)(F:List (Nat×Obj))(d:Nat)(s:PS)(S:PR PS)(e:Ending)(Y:World):Prop:=
 (∃pos,S=.error pos/\Thrown c.w0 pos e Y)\/(S=.ok s.take/\s.next<c.E.toks.length/\e=.returned (tkA (zh c.E s))/\PQ c s.take F (d+1) Y)
theorem sP{Y:World}{b:Nat}{u0 u1 u2:Value}(a0 a1 a2:Value)(h0:Y.cell? ⟨b,0,none⟩=some u0)(h1:Y.cell? ⟨b,1,none⟩=some u1)(h2:Y.cell? ⟨b,2,none⟩=some u2) :
 ∃X,((Y.setCell ⟨b,0,none⟩ a0).setCell ⟨b,1,none⟩ a1).setCell ⟨b,2,none⟩ a2=X/\(X.cell? ⟨b,0,none⟩=some a0/\X.cell? ⟨b,1,none⟩=some a1/\X.cell? ⟨b,2,none⟩=some a2)/\Turns (fun i=>i=b) Y X:=by
 refine⟨_,rfl,⟨?_,?_,?_⟩,((Turns.setCell (M:=fun i=>i=b) (a:=⟨b,0,none⟩) rfl a0).trans (Turns.setCell (M:=fun i=>i=b) (a:=⟨b,1,none⟩) rfl a1)).trans (Turns.setCell (M:=fun i=>i=b) (a:=⟨b,2,none⟩) rfl a2)⟩;all_goals go_simp
theorem GK{c:PC}(he:OkC c){s:PS}{F:List (Nat×Obj)}{d:Nat}{X:World}(h:PQ c s F d X)(x:List UInt8) :
 Calls prog 134 #[c.ptr,strV x] X (RdT c F d s (cC c.E s x)):=by
 have HE:=Hd he;have HP:=Hd h;clear he h;obtain⟨T,hT⟩:∃T,zh c.E s=T:=⟨_,rfl⟩
 have Hb:=Hd hT;obtain⟨k,tx,pos⟩:=T
 cases ht:isP c.E s x with
 | true=>
   have Ha:=Hd ht;have hc:s.next<c.E.toks.length:=fT ht;have HS:Hid (cC c.E s x=.ok s.take):=Hd (by unfold cC;rw[ht];rfl);clear ht hT;go_enter func134,ntmps134
   go_wp2_with (first
    | (go_at_call 172;refine(QIsP HE.o (HP.o.alloc tkZ) x (by simp) Ha.o).mono ?_;rintro e w1 ⟨rfl,ha⟩;have Hc:=Hd ha;clear ha)
    | (go_at_call 133;refine(lR HE.o Hc.o Hb.o hc).mono ?_;rintro e w2 ⟨rfl,hb⟩;obtain⟨⟨z0,z1,z2⟩,zf,hg⟩:=hb.own.tkz (List.mem_cons_self ..);have zf0:=zf 0;have zf1:=zf 1;have zf2:=zf 2;clear zf;have He:=Hd hb;clear hb))
   obtain⟨Y,hY,⟨y0,y1,y2⟩,hf⟩:=sP (.int .u8 k) (.string ⟨tx.toArray⟩) (intV pos) z0 z1 z2;rw[hY];clear hY;refine bodyPost_ret (by simp[results,results134,go_sem,loadVar,y0,y1,y2,Result.andThen];rfl) rfl ?_;exact .inr ⟨HS.o,hc,by rw[Hb.o],He.o.turned hf⟩
 | false=>
   have Ha:=Hd ht;have HS:Hid (cC c.E s x=.error pos):=Hd (by unfold cC;rw[ht,hT];rfl);clear ht hT;go_enter func134,ntmps134
   go_wp2_with (first
    | (go_at_call 172;refine(QIsP HE.o (HP.o.alloc tkZ) x (by simp) Ha.o).mono ?_;rintro e w1 ⟨rfl,ha⟩;have Hc:=Hd ha;clear ha)
    | (go_at_call 132;refine(pI HE.o Hc.o Hb.o).mono ?_;rintro e w2 ⟨rfl,hd⟩))
   exact⟨rfl,.inl ⟨pos,HS.o,rfl,hd⟩⟩
theorem IK:prog.underlying 122=some (.slice 143):=by kernel_rfl
theorem MK:(prog.info? 143).map (fun i=>(i.zero,i.size,i.bytes))=some (some (.agg #[.int .u8 0,.string ⟨#[]⟩,.int .i64 0]),3,32):=by kernel_rfl
theorem pO:∀(l:List Tk) (t:Tk),gV (l++[t])=gV l++t.cells
 | [],t=>by simp[gV]
 |x::l,t=>by simp[gV,pO l t]
theorem QH(t:Tk):∀u∈t.cells,u.oneCell'=true:=by
 intro u hu;simp[Tk.cells]at hu;rcases hu with rfl|rfl|rfl<;>rfl
abbrev OwnT(W:World)(B:Nat)(a:Option Addr)(c:Nat)(l:List Tk):Prop:=W.ownsRow B 143 3 (.slice a l.length c) l.length (gV l)
theorem CU{s:List UInt8}(h:(tokF s).1≠0):1<=(tokF s).2.length/\(tokF s).2.length<=s.length:=by
 cases s with
 |nil=>exact absurd rfl h
 | cons c l=>
   unfold tokF at h|-;simp only at h|-;have hp:=oB fG (c::l);have hd:=oB aF (c::l);unfold twl at hp hd;by_cases hs:mL c=true
   .have h1:1<=((c::l).takeWhile fG).length:=by
     rw[List.takeWhile_cons,if_pos (show fG c=true by rw[QC];unfold JO;rw[show qZ (c.toNat:Int)=true from hs];rfl)];simp
    rw[if_pos hs]at h|-;split at h
    .rename_i hk;rw[if_pos hk];exact⟨h1,hp⟩
    .rename_i hk
     rw[if_neg hk];split at h
     .rename_i hk2;rw[if_pos hk2];exact⟨h1,hp⟩
     .exact absurd rfl h
   .rw[if_neg hs]at h|-
    by_cases hg:aF c=true
    .have h1:1<=((c::l).takeWhile aF).length:=by
      rw[List.takeWhile_cons,if_pos hg];simp
     rw[if_pos hg]at h|-;split at h
     .rename_i hk;rw[if_pos hk];exact⟨h1,hd⟩
     .exact absurd rfl h
    .rw[if_neg hg]at h|-
     cases hf:signsL.find? (fun g=>g.isPrefixOf (c::l))with
     |none=>rw[hf]at h;exact absurd rfl h
     | some g=>
       simp only;have hm:=List.mem_of_find?_eq_some hf;have hx:=List.find?_some hf;have h1:∀g∈signsL,1<=g.length:=by decide
       exact⟨h1 g hm,(List.isPrefixOf_iff_prefix.1 hx).length_le⟩
def OZ(w:World)(r:Except (Int×Int) (List Tk))(e:Ending)(w':World):Prop:=
 match r with
 |.error p=>e=.returned (.tuple #[.slice none 0 0,intV p.1,intV p.2])/\Below w.heap.size w w'
 |.ok l=>∃a c,e=.returned (.tuple #[.slice a l.length c,intV 0,intV 0])/\OwnT w' w.heap.size a c l/\Below w.heap.size w w'
theorem NK{s:List UInt8}{f n:Nat}{l:List Tk}(h:¬n<s.length):nH s f n l=.ok l:=by
 cases f with
 |zero=>rfl
 |succ f=>unfold nH;rw[if_neg h]
theorem JS{s:List UInt8}{f n:Nat}{l:List Tk}(h:n<s.length){kd:Int}{tx:List UInt8}(ht:tokF (s.drop n)=(kd,tx)):nH s (f+1) n l =
 if kd==0 then .error ((n:Int),4)else if l.length=800 then .error ((n:Int),5)else nH s f (n+tx.length+cB false (s.drop (n+tx.length))) (l++[⟨kd,tx,n⟩]):=by
 conv=>lhs;unfold nH
 rw[if_pos h,ht]
theorem GS(s:List UInt8)(w:World)(hs:s.length<=1000000000)(hg:GV w) :
 Calls prog 61 #[strV s] w (OZ w (nI s)):=by
 have HC:=Hd (xE s w hs);have HG:=Hd hg;clear hg;obtain⟨p1,h1⟩:∃p,(fP s).1=p:=⟨_,rfl⟩
 obtain⟨p2,h2⟩:∃p,(fP s).2=p:=⟨_,rfl⟩
 have H1:=Hd h1;have H2:=Hd h2;cases hz:(p2 != 0)with
 | true=>
   have HR:Hid (nI s=.error (p1,p2)):=Hd (by
    unfold nI
    rw[h2,if_pos hz,<-h1,<-h2])
   clear h1 h2;go_enter func61,ntmps61
   go_wp2_with (go_at_call 86;refine HC.o.mono ?_;rw[H1.o,H2.o];rintro e w1 ⟨rfl,he⟩;have Hc:=Hd he;clear he)
   go_ret3
   rw[HR.o];exact⟨rfl,Hc.o⟩
 | false=>
   have HR:Hid (nI s=nH s (s.length+1) (cB false s) []):=Hd (by
    unfold nI
    rw[h2,if_neg (by rw[hz];exact Bool.false_ne_true)])
   have hq:=lK false s;obtain⟨n0,hh⟩:∃n,cB false s=n:=⟨_,rfl⟩
   rw[hh]at hq;have Hi:=Hd hh;clear h1 h2 hh;go_enter func61,ntmps61
   go_wp2_with (first
    | (go_at_call 86;refine HC.o.mono ?_;rw[H1.o,H2.o];rintro e w1 ⟨rfl,he⟩;have Hc:=Hd he;clear he)
    | (go_at_call 87;refine(uZ s _ hs).mono ?_;rw[Hi.o];rintro e w2 ⟨rfl,rfl⟩))
   go_loopw [2,3] (fun t2 t3 wr=>∃(a:Option Addr) (c:Nat) (l:List Tk) (n f:Nat),t2=.slice a l.length c/\t3=.int .i64 n/\n<=s.length/\Hid (nI s=nH s f n l)/\Hid (s.length+1<=f+n/\l.length<=800)/\Hid (OwnT wr w.heap.size a c l)/\Hid (Below w.heap.size w wr)) (fun _ t3 _=>s.length-(intOf t3).toNat)
   case atStart=>exact⟨none,0,[],n0,s.length+1,rfl,rfl,hq,Hd (by rw[HR.o,Hi.o]),Hd ⟨by omega,by simp⟩,Hd ⟨rfl,.inl ⟨rfl,rfl⟩⟩,Hc⟩
   case round=>
    obtain⟨a,c,l,n,f,rfl,rfl,hn,Hk,Hg,HO,HB⟩:=hrel;by_cases hlt:n<s.length
    .obtain⟨f,rfl⟩:∃g,f=g+1:=⟨f-1,by have:=Hg.o.1;omega⟩
     obtain⟨kd,hk⟩:∃kd,(tokF (s.drop n)).1=kd:=⟨_,rfl⟩
     obtain⟨tx,hr⟩:∃tx,(tokF (s.drop n)).2=tx:=⟨_,rfl⟩
     have hd:tokF (s.drop n)=(kd,tx):=by rw[<-hk,<-hr]
     have ha:=Hk.o.trans (JS hlt hd);have Hh:=Hd hd;have He:=HB.o.size;have Hf:=Hd (kE (s.drop n) wr (by simp;omega) (HG.o.mono HB.o nlr));have hp:=Hg.o.2;clear hk hr;cases hk0:(kd==0)with
     | true=>
       rw[if_pos hk0]at ha;have Ha:=Hd ha;clear ha hd
       go_wp2_with (go_at_call 77;refine Hf.o.mono ?_;rw[Hh.o];rintro e w3 ⟨rfl,hb⟩;have Hb:=Hd (HB.o.trans (hb.mono He));clear hb)
       go_ret3
       rw[Ha.o];exact⟨rfl,Hb.o⟩
     | false=>
       rw[if_neg (by rw[hk0];exact Bool.false_ne_true)]at ha;obtain⟨hl,ho⟩:=CU (s:=s.drop n) (by rw[hd];intro e;simp only at e;rw[e]at hk0;cases hk0);rw[hd,List.length_drop]at ho;rw[hd]at hl;simp only at hl ho;by_cases h8:l.length=800
       .rw[if_pos h8]at ha
        have Ha:=Hd ha;have ht:((l.length:Int)==800)=true:=by rw[h8];rfl
        clear ha hd h8
        go_wp2_with (go_at_call 77;refine Hf.o.mono ?_;rw[Hh.o];rintro e w3 ⟨rfl,hb⟩;have Hb:=Hd (HB.o.trans (hb.mono He));clear hb)
        go_ret3
        rw[Ha.o];exact⟨rfl,Hb.o⟩
       .rw[if_neg h8]at ha
        have Ha:=Hd ha;have ht:((l.length:Int)==800)=false:=by rw[beq_eq_false_iff_ne];omega
        have hf:=lK false (s.drop (n+tx.length));rw[List.length_drop]at hf;obtain⟨m,hm⟩:∃m,cB false (s.drop (n+tx.length))=m:=⟨_,rfl⟩
        rw[hm]at hf;have HM:=Hd hm;clear ha hd hm
        go_wp2_with (first
         | (go_at_call 77;refine Hf.o.mono ?_;rw[Hh.o];rintro e w3 ⟨rfl,hb⟩;have Hb:=Hd (HB.o.trans (hb.mono He));have Hj:=Hd (zL HO.o hb);clear hb)
         | (at_builtin;have hi:=Hb.o.size;refine eF (news:=(⟨kd,tx,(n:Int)⟩:Tk).cells) rfl (.tmp 46) (.tmp 51) 122 143 (.agg #[.int .u8 0,.string ⟨#[]⟩,.int .i64 0]) 3 32 rfl IK MK rfl (by decide) rfl (Hj.o.alloc _) rfl (Row.made w3 (⟨kd,tx,(n:Int)⟩:Tk).cells 143 rfl nlr) (QH _) (by unfold maxLen;omega) (by omega) (by simp;omega) ?_;intro a9 c9 w9 hc hj hu;have Hm:Hid (OwnT w9 w.heap.size a9 c9 (l++[⟨kd,tx,(n:Int)⟩])):=Hd (by unfold OwnT;rw[pO,List.length_append];exact hc);have Hl:=Hd (dD (Hj.o.alloc _) hj (by simp;omega) _ _ nlr (Hb.o.alloc (by omega) _));clear hc hj hu hi)
         | (go_at_call 87;refine(uZ (s.drop (n+tx.length)) _ (by simp;omega)).mono ?_;rw[HM.o];rintro e w4 ⟨rfl,rfl⟩))
        go_roundw
        case rel=>exact⟨a9,c9,l++[⟨kd,tx,(n:Int)⟩],n+tx.length+m,f,by simp,by go_num,by omega,Hd (by rw[Ha.o,HM.o]),Hd ⟨by have:=Hg.o.1;omega,by simp;omega⟩,Hm,Hl⟩
        case measure=>simp[intOf];omega
    .have Ha:=Hd (Hk.o.trans (NK hlt))
     go_wp2
     go_ret3
     rw[Ha.o];exact⟨a,c,rfl,HO.o,HB.o⟩
end
end Go.Proofs.YtcdkdiedphhdhaaGreatDoor
