/- Part of a proof. -/
import Derived.Test.YtokdgiphdnjeoaaGreatDoorQ10
import Derived.Test.YtokdgiphdnjeoaaGreatDoorQ28
import Derived.Test.YtokdgiphdnjeoaaGreatDoorQ35
import Derived.Maps.OwnIn
set_option maxRecDepth 100000
set_option maxHeartbeats 8000000
set_option linter.unusedVariables false
set_option linter.unusedSimpArgs false
open Go.Proofs.Tryz
namespace Go.Proofs.YtokdgiphdnjeoaaGreatDoor
section
open Go Go.RowKit Go.Maps
def rdB:Value→Option (DataW Unit×List MemPlace)
 |.bool b=>some (.lit (.bool b),[])
 |_=>none
theorem FE{v:Value}{b:Bool}{ps:List MemPlace}(h:rdB v=some (.lit (.bool b),ps)):v=.bool b:=by
 unfold rdB at h;split at h<;>simp at h;rw[h.1]
abbrev OwnB(X:World)(b n:Nat)(D:DataW Unit):Prop:=X.ownsMap prog 9 rdB b n D
def BoolMap(D:DataW Unit)(S:List UInt8→Bool):Prop:=IsMap D∧∀x:List UInt8,D.atKey (.string x) (.lit (.bool false))=.lit (.bool (S x))
theorem BoolMap.empty:BoolMap (.map []) (fun _=>false):=⟨⟨_,rfl⟩,fun _=>rfl⟩
theorem BoolMap.put{D:DataW Unit}{S:List UInt8→Bool}(h:BoolMap D S)(k:List UInt8):BoolMap (D.put (.string k) (.lit (.bool true))) (fun x=>(k==x)||S x):=by
 refine⟨bG h.1 _ _,fun x=>?_⟩;rw[eX h.1];show _=DataW.lit (.bool ((k==x)||S x))
 by_cases e:x=k
 ·subst e;rw[if_pos rfl];simp
 ·rw[if_neg e,h.2 x,show(k==x)=false by simpa using fun e2=>e e2.symm];rfl
theorem BoolMap.congr{D:DataW Unit}{S S':List UInt8→Bool}(h:BoolMap D S)(e:∀x,S x=S' x):BoolMap D S':=⟨h.1,fun x=>(h.2 x).trans (by rw[e])⟩
theorem sU:prog.underlying 176=some (.map 9 4):=by kernel_rfl
theorem vS(w:World):(zeroValue 4).run prog w=.ok (.bool false) w:=by kernel_rfl
theorem EK{X:World}{b n:Nat}{D:DataW Unit}{S:List UInt8→Bool}(h:OwnB X b n D)(hS:BoolMap D S){s:List UInt8}(hs:s.length≤1000000000) :
 (Instr.lookup 176 (.map (some b)) (strV s) false).run prog X=.ok (.bool (S s)) X:=by
 obtain⟨v,ps,hrun,hv⟩:=h.lookup zE sU (vS X) (zd:=.lit (.bool false)) (zp:=[]) rfl (WideMaps.keyOf_string_mk jZ (s:=⟨s.toArray⟩) (by simp[ByteArray.size,maxLen];omega));rw[hS.2]at hv;rw[hrun,FE hv]
theorem sI{s:List UInt8}(h:s.length≤1000000000):keyOf prog 9 (strV s)=some (.string s):=WideMaps.keyOf_string_mk jZ (s:=⟨s.toArray⟩) (by simp[ByteArray.size,maxLen];omega)
theorem qD{F:Fence}{nF:Nat}{W:World}{ops:Array Oper}{rest:List Oper}{o:Oper}{a:Act}{Q:Exit→Act→World→Prop}(hgd:o.guard=none)(s x:Operand)
 (ho:o.op=.call { callee:=.builtin .append,args:=#[s,x],argTypes:=#[23,23] })(hty:o.type=23)
 {B:Nat}{av:Option Addr}{cv:Nat}{l:List Int}(hs:a.eval s=.slice av l.length cv)(hown:OwnI W B av cv l)
 {ax:Option Addr}{m c:Nat}{news:List Int}(hx:a.eval x=.slice ax m c)(hr:Row 1 W ax m c (zm news))
 (hbytes:l.length+m≤4398046511104)(hB:B≤W.heap.size)
 (h:∀a' c' w' l',Hid (l'=l++news)→OwnI w' B a' c' l'→(∀B' A,B'≤B→Below B' A W→Below B' A w')→(∀g,g<W.heap.size→gK av g→w'.heap[g]?=W.heap[g]?∧gK a' g)→wpListIn F nF prog ops Q rest (a.put o.dst (.slice a' l'.length c')) w'):wpListIn F nF prog ops Q (o::rest) a W:=by
 have hm:m=news.length:=by have:=hr.1;simpa using this.symm
 subst hm;refine wpListIn_plain hgd fun K hK=>?_;obtain⟨i0,hi,hz0,hz1,hz2⟩:=info_parts jU;obtain⟨v',w',hrun,h2,h3⟩:=aZ (P:=prog) W B 23 o.type 3 i0 (.int .i64 0) 1 8 bM hi hz0 hz1 hz2 rfl (by decide) (.slice av l.length cv) l.length _ hown ax news.length c _ hr (fC _) (by unfold maxLen;omega) (by omega) hB;obtain⟨a',c',rfl,_⟩:=bK h2;have hw:=dM (P:=prog) W B 23 o.type 3 i0 (.int .i64 0) 1 8 bM hi hz0 hz1 hz2 rfl (by decide) av l.length cv _ hown ax news.length c _ hr (fC _) (by unfold maxLen;omega) (by omega) hB hrun;have e:l.length+news.length=(l++news).length:=by simp
 have e2:zm l++zm news=zm (l++news):=by simp
 rw[e,e2]at h2;have hfin:=h a' c' w' (l++news) (Hd rfl) h2 (eC hown h3 hB) (kP h3 hw);rw[←e]at hfin;unfold Oper.wpIn;refine⟨?_,?_⟩
 ·simp[Oper.about,ho,resolve,Target.leads,Sem.run_pure]
 ·rw[Oper.semAt_plain F _ _ (by rw[ho];intro c hc';cases hc')]
  simp[execOp,ho,resolve,invoke,builtin,hs,hx,hrun,Result.andThen];exact hK _ _ hfin
theorem mA(t:Tr)(d:Int):∀(l:List Int) (seen:List (List UInt8)),visF t seen (l++[d])=visF t seen l++(if !(seen.contains (t.nd d).text||(l.map fun x=>(t.nd x).text).contains (t.nd d).text)&&suits 3 (t.nd d).kind then [d]else [])
 | [],seen=>by simp[visF]
 | x::l,seen=>by
   rw[List.cons_append,visF,mA t d l,visF,List.append_assoc];congr 2;rw[List.contains_cons,List.map_cons,List.contains_cons];rw[show((t.nd d).text==(t.nd x).text)=((t.nd x).text==(t.nd d).text)from BEq.comm];cases ((t.nd x).text==(t.nd d).text)<;>simp
def nE(t:Tr)(l:List Int)(x:List UInt8):Bool:=(l.map fun d=>(t.nd d).text).contains x
theorem BV(t:Tr)(l:List Int)(d:Int)(x:List UInt8):nE t (l++[d]) x=(((t.nd d).text==x)||nE t l x):=by
 unfold nE;rw[Bool.eq_iff_iff,Bool.or_eq_true,List.contains_iff_mem,List.contains_iff_mem,List.map_append,List.mem_append,beq_iff_eq];constructor
 ·rintro(h|h)
  ·exact .inr h
  ·exact .inl (List.mem_singleton.1 h).symm
 ·rintro(h|h)
  ·exact .inr (List.mem_singleton.2 h.symm)
  ·exact .inl h
theorem LB{t:Tr}{l:List Int}{d:Int}(h1:nE t l (t.nd d).text=false)(h2:suits 3 (t.nd d).kind=true):visF t [] (l++[d])=visF t [] l++[d]:=by
 rw[mA];unfold nE at h1;rw[h1,h2];rfl
theorem LA{t:Tr}{l:List Int}{d:Int}(h1:nE t l (t.nd d).text=true):visF t [] (l++[d])=visF t [] l:=by
 rw[mA];unfold nE at h1;rw[h1];simp
theorem CC{t:Tr}{l:List Int}{d:Int}(h2:suits 3 (t.nd d).kind=false):visF t [] (l++[d])=visF t [] l:=by
 rw[mA,h2];simp
theorem kZ(t:Tr):∀(l:List Int) (seen:List (List UInt8)),(visF t seen l).length≤l.length
 | [],_=>by simp[visF]
 | d::l,seen=>by
   rw[visF,List.length_append,List.length_cons];have:=kZ t l ((t.nd d).text::seen);split<;>simp<;>omega
def VisN(h B:Nat):Nat→Prop:=fun i=>i=h∨B≤i
structure VisI (w w0:World) (h B:Nat) (p:ProgV) (t:Tr) (L:List Int) (G:Nat→Prop) (X:World):Prop where
 kept:Kept w0 X
 below:Below w.heap.size w X
 list:∃(a:Option Addr) (c:Nat) (q:List Int),X.cell? ⟨h,0,none⟩=some (.slice a q.length c)∧Hid (q=visF t [] L)∧OwnI X (B+1+1+1) a c q∧∀x,a=some x→¬G x.block
 fr:X.frozen? ⟨h,0,none⟩=false
 c6:X.cell? ⟨B,0,none⟩=some p.ptr
 c7:X.cell? ⟨B+1+1,0,none⟩=some (.map (some (B+1)))
 mp:∃D,OwnB X (B+1) L.length D∧BoolMap D (nE t L)
 g:¬G h∧¬G B∧¬G (B+1)∧¬G (B+1+1)
 low:∀i,G i→VisN h B i∧i<X.heap.size
theorem VisI.lt{w w0 X:World}{h B:Nat}{p:ProgV}{t:Tr}{L:List Int}{G:Nat→Prop}(H:VisI w w0 h B p t L G X):h<X.heap.size∧B+1+1<X.heap.size:=by
 obtain⟨a,c,q,hc,_⟩:=H.list;exact⟨World.block_lt_of_cell? X _ hc,World.block_lt_of_cell? X _ H.c7⟩
theorem VisI.step{w w0 X Y:World}{h B:Nat}{p:ProgV}{t:Tr}{L:List Int}{G G':Nat→Prop}(ha:Apart (VisN h B) w0)(hh:w.heap.size≤h)(hB:w.heap.size≤B)(H:VisI w w0 h B p t L G X)(s:StepG G X G' Y):VisI w w0 h B p t L G' Y:=by
 obtain⟨l0,l1⟩:=H.lt;obtain⟨h1,h2,⟨a,c,q,h3,hq,h4,h5⟩,h6,h7,h8,⟨D,h9,h10⟩,⟨g0,g1,g2,g3⟩,hl⟩:=H;have nw:∀i,i<X.heap.size→¬G i→¬G' i:=fun i hi hn hc=>(s.news i hc).elim hn (fun e=>by omega);have hla:∀x,a=some x→x.block<X.heap.size:=fun x e=>(h4.lt x.block (by rw[e];rfl)).2
 refine⟨h1.turns ha s.turns (fun i hi=>(hl i hi).1),h2.trans (s.turns.below (fun i hi=>by have:=(hl i hi).1;unfold VisN at this;omega) h2.size),⟨a,c,q,(s.turns.cell l0 g0).trans h3,hq,bR h4 s.turns (fun i ⟨x,e,e2⟩ hi=>h5 x e (by rw[e2];exact hi)),fun x e=>nw _ (hla x e) (h5 x e)⟩,
  (s.turns.frozen l0 g0).trans h6,(s.turns.cell (by omega) g1).trans h7,(s.turns.cell l1 g3).trans h8,⟨D,?_,h10⟩,⟨nw _ l0 g0,nw _ (by omega) g1,nw _ (by omega) g2,nw _ l1 g3⟩,fun i hi=>⟨?_,s.lt i hi⟩⟩
 ·obtain⟨es,cl,hb,F,hs,hD⟩:=h9
  exact⟨es,cl,(s.turns.block (B+1) (by omega) g2).trans hb,F,hs,hD⟩
 ·rcases s.news i hi with h|h
  ·exact(hl i h).1
  ·exact .inr (by omega)
theorem VisI.grow{w w0 X Y:World}{h B:Nat}{p:ProgV}{t:Tr}{L:List Int}{G:Nat→Prop}(ha:Apart (VisN h B) w0)(hh:w.heap.size≤h)(hB:w.heap.size≤B)(H:VisI w w0 h B p t L G X)(hb:Below X.heap.size X Y):VisI w w0 h B p t L G Y:=
 H.step ha hh hB (StepG.of_below hb fun i hi=>(H.low i hi).2)
theorem VisI.mark{w w0 X Y:World}{h B:Nat}{p:ProgV}{t:Tr}{L:List Int}{G:Nat→Prop}(ha:Apart (VisN h B) w0)(hB:w.heap.size≤B)(hhB:h<B)(h1:Kept w0 X)(h2:Below w.heap.size w X)(h6:X.frozen? ⟨h,0,none⟩=false)
 (h7:X.cell? ⟨B,0,none⟩=some p.ptr)(h8:X.cell? ⟨B+1+1,0,none⟩=some (.map (some (B+1))))(hG:¬G h∧¬G B∧¬G (B+1)∧¬G (B+1+1))(hl:∀i,G i→VisN h B i∧i<X.heap.size){d:Int}{q:List Int}{a:Option Addr}{c:Nat}
 (hc:X.cell? ⟨h,0,none⟩=some (.slice a q.length c))(hown:OwnI X (B+1+1+1) a c q)(hna:∀x,a=some x→¬G x.block)(hq:Hid (q=visF t [] (L++[d])))
 {D:DataW Unit}(hD:BoolMap D (nE t L))(hm:OwnB Y (B+1) (L.length+1) (D.put (.string (t.nd d).text) (.lit (.bool true))))(hg:X.grownBy Y (some (B+1))):VisI w w0 h B p t (L++[d]) G Y∧Keeps (VisN h B) G X Y:=by
 have l0:h<X.heap.size:=World.block_lt_of_cell? X _ hc;have l1:B+1+1<X.heap.size:=World.block_lt_of_cell? X _ h8;obtain⟨g0,g1,g2,g3⟩:=hG;have ht:Turns (fun i=>i=B+1) X Y:=⟨hg.os,hg.tape,hg.output,hg.size,fun i hi hn=>hg.block i hi (by simpa using hn)⟩
 have hla:∀x,a=some x→B+1+1+1≤x.block:=fun x e=>(hown.lt x.block (by rw[e];rfl)).1
 refine⟨⟨h1.turns ha ht (fun i hi=>.inr (by omega)),h2.trans (ht.below (fun i hi=>by omega) h2.size),⟨a,c,q,(ht.cell l0 (by omega)).trans hc,hq,bR hown ht (fun i ⟨x,e,e2⟩ hi=>by have:=hla x e;omega),hna⟩,
  (ht.frozen l0 (by omega)).trans h6,(ht.cell (by omega) (by omega)).trans h7,(ht.cell l1 (by omega)).trans h8,⟨_,?_,(hD.put (t.nd d).text).congr fun x=>(BV t L d x).symm⟩,⟨g0,g1,g2,g3⟩,fun i hi=>⟨(hl i hi).1,Nat.lt_of_lt_of_le (hl i hi).2 ht.size⟩⟩,ht.mono fun i _ hi=>⟨fun e=>g2 (hi▸e),.inr (by omega)⟩⟩
 rw[List.length_append];exact hm
theorem VisI.pushed{w w0 X W5:World}{h B:Nat}{p:ProgV}{t:Tr}{L:List Int}{G:Nat→Prop}(ha:Apart (VisN h B) w0)(hB:w.heap.size≤B)(hhw:w.heap.size≤h)(hhB:h<B)(H:VisI w w0 h B p t L G X){a a':Option Addr}{c c':Nat}{q q':List Int}
 (hown:OwnI X (B+1+1+1) a c q)(hna:∀x,a=some x→¬G x.block)(hown':OwnI W5 (B+1+1+1) a' c' q')(hkeep:∀B' A,B'≤B+1+1+1→Below B' A X→Below B' A W5)(hap:∀g,g<X.heap.size→gK a g→W5.heap[g]?=X.heap[g]?∧gK a' g) :
 ∃ Y,W5.setCell ⟨h,0,none⟩ (.slice a' q'.length c')=Y∧W5.cell? ⟨h,0,none⟩=X.cell? ⟨h,0,none⟩∧W5.frozen? ⟨h,0,none⟩=false∧Keeps (VisN h B) G X Y∧Y.cell? ⟨h,0,none⟩=some (.slice a' q'.length c')∧OwnI Y (B+1+1+1) a' c' q'∧(∀x,a'=some x→¬G x.block)∧Y.frozen? ⟨h,0,none⟩=false ∧
   Kept w0 Y∧Below w.heap.size w Y∧Y.cell? ⟨B,0,none⟩=some p.ptr∧Y.cell? ⟨B+1+1,0,none⟩=some (.map (some (B+1)))∧(∃D,OwnB Y (B+1) L.length D∧BoolMap D (nE t L))∧(∀i,G i→VisN h B i∧i<Y.heap.size):=by
 obtain⟨l0,l1⟩:=H.lt;obtain⟨h1,h2,⟨a0,c0,q0,h3,-,-,-⟩,h6,h7,h8,⟨D,h9,h10⟩,⟨g0,g1,g2,g3⟩,hl⟩:=H;have hb:=hkeep _ _ nlr (Below.refl _ X);have hla:∀x,a=some x→B+1+1+1≤x.block:=fun x e=>(hown.lt x.block (by rw[e];rfl)).1;have ht:Turns (fun i=>AtB a i) X W5:=⟨hb.os,hb.tape,hb.output,hb.size,fun i hi hn=>(hap i hi (fun x e e2=>hn ⟨x,e,e2⟩)).1⟩
 have hnA:∀i,i≤B+1+1→¬AtB a i:=fun i hi ⟨x,e,e2⟩=>by have:=hla x e;omega
 have ch:=ht.cell (b:=h) (o:=0) l0 (hnA h (by omega));have fh:=ht.frozen (b:=h) (o:=0) l0 (hnA h (by omega));have c3:=World.cell?_setCell_same W5 ⟨h,0,none⟩ (.slice a' q'.length c') (ch.trans h3);have hs:Turns (fun i=>i=h) W5 (W5.setCell ⟨h,0,none⟩ (.slice a' q'.length c')):=(Turns.setCell (a:=⟨h,0,none⟩) rfl _).mono fun _ _ e=>e.symm;have ht2:Turns (fun i=>AtB a i∨i=h) X (W5.setCell ⟨h,0,none⟩ (.slice a' q'.length c')):=(ht.mono fun _ _ h=>.inl h).trans (hs.mono fun _ _ h=>.inr h);have hla':∀x,a'=some x→B+1+1+1≤x.block:=fun x e=>(hown'.lt x.block (by rw[e];rfl)).1
 have hNs:∀i,AtB a i∨i=h→VisN h B i:=fun i hi=>by
  rcases hi with⟨x,e,e2⟩|hi
  ·have:=hla x e;exact .inr (by omega)
  ·exact .inl hi
 have hx:∀i,i≤B+1+1→i≠h→¬(AtB a i∨i=h):=fun i hi hn e=>e.elim (hnA i hi) hn
 refine⟨_,rfl,ch,fh.trans h6,ht2.mono fun i _ hi=>⟨?_,hNs i hi⟩,c3,?_,fun x e hG=>?_,by rw[World.frozen?_setCell];exact fh.trans h6,h1.turns ha ht2 hNs,h2.trans (ht2.below (fun i hi=>by have:=hNs i hi;unfold VisN at this;omega) h2.size),
  (ht2.cell (by omega) (hx B (by omega) (by omega))).trans h7,(ht2.cell l1 (hx _ (by omega) (by omega))).trans h8,⟨D,?_,h10⟩,fun i hi=>⟨(hl i hi).1,Nat.lt_of_lt_of_le (hl i hi).2 ht2.size⟩⟩
 ·rcases hi with⟨x,e,rfl⟩|rfl
  ·exact hna x e
  ·exact g0
 ·exact bR hown' hs (fun i ⟨x,e,e2⟩ hi=>by have:=hla' x e;omega)
 ·have hlt:=(hl _ hG).2
  have:=(hap x.block hlt (fun y ey e2=>hna y ey (by rw[e2];exact hG))).2;exact this x e rfl
 ·obtain⟨es,cl,hb9,F,hs9,hD9⟩:=h9
  exact⟨es,cl,(ht2.block (B+1) (by omega) (hx _ (by omega) (by omega))).trans hb9,F,hs9,hD9⟩
end
section
open Go Go.RowKit Go.Maps
attribute [local go_sem] Oper.semAt_some
def visU(t:Tr)(node:Int):List Int×Int:=if aR t node (fA t)=0 then (cT (visF t [] (zA t node)),0)else ([],aR t node (fA t))
theorem AW{W:World}{h:Nat}{T:TypeId}(hh:W.heap[h]?=some (.cells #[.slice none 0 0] T)){j:Nat}{v:Value}(hv:W.cell? ⟨h,j,none⟩=some v):v=.slice none 0 0:=by
 simp only[World.cell?,hh]at hv;rcases j with _|j
 ·simp at hv;exact hv.symm
 ·simp at hv
theorem vE{W:World}{a:Option Addr}{n c h:Nat}{l:List Int}{T:TypeId}{o:Obj}(hr:Row 1 W a n c (zm l))(hh:W.heap[h]?=some (.cells #[.slice none 0 0] T)):Row 1 (W.putObj h o) a n c (zm l):=by
 obtain⟨h1,h2,h3,h4⟩:=hr;refine⟨h1,h2,h3,?_⟩;rcases h4 with h4|⟨b,of,e,hlt,hc⟩
 ·exact .inl h4
 ·by_cases h0:n=0
  ·exact .inl h0
  ·refine .inr ⟨b,of,e,by simpa using hlt,fun i hi=>?_⟩
   by_cases hb:b=h
   ·exfalso
    have hl:0<(zm l).length:=by rw[h1];omega
    have h5:=hc 0 hl;rw[hb]at h5;have h6:=AW hh h5;have h7:(zm l)[0]∈zm l:=List.getElem_mem _;rw[h6]at h7;unfold zm at h7;obtain⟨x,-,hx⟩:=List.mem_map.1 h7;cases hx
   ·rw[←hc i hi]
    exact World.cell?_of_block (a:=⟨b,of+i,none⟩) (World.putObj_heap_other hb)
theorem uG{W:World}{h:Nat}{b i:Nat}{v:Value}(hv:(W.putObj h (.map #[] 0)).cell? ⟨b,i,none⟩=some v):b≠h∧W.cell? ⟨b,i,none⟩=some v:=by
 have hlt:=World.block_lt_of_cell? _ _ hv;simp only at hlt;rw[show(W.putObj h (.map #[] 0)).heap.size=W.heap.size by simp]at hlt;by_cases e:b=h
 ·exfalso
  subst e;have hh:=World.putObj_heap_same (o:=.map #[] 0) hlt;simp[World.cell?,hh]at hv
 ·exact⟨e,(World.cell?_of_block (a:=⟨b,i,none⟩) (World.putObj_heap_other e)).symm.trans hv⟩
theorem GL(W:World)(h:Nat):Apart (VisN h W.heap.size) (W.putObj h (.map #[] 0)):=by
 intro b i v hv hN;obtain⟨h1,h2⟩:=uG hv;have h3:=World.block_lt_of_cell? W _ h2;rcases hN with h4|h4
 ·exact h1 h4
 ·simp only at h3;omega
theorem AB{W X:World}{h:Nat}(hb:Below W.heap.size W X):Kept (W.putObj h (.map #[] 0)) X:=
 ⟨by simpa using hb.size,fun b i v hv=>by
  obtain⟨-,h2⟩:=uG hv
  exact(hb.cell (p:=⟨b,i,none⟩) (World.block_lt_of_cell? W _ h2)).trans h2⟩
theorem LC{w W:World}{h:Nat}{T:TypeId}{p:ProgV}{t:Tr}{ups decl:List Int}(hp:IsProg W p t ups decl)(ht:IsTree w p.v t)(hw:Below w.heap.size w W)(hh:W.heap[h]?=some (.cells #[.slice none 0 0] T))(hs:p.s≠h)(hwh:w.heap.size≤h):IsProg (W.putObj h (.map #[] 0)) p t ups decl:=by
 have hc:∀i,(W.putObj h (.map #[] 0)).cell? ⟨p.s,i,none⟩=W.cell? ⟨p.s,i,none⟩:=fun i=>World.cell?_of_block (a:=⟨p.s,i,none⟩) (World.putObj_heap_other hs)
 have hk:Kept w (W.putObj h (.map #[] 0)):=⟨by simpa using hw.size,fun b i v hv=>by
  have hlt:b<w.heap.size:=World.block_lt_of_cell? w _ hv
  exact(World.cell?_of_block (a:=⟨b,i,none⟩) (World.putObj_heap_other (by show b≠h;omega))).trans ((hw.cell (p:=⟨b,i,none⟩) hlt).trans hv)⟩
 exact⟨(hc 0).trans hp.c0,(hc 1).trans hp.c1,(hc 2).trans hp.c2,(hc 3).trans hp.c3,hk.tree ht,vE hp.ups hh,vE hp.decl hh⟩
theorem MS{w w':World}{g:Nat}{a:Option Addr}{c:Nat}{l:List Int}{A:Act}{err:Int}(hc:w'.cell? ⟨g,0,none⟩=some (.slice a l.length c))(h4:A.tmps.getD 4 undef=.pointer (some ⟨g,0,none⟩))(h5:A.tmps.getD 5 undef=intV err)(hd:A.defers=[])
 (ho:w'.ownsRow w.heap.size 3 1 (.slice a l.length c) l.length (zm l))(hb:Below w.heap.size w w'):bodyPost prog Tryz.f100 (RetIntsE w l err) Exit.ret A w':=by
 refine bodyPost_ret (v:=.tuple #[.slice a l.length c,intV err]) ?_ hd ⟨a,c,rfl,ho,hb⟩;simp only[Array.getD_eq_getD_getElem?]at h4 h5;simp[results,results100,go_sem,loadVar,h4,h5,hc,Result.andThen]
theorem GM(W:World)(s node:Nat):∃Wa,dI (((W.alloc (.cells #[.pointer (some ⟨s,0,none⟩)] 117)).alloc (.map #[] 0)).alloc (.cells #[.map (some (W.heap.size+1))] 176)) (.pointer (some ⟨s,0,none⟩)) node=Wa ∧
 Wa.heap.size=W.heap.size+1+1+1+1+1∧Below W.heap.size W Wa∧Wa.cell? ⟨W.heap.size,0,none⟩=some (.pointer (some ⟨s,0,none⟩))∧Wa.cell? ⟨W.heap.size+1+1,0,none⟩=some (.map (some (W.heap.size+1)))∧OwnB Wa (W.heap.size+1) 0 (.map []) ∧
 Wa.cell? ⟨W.heap.size+1+1+1,0,none⟩=some (.pointer (some ⟨s,0,none⟩))∧Wa.cell? ⟨W.heap.size+1+1+1+1,0,none⟩=some (intV node):=by
 refine⟨_,rfl,by simp,(((((Below.refl _ W).alloc nlr _).alloc (by simp) _).alloc (by simp;omega) _).alloc (by simp;omega) _).alloc (by simp;omega) _,?_,?_,?_,?_,?_⟩
 ·unfold dI;go_simp
 ·unfold dI;go_simp
 ·unfold dI
  have:=World.ownsMap_made (W.alloc (.cells #[.pointer (some ⟨s,0,none⟩)] 117)) prog 9 rdB;rw[World.size_alloc]at this;exact((this.alloc _).alloc _).alloc _
 ·unfold dI;go_simp
 ·unfold dI;go_simp
theorem qG{t:Tr}(wf:WF t){S:List Int}(G:Good t S){node:Nat}(hn:node<t.nodes.length):(zA t node).length≤t.nodes.length:=by
 have:=nL (zA t node) ((List.range t.nodes.length).map fun i:Nat=>(i:Int)) (mZ wf G hn) (fun x hx=>by
  obtain⟨h0,h1⟩:=iK wf hx
  refine List.mem_map.2 ⟨x.toNat,List.mem_range.2 (by omega),by omega⟩)
 simpa using this
theorem VisI.init{w W Wa:World}{h s:Nat}{v:TreeV}{aa:Option Addr}{ac:Nat}{da:Option Addr}{dc:Nat}{t:Tr}(hw:Below w.heap.size w W)(hwh:w.heap.size≤h)(hh:W.heap[h]?=some (.cells #[.slice none 0 0] 23))
 (hsa:Wa.heap.size=W.heap.size+1+1+1+1+1)(hb:Below W.heap.size W Wa)(c6:Wa.cell? ⟨W.heap.size,0,none⟩=some (.pointer (some ⟨s,0,none⟩)))(c7:Wa.cell? ⟨W.heap.size+1+1,0,none⟩=some (.map (some (W.heap.size+1))))(hm:OwnB Wa (W.heap.size+1) 0 (.map [])) :
 VisI w (W.putObj h (.map #[] 0)) h W.heap.size ⟨s,v,aa,ac,da,dc⟩ t [] (fun i=>i=W.heap.size+1+1+1∨i=W.heap.size+1+1+1+1) Wa:=by
 have hlt:h<W.heap.size:=zB hh;have hcr:=za (i:=0) (v:=.slice none 0 0) ((hb.block h hlt).trans hh) rfl;have hfr:=zl (i:=0) ((hb.block h hlt).trans hh);exact⟨AB hb,hw.trans (hb.mono hw.size),⟨none,0,[],hcr,Hd rfl,⟨rfl,.inl ⟨rfl,rfl⟩⟩,fun x e=>by cases e⟩,hfr,c6,c7,⟨_,hm,BoolMap.empty.congr fun x=>rfl⟩,⟨by omega,by omega,by omega,by omega⟩,fun i hi=>⟨.inr (by omega),by omega⟩⟩
theorem rU(v:TreeV)(t:Tr)(node:Int)(w:World)(bd:Bd t)(rg:Rg t)(hg:GV w)(h:IsTree w v t) :
 Calls prog 100 #[v.val t,intV node] w (RetIntsE w (visU t node).1 (visU t node).2):=by
 have hb1:Below w.heap.size w ((boxT w v t).alloc (.cells #[.slice none 0 0] 23)):=boxT_below.alloc (by simp) _;have HC:=Hd (qM v t node _ bd rg (hg.mono hb1 nlr) (h.mono hb1 nlr))
 have hw1:((boxT w v t).alloc (.cells #[.slice none 0 0] 23)).heap[w.heap.size+1]?=some (.cells #[.slice none 0 0] 23):=by
  have:=World.alloc_heap_new (boxT w v t) (.cells #[.slice none 0 0] 23);rwa[show(boxT w v t).heap.size=w.heap.size+1 by simp]at this
 have hsz:((boxT w v t).alloc (.cells #[.slice none 0 0] 23)).heap.size=w.heap.size+1+1:=by simp
 have BD:=Hd bd;have HT:=Hd h;have HB1:=Hd hb1;have HW1:=Hd hw1;have HSZ:=Hd hsz;have hn3:=bd.n;clear h hg bd rg hb1 hw1 hsz;obtain⟨na,nc,ia,ic⟩:=v;by_cases hz:aR t node (fA t)=0
 ·have HZ:=Hd hz
  have HU:Hid (visU t node=(cT (visF t [] (zA t node)),0)):=Hd (by unfold visU;rw[if_pos hz]);rw[HU.out];by_cases hin:0≤node∧node<t.nodes.length
  ·obtain⟨hn0,hn1⟩:=hin
   obtain⟨nd,rfl⟩:=Int.eq_ofNat_of_zero_le hn0;have hnd:nd<t.nodes.length:=by omega
   clear hz hn0 hn1;unfold TreeV.val;refine callsIn_wide.1 (?_:CallsIn Fence.wide 0 _ _ _ _ _);refine callsIn_of_wp_marks (n:=0) func100 rfl trivial ?_ rfl;simp only[ntmps100,List.size_toArray,List.length_cons,List.length_nil,Nat.reduceAdd,Nat.reduceSub,Array.replicate_succ,Array.replicate_zero,List.push_toArray,List.append_toArray,List.nil_append,List.cons_append];refine wpIn_wide.2 ?_;have hmm:=@run_makeMap prog
   go_wp2_with (first
    | (go_at_call 83;refine HC.out.mono ?_;rintro e w2 (⟨-,hrs,-,-,-,p,rfl,hpv,hop⟩|⟨hne,-⟩);rotate_left;(exact absurd HZ.out hne);have HRS:=Hd hrs;have HWF:=Hd (aT BD.out hrs.check);obtain⟨s,v',aa,ac,da,dc⟩:=p;simp only at hpv;subst hpv;have HOP:=Hd hop;have HSC:Hid (∀(w2:World),Calls prog 147 #[.pointer (some ⟨s,0,none⟩),intV nd] w2 fun e w'=>e=.returned (.func (.func 202) #[] #[.pointer (some ⟨w2.heap.size,0,none⟩),.pointer (some ⟨w2.heap.size+1,0,none⟩)])∧dI w2 (.pointer (some ⟨s,0,none⟩)) nd=w'):=Hd (fun w2=>oA s nd w2);clear hop hrs)
    | (go_at_call 147;refine(HSC.out _).mono ?_;rintro e w' ⟨rfl,rfl⟩))
   obtain⟨Wa,hWa,hsa,hba,ca6,ca7,cam,cg0,cg1⟩:=GM w2 s nd;rw[hWa];clear hWa;have hop:=HOP.out;have hwB:w.heap.size+1+1≤w2.heap.size:=by rw[←HSZ.out];exact hop.below.size
   have hww:Below w.heap.size w w2:=HB1.out.trans (hop.below.mono (by rw[HSZ.out];omega));have hh2:w2.heap[w.heap.size+1]?=some (.cells #[.slice none 0 0] 23):=(hop.below.block _ (by rw[HSZ.out];omega)).trans HW1.out;have hps:=hop.ps;rw[HSZ.out]at hps;simp only at hps;have HPR:=Hd (LC (h:=w.heap.size+1) hop.prog HT.out hww hh2 (by simp only;omega) (by omega));have HV0:=Hd (VisI.init (v:=⟨na,nc,ia,ic⟩) (aa:=aa) (ac:=ac) (da:=da) (dc:=dc) (t:=t) hww (by omega) hh2 hsa hba ca6 ca7 cam);have HAP:=Hd (GL w2 (w.heap.size+1));have HKE:=Hd (AB (h:=w.heap.size+1) hba);obtain⟨w0,hw0⟩:∃w0,w2.putObj (w.heap.size+1) (.map #[] 0)=w0:=⟨_,rfl⟩
   rw[hw0]at HPR HV0 HAP HKE;obtain⟨h,hh⟩:∃h,w.heap.size+1=h:=⟨_,rfl⟩
   obtain⟨B,hB⟩:∃B,w2.heap.size=B:=⟨_,rfl⟩
   rw[hh]at HV0 HAP;rw[hB]at HV0 HAP hsa ca6 ca7 cam cg0 cg1;rw[hh,hB];have hwh:w.heap.size≤h:=by omega
   have hhB:h<B:=by omega
   have hwB2:w.heap.size≤B:=by omega
   have HGD:Hid (Gd (VisN h B) (fun i=>i=B+1+1+1∨i=B+1+1+1+1) Wa):=Hd ⟨fun i hi=>.inr (by omega),fun i hi=>⟨.inr (by omega),by omega⟩⟩;have HSL:=Hd (qG HWF.out (gH (aW HRS.out.check)) hnd);have HSQ:=Hd (qN ⟨s,⟨na,nc,ia,ic⟩,aa,ac,da,dc⟩ t _ _ nd w0 Wa (VisN h B) (B+1+1+1) HWF.out hnd (eS (gH (aW HRS.out.check))) HPR.out HAP.out HKE.out cg0 cg1);clear hop hww hh2 hps hba ca6 ca7 cam cg0 cg1 hw0 hB HOP HSC HKE;refine(wpIn_wide (n:=0)).1 ?_
   refine gT (gf:=202) (lb:=#[.pointer (some ⟨B+1+1+1,0,none⟩),.pointer (some ⟨B+1+1+1+1,0,none⟩)]) rfl (enters_of func202 (by kernel_rfl) rfl)
    HSQ.out (Turns.refl _ _) HGD.out (fun _=>rfl)
    (fun k G X=>VisI w w0 h B ⟨s,⟨na,nc,ia,ic⟩,aa,ac,da,dc⟩ t ((zA t nd).take k) G X)
    (fun _ _ _ _=>False)
    (fun k G X G' Y hi st=>hi.step HAP.out hwh hwB2 st) (fun c k G X G' Y hi st=>hi) HV0.out
    (fun d=>{ tmps:=#[.agg #[.slice na t.nodes.length nc,.slice ia t.items.length ic],intV nd,.pointer (some ⟨w.heap.size,0,none⟩),undef,.pointer (some ⟨h,0,none⟩),intV 0,.pointer (some ⟨B,0,none⟩),.pointer (some ⟨B+1+1,0,none⟩),intV d,undef,
     .tuple #[.pointer (some ⟨s,0,none⟩),intV 0],.agg #[.slice na t.nodes.length nc,.slice ia t.items.length ic],intV nd,.tuple #[.pointer (some ⟨s,0,none⟩),intV 0],.pointer (some ⟨s,0,none⟩),intV 0,intV 0,.bool false,undef,.map (some (B+1)),.pointer (some ⟨s,0,none⟩),intV nd,
     .func (.func 202) #[] #[.pointer (some ⟨B+1+1+1,0,none⟩),.pointer (some ⟨B+1+1+1+1,0,none⟩)],intV d,undef,undef,undef,undef,undef,undef,undef,undef,undef,undef,undef,undef,undef,undef,undef,undef,undef,undef,undef,undef,undef,undef,undef,undef,undef,undef,undef,undef],defers:=[] }) ?assign ?body ?done ?stop
   case assign=>
    intro l x W9 K hK
    gi_wp2
    exact hK
   case body=>
    rintro l k d G A hx hGl⟨r,hr⟩ hgdA hM;obtain⟨hk,hxe⟩:=List.getElem?_eq_some_iff.1 hx;obtain⟨hd0,hd1⟩:=iK HWF.out (List.mem_of_getElem? hx);obtain⟨m,rfl⟩:=Int.eq_ofNat_of_zero_le hd0;have hm:m<t.nodes.length:=by omega
    have hpA:=HPR.out.kept hM.kept;have hcpA:=hpA.c0;obtain⟨b,o,ka,kc,ea,hb,m0,m1,m2,m3,m4,-⟩:=hpA.tree.nodes.at hm;simp only at ea hcpA;subst ea;have hndm:=t.nd_at hm;have hdx:=BD.out.s _ (List.getElem_mem hm);obtain⟨D2,hD2⟩:∃D2,t.nodes[m]=D2:=⟨_,rfl⟩
    rw[hD2]at m0 m1 m2 m3 m4 hndm hdx;have htk:(zA t nd).take (k+1)=(zA t nd).take k++[(m:Int)]:=by rw[List.take_succ_eq_append_getElem hk,hxe]
    obtain⟨L,hL⟩:∃L,(zA t nd).take k=L:=⟨_,rfl⟩
    rw[hL]at htk hM;have hLl:L.length≤t.nodes.length:=by have:=HSL.out;rw[←hL,List.length_take];omega
    have HTK:=Hd htk;have hc6:A.cell? ⟨B,0,none⟩=some (.pointer (some ⟨s,0,none⟩)):=hM.c6;have hc7:=hM.c7;obtain⟨a,c,q,hcq,HQ,hown,hna⟩:=hM.list;have hql:q.length≤t.nodes.length:=by have:=kZ t L [];rw[HQ.out];omega
    have hfr:=hM.fr;obtain⟨hl0,hl1⟩:=hM.lt;have hsA:s<A.heap.size:=World.block_lt_of_cell? A _ hcpA;obtain⟨bx,hbx⟩:∃bx:Obj,bx=.cells #[.int .u8 D2.kind,strV D2.text,intV D2.n,.slice ka D2.kids.length kc,intV D2.pos] 57:=⟨_,rfl⟩
    have hb9:Below A.heap.size A (A.alloc bx):=(Below.refl A.heap.size A).alloc nlr bx;have hb9':=hb9;rw[hbx]at hb9';have hM9:=hM.grow HAP.out hwh hwB2 hb9';obtain⟨Dm,hDm,hS⟩:=hM9.mp;have hx9:(A.alloc (.cells #[.int .u8 D2.kind,strV D2.text,intV D2.n,.slice ka D2.kids.length kc,intV D2.pos] 57)).cell? ⟨A.heap.size,1,none⟩=some (strV D2.text):=za (World.alloc_heap_new A _) rfl;have hc79:=hM9.c7;have hfr9:=hM9.fr;have hlk:=EK hDm hS (s:=D2.text) hdx;have hown9:=zy hown hb9';have hcq9:=(hb9'.cell (p:=⟨h,0,none⟩) hl0).trans hcq;have HMM:=Hd hM;have HM9:=Hd hM9;have HGA:=Hd hgdA;have HNM:=Hd hndm;have HDM:=Hd hDm;have HS:=Hd hS;have HO9:=Hd hown9;have HOA:=Hd hown;have HNA:=Hd hna;have HB9:=Hd hb9';have HSF:Hid (∀W,Calls prog 148 #[.int .u8 3,.int .u8 D2.kind] W (zq W (suits 3 D2.kind))):=Hd (fun W=>tC _ _ W);clear hM hM9 hgdA hx hd0 hr hpA hD2 hndm hxe hL htk hown hna hDm hS hown9 hb9 hb9' hbx hc7 hfr
    cases hs:nE t L D2.text with
    | true=>
      rw[hs]at hlk;have HNQ:Hid (q=visF t [] (L++[(m:Int)])):=Hd (by rw[LA (by rw[HNM.out];exact hs)];exact HQ.out);clear hs
      gi_wp2_with (first
       | (gi_at_mapUpdate;refine wpListIn_mapUpdate_own _ rfl _ _ _ 176 rfl 9 4 zE sU rdB (B+1) L.length Dm rfl HDM.out (by unfold maxLen;omega) _ _ (.string D2.text) rfl rfl (sI hdx) (.lit (.bool true)) [] rfl ?_;intro w7 hown7 hgrow7)
       | (refine⟨trivial,?_⟩))
      obtain⟨z1,z2⟩:=VisI.mark HAP.out hwB2 hhB HM9.out.kept HM9.out.below HM9.out.fr HM9.out.c6 HM9.out.c7 HM9.out.g HM9.out.low (d:=(m:Int)) hcq9 HO9.out HNA.out HNQ HS.out (by rw[HNM.out];exact hown7) hgrow7;exact⟨(Keeps.of_below HB9.out).trans z2,by simp only[HTK.out];exact z1⟩
    | false=>
      rw[hs]at hlk;have HSE:Hid (nE t L (t.nd (m:Int)).text=false):=Hd (by rw[HNM.out];exact hs);clear hs
      cases hf:suits 3 D2.kind with
      | false=>
        have HF:=Hd hf;have HNQ:Hid (q=visF t [] (L++[(m:Int)])):=Hd (by rw[CC (by rw[HNM.out];exact hf)];exact HQ.out);clear hf
        gi_wp2_with (first
         | (gi_at_mapUpdate;refine wpListIn_mapUpdate_own _ rfl _ _ _ 176 rfl 9 4 zE sU rdB (B+1) L.length Dw rfl HDW.out (by unfold maxLen;omega) _ _ (.string D2.text) rfl rfl (sI hdx) (.lit (.bool true)) [] rfl ?_;intro w7 hown7 hgrow7)
         | (refine⟨trivial,rfl,?_⟩;refine(CallsIn.inRound l (callsIn_wide.2 (HSF.out _))).mono ?_;rw[HF.out];rintro e w9 ⟨rfl,hb8⟩;have hMw:=HM9.out.grow HAP.out hwh hwB2 hb8;have hc7w:=hMw.c7;have hxw:=(hb8.cell (p:=⟨A.heap.size,1,none⟩) (by simp)).trans hx9;obtain⟨Dw,hDw,hSw⟩:=hMw.mp;have HMW:=Hd hMw;have HDW:=Hd hDw;have HSW:=Hd hSw;have HB8:=Hd hb8;clear hb8 hMw hDw hSw))
        obtain⟨z1,z2⟩:=VisI.mark HAP.out hwB2 hhB HMW.out.kept HMW.out.below HMW.out.fr HMW.out.c6 HMW.out.c7 HMW.out.g HMW.out.low (d:=(m:Int)) ((HB8.out.cell (p:=⟨h,0,none⟩) (by simp;omega)).trans hcq9) (zy HO9.out HB8.out) HNA.out HNQ HSW.out (by rw[HNM.out];exact hown7) hgrow7;exact⟨(Keeps.of_below (HB9.out.trans (HB8.out.mono (by simp)))).trans z2,by simp only[HTK.out];exact z1⟩
      | true=>
        have HF:=Hd hf;have HNQ:Hid (q++[(m:Int)]=visF t [] (L++[(m:Int)])):=Hd (by rw[LB HSE.out (by rw[HNM.out];exact hf),HQ.out]);clear hf
        gi_wp2_with (first
         | (gi_at_mapUpdate;refine wpListIn_mapUpdate_own _ rfl _ _ _ 176 rfl 9 4 zE sU rdB (B+1) L.length Dw rfl HDW.out (by unfold maxLen;omega) _ _ (.string D2.text) rfl rfl (sI hdx) (.lit (.bool true)) [] rfl ?_;intro w7 hown7 hgrow7)
         | (gi_at_builtin;refine qD (news:=[(m:Int)]) rfl (.tmp 42) (.tmp 44) rfl rfl (B:=B+1+1+1) rfl (HOW.out.alloc _) rfl (aK _ _ _) (by simp;omega) (by have:=HMW.out.lt;simp;omega) ?_;intro a9 c9 w5 l9 HL9 hown5 hkeep5 hap5;have hM10:=HMW.out.grow HAP.out hwh hwB2 ((Below.refl w9.heap.size w9).alloc nlr (.cells #[intV (m:Int)] 3));have hx10:=(((Below.refl w9.heap.size w9).alloc nlr (.cells #[intV (m:Int)] 3)).cell (p:=⟨A.heap.size,1,none⟩) (World.block_lt_of_cell? w9 _ hxw)).trans hxw;have hcq10:=(((Below.refl w9.heap.size w9).alloc nlr (.cells #[intV (m:Int)] 3)).cell (p:=⟨h,0,none⟩) (World.block_lt_of_cell? w9 _ hcqw)).trans hcqw;obtain⟨Y,hY,hc5,hf5,z9,cY,ownY,hnaY,frY,k1,k2,k3,k4,⟨Dw,hDw,hSw⟩,k5⟩:=hM10.pushed HAP.out hwB2 hwh hhB (HOW.out.alloc _) HNA.out hown5 hkeep5 hap5;subst hY;rw[hcq10]at hc5;have hx5:=(World.cell?_of_block (a:=⟨A.heap.size,1,none⟩) (hap5 A.heap.size (World.block_lt_of_cell? _ _ hx10) (fun x e e2=>by have:=(HOA.out.lt x.block (by rw[e];rfl)).2;omega)).1).trans hx10;have hc75:=(World.cell?_setCell_other _ _ _ _ (by intro e;have:=congrArg Addr.block e;simp only at this;omega)).symm.trans k4;have HZ9:=Hd z9;have HCY:=Hd cY;have HOY:=Hd ownY;have HNY:=Hd hnaY;have HFY:=Hd frY;have HK1:=Hd k1;have HK2:=Hd k2;have HK3:=Hd k3;have HK4:=Hd k4;have HK5:=Hd k5;have HDW:=Hd hDw;have HSW:=Hd hSw;clear hM10 hcq10 z9 cY ownY hnaY frY k1 k2 k3 k4 k5 hDw hSw hown5 hkeep5 hap5 hx10)
         | (refine⟨trivial,rfl,?_⟩;refine(CallsIn.inRound l (callsIn_wide.2 (HSF.out _))).mono ?_;rw[HF.out];rintro e w9 ⟨rfl,hb8⟩;have hMw:=HM9.out.grow HAP.out hwh hwB2 hb8;have hcqw:=(hb8.cell (p:=⟨h,0,none⟩) (by simp;omega)).trans hcq9;have hxw:=(hb8.cell (p:=⟨A.heap.size,1,none⟩) (by simp)).trans hx9;have HMW:=Hd hMw;have HOW:=Hd (zy HO9.out hb8);have HB8:=Hd hb8;clear hb8 hMw))
        obtain⟨z1,z2⟩:=VisI.mark HAP.out hwB2 hhB HK1.out HK2.out HFY.out HK3.out HK4.out HM9.out.g HK5.out (d:=(m:Int)) HCY.out HOY.out HNY.out (Hd (HL9.out.trans HNQ.out)) HSW.out (by rw[HNM.out];exact hown7) hgrow7;exact⟨((Keeps.of_below ((HB9.out.trans (HB8.out.mono (by simp))).alloc (Nat.le_trans HB9.out.size HB8.out.size) _)).trans HZ9.out).trans z2,by simp only[HTK.out];exact z1⟩
   case done=>
    rintro D9 G X hD hDB hGD hgdB hM;rw[List.take_length]at hM;obtain⟨hkp,hbel,⟨a,c,q,hcq,HQ,hown,hna⟩,hfr,-,-,-,⟨g0,-⟩,hlow⟩:=hM;have hql:q.length≤t.nodes.length:=by have:=kZ t (zA t nd) [];have:=HSL.out;rw[HQ.out];omega
    have hne:D9≠h:=fun e=>g0 (e▸hGD);have hne9:∀x,a=some x→x.block≠D9:=fun x e e2=>hna x e (e2▸hGD);have hDW:w.heap.size≤D9:=by omega
    have HO:=Hd hown;have HBE:=Hd hbel;have HN9:=Hd hne9;have HDB:=Hd hDB;have HHX:=Hd (World.block_lt_of_cell? X _ hcq);have HDX:=Hd (zB hDB);clear hkp hbel hown hna hlow hDB hgdB hne9
    go_wp2_with (go_at_call 92;refine(nY HO.out (by omega)).mono ?_;rintro e w3 ⟨rfl,own3,tn3⟩;have hc3:=(tn3.cell (b:=h) (o:=0) HHX.out (fun⟨x,e,e2⟩=>by have:=(HO.out.lt x.block (by rw[e];rfl)).1;omega)).trans hcq;have hf3:=(tn3.frozen (b:=h) (o:=0) HHX.out (fun⟨x,e,e2⟩=>by have:=(HO.out.lt x.block (by rw[e];rfl)).1;omega)).trans hfr;have hd3:=(tn3.block D9 HDX.out (fun⟨x,e,e2⟩=>HN9.out x e e2)).trans HDB.out;have HO3:=Hd own3;have HT3:=Hd tn3;have HD3:=Hd hd3;clear own3 tn3 hd3)
    have hds:=(Below.heap_setCell w3 ⟨h,0,none⟩ (.slice a q.length c) D9 hne).trans HD3.out;have hT4:Turns (fun i=>i=h) w3 (w3.setCell ⟨h,0,none⟩ (.slice a q.length c)):=(Turns.setCell (a:=⟨h,0,none⟩) rfl _).mono fun _ _ e=>e.symm;have hT5:Turns (fun i=>i=D9) (w3.setCell ⟨h,0,none⟩ (.slice a q.length c)) ((w3.setCell ⟨h,0,none⟩ (.slice a q.length c)).putObj D9 (.deferred none)):=Turns.putObj (M:=fun i=>i=D9) rfl _;have hl3:h<w3.heap.size:=World.block_lt_of_cell? w3 _ hc3;have hc9:=(hT5.cell (b:=h) (o:=0) (Nat.lt_of_lt_of_le hl3 hT4.size) (Ne.symm hne)).trans (World.cell?_setCell_same w3 ⟨h,0,none⟩ (.slice a q.length c) hc3);refine⟨by simp,.inl ⟨_,_,rfl,run_takeDeferred hds,?_⟩⟩;refine⟨.tuple #[.slice a q.length c,intV 0],?_,?_⟩
    ·simp[results,results100,go_sem,loadVar,hc9,Result.andThen]
    ·rw[←HQ.out]
     have hll:(cT q).length=q.length:=fY q;have hlow:∀i,AtB a i→B+1+1+1≤i:=fun i ⟨x,e,e2⟩=>by have:=(HO.out.lt x.block (by rw[e];rfl)).1;omega
     refine⟨a,c,by rw[hll],by rw[hll];exact aY (bR (bR HO3.out hT4 (fun i hi e=>by have:=hlow i hi;omega)) hT5 (fun i ⟨x,e,e2⟩ e3=>HN9.out x e (e2.trans e3))) (by omega),?_⟩;have hwX:=HBE.out.size;have b3:Below w.heap.size X w3:=HT3.out.below (fun i hi=>by have:=hlow i hi;omega) hwX;exact((HBE.out.trans b3).trans (hT4.below (fun i hi=>by omega) (Nat.le_trans hwX b3.size))).trans (hT5.below (fun i hi=>by omega) (Nat.le_trans (Nat.le_trans hwX b3.size) hT4.size))
   case stop=>
    rintro D9 c k G X hD hDB hGD hgdB hk hf;exact hf.elim
  ·exfalso
   apply hin;have hz':=HZ.out;unfold aR at hz';split at hz'
   ·rename_i h1;simp at h1;exact absurd hz' h1
   ·split at hz'
    ·cases hz'
    ·rename_i h2
     simp only[Bool.or_eq_true,not_or,decide_eq_true_eq]at h2;omega
 ·have hne:(aR t node (fA t) != 0)=true:=by simpa using hz
  have hu:visU t node=([],aR t node (fA t)):=by unfold visU;rw[if_neg hz]
  obtain⟨E1,hE1⟩:∃E1,aR t node (fA t)=E1:=⟨_,rfl⟩
  rw[hE1]at hne hu;rw[hu];have HE1:=Hd hE1;have HZ:=Hd hz;clear hE1 hz hu;unfold TreeV.val;go_enter func100,ntmps100
  go_wp2_with (go_at_call 83;refine HC.out.mono ?_;rintro e w2 (⟨h0,-⟩|⟨-,rfl,hb2⟩);(exact absurd h0 HZ.out);rw[HE1.out];have hcr:=za (i:=0) (v:=.slice none 0 0) ((hb2.block (w.heap.size+1) (by rw[HSZ.out];omega)).trans HW1.out) rfl;have hfr:=zl (i:=0) ((hb2.block (w.heap.size+1) (by rw[HSZ.out];omega)).trans HW1.out);have HB2:=Hd (HB1.out.trans (hb2.mono (by rw[HSZ.out];omega)):Below w.heap.size w w2);have hs2:=hb2.size;rw[HSZ.out]at hs2;have hb9:=(Below.refl w2.heap.size w2).alloc nlr (.cells #[.pointer none] 117);have hcr1:=(hb9.cell (p:=⟨w.heap.size+1,0,none⟩) (by show w.heap.size+1<_;omega)).trans hcr;have hfr1:=(hb9.frozen (p:=⟨w.heap.size+1,0,none⟩) (by show w.heap.size+1<_;omega)).trans hfr;have HB3:=Hd (HB2.out.trans (hb9.mono (by omega)));clear hb2 hb9 hcr hfr)
  exact MS (a:=none) (c:=0) (World.cell?_setCell_same _ _ _ hcr1) rfl rfl rfl ⟨rfl,.inl ⟨rfl,rfl⟩⟩ (HB3.out.setCell (by simp) _)
end
section
open Go Go.RowKit
theorem aS{t:Tr}(h:(zc t).2.2=0):Resolved t:=by
 by_cases hc:zJ t=0
 ·refine⟨hc,?_⟩
  suffices hs:∀f m,m<f→m<t.nodes.length→aQ t m=0 from fun m hm=>hs (m+1) m (by omega) hm
  intro f
  induction f with
  |zero=>intro m hm;omega
  | succ f ih=>
    intro m hm hl;by_cases he:aQ t m=0
    ·exact he
    ·exfalso
     have:=pU hc hl (fun j hj=>ih j (by omega) (by omega)) he;rw[this]at h;exact he h
 ·exfalso
  unfold zc at h;rw[if_pos (by simpa using hc)]at h;exact hc h
theorem cS{t:Tr}(bd:Bd t)(h:(zc t).2.2=0):WF t∧Good t (aG t):=⟨aT bd (aS h).check,gH (aW (aS h).check)⟩
def sumS(S:List Int):List Int→Int
 | []=>0
 |k::l=>S.getD k.toNat 0+sumS S l
theorem iM(S:List Int):∀(l r:List Int),sumS S (l++r)=sumS S l+sumS S r
 | [],r=>by simp[sumS]
 |k::l,r=>by rw[List.cons_append,sumS,sumS,iM S l r];omega
theorem nC(S:List Int):∀l:List Int,sumS S l.reverse=sumS S l
 | []=>rfl
 |k::l=>by rw[List.reverse_cons,iM,nC S l];simp[sumS];omega
theorem yG{S:List Int}:∀(l:List Int) (p q:Int),eatK S l p=some q→p-q=sumS S l
 | [],p,q,h=>by simp[eatK]at h;simp[sumS];omega
 | k::l,p,q,h=>by
   rw[eatK]at h;split at h
   ·cases h
   ·rename_i hc
    simp only[Bool.or_eq_true,bne_iff_ne,ne_eq,decide_eq_true_eq,not_or,Classical.not_not]at hc;have:=yG l _ q h;rw[sumS,hc.1];omega
theorem Placed.size{t:Tr}{S:List Int}(P:Placed t S){i:Nat}(hi:i<t.nodes.length):S.getD i 0=1+sumS S (t.nd i).kids:=by
 have:=yG _ _ _ (P.eat i hi);rw[nC]at this;omega
theorem kW{S:List Int}:∀(l:List Int),(∀k∈l,0≤S.getD k.toNat 0)→0≤sumS S l
 | [],_=>by simp[sumS]
 | k::l,h=>by
   have h1:=h k (by simp);have h2:=kW l fun x hx=>h x (List.mem_cons_of_mem _ hx);rw[sumS];omega
structure WorkW (w0:World) (g ga gb:Nat) (v:TreeV) (t:Tr) (A B:List Int) (w:World):Prop where
 hg:w.heap[g]?=some (.cells #[.slice v.na t.nodes.length v.nc,.slice v.ia t.items.length v.ic,.slice (some ⟨ga,0,none⟩) t.nodes.length t.nodes.length,.slice (some ⟨gb,0,none⟩) t.nodes.length t.nodes.length] 133 (0,0))
 ha:w.heap[ga]?=some (.cells ⟨zm A⟩ 3 (0,0))
 hb:w.heap[gb]?=some (.cells ⟨zm B⟩ 3 (0,0))
 la:A.length=t.nodes.length
 lb:B.length=t.nodes.length
 ab:ga≠gb
 ag:ga≠g
 bg:gb≠g
 low:w0.heap.size≤ga∧w0.heap.size≤gb∧w0.heap.size≤g
 below:Below w0.heap.size w0 w
theorem WorkW.step{w0 w w':World}{g ga gb:Nat}{v:TreeV}{t:Tr}{A B:List Int}(h:WorkW w0 g ga gb v t A B w)(hb:Below w.heap.size w w'):WorkW w0 g ga gb v t A B w':=
 have lt:∀{k:Nat}{o:Obj},w.heap[k]?=some o→k<w.heap.size:=fun e=>(Array.getElem?_eq_some_iff.1 e).1
 ⟨(hb.block g (lt h.hg)).trans h.hg,(hb.block ga (lt h.ha)).trans h.ha,(hb.block gb (lt h.hb)).trans h.hb,h.la,h.lb,h.ab,h.ag,h.bg,h.low,h.below.trans (hb.mono h.below.size)⟩
theorem sF(L:List Int)(i:Nat)(x:Int):((⟨zm L⟩:Array Value).setIfInBounds i (intV x))=⟨zm (L.set i x)⟩:=by
 apply Array.ext';simp[zm]
theorem dO{w:World}{g i k:Nat}{v:Value}(h:k≠g):(w.setCell ⟨g,i,none⟩ v).heap[k]?=w.heap[k]?:=Below.heap_setCell w ⟨g,i,none⟩ v k h
theorem WorkW.setA{w0 w:World}{g ga gb:Nat}{v:TreeV}{t:Tr}{A B:List Int}(h:WorkW w0 g ga gb v t A B w)(i:Nat)(x:Int):WorkW w0 g ga gb v t (A.set i x) B (w.setCell ⟨ga,i,none⟩ (intV x)):=by
 refine⟨(dO (Ne.symm h.ag)).trans h.hg,?_,(dO (Ne.symm h.ab)).trans h.hb,by rw[List.length_set];exact h.la,h.lb,h.ab,h.ag,h.bg,h.low,h.below.setCell (p:=⟨ga,i,none⟩) h.low.1 _⟩;rw[N.heap_setCell_at h.ha,sF]
theorem WorkW.setB{w0 w:World}{g ga gb:Nat}{v:TreeV}{t:Tr}{A B:List Int}(h:WorkW w0 g ga gb v t A B w)(i:Nat)(x:Int):WorkW w0 g ga gb v t A (B.set i x) (w.setCell ⟨gb,i,none⟩ (intV x)):=by
 refine⟨(dO (Ne.symm h.bg)).trans h.hg,(dO h.ab).trans h.ha,?_,h.la,by rw[List.length_set];exact h.lb,h.ab,h.ag,h.bg,h.low,h.below.setCell (p:=⟨gb,i,none⟩) h.low.2.1 _⟩;rw[N.heap_setCell_at h.hb,sF]
theorem eN{w:World}{g i:Nat}{L:List Int}(h:w.heap[g]?=some (.cells ⟨zm L⟩ 3 (0,0)))(hi:i<L.length):w.cell? ⟨g,i,none⟩=some (intV (L.getD i 0)):=by
 refine za h ?_;rw[List.getD_eq_getElem?_getD,List.getElem?_eq_getElem hi];simp[zm,hi]
theorem WorkW.cells{w0 w:World}{g ga gb:Nat}{v:TreeV}{t:Tr}{A B:List Int}(h:WorkW w0 g ga gb v t A B w) :
 w.cell? ⟨g,2,none⟩=some (.slice (some ⟨ga,0,none⟩) t.nodes.length t.nodes.length)∧w.cell? ⟨g,3,none⟩=some (.slice (some ⟨gb,0,none⟩) t.nodes.length t.nodes.length)∧g<w.heap.size∧ga<w.heap.size∧gb<w.heap.size:=
 ⟨za h.hg rfl,za h.hg rfl,(Array.getElem?_eq_some_iff.1 h.hg).1,(Array.getElem?_eq_some_iff.1 h.ha).1,(Array.getElem?_eq_some_iff.1 h.hb).1⟩
theorem AC(w:World)(v:TreeV)(t:Tr){x y:Nat}(h:(x=w.heap.size+1∧y=w.heap.size+1+1)∨(x=w.heap.size+1+1∧y=w.heap.size+1)) :
 WorkW w (w.heap.size+1+1+1) x y v t (List.replicate t.nodes.length 0) (List.replicate t.nodes.length 0) ((((boxT w v t).alloc (.cells (cF t.nodes.length) 3)).alloc (.cells (cF t.nodes.length) 3)).alloc (.cells #[.slice v.na t.nodes.length v.nc,.slice v.ia t.items.length v.ic,.slice (some ⟨x,0,none⟩) t.nodes.length t.nodes.length,.slice (some ⟨y,0,none⟩) t.nodes.length t.nodes.length] 133)).drew ∧
 Below (w.heap.size+1) (boxT w v t) ((((boxT w v t).alloc (.cells (cF t.nodes.length) 3)).alloc (.cells (cF t.nodes.length) 3)).alloc (.cells #[.slice v.na t.nodes.length v.nc,.slice v.ia t.items.length v.ic,.slice (some ⟨x,0,none⟩) t.nodes.length t.nodes.length,.slice (some ⟨y,0,none⟩) t.nodes.length t.nodes.length] 133)).drew:=by
 obtain⟨W0,hW0⟩:∃W0,boxT w v t=W0:=⟨_,rfl⟩
 have hs0:W0.heap.size=w.heap.size+1:=by rw[←hW0];simp
 have hb0:Below w.heap.size w W0:=by rw[←hW0];exact boxT_below
 rw[hW0];obtain⟨Z,hZ⟩:∃Z:Obj,Obj.cells (cF t.nodes.length) 3=Z:=⟨_,rfl⟩
 have hz:Z=.cells ⟨zm (List.replicate t.nodes.length 0)⟩ 3 (0,0):=by
  rw[←hZ];congr 1;apply Array.ext';rw[lA]
 rw[hZ];obtain⟨O,hO⟩:∃O:Obj,Obj.cells #[.slice v.na t.nodes.length v.nc,.slice v.ia t.items.length v.ic,.slice (some ⟨x,0,none⟩) t.nodes.length t.nodes.length,.slice (some ⟨y,0,none⟩) t.nodes.length t.nodes.length] 133=O:=⟨_,rfl⟩
 rw[hO];have s1:(W0.alloc Z).heap.size=w.heap.size+1+1:=by simp[hs0]
 have s2:((W0.alloc Z).alloc Z).heap.size=w.heap.size+1+1+1:=by simp[hs0]
 have hb1:Below (w.heap.size+1) W0 (((W0.alloc Z).alloc Z).alloc O).drew:=((((Below.refl _ W0).alloc (by omega) Z).alloc (by omega) Z).alloc (by omega) O).drew
 have k1:(((W0.alloc Z).alloc Z).alloc O).drew.heap[w.heap.size+1]?=some Z:=by
  have:=World.alloc_heap_new W0 Z;rw[hs0]at this;exact((((Below.refl (w.heap.size+1+1) (W0.alloc Z)).alloc (by omega) Z).alloc (by omega) O).drew.block (w.heap.size+1) (by omega)).trans this
 have k2:(((W0.alloc Z).alloc Z).alloc O).drew.heap[w.heap.size+1+1]?=some Z:=by
  have:=World.alloc_heap_new (W0.alloc Z) Z;rw[s1]at this;exact(((Below.refl (w.heap.size+1+1+1) ((W0.alloc Z).alloc Z)).alloc (by omega) O).drew.block (w.heap.size+1+1) (by omega)).trans this
 have k3:(((W0.alloc Z).alloc Z).alloc O).drew.heap[w.heap.size+1+1+1]?=some O:=by
  have:=World.alloc_heap_new ((W0.alloc Z).alloc Z) O;rw[s2]at this;exact((Below.refl (w.heap.size+1+1+1+1) (((W0.alloc Z).alloc Z).alloc O)).drew.block (w.heap.size+1+1+1) (by omega)).trans this
 refine⟨?_,hb1⟩;have j1:=k1.trans (congrArg some hz);have j2:=k2.trans (congrArg some hz);have j3:=k3.trans (congrArg some hO.symm);have hbw:Below w.heap.size w (((W0.alloc Z).alloc Z).alloc O).drew:=hb0.trans (hb1.mono (by omega));rcases h with⟨rfl,rfl⟩|⟨rfl,rfl⟩
 ·exact⟨j3,j1,j2,by simp,by simp,by omega,by omega,by omega,⟨by omega,by omega,by omega⟩,hbw⟩
 ·exact⟨j3,j2,j1,by simp,by simp,by omega,by omega,by omega,⟨by omega,by omega,by omega⟩,hbw⟩
theorem Placed.part{t:Tr}{S:List Int}(P:Placed t S){i:Nat}(hi:i<t.nodes.length)(q:Nat):0≤sumS S ((t.nd i).kids.take q)∧sumS S ((t.nd i).kids.take q)≤i:=by
 have h0:∀k∈(t.nd i).kids,0≤S.getD k.toNat 0:=fun k hk=>by
  obtain⟨_,_,k3,k4⟩:=P.kid hi k hk;have:=(P.bd k.toNat (by omega)).1;omega
 have h1:=P.size hi;have h2:=(P.bd i hi).2;have h3:=iM S ((t.nd i).kids.take q) ((t.nd i).kids.drop q);rw[List.take_append_drop]at h3;have h4:=kW (S:=S) ((t.nd i).kids.take q) fun k hk=>h0 k (List.mem_of_mem_take hk);have h5:=kW (S:=S) ((t.nd i).kids.drop q) fun k hk=>h0 k (List.mem_of_mem_drop hk);omega
theorem FX(S:List Int){l:List Int}{q:Nat}(h:q<l.length):sumS S (l.take (q+1))=sumS S (l.take q)+S.getD l[q].toNat 0:=by
 rw[List.take_succ_eq_append_getElem h,iM];simp[sumS]
theorem iC{L:List Int}{i:Nat}(h:i<L.length)(x:Int):(L.set i x).getD i 0=x:=by simp[List.getD_eq_getElem?_getD,h]
theorem gG(L:List Int){i j:Nat}(h:i≠j)(x:Int):(L.set i x).getD j 0=L.getD j 0:=by simp[List.getD_eq_getElem?_getD,List.getElem?_set_ne h]
theorem tO(v:TreeV)(t:Tr)(S:List Int)(w:World)(bd:Bd t)(P:Placed t S)(h:IsTree w v t) :
 Calls prog 95 #[v.val t] w fun e w'=>∃(g ga gb:Nat) (A B:List Int),e=.returned (.pointer (some ⟨g,0,none⟩))∧WorkW w g ga gb v t A B w' ∧∀j:Nat,j<t.nodes.length→A.getD j 0=S.getD j 0:=by
 have hmo:prog.follows .mixedOrders=true:=by kernel_rfl
 have hn3:=bd.n;have hmk:=fun W=>gW W t.nodes.length (by omega);have HT:=Hd h;have BD:=Hd bd;have HP:=Hd P;clear h bd P;obtain⟨na,nc,ia,ic⟩:=v;unfold TreeV.val;go_enter func95,ntmps95
 go_upto_region 1 with fail
 have hbw0:Below w.heap.size w (boxT w ⟨na,nc,ia,ic⟩ t):=boxT_below
 go_cut [3]from 8 to 71 (fun v wc=>∃g ga gb,v=.pointer (some ⟨g,0,none⟩)∧WorkW w g ga gb ⟨na,nc,ia,ic⟩ t (List.replicate t.nodes.length 0) (List.replicate t.nodes.length 0) wc∧Below (w.heap.size+1) (boxT w ⟨na,nc,ia,ic⟩ t) wc)
 case first=>
  go_region;all_goals go_wp2
  all_goals go_meet
  all_goals first
   |exact⟨_,_,_,rfl,AC w ⟨na,nc,ia,ic⟩ t (.inl ⟨rfl,rfl⟩)⟩
   |exact⟨_,_,_,rfl,AC w ⟨na,nc,ia,ic⟩ t (.inr ⟨rfl,rfl⟩)⟩
 case rest=>
  obtain⟨g,ga,gb,rfl,hww,hbx⟩:=hcut;obtain⟨b0,b1,htx,⟨hs1,hs2,hs3⟩,hbw⟩:=boxed hbx HT.out;have HW:=Hd hww;have HBX:=Hd hbx;have HTX:=Hd htx;clear hww hbx htx hbw0 hbw hmk;go_wp2;clear b0 b1 hs1 hs2 hs3
  go_loopw [22] (fun t22 wr=>∃(k:Nat) (A B:List Int),t22=.int .i64 k∧k≤t.nodes.length∧Hid (WorkW w g ga gb ⟨na,nc,ia,ic⟩ t A B wr)∧Hid (∀j:Nat,j<k→A.getD j 0=S.getD j 0)) (fun t22 _=>t.nodes.length-(intOf t22).toNat)
  case atStart=>exact⟨0,_,_,rfl,Nat.zero_le _,HW,Hd (fun j h=>absurd h (Nat.not_lt_zero _))⟩
  case round=>
   obtain⟨k,A,B,rfl,hk,HA,HS⟩:=hrel;by_cases hlt:k<t.nodes.length
   ·obtain⟨b,o,ka,kc,ea,hb0,m0,m1,m2,m3,m4,hkr⟩:=HT.out.nodes.at hlt
    simp only at ea;have n0:=(HA.out.below.cell (p:=⟨b,o+k*5,none⟩) hb0).trans m0;have n1:=(HA.out.below.cell (p:=⟨b,o+k*5+1,none⟩) hb0).trans m1;have n2:=(HA.out.below.cell (p:=⟨b,o+k*5+2,none⟩) hb0).trans m2;have n3:=(HA.out.below.cell (p:=⟨b,o+k*5+3,none⟩) hb0).trans m3;have n4:=(HA.out.below.cell (p:=⟨b,o+k*5+4,none⟩) hb0).trans m4;have hb:b<wr.heap.size:=Nat.lt_of_lt_of_le hb0 HA.out.below.size;have hnd:=t.nd_at hlt;have hkl:=BD.out.k _ (List.getElem_mem hlt);obtain⟨D,hD⟩:∃D,t.nodes[k]=D:=⟨_,rfl⟩
    rw[hD]at n0 n1 n2 n3 n4 hkr hkl hnd;subst ea;have HND:=Hd hnd;have HK:=Hd hlt;have HKR:=Hd hkr;have hbD:Below wr.heap.size wr (boxD wr ka kc D):=brf.alloc nlr _;obtain⟨-,-,-,hga,hgb⟩:=HA.out.cells;clear hkr hD hnd m0 m1 m2 m3 m4;go_wp2;clear n0 n1 n2 n3 n4 hb;obtain⟨XD,hXD⟩:∃XD,wr.alloc (.cells #[.int .u8 D.kind,strV D.text,intV D.n,.slice ka D.kids.length kc,intV D.pos] 57)=XD:=⟨_,rfl⟩
    have HAD:Hid (WorkW w g ga gb ⟨some ⟨b,o,none⟩,nc,ia,ic⟩ t A B XD):=Hd (by rw[←hXD];exact HA.out.step hbD);have hbx3:XD.cell? ⟨wr.heap.size,3,none⟩=some (.slice ka D.kids.length kc):=by rw[←hXD];simp
    have hbxs:wr.heap.size<XD.heap.size:=by rw[←hXD];simp
    rw[hXD];clear hXD hbD;obtain⟨c2,c3,cg,ca,cb⟩:=HAD.out.cells;have ha0:=eN HAD.out.ha (i:=k) (by rw[HAD.out.la];exact hlt);have hb1:=eN HAD.out.hb (i:=k) (by rw[HAD.out.lb];exact hlt);have hfa:XD.frozen? ⟨ga,k,none⟩=false:=zl HAD.out.ha;have hfb:XD.frozen? ⟨gb,k,none⟩=false:=zl HAD.out.hb;have hab:=HAD.out.ab;go_region;have hx1:=((HAD.out.setA k 1).setB k (-1)).step brf.drew
    have hx3:((XD.setCell ⟨ga,k,none⟩ (intV 1)).setCell ⟨gb,k,none⟩ (intV (-1))).drew.cell? ⟨wr.heap.size,3,none⟩=some (.slice ka D.kids.length kc):=by
     rw[(Below.refl _ ((XD.setCell ⟨ga,k,none⟩ (intV 1)).setCell ⟨gb,k,none⟩ (intV (-1)))).drew.cell (p:=⟨wr.heap.size,3,none⟩) (by simpa using hbxs),World.cell?_setCell_other _ _ _ _ (by simp<;>omega),World.cell?_setCell_other _ _ _ _ (by simp<;>omega)];exact hbx3
    obtain⟨X,hX⟩:∃X,((XD.setCell ⟨ga,k,none⟩ (intV 1)).setCell ⟨gb,k,none⟩ (intV (-1))).drew=X:=⟨_,rfl⟩
    rw[hX]at hx1 hx3⊢;have HXW:=Hd hx1;clear hX hx1 hab c2 c3 cg ca cb ha0 hb1 hfa hfb hga hgb hbx3 hbxs;go_wp2;clear hx3
    go_loopw [42] (fun t42 wy=>∃(q:Nat) (A B:List Int),t42=.int .i64 q∧q≤D.kids.length∧Hid (WorkW w g ga gb ⟨some ⟨b,o,none⟩,nc,ia,ic⟩ t A B wy)∧Hid (∀j:Nat,j<k→A.getD j 0=S.getD j 0)∧Hid (A.getD k 0=1+sumS S (D.kids.take q))) (fun t42 _=>D.kids.length-(intOf t42).toNat)
    case atStart=>exact⟨0,_,_,rfl,Nat.zero_le _,HXW,Hd (fun j hj=>by rw[gG _ (by omega)];exact HS.out j hj),Hd (by rw[iC (by rw[HA.out.la];exact HK.out)];rfl)⟩
    case round=>
     obtain⟨q,A',B',rfl,hq,HA',HS',HK'⟩:=hrel;rename World=>wy
     by_cases hql:q<D.kids.length
     ·obtain⟨bk,ok,rfl,hbk,hck⟩:=Ints.at (show Ints wy ka kc D.kids from Row.mono HKR.out HA'.out.below nlr) hql
      have hmem:D.kids[q]∈D.kids:=List.getElem_mem hql;have hsn:=FX S hql;have hp1:=HP.out.part HK.out q;rw[HND.out]at hp1;obtain⟨y,hy⟩:∃y,D.kids[q]=y:=⟨_,rfl⟩
      rw[hy]at hck hmem hsn;obtain⟨-,-,k3,k4⟩:=HP.out.kid HK.out y (by rw[HND.out];exact hmem);obtain⟨kd,rfl⟩:=Int.eq_ofNat_of_zero_le k4;have hkd:kd<k:=by omega
      have hkdl:kd<t.nodes.length:=by have:=HK.out;omega
      have hbd:=HP.out.bd kd hkdl;rw[Int.toNat_natCast]at hsn;obtain⟨c2,c3,cg,ca,cb⟩:=HA'.out.cells;have ha0:=eN HA'.out.ha (i:=k) (by rw[HA'.out.la];exact HK.out);have ha1:=eN HA'.out.ha (i:=kd) (by rw[HA'.out.la];exact hkdl);have hb1:=eN HA'.out.hb (i:=kd) (by rw[HA'.out.lb];exact hkdl);rw[HK'.out]at ha0;rw[HS'.out kd hkd]at ha1;have hfa:wy.frozen? ⟨ga,k,none⟩=false:=zl HA'.out.ha;have hfb:wy.frozen? ⟨gb,kd,none⟩=false:=zl HA'.out.hb;have hab:=HA'.out.ab;have hag:=HA'.out.ag;have hbg:=HA'.out.bg;obtain⟨U,hU⟩:∃U,sumS S (D.kids.take q)=U:=⟨_,rfl⟩
      obtain⟨V,hV⟩:∃V,S.getD kd 0=V:=⟨_,rfl⟩
      rw[hU]at ha0 hp1 hsn;rw[hV]at ha1 hbd hsn;have hk1:=HK.out;have hu1:=hp1.1;have hu2:=hp1.2;have hv1:=hbd.1;have hv2:=hbd.2;have HSN:=Hd hsn;have HPUT:=Hd (((HA'.out.setA k (1+U+V)).step brf.drew).setB kd k);have hKl:k<A'.length:=by rw[HA'.out.la];exact HK.out
      have HKL:=Hd hKl;clear hsn hp1 hbd hU hV hy hmem k3 k4 hKl;go_wp2;go_region;go_wp2
      go_roundw
      case rel=>exact⟨q+1,_,_,by go_num,by omega,HPUT,Hd (fun j hj=>by rw[gG _ (by omega)];exact HS'.out j hj),Hd (by rw[iC HKL.out,HSN.out];omega)⟩
      case measure=>simp[intOf];omega
     ·obtain rfl:q=D.kids.length:=by omega
      go_wp2
      go_roundw
      case rel=>exact⟨k+1,A',B',by go_num,by have:=HK.out;omega,HA',Hd (fun j hj=>by
       by_cases e:j<k
       ·exact HS'.out j e
       ·obtain rfl:j=k:=by omega
        rw[HK'.out,HP.out.size HK.out,HND.out,List.take_length])⟩
      case measure=>have:=HK.out;simp[intOf];omega
   ·obtain rfl:k=t.nodes.length:=by omega
    go_wp2;go_ret;exact⟨g,ga,gb,A,B,rfl,HA.out,HS.out⟩
structure OutW (B g:Nat) (ns:List Nd) (its:List Int) (U I:Nat→Prop) (W:World):Prop where
 nodes:∃na nc ks,W.cell? ⟨g,0,none⟩=some (.slice na ns.length nc)∧OwnN W B na nc ns ks∧(∀i,AtB na i→U i)∧∀j (h:j<ns.length) (k:j<ks.length),0<ns[j].kids.length→∀x,ks[j].1=some x→U x.block
 items:∃ia ic,W.cell? ⟨g,1,none⟩=some (.slice ia its.length ic)∧OwnI W B ia ic its∧∀i,AtB ia i→I i
 f0:W.frozen? ⟨g,0,none⟩=false
 f1:W.frozen? ⟨g,1,none⟩=false
 dis:∀i,U i→¬I i
 mem:∀i,U i∨I i→B≤i∧i<W.heap.size
 gB:g<B
 sz:B≤W.heap.size
theorem OutW.step{B g:Nat}{ns:List Nd}{its:List Int}{U I:Nat→Prop}{W W':World}(h:OutW B g ns its U I W)(hb:Below W.heap.size W W'):OutW B g ns its U I W':=by
 obtain⟨⟨na,nc,ks,c0,hN,h1,h2⟩,⟨ia,ic,c1,hI,h3⟩,f0,f1,dis,mem,gB,sz⟩:=h;have hg:g<W.heap.size:=by omega
 exact⟨⟨na,nc,ks,(hb.cell (p:=⟨g,0,none⟩) hg).trans c0,hN.below hb,h1,h2⟩,⟨ia,ic,(hb.cell (p:=⟨g,1,none⟩) hg).trans c1,zy hI hb,h3⟩,(hb.frozen (p:=⟨g,0,none⟩) hg).trans f0,(hb.frozen (p:=⟨g,1,none⟩) hg).trans f1,dis,
  fun i hi=>⟨(mem i hi).1,Nat.lt_of_lt_of_le (mem i hi).2 hb.size⟩,gB,Nat.le_trans sz hb.size⟩
theorem OutW.new{B g:Nat}{W:World}(c0:W.cell? ⟨g,0,none⟩=some (.slice none 0 0))(c1:W.cell? ⟨g,1,none⟩=some (.slice none 0 0))(f0:W.frozen? ⟨g,0,none⟩=false)(f1:W.frozen? ⟨g,1,none⟩=false)(gB:g<B)(sz:B≤W.heap.size) :
 OutW B g [] [] (fun _=>False) (fun _=>False) W:=
 ⟨⟨none,0,[],c0,OwnN.nil _ _,(fun i ⟨x,e,_⟩=>by cases e),(fun j h=>absurd h (Nat.not_lt_zero _))⟩,⟨none,0,c1,⟨rfl,.inl ⟨rfl,rfl⟩⟩,(fun i ⟨x,e,_⟩=>by cases e)⟩,f0,f1,(fun _ h=>h.elim),(fun _ h=>h.elim False.elim False.elim),gB,sz⟩
theorem OutW.pushN{B g:Nat}{ns:List Nd}{its:List Int}{U I:Nat→Prop}{W:World}(h:OutW B g ns its U I W){na:Option Addr}{nc:Nat}{ks:List (Option Addr×Nat)}
 (c0:W.cell? ⟨g,0,none⟩=some (.slice na ns.length nc))(hN:OwnN W B na nc ns ks)(hU1:∀i,AtB na i→U i)(hU2:∀j (h:j<ns.length) (k:j<ks.length),0<ns[j].kids.length→∀x,ks[j].1=some x→U x.block)
 (d:Nd){ka:Option Addr}{kc:Nat}(hk:Row 1 W ka d.kids.length kc (zm d.kids)){lo:Nat}(hlo:∀i,U i∨I i→i<lo)(hB:B≤lo)(hlw:lo≤W.heap.size)(hkl:∀x,ka=some x→lo≤x.block∧x.block<W.heap.size)(hn:ns.length≤2000000) :
 ∃ a' c' w3 W4,(Builtin.append_ #[22,22] 22 #[.slice na ns.length nc,.slice (some ⟨W.heap.size,0,none⟩) 1 1]).run prog (W.alloc (.cells #[.int .u8 d.kind,strV d.text,intV d.n,.slice ka d.kids.length kc,intV d.pos] 57))=.ok (.slice a' (ns.length+1) c') w3 ∧
   (∀b,b<W.heap.size→¬AtB na b→w3.heap[b]?=W.heap[b]?)∧w3.setCell ⟨g,0,none⟩ (.slice a' (ns.length+1) c')=W4∧OutW B g (ns++[d]) its (fun i=>U i∨(lo≤i∧i<w3.heap.size)) I W4∧Turns (fun i=>i=g∨U i) W W4:=by
 have gB:=h.gB;have sz:=h.sz;have hmem:=h.mem;obtain⟨ia,ic,c1,hI,h3⟩:=h.items;obtain⟨i0,hi,hz0,hz1,hz2⟩:=info_parts iZ;obtain⟨W2,hW2⟩:∃W2,W.alloc (.cells #[.int .u8 d.kind,strV d.text,intV d.n,.slice ka d.kids.length kc,intV d.pos] 57)=W2:=⟨_,rfl⟩
 have hb2:Below W.heap.size W W2:=by rw[←hW2];exact(Below.refl _ W).alloc nlr _
 have hs2:W2.heap.size=W.heap.size+1:=by rw[←hW2];simp
 have hN2:=hN.below hb2;have hrow:Row 5 W2 (some ⟨W.heap.size,0,none⟩) 1 1 (d.cells (ka,kc)):=by rw[←hW2];exact nN W d ka kc rfl
 obtain⟨v',w3,hrun,h2,hg3⟩:=aZ (P:=prog) W2 B 22 22 57 i0 _ 5 64 cZ hi hz0 hz1 hz2 rfl (by decide) (.slice na ns.length nc) ns.length _ hN2.own (some ⟨W.heap.size,0,none⟩) 1 1 _ hrow (fI _ _) (by unfold maxLen;omega) (by omega) (by omega);obtain⟨a',c',rfl,_⟩:=bK h2;have hw:=dM (P:=prog) W2 B 22 22 57 i0 _ 5 64 cZ hi hz0 hz1 hz2 rfl (by decide) na ns.length nc _ hN2.own (some ⟨W.heap.size,0,none⟩) 1 1 _ hrow (fI _ _) (by unfold maxLen;omega) (by omega) (by omega) hrun;rw[hW2]
 have hkr:KRow W2 B na (ka,kc) d.kids:=⟨hk.mono hb2 nlr,fun _ x e=>⟨by have:=(hkl x e).1;omega,fun y ey e3=>by
  have h5:=hlo y.block (.inl (hU1 _ ⟨y,ey,rfl⟩));have h6:=(hkl x e).1
  omega⟩⟩
 have hsn:=OwnN.snoc hN2 (d:=d) (k:=(ka,kc)) hkr h2 hg3 hw
 have hkeep:∀b,b<W2.heap.size→¬AtB na b→w3.heap[b]?=W2.heap[b]?:=fun b hb hn=>hg3.block b hb (by
  cases na with
  |none=>simp[Value.ownBlock]
  |some y=>simp only[Value.ownBlock];exact fun e=>hn ⟨y,rfl,by simpa using e.symm⟩)
 have hkeepW:∀b,b<W.heap.size→¬AtB na b→w3.heap[b]?=W.heap[b]?:=fun b hb hn=>(hkeep b (by omega) hn).trans (hb2.block b hb);have hsz:W2.heap.size≤w3.heap.size:=hg3.size
 have n0:¬AtB na g:=by
  rintro⟨x,e,e2⟩;have:=(hN.lt x e).1;omega
 have hT3:Turns (fun i=>AtB na i) W w3:=by
  obtain⟨o1,o2,o3,o4,o5⟩:=hg3;exact⟨o1.trans hb2.os,o2.trans hb2.tape,o3.trans hb2.output,by omega,fun b hb hn=>hkeepW b hb hn⟩
 have hT:Turns (fun i=>i=g∨U i) W (w3.setCell ⟨g,0,none⟩ (.slice a' (ns.length+1) c')):=
  (hT3.mono fun k _ hk=>.inr (hU1 k hk)).trans (Turns.setCell (M:=fun i=>i=g∨U i) (a:=⟨g,0,none⟩) (.inl rfl) _)
 have hgl:g<W.heap.size:=by omega
 have hcell:∀i,w3.cell? ⟨g,i,none⟩=W.cell? ⟨g,i,none⟩:=fun i=>World.cell?_of_block (a:=⟨g,i,none⟩) (hkeepW _ hgl n0);have hfr:∀i,w3.frozen? ⟨g,i,none⟩=W.frozen? ⟨g,i,none⟩:=fun i=>by unfold World.frozen?;rw[hkeepW _ hgl n0]
 have c0':=World.cell?_setCell_same w3 ⟨g,0,none⟩ (.slice a' (ns.length+1) c') ((hcell 0).trans c0)
 have hIn:∀i,AtB ia i→¬(i=g∨U i):=by
  rintro i hai (rfl|hu)
  ·obtain⟨x,e,e2⟩:=hai
   subst e;have:=(hI.lt x.block rfl).1;omega
  ·exact h.dis i hu (h3 i hai)
 refine⟨a',c',w3,_,hrun,hkeepW,rfl,⟨⟨a',c',ks++[(ka,kc)],?_,hsn.setCell (p:=⟨g,0,none⟩) gB _,?_,?_⟩,⟨ia,ic,?_,bR hI hT hIn,h3⟩,?_,?_,?_,?_,gB,?_⟩,hT⟩
 ·rw[c0'];simp
 ·rintro i⟨x,e,rfl⟩
  rcases hw x e with h5|h5
  ·exact .inl (hU1 _ ⟨x,h5,rfl⟩)
  ·refine .inr ⟨?_,(hsn.lt x e).2⟩
   omega
 ·intro j hj hjk h0 x e
  have hl:=hN.len;by_cases hjl:j<ns.length
  ·rw[List.getElem_append_left (by omega)]at e
   rw[List.getElem_append_left hjl]at h0;exact .inl (hU2 j hjl (by omega) h0 x e)
  ·obtain rfl:j=ns.length:=by simp at hj;omega
   rw[List.getElem_append_right (by omega)]at e;simp[hl]at e;have:=hkl x e;exact .inr ⟨this.1,by omega⟩
 ·rw[World.cell?_setCell_other _ _ _ _ (by simp)]
  exact(hcell 1).trans c1
 ·rw[World.frozen?_setCell,hfr];exact h.f0
 ·rw[World.frozen?_setCell,hfr];exact h.f1
 ·rintro i (hu|⟨hu,_⟩) hii
  ·exact h.dis i hu hii
  ·have:=hlo i (.inr hii)
   omega
 ·rintro i ((hu|⟨hu1,hu2⟩) | hii)
  ·have:=hmem i (.inl hu)
   exact⟨this.1,by simp;omega⟩
  ·exact⟨by omega,by simpa using hu2⟩
  ·have:=hmem i (.inr hii)
   exact⟨this.1,by simp;omega⟩
 ·simp;omega
theorem KF{W:World}{B g i c:Nat}{a:Option Addr}{l:List Int}(h:OwnI W B a c l)(hn:∀y,a=some y→y.block≠g){v:Value}:OwnI (W.setCell ⟨g,i,none⟩ v) B a c l:=
 bR (M:=fun k=>k=g) h (Turns.setCell (M:=fun k=>k=g) (a:=⟨g,i,none⟩) rfl _) fun k ⟨y,e,e2⟩ e3=>hn y e (e2.trans e3)
theorem OutW.pushI{B g:Nat}{ns:List Nd}{its:List Int}{U I:Nat→Prop}{W:World}(h:OutW B g ns its U I W){ia:Option Addr}{ic:Nat}
 (c1:W.cell? ⟨g,1,none⟩=some (.slice ia its.length ic))(hI:OwnI W B ia ic its)(hI1:∀i,AtB ia i→I i)(x:Int)(hn:its.length≤2000000) :
 ∃ a' c' w3 W4,(Builtin.append_ #[23,23] 23 #[.slice ia its.length ic,.slice (some ⟨W.heap.size,0,none⟩) 1 1]).run prog (W.alloc (.cells #[intV x] 3))=.ok (.slice a' (its.length+1) c') w3 ∧
   (∀b,b<W.heap.size→¬AtB ia b→w3.heap[b]?=W.heap[b]?)∧w3.setCell ⟨g,1,none⟩ (.slice a' (its.length+1) c')=W4∧OutW B g ns (its++[x]) U (fun i=>I i∨(W.heap.size≤i∧i<w3.heap.size)) W4∧Turns (fun i=>i=g∨I i) W W4:=by
 have gB:=h.gB;have sz:=h.sz;have hmem:=h.mem;obtain⟨na,nc,ks,c0,hN,hU1,hU2⟩:=h.nodes;obtain⟨i0,hi,hz0,hz1,hz2⟩:=info_parts jU;obtain⟨W2,hW2⟩:∃W2,W.alloc (.cells #[intV x] 3)=W2:=⟨_,rfl⟩
 have hb2:Below W.heap.size W W2:=by rw[←hW2];exact(Below.refl _ W).alloc nlr _
 have hs2:W2.heap.size=W.heap.size+1:=by rw[←hW2];simp
 have hI2:=zy hI hb2;have hrow:Row 1 W2 (some ⟨W.heap.size,0,none⟩) 1 1 (zm [x]):=by rw[←hW2];exact aK W (intV x) _
 obtain⟨v',w3,hrun,h2,hg3⟩:=aZ (P:=prog) W2 B 23 23 3 i0 _ 1 8 bM hi hz0 hz1 hz2 rfl (by decide) (.slice ia its.length ic) its.length _ hI2 (some ⟨W.heap.size,0,none⟩) 1 1 _ hrow (fC _) (by unfold maxLen;omega) (by omega) (by omega);obtain⟨a',c',rfl,_⟩:=bK h2;have hw:=dM (P:=prog) W2 B 23 23 3 i0 _ 1 8 bM hi hz0 hz1 hz2 rfl (by decide) ia its.length ic _ hI2 (some ⟨W.heap.size,0,none⟩) 1 1 _ hrow (fC _) (by unfold maxLen;omega) (by omega) (by omega) hrun;rw[hW2]
 have hown3:OwnI w3 B a' c' (its++[x]):=by
  have e:(its++[x]).length=its.length+1:=by simp
  have e2:zm (its++[x])=zm its++zm [x]:=by simp
  unfold OwnI;rw[e,e2];exact h2
 have hkeep:∀b,b<W2.heap.size→¬AtB ia b→w3.heap[b]?=W2.heap[b]?:=fun b hb hn=>hg3.block b hb (by
  cases ia with
  |none=>simp[Value.ownBlock]
  |some y=>simp only[Value.ownBlock];exact fun e=>hn ⟨y,rfl,by simpa using e.symm⟩)
 have hkeepW:∀b,b<W.heap.size→¬AtB ia b→w3.heap[b]?=W.heap[b]?:=fun b hb hn=>(hkeep b (by omega) hn).trans (hb2.block b hb);have hsz:W2.heap.size≤w3.heap.size:=hg3.size
 have n0:¬AtB ia g:=by
  rintro⟨y,e,e2⟩;subst e;have:=(hI.lt y.block rfl).1;omega
 have hT3:Turns (fun i=>AtB ia i) W w3:=by
  obtain⟨o1,o2,o3,o4,o5⟩:=hg3;exact⟨o1.trans hb2.os,o2.trans hb2.tape,o3.trans hb2.output,by omega,fun b hb hn=>hkeepW b hb hn⟩
 have hT:Turns (fun i=>i=g∨I i) W (w3.setCell ⟨g,1,none⟩ (.slice a' (its.length+1) c')):=
  (hT3.mono fun k _ hk=>.inr (hI1 k hk)).trans (Turns.setCell (M:=fun i=>i=g∨I i) (a:=⟨g,1,none⟩) (.inl rfl) _)
 have hgl:g<W.heap.size:=by omega
 have hcell:∀i,w3.cell? ⟨g,i,none⟩=W.cell? ⟨g,i,none⟩:=fun i=>World.cell?_of_block (a:=⟨g,i,none⟩) (hkeepW _ hgl n0);have hfr:∀i,w3.frozen? ⟨g,i,none⟩=W.frozen? ⟨g,i,none⟩:=fun i=>by unfold World.frozen?;rw[hkeepW _ hgl n0]
 have c1':=World.cell?_setCell_same w3 ⟨g,1,none⟩ (.slice a' (its.length+1) c') ((hcell 1).trans c1)
 have hNn:∀i,U i→¬(i=g∨I i):=by
  rintro i hu (rfl|hii)
  ·have:=hmem _ (.inl hu)
   omega
  ·exact h.dis i hu hii
 refine⟨a',c',w3,_,hrun,hkeepW,rfl,⟨⟨na,nc,ks,?_,hN.turns hT (fun i hi=>hNn i (hU1 i hi)) (fun j hj hjk h0 x e=>hNn _ (hU2 j hj hjk h0 x e)),hU1,hU2⟩,⟨a',c',?_,KF hown3 ?_,?_⟩,?_,?_,?_,?_,gB,?_⟩,hT⟩
 ·rw[World.cell?_setCell_other _ _ _ _ (by simp)]
  exact(hcell 0).trans c0
 ·rw[c1'];simp
 ·intro y e
  subst e;have:=(hown3.lt y.block rfl).1;omega
 ·rintro i⟨y,e,rfl⟩
  rcases hw y e with h5|h5
  ·exact .inl (hI1 _ ⟨y,h5,rfl⟩)
  ·subst e
   exact .inr ⟨by omega,(hown3.lt y.block rfl).2⟩
 ·rw[World.frozen?_setCell,hfr];exact h.f0
 ·rw[World.frozen?_setCell,hfr];exact h.f1
 ·rintro i hu (hii|⟨hii,_⟩)
  ·exact h.dis i hu hii
  ·have:=hmem i (.inl hu)
   omega
 ·rintro i (hu | (hii|⟨h5,h6⟩))
  ·have:=hmem i (.inl hu)
   exact⟨this.1,by simp;omega⟩
  ·have:=hmem i (.inr hii)
   exact⟨this.1,by simp;omega⟩
  ·exact⟨by omega,by simpa using h6⟩
 ·simp;omega
def movN(by_:Int)(d:Nd):Nd:={ d with kids:=d.kids.map fun k=>k+by_ }
def dZ(n:Nat)(xs:List Nd)(k:Nat):List Int:=((List.range k).filter fun i=>cH (xs.getD i nd0).kind).map fun i=>((n+i:Nat):Int)
theorem BO(n:Nat){xs:List Nd}{k:Nat}(h:k<xs.length):dZ n xs (k+1)=dZ n xs k++if cH xs[k].kind then [((n+k:Nat):Int)]else []:=by
 unfold dZ;rw[List.range_succ,List.filter_append,List.map_append];congr 1;have e:xs.getD k nd0=xs[k]:=by rw[List.getD_eq_getElem?_getD,List.getElem?_eq_getElem h,Option.getD_some]
 simp only[List.filter_cons,List.filter_nil,e];split<;>simp
theorem mY(n:Nat)(xs:List Nd)(k:Nat):(dZ n xs k).length≤k:=by
 unfold dZ;rw[List.length_map];exact Nat.le_trans (List.length_filter_le _ _) (by simp)
theorem KC(by_:Int){xs:List Nd}{k:Nat}(h:k<xs.length):(xs.take (k+1)).map (movN by_)=(xs.take k).map (movN by_)++[movN by_ xs[k]]:=by
 rw[List.take_succ_eq_append_getElem h,List.map_append];rfl
theorem JC{W:World}{g c:Nat}{L:List Int}(h:W.heap[g]?=some (.cells ⟨zm L⟩ 3 (0,0)))(hc:L.length≤c):Row 1 W (some ⟨g,0,none⟩) L.length c (zm L):=by
 refine⟨by simp,hc,(fun h=>by cases h),.inr ⟨g,0,rfl,(Array.getElem?_eq_some_iff.1 h).1,fun i hi=>?_⟩⟩;have hl:i<L.length:=by simpa using hi
 rw[Nat.zero_add,eN h hl,List.getD_eq_getElem?_getD,List.getElem?_eq_getElem hl];simp
theorem kK(w0 w:World)(g B:Nat)(ns:List Nd)(its:List Int)(U I:Nat→Prop)(xs:List Nd)(xa:Option Addr)(xc:Nat)(from_:Int)
 (hsrc:Nodes w0 xa xc xs)(hlow:w0.heap.size≤g)(hbw:Below w0.heap.size w0 w)(ho:OutW B g ns its U I w)
 (hxs:xs.length≤1000000)(hns:ns.length≤1000000)(hit:its.length≤1000000)(hkl:∀d∈xs,d.kids.length≤1000000)(hkv:∀d∈xs,∀y∈d.kids,-1000000000≤y∧y≤1000000000)(hf:0≤from_∧from_≤1000000) :
 Calls prog 96 #[.pointer (some ⟨g,0,none⟩),.slice xa xs.length xc,intV from_] w fun e w'=>(∃v,e=.returned v) ∧
  ∃U' I':Nat→Prop,OutW B g (ns++xs.map (movN (ns.length-from_))) (its++dZ ns.length xs xs.length) U' I' w'∧Turns (fun i=>i=g∨U i∨I i) w w'∧(∀i,U' i∨I' i→(U i∨I i)∨w.heap.size≤i):=by
 have hmo:prog.follows .mixedOrders=true:=by kernel_rfl
 obtain⟨na0,nc0,ks0,hc00,-,-,-⟩:=ho.nodes;have hgl0:g<w.heap.size:=Nat.lt_of_lt_of_le ho.gB ho.sz;have HO:=Hd ho;have HSRC:=Hd hsrc;have HBW:=Hd hbw;have HKL:=Hd hkl;have HKV:=Hd hkv;have hf1:=hf.1;have hf2:=hf.2;clear ho hsrc hbw hkl hkv hf;obtain⟨M,hM⟩:∃M:Int,(ns.length:Int)-from_=M:=⟨_,rfl⟩
 have hM1 : -1000000≤M∧M≤1000000:=by omega
 rw[hM];go_enter func96,ntmps96;go_wp2;clear hc00 hM
 go_loopw [21] (fun t21 wr=>∃(k:Nat) (U' I':Nat→Prop),t21=.int .i64 k∧k≤xs.length∧Hid (OutW B g (ns++(xs.take k).map (movN M)) (its++dZ ns.length xs k) U' I' wr)∧Hid (Turns (fun i=>i=g∨(U i∨I i)∨w.heap.size≤i) w wr)∧Hid (∀i,U' i∨I' i→(U i∨I i)∨w.heap.size≤i)) (fun t21 _=>xs.length-(intOf t21).toNat)
 case atStart=>exact⟨0,U,I,rfl,Nat.zero_le _,Hd (by simpa[dZ]using HO.out),Hd (Turns.refl _ _),Hd (fun i h=>.inl h)⟩
 case round=>
  obtain⟨k,U',I',rfl,hk,HO',HT',HU'⟩:=hrel;by_cases hlt:k<xs.length
  ·have hB0:Below w0.heap.size w0 wr:=HBW.out.trans (HT'.out.below (fun i hi=>by
    rcases hi with rfl|hi|hi
    ·exact hlow
    ·have:=(HO.out.mem i hi).1;have:=HO.out.gB;omega
    ·have:=HBW.out.size;omega) HBW.out.size)
   obtain⟨b,o,ka,kc,ea,hb0,m0,m1,m2,m3,m4,hkr⟩:=HSRC.out.at hlt;subst ea;have n0:=(hB0.cell (p:=⟨b,o+k*5,none⟩) hb0).trans m0;have n1:=(hB0.cell (p:=⟨b,o+k*5+1,none⟩) hb0).trans m1;have n2:=(hB0.cell (p:=⟨b,o+k*5+2,none⟩) hb0).trans m2;have n3:=(hB0.cell (p:=⟨b,o+k*5+3,none⟩) hb0).trans m3;have n4:=(hB0.cell (p:=⟨b,o+k*5+4,none⟩) hb0).trans m4;have hb:b<wr.heap.size:=Nat.lt_of_lt_of_le hb0 hB0.size;have hdl:=HKL.out _ (List.getElem_mem hlt);have hdv:=HKV.out _ (List.getElem_mem hlt);have hsn:=KC M hlt;have hsi:=BO ns.length hlt;obtain⟨D,hD⟩:∃D,xs[k]=D:=⟨_,rfl⟩
   rw[hD]at n0 n1 n2 n3 n4 hkr hdl hdv hsn hsi;have HB0:=Hd hB0;have HK:=Hd hlt;have HKR:=Hd hkr;have HDV:=Hd hdv;have HSN:=Hd hsn;have HSI:=Hd hsi;have hmk:=fun W=>gW W D.kids.length (by omega);clear hB0 hb0 m0 m1 m2 m3 m4 hkr hdv hsn hsi hD;go_wp2;clear n0 n1 n2 n3 n4 hb hmk;obtain⟨X1,hX1⟩:∃X1,(wr.alloc (.cells #[.int .u8 D.kind,strV D.text,intV D.n,.slice ka D.kids.length kc,intV D.pos] 57)).alloc (.cells (cF D.kids.length) 3)=X1:=⟨_,rfl⟩
   rw[hX1];have hs1:X1.heap.size=wr.heap.size+1+1:=by rw[←hX1];simp
   have hBX:Below wr.heap.size wr X1:=by rw[←hX1];exact((Below.refl _ wr).alloc nlr _).alloc (by simp) _
   have hx8:X1.heap[wr.heap.size]?=some (.cells #[.int .u8 D.kind,strV D.text,intV D.n,.slice ka D.kids.length kc,intV D.pos] 57 (0,0)):=by
    rw[←hX1];exact((Below.refl (wr.heap.size+1) (wr.alloc (.cells #[.int .u8 D.kind,strV D.text,intV D.n,.slice ka D.kids.length kc,intV D.pos] 57))).alloc (by simp) _).block wr.heap.size (by omega) |>.trans (World.alloc_heap_new wr _)
   have hx9:X1.heap[wr.heap.size+1]?=some (.cells ⟨zm (List.replicate D.kids.length 0)⟩ 3 (0,0)):=by
    have e:(⟨zm (List.replicate D.kids.length 0)⟩:Array Value)=cF D.kids.length:=by
     apply Array.ext';rw[lA]
    rw[e,←hX1];have:=World.alloc_heap_new (wr.alloc (.cells #[.int .u8 D.kind,strV D.text,intV D.n,.slice ka D.kids.length kc,intV D.pos] 57)) (.cells (cF D.kids.length) 3);rwa[World.size_alloc]at this
   have HX8:=Hd hx8;have HX9:=Hd hx9;have HS1:=Hd hs1;have HBX:=Hd hBX;clear hX1 hx8 hx9 hs1 hBX
   go_loopw [32] (fun t32 wy=>∃(q:Nat) (A:List Int),t32=.int .i64 q∧q≤D.kids.length∧Hid (wy.heap[wr.heap.size+1]?=some (.cells ⟨zm A⟩ 3 (0,0)))∧Hid (A.length=D.kids.length)∧Hid (∀j (h:j<D.kids.length),j<q→A.getD j 0=D.kids[j]+M)∧Hid (Below (wr.heap.size+1) X1 wy)) (fun t32 _=>D.kids.length-(intOf t32).toNat)
   case atStart=>exact⟨0,_,rfl,Nat.zero_le _,HX9,Hd (by simp),Hd (fun j _ h=>absurd h (Nat.not_lt_zero _)),Hd brf⟩
   case round=>
    obtain⟨q,A,rfl,hq,HA,HAL,HAV,HBY⟩:=hrel;rename World=>wy
    have hBW:Hid (Below w0.heap.size w0 wy):=Hd (HB0.out.trans ((HBX.out.trans (HBY.out.mono (by omega))).mono HB0.out.size));by_cases hql:q<D.kids.length
    ·obtain⟨bk,ok,rfl,hbk,hck⟩:=Ints.at (show Ints wy ka kc D.kids from Row.mono HKR.out hBW.out nlr) hql
     have hv:=HDV.out _ (List.getElem_mem hql);have hc9:=eN HA.out (i:=q) (by rw[HAL.out];exact hql);have hf9:wy.frozen? ⟨wr.heap.size+1,q,none⟩=false:=zl HA.out;have hg9:wr.heap.size+1<wy.heap.size:=(Array.getElem?_eq_some_iff.1 HA.out).1;obtain⟨y,hy⟩:∃y,D.kids[q]=y:=⟨_,rfl⟩
     rw[hy]at hck hv;have hv1:=hv.1;have hv2:=hv.2;have HY:=Hd hy;have HQ:=Hd hql;clear hv hy;go_wp2
     go_roundw
     case rel=>
      refine⟨q+1,A.set q (y+M),by go_num,by omega,Hd (by rw[N.heap_setCell_at HA.out,sF]),Hd (by rw[List.length_set];exact HAL.out),Hd (fun j hj hjq=>?_),Hd (HBY.out.setCell (by simp) _)⟩;by_cases e:j=q
      ·subst e
       rw[iC (by rw[HAL.out];exact hj),HY.out]
      ·rw[gG _ (Ne.symm e)]
       exact HAV.out j hj (by omega)
     case measure=>simp[intOf];omega
    ·obtain rfl:q=D.kids.length:=by omega
     have hA:A=(movN M D).kids:=by
      refine List.ext_getElem (by simp[movN,HAL.out]) fun j h1 h2=>?_;have:=HAV.out j (by rw[←HAL.out];exact h1) (by rw[←HAL.out];exact h1);rw[List.getD_eq_getElem?_getD,List.getElem?_eq_getElem h1,Option.getD_some]at this;rw[this];simp[movN]
     subst hA;have hx8:wy.heap[wr.heap.size]?=some (.cells #[.int .u8 D.kind,strV D.text,intV D.n,.slice ka D.kids.length kc,intV D.pos] 57 (0,0)):=(HBY.out.block wr.heap.size (by omega)).trans HX8.out;have x3:=za (i:=3) (v:=.slice ka D.kids.length kc) hx8 rfl;have x3f:wy.frozen? ⟨wr.heap.size,3,none⟩=false:=zl hx8;have hg8:wr.heap.size<wy.heap.size:=(Array.getElem?_eq_some_iff.1 hx8).1;have H8:=Hd hx8;clear hx8;go_wp2;obtain⟨X3,hX3⟩:∃X3,wy.setCell ⟨wr.heap.size,3,none⟩ (.slice (some ⟨wr.heap.size+1,0,none⟩) D.kids.length D.kids.length)=X3:=⟨_,rfl⟩
     rw[hX3];have hb3:Below wr.heap.size wr X3:=by rw[←hX3];exact(HBX.out.trans (HBY.out.mono (by omega))).setCell nlr _
     have h8:X3.heap[wr.heap.size]?=some (.cells #[.int .u8 D.kind,strV D.text,intV D.n,.slice (some ⟨wr.heap.size+1,0,none⟩) D.kids.length D.kids.length,intV D.pos] 57 (0,0)):=by
      rw[←hX3,N.heap_setCell_at H8.out];rfl
     have h9:X3.heap[wr.heap.size+1]?=some (.cells ⟨zm (movN M D).kids⟩ 3 (0,0)):=by
      rw[←hX3];exact(dO (by omega)).trans HA.out
     have HB3:=Hd hb3;have H38:=Hd h8;have H39:=Hd h9;clear hX3 hb3 h8 h9 x3 x3f hg8 HA HAL HAV HBY hBW H8 HX8 HX9 HS1 HBX;have hnl:(ns++(xs.take k).map (movN M)).length=ns.length+k:=by simp;have:=HK.out;omega
     have hil:=mY ns.length xs k;have HOX:=Hd ((HO'.out.step HB3.out).step (Below.refl _ X3).drew);have HNL:=Hd hnl;have HIL:=Hd hil;obtain⟨NS,hNS⟩:∃NS,ns++(xs.take k).map (movN M)=NS:=⟨_,rfl⟩
     obtain⟨IS,hIS⟩:∃IS,its++dZ ns.length xs k=IS:=⟨_,rfl⟩
     rw[hNS,hIS]at HOX;rw[hNS]at HNL;have HIS:Hid (IS.length≤2000000):=Hd (by rw[←hIS,List.length_append];have:=HK.out;omega);have HNE:=Hd hNS;have HIE:=Hd hIS;clear hNS hIS hnl hil;obtain⟨na,nc,ks,c0,hN,hU1,hU2⟩:=HOX.out.nodes;have hkm:(movN M D).kids.length=D.kids.length:=by simp[movN]
     have hrow:=JC (W:=X3.drew) (c:=D.kids.length) H39.out (by rw[hkm];exact nlr);rw[hkm]at hrow;have hlo:∀i,U' i∨I' i→i<wr.heap.size:=fun i hi=>(HO'.out.mem i hi).2;have h3s:=HB3.out.size;have h39s:wr.heap.size+1<X3.heap.size:=(Array.getElem?_eq_some_iff.1 H39.out).1;obtain⟨a5,c5,w5,W6,hrun,hkeep,hW6,hO6,hT6⟩:=HOX.out.pushN c0 hN hU1 hU2 (movN M D) (by rw[hkm];exact hrow) hlo HO'.out.sz (by simpa using h3s) (fun x e=>by cases e;exact⟨Nat.le_succ _,by show wr.heap.size+1<_;simpa using h39s⟩) (by rw[HNL.out];have:=HK.out;omega);rw[hkm]at hrun;have hgn:¬AtB na g:=fun e=>by have:=(HOX.out.mem g (.inl (hU1 g e))).1;have:=HOX.out.gB;omega
     have h8n:¬AtB na wr.heap.size:=fun e=>by have:=hlo _ (.inl (hU1 _ e));omega
     have hgs:g<X3.drew.heap.size:=by have:=HOX.out.gB;have:=HOX.out.sz;omega
     have h8s:wr.heap.size<X3.drew.heap.size:=by simp;omega
     have hc3:w5.cell? ⟨g,0,none⟩=some (.slice na NS.length nc):=(World.cell?_of_block (a:=⟨g,0,none⟩) (hkeep g hgs hgn)).trans c0
     have hf3:w5.frozen? ⟨g,0,none⟩=false:=by
      have:=hkeep g hgs hgn;have hfz:=HOX.out.f0;unfold World.frozen? at hfz⊢;rw[this];exact hfz
     have hb83:w5.heap[wr.heap.size]?=some (.cells #[.int .u8 D.kind,strV D.text,intV D.n,.slice (some ⟨wr.heap.size+1,0,none⟩) D.kids.length D.kids.length,intV D.pos] 57 (0,0)):=(hkeep _ h8s h8n).trans H38.out;have HJ0:Hid ((fun Wz:World=>Wz.cell? ⟨g,0,none⟩=some (.slice na NS.length nc)∧Wz.heap[wr.heap.size]?=some (.cells #[.int .u8 D.kind,strV D.text,intV D.n,.slice (some ⟨wr.heap.size+1,0,none⟩) D.kids.length D.kids.length,intV D.pos] 57 (0,0))) X3.drew):=Hd ⟨c0,H38.out⟩;have HJ3:Hid ((fun Wz:World=>Wz.cell? ⟨g,0,none⟩=some (.slice na NS.length nc)∧Wz.heap[wr.heap.size]?=some (.cells #[.int .u8 D.kind,strV D.text,intV D.n,.slice (some ⟨wr.heap.size+1,0,none⟩) D.kids.length D.kids.length,intV D.pos] 57 (0,0))) w5):=Hd ⟨hc3,hb83⟩
     have HJA:Hid ((fun Wz:World=>Wz.cell? ⟨g,0,none⟩=some (.slice na NS.length nc)∧Wz.heap[wr.heap.size]?=some (.cells #[.int .u8 D.kind,strV D.text,intV D.n,.slice (some ⟨wr.heap.size+1,0,none⟩) D.kids.length D.kids.length,intV D.pos] 57 (0,0))) (X3.drew.alloc (.cells #[.int .u8 D.kind,strV D.text,intV D.n,.slice (some ⟨wr.heap.size+1,0,none⟩) D.kids.length D.kids.length,intV D.pos] 57))):=
      Hd ⟨(((Below.refl _ X3.drew).alloc nlr _).cell (p:=⟨g,0,none⟩) hgs).trans c0,(Below.heap_alloc _ _ _ h8s).trans H38.out⟩
     have HRUN:=Hd hrun;have HW6:=Hd hW6;have HO6:=Hd hO6;have HT6:=Hd hT6;have HF3:=Hd hf3;have HLO:=Hd hlo;clear c0 hN hU1 hU2 hrow hrun hkeep hW6 hO6 hT6 hgn h8n hc3 hf3 hb83 hlo;refine N.region_C [false,false,false,false,false,false,true,true,false,false,true] [?vC1_0,?vC1_1,?vC1_2,?vC1_3,?vC1_4,?vC1_5,undef,undef,?vC1_8,?vC1_9,undef] hmo (by kernel_rfl) (by kernel_rfl) (by kernel_rfl) (by kernel_rfl) rfl rfl (fun _ _=>False) N.Pans.no (fun Wz=>Wz.cell? ⟨g,0,none⟩=some (.slice na NS.length nc)∧Wz.heap[wr.heap.size]?=some (.cells #[.int .u8 D.kind,strV D.text,intV D.n,.slice (some ⟨wr.heap.size+1,0,none⟩) D.kids.length D.kids.length,intV D.pos] 57 (0,0))) HJ0.out ?wC1_ ?_
     case wC1_=>
      iterate 6 (refine N.WalkC.still (N.StillP.known rfl ?_) ?_;(intro W hJ;obtain⟨j3,jb⟩:=hJ;have jb0:=za (i:=0) jb rfl;have jb1:=za (i:=1) jb rfl;have jb2:=za (i:=2) jb rfl;have jb3:=za (i:=3) jb rfl;have jb4:=za (i:=4) jb rfl;go_simp;rfl);simp only[N.pz])
      refine N.WalkC.chain fun u6=>?_;simp only[N.pz];refine N.WalkC.chain fun u7=>?_;simp only[N.pz]
      iterate 2 (refine N.WalkC.still (N.StillP.known rfl ?_) ?_;(intro W hJ;obtain⟨j3,jb⟩:=hJ;have jb0:=za (i:=0) jb rfl;have jb1:=za (i:=1) jb rfl;have jb2:=za (i:=2) jb rfl;have jb3:=za (i:=3) jb rfl;have jb4:=za (i:=4) jb rfl;go_simp;rfl);simp only[N.pz])
      refine N.WalkC.chain fun u10=>?_;simp only[N.pz];exact .nil
     iterate 6 (refine N.TailC.still ?_;simp only[N.pz])
     refine N.TailC.run (v:=.slice (some ⟨X3.drew.heap.size,0,none⟩) 1 1) (w':=X3.drew.alloc (.cells #[.int .u8 D.kind,strV D.text,intV D.n,.slice (some ⟨wr.heap.size+1,0,none⟩) D.kids.length D.kids.length,intV D.pos] 57)) rfl ?a6 (fun _=>HJA.out) ?b6;case a6=>go_simp;try rfl
     simp only[N.pz];refine N.TailC.append rfl (.tmp 50) (.tmp 52) 22 rfl rfl rfl HRUN.out (fun _=>HJ3.out) ?_;simp only[N.pz]
     iterate 2 (refine N.TailC.still ?_;simp only[N.pz])
     refine N.TailC.skips (w':=W6) rfl ?a10 (fun h=>absurd rfl h) ?b10;case a10=>rw[←HW6.out];have jc:=HJ3.out.1;have jf:=HF3.out;go_simp;try rfl
     simp only[N.pz];refine N.TailC.nil ?_;have hgB:=HO'.out.gB;have hBs:=HO'.out.sz
     have h86:W6.heap[wr.heap.size]?=some (.cells #[.int .u8 D.kind,strV D.text,intV D.n,.slice (some ⟨wr.heap.size+1,0,none⟩) D.kids.length D.kids.length,intV D.pos] 57 (0,0)):=(HT6.out.block wr.heap.size h8s (by
      rintro(h|h)
      ·omega
      ·have:=HLO.out _ (.inl h);omega)).trans H38.out
     have k0:=za (i:=0) (v:=.int .u8 D.kind) h86 rfl;have h86s:wr.heap.size<W6.heap.size:=(Array.getElem?_eq_some_iff.1 h86).1;have hwr:=HT'.out.size
     have hx6:Turns (fun i=>i=g∨(U i∨I i)∨w.heap.size≤i) w W6:=(HT'.out.trans ((Turns.of_below HB3.out (fun i h1 h2=>by omega)).trans (Turns.drew _ X3))).trans (HT6.out.mono (fun i _ h=>by
      rcases h with h|h
      ·exact .inl h
      ·exact .inr (HU'.out i (.inl h))))
     have hu2:∀i,(U' i∨(wr.heap.size≤i∧i<w5.heap.size))∨I' i→(U i∨I i)∨w.heap.size≤i:=by
      rintro i ((h|h) | h)
      ·exact HU'.out i (.inl h)
      ·exact .inr (by omega)
      ·exact HU'.out i (.inr h)
     have hsn2:NS++[movN M D]=ns++(xs.take (k+1)).map (movN M):=by rw[HSN.out,←HNE.out,List.append_assoc]
     have HX6:=Hd hx6;have HU2:=Hd hu2;have HSN2:=Hd hsn2;obtain⟨ik,hik⟩:∃ik,cH D.kind=ik:=⟨_,rfl⟩
     have HIK:=Hd hik;clear hx6 hu2 hsn2 hik h86 HJ0 HJ3 HJA HRUN HW6 HF3 hgs h8s;rcases ik with _|_
     ·go_wp2_with (go_at_call 145;refine(oB D.kind _).mono ?_;rw[HIK.out];rintro e w' ⟨rfl,rfl⟩)
      go_roundw
      case rel=>
       refine⟨k+1,_,I',by go_num,by have:=HK.out;omega,Hd ?_,HX6,HU2⟩;rw[←HSN2.out,HSI.out,HIK.out,if_neg Bool.false_ne_true,List.append_nil,HIE.out];exact HO6.out
      case measure=>have:=HK.out;simp[intOf];omega
     ·go_upto_region 13 with(first
       | (go_at_call 145;refine(oB D.kind _).mono ?_;rw[HIK.out];rintro e w' ⟨rfl,rfl⟩))
      clear k0 h86s;have HOY:=Hd (HO6.out.step (Below.refl _ W6).drew);obtain⟨ia,ic,c1,hI,hI1⟩:=HOY.out.items;obtain⟨na2,nc2,ks2,c0,-,-,-⟩:=HOY.out.nodes;rw[show(NS++[movN M D]).length=NS.length+1 by simp]at c0;obtain⟨a7,c7,w7,W8,hrun,hkeep,hW8,hO8,hT8⟩:=HOY.out.pushI c1 hI hI1 (NS.length:Int) HIS.out;have hgs:g<W6.drew.heap.size:=by have:=HOY.out.sz;omega
      have hgn:¬AtB ia g:=fun e=>by have:=(HOY.out.mem g (.inr (hI1 g e))).1;omega
      have hkg:=hkeep g hgs hgn;have d1:w7.cell? ⟨g,1,none⟩=some (.slice ia IS.length ic):=(World.cell?_of_block (a:=⟨g,1,none⟩) hkg).trans c1;have d0:w7.cell? ⟨g,0,none⟩=some (.slice na2 (NS.length+1) nc2):=(World.cell?_of_block (a:=⟨g,0,none⟩) hkg).trans c0
      have hf3:w7.frozen? ⟨g,1,none⟩=false:=by
       have hfz:=HOY.out.f1;unfold World.frozen? at hfz⊢;rw[hkg];exact hfz
      have hNSl:NS.length≤2000000:=by rw[HNL.out];have:=HK.out;omega
      have hNSw:IntKind.i64.wrap (NS.length:Int)=(NS.length:Int):=IntWalk.i64_in _ (by omega);have HJ0:Hid ((fun Wz:World=>Wz.cell? ⟨g,1,none⟩=some (.slice ia IS.length ic)∧Wz.cell? ⟨g,0,none⟩=some (.slice na2 (NS.length+1) nc2)) W6.drew):=Hd ⟨c1,c0⟩;have HJ3:Hid ((fun Wz:World=>Wz.cell? ⟨g,1,none⟩=some (.slice ia IS.length ic)∧Wz.cell? ⟨g,0,none⟩=some (.slice na2 (NS.length+1) nc2)) w7):=Hd ⟨d1,d0⟩
      have HJA:Hid ((fun Wz:World=>Wz.cell? ⟨g,1,none⟩=some (.slice ia IS.length ic)∧Wz.cell? ⟨g,0,none⟩=some (.slice na2 (NS.length+1) nc2)) (W6.drew.alloc (.cells #[intV NS.length] 3))):=
       Hd ⟨(((Below.refl _ W6.drew).alloc nlr _).cell (p:=⟨g,1,none⟩) hgs).trans c1,(((Below.refl _ W6.drew).alloc nlr _).cell (p:=⟨g,0,none⟩) hgs).trans c0⟩
      have HRUN:=Hd hrun;have HW8:=Hd hW8;have HO8:=Hd hO8;have HT8:=Hd hT8;have HF3:=Hd hf3;clear c0 c1 hI hI1 hrun hkeep hW8 hO8 hT8 hgn hkg d0 d1 hf3;refine N.region_C [false,false,false,false,false,false,false,false,false,false,false,true,true,false,false,true] [?vC2_0,?vC2_1,?vC2_2,?vC2_3,?vC2_4,?vC2_5,?vC2_6,?vC2_7,?vC2_8,?vC2_9,?vC2_10,undef,undef,?vC2_13,?vC2_14,undef] hmo (by kernel_rfl) (by kernel_rfl) (by kernel_rfl) (by kernel_rfl) rfl rfl (fun _ _=>False) N.Pans.no (fun Wz=>Wz.cell? ⟨g,1,none⟩=some (.slice ia IS.length ic)∧Wz.cell? ⟨g,0,none⟩=some (.slice na2 (NS.length+1) nc2)) HJ0.out ?wC2_ ?_
      case wC2_=>
       iterate 11 (refine N.WalkC.still (N.StillP.known rfl ?_) ?_;(intro W hJ;obtain⟨j1,j0⟩:=hJ;go_simp;rfl);simp only[N.pz])
       refine N.WalkC.chain fun u11=>?_;simp only[N.pz];refine N.WalkC.chain fun u12=>?_;simp only[N.pz]
       iterate 2 (refine N.WalkC.still (N.StillP.known rfl ?_) ?_;(intro W hJ;obtain⟨j1,j0⟩:=hJ;go_simp;rfl);simp only[N.pz])
       refine N.WalkC.chain fun u15=>?_;simp only[N.pz];exact .nil
      iterate 11 (refine N.TailC.still ?_;simp only[N.pz])
      refine N.TailC.run (v:=.slice (some ⟨W6.drew.heap.size,0,none⟩) 1 1) (w':=W6.drew.alloc (.cells #[intV NS.length] 3)) rfl ?a11 (fun _=>HJA.out) ?b11;case a11=>go_simp;try rfl
      simp only[N.pz];refine N.TailC.append rfl (.tmp 63) (.tmp 70) 23 rfl rfl rfl HRUN.out (fun _=>HJ3.out) ?_;simp only[N.pz]
      iterate 2 (refine N.TailC.still ?_;simp only[N.pz])
      refine N.TailC.skips (w':=W8) rfl ?a15 (fun h=>absurd rfl h) ?b15;case a15=>rw[←HW8.out];have jc:=HJ3.out.1;have jf:=HF3.out;go_simp;try rfl
      simp only[N.pz];refine N.TailC.nil ?_
      have hx8:Turns (fun i=>i=g∨(U i∨I i)∨w.heap.size≤i) w W8:=(HX6.out.trans (Turns.drew _ W6)).trans (HT8.out.mono (fun i _ h=>by
       rcases h with h|h
       ·exact .inl h
       ·exact .inr (HU2.out i (.inr h))))
      have HX8:=Hd hx8;have h6s:=HX6.out.size;clear hx8;go_wp2
      go_roundw
      case rel=>
       refine⟨k+1,(fun i=>U' i∨(wr.heap.size≤i∧i<w5.heap.size)),(fun i=>I' i∨(W6.drew.heap.size≤i∧i<w7.heap.size)),by go_num,by have:=HK.out;omega,Hd ?_,HX8,Hd ?_⟩
       ·rw[←HSN2.out,HSI.out,HIK.out,if_pos rfl,←List.append_assoc,HIE.out,←HNL.out]
        exact HO8.out
       ·rintro i (h | (h|⟨h,_⟩))
        ·exact HU2.out i (.inl h)
        ·exact HU2.out i (.inr h)
        ·exact .inr (by have h2:W6.heap.size≤i:=h;omega)
      case measure=>have:=HK.out;simp[intOf];omega
  ·obtain rfl:k=xs.length:=by omega
   go_wp2;rw[List.take_length]at HO'
   exact bodyPost_end (v:=.tuple #[]) (by simp[results,results96,go_sem]) rfl ⟨⟨_,rfl⟩,U',I',HO'.out,HT'.out.mono (fun i hi h=>by
    rcases h with h|h|h
    ·exact .inl h
    ·exact .inr h
    ·omega),HU'.out⟩
def wS(t:Tr)(i d:Int):Bool:=inside t i d&&((t.nd d).kind==42||(t.nd d).kind==20&&((t.nd d).kids.length==2&&inside t i ((t.nd d).kids.getD 1 0)))
def yO(t:Tr)(i d:Int):Bool:=(t.nd d).kind==34&&inside t i (parent t d)
def LH(t:Tr)(i d:Int):Bool:=decide (d<i)&&decide (parent t d<0)
theorem EO{t:Tr}(bd:Bd t)(h:(zc t).2.2=0){i:Nat}(hi:i<t.nodes.length)(hk:aV (t.nd i).kind=true) :
 ∃d:Nat,means t i=d∧d<t.nodes.length∧zh t d=true∧(t.nd d).text=(t.nd i).text∧FV (t.nd i).kind (t.nd d).kind=true∧(wS t i d=true∨yO t i d=true∨LH t i d=true):=by
 obtain⟨wf,G⟩:=cS bd h;have h0:=xG ((aS h).err i hi) hk;have hr:=aJ wf (node:=i);obtain⟨d,hd⟩:=Int.eq_ofNat_of_zero_le h0;have hne:means t i ≠ -1:=by omega
 have hdl:d<t.nodes.length:=by omega
 obtain⟨h1,h2,_⟩:=mK hne;have hs:=pN hne;obtain⟨h3,h4,h5⟩:=kU G hi hs;have h6:=rP G hi hs;rw[hd]at h1 h2 h3 h6;refine⟨d,hd,hdl,h6,h1,by rw[FW hk];exact h2,?_⟩;rcases h3 with(⟨k20,⟨k,hk1,hk2⟩,hin⟩|⟨k42,hin⟩|⟨k34,hp,hp42,hin⟩) | ⟨hit,hlt,_⟩
 ·have hl:(t.nd d).kids.length=2:=by rw[t.nd_at hdl];exact wf.letK d hdl (by rw[←t.nd_at hdl];exact k20)
  refine .inl ?_;unfold wS;rw[hin,k20,hl,List.getD_eq_getElem?_getD,hk1,Option.getD_some,hk2];rfl
 ·refine .inl ?_
  unfold wS;rw[hin,k42];rfl
 ·refine .inr (.inl ?_)
  unfold yO;rw[k34,hin];rfl
 ·refine .inr (.inr ?_)
  unfold LH;rw[G.noParent hit,decide_eq_true hlt];rfl
end
section
open Go Go.RowKit
structure SameForm (t t':Tr):Prop where
 len:t'.nodes.length=t.nodes.length
 items:t'.items=t.items
 kind:∀i:Int,(t'.nd i).kind=(t.nd i).kind
 n:∀i:Int,(t'.nd i).n=(t.nd i).n
 kids:∀i:Int,(t'.nd i).kids=(t.nd i).kids
 pos:∀i:Int,(t'.nd i).pos=(t.nd i).pos
section
variable {t t' : Tr} (F : SameForm t t')
include F
theorem SameForm.isKid(n:Int):cP t'.nodes n=cP t.nodes n:=by
 funext i;unfold cP;by_cases hi:i<t.nodes.length
 ·have h:=F.kids i
  have hi':i<t'.nodes.length:=by rw[F.len];exact hi
  rw[t'.nd_at hi',t.nd_at hi]at h;rw[List.getElem?_eq_getElem hi',List.getElem?_eq_getElem hi,Option.map_some,Option.map_some,h]
 ·rw[List.getElem?_eq_none (by rw[F.len];omega),List.getElem?_eq_none (by omega)]
theorem SameForm.par(n:Int):parent t' n=parent t n:=by unfold parent;rw[F.isKid,F.len]
theorem SameForm.isD(i:Int):zh t' i=zh t i:=by unfold zh;rw[F.kind,F.par,F.kind]
theorem SameForm.insF(o:Int):∀(f:Nat) (n:Int),bY t' o f n=bY t o f n
 |0,n=>rfl
 |f+1,n=>by rw[bY,bY,F.par,SameForm.insF o f]
theorem SameForm.ins(n o:Int):inside t' n o=inside t n o:=by unfold inside;rw[F.len,F.insF]
theorem SameForm.sAt(n last:Int):zz (t'.nd n) last n=zz (t.nd n) last n:=by unfold zz;rw[F.kind,F.kids]
theorem SameForm.upS:∀(f:Nat) (last n:Int) (acc:List Int),upF t' (fun last n acc=>acc++zz (t'.nd n) last n) f last n acc=upF t (fun last n acc=>acc++zz (t.nd n) last n) f last n acc
 |0,last,n,acc=>rfl
 |f+1,last,n,acc=>by rw[upF,upF,F.par,F.sAt,SameForm.upS f]
theorem SameForm.sUp(i:Int):zQ t' i=zQ t i:=by unfold zQ upw;rw[F.par,F.len,F.upS]
theorem SameForm.sg(i:Int):sight t' i=sight t i:=by unfold sight;rw[F.sUp,F.items];simp only[F.isD]
theorem SameForm.sizesTo':∀m,zC t' m=zC t m
 |0=>rfl
 |m+1=>by rw[zC,zC,SameForm.sizesTo' m,F.kids]
theorem SameForm.sizes:aG t'=aG t:=by unfold aG;rw[F.len,F.sizesTo']
theorem SameForm.depTo':∀m,dQ t' m=dQ t m
 |0=>by rw[dQ,dQ,F.len]
 |m+1=>by rw[dQ,dQ,SameForm.depTo' m,F.len];unfold gF;rw[F.kids]
theorem SameForm.deep:zW t'=zW t:=by unfold zW bX;rw[F.len,F.depTo']
theorem SameForm.sized(i:Nat):eQ t' i=eQ t i:=by simp only[eQ,F.kind,F.kids,F.n]
theorem SameForm.kidsO(i:Int):gR t' (t'.nd i)=gR t (t.nd i):=by simp only[gR,kS,F.kind,F.kids,F.n]
theorem SameForm.eatI'(S:List Int):∀(l:List Int) (p:Int),eatI t' S l p=eatI t S l p
 | [],p=>rfl
 |k::r,p=>by rw[eatI,eatI,F.kind,SameForm.eatI' S r]
theorem SameForm.right{i:Nat}(h:bJ t i=true)(ht:(t'.nd i).text=(t.nd i).text∨cQ (t.nd i).kind=true∧zX (t'.nd i).text=true):bJ t' i=true:=by
 unfold bJ at h⊢;rw[F.kind,F.n,F.kids,F.pos,F.kidsO];rcases ht with e|⟨e1,e2⟩
 ·rw[e];exact h
 ·rw[e1,e2]
  rw[e1]at h;simp only[Bool.and_eq_true]at h⊢;obtain⟨⟨⟨⟨⟨⟨⟨h1,_⟩,_⟩,h2⟩,h3⟩,h4⟩,h5⟩,h6⟩:=h;exact⟨⟨⟨⟨⟨⟨⟨h1,by rfl⟩,by rfl⟩,h2⟩,h3⟩,h4⟩,h5⟩,h6⟩
theorem SameForm.check(h:zJ t=0)(ht:∀i:Nat,i<t.nodes.length→(t'.nd i).text=(t.nd i).text∨cQ (t.nd i).kind=true∧zX (t'.nd i).text=true):zJ t'=0:=by
 have hf:dR t=true:=aW h
 have hf':dR t'=true:=by
  have h2:=hf;simp only[dR,Bool.and_eq_true,beq_iff_eq]at h2⊢;rw[F.sizes,F.len,F.items,F.eatI'];refine⟨h2.1,List.all_eq_true.2 fun i hi=>?_,h2.2.2⟩;rw[F.len,List.mem_range]at hi;exact F.right (List.all_eq_true.1 h2.2.1 i (List.mem_range.2 hi)) (ht i hi)
 have hs:eG t'=eG t:=by
  unfold eG;rw[F.len];simp only[F.sized]
 unfold zJ at h⊢;rw[F.len,F.items,hf',F.deep,hs];rw[hf]at h;exact h
theorem SameForm.bd(h:Bd t)(ht:∀i:Nat,i<t.nodes.length→(t'.nd i).text.length≤1000000000):Bd t':=by
 refine⟨by rw[F.len];exact h.n,by rw[F.items];exact h.i,fun d hd=>?_,fun d hd=>?_⟩
 ·obtain⟨i,hi,rfl⟩:=List.getElem_of_mem hd
  have hi2:i<t.nodes.length:=by rw[←F.len];exact hi
  have e:=F.kids i;rw[t'.nd_at hi,t.nd_at hi2]at e;rw[e];exact h.k _ (List.getElem_mem hi2)
 ·obtain⟨i,hi,rfl⟩:=List.getElem_of_mem hd
  have:=ht i (by rw[←F.len];exact hi);rwa[t'.nd_at hi]at this
end
end
end Go.Proofs.YtokdgiphdnjeoaaGreatDoor
