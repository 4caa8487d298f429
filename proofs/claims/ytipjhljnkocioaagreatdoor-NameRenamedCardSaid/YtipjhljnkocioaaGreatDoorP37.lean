/- Part of a proof. -/
import Derived.Test.YtipjhljnkocioaaGreatDoorP10
import Derived.Test.YtipjhljnkocioaaGreatDoorP28
import Derived.Test.YtipjhljnkocioaaGreatDoorP35
import Derived.Maps.OwnIn
set_option maxRecDepth 100000
set_option maxHeartbeats 8000000
set_option linter.unusedVariables false
set_option linter.unusedSimpArgs false
open Go.Proofs.Tryz
namespace Go.Proofs.YtipjhljnkocioaaGreatDoor
section
open Go Go.RowKit Go.Maps
def rdB:Value→Option (DataW Unit×List MemPlace)
 |.bool b=>some (.lit (.bool b),[])
 |_=>none
theorem CW{v:Value}{b:Bool}{ps:List MemPlace}(h:rdB v=some (.lit (.bool b),ps)):v=.bool b:=by
 unfold rdB at h;split at h<;>simp at h;rw[h.1]
abbrev OwnB(X:World)(b n:Nat)(D:DataW Unit):Prop:=X.ownsMap prog 9 rdB b n D
def BoolMap(D:DataW Unit)(S:List UInt8→Bool):Prop:=IsMap D∧∀x:List UInt8,D.atKey (.string x) (.lit (.bool false))=.lit (.bool (S x))
theorem BoolMap.empty:BoolMap (.map []) (fun _=>false):=⟨⟨_,rfl⟩,fun _=>rfl⟩
theorem BoolMap.put{D:DataW Unit}{S:List UInt8→Bool}(h:BoolMap D S)(k:List UInt8):BoolMap (D.put (.string k) (.lit (.bool true))) (fun x=>(k==x)||S x):=by
 refine⟨aY h.1 _ _,fun x=>?_⟩;rw[eU h.1];show _=DataW.lit (.bool ((k==x)||S x))
 by_cases e:x=k
 ·subst e;rw[if_pos rfl];simp
 ·rw[if_neg e,h.2 x,show(k==x)=false by simpa using fun e2=>e e2.symm];rfl
theorem BoolMap.congr{D:DataW Unit}{S S':List UInt8→Bool}(h:BoolMap D S)(e:∀x,S x=S' x):BoolMap D S':=⟨h.1,fun x=>(h.2 x).trans (by rw[e])⟩
theorem rK:prog.underlying 84=some (.map 9 4):=by kernel_rfl
theorem uA(w:World):(zeroValue 4).run prog w=.ok (.bool false) w:=by kernel_rfl
theorem CF{X:World}{b n:Nat}{D:DataW Unit}{S:List UInt8→Bool}(h:OwnB X b n D)(hS:BoolMap D S){s:List UInt8}(hs:s.length≤1000000000) :
 (Instr.lookup 84 (.map (some b)) (strV s) false).run prog X=.ok (.bool (S s)) X:=by
 obtain⟨v,ps,hrun,hv⟩:=h.lookup zF rK (uA X) (zd:=.lit (.bool false)) (zp:=[]) rfl (WideMaps.keyOf_string_mk jK (s:=⟨s.toArray⟩) (by simp[ByteArray.size,maxLen];omega));rw[hS.2]at hv;rw[hrun,CW hv]
theorem qW{s:List UInt8}(h:s.length≤1000000000):keyOf prog 9 (strV s)=some (.string s):=WideMaps.keyOf_string_mk jK (s:=⟨s.toArray⟩) (by simp[ByteArray.size,maxLen];omega)
theorem oZ{F:Fence}{nF:Nat}{W:World}{ops:Array Oper}{rest:List Oper}{o:Oper}{a:Act}{Q:Exit→Act→World→Prop}(hgd:o.guard=none)(s x:Operand)
 (ho:o.op=.call { callee:=.builtin .append,args:=#[s,x],argTypes:=#[23,23] })(hty:o.type=23)
 {B:Nat}{av:Option Addr}{cv:Nat}{l:List Int}(hs:a.eval s=.slice av l.length cv)(hown:OwnI W B av cv l)
 {ax:Option Addr}{m c:Nat}{news:List Int}(hx:a.eval x=.slice ax m c)(hr:Row 1 W ax m c (zo news))
 (hbytes:l.length+m≤4398046511104)(hB:B≤W.heap.size)
 (h:∀a' c' w' l',Hid (l'=l++news)→OwnI w' B a' c' l'→(∀B' A,B'≤B→Below B' A W→Below B' A w')→(∀g,g<W.heap.size→iH av g→w'.heap[g]?=W.heap[g]?∧iH a' g)→wpListIn F nF prog ops Q rest (a.put o.dst (.slice a' l'.length c')) w'):wpListIn F nF prog ops Q (o::rest) a W:=by
 have hm:m=news.length:=by have:=hr.1;simpa using this.symm
 subst hm;refine wpListIn_plain hgd fun K hK=>?_;obtain⟨i0,hi,hz0,hz1,hz2⟩:=info_parts kR;obtain⟨v',w',hrun,h2,h3⟩:=cH (P:=prog) W B 23 o.type 3 i0 (.int .i64 0) 1 8 cF hi hz0 hz1 hz2 rfl (by decide) (.slice av l.length cv) l.length _ hown ax news.length c _ hr (gT _) (by unfold maxLen;omega) (by omega) hB;obtain⟨a',c',rfl,_⟩:=aQ h2;have hw:=fN (P:=prog) W B 23 o.type 3 i0 (.int .i64 0) 1 8 cF hi hz0 hz1 hz2 rfl (by decide) av l.length cv _ hown ax news.length c _ hr (gT _) (by unfold maxLen;omega) (by omega) hB hrun;have e:l.length+news.length=(l++news).length:=by simp
 have e2:zo l++zo news=zo (l++news):=by simp
 rw[e,e2]at h2;have hfin:=h a' c' w' (l++news) (Hd rfl) h2 (cR hown h3 hB) (jV h3 hw);rw[←e]at hfin;unfold Oper.wpIn;refine⟨?_,?_⟩
 ·simp[Oper.about,ho,resolve,Target.leads,Sem.run_pure]
 ·rw[Oper.semAt_plain F _ _ (by rw[ho];intro c hc';cases hc')]
  simp[execOp,ho,resolve,invoke,builtin,hs,hx,hrun,Result.andThen];exact hK _ _ hfin
theorem lG(t:Tr)(d:Int):∀(l:List Int) (seen:List (List UInt8)),visF t seen (l++[d])=visF t seen l++(if !(seen.contains (t.nd d).text||(l.map fun x=>(t.nd x).text).contains (t.nd d).text)&&suits 3 (t.nd d).kind then [d]else [])
 | [],seen=>by simp[visF]
 | x::l,seen=>by
   rw[List.cons_append,visF,lG t d l,visF,List.append_assoc];congr 2;rw[List.contains_cons,List.map_cons,List.contains_cons];rw[show((t.nd d).text==(t.nd x).text)=((t.nd x).text==(t.nd d).text)from BEq.comm];cases ((t.nd x).text==(t.nd d).text)<;>simp
def mM(t:Tr)(l:List Int)(x:List UInt8):Bool:=(l.map fun d=>(t.nd d).text).contains x
theorem yS(t:Tr)(l:List Int)(d:Int)(x:List UInt8):mM t (l++[d]) x=(((t.nd d).text==x)||mM t l x):=by
 unfold mM;rw[Bool.eq_iff_iff,Bool.or_eq_true,List.contains_iff_mem,List.contains_iff_mem,List.map_append,List.mem_append,beq_iff_eq];constructor
 ·rintro(h|h)
  ·exact .inr h
  ·exact .inl (List.mem_singleton.1 h).symm
 ·rintro(h|h)
  ·exact .inr (List.mem_singleton.2 h.symm)
  ·exact .inl h
theorem GZ{t:Tr}{l:List Int}{d:Int}(h1:mM t l (t.nd d).text=false)(h2:suits 3 (t.nd d).kind=true):visF t [] (l++[d])=visF t [] l++[d]:=by
 rw[lG];unfold mM at h1;rw[h1,h2];rfl
theorem GY{t:Tr}{l:List Int}{d:Int}(h1:mM t l (t.nd d).text=true):visF t [] (l++[d])=visF t [] l:=by
 rw[lG];unfold mM at h1;rw[h1];simp
theorem yY{t:Tr}{l:List Int}{d:Int}(h2:suits 3 (t.nd d).kind=false):visF t [] (l++[d])=visF t [] l:=by
 rw[lG,h2];simp
theorem kC(t:Tr):∀(l:List Int) (seen:List (List UInt8)),(visF t seen l).length≤l.length
 | [],_=>by simp[visF]
 | d::l,seen=>by
   rw[visF,List.length_append,List.length_cons];have:=kC t l ((t.nd d).text::seen);split<;>simp<;>omega
def VisN(h B:Nat):Nat→Prop:=fun i=>i=h∨B≤i
structure VisI (w w0:World) (h B:Nat) (p:ProgV) (t:Tr) (L:List Int) (G:Nat→Prop) (X:World):Prop where
 kept:Kept w0 X
 below:Below w.heap.size w X
 list:∃(a:Option Addr) (c:Nat) (q:List Int),X.cell? ⟨h,0,none⟩=some (.slice a q.length c)∧Hid (q=visF t [] L)∧OwnI X (B+1+1+1) a c q∧∀x,a=some x→¬G x.block
 fr:X.frozen? ⟨h,0,none⟩=false
 c6:X.cell? ⟨B,0,none⟩=some p.ptr
 c7:X.cell? ⟨B+1+1,0,none⟩=some (.map (some (B+1)))
 mp:∃D,OwnB X (B+1) L.length D∧BoolMap D (mM t L)
 g:¬G h∧¬G B∧¬G (B+1)∧¬G (B+1+1)
 low:∀i,G i→VisN h B i∧i<X.heap.size
theorem VisI.lt{w w0 X:World}{h B:Nat}{p:ProgV}{t:Tr}{L:List Int}{G:Nat→Prop}(H:VisI w w0 h B p t L G X):h<X.heap.size∧B+1+1<X.heap.size:=by
 obtain⟨a,c,q,hc,_⟩:=H.list;exact⟨World.block_lt_of_cell? X _ hc,World.block_lt_of_cell? X _ H.c7⟩
theorem VisI.step{w w0 X Y:World}{h B:Nat}{p:ProgV}{t:Tr}{L:List Int}{G G':Nat→Prop}(ha:Apart (VisN h B) w0)(hh:w.heap.size≤h)(hB:w.heap.size≤B)(H:VisI w w0 h B p t L G X)(s:StepG G X G' Y):VisI w w0 h B p t L G' Y:=by
 obtain⟨l0,l1⟩:=H.lt;obtain⟨h1,h2,⟨a,c,q,h3,hq,h4,h5⟩,h6,h7,h8,⟨D,h9,h10⟩,⟨g0,g1,g2,g3⟩,hl⟩:=H;have nw:∀i,i<X.heap.size→¬G i→¬G' i:=fun i hi hn hc=>(s.news i hc).elim hn (fun e=>by omega);have hla:∀x,a=some x→x.block<X.heap.size:=fun x e=>(h4.lt x.block (by rw[e];rfl)).2
 refine⟨h1.turns ha s.turns (fun i hi=>(hl i hi).1),h2.trans (s.turns.below (fun i hi=>by have:=(hl i hi).1;unfold VisN at this;omega) h2.size),⟨a,c,q,(s.turns.cell l0 g0).trans h3,hq,dC h4 s.turns (fun i ⟨x,e,e2⟩ hi=>h5 x e (by rw[e2];exact hi)),fun x e=>nw _ (hla x e) (h5 x e)⟩,
  (s.turns.frozen l0 g0).trans h6,(s.turns.cell (by omega) g1).trans h7,(s.turns.cell l1 g3).trans h8,⟨D,?_,h10⟩,⟨nw _ l0 g0,nw _ (by omega) g1,nw _ (by omega) g2,nw _ l1 g3⟩,fun i hi=>⟨?_,s.lt i hi⟩⟩
 ·obtain⟨es,cl,hb,F,hs,hD⟩:=h9
  exact⟨es,cl,(s.turns.block (B+1) (by omega) g2).trans hb,F,hs,hD⟩
 ·rcases s.news i hi with h|h
  ·exact(hl i h).1
  ·exact .inr (by omega)
theorem VisI.grow{w w0 X Y:World}{h B:Nat}{p:ProgV}{t:Tr}{L:List Int}{G:Nat→Prop}(ha:Apart (VisN h B) w0)(hh:w.heap.size≤h)(hB:w.heap.size≤B)(H:VisI w w0 h B p t L G X)(hb:Below X.heap.size X Y):VisI w w0 h B p t L G Y:=
 H.step ha hh hB (StepG.of_below hb fun i hi=>(H.low i hi).2)
theorem VisI.mark{w w0 X Y:World}{h B:Nat}{p:ProgV}{t:Tr}{L:List Int}{G:Nat→Prop}(ha:Apart (VisN h B) w0)(hB:w.heap.size≤B)(hhB:h<B)(h1:Kept w0 X)(h2:Below w.heap.size w X)(h6:X.frozen? ⟨h,0,none⟩=false)
 (h7:X.cell? ⟨B,0,none⟩=some p.ptr)(h8:X.cell? ⟨B+1+1,0,none⟩=some (.map (some (B+1))))(hG:¬G h∧¬G B∧¬G (B+1)∧¬G (B+1+1))(hl:∀i,G i→VisN h B i∧i<X.heap.size){d:Int}{q:List Int}{a:Option Addr}{c:Nat}
 (hc:X.cell? ⟨h,0,none⟩=some (.slice a q.length c))(hown:OwnI X (B+1+1+1) a c q)(hna:∀x,a=some x→¬G x.block)(hq:Hid (q=visF t [] (L++[d])))
 {D:DataW Unit}(hD:BoolMap D (mM t L))(hm:OwnB Y (B+1) (L.length+1) (D.put (.string (t.nd d).text) (.lit (.bool true))))(hg:X.grownBy Y (some (B+1))):VisI w w0 h B p t (L++[d]) G Y∧Keeps (VisN h B) G X Y:=by
 have l0:h<X.heap.size:=World.block_lt_of_cell? X _ hc;have l1:B+1+1<X.heap.size:=World.block_lt_of_cell? X _ h8;obtain⟨g0,g1,g2,g3⟩:=hG;have ht:Turns (fun i=>i=B+1) X Y:=⟨hg.os,hg.tape,hg.output,hg.size,fun i hi hn=>hg.block i hi (by simpa using hn)⟩
 have hla:∀x,a=some x→B+1+1+1≤x.block:=fun x e=>(hown.lt x.block (by rw[e];rfl)).1
 refine⟨⟨h1.turns ha ht (fun i hi=>.inr (by omega)),h2.trans (ht.below (fun i hi=>by omega) h2.size),⟨a,c,q,(ht.cell l0 (by omega)).trans hc,hq,dC hown ht (fun i ⟨x,e,e2⟩ hi=>by have:=hla x e;omega),hna⟩,
  (ht.frozen l0 (by omega)).trans h6,(ht.cell (by omega) (by omega)).trans h7,(ht.cell l1 (by omega)).trans h8,⟨_,?_,(hD.put (t.nd d).text).congr fun x=>(yS t L d x).symm⟩,⟨g0,g1,g2,g3⟩,fun i hi=>⟨(hl i hi).1,Nat.lt_of_lt_of_le (hl i hi).2 ht.size⟩⟩,ht.mono fun i _ hi=>⟨fun e=>g2 (hi▸e),.inr (by omega)⟩⟩
 rw[List.length_append];exact hm
theorem VisI.pushed{w w0 X W5:World}{h B:Nat}{p:ProgV}{t:Tr}{L:List Int}{G:Nat→Prop}(ha:Apart (VisN h B) w0)(hB:w.heap.size≤B)(hhw:w.heap.size≤h)(hhB:h<B)(H:VisI w w0 h B p t L G X){a a':Option Addr}{c c':Nat}{q q':List Int}
 (hown:OwnI X (B+1+1+1) a c q)(hna:∀x,a=some x→¬G x.block)(hown':OwnI W5 (B+1+1+1) a' c' q')(hkeep:∀B' A,B'≤B+1+1+1→Below B' A X→Below B' A W5)(hap:∀g,g<X.heap.size→iH a g→W5.heap[g]?=X.heap[g]?∧iH a' g) :
 ∃ Y,W5.setCell ⟨h,0,none⟩ (.slice a' q'.length c')=Y∧W5.cell? ⟨h,0,none⟩=X.cell? ⟨h,0,none⟩∧W5.frozen? ⟨h,0,none⟩=false∧Keeps (VisN h B) G X Y∧Y.cell? ⟨h,0,none⟩=some (.slice a' q'.length c')∧OwnI Y (B+1+1+1) a' c' q'∧(∀x,a'=some x→¬G x.block)∧Y.frozen? ⟨h,0,none⟩=false ∧
   Kept w0 Y∧Below w.heap.size w Y∧Y.cell? ⟨B,0,none⟩=some p.ptr∧Y.cell? ⟨B+1+1,0,none⟩=some (.map (some (B+1)))∧(∃D,OwnB Y (B+1) L.length D∧BoolMap D (mM t L))∧(∀i,G i→VisN h B i∧i<Y.heap.size):=by
 obtain⟨l0,l1⟩:=H.lt;obtain⟨h1,h2,⟨a0,c0,q0,h3,-,-,-⟩,h6,h7,h8,⟨D,h9,h10⟩,⟨g0,g1,g2,g3⟩,hl⟩:=H;have hb:=hkeep _ _ nlr (Below.refl _ X);have hla:∀x,a=some x→B+1+1+1≤x.block:=fun x e=>(hown.lt x.block (by rw[e];rfl)).1;have ht:Turns (fun i=>AtB a i) X W5:=⟨hb.os,hb.tape,hb.output,hb.size,fun i hi hn=>(hap i hi (fun x e e2=>hn ⟨x,e,e2⟩)).1⟩
 have hnA:∀i,i≤B+1+1→¬AtB a i:=fun i hi ⟨x,e,e2⟩=>by have:=hla x e;omega
 have ch:=ht.cell (b:=h) (o:=0) l0 (hnA h (by omega));have fh:=ht.frozen (b:=h) (o:=0) l0 (hnA h (by omega));have c3:=World.cell?_setCell_same W5 ⟨h,0,none⟩ (.slice a' q'.length c') (ch.trans h3);have hs:Turns (fun i=>i=h) W5 (W5.setCell ⟨h,0,none⟩ (.slice a' q'.length c')):=(Turns.setCell (a:=⟨h,0,none⟩) rfl _).mono fun _ _ e=>e.symm;have ht2:Turns (fun i=>AtB a i∨i=h) X (W5.setCell ⟨h,0,none⟩ (.slice a' q'.length c')):=(ht.mono fun _ _ h=>.inl h).trans (hs.mono fun _ _ h=>.inr h);have hla':∀x,a'=some x→B+1+1+1≤x.block:=fun x e=>(hown'.lt x.block (by rw[e];rfl)).1
 have hNs:∀i,AtB a i∨i=h→VisN h B i:=fun i hi=>by
  rcases hi with⟨x,e,e2⟩|hi
  ·have:=hla x e;exact .inr (by omega)
  ·exact .inl hi
 have hx:∀i,i≤B+1+1→i≠h→¬(AtB a i∨i=h):=fun i hi hn e=>e.elim (hnA i hi) hn
 refine⟨_,rfl,ch,fh.trans h6,ht2.mono fun i _ hi=>⟨?_,hNs i hi⟩,c3,?_,fun x e hG=>?_,by rw[World.frozen?_setCell];exact fh.trans h6,h1.turns ha ht2 hNs,h2.trans (ht2.below (fun i hi=>by have:=hNs i hi;unfold VisN at this;omega) h2.size),
  (ht2.cell (by omega) (hx B (by omega) (by omega))).trans h7,(ht2.cell l1 (hx _ (by omega) (by omega))).trans h8,⟨D,?_,h10⟩,fun i hi=>⟨(hl i hi).1,Nat.lt_of_lt_of_le (hl i hi).2 ht2.size⟩⟩
 ·rcases hi with⟨x,e,rfl⟩|rfl
  ·exact hna x e
  ·exact g0
 ·exact dC hown' hs (fun i ⟨x,e,e2⟩ hi=>by have:=hla' x e;omega)
 ·have hlt:=(hl _ hG).2
  have:=(hap x.block hlt (fun y ey e2=>hna y ey (by rw[e2];exact hG))).2;exact this x e rfl
 ·obtain⟨es,cl,hb9,F,hs9,hD9⟩:=h9
  exact⟨es,cl,(ht2.block (B+1) (by omega) (hx _ (by omega) (by omega))).trans hb9,F,hs9,hD9⟩
end
section
open Go Go.RowKit Go.Maps
attribute [local go_sem] Oper.semAt_some
def visU(t:Tr)(node:Int):List Int×Int:=if aL t node (eY t)=0 then (bA (visF t [] (zB t node)),0)else ([],aL t node (eY t))
theorem yA{W:World}{h:Nat}{T:TypeId}(hh:W.heap[h]?=some (.cells #[.slice none 0 0] T)){j:Nat}{v:Value}(hv:W.cell? ⟨h,j,none⟩=some v):v=.slice none 0 0:=by
 simp only[World.cell?,hh]at hv;rcases j with _|j
 ·simp at hv;exact hv.symm
 ·simp at hv
theorem tN{W:World}{a:Option Addr}{n c h:Nat}{l:List Int}{T:TypeId}{o:Obj}(hr:Row 1 W a n c (zo l))(hh:W.heap[h]?=some (.cells #[.slice none 0 0] T)):Row 1 (W.putObj h o) a n c (zo l):=by
 obtain⟨h1,h2,h3,h4⟩:=hr;refine⟨h1,h2,h3,?_⟩;rcases h4 with h4|⟨b,of,e,hlt,hc⟩
 ·exact .inl h4
 ·by_cases h0:n=0
  ·exact .inl h0
  ·refine .inr ⟨b,of,e,by simpa using hlt,fun i hi=>?_⟩
   by_cases hb:b=h
   ·exfalso
    have hl:0<(zo l).length:=by rw[h1];omega
    have h5:=hc 0 hl;rw[hb]at h5;have h6:=yA hh h5;have h7:(zo l)[0]∈zo l:=List.getElem_mem _;rw[h6]at h7;unfold zo at h7;obtain⟨x,-,hx⟩:=List.mem_map.1 h7;cases hx
   ·rw[←hc i hi]
    exact World.cell?_of_block (a:=⟨b,of+i,none⟩) (World.putObj_heap_other hb)
theorem sS{W:World}{h:Nat}{b i:Nat}{v:Value}(hv:(W.putObj h (.map #[] 0)).cell? ⟨b,i,none⟩=some v):b≠h∧W.cell? ⟨b,i,none⟩=some v:=by
 have hlt:=World.block_lt_of_cell? _ _ hv;simp only at hlt;rw[show(W.putObj h (.map #[] 0)).heap.size=W.heap.size by simp]at hlt;by_cases e:b=h
 ·exfalso
  subst e;have hh:=World.putObj_heap_same (o:=.map #[] 0) hlt;simp[World.cell?,hh]at hv
 ·exact⟨e,(World.cell?_of_block (a:=⟨b,i,none⟩) (World.putObj_heap_other e)).symm.trans hv⟩
theorem DY(W:World)(h:Nat):Apart (VisN h W.heap.size) (W.putObj h (.map #[] 0)):=by
 intro b i v hv hN;obtain⟨h1,h2⟩:=sS hv;have h3:=World.block_lt_of_cell? W _ h2;rcases hN with h4|h4
 ·exact h1 h4
 ·simp only at h3;omega
theorem xG{W X:World}{h:Nat}(hb:Below W.heap.size W X):Kept (W.putObj h (.map #[] 0)) X:=
 ⟨by simpa using hb.size,fun b i v hv=>by
  obtain⟨-,h2⟩:=sS hv
  exact(hb.cell (p:=⟨b,i,none⟩) (World.block_lt_of_cell? W _ h2)).trans h2⟩
theorem IA{w W:World}{h:Nat}{T:TypeId}{p:ProgV}{t:Tr}{ups decl:List Int}(hp:IsProg W p t ups decl)(ht:IsTree w p.v t)(hw:Below w.heap.size w W)(hh:W.heap[h]?=some (.cells #[.slice none 0 0] T))(hs:p.s≠h)(hwh:w.heap.size≤h):IsProg (W.putObj h (.map #[] 0)) p t ups decl:=by
 have hc:∀i,(W.putObj h (.map #[] 0)).cell? ⟨p.s,i,none⟩=W.cell? ⟨p.s,i,none⟩:=fun i=>World.cell?_of_block (a:=⟨p.s,i,none⟩) (World.putObj_heap_other hs)
 have hk:Kept w (W.putObj h (.map #[] 0)):=⟨by simpa using hw.size,fun b i v hv=>by
  have hlt:b<w.heap.size:=World.block_lt_of_cell? w _ hv
  exact(World.cell?_of_block (a:=⟨b,i,none⟩) (World.putObj_heap_other (by show b≠h;omega))).trans ((hw.cell (p:=⟨b,i,none⟩) hlt).trans hv)⟩
 exact⟨(hc 0).trans hp.c0,(hc 1).trans hp.c1,(hc 2).trans hp.c2,(hc 3).trans hp.c3,hk.tree ht,tN hp.ups hh,tN hp.decl hh⟩
theorem JO{w w':World}{g:Nat}{a:Option Addr}{c:Nat}{l:List Int}{A:Act}{err:Int}(hc:w'.cell? ⟨g,0,none⟩=some (.slice a l.length c))(h4:A.tmps.getD 4 undef=.pointer (some ⟨g,0,none⟩))(h5:A.tmps.getD 5 undef=intV err)(hd:A.defers=[])
 (ho:w'.ownsRow w.heap.size 3 1 (.slice a l.length c) l.length (zo l))(hb:Below w.heap.size w w'):bodyPost prog Tryz.f21 (RetIntsE w l err) Exit.ret A w':=by
 refine bodyPost_ret (v:=.tuple #[.slice a l.length c,intV err]) ?_ hd ⟨a,c,rfl,ho,hb⟩;simp only[Array.getD_eq_getD_getElem?]at h4 h5;simp[results,results21,go_sem,loadVar,h4,h5,hc,Result.andThen]
theorem DZ(W:World)(s node:Nat):∃Wa,dF (((W.alloc (.cells #[.pointer (some ⟨s,0,none⟩)] 72)).alloc (.map #[] 0)).alloc (.cells #[.map (some (W.heap.size+1))] 84)) (.pointer (some ⟨s,0,none⟩)) node=Wa ∧
 Wa.heap.size=W.heap.size+1+1+1+1+1∧Below W.heap.size W Wa∧Wa.cell? ⟨W.heap.size,0,none⟩=some (.pointer (some ⟨s,0,none⟩))∧Wa.cell? ⟨W.heap.size+1+1,0,none⟩=some (.map (some (W.heap.size+1)))∧OwnB Wa (W.heap.size+1) 0 (.map []) ∧
 Wa.cell? ⟨W.heap.size+1+1+1,0,none⟩=some (.pointer (some ⟨s,0,none⟩))∧Wa.cell? ⟨W.heap.size+1+1+1+1,0,none⟩=some (intV node):=by
 refine⟨_,rfl,by simp,(((((Below.refl _ W).alloc nlr _).alloc (by simp) _).alloc (by simp;omega) _).alloc (by simp;omega) _).alloc (by simp;omega) _,?_,?_,?_,?_,?_⟩
 ·unfold dF;go_simp
 ·unfold dF;go_simp
 ·unfold dF
  have:=World.ownsMap_made (W.alloc (.cells #[.pointer (some ⟨s,0,none⟩)] 72)) prog 9 rdB;rw[World.size_alloc]at this;exact((this.alloc _).alloc _).alloc _
 ·unfold dF;go_simp
 ·unfold dF;go_simp
theorem pD{t:Tr}(wf:WF t){S:List Int}(G:Good t S){node:Nat}(hn:node<t.nodes.length):(zB t node).length≤t.nodes.length:=by
 have:=mQ (zB t node) ((List.range t.nodes.length).map fun i:Nat=>(i:Int)) (fQ wf G hn) (fun x hx=>by
  obtain⟨h0,h1⟩:=gY wf hx
  refine List.mem_map.2 ⟨x.toNat,List.mem_range.2 (by omega),by omega⟩)
 simpa using this
theorem VisI.init{w W Wa:World}{h s:Nat}{v:TreeV}{aa:Option Addr}{ac:Nat}{da:Option Addr}{dc:Nat}{t:Tr}(hw:Below w.heap.size w W)(hwh:w.heap.size≤h)(hh:W.heap[h]?=some (.cells #[.slice none 0 0] 23))
 (hsa:Wa.heap.size=W.heap.size+1+1+1+1+1)(hb:Below W.heap.size W Wa)(c6:Wa.cell? ⟨W.heap.size,0,none⟩=some (.pointer (some ⟨s,0,none⟩)))(c7:Wa.cell? ⟨W.heap.size+1+1,0,none⟩=some (.map (some (W.heap.size+1))))(hm:OwnB Wa (W.heap.size+1) 0 (.map [])) :
 VisI w (W.putObj h (.map #[] 0)) h W.heap.size ⟨s,v,aa,ac,da,dc⟩ t [] (fun i=>i=W.heap.size+1+1+1∨i=W.heap.size+1+1+1+1) Wa:=by
 have hlt:h<W.heap.size:=zC hh;have hcr:=zb (i:=0) (v:=.slice none 0 0) ((hb.block h hlt).trans hh) rfl;have hfr:=zu (i:=0) ((hb.block h hlt).trans hh);exact⟨xG hb,hw.trans (hb.mono hw.size),⟨none,0,[],hcr,Hd rfl,⟨rfl,.inl ⟨rfl,rfl⟩⟩,fun x e=>by cases e⟩,hfr,c6,c7,⟨_,hm,BoolMap.empty.congr fun x=>rfl⟩,⟨by omega,by omega,by omega,by omega⟩,fun i hi=>⟨.inr (by omega),by omega⟩⟩
theorem kF(v:TreeV)(t:Tr)(node:Int)(w:World)(bd:Bd t)(rg:Rg t)(hg:GV w)(h:IsTree w v t) :
 Calls prog 21 #[v.val t,intV node] w (RetIntsE w (visU t node).1 (visU t node).2):=by
 have hb1:Below w.heap.size w ((boxT w v t).alloc (.cells #[.slice none 0 0] 23)):=boxT_below.alloc (by simp) _;have HC:=Hd (pJ v t node _ bd rg (hg.mono hb1 nlr) (h.mono hb1 nlr))
 have hw1:((boxT w v t).alloc (.cells #[.slice none 0 0] 23)).heap[w.heap.size+1]?=some (.cells #[.slice none 0 0] 23):=by
  have:=World.alloc_heap_new (boxT w v t) (.cells #[.slice none 0 0] 23);rwa[show(boxT w v t).heap.size=w.heap.size+1 by simp]at this
 have hsz:((boxT w v t).alloc (.cells #[.slice none 0 0] 23)).heap.size=w.heap.size+1+1:=by simp
 have BD:=Hd bd;have HT:=Hd h;have HB1:=Hd hb1;have HW1:=Hd hw1;have HSZ:=Hd hsz;have hn3:=bd.n;clear h hg bd rg hb1 hw1 hsz;obtain⟨na,nc,ia,ic⟩:=v;by_cases hz:aL t node (eY t)=0
 ·have HZ:=Hd hz
  have HU:Hid (visU t node=(bA (visF t [] (zB t node)),0)):=Hd (by unfold visU;rw[if_pos hz]);rw[HU.out];by_cases hin:0≤node∧node<t.nodes.length
  ·obtain⟨hn0,hn1⟩:=hin
   obtain⟨nd,rfl⟩:=Int.eq_ofNat_of_zero_le hn0;have hnd:nd<t.nodes.length:=by omega
   clear hz hn0 hn1;unfold TreeV.val;refine callsIn_wide.1 (?_:CallsIn Fence.wide 0 _ _ _ _ _);refine callsIn_of_wp_marks (n:=0) func21 rfl trivial ?_ rfl;simp only[ntmps21,List.size_toArray,List.length_cons,List.length_nil,Nat.reduceAdd,Nat.reduceSub,Array.replicate_succ,Array.replicate_zero,List.push_toArray,List.append_toArray,List.nil_append,List.cons_append];refine wpIn_wide.2 ?_;have hmm:=@run_makeMap prog
   go_wp2_with (first
    | (go_at_call 55;refine HC.out.mono ?_;rintro e w2 (⟨-,hrs,-,-,-,p,rfl,hpv,hop⟩|⟨hne,-⟩);rotate_left;(exact absurd HZ.out hne);have HRS:=Hd hrs;have HWF:=Hd (aM BD.out hrs.check);obtain⟨s,v',aa,ac,da,dc⟩:=p;simp only at hpv;subst hpv;have HOP:=Hd hop;have HSC:Hid (∀(w2:World),Calls prog 59 #[.pointer (some ⟨s,0,none⟩),intV nd] w2 fun e w'=>e=.returned (.func (.func 96) #[] #[.pointer (some ⟨w2.heap.size,0,none⟩),.pointer (some ⟨w2.heap.size+1,0,none⟩)])∧dF w2 (.pointer (some ⟨s,0,none⟩)) nd=w'):=Hd (fun w2=>nD s nd w2);clear hop hrs)
    | (go_at_call 59;refine(HSC.out _).mono ?_;rintro e w' ⟨rfl,rfl⟩))
   obtain⟨Wa,hWa,hsa,hba,ca6,ca7,cam,cg0,cg1⟩:=DZ w2 s nd;rw[hWa];clear hWa;have hop:=HOP.out;have hwB:w.heap.size+1+1≤w2.heap.size:=by rw[←HSZ.out];exact hop.below.size
   have hww:Below w.heap.size w w2:=HB1.out.trans (hop.below.mono (by rw[HSZ.out];omega));have hh2:w2.heap[w.heap.size+1]?=some (.cells #[.slice none 0 0] 23):=(hop.below.block _ (by rw[HSZ.out];omega)).trans HW1.out;have hps:=hop.ps;rw[HSZ.out]at hps;simp only at hps;have HPR:=Hd (IA (h:=w.heap.size+1) hop.prog HT.out hww hh2 (by simp only;omega) (by omega));have HV0:=Hd (VisI.init (v:=⟨na,nc,ia,ic⟩) (aa:=aa) (ac:=ac) (da:=da) (dc:=dc) (t:=t) hww (by omega) hh2 hsa hba ca6 ca7 cam);have HAP:=Hd (DY w2 (w.heap.size+1));have HKE:=Hd (xG (h:=w.heap.size+1) hba);obtain⟨w0,hw0⟩:∃w0,w2.putObj (w.heap.size+1) (.map #[] 0)=w0:=⟨_,rfl⟩
   rw[hw0]at HPR HV0 HAP HKE;obtain⟨h,hh⟩:∃h,w.heap.size+1=h:=⟨_,rfl⟩
   obtain⟨B,hB⟩:∃B,w2.heap.size=B:=⟨_,rfl⟩
   rw[hh]at HV0 HAP;rw[hB]at HV0 HAP hsa ca6 ca7 cam cg0 cg1;rw[hh,hB];have hwh:w.heap.size≤h:=by omega
   have hhB:h<B:=by omega
   have hwB2:w.heap.size≤B:=by omega
   have HGD:Hid (Gd (VisN h B) (fun i=>i=B+1+1+1∨i=B+1+1+1+1) Wa):=Hd ⟨fun i hi=>.inr (by omega),fun i hi=>⟨.inr (by omega),by omega⟩⟩;have HSL:=Hd (pD HWF.out (fV (aP HRS.out.check)) hnd);have HSQ:=Hd (pK ⟨s,⟨na,nc,ia,ic⟩,aa,ac,da,dc⟩ t _ _ nd w0 Wa (VisN h B) (B+1+1+1) HWF.out hnd (eK (fV (aP HRS.out.check))) HPR.out HAP.out HKE.out cg0 cg1);clear hop hww hh2 hps hba ca6 ca7 cam cg0 cg1 hw0 hB HOP HSC HKE;refine(wpIn_wide (n:=0)).1 ?_
   refine gF (gf:=96) (lb:=#[.pointer (some ⟨B+1+1+1,0,none⟩),.pointer (some ⟨B+1+1+1+1,0,none⟩)]) rfl (enters_of func96 (by kernel_rfl) rfl)
    HSQ.out (Turns.refl _ _) HGD.out (fun _=>rfl)
    (fun k G X=>VisI w w0 h B ⟨s,⟨na,nc,ia,ic⟩,aa,ac,da,dc⟩ t ((zB t nd).take k) G X)
    (fun _ _ _ _=>False)
    (fun k G X G' Y hi st=>hi.step HAP.out hwh hwB2 st) (fun c k G X G' Y hi st=>hi) HV0.out
    (fun d=>{ tmps:=#[.agg #[.slice na t.nodes.length nc,.slice ia t.items.length ic],intV nd,.pointer (some ⟨w.heap.size,0,none⟩),undef,.pointer (some ⟨h,0,none⟩),intV 0,.pointer (some ⟨B,0,none⟩),.pointer (some ⟨B+1+1,0,none⟩),intV d,undef,
     .tuple #[.pointer (some ⟨s,0,none⟩),intV 0],.agg #[.slice na t.nodes.length nc,.slice ia t.items.length ic],intV nd,.tuple #[.pointer (some ⟨s,0,none⟩),intV 0],.pointer (some ⟨s,0,none⟩),intV 0,intV 0,.bool false,undef,.map (some (B+1)),.pointer (some ⟨s,0,none⟩),intV nd,
     .func (.func 96) #[] #[.pointer (some ⟨B+1+1+1,0,none⟩),.pointer (some ⟨B+1+1+1+1,0,none⟩)],intV d,undef,undef,undef,undef,undef,undef,undef,undef,undef,undef,undef,undef,undef,undef,undef,undef,undef,undef,undef,undef,undef,undef,undef,undef,undef,undef,undef,undef],defers:=[] }) ?assign ?body ?done ?stop
   case assign=>
    intro l x W9 K hK
    gi_wp2
    exact hK
   case body=>
    rintro l k d G A hx hGl⟨r,hr⟩ hgdA hM;obtain⟨hk,hxe⟩:=List.getElem?_eq_some_iff.1 hx;obtain⟨hd0,hd1⟩:=gY HWF.out (List.mem_of_getElem? hx);obtain⟨m,rfl⟩:=Int.eq_ofNat_of_zero_le hd0;have hm:m<t.nodes.length:=by omega
    have hpA:=HPR.out.kept hM.kept;have hcpA:=hpA.c0;obtain⟨b,o,ka,kc,ea,hb,m0,m1,m2,m3,m4,-⟩:=hpA.tree.nodes.at hm;simp only at ea hcpA;subst ea;have hndm:=t.nd_at hm;have hdx:=BD.out.s _ (List.getElem_mem hm);obtain⟨D2,hD2⟩:∃D2,t.nodes[m]=D2:=⟨_,rfl⟩
    rw[hD2]at m0 m1 m2 m3 m4 hndm hdx;have htk:(zB t nd).take (k+1)=(zB t nd).take k++[(m:Int)]:=by rw[List.take_succ_eq_append_getElem hk,hxe]
    obtain⟨L,hL⟩:∃L,(zB t nd).take k=L:=⟨_,rfl⟩
    rw[hL]at htk hM;have hLl:L.length≤t.nodes.length:=by have:=HSL.out;rw[←hL,List.length_take];omega
    have HTK:=Hd htk;have hc6:A.cell? ⟨B,0,none⟩=some (.pointer (some ⟨s,0,none⟩)):=hM.c6;have hc7:=hM.c7;obtain⟨a,c,q,hcq,HQ,hown,hna⟩:=hM.list;have hql:q.length≤t.nodes.length:=by have:=kC t L [];rw[HQ.out];omega
    have hfr:=hM.fr;obtain⟨hl0,hl1⟩:=hM.lt;have hsA:s<A.heap.size:=World.block_lt_of_cell? A _ hcpA;obtain⟨bx,hbx⟩:∃bx:Obj,bx=.cells #[.int .u8 D2.kind,strV D2.text,intV D2.n,.slice ka D2.kids.length kc,intV D2.pos] 52:=⟨_,rfl⟩
    have hb9:Below A.heap.size A (A.alloc bx):=(Below.refl A.heap.size A).alloc nlr bx;have hb9':=hb9;rw[hbx]at hb9';have hM9:=hM.grow HAP.out hwh hwB2 hb9';obtain⟨Dm,hDm,hS⟩:=hM9.mp;have hx9:(A.alloc (.cells #[.int .u8 D2.kind,strV D2.text,intV D2.n,.slice ka D2.kids.length kc,intV D2.pos] 52)).cell? ⟨A.heap.size,1,none⟩=some (strV D2.text):=zb (World.alloc_heap_new A _) rfl;have hc79:=hM9.c7;have hfr9:=hM9.fr;have hlk:=CF hDm hS (s:=D2.text) hdx;have hown9:=zh hown hb9';have hcq9:=(hb9'.cell (p:=⟨h,0,none⟩) hl0).trans hcq;have HMM:=Hd hM;have HM9:=Hd hM9;have HGA:=Hd hgdA;have HNM:=Hd hndm;have HDM:=Hd hDm;have HS:=Hd hS;have HO9:=Hd hown9;have HOA:=Hd hown;have HNA:=Hd hna;have HB9:=Hd hb9';have HSF:Hid (∀W,Calls prog 60 #[.int .u8 3,.int .u8 D2.kind] W (zm W (suits 3 D2.kind))):=Hd (fun W=>rR _ _ W);clear hM hM9 hgdA hx hd0 hr hpA hD2 hndm hxe hL htk hown hna hDm hS hown9 hb9 hb9' hbx hc7 hfr
    cases hs:mM t L D2.text with
    | true=>
      rw[hs]at hlk;have HNQ:Hid (q=visF t [] (L++[(m:Int)])):=Hd (by rw[GY (by rw[HNM.out];exact hs)];exact HQ.out);clear hs
      gi_wp2_with (first
       | (gi_at_mapUpdate;refine wpListIn_mapUpdate_own _ rfl _ _ _ 84 rfl 9 4 zF rK rdB (B+1) L.length Dm rfl HDM.out (by unfold maxLen;omega) _ _ (.string D2.text) rfl rfl (qW hdx) (.lit (.bool true)) [] rfl ?_;intro w7 hown7 hgrow7)
       | (refine⟨trivial,?_⟩))
      obtain⟨z1,z2⟩:=VisI.mark HAP.out hwB2 hhB HM9.out.kept HM9.out.below HM9.out.fr HM9.out.c6 HM9.out.c7 HM9.out.g HM9.out.low (d:=(m:Int)) hcq9 HO9.out HNA.out HNQ HS.out (by rw[HNM.out];exact hown7) hgrow7;exact⟨(Keeps.of_below HB9.out).trans z2,by simp only[HTK.out];exact z1⟩
    | false=>
      rw[hs]at hlk;have HSE:Hid (mM t L (t.nd (m:Int)).text=false):=Hd (by rw[HNM.out];exact hs);clear hs
      cases hf:suits 3 D2.kind with
      | false=>
        have HF:=Hd hf;have HNQ:Hid (q=visF t [] (L++[(m:Int)])):=Hd (by rw[yY (by rw[HNM.out];exact hf)];exact HQ.out);clear hf
        gi_wp2_with (first
         | (gi_at_mapUpdate;refine wpListIn_mapUpdate_own _ rfl _ _ _ 84 rfl 9 4 zF rK rdB (B+1) L.length Dw rfl HDW.out (by unfold maxLen;omega) _ _ (.string D2.text) rfl rfl (qW hdx) (.lit (.bool true)) [] rfl ?_;intro w7 hown7 hgrow7)
         | (refine⟨trivial,rfl,?_⟩;refine(CallsIn.inRound l (callsIn_wide.2 (HSF.out _))).mono ?_;rw[HF.out];rintro e w9 ⟨rfl,hb8⟩;have hMw:=HM9.out.grow HAP.out hwh hwB2 hb8;have hc7w:=hMw.c7;have hxw:=(hb8.cell (p:=⟨A.heap.size,1,none⟩) (by simp)).trans hx9;obtain⟨Dw,hDw,hSw⟩:=hMw.mp;have HMW:=Hd hMw;have HDW:=Hd hDw;have HSW:=Hd hSw;have HB8:=Hd hb8;clear hb8 hMw hDw hSw))
        obtain⟨z1,z2⟩:=VisI.mark HAP.out hwB2 hhB HMW.out.kept HMW.out.below HMW.out.fr HMW.out.c6 HMW.out.c7 HMW.out.g HMW.out.low (d:=(m:Int)) ((HB8.out.cell (p:=⟨h,0,none⟩) (by simp;omega)).trans hcq9) (zh HO9.out HB8.out) HNA.out HNQ HSW.out (by rw[HNM.out];exact hown7) hgrow7;exact⟨(Keeps.of_below (HB9.out.trans (HB8.out.mono (by simp)))).trans z2,by simp only[HTK.out];exact z1⟩
      | true=>
        have HF:=Hd hf;have HNQ:Hid (q++[(m:Int)]=visF t [] (L++[(m:Int)])):=Hd (by rw[GZ HSE.out (by rw[HNM.out];exact hf),HQ.out]);clear hf
        gi_wp2_with (first
         | (gi_at_mapUpdate;refine wpListIn_mapUpdate_own _ rfl _ _ _ 84 rfl 9 4 zF rK rdB (B+1) L.length Dw rfl HDW.out (by unfold maxLen;omega) _ _ (.string D2.text) rfl rfl (qW hdx) (.lit (.bool true)) [] rfl ?_;intro w7 hown7 hgrow7)
         | (gi_at_builtin;refine oZ (news:=[(m:Int)]) rfl (.tmp 42) (.tmp 44) rfl rfl (B:=B+1+1+1) rfl (HOW.out.alloc _) rfl (zL _ _ _) (by simp;omega) (by have:=HMW.out.lt;simp;omega) ?_;intro a9 c9 w5 l9 HL9 hown5 hkeep5 hap5;have hM10:=HMW.out.grow HAP.out hwh hwB2 ((Below.refl w9.heap.size w9).alloc nlr (.cells #[intV (m:Int)] 3));have hx10:=(((Below.refl w9.heap.size w9).alloc nlr (.cells #[intV (m:Int)] 3)).cell (p:=⟨A.heap.size,1,none⟩) (World.block_lt_of_cell? w9 _ hxw)).trans hxw;have hcq10:=(((Below.refl w9.heap.size w9).alloc nlr (.cells #[intV (m:Int)] 3)).cell (p:=⟨h,0,none⟩) (World.block_lt_of_cell? w9 _ hcqw)).trans hcqw;obtain⟨Y,hY,hc5,hf5,z9,cY,ownY,hnaY,frY,k1,k2,k3,k4,⟨Dw,hDw,hSw⟩,k5⟩:=hM10.pushed HAP.out hwB2 hwh hhB (HOW.out.alloc _) HNA.out hown5 hkeep5 hap5;subst hY;rw[hcq10]at hc5;have hx5:=(World.cell?_of_block (a:=⟨A.heap.size,1,none⟩) (hap5 A.heap.size (World.block_lt_of_cell? _ _ hx10) (fun x e e2=>by have:=(HOA.out.lt x.block (by rw[e];rfl)).2;omega)).1).trans hx10;have hc75:=(World.cell?_setCell_other _ _ _ _ (by intro e;have:=congrArg Addr.block e;simp only at this;omega)).symm.trans k4;have HZ9:=Hd z9;have HCY:=Hd cY;have HOY:=Hd ownY;have HNY:=Hd hnaY;have HFY:=Hd frY;have HK1:=Hd k1;have HK2:=Hd k2;have HK3:=Hd k3;have HK4:=Hd k4;have HK5:=Hd k5;have HDW:=Hd hDw;have HSW:=Hd hSw;clear hM10 hcq10 z9 cY ownY hnaY frY k1 k2 k3 k4 k5 hDw hSw hown5 hkeep5 hap5 hx10)
         | (refine⟨trivial,rfl,?_⟩;refine(CallsIn.inRound l (callsIn_wide.2 (HSF.out _))).mono ?_;rw[HF.out];rintro e w9 ⟨rfl,hb8⟩;have hMw:=HM9.out.grow HAP.out hwh hwB2 hb8;have hcqw:=(hb8.cell (p:=⟨h,0,none⟩) (by simp;omega)).trans hcq9;have hxw:=(hb8.cell (p:=⟨A.heap.size,1,none⟩) (by simp)).trans hx9;have HMW:=Hd hMw;have HOW:=Hd (zh HO9.out hb8);have HB8:=Hd hb8;clear hb8 hMw))
        obtain⟨z1,z2⟩:=VisI.mark HAP.out hwB2 hhB HK1.out HK2.out HFY.out HK3.out HK4.out HM9.out.g HK5.out (d:=(m:Int)) HCY.out HOY.out HNY.out (Hd (HL9.out.trans HNQ.out)) HSW.out (by rw[HNM.out];exact hown7) hgrow7;exact⟨((Keeps.of_below ((HB9.out.trans (HB8.out.mono (by simp))).alloc (Nat.le_trans HB9.out.size HB8.out.size) _)).trans HZ9.out).trans z2,by simp only[HTK.out];exact z1⟩
   case done=>
    rintro D9 G X hD hDB hGD hgdB hM;rw[List.take_length]at hM;obtain⟨hkp,hbel,⟨a,c,q,hcq,HQ,hown,hna⟩,hfr,-,-,-,⟨g0,-⟩,hlow⟩:=hM;have hql:q.length≤t.nodes.length:=by have:=kC t (zB t nd) [];have:=HSL.out;rw[HQ.out];omega
    have hne:D9≠h:=fun e=>g0 (e▸hGD);have hne9:∀x,a=some x→x.block≠D9:=fun x e e2=>hna x e (e2▸hGD);have hDW:w.heap.size≤D9:=by omega
    have HO:=Hd hown;have HBE:=Hd hbel;have HN9:=Hd hne9;have HDB:=Hd hDB;have HHX:=Hd (World.block_lt_of_cell? X _ hcq);have HDX:=Hd (zC hDB);clear hkp hbel hown hna hlow hDB hgdB hne9
    go_wp2_with (go_at_call 61;refine(nC HO.out (by omega)).mono ?_;rintro e w3 ⟨rfl,own3,tn3⟩;have hc3:=(tn3.cell (b:=h) (o:=0) HHX.out (fun⟨x,e,e2⟩=>by have:=(HO.out.lt x.block (by rw[e];rfl)).1;omega)).trans hcq;have hf3:=(tn3.frozen (b:=h) (o:=0) HHX.out (fun⟨x,e,e2⟩=>by have:=(HO.out.lt x.block (by rw[e];rfl)).1;omega)).trans hfr;have hd3:=(tn3.block D9 HDX.out (fun⟨x,e,e2⟩=>HN9.out x e e2)).trans HDB.out;have HO3:=Hd own3;have HT3:=Hd tn3;have HD3:=Hd hd3;clear own3 tn3 hd3)
    have hds:=(Below.heap_setCell w3 ⟨h,0,none⟩ (.slice a q.length c) D9 hne).trans HD3.out;have hT4:Turns (fun i=>i=h) w3 (w3.setCell ⟨h,0,none⟩ (.slice a q.length c)):=(Turns.setCell (a:=⟨h,0,none⟩) rfl _).mono fun _ _ e=>e.symm;have hT5:Turns (fun i=>i=D9) (w3.setCell ⟨h,0,none⟩ (.slice a q.length c)) ((w3.setCell ⟨h,0,none⟩ (.slice a q.length c)).putObj D9 (.deferred none)):=Turns.putObj (M:=fun i=>i=D9) rfl _;have hl3:h<w3.heap.size:=World.block_lt_of_cell? w3 _ hc3;have hc9:=(hT5.cell (b:=h) (o:=0) (Nat.lt_of_lt_of_le hl3 hT4.size) (Ne.symm hne)).trans (World.cell?_setCell_same w3 ⟨h,0,none⟩ (.slice a q.length c) hc3);refine⟨by simp,.inl ⟨_,_,rfl,run_takeDeferred hds,?_⟩⟩;refine⟨.tuple #[.slice a q.length c,intV 0],?_,?_⟩
    ·simp[results,results21,go_sem,loadVar,hc9,Result.andThen]
    ·rw[←HQ.out]
     have hll:(bA q).length=q.length:=dM q;have hlow:∀i,AtB a i→B+1+1+1≤i:=fun i ⟨x,e,e2⟩=>by have:=(HO.out.lt x.block (by rw[e];rfl)).1;omega
     refine⟨a,c,by rw[hll],by rw[hll];exact aJ (dC (dC HO3.out hT4 (fun i hi e=>by have:=hlow i hi;omega)) hT5 (fun i ⟨x,e,e2⟩ e3=>HN9.out x e (e2.trans e3))) (by omega),?_⟩;have hwX:=HBE.out.size;have b3:Below w.heap.size X w3:=HT3.out.below (fun i hi=>by have:=hlow i hi;omega) hwX;exact((HBE.out.trans b3).trans (hT4.below (fun i hi=>by omega) (Nat.le_trans hwX b3.size))).trans (hT5.below (fun i hi=>by omega) (Nat.le_trans (Nat.le_trans hwX b3.size) hT4.size))
   case stop=>
    rintro D9 c k G X hD hDB hGD hgdB hk hf;exact hf.elim
  ·exfalso
   apply hin;have hz':=HZ.out;unfold aL at hz';split at hz'
   ·rename_i h1;simp at h1;exact absurd hz' h1
   ·split at hz'
    ·cases hz'
    ·rename_i h2
     simp only[Bool.or_eq_true,not_or,decide_eq_true_eq]at h2;omega
 ·have hne:(aL t node (eY t) != 0)=true:=by simpa using hz
  have hu:visU t node=([],aL t node (eY t)):=by unfold visU;rw[if_neg hz]
  obtain⟨E1,hE1⟩:∃E1,aL t node (eY t)=E1:=⟨_,rfl⟩
  rw[hE1]at hne hu;rw[hu];have HE1:=Hd hE1;have HZ:=Hd hz;clear hE1 hz hu;unfold TreeV.val;go_enter func21,ntmps21
  go_wp2_with (go_at_call 55;refine HC.out.mono ?_;rintro e w2 (⟨h0,-⟩|⟨-,rfl,hb2⟩);(exact absurd h0 HZ.out);rw[HE1.out];have hcr:=zb (i:=0) (v:=.slice none 0 0) ((hb2.block (w.heap.size+1) (by rw[HSZ.out];omega)).trans HW1.out) rfl;have hfr:=zu (i:=0) ((hb2.block (w.heap.size+1) (by rw[HSZ.out];omega)).trans HW1.out);have HB2:=Hd (HB1.out.trans (hb2.mono (by rw[HSZ.out];omega)):Below w.heap.size w w2);have hs2:=hb2.size;rw[HSZ.out]at hs2;have hb9:=(Below.refl w2.heap.size w2).alloc nlr (.cells #[.pointer none] 72);have hcr1:=(hb9.cell (p:=⟨w.heap.size+1,0,none⟩) (by show w.heap.size+1<_;omega)).trans hcr;have hfr1:=(hb9.frozen (p:=⟨w.heap.size+1,0,none⟩) (by show w.heap.size+1<_;omega)).trans hfr;have HB3:=Hd (HB2.out.trans (hb9.mono (by omega)));clear hb2 hb9 hcr hfr)
  exact JO (a:=none) (c:=0) (World.cell?_setCell_same _ _ _ hcr1) rfl rfl rfl ⟨rfl,.inl ⟨rfl,rfl⟩⟩ (HB3.out.setCell (by simp) _)
end
section
open Go Go.RowKit
theorem aD{t:Tr}(h:(zc t).2.2=0):Resolved t:=by
 by_cases hc:aN t=0
 ·refine⟨hc,?_⟩
  suffices hs:∀f m,m<f→m<t.nodes.length→bT t m=0 from fun m hm=>hs (m+1) m (by omega) hm
  intro f
  induction f with
  |zero=>intro m hm;omega
  | succ f ih=>
    intro m hm hl;by_cases he:bT t m=0
    ·exact he
    ·exfalso
     have:=oP hc hl (fun j hj=>ih j (by omega) (by omega)) he;rw[this]at h;exact he h
 ·exfalso
  unfold zc at h;rw[if_pos (by simpa using hc)]at h;exact hc h
theorem zK{t:Tr}(bd:Bd t)(h:(zc t).2.2=0):WF t∧Good t (bV t):=⟨aM bd (aD h).check,fV (aP (aD h).check)⟩
theorem jF{t:Tr}{k:Nat}(h:(zc t).2.2=0)(hk:k<t.nodes.length)(q:Int→Bool):aL t k q=if q k then 0 else 7:=by
 unfold aL;rw[h,show decide ((k:Int)<0)=false from decide_eq_false (by omega),show decide ((t.nodes.length:Int)≤k)=false from decide_eq_false (by omega)];cases q k<;>rfl
def vA(t:Tr)(i d:Int):Bool:=inside t i d&&((t.nd d).kind==42||(t.nd d).kind==20&&((t.nd d).kids.length==2&&inside t i ((t.nd d).kids.getD 1 0)))
def wS(t:Tr)(i d:Int):Bool:=(t.nd d).kind==34&&inside t i (parent t d)
def IF(t:Tr)(i d:Int):Bool:=decide (d<i)&&decide (parent t d<0)
theorem oJ{t:Tr}(bd:Bd t)(h:(zc t).2.2=0){i:Nat}(hi:i<t.nodes.length)(hk:bU (t.nd i).kind=true) :
 ∃d:Nat,means t i=d∧d<t.nodes.length∧zi t d=true∧(t.nd d).text=(t.nd i).text∧oT (t.nd i).kind (t.nd d).kind=true∧(vA t i d=true∨wS t i d=true∨IF t i d=true):=by
 obtain⟨wf,G⟩:=zK bd h;have h0:=vM ((aD h).err i hi) hk;have hr:=cS wf (node:=i);obtain⟨d,hd⟩:=Int.eq_ofNat_of_zero_le h0;have hne:means t i ≠ -1:=by omega
 have hdl:d<t.nodes.length:=by omega
 obtain⟨h1,h2,_⟩:=lS hne;have hs:=gW hne;obtain⟨h3,h4,h5⟩:=fI G hi hs;have h6:=qI G hi hs;rw[hd]at h1 h2 h3 h6;refine⟨d,hd,hdl,h6,h1,by rw[oU hk];exact h2,?_⟩;rcases h3 with(⟨k20,⟨k,hk1,hk2⟩,hin⟩|⟨k42,hin⟩|⟨k34,hp,hp42,hin⟩) | ⟨hit,hlt,_⟩
 ·have hl:(t.nd d).kids.length=2:=by rw[t.nd_at hdl];exact wf.letK d hdl (by rw[←t.nd_at hdl];exact k20)
  refine .inl ?_;unfold vA;rw[hin,k20,hl,List.getD_eq_getElem?_getD,hk1,Option.getD_some,hk2];rfl
 ·refine .inl ?_
  unfold vA;rw[hin,k42];rfl
 ·refine .inr (.inl ?_)
  unfold wS;rw[k34,hin];rfl
 ·refine .inr (.inr ?_)
  unfold IF;rw[G.noParent hit,decide_eq_true hlt];rfl
end
end Go.Proofs.YtipjhljnkocioaaGreatDoor
