/- Part of a proof. -/
import Derived.Test.YtipjhljnkocioaaGreatDoorC03
import Derived.Test.YtipjhljnkocioaaGreatDoorC06
import Derived.Maps.AppendAt
import Derived.WalkSmall
import Derived.Laws.OwnMore
import Derived.Deep.QuietTactic
import Derived.BigQuiet
import Derived.Deep.RegionHeld3
set_option maxRecDepth 100000
set_option maxHeartbeats 8000000
set_option linter.unusedVariables false
set_option linter.unusedSimpArgs false
open Go.Proofs.Tryz
namespace Go.Proofs.YtipjhljnkocioaaGreatDoor
section
open Go.RowKit
theorem lA:(prog.info? 3).map (fun i=>(i.zero,i.size,i.bytes))=some (some (.int .i64 0),1,8):=by kernel_rfl
theorem MC:(prog.info? 5).map (fun i=>(i.zero,i.size,i.bytes))=some (some (.int .u8 0),1,1):=by kernel_rfl
theorem oX:(prog.info? 52).map (fun i=>(i.zero,i.size,i.bytes))=some (some (.agg #[.int .u8 0,.string ⟨#[]⟩,.int .i64 0,.slice none 0 0,.int .i64 0]),5,64):=by kernel_rfl
theorem bJ:prog.underlying 23=some (.slice 3):=by kernel_rfl
theorem IW:prog.underlying 114=some (.slice 5):=by kernel_rfl
theorem eN:prog.underlying 22=some (.slice 52):=by kernel_rfl
abbrev intV(n:Int):Value:=.int .i64 n
abbrev zo(l:List Int):List Value:=l.map intV
structure Nd where
 kind:Int
 text:List UInt8
 n:Int
 kids:List Int
 pos:Int
deriving DecidableEq
structure Tr where
 nodes:List Nd
 items:List Int
deriving DecidableEq
def Nd.cells(d:Nd)(a:Option Addr×Nat):List Value:=[.int .u8 d.kind,strV d.text,intV d.n,.slice a.1 d.kids.length a.2,intV d.pos]
def aB:List Nd→List (Option Addr×Nat)→List Value
 |d::ds,a::ks=>d.cells a++aB ds ks
 |_,_=>[]
def Nodes(w:World)(a:Option Addr)(c:Nat)(ns:List Nd):Prop:=
 ∃ks:List (Option Addr×Nat),ks.length=ns.length∧Row 5 w a ns.length c (aB ns ks)∧∀i (h:i<ns.length) (k:i<ks.length),Row 1 w ks[i].1 ns[i].kids.length ks[i].2 (zo ns[i].kids)
theorem gK:∀(ns:List Nd) (ks:List (Option Addr×Nat)),ks.length=ns.length→(aB ns ks).length=ns.length*5
 | [],[],_=>rfl
 | d::ns,a::ks,h=>by
   simp only[aB,List.length_append,Nd.cells,List.length_cons,List.length_nil,gK ns ks (by simpa using h)];omega
 | [],_::_,h=>by simp at h
 |_::_,[],h=>by simp at h
theorem lX:∀(ns:List Nd) (ks:List (Option Addr×Nat)) (hk:ks.length=ns.length) (i:Nat) (h:i<ns.length) (j:Nat) (hj:j<5),(aB ns ks)[i*5+j]?=(ns[i].cells (ks[i]'(by omega)))[j]?
 | d::ns,a::ks,hk,0,_,j,hj=>by
   simp only[aB,Nat.zero_mul,Nat.zero_add,List.getElem_cons_zero];rw[List.getElem?_append_left (by simp[Nd.cells];omega)]
 | d::ns,a::ks,hk,i+1,h,j,hj=>by
   simp only[aB,List.getElem_cons_succ];rw[List.getElem?_append_right (by simp[Nd.cells];omega),←lX ns ks (by simpa using hk) i (by simpa using h) j hj];congr 1;simp[Nd.cells];omega
 | [],_,_,_,h,_,_=>by simp at h
 |_::_,[],hk,_,_,_,_=>by simp at hk
theorem Nodes.mono{w w':World}{a:Option Addr}{c:Nat}{ns:List Nd}{B:Nat}(h:Nodes w a c ns)(hb:Below B w w')(hB:w.heap.size≤B):Nodes w' a c ns:=by
 obtain⟨ks,h1,h2,h3⟩:=h;exact⟨ks,h1,h2.mono hb hB,fun i h k=>(h3 i h k).mono hb hB⟩
theorem Nodes.at{w:World}{a:Option Addr}{c:Nat}{ns:List Nd}(h:Nodes w a c ns){i:Nat}(hi:i<ns.length) :
 ∃ b o ka kc,a=some ⟨b,o,none⟩∧b<w.heap.size∧w.cell? ⟨b,o+i*5,none⟩=some (.int .u8 ns[i].kind)∧w.cell? ⟨b,o+i*5+1,none⟩=some (strV ns[i].text) ∧
   w.cell? ⟨b,o+i*5+2,none⟩=some (intV ns[i].n)∧w.cell? ⟨b,o+i*5+3,none⟩=some (.slice ka ns[i].kids.length kc)∧w.cell? ⟨b,o+i*5+4,none⟩=some (intV ns[i].pos) ∧
   Row 1 w ka ns[i].kids.length kc (zo ns[i].kids):=by
 obtain⟨ks,h1,h2,h3⟩:=h;obtain⟨b,o,rfl,hb,hc⟩:=h2.some (by omega);have hl:=gK ns ks h1
 have key:∀j (hj:j<5),w.cell? ⟨b,o+i*5+j,none⟩=(ns[i].cells (ks[i]'(by omega)))[j]?:=by
  intro j hj;have hlt:i*5+j<(aB ns ks).length:=by omega
  rw[Nat.add_assoc,hc (i*5+j) hlt,←lX ns ks h1 i hi j hj,List.getElem?_eq_getElem hlt]
 exact⟨b,o,_,_,rfl,hb,key 0 (by omega),key 1 (by omega),key 2 (by omega),key 3 (by omega),key 4 (by omega),h3 i hi (by omega)⟩
abbrev Ints(w:World)(a:Option Addr)(c:Nat)(l:List Int):Prop:=Row 1 w a l.length c (zo l)
theorem Ints.at{w:World}{a:Option Addr}{c:Nat}{l:List Int}(h:Ints w a c l){i:Nat}(hi:i<l.length):∃b o,a=some ⟨b,o,none⟩∧b<w.heap.size∧w.cell? ⟨b,o+i,none⟩=some (intV l[i]):=by
 obtain⟨b,o,rfl,hb,hc⟩:=h.some (by omega);exact⟨b,o,rfl,hb,by rw[hc i (by simpa using hi)];simp⟩
structure TreeV where
 na:Option Addr
 nc:Nat
 ia:Option Addr
 ic:Nat
def TreeV.val(v:TreeV)(t:Tr):Value:=.agg #[.slice v.na t.nodes.length v.nc,.slice v.ia t.items.length v.ic]
structure IsTree (w:World) (v:TreeV) (t:Tr):Prop where
 nodes:Nodes w v.na v.nc t.nodes
 items:Ints w v.ia v.ic t.items
theorem IsTree.mono{w w':World}{v:TreeV}{t:Tr}{B:Nat}(h:IsTree w v t)(hb:Below B w w')(hB:w.heap.size≤B):IsTree w' v t:=⟨h.nodes.mono hb hB,Row.mono h.items hb hB⟩
structure Bd (t:Tr):Prop where
 n:t.nodes.length≤1000000
 i:t.items.length≤1000000
 k:∀d∈t.nodes,d.kids.length≤1000000
 s:∀d∈t.nodes,d.text.length≤1000000000
theorem bcell{W w1:World}(hb:Below W.heap.size W w1):(∀b o,b<W.heap.size→w1.cell? ⟨b,o,none⟩=W.cell? ⟨b,o,none⟩)∧(∀b o,b<W.heap.size→w1.frozen? ⟨b,o,none⟩=W.frozen? ⟨b,o,none⟩):=
 ⟨fun b o h=>hb.cell (p:=⟨b,o,none⟩) h,fun b o h=>hb.frozen (p:=⟨b,o,none⟩) h⟩
def RetInts(w:World)(l:List Int)(e:Ending)(w':World):Prop:=
 ∃a c,e=.returned (.slice a l.length c)∧w'.ownsRow w.heap.size 3 1 (.slice a l.length c) l.length (zo l)∧Below w.heap.size w w'
def zn(w:World)(b:Bool)(e:Ending)(w':World):Prop:=e=.returned (.bool b)∧Below w.heap.size w w'
def cW(w:World)(n:Int)(e:Ending)(w':World):Prop:=e=.returned (intV n)∧Below w.heap.size w w'
theorem gP(l:List Int):∀u∈zo l,u.oneCell'=true:=by
 intro u hu;obtain⟨c,_,rfl⟩:=List.mem_map.1 hu;rfl
theorem zg{W W':World}{base:Nat}{e:TypeId}{size:Nat}{v:Value}{n:Nat}{xs:List Value}(h:W.ownsRow base e size v n xs)(hb:Below W.heap.size W W'):W'.ownsRow base e size v n xs:=
 h.kept (row:=none) ⟨hb.os,hb.tape,hb.output,hb.size,fun k hk _=>hb.block k hk⟩ (by cases hv:v.ownBlock with|none=>exact .inl rfl|some k=>exact .inr (by simp))
theorem FA{w W W':World}{B:Nat}{e:TypeId}{size:Nat}{v:Value}{n:Nat}{xs:List Value}(hb:Below B w W)(h:W.ownsRow B e size v n xs)(hg:W.grownBy W' v.ownBlock)(hB:B≤W.heap.size):Below B w W':=
 hb.grown hg hB (fun k e=>(h.lt k e).1)
theorem zq{W:World}{B:Nat}{a:Option Addr}{c:Nat}{l:List Int}(h:W.ownsRow B 3 1 (.slice a l.length c) l.length (zo l)):Ints W a c l:=by
 obtain⟨a',c',e,hr⟩:=bG h;simp at e;obtain⟨rfl,rfl⟩:=e;exact hr
theorem aL{W:World}{B B':Nat}{e:TypeId}{k:Nat}{v:Value}{n:Nat}{xs:List Value}(h:W.ownsRow B e k v n xs)(hB:B'≤B):W.ownsRow B' e k v n xs:=by
 obtain⟨h1,h2⟩:=h;refine⟨h1,?_⟩;rcases h2 with h2|⟨g,cap,cur,h3,h4,h5⟩
 ·exact .inl h2
 ·exact .inr ⟨g,cap,cur,h3,Nat.le_trans hB h4,h5⟩
abbrev OwnI(W:World)(B:Nat)(a:Option Addr)(c:Nat)(l:List Int):Prop:=W.ownsRow B 3 1 (.slice a l.length c) l.length (zo l)
theorem RetInts.mk{w w':World}{B:Nat}{a:Option Addr}{c:Nat}{l:List Int}(h:OwnI w' B a c l)(hB:w.heap.size≤B)(hb:Below w.heap.size w w'):RetInts w l (.returned (.slice a l.length c)) w':=
 ⟨a,c,rfl,aL h hB,hb⟩
theorem dM{W W':World}{B:Nat}{e:TypeId}{k:Nat}{v:Value}{n:Nat}{xs:List Value}(hown:W.ownsRow B e k v n xs)(hg:W.grownBy W' v.ownBlock)(hB:B≤W.heap.size) :
 ∀B' A,B'≤B→Below B' A W→Below B' A W':=fun B' A h1 h2=>h2.grown hg (Nat.le_trans h1 hB) (fun k e=>Nat.le_trans h1 (hown.lt k e).1)
theorem fA(W:World)(e:TypeId)(k:Nat){n B:Nat}(hn:W.heap.size=n)(hB:B≤n):(W.alloc (.cells #[] e)).ownsRow B e k (.slice (some ⟨n,0,none⟩) 0 0) 0 []:=by
 subst hn;exact World.ownsRow_made W #[] 0 hB (by decide) (by simp)
def iE(a:Option Addr)(g:Nat):Prop:=∀p,a=some p→p.block≠g
theorem fM{P:Program}(w:World)(B:Nat)(t ty e:TypeId)(i:TypeInfo)(z:Value)(k bytes:Nat)(ht:P.underlying t=some (.slice e))(hi:P.info? e=some i)(hz:i.zero=some z)
 (hsize:i.size=k)(hby:i.bytes=bytes)(hzs:z.cells.size=k)(hsz:0<k)
 (av:Option Addr)(n cv:Nat)(xs:List Value)(hown:w.ownsRow B e k (.slice av n cv) n xs)(ax:Option Addr)(m c:Nat)(news:List Value)(hr:Row k w ax m c news)(h1:∀u∈news,u.oneCell'=true)
 (h63:n+m≤maxLen)(hbytes:(n+m)*bytes≤140737488355328)(hB:B≤w.heap.size){a':Option Addr}{n' c':Nat}{w':World}
 (hrun:(Builtin.append_ #[t,t] ty #[.slice av n cv,.slice ax m c]).run P w=.ok (.slice a' n' c') w'):∀p,a'=some p→av=some p∨w.heap.size≤p.block:=by
 obtain⟨hl,hmc,hnil,hcell⟩:=hr
 cases ax with
 | none=>
   obtain rfl:=hnil rfl;obtain rfl:m=0:=by omega
   have:=run_append_owned_none (P:=P) w B t ty e i k ht hi (.slice av n cv) n xs hown;rw[this]at hrun;injection hrun with h2 _;injection h2 with h3 _ _;intro p hp;exact .inl (h3.trans hp)
 | some a=>
   have hnews:∀j u,news[j]?=some u→w.cell? (a.add j)=some u:=by
    intro j u hj;have hj':j<news.length:=(List.getElem?_eq_some_iff.1 hj).1;rcases hcell with h0|⟨b,o,e,_,hc⟩
    ·subst h0;omega
    ·obtain rfl:=Option.some.inj e
     have hp:(⟨b,o,none⟩:Addr).add j=⟨b,o+j,none⟩:=by unfold Addr.add;split<;>simp_all
     rw[hp,hc j hj',←hj,List.getElem?_eq_getElem hj']
   rcases hown.2 with⟨h0,h00⟩|⟨g,cap,cur,h0,hbg,hg,hnc,hcm,hcs,htake⟩
   ·simp only[Value.slice.injEq]at h0
    obtain⟨rfl,rfl,rfl⟩:=h0;have hxs:xs=[]:=List.eq_nil_of_length_eq_zero (by simpa using hown.1);subst hxs;obtain⟨v',w2,hr2,h2,_,_⟩:=run_append_own (P:=P) w w.heap.size t ty e i z k bytes ht hi hz hsize hby hzs hsz (.slice none 0 0) 0 [] (World.ownsRow_nil w _ e k) a m c news hl hnews h1 h63 hbytes nlr;rw[hr2]at hrun;injection hrun with h3 _;subst h3;rintro p rfl;exact .inr (h2.lt p.block rfl).1
   ·simp only[Value.slice.injEq,true_and]at h0
    obtain⟨rfl,rfl⟩:=h0;by_cases hroom:n+m≤cv
    ·obtain⟨w2,hr2,_⟩:=run_append_fits (P:=P) w B t ty e i k ht hi hsize g n cv xs hown a m c news hl hnews h1 hroom
     rw[hr2]at hrun;injection hrun with h3 _;injection h3 with h4 _ _;intro p hp;exact .inl (h4.trans hp)
    ·have holds:∀j u,xs[j]?=some u→w.cell? ((⟨g,0,none⟩:Addr).add j)=some u:=hown.cells (g:=g) rfl
     subst hsize
     subst hby
     have hr2:=run_append_grow (P:=P) w t ty e i z ht hi hz ⟨g,0,none⟩ n cv xs hown.1 holds a m c news hl hnews (by omega) (by simp only[maxLen]at h63;omega) (growslice_fits (by omega) hbytes);rw[hr2]at hrun;injection hrun with h3 _;injection h3 with h4 _ _;rintro p rfl;injection h4 with h5;subst h5;exact .inr nlr
theorem eU{W:World}{ops:Array Oper}{rest:List Oper}{o:Oper}{a:Act}{Q:Exit→Act→World→Prop}(hgd:o.guard=none)(s x:Operand)(t e:TypeId)(z:Value)(k bytes:Nat)
 (ho:o.op=.call { callee:=.builtin .append,args:=#[s,x],argTypes:=#[t,t] })
 (ht:prog.underlying t=some (.slice e))(hinfo:(prog.info? e).map (fun i=>(i.zero,i.size,i.bytes))=some (some z,k,bytes))(hzs:z.cells.size=k)(hsz:0<k)
 {B:Nat}{av:Option Addr}{cv n:Nat}{xs:List Value}(hs:a.eval s=.slice av n cv)(hown:W.ownsRow B e k (.slice av n cv) n xs)
 {ax:Option Addr}{m c:Nat}{news:List Value}(hx:a.eval x=.slice ax m c)(hr:Row k W ax m c news)(h1:∀u∈news,u.oneCell'=true)
 (h63:n+m≤maxLen)(hbytes:(n+m)*bytes≤140737488355328)(hB:B≤W.heap.size)
 (h:∀a' c' w',w'.ownsRow B e k (.slice a' (n+m) c') (n+m) (xs++news)→W.grownBy w' (Value.slice av n cv).ownBlock→(∀p,a'=some p→av=some p∨W.heap.size≤p.block)→wpList prog ops Q rest (a.put o.dst (.slice a' (n+m) c')) w'):wpList prog ops Q (o::rest) a W:=by
 obtain⟨i0,hi,hz0,hz1,hz2⟩:=info_parts hinfo;refine wpList_plain hgd fun K hK=>?_;obtain⟨v',w',hrun,h2,h3⟩:=bP (P:=prog) W B t o.type e i0 z k bytes ht hi hz0 hz1 hz2 hzs hsz (.slice av n cv) n xs hown ax m c news hr h1 h63 hbytes hB;obtain⟨a',c',rfl,_⟩:=bG h2;have hw:=fM (P:=prog) W B t o.type e i0 z k bytes ht hi hz0 hz1 hz2 hzs hsz av n cv xs hown ax m c news hr h1 h63 hbytes hB hrun;unfold Oper.wp execOp;simp only[ho,resolve,invoke,builtin,Sem.run_bind,Sem.run_pure,Result.andThen_ok,List.map_toArray,List.map_cons,List.map_nil,hs,hx,hrun];exact hK _ _ (h a' c' w' h2 h3 hw)
theorem jZ{W W':World}{av a':Option Addr}{n cv:Nat}(hg:W.grownBy W' (Value.slice av n cv).ownBlock)(hw:∀p,a'=some p→av=some p∨W.heap.size≤p.block) :
 ∀g,g<W.heap.size→iE av g→W'.heap[g]?=W.heap[g]?∧iE a' g:=by
 intro g hlt hn;refine⟨hg.block g hlt ?_,fun p hp=>?_⟩
 ·cases av with
  |none=>simp[Value.ownBlock]
  |some p=>exact fun e=>hn p rfl (by simpa[Value.ownBlock]using e.symm)
 ·rcases hw p hp with h|h
  ·exact hn p h
  ·omega
theorem zN{W:World}{ops:Array Oper}{rest:List Oper}{o:Oper}{a:Act}{Q:Exit→Act→World→Prop}(hgd:o.guard=none)(s x:Operand)
 (ho:o.op=.call { callee:=.builtin .append,args:=#[s,x],argTypes:=#[23,23] })
 {B:Nat}{av:Option Addr}{cv:Nat}{l:List Int}(hs:a.eval s=.slice av l.length cv)(hown:OwnI W B av cv l)
 {ax:Option Addr}{m c:Nat}{news:List Int}(hx:a.eval x=.slice ax m c)(hr:Row 1 W ax m c (zo news))
 (hbytes:l.length+m≤4398046511104)(hB:B≤W.heap.size)
 (h:∀a' c' w' l',Hid (l'=l++news)→l'.length≤l.length+m→OwnI w' B a' c' l'→(∀B' A,B'≤B→Below B' A W→Below B' A w')→(∀g,g<W.heap.size→iE av g→w'.heap[g]?=W.heap[g]?∧iE a' g)→wpList prog ops Q rest (a.put o.dst (.slice a' l'.length c')) w'):wpList prog ops Q (o::rest) a W:=by
 have hm:m=news.length:=by have:=hr.1;simpa using this.symm
 subst hm;refine eU hgd s x 23 3 (.int .i64 0) 1 8 ho bJ lA rfl (by decide) hs hown hx hr (gP _) (by unfold maxLen;omega) (by omega) hB ?_;intro a' c' w' h1 h2 h3;have e:l.length+news.length=(l++news).length:=by simp
 have e2:zo l++zo news=zo (l++news):=by simp
 rw[e,e2]at h1;rw[e];exact h a' c' w' _ (Hd rfl) (by simp) h1 (dM hown h2 hB) (jZ h2 h3)
theorem zJ{W:World}{ops:Array Oper}{rest:List Oper}{o:Oper}{a:Act}{Q:Exit→Act→World→Prop}(hgd:o.guard=none)(s x:Operand)
 (ho:o.op=.call { callee:=.builtin .append,args:=#[s,x],argTypes:=#[23,23] })
 {B:Nat}{av:Option Addr}{cv:Nat}{l:List Int}(hs:a.eval s=.slice av l.length cv)(hown:OwnI W B av cv l)
 {ax:Option Addr}{m c:Nat}{news:List Int}(hx:a.eval x=.slice ax m c)(hr:Row 1 W ax m c (zo news))
 (hbytes:l.length+m≤4398046511104)(hB:B≤W.heap.size)
 (h:∀a' c' w' l',Hid (l'=l++news)→l'.length≤l.length+m→OwnI w' B a' c' l'→(∀B' A,B'≤B→Below B' A W→Below B' A w')→wpList prog ops Q rest (a.put o.dst (.slice a' l'.length c')) w'):wpList prog ops Q (o::rest) a W:=
 zN hgd s x ho hs hown hx hr hbytes hB fun a' c' w' l' h1 h2 h3 h4 _=>h a' c' w' l' h1 h2 h3 h4
theorem zR(w:World)(x:Value)(e:TypeId):Row 1 (w.alloc (.cells #[x] e)) (some ⟨w.heap.size,0,none⟩) 1 1 [x]:=Row.made w [x] e rfl nlr
def idxs(p:Nat→Bool)(k:Nat):List Int:=((List.range k).filter p).map Int.ofNat
theorem uC(p:Nat→Bool)(k:Nat):idxs p (k+1)=idxs p k++(if p k then [(k:Int)]else []):=by
 unfold idxs;rw[List.range_succ,List.filter_append,List.map_append];congr 1;cases h:p k<;>simp[List.filter_cons,h]
theorem kZ{p:Nat→Bool}{k:Nat}(h:p k=true):idxs p (k+1)=idxs p k++[(k:Int)]:=by rw[uC,if_pos h]
theorem iK{p:Nat→Bool}{k:Nat}(h:p k=false):idxs p (k+1)=idxs p k:=by rw[uC,if_neg (by rw[h];exact Bool.false_ne_true),List.append_nil]
theorem aP(p:Nat→Bool)(k:Nat):(idxs p k).length≤k:=by
 unfold idxs;rw[List.length_map];exact Nat.le_trans (List.length_filter_le _ _) (by simp)
def mUp(n:Nat)(v:Value):Nat:=if intOf v<0 then 0 else n+1-(intOf v).toNat
theorem pI{n:Nat}{m p:Int}(h0:0≤m)(hm:m<n)(h:0≤p→m<p):mUp n (intV p)<mUp n (intV m):=by
 have e:∀x:Int,mUp n (intV x)=if x<0 then 0 else n+1-x.toNat:=fun _=>rfl;rw[e,e];split<;>split<;>omega
abbrev boxT(w:World)(v:TreeV)(t:Tr):World:=w.alloc (.cells #[.slice v.na t.nodes.length v.nc,.slice v.ia t.items.length v.ic] 25)
theorem boxed{w wr:World}{v:TreeV}{t:Tr}(hb:Below (w.heap.size+1) (boxT w v t) wr)(h:IsTree w v t) :
 wr.cell? ⟨w.heap.size,0,none⟩=some (.slice v.na t.nodes.length v.nc)∧wr.cell? ⟨w.heap.size,1,none⟩=some (.slice v.ia t.items.length v.ic)∧IsTree wr v t∧(w.heap.size+1≤wr.heap.size∧w.heap.size<wr.heap.size∧w.heap.size≤wr.heap.size)∧Below w.heap.size w wr:=by
 have hs:=hb.size;simp only[World.size_alloc]at hs;have hw:Below w.heap.size w wr:=((Below.refl _ w).alloc nlr _).trans (hb.mono (by simp));have hb':Below (boxT w v t).heap.size (boxT w v t) wr:=by simpa using hb
 obtain⟨hc,_⟩:=bcell hb';exact⟨(hc _ _ (by simp)).trans (by simp),(hc _ _ (by simp)).trans (by simp),h.mono hw nlr,⟨hs,by omega,by omega⟩,hw⟩
theorem boxT_below{w:World}{v:TreeV}{t:Tr}:Below w.heap.size w (boxT w v t):=(Below.refl _ w).alloc nlr _
abbrev boxD(w:World)(ka:Option Addr)(kc:Nat)(d:Nd):World:=w.alloc (.cells #[.int .u8 d.kind,strV d.text,intV d.n,.slice ka d.kids.length kc,intV d.pos] 52)
theorem aF{w wr:World}{v:TreeV}{t:Tr}{ka:Option Addr}{kc:Nat}{d:Nd}(hb:Below (w.heap.size+1+1) (boxD (boxT w v t) ka kc d) wr)(h:IsTree w v t) :
 (wr.cell? ⟨w.heap.size,0,none⟩=some (.slice v.na t.nodes.length v.nc)∧wr.cell? ⟨w.heap.size,1,none⟩=some (.slice v.ia t.items.length v.ic)) ∧
 (wr.cell? ⟨w.heap.size+1,0,none⟩=some (.int .u8 d.kind)∧wr.cell? ⟨w.heap.size+1,1,none⟩=some (strV d.text)∧wr.cell? ⟨w.heap.size+1,2,none⟩=some (intV d.n)∧wr.cell? ⟨w.heap.size+1,3,none⟩=some (.slice ka d.kids.length kc)) ∧
 IsTree wr v t∧(w.heap.size+1+1≤wr.heap.size∧w.heap.size<wr.heap.size∧w.heap.size≤wr.heap.size∧w.heap.size+1<wr.heap.size)∧Below w.heap.size w wr:=by
 have hs:=hb.size;simp only[World.size_alloc]at hs;have h1:Below (w.heap.size+1) (boxT w v t) wr:=(brf.alloc (by simp) _).trans (hb.mono (by omega));obtain⟨l1,l2,l3,⟨l4,l5,l6⟩,l7⟩:=boxed h1 h;have hb':Below (boxD (boxT w v t) ka kc d).heap.size (boxD (boxT w v t) ka kc d) wr:=by simpa using hb
 obtain⟨hc,_⟩:=bcell hb';have e1:(boxD (boxT w v t) ka kc d).cell? ⟨w.heap.size+1,0,none⟩=some (.int .u8 d.kind):=by simp
 have e2:(boxD (boxT w v t) ka kc d).cell? ⟨w.heap.size+1,1,none⟩=some (strV d.text):=by simp
 have e3:(boxD (boxT w v t) ka kc d).cell? ⟨w.heap.size+1,2,none⟩=some (intV d.n):=by simp
 have e4:(boxD (boxT w v t) ka kc d).cell? ⟨w.heap.size+1,3,none⟩=some (.slice ka d.kids.length kc):=by simp
 exact⟨⟨l1,l2⟩,⟨(hc _ _ (by simp)).trans e1,(hc _ _ (by simp)).trans e2,(hc _ _ (by simp)).trans e3,(hc _ _ (by simp)).trans e4⟩,l3,⟨hs,l5,l6,by omega⟩,l7⟩
def hasS(l:List (List UInt8))(s:List UInt8):Bool:=l.contains s
def lM(n:Int):Bool:=decide (97≤n)&&decide (n≤122)
def kW(n:Int):Bool:=decide (48≤n)&&decide (n≤57)
def iW(c:UInt8):Bool:=lM (c.toNat:Int)
def zK(c:UInt8):Bool:=kW (c.toNat:Int)
def bH(c:UInt8):Bool:=iW c||zK c
def zS:List (List UInt8):=[[97,110,100],[97,115,107],[98,108,97,109,101],[98,111,111,108],[98,111,117,110,100,115],[99,104,111,111,115,101],[99,111,117,110,116],[101,108,115,101],[102,97,108,115,101],[102,117,110],[105,102],[105,110],[105,110,116],[108,101,116],[108,111,111,107],[109,97,121],[109,117,115,116],[110,111,116],[111,98,115,101,114,118,101],[111,114],[114,101,116,114,97,99,116],[116,104,101,110],[116,114,117,101],[116,121,112,101],[117,112,116,111],[118,97,108,117,101,115],[119,104,121]]
def signsL:List (List UInt8):=[[61,61],[33,61],[60,61],[62,61],[46,46],[43],[45],[42],[47],[37],[60],[62],[61],[40],[41],[91],[93],[123],[125],[44],[58],[59],[46]]
def numB(l:List UInt8):Bool:=decide (l.length≤4)&&(decide (l.length=1)||l.head? != some 48)
def tokF(s:List UInt8):Int×List UInt8:=
 match s with
 | []=>(0,[])
 | c::_=>
   if iW c then (if hasS zS (s.takeWhile bH)then (3,s.takeWhile bH)else if (s.takeWhile bH).length≤12 then (1,s.takeWhile bH)else (0,[]))
   else if zK c then (if numB (s.takeWhile zK)then (2,s.takeWhile zK)else (0,[]))
   else match signsL.find? (fun g=>g.isPrefixOf s)with
    |some g=>(4,g)
    |none=>(0,[])
def zQ(s:List UInt8):Bool:=(tokF s).1==1&&(tokF s).2==s
def twl(p:UInt8→Bool)(l:List UInt8):Nat:=(l.takeWhile p).length
theorem jT(p:UInt8→Bool)(l:List UInt8):twl p l≤l.length:=(List.takeWhile_sublist p).length_le
theorem pY(p:UInt8→Bool):∀l:List UInt8,l.take (twl p l)=l.takeWhile p
 | []=>rfl
 | c::l=>by
   unfold twl;rw[List.takeWhile_cons];split
   ·show(c::l).take ((l.takeWhile p).length+1)=_
    rw[List.take_succ_cons];exact congrArg _ (pY p l)
   ·rfl
theorem NR(p:UInt8→Bool):∀(l:List UInt8) (k:Nat) (hk:k<l.length),k<twl p l→p l[k]=true
 | c::l,0,_,h=>by
   unfold twl at h;rw[List.takeWhile_cons]at h;split at h
   ·rename_i hc;exact hc
   ·simp at h
 | c::l,k+1,hk,h=>by
   unfold twl at h;rw[List.takeWhile_cons]at h;split at h
   ·exact NR p l k (by simpa using hk) (by unfold twl;simp at h;omega)
   ·simp at h
theorem LG(p:UInt8→Bool):∀(l:List UInt8) (hk:twl p l<l.length),p (l[twl p l]'hk)=false
 | c::l,hk=>by
   cases hc:p c with
   | true=>
     have e:twl p (c::l)=twl p l+1:=by unfold twl;rw[List.takeWhile_cons,if_pos hc];rfl
     have hk':twl p l<l.length:=by rw[e]at hk;simpa using hk
     have:=LG p l hk';simp only[e,List.getElem_cons_succ];exact this
   | false=>
     have e:twl p (c::l)=0:=by unfold twl;rw[List.takeWhile_cons,if_neg (by rw[hc];exact Bool.false_ne_true)];rfl
     simp only[e,List.getElem_cons_zero];exact hc
theorem iY{p:UInt8→Bool}{l:List UInt8}{k:Nat}(hk:k<l.length)(h:k≤twl p l)(hp:p l[k]=true):k+1≤twl p l:=by
 by_cases e:k=twl p l
 ·subst e
  have:=LG p l hk;rw[hp]at this;cases this
 ·omega
theorem pX{p:UInt8→Bool}{l:List UInt8}{k:Nat}(hk:k<l.length)(h:k≤twl p l)(hp:p l[k]=false):k=twl p l:=by
 by_cases e:k=twl p l
 ·exact e
 ·have:=NR p l k hk (by omega)
  rw[hp]at this;cases this
@[go_sem] theorem bytes_extract (l:List UInt8) (i j:Nat):(⟨l.toArray⟩:ByteArray).extract i j=⟨((l.take j).drop i).toArray⟩:=by
 apply ByteArray.ext;simp[ByteArray.data_extract,List.drop_take]
abbrev KP(l:List (List UInt8)):List Value:=l.map strV
abbrev Strs(w:World)(a:Option Addr)(c:Nat)(l:List (List UInt8)):Prop:=Row 1 w a l.length c (KP l)
theorem Strs.at{w:World}{a:Option Addr}{c:Nat}{l:List (List UInt8)}(h:Strs w a c l){i:Nat}(hi:i<l.length):∃b o,a=some ⟨b,o,none⟩∧b<w.heap.size∧w.cell? ⟨b,o+i,none⟩=some (strV l[i]):=by
 obtain⟨b,o,rfl,hb,hc⟩:=h.some (by omega);exact⟨b,o,rfl,hb,by rw[hc i (by simpa using hi)];simp⟩
def lV(w:World)(l:List (List UInt8))(e:Ending)(w':World):Prop:=∃a c,e=.returned (.slice a l.length c)∧Strs w' a c l∧Below w.heap.size w w'
theorem wR(n:Int)(w:World):Calls prog 180 #[.int .u8 n] w fun e w'=>e=.returned (.bool (lM n))∧w=w':=by
 go_enter func180,ntmps180;go_wp2
 all_goals
  go_ret;refine⟨za ?_,rfl⟩
  (try simp_all[lM])<;>(try omega)
theorem AQ(n:Int)(w:World):Calls prog 181 #[.int .u8 n] w fun e w'=>e=.returned (.bool (kW n))∧w=w':=by
 go_enter func181,ntmps181;go_wp2
 all_goals
  go_ret;refine⟨za ?_,rfl⟩
  (try simp_all[kW])<;>(try omega)
theorem cH(w:World):Calls prog 183 #[] w (lV w zS):=by
 go_enter func183,ntmps183;go_wp2;go_ret;exact⟨_,_,rfl,Row.made w (KP zS) _ rfl nlr,brf.alloc nlr _⟩
theorem AR(w:World):Calls prog 184 #[] w (lV w signsL):=by
 go_enter func184,ntmps184;go_wp2;go_ret;exact⟨_,_,rfl,Row.made w (KP signsL) _ rfl nlr,brf.alloc nlr _⟩
theorem JB{l:List (List UInt8)}{k:Nat}{s:List UInt8}(h:k<l.length):hasS (l.take (k+1)) s=(hasS (l.take k) s||s==l[k]):=by
 unfold hasS;rw[List.take_succ_eq_append_getElem h];simp only[List.contains_append,List.contains_cons,List.contains_nil,Bool.or_false]
theorem lU(a:Option Addr)(c:Nat)(l:List (List UInt8))(s:List UInt8)(w:World)(hm:l.length≤140737488355328)(h:Strs w a c l) :
 Calls prog 182 #[.slice a l.length c,strV s] w fun e w'=>e=.returned (.bool (hasS l s))∧w=w':=by
 have HR:=Hd h;clear h;go_enter func182,ntmps182;go_wp2
 go_loop [5] (fun i=>∃k:Nat,k≤l.length∧i=.int .i64 k∧Hid (hasS (l.take k) s=false)) (fun i=>l.length-(intOf i).toNat)
 case atStart=>exact⟨0,Nat.zero_le _,rfl,Hd rfl⟩
 case round=>
  obtain⟨k,hk,rfl,HA⟩:=hrel;by_cases hlt:k<l.length
  ·obtain⟨b,o,rfl,hb,hc⟩:=HR.out.at hlt
   have HS:=Hd (JB (s:=s) hlt)
   cases he:l[k]==s with
   | true=>
     have HE:=Hd he;go_wp2;go_ret;refine⟨za ?_,rfl⟩;have e:l[k]=s:=by simpa using HE.out
     rw[←e];simp[hasS]
   | false=>
     have HE:=Hd he;go_wp2
     go_round
     case rel=>exact⟨k+1,by omega,by go_num,Hd (by rw[HS.out,HA.out,BEq.comm,HE.out];rfl)⟩
     case measure=>simp[intOf];omega
  ·go_wp2
   go_ret;refine⟨za ?_,rfl⟩;have:=HA.out;rw[List.take_of_length_le (by omega)]at this;exact this.symm
structure Tk where
 kind:Int
 text:List UInt8
 pos:Int
deriving DecidableEq
structure PE where
 toks:List Tk
 fin:Int
structure PS where
 next:Nat
 nodes:List Nd
deriving DecidableEq
def wIf:List UInt8:=[105,102]
def OM:List UInt8:=[116,104,101,110]
def OL:List UInt8:=[101,108,115,101]
def wLet:List UInt8:=[108,101,116]
def wIn:List UInt8:=[105,110]
def wOr:List UInt8:=[111,114]
def wAnd:List UInt8:=[97,110,100]
def wNot:List UInt8:=[110,111,116]
def NX:List UInt8:=[116,114,117,101]
def LH:List UInt8:=[102,97,108,115,101]
def wInt:List UInt8:=[105,110,116]
def NW:List UInt8:=[98,111,111,108]
def CB:List UInt8:=[117,112,116,111]
def iB:List UInt8:=[44]
def pT:List UInt8:=[45]
def rT:List UInt8:=[58]
def OI:List UInt8:=[46,46]
def sEq:List UInt8:=[61]
def xR:List UInt8:=[123]
def FR:List UInt8:=[125]
def FQ:List UInt8:=[40]
def pU:List UInt8:=[41]
def iR:List UInt8:=[91]
def sR:List UInt8:=[93]
def MO:List UInt8:=[59]
def sDot:List UInt8:=[46]
def MV:List UInt8:=[48]
def xY:List UInt8:=[99,104,111,111,115,101]
def MU:List UInt8:=[116,121,112,101]
def wFun:List UInt8:=[102,117,110]
def sW:List UInt8:=[111,98,115,101,114,118,101]
def sX:List UInt8:=[114,101,116,114,97,99,116]
def wAsk:List UInt8:=[97,115,107]
def zi(E:PE)(s:PS):Tk:=E.toks.getD s.next ⟨0,[],E.fin⟩
def isTk(t:Tk)(l:List (List UInt8)):Bool:=(t.kind==3||t.kind==4)&&l.contains t.text
def isP(E:PE)(s:PS)(x:List UInt8):Bool:=isTk (zi E s) [x]
def PS.take(s:PS):PS:={ s with next:=s.next+1 }
abbrev PR(α:Type):=Except Int α
def bU(E:PE)(s:PS)(x:List UInt8):PR PS:=if isP E s x then .ok s.take else .error (zi E s).pos
def bE(E:PE)(s:PS)(k:Int):PR PS:=if (zi E s).kind==k then .ok s.take else .error (zi E s).pos
def addP(s:PS)(kind:Int)(own:Tk)(text:List UInt8)(n:Int)(kids:List Int):PS:={ s with nodes:=s.nodes++[⟨kind,text,n,kids,own.pos⟩] }
def valP(l:List UInt8):Int:=l.foldl (fun a c=>a*10+((c.toNat:Int)-48)) 0
abbrev RdP:=PS→PR (Int×PS)
def mD(rd:RdP)(E:PE):Nat→List Int→PS→PR (List Int×PS)
 |0,l,s=>.ok (l,s)
 |f+1,l,s=>if isP E s iB then (rd s.take).bind fun r=>mD rd E f (l++[r.1]) r.2 else .ok (l,s)
def iN(rd:RdP)(E:PE)(s:PS):PR (List Int×PS):=(rd s).bind fun r=>mD rd E (E.toks.length+1) [r.1] r.2
def dV(below:RdP)(E:PE)(kinds:List UInt8→Int)(once:Bool):Nat→Int→RdP
 |0,a,s=>.ok (a,s)
 | f+1,a,s=>
   if kinds (zi E s).text==0 then .ok (a,s)
   else (below s.take).bind fun r=>
    let s':=addP r.2 (kinds (zi E s).text) (zi E s) [] 0 [a,r.1]
    if once then .ok (r.2.nodes.length,s')else dV below E kinds once f r.2.nodes.length s'
def bC(below:RdP)(E:PE)(kinds:List UInt8→Int)(once:Bool)(s:PS):PR (Int×PS):=(below s).bind fun r=>dV below E kinds once (E.toks.length+1) r.1 r.2
def iP(expr:RdP)(E:PE):Nat→Int→RdP
 |0,a,s=>.ok (a,s)
 | f+1,a,s=>
   if isP E s sDot then (bE E s.take 1).bind fun s1=>iP expr E f s1.nodes.length (addP s1 22 (zi E s) (zi E s.take).text 0 [a])
   else if isP E s iR then (expr s.take).bind fun r=>(bU E r.2 sR).bind fun s2=>iP expr E f s2.nodes.length (addP s2 23 (zi E s) [] 0 [a,r.1])
   else .ok (a,s)
def orK(x:List UInt8):Int:=if x=wOr then 18 else 0
def andK(x:List UInt8):Int:=if x=wAnd then 17 else 0
def cmpK(x:List UInt8):Int:=if x=[61,61]then 11 else if x=[33,61]then 12 else if x=[60]then 13 else if x=[60,61]then 14 else if x=[62]then 15 else if x=[62,61]then 16 else 0
def sumK(x:List UInt8):Int:=if x=[43]then 6 else if x=[45]then 7 else 0
def sT(x:List UInt8):Int:=if x=[42]then 8 else if x=[47]then 9 else if x=[37]then 10 else 0
def addR(s:PS)(kind:Int)(own:Tk)(text:List UInt8)(n:Int)(kids:List Int):PR (Int×PS):=.ok (s.nodes.length,addP s kind own text n kids)
inductive NT|expr|or|and|not|cmp|sum|term|unary|postf|atom|kindOf|param|put
deriving DecidableEq
def rL(expr put:RdP)(E:PE)(nm:Tk)(s:PS):PR (Int×PS):=
 if isP E s FQ then
  (if isP E s.take pU then .ok ([],s.take)else iN expr E s.take).bind fun r=>(bU E r.2 pU).bind fun s2=>addR s2 21 nm nm.text 0 r.1
 else if isP E s xR then (iN put E s.take).bind fun r=>(bU E r.2 FR).bind fun s2=>addR s2 24 nm nm.text 0 r.1
 else addR s 3 nm nm.text 0 []
def AT(expr put:RdP)(E:PE)(s:PS):PR (Int×PS):=
 if (zi E s).kind==2 then addR s.take 1 (zi E s) [] (valP (zi E s).text) []
 else if isP E s NX then addR s.take 2 (zi E s) [] 1 []
 else if isP E s LH then addR s.take 2 (zi E s) [] 0 []
 else if isP E s FQ then (expr s.take).bind fun r=>(bU E r.2 pU).bind fun s2=>.ok (r.1,s2)
 else if isP E s iR then (iN expr E s.take).bind fun r=>(bU E r.2 sR).bind fun s2=>addR s2 26 (zi E s) [] 0 r.1
 else (bE E s 1).bind fun s1=>rL expr put E (zi E s) s1
def mC(kindOf:RdP)(E:PE)(s:PS):PR (Int×PS):=
 if isP E s wInt then addR s.take 30 (zi E s) [] 0 []
 else if isP E s NW then addR s.take 31 (zi E s) [] 0 []
 else if isP E s iR then (kindOf s.take).bind fun r=>(bU E r.2 MO).bind fun s2=>(bE E s2 2).bind fun s3=>(bU E s3 sR).bind fun s4=>addR s4 33 (zi E s) [] (valP (zi E s2).text) [r.1]
 else (bE E s 1).bind fun s1=>addR s1 32 (zi E s) (zi E s).text 0 []
def uS(kindOf:RdP)(E:PE)(s:PS):PR (Int×PS):=
 (bE E s 1).bind fun s1=>(bU E s1 rT).bind fun s2=>(kindOf s2).bind fun r=>addR r.2 34 (zi E s) (zi E s).text 0 [r.1]
def putP(expr:RdP)(E:PE)(s:PS):PR (Int×PS):=
 (bE E s 1).bind fun s1=>(bU E s1 rT).bind fun s2=>(expr s2).bind fun r=>addR r.2 25 (zi E s) (zi E s).text 0 [r.1]
def BG(expr or:RdP)(E:PE)(s:PS):PR (Int×PS):=
 if isP E s wIf then
  (expr s.take).bind fun a=>(bU E a.2 OM).bind fun s2=>(expr s2).bind fun b=>(bU E b.2 OL).bind fun s4=>(expr s4).bind fun c=>addR c.2 19 (zi E s) [] 0 [a.1,b.1,c.1]
 else if isP E s wLet then
  (bE E s.take 1).bind fun s1=>(bU E s1 sEq).bind fun s2=>(expr s2).bind fun a=>(bU E a.2 wIn).bind fun s4=>(expr s4).bind fun c=>addR c.2 20 (zi E s) (zi E s.take).text 0 [a.1,c.1]
 else or s
def jU(nt:Int)(x:List UInt8)(self below:RdP)(E:PE)(s:PS):PR (Int×PS):=
 if isP E s x then (self s.take).bind fun a=>addR a.2 nt (zi E s) [] 0 [a.1]else below s
def zV(E:PE):Nat→NT→RdP
 |0,_,_=>.error 0
 |f+1,.expr,s=>BG (zV E f .expr) (zV E f .or) E s
 |f+1,.or,s=>bC (zV E f .and) E orK false s
 |f+1,.and,s=>bC (zV E f .not) E andK false s
 |f+1,.not,s=>jU 5 wNot (zV E f .not) (zV E f .cmp) E s
 |f+1,.cmp,s=>bC (zV E f .sum) E cmpK true s
 |f+1,.sum,s=>bC (zV E f .term) E sumK false s
 |f+1,.term,s=>bC (zV E f .unary) E sT false s
 |f+1,.unary,s=>jU 4 pT (zV E f .unary) (zV E f .postf) E s
 |f+1,.postf,s=>(zV E f .atom s).bind fun r=>iP (zV E f .expr) E (E.toks.length+1) r.1 r.2
 |f+1,.atom,s=>AT (zV E f .expr) (zV E f .put) E s
 |f+1,.kindOf,s=>mC (zV E f .kindOf) E s
 |f+1,.param,s=>uS (zV E f .kindOf) E s
 |f+1,.put,s=>putP (zV E f .expr) E s
def gO(E:PE)(s:PS):PR (Int×PS):=
 if isP E s pT then (bE E s.take 2).bind fun s1=>addR s1 1 (zi E s) [] (-1*valP (zi E s.take).text) []
 else (bE E s 2).bind fun s1=>addR s1 1 (zi E s) [] (1*valP (zi E s).text) []
def jX(E:PE)(own:Tk)(s:PS):PR (Int×PS):=
 (bE E s 1).bind fun s1=>(bU E s1 rT).bind fun s2=>(gO E s2).bind fun a=>(bU E a.2 OI).bind fun s4=>(gO E s4).bind fun b=>addR b.2 40 own (zi E s).text 0 [a.1,b.1]
def kD(param:RdP)(E:PE)(own:Tk)(s:PS):PR (Int×PS):=
 (bE E s 1).bind fun s1=>(bU E s1 sEq).bind fun s2=>(bU E s2 xR).bind fun s3=>(iN param E s3).bind fun l=>(bU E l.2 FR).bind fun s5=>addR s5 41 own (zi E s).text 0 l.1
def sV(E:PE)(s:PS):PR (Int×PS):=
 if isP E s CB then (if (zi E s.take).text=MV then .error (zi E s.take).pos else (bE E s.take 2).bind fun s1=>.ok (valP (zi E s.take).text,s1))else .ok (0,s)
def eY(param kindOf expr:RdP)(E:PE)(own:Tk)(s:PS):PR (Int×PS):=
 (bE E s 1).bind fun s1=>(bU E s1 FQ).bind fun s2=>(if isP E s2 pU then .ok ([],s2)else iN param E s2).bind fun l=>(bU E l.2 pU).bind fun s4=>(bU E s4 rT).bind fun s5=>
  (kindOf s5).bind fun k=>(sV E k.2).bind fun u=>(bU E u.2 sEq).bind fun s8=>(expr s8).bind fun e=>addR e.2 42 own (zi E s).text u.1 (l.1++[k.1]++[e.1])
def letP(expr:RdP)(E:PE)(own:Tk)(s:PS):PR (Int×PS):=
 (bE E s 1).bind fun s1=>(bU E s1 sEq).bind fun s2=>(expr s2).bind fun e=>addR e.2 43 own (zi E s).text 0 [e.1]
def lH(expr:RdP)(E:PE)(own:Tk)(s:PS):PR (Int×PS):=
 (bE E s 1).bind fun s1=>(bU E s1 rT).bind fun s2=>(expr s2).bind fun e=>addR e.2 44 own (zi E s).text 0 [e.1]
def gR(E:PE)(own:Tk)(s:PS):PR (Int×PS):=(bE E s 1).bind fun s1=>addR s1 45 own (zi E s).text 0 []
def fO(x:List UInt8):Int:=
 if x=[109,117,115,116]then 1 else if x=[109,97,121]then 2 else if x=[99,111,117,110,116]then 3 else if x=[98,111,117,110,100,115]then 4
 else if x=[118,97,108,117,101,115]then 5 else if x=[119,104,121]then 6 else if x=[98,108,97,109,101]then 7 else if x=[108,111,111,107]then 8 else 0
def wT(expr:RdP)(E:PE)(own:Tk)(s:PS):PR (Int×PS):=
 if fO (zi E s).text==0 then .error (zi E s).pos
 else (if fO (zi E s).text==7 then .ok ([],s.take)else if fO (zi E s).text==8 then iN expr E s.take else (expr s.take).bind fun e=>.ok ([e.1],e.2)).bind fun l=>
  addR l.2 46 own [] (fO (zi E s).text) l.1
def MA(E:PE):Nat:=16*E.toks.length+32
def rdP(E:PE)(nt:NT):RdP:=zV E (MA E) nt
def pD(E:PE)(s:PS):PR (Int×PS):=
 if (zi E s).kind != 3 then .error (zi E s).pos
 else if (zi E s).text=xY then jX E (zi E s) s.take
 else if (zi E s).text=MU then kD (rdP E .param) E (zi E s) s.take
 else if (zi E s).text=wFun then eY (rdP E .param) (rdP E .kindOf) (rdP E .expr) E (zi E s) s.take
 else if (zi E s).text=wLet then letP (rdP E .expr) E (zi E s) s.take
 else if (zi E s).text=sW then lH (rdP E .expr) E (zi E s) s.take
 else if (zi E s).text=sX then gR E (zi E s) s.take
 else if (zi E s).text=wAsk then wT (rdP E .expr) E (zi E s) s.take
 else .error (zi E s).pos
def bA(E:PE):Nat→List Int→PS→PR (List Int×PS)
 |0,l,s=>.ok (l,s)
 |f+1,l,s=>if s.next<E.toks.length then (pD E s).bind fun r=>(bU E r.2 MO).bind fun s2=>bA E f (l++[r.1]) s2 else .ok (l,s)
def nG(E:PE):PR Tr:=(bA E (E.toks.length+1) [] ⟨0,[]⟩).map fun r=>⟨r.2.nodes,r.1⟩
def lQ(c:UInt8):Bool:=c==10||decide (32≤c.toNat)&&decide (c.toNat≤126)
def eV(s:List UInt8):Int×Int:=
 if 2000<s.length then (2000,5)else match s.findIdx? (fun c=>!lQ c)with
  |some i=>(i,4)
  |none=>(0,0)
def gapB(c:UInt8):Bool:=c==32||c==10
def bL:Bool→List UInt8→Nat
 |_,[]=>0
 |true,c::l=>if c==10 then bL false l+1 else bL true l+1
 |false,c::l=>if gapB c then bL false l+1 else if c==35 then bL true l+1 else 0
def mI(s:List UInt8):Nat→Nat→List Tk→Except (Int×Int) (List Tk)
 |0,_,l=>.ok l
 | f+1,at_,l=>
   if at_<s.length then
    let r:=tokF (s.drop at_)
    if r.1==0 then .error (at_,4)else if l.length=800 then .error (at_,5)
    else mI s f (at_+r.2.length+bL false (s.drop (at_+r.2.length))) (l++[⟨r.1,r.2,at_⟩])
   else .ok l
def mJ(s:List UInt8):Except (Int×Int) (List Tk):=if (eV s).2 != 0 then .error (eV s)else mI s (s.length+1) (bL false s) []
def uV(s:List UInt8):Except (Int×Int) Tr:=
 match mJ s with
 |.error e=>.error e
 | .ok l=>match nG ⟨l,s.length⟩with
   |.error p=>.error (p,4)
   |.ok t=>.ok t
theorem bind_ok{ε α β:Type}{x:Except ε α}{g:α→Except ε β}{r:β}:x.bind g=.ok r↔∃v,x=.ok v∧g v=.ok r:=by
 cases x with
 |error e=>simp[Except.bind]
 |ok v=>simp[Except.bind]
structure NdOk (E:PE) (i:Nat) (d:Nd):Prop where
 kid:∀k∈d.kids,0≤k∧k<(i:Int)
 kids:d.kids.length≤E.toks.length+2
 n : -9999≤d.n∧d.n≤9999
 kind:1≤d.kind∧d.kind≤46
 text:d.text=[]∨∃t∈E.toks,d.text=t.text
 choose:d.kind=40→∃k0 k1,d.kids=[k0,k1]
structure Adv (E:PE) (k:Nat) (s s':PS):Prop where
 next:s.next≤s'.next
 le:s'.next≤E.toks.length
 pre:∃l,s'.nodes=s.nodes++l∧l.length+k≤s'.next-s.next
 ok:∀i d,s.nodes.length≤i→s'.nodes[i]?=some d→NdOk E i d
theorem Adv.refl{E:PE}{s:PS}(h:s.next≤E.toks.length):Adv E 0 s s:=
 ⟨nlr,h,⟨[],by simp,by simp⟩,fun i d hi hd=>by rw[List.getElem?_eq_none hi]at hd;cases hd⟩
theorem Adv.len{E:PE}{k:Nat}{s s':PS}(h:Adv E k s s'):s.nodes.length≤s'.nodes.length∧s'.nodes.length+k+s.next≤s.nodes.length+s'.next:=by
 obtain⟨h1,h2,⟨l,h3,h4⟩,h5⟩:=h;rw[h3,List.length_append];omega
theorem Adv.trans{E:PE}{k j:Nat}{a b c:PS}(h:Adv E k a b)(g:Adv E j b c):Adv E (k+j) a c:=by
 obtain⟨h1,h2,⟨l,h3,h4⟩,h5⟩:=h;obtain⟨g1,g2,⟨m,g3,g4⟩,g5⟩:=g;refine⟨by omega,g2,⟨l++m,by rw[g3,h3,List.append_assoc],by rw[List.length_append];omega⟩,fun i d hi hd=>?_⟩;by_cases hb:b.nodes.length≤i
 ·exact g5 i d hb hd
 ·refine h5 i d hi ?_
  rw[g3,List.getElem?_append_left (by omega)]at hd;exact hd
theorem Adv.less{E:PE}{k j:Nat}{a b:PS}(h:Adv E k a b)(hj:j≤k):Adv E j a b:=by
 obtain⟨h1,h2,⟨l,h3,h4⟩,h5⟩:=h;exact⟨h1,h2,⟨l,h3,by omega⟩,h5⟩
theorem Adv.take{E:PE}{k:Nat}{a b:PS}(h:Adv E k a b)(hb:b.next<E.toks.length):Adv E (k+1) a b.take:=by
 obtain⟨h1,h2,⟨l,h3,h4⟩,h5⟩:=h;refine⟨?_,?_,⟨l,h3,?_⟩,h5⟩<;>simp only[PS.take]<;>omega
theorem Adv.add{E:PE}{k:Nat}{a b:PS}{kind:Int}{own:Tk}{text:List UInt8}{n:Int}{kids:List Int}(h:Adv E (k+1) a b)(ok:NdOk E b.nodes.length ⟨kind,text,n,kids,own.pos⟩) :
 Adv E k a (addP b kind own text n kids):=by
 obtain⟨h1,h2,⟨l,h3,h4⟩,h5⟩:=h;refine⟨h1,h2,⟨l++[⟨kind,text,n,kids,own.pos⟩],by simp[addP,h3],by simp[addP];omega⟩,fun i d hi hd=>?_⟩;simp only[addP]at hd;by_cases hb:i<b.nodes.length
 ·rw[List.getElem?_append_left hb]at hd
  exact h5 i d hi hd
 ·rw[List.getElem?_append_right (by omega)]at hd
  by_cases he:i-b.nodes.length=0
  ·rw[he]at hd
   simp only[List.length_singleton,Nat.lt_add_one,List.getElem?_eq_getElem,List.getElem_cons_zero,Option.some.injEq]at hd;subst hd;have:i=b.nodes.length:=by omega
   subst this;exact ok
  ·rw[List.getElem?_eq_none (by simp;omega)]at hd
   cases hd
structure Rd (E:PE) (s:PS) (a:Int) (s':PS):Prop where
 adv:Adv E 0 s s'
 more:s.next<s'.next
 lo:(s.nodes.length:Int)≤a
 hi:a<(s'.nodes.length:Int)
def lW(E:PE):Prop:=∀t∈E.toks,t.kind=2→0≤valP t.text∧valP t.text≤9999
theorem iO{E:PE}{s:PS}(h:E.toks.length≤s.next):zi E s=⟨0,[],E.fin⟩:=by
 unfold zi;rw[List.getD_eq_getElem?_getD,List.getElem?_eq_none h];rfl
theorem dI{E:PE}{s:PS}(h:s.next<E.toks.length):zi E s∈E.toks:=by
 unfold zi;rw[List.getD_eq_getElem?_getD,List.getElem?_eq_getElem h];exact List.getElem_mem h
theorem eE{E:PE}{s:PS}{x:List UInt8}(h:isP E s x=true):s.next<E.toks.length:=by
 apply Classical.byContradiction;intro hn;unfold isP isTk at h;rw[iO (by omega)]at h;simp at h
theorem pF{E:PE}{s:PS}{k:Int}(hk:k≠0)(h:(zi E s).kind=k):s.next<E.toks.length:=by
 apply Classical.byContradiction;intro hn;rw[iO (by omega)]at h;exact hk h.symm
theorem aQ{E:PE}{s s':PS}{x:List UInt8}(h:bU E s x=.ok s'):s'=s.take∧s.next<E.toks.length:=by
 unfold bU at h;split at h
 ·rename_i hi
  exact⟨(Except.ok.inj h).symm,eE hi⟩
 ·cases h
theorem bF{E:PE}{s s':PS}{k:Int}(hk:k≠0)(h:bE E s k=.ok s'):s'=s.take∧s.next<E.toks.length∧(zi E s).kind=k:=by
 unfold bE at h;split at h
 ·rename_i hi
  have hi:=eq_of_beq hi;exact⟨(Except.ok.inj h).symm,pF hk hi,hi⟩
 ·cases h
theorem aO{s s':PS}{a kind n:Int}{own:Tk}{text:List UInt8}{kids:List Int}(h:addR s kind own text n kids=.ok (a,s')):a=s.nodes.length∧s'=addP s kind own text n kids:=by
 unfold addR at h;simpa[eq_comm]using Except.ok.inj h
theorem bZ{E:PE}{s b:PS}{kind n:Int}{own:Tk}{text:List UInt8}{kids:List Int}(h:Adv E 1 s b)(ok:NdOk E b.nodes.length ⟨kind,text,n,kids,own.pos⟩):Rd E s b.nodes.length (addP b kind own text n kids):=by
 have hl:=h.len;refine⟨h.add ok,?_,?_,?_⟩
 ·simp only[addP];omega
 ·omega
 ·simp[addP];omega
theorem ndok{E:PE}{i:Nat}{kind n:Int}{text:List UInt8}{kids:List Int}{pos:Int}(h1:∀k∈kids,0≤k∧k<(i:Int))(h2:kids.length≤E.toks.length+2)(h3 : -9999≤n∧n≤9999)(h4:1≤kind∧kind≤46)
 (h5:text=[]∨∃t∈E.toks,text=t.text)(h6:kind=40→∃k0 k1,kids=[k0,k1]):NdOk E i ⟨kind,text,n,kids,pos⟩:=⟨h1,h2,h3,h4,h5,h6⟩
def Good1(E:PE)(rd:RdP):Prop:=∀s a s',s.next≤E.toks.length→rd s=.ok (a,s')→Rd E s a s'
theorem yK{E:PE}{rd:RdP}(g:Good1 E rd):∀(f:Nat) (l:List Int) (s:PS) (l':List Int) (s':PS),s.next≤E.toks.length→(∀k∈l,0≤k∧k<(s.nodes.length:Int))→mD rd E f l s=.ok (l',s') →
 Adv E 0 s s'∧(∀k∈l',0≤k∧k<(s'.nodes.length:Int))∧l'.length+s.next≤l.length+s'.next
 | 0,l,s,l',s',hs,hl,h=>by
   simp only[mD,Except.ok.injEq,Prod.mk.injEq]at h;obtain⟨rfl,rfl⟩:=h;exact⟨Adv.refl hs,hl,nlr⟩
 | f+1,l,s,l',s',hs,hl,h=>by
   rw[mD]at h;split at h
   ·rename_i hi
    obtain⟨⟨a,b⟩,h1,h2⟩:=bind_ok.1 h;have hlt:=eE hi;have r:=g s.take a b (by simp only[PS.take];omega) h1;have hb:=r.adv.len
    obtain⟨h3,h4,h5⟩:=yK g f _ b l' s' r.adv.le (by
     intro k hk;rcases List.mem_append.1 hk with hk|hk
     ·have:=hl k hk
      simp only[PS.take]at hb;omega
     ·obtain rfl:=List.mem_singleton.1 hk
      have:=r.lo
      exact⟨by omega,r.hi⟩) h2
    have hm:=r.more;simp only[PS.take]at hm;refine⟨(((Adv.refl hs).take hlt).trans (r.adv.trans h3)).less (by omega),h4,?_⟩;simp only[List.length_append,List.length_singleton]at h5;omega
   ·simp only[Except.ok.injEq,Prod.mk.injEq]at h
    obtain⟨rfl,rfl⟩:=h;exact⟨Adv.refl hs,hl,nlr⟩
theorem jH{E:PE}{rd:RdP}(g:Good1 E rd){s:PS}{l':List Int}{s':PS}(hs:s.next≤E.toks.length)(h:iN rd E s=.ok (l',s')) :
 Adv E 0 s s'∧(∀k∈l',0≤k∧k<(s'.nodes.length:Int))∧l'.length+s.next≤s'.next:=by
 unfold iN at h;obtain⟨⟨a,b⟩,h1,h2⟩:=bind_ok.1 h;have r:=g s a b hs h1;have hl:=r.lo
 obtain⟨h3,h4,h5⟩:=yK g _ _ b l' s' r.adv.le (by
  intro k hk;obtain rfl:=List.mem_singleton.1 hk
  exact⟨by omega,r.hi⟩) h2
 have:=r.more;refine⟨(r.adv.trans h3).less (by omega),h4,?_⟩;simp only[List.length_singleton]at h5;omega
theorem fN{E:PE}{s:PS}{kinds:List UInt8→Int}(h0:kinds []=0)(h:(kinds (zi E s).text==0)=false):s.next<E.toks.length:=by
 apply Classical.byContradiction;intro hn;rw[iO (by omega)]at h;simp[h0]at h
theorem uL{E:PE}{below:RdP}{kinds:List UInt8→Int}{once:Bool}(g:Good1 E below)(h0:kinds []=0)(hk:∀x,kinds x=0∨1≤kinds x∧kinds x≤18):∀(f:Nat) (a:Int) (s:PS) (a':Int) (s':PS),
 s.next≤E.toks.length→0≤a→a<(s.nodes.length:Int)→dV below E kinds once f a s=.ok (a',s')→Adv E 0 s s'∧a≤a'∧a'<(s'.nodes.length:Int)
 | 0,a,s,a',s',hs,ha,hb,h=>by
   simp only[dV,Except.ok.injEq,Prod.mk.injEq]at h;obtain⟨rfl,rfl⟩:=h;exact⟨Adv.refl hs,Int.le_refl _,hb⟩
 | f+1,a,s,a',s',hs,ha,hb,h=>by
   rw[dV]at h;cases hz:(kinds (zi E s).text==0)with
   | true=>
     rw[if_pos hz]at h;simp only[Except.ok.injEq,Prod.mk.injEq]at h;obtain⟨rfl,rfl⟩:=h;exact⟨Adv.refl hs,Int.le_refl _,hb⟩
   | false=>
     rw[if_neg (by rw[hz];exact Bool.false_ne_true)]at h;obtain⟨⟨b,c⟩,h1,h2⟩:=bind_ok.1 h;have hlt:=fN h0 hz;have r:=g s.take b c (by simp only[PS.take];omega) h1;have hcl:=r.adv.len;have hm:=r.more;have hlo:=r.lo;have hhi:=r.hi;simp only[PS.take]at hm hcl hlo;have hkk:=(hk (zi E s).text).resolve_left (by simpa using hz)
     have had:Adv E 0 s (addP c (kinds (zi E s).text) (zi E s) [] 0 [a,b]):=by
      refine Adv.add ((((Adv.refl hs).take hlt).trans r.adv).less (by omega)) (ndok ?_ (by simp) (by omega) (by omega) (.inl rfl) (by omega));intro k hk;simp only[List.mem_cons,List.not_mem_nil,or_false]at hk;rcases hk with rfl|rfl<;>omega
     simp only at h2;split at h2
     ·simp only[Except.ok.injEq,Prod.mk.injEq]at h2
      obtain⟨rfl,rfl⟩:=h2;exact⟨had,by omega,by simp[addP];omega⟩
     ·obtain⟨h3,h4,h5⟩:=uL g h0 hk f _ _ a' s' had.le (by omega) (by simp[addP];omega) h2
      exact⟨(had.trans h3).less (by omega),by omega,h5⟩
theorem iM{E:PE}{below:RdP}{kinds:List UInt8→Int}{once:Bool}(g:Good1 E below)(h0:kinds []=0)(hk:∀x,kinds x=0∨1≤kinds x∧kinds x≤18):Good1 E (bC below E kinds once):=by
 intro s a s' hs h;unfold bC at h;obtain⟨⟨b,c⟩,h1,h2⟩:=bind_ok.1 h;have r:=g s b c hs h1;have hm:=r.more;have hlo:=r.lo;obtain⟨h3,h4,h5⟩:=uL g h0 hk _ _ c a s' r.adv.le (by omega) r.hi h2;exact⟨(r.adv.trans h3).less (by omega),by have:=h3.next;omega,by omega,h5⟩
theorem eL{E:PE}{s:PS}(h:s.next<E.toks.length):∃t∈E.toks,(zi E s).text=t.text:=⟨_,dI h,rfl⟩
theorem sP{E:PE}{expr:RdP}(g:Good1 E expr):∀(f:Nat) (a:Int) (s:PS) (a':Int) (s':PS),
 s.next≤E.toks.length→0≤a→a<(s.nodes.length:Int)→iP expr E f a s=.ok (a',s')→Adv E 0 s s'∧a≤a'∧a'<(s'.nodes.length:Int)
 | 0,a,s,a',s',hs,ha,hb,h=>by
   simp only[iP,Except.ok.injEq,Prod.mk.injEq]at h;obtain⟨rfl,rfl⟩:=h;exact⟨Adv.refl hs,Int.le_refl _,hb⟩
 | f+1,a,s,a',s',hs,ha,hb,h=>by
   rw[iP]at h;split at h
   ·rename_i hi
    have hlt:=eE hi;obtain⟨s1,h1,h2⟩:=bind_ok.1 h;obtain⟨rfl,hlt1,-⟩:=bF (by decide) h1
    have had:Adv E 0 s (addP s.take.take 22 (zi E s) (zi E s.take).text 0 [a]):=by
     refine Adv.add ((((Adv.refl hs).take hlt).take hlt1).less (by omega)) (ndok ?_ (by simp) (by omega) (by omega) (.inr (eL hlt1)) (by omega));intro k hk;obtain rfl:=List.mem_singleton.1 hk;simp only[PS.take];omega
    obtain⟨h3,h4,h5⟩:=sP g f _ _ a' s' had.le (by omega) (by simp[addP];omega) h2;exact⟨(had.trans h3).less (by omega),by simp only[PS.take]at h4;omega,h5⟩
   ·split at h
    ·rename_i hi
     have hlt:=eE hi;obtain⟨⟨b,c⟩,h1,h2⟩:=bind_ok.1 h;obtain⟨s2,h6,h7⟩:=bind_ok.1 h2;obtain⟨rfl,hlt2⟩:=aQ h6;have r:=g s.take b c (by simp only[PS.take];omega) h1;have hcl:=r.adv.len;have hm:=r.more;have hlo:=r.lo;have hhi:=r.hi;simp only[PS.take]at hm hcl hlo
     have had:Adv E 0 s (addP c.take 23 (zi E s) [] 0 [a,b]):=by
      refine Adv.add (((((Adv.refl hs).take hlt).trans r.adv).take hlt2).less (by omega)) (ndok ?_ (by simp) (by omega) (by omega) (.inl rfl) (by omega));intro k hk;simp only[List.mem_cons,List.not_mem_nil,or_false]at hk;simp only[PS.take];rcases hk with rfl|rfl<;>omega
     obtain⟨h3,h4,h5⟩:=sP g f _ _ a' s' had.le (by omega) (by simp[addP];omega) h7;exact⟨(had.trans h3).less (by omega),by simp only[PS.take]at h4;omega,h5⟩
    ·simp only[Except.ok.injEq,Prod.mk.injEq]at h
     obtain⟨rfl,rfl⟩:=h;exact⟨Adv.refl hs,Int.le_refl _,hb⟩
theorem bT{i:Nat}:∀k∈([]:List Int),0≤k∧k<(i:Int):=fun _ h=>by cases h
theorem lC{i:Nat}{a:Int}(h0:0≤a)(h1:a<i):∀k∈[a],0≤k∧k<(i:Int):=fun _ h=>by
 obtain rfl:=List.mem_singleton.1 h;exact⟨h0,h1⟩
theorem EU{E:PE}{expr put:RdP}(ge:Good1 E expr)(gp:Good1 E put){nm:Tk}(hnm:nm∈E.toks){s0 s:PS}(ad:Adv E 1 s0 s){a:Int}{s':PS}(h:rL expr put E nm s=.ok (a,s')):Rd E s0 a s':=by
 have hs:=ad.le;unfold rL at h;split at h
 ·rename_i hi
  have hlt:=eE hi;obtain⟨⟨l,c⟩,h1,h2⟩:=bind_ok.1 h;obtain⟨s2,h3,h4⟩:=bind_ok.1 h2;obtain⟨rfl,hlt2⟩:=aQ h3;obtain⟨rfl,rfl⟩:=aO h4
  obtain⟨k1,k2,k3⟩:Adv E 0 s.take c∧(∀k∈l,0≤k∧k<(c.nodes.length:Int))∧l.length+s.take.next≤c.next:=by
   split at h1
   ·simp only[Except.ok.injEq,Prod.mk.injEq]at h1
    obtain⟨rfl,rfl⟩:=h1;exact⟨Adv.refl (by simp only[PS.take];omega),bT,by simp⟩
   ·exact jH ge (by simp only[PS.take];omega) h1
  have hl:=k1.le;exact bZ ((((ad.take hlt).trans k1).take hlt2).less (by omega)) (ndok (by simpa[PS.take]using k2) (by dsimp only;omega) (by omega) (by omega) (.inr ⟨nm,hnm,rfl⟩) (by omega))
 ·split at h
  ·rename_i hi
   have hlt:=eE hi;obtain⟨⟨l,c⟩,h1,h2⟩:=bind_ok.1 h;obtain⟨s2,h3,h4⟩:=bind_ok.1 h2;obtain⟨rfl,hlt2⟩:=aQ h3;obtain⟨rfl,rfl⟩:=aO h4;obtain⟨k1,k2,k3⟩:=jH gp (by simp only[PS.take];omega) h1;have hl:=k1.le;exact bZ ((((ad.take hlt).trans k1).take hlt2).less (by omega)) (ndok (by simpa[PS.take]using k2) (by dsimp only;omega) (by omega) (by omega) (.inr ⟨nm,hnm,rfl⟩) (by omega))
  ·obtain⟨rfl,rfl⟩:=aO h
   exact bZ ad (ndok bT (by simp) (by omega) (by omega) (.inr ⟨nm,hnm,rfl⟩) (by omega))
theorem IP{E:PE}(tk:lW E){expr put:RdP}(ge:Good1 E expr)(gp:Good1 E put):Good1 E (AT expr put E):=by
 intro s a s' hs h;unfold AT at h;split at h
 ·rename_i hk
  have hk:=eq_of_beq hk;have hlt:=pF (by decide) hk;obtain⟨rfl,rfl⟩:=aO h;have hv:=tk _ (dI hlt) hk;exact bZ ((Adv.refl hs).take hlt) (ndok bT (by simp) (by omega) (by omega) (.inl rfl) (by omega))
 ·split at h
  ·rename_i hi
   obtain⟨rfl,rfl⟩:=aO h;exact bZ ((Adv.refl hs).take (eE hi)) (ndok bT (by simp) (by omega) (by omega) (.inl rfl) (by omega))
  ·split at h
   ·rename_i hi
    obtain⟨rfl,rfl⟩:=aO h;exact bZ ((Adv.refl hs).take (eE hi)) (ndok bT (by simp) (by omega) (by omega) (.inl rfl) (by omega))
   ·split at h
    ·rename_i hi
     have hlt:=eE hi;obtain⟨⟨b,c⟩,h1,h2⟩:=bind_ok.1 h;obtain⟨s2,h3,h4⟩:=bind_ok.1 h2;obtain⟨rfl,hlt2⟩:=aQ h3;simp only[Except.ok.injEq,Prod.mk.injEq]at h4;obtain⟨rfl,rfl⟩:=h4;have r:=ge s.take b c (by simp only[PS.take];omega) h1;have hm:=r.more;have hlo:=r.lo;have hhi:=r.hi;simp only[PS.take]at hm hlo;exact⟨((((Adv.refl hs).take hlt).trans r.adv).take hlt2).less (by omega),by simp only[PS.take];omega,hlo,hhi⟩
    ·split at h
     ·rename_i hi
      have hlt:=eE hi;obtain⟨⟨l,c⟩,h1,h2⟩:=bind_ok.1 h;obtain⟨s2,h3,h4⟩:=bind_ok.1 h2;obtain⟨rfl,hlt2⟩:=aQ h3;obtain⟨rfl,rfl⟩:=aO h4;obtain⟨k1,k2,k3⟩:=jH ge (by simp only[PS.take];omega) h1;have hl:=k1.le;exact bZ (((((Adv.refl hs).take hlt).trans k1).take hlt2).less (by omega)) (ndok (by simpa[PS.take]using k2) (by dsimp only;omega) (by omega) (by omega) (.inl rfl) (by omega))
     ·obtain⟨s1,h1,h2⟩:=bind_ok.1 h
      obtain⟨rfl,hlt,-⟩:=bF (by decide) h1;exact EU ge gp (dI hlt) ((Adv.refl hs).take hlt) h2
theorem BN{E:PE}(tk:lW E){kindOf:RdP}(g:Good1 E kindOf):Good1 E (mC kindOf E):=by
 intro s a s' hs h;unfold mC at h;split at h
 ·rename_i hi
  obtain⟨rfl,rfl⟩:=aO h;exact bZ ((Adv.refl hs).take (eE hi)) (ndok bT (by simp) (by omega) (by omega) (.inl rfl) (by omega))
 ·split at h
  ·rename_i hi
   obtain⟨rfl,rfl⟩:=aO h;exact bZ ((Adv.refl hs).take (eE hi)) (ndok bT (by simp) (by omega) (by omega) (.inl rfl) (by omega))
  ·split at h
   ·rename_i hi
    have hlt:=eE hi;obtain⟨⟨b,c⟩,h1,h2⟩:=bind_ok.1 h;obtain⟨s2,h3,h4⟩:=bind_ok.1 h2;obtain⟨rfl,hlt2⟩:=aQ h3;obtain⟨s3,h5,h6⟩:=bind_ok.1 h4;obtain⟨rfl,hlt3,hk3⟩:=bF (by decide) h5;obtain⟨s4,h7,h8⟩:=bind_ok.1 h6;obtain⟨rfl,hlt4⟩:=aQ h7;obtain⟨rfl,rfl⟩:=aO h8;have r:=g s.take b c (by simp only[PS.take];omega) h1;have hm:=r.more;have hlo:=r.lo;have hhi:=r.hi;have hv:=tk _ (dI hlt3) hk3;exact bZ (((((((Adv.refl hs).take hlt).trans r.adv).take hlt2).take hlt3).take hlt4).less (by omega)) (ndok (lC (by omega) (by simpa[PS.take]using hhi)) (by simp) (by omega) (by omega) (.inl rfl) (by omega))
   ·obtain⟨s1,h1,h2⟩:=bind_ok.1 h
    obtain⟨rfl,hlt,-⟩:=bF (by decide) h1;obtain⟨rfl,rfl⟩:=aO h2;exact bZ ((Adv.refl hs).take hlt) (ndok bT (by simp) (by omega) (by omega) (.inr (eL hlt)) (by omega))
theorem yF{E:PE}{rd:RdP}(g:Good1 E rd){k:Int}(hk:1≤k∧k≤39):Good1 E (fun s=>(bE E s 1).bind fun s1=>(bU E s1 rT).bind fun s2=>(rd s2).bind fun r=>addR r.2 k (zi E s) (zi E s).text 0 [r.1]):=by
 intro s a s' hs h;obtain⟨s1,h1,h2⟩:=bind_ok.1 h;obtain⟨rfl,hlt,-⟩:=bF (by decide) h1;obtain⟨s2,h3,h4⟩:=bind_ok.1 h2;obtain⟨rfl,hlt2⟩:=aQ h3;obtain⟨⟨b,c⟩,h5,h6⟩:=bind_ok.1 h4;obtain⟨rfl,rfl⟩:=aO h6;have r:=g s.take.take b c (by simp only[PS.take]at hlt2⊢;omega) h5;have hlo:=r.lo;have hhi:=r.hi;exact bZ (((((Adv.refl hs).take hlt).take hlt2).trans r.adv).less (by omega)) (ndok (lC (by omega) hhi) (by simp) (by omega) (by omega) (.inr (eL hlt)) (by omega))
theorem IX{E:PE}{expr or:RdP}(g:Good1 E expr)(go:Good1 E or):Good1 E (BG expr or E):=by
 intro s a s' hs h;unfold BG at h;split at h
 ·rename_i hi
  have hlt:=eE hi;obtain⟨⟨b,c⟩,h1,h2⟩:=bind_ok.1 h;obtain⟨s2,h3,h4⟩:=bind_ok.1 h2;obtain⟨rfl,hlt2⟩:=aQ h3;obtain⟨⟨d,e⟩,h5,h6⟩:=bind_ok.1 h4;obtain⟨s4,h7,h8⟩:=bind_ok.1 h6;obtain⟨rfl,hlt4⟩:=aQ h7;obtain⟨⟨f,i⟩,h9,h10⟩:=bind_ok.1 h8;obtain⟨rfl,rfl⟩:=aO h10;have r:=g s.take b c (by simp only[PS.take];omega) h1;have r2:=g c.take d e (by simp only[PS.take]at hlt2⊢;omega) h5;have r3:=g e.take f i (by simp only[PS.take]at hlt4⊢;omega) h9;have l1:=r.adv.len;have l2:=r2.adv.len;have l3:=r3.adv.len;have a1:=r.lo;have a2:=r2.lo;have a3:=r3.lo;have b1:=r.hi;have b2:=r2.hi;have b3:=r3.hi;simp only[PS.take]at l1 l2 l3 a1 a2 a3;refine bZ (((((((Adv.refl hs).take hlt).trans r.adv).take hlt2).trans r2.adv).take hlt4).trans r3.adv |>.less (by omega)) (ndok ?_ (by simp;omega) (by omega) (by omega) (.inl rfl) (by omega));intro k hk;simp only[List.mem_cons,List.not_mem_nil,or_false]at hk;simp only;rcases hk with rfl|rfl|rfl<;>omega
 ·split at h
  ·rename_i hi
   have hlt:=eE hi;obtain⟨s1,h1,h2⟩:=bind_ok.1 h;obtain⟨rfl,hlt1,-⟩:=bF (by decide) h1;obtain⟨s2,h3,h4⟩:=bind_ok.1 h2;obtain⟨rfl,hlt2⟩:=aQ h3;obtain⟨⟨b,c⟩,h5,h6⟩:=bind_ok.1 h4;obtain⟨s4,h7,h8⟩:=bind_ok.1 h6;obtain⟨rfl,hlt4⟩:=aQ h7;obtain⟨⟨f,i⟩,h9,h10⟩:=bind_ok.1 h8;obtain⟨rfl,rfl⟩:=aO h10;have r:=g s.take.take.take b c (by simp only[PS.take]at hlt2⊢;omega) h5;have r3:=g c.take f i (by simp only[PS.take]at hlt4⊢;omega) h9;have l1:=r.adv.len;have l3:=r3.adv.len;have a1:=r.lo;have a3:=r3.lo;have b1:=r.hi;have b3:=r3.hi;simp only[PS.take]at l1 l3 a1 a3;refine bZ (((((((Adv.refl hs).take hlt).take hlt1).take hlt2).trans r.adv).take hlt4).trans r3.adv |>.less (by omega)) (ndok ?_ (by simp) (by omega) (by omega) (.inr (eL hlt1)) (by omega));intro k hk;simp only[List.mem_cons,List.not_mem_nil,or_false]at hk;simp only;rcases hk with rfl|rfl<;>omega
  ·exact go s a s' hs h
theorem vL{E:PE}{self below:RdP}(g:Good1 E self)(gb:Good1 E below){nt:Int}(hn:1≤nt∧nt≤39){x:List UInt8}:Good1 E (jU nt x self below E):=by
 intro s a s' hs h;unfold jU at h;split at h
 ·rename_i hi
  have hlt:=eE hi;obtain⟨⟨b,c⟩,h1,h2⟩:=bind_ok.1 h;obtain⟨rfl,rfl⟩:=aO h2;have r:=g s.take b c (by simp only[PS.take];omega) h1;have hlo:=r.lo;exact bZ ((((Adv.refl hs).take hlt).trans r.adv).less (by omega)) (ndok (lC (by omega) r.hi) (by simp) (by omega) (by omega) (.inl rfl) (by omega))
 ·exact gb s a s' hs h
theorem NL(x:List UInt8):orK x=0∨1≤orK x∧orK x≤18:=by unfold orK;split<;>omega
theorem LP(x:List UInt8):andK x=0∨1≤andK x∧andK x≤18:=by unfold andK;split<;>omega
theorem LT(x:List UInt8):cmpK x=0∨1≤cmpK x∧cmpK x≤18:=by
 unfold cmpK
 repeat' split
 all_goals omega
theorem MQ(x:List UInt8):sumK x=0∨1≤sumK x∧sumK x≤18:=by
 unfold sumK
 repeat' split
 all_goals omega
theorem KQ(x:List UInt8):sT x=0∨1≤sT x∧sT x≤18:=by
 unfold sT
 repeat' split
 all_goals omega
theorem uU{E:PE}(tk:lW E):∀(f:Nat) (nt:NT),Good1 E (zV E f nt)
 |0,nt=>fun s a s' _ h=>by simp[zV]at h
 | f+1,nt=>by
   have IH:=uU tk f
   cases nt with
   |expr=>exact fun s a s' hs h=>IX (IH .expr) (IH .or) s a s' hs (by rwa[zV]at h)
   |or=>exact fun s a s' hs h=>iM (IH .and) (by decide) NL s a s' hs (by rwa[zV]at h)
   |and=>exact fun s a s' hs h=>iM (IH .not) (by decide) LP s a s' hs (by rwa[zV]at h)
   |not=>exact fun s a s' hs h=>vL (nt:=5) (x:=wNot) (IH .not) (IH .cmp) (by omega) s a s' hs (by rwa[zV]at h)
   |cmp=>exact fun s a s' hs h=>iM (IH .sum) (by decide) LT s a s' hs (by rwa[zV]at h)
   |sum=>exact fun s a s' hs h=>iM (IH .term) (by decide) MQ s a s' hs (by rwa[zV]at h)
   |term=>exact fun s a s' hs h=>iM (IH .unary) (by decide) KQ s a s' hs (by rwa[zV]at h)
   |unary=>exact fun s a s' hs h=>vL (nt:=4) (x:=pT) (IH .unary) (IH .postf) (by omega) s a s' hs (by rwa[zV]at h)
   | postf=>
     intro s a s' hs h;rw[zV]at h;obtain⟨⟨b,c⟩,h1,h2⟩:=bind_ok.1 h;have r:=IH .atom s b c hs h1;have hlo:=r.lo;have hm:=r.more;obtain⟨h3,h4,h5⟩:=sP (IH .expr) _ b c a s' r.adv.le (by omega) r.hi h2;exact⟨(r.adv.trans h3).less (by omega),by have:=h3.next;omega,by omega,h5⟩
   |atom=>exact fun s a s' hs h=>IP tk (IH .expr) (IH .put) s a s' hs (by rwa[zV]at h)
   |kindOf=>exact fun s a s' hs h=>BN tk (IH .kindOf) s a s' hs (by rwa[zV]at h)
   |param=>exact fun s a s' hs h=>yF (IH .kindOf) (k:=34) (by omega) s a s' hs (by rwa[zV,uS]at h)
   |put=>exact fun s a s' hs h=>yF (IH .expr) (k:=25) (by omega) s a s' hs (by rwa[zV,putP]at h)
def hasI(l:List Int)(n:Int):Bool:=l.contains n
theorem EJ{l:List Int}{k:Nat}{n:Int}(h:k<l.length):hasI (l.take (k+1)) n=(hasI (l.take k) n||n==l[k]):=by
 unfold hasI;rw[List.take_succ_eq_append_getElem h];simp only[List.contains_append,List.contains_cons,List.contains_nil,Bool.or_false]
theorem MB{l:List Int}{k:Nat}(h:k<l.length):hasI l l[k]=true:=by
 unfold hasI;simp
theorem dP(a:Option Addr)(c:Nat)(l:List Int)(n:Int)(w:World)(hm:l.length≤140737488355328)(h:Ints w a c l) :
 Calls prog 70 #[.slice a l.length c,intV n] w fun e w'=>e=.returned (.bool (hasI l n))∧w=w':=by
 have HR:=Hd h;clear h;go_enter func70,ntmps70;go_wp2
 go_loop [5] (fun i=>∃k:Nat,k≤l.length∧i=.int .i64 k∧Hid (hasI (l.take k) n=false)) (fun i=>l.length-(intOf i).toNat)
 case atStart=>exact⟨0,Nat.zero_le _,rfl,Hd rfl⟩
 case round=>
  obtain⟨k,hk,rfl,HA⟩:=hrel;by_cases hlt:k<l.length
  ·obtain⟨b,o,rfl,hb,hc⟩:=HR.out.at hlt
   have HS:=Hd (EJ (n:=n) hlt);by_cases he:l[k]=n
   ·have he':(l[k]==n)=true:=by simpa using he
    go_wp2;go_ret;have:=MB hlt;rw[he]at this;exact⟨za this.symm,rfl⟩
   ·have he':(l[k]==n)=false:=by simpa using he
    go_wp2
    go_round
    case rel=>exact⟨k+1,by omega,by go_num,Hd (by rw[HS.out,HA.out];simpa using fun h=>he h.symm)⟩
    case measure=>simp[intOf];omega
  ·go_wp2
   go_ret;refine⟨za ?_,rfl⟩;have:=HA.out;rw[List.take_of_length_le (by omega)]at this;exact this.symm
def eZ(ns:List Nd)(node:Int)(i:Nat):Bool:=hasI ((ns[i]?.map (·.kids)).getD []) node
def iI(p:Nat→Bool)(n:Nat):Nat→Nat→Int
 |_,0=>-1
 |k,f+1=>if k<n then (if p k then (k:Int)else iI p n (k+1) f)else -1
def first(p:Nat→Bool)(n k:Nat):Int:=iI p n k (n-k)
theorem aE{p:Nat→Bool}{n k:Nat}(hk:k<n)(h:p k=true):first p n k=k:=by
 unfold first;rw[show n-k=(n-k-1)+1 by omega,iI,if_pos hk,if_pos h]
theorem bR{p:Nat→Bool}{n k:Nat}(hk:k<n)(h:p k=false):first p n k=first p n (k+1):=by
 unfold first;rw[show n-k=(n-(k+1))+1 by omega,iI,if_pos hk,if_neg (by rw[h];exact Bool.false_ne_true)]
theorem bB{p:Nat→Bool}{n k:Nat}(hk:n≤k):first p n k = -1:=by
 unfold first;rw[show n-k=0 by omega,iI]
theorem dT{p:Nat→Bool}{n:Nat}:∀(f k:Nat),n-k≤f→0≤first p n k→∃m:Nat,first p n k=m∧k≤m∧m<n∧p m=true
 |0,k,h,hp=>by rw[bB (by omega)]at hp;omega
 | f+1,k,h,hp=>by
   by_cases hk:k<n
   ·cases hpk:p k with
    |true=>exact⟨k,aE hk hpk,nlr,hk,hpk⟩
    | false=>
      rw[bR hk hpk]at hp⊢;obtain⟨m,h1,h2,h3,h4⟩:=dT f (k+1) (by omega) hp;exact⟨m,h1,by omega,h3,h4⟩
   ·rw[bB (by omega)]at hp;omega
theorem nI{p:Nat→Bool}{n:Nat}:∀(f k:Nat),n-k≤f → -1≤first p n k
 |0,k,h=>by rw[bB (by omega)];omega
 | f+1,k,h=>by
   by_cases hk:k<n
   ·cases hpk:p k with
    |true=>rw[aE hk hpk];omega
    |false=>rw[bR hk hpk];exact nI f (k+1) (by omega)
   ·rw[bB (by omega)];omega
def parent(t:Tr)(node:Int):Int:=first (eZ t.nodes node) t.nodes.length (node+1).toNat
theorem fC(t:Tr)(n:Int) : -1≤parent t n:=nI _ _ nlr
theorem bO(t:Tr)(i:Nat)(h:0≤parent t i):∃p:Nat,parent t i=p∧p<t.nodes.length:=by
 obtain⟨m,h1,_,h3,_⟩:=dT _ _ nlr h;exact⟨m,h1,h3⟩
theorem fD(t:Tr)(i:Nat)(h:0≤parent t i):(i:Int)<parent t i:=by
 obtain⟨m,h1,h2,h3,_⟩:=dT _ _ nlr h;unfold parent;rw[h1];omega
theorem bD(v:TreeV)(t:Tr)(node:Int)(w:World)(bd:Bd t)(hn : -1≤node)(hn2:node≤1000000)(h:IsTree w v t) :
 Calls prog 64 #[v.val t,intV node] w fun e w'=>e=.returned (intV (parent t node))∧Below w.heap.size w w':=by
 have HR:=Hd h;have HK:=Hd bd.k;have hm:=bd.n;clear h bd;unfold TreeV.val;go_enter func64,ntmps64;go_wp2
 go_loop [5] (fun i=>∃k:Nat,i=.int .i64 k∧k≤1000001∧Hid (parent t node=first (eZ t.nodes node) t.nodes.length k)) (fun i=>1000002-(intOf i).toNat)
 case atStart=>exact⟨(node+1).toNat,by rw[Int.toNat_of_nonneg (by omega)],by omega,Hd rfl⟩
 case round=>
  obtain⟨k,rfl,hk3,HA⟩:=hrel;by_cases hlt:k<t.nodes.length
  ·obtain⟨b,o,ka,kc,ea,hb,c0,c1,c2,c3,c4,hkr⟩:=HR.out.nodes.at hlt
   have hkl:t.nodes[k].kids.length≤1000000:=HK.out _ (List.getElem_mem _);have HKR:=Hd hkr;have hip:eZ t.nodes node k=hasI t.nodes[k].kids node:=by simp[eZ,hlt]
   have HIP:=Hd hip;clear hkr hip;obtain⟨na,nc,ia,ic⟩:=v;simp only at ea;subst ea
   cases hp:hasI t.nodes[k].kids node with
   | true=>
     have HP:=Hd hp;clear hp
     go_wp2_with (go_at_call 70;refine(dP _ _ t.nodes[k].kids _ _ (by omega) (Row.mono HKR.out (brf.alloc nlr _) nlr)).mono ?_;rw[HP.out];rintro e w' ⟨rfl,rfl⟩)
     go_ret;exact⟨zr (by rw[HA.out,aE hlt (HIP.out.trans HP.out)]),brf.alloc nlr _⟩
   | false=>
     have HP:=Hd hp;clear hp
     go_wp2_with (go_at_call 70;refine(dP _ _ t.nodes[k].kids _ _ (by omega) (Row.mono HKR.out (brf.alloc nlr _) nlr)).mono ?_;rw[HP.out];rintro e w' ⟨rfl,rfl⟩)
     go_round
     case rel=>exact⟨k+1,by go_num,by omega,Hd (by rw[HA.out,bR hlt (HIP.out.trans HP.out)])⟩
     case measure=>simp[intOf];omega
  ·go_wp2
   go_ret;exact⟨zr (by rw[HA.out,bB (by omega)]),brf.alloc nlr _⟩
def nd0:Nd:=⟨0,[],0,[],0⟩
def Tr.nd(t:Tr)(i:Int):Nd:=t.nodes.getD i.toNat nd0
theorem Tr.nd_at(t:Tr){k:Nat}(h:k<t.nodes.length):t.nd (k:Int)=t.nodes[k]:=by simp[Tr.nd,h]
def BB(k:Int):Bool:=k==40||k==41||k==42||k==43||k==44||k==20
def aH(k:Int):Bool:=decide (1≤k)&&decide (k≤26)&&k != 25
def dW(k:Int):Bool:=k==3||k==21||k==24||k==32||k==45
def suits(n d:Int):Bool:=if n==3 then d==40||d==43||d==20||d==34 else if n==21 then d==42 else if n==45 then d==44 else d==41
def zl(t:Tr)(i:Int):Bool:=BB (t.nd i).kind||(t.nd i).kind==34&&(t.nd (parent t i)).kind==42
def bY(t:Tr)(i:Int):Bool:=hasI t.items i
theorem qY(n d:Int)(w:World) :
 Calls prog 67 #[.int .u8 n,.int .u8 d] w fun e w'=>e=.returned (.bool (suits n d))∧w=w':=by
 go_enter func67,ntmps67;go_wp2
 all_goals
  go_ret;refine⟨za ?_,rfl⟩;simp_all[suits]
theorem gI(v:TreeV)(t:Tr)(i:Nat)(w:World)(bd:Bd t)(hi:i<t.nodes.length)(h:IsTree w v t) :
 Calls prog 93 #[v.val t,intV i] w (zn w (dW t.nodes[i].kind)):=by
 obtain⟨b,o,ka,kc,ea,hb,c0,c1,c2,c3,c4,hkr⟩:=h.nodes.at hi;obtain⟨na,nc,ia,ic⟩:=v;simp only at ea;subst ea;have hn:=bd.n;clear hkr h bd;unfold TreeV.val;go_enter func93,ntmps93;go_wp2
 all_goals
  go_ret;refine⟨za ?_,brf.alloc nlr _⟩;simp_all[dW]
theorem wQ(v:TreeV)(t:Tr)(i:Int)(w:World)(bd:Bd t)(h:IsTree w v t) :
 Calls prog 92 #[v.val t,intV i] w (zn w (bY t i)):=by
 have HI:=Hd h.items;have hn:=bd.i;clear h bd;unfold TreeV.val;go_enter func92,ntmps92
 go_wp2_with (go_at_call 70;refine(dP _ _ t.items _ _ (by omega) (Row.mono HI.out (brf.alloc nlr _) nlr)).mono ?_;rintro e w' ⟨rfl,rfl⟩)
 go_ret;exact⟨rfl,brf.alloc nlr _⟩
theorem eT(v:TreeV)(t:Tr)(i:Nat)(w:World)(bd:Bd t)(hi:i<t.nodes.length)(hp:(t.nd i).kind=34→0≤parent t i)(h:IsTree w v t) :
 Calls prog 24 #[v.val t,intV i] w (zn w (zl t i)):=by
 have hmo:prog.follows .mixedOrders=true:=by kernel_rfl
 have HT:=Hd h;have BD:=Hd bd;obtain⟨b,o,ka,kc,ea,hb,c0,c1,c2,c3,c4,hkr⟩:=h.nodes.at hi;obtain⟨na,nc,ia,ic⟩:=v;simp only at ea;subst ea;have hn:=bd.n;have hnd:=t.nd_at hi;have HND:=Hd hnd;clear hkr h bd hnd;by_cases h34:t.nodes[i].kind=34
 ·have hp':=hp (by rw[HND.out];exact h34)
  obtain⟨p,hpe,hpl⟩:=bO t i hp';have HP:=Hd hpe;obtain⟨b',o',ka',kc',ea',hb',c0',-,-,-,-,-⟩:=HT.out.nodes.at hpl;simp only[Option.some.injEq,Addr.mk.injEq,and_true]at ea';obtain⟨rfl,rfl⟩:=ea';have H34:=Hd h34;clear hp hpe;rw[h34]at c0;have hb1:b<w.heap.size+1:=by omega
  unfold TreeV.val;go_enter func24,ntmps24;go_wp2;refine N.region_JTm 9 hmo (by kernel_rfl) (by kernel_rfl) rfl (by kernel_rfl) (by kernel_rfl) (fun Wz=>Below (w.alloc (.cells #[.slice (some ⟨b,o,none⟩) t.nodes.length nc,.slice ia t.items.length ic] 25)).heap.size (w.alloc (.cells #[.slice (some ⟨b,o,none⟩) t.nodes.length nc,.slice ia t.items.length ic] 25)) Wz) (brf.drew) ?_
  iterate 4 (refine N.WalkT.cons ?_ (N.StepP.pure rfl ?_) ?_;rotate_left;(intro W hJ;obtain⟨hcJ,hfJ⟩:=bcell hJ;go_simp;rfl);simp only[N.pz])
  refine N.WalkT.cons (intV (p:Int)) (N.StepP.call (f:=64) (args:=#[TreeV.val ⟨some ⟨b,o,none⟩,nc,ia,ic⟩ t,intV i]) rfl ?hG1_4 ?cG1_4) ?rG1_4;case hG1_4=>intro W hJ;obtain⟨hcJ,hfJ⟩:=bcell hJ;go_simp;try rfl
  case cG1_4=>intro W hJ;(refine(bD ⟨some ⟨b,o,none⟩,nc,ia,ic⟩ t i W BD.out (by omega) (by omega) (HT.out.mono (((Below.refl _ w).alloc nlr _).trans (hJ.mono (by simp))) nlr)).mono ?_;rintro e w' ⟨rfl,hb2⟩;exact⟨by rw[HP.out],hJ.trans (hb2.mono hJ.size)⟩)
  simp only[N.pz]
  iterate 4 (refine N.WalkT.cons ?_ (N.StepP.pure rfl ?_) ?_;rotate_left;(intro W hJ;obtain⟨hcJ,hfJ⟩:=bcell hJ;go_simp;rfl);simp only[N.pz])
  refine N.WalkT.nil fun W hJ=>?_;go_wp2;go_ret;exact⟨za (by rw[zl,HND.out,H34.out,HP.out,t.nd_at hpl];simp[BB]),((Below.refl _ w).alloc nlr _).trans (hJ.mono (by simp))⟩
 ·unfold TreeV.val
  go_enter func24,ntmps24;go_wp2
  all_goals
   go_ret;refine⟨za ?_,brf.alloc nlr _⟩;rw[zl,HND.out];simp_all[BB]
theorem FS{a b:List Int}(hl:a.length=b.length){k:Nat}(hk:k<a.length)(h:a.take k=b.take k)(he:a[k]=b[k]'(by omega)):a.take (k+1)=b.take (k+1):=by
 rw[List.take_succ_eq_append_getElem hk,List.take_succ_eq_append_getElem (by omega),h,he]
theorem MP{a b:List Int}{k:Nat}(hk:k<a.length)(hk':k<b.length)(he:¬a[k]=b[k]):(a==b)=false:=by
 rw[beq_eq_false_iff_ne];rintro rfl;exact he rfl
theorem zX(a a':Option Addr)(c c':Nat)(l l':List Int)(w:World)(hm:l.length≤140737488355328)(hm':l'.length≤140737488355328)(h:Ints w a c l)(h':Ints w a' c' l') :
 Calls prog 19 #[.slice a l.length c,.slice a' l'.length c'] w (zn w (l==l')):=by
 have HR:=Hd h;have HR':=Hd h';clear h h';by_cases hl:l.length=l'.length
 ·have HL:=Hd hl
  have hl1:((l.length:Int)==(l'.length:Int))=true:=by simp[hl]
  have hl2:((l.length:Int) != (l'.length:Int))=false:=by simp[hl]
  clear hl;go_enter func19,ntmps19;go_wp2
  go_loopw [5] (fun i wr=>∃k:Nat,k≤l.length∧i=.int .i64 k∧Hid (l.take k=l'.take k)∧Hid (Below w.heap.size w wr)) (fun i _=>l.length-(intOf i).toNat)
  case atStart=>exact⟨0,Nat.zero_le _,rfl,Hd rfl,Hd brf⟩
  case round=>
   obtain⟨k,hk,rfl,HA,HB⟩:=hrel;have HR1:=Hd (Row.mono HR.out HB.out nlr);have HR1':=Hd (Row.mono HR'.out HB.out nlr);by_cases hlt:k<l.length
   ·obtain⟨b,o,rfl,hb,hc⟩:=Ints.at HR1.out hlt
    obtain⟨b',o',rfl,hb',hc'⟩:=Ints.at HR1'.out (i:=k) (by have:=HL.out;omega);have hlt':k<l'.length:=by have:=HL.out;omega
    by_cases he:l[k]=l'[k]
    ·have he1:(l[k] != l'[k])=false:=by simp[he]
     have HS:=Hd (FS HL.out hlt HA.out he);clear he;go_wp2
     go_quiet (fail)
     go_wp2
     go_roundw
     case rel=>exact⟨k+1,by omega,by go_num,HS,Hd (below_drewN HB.out _)⟩
     case measure=>simp[intOf];omega
    ·have he1:(l[k] != l'[k])=true:=by simp[he]
     have HE:=Hd he;clear he;go_wp2
     go_quiet (fail)
     go_wp2;go_ret;exact⟨za (MP hlt hlt' HE.out).symm,below_drewN HB.out _⟩
   ·go_wp2
    go_ret;refine⟨za ?_,HB.out⟩;have h1:=HA.out;rw[List.take_of_length_le (by omega),List.take_of_length_le (by have:=HL.out;omega)]at h1;rw[h1];simp
 ·have hl1:((l.length:Int) != (l'.length:Int))=true:=by simp;omega
  have HL:=Hd hl;clear hl;go_enter func19,ntmps19;go_wp2;go_ret;refine⟨za ?_,brf⟩;symm;rw[beq_eq_false_iff_ne];rintro rfl;exact HL.out rfl
def cS(t:Tr)(of:Int):Nat→Int→Bool
 |0,_=>false
 |f+1,n=>if n<0 then false else if n=of then true else cS t of f (parent t n)
def inside(t:Tr)(node of:Int):Bool:=cS t of (t.nodes.length+1) node
theorem mB(t:Tr)(of:Int):∀(f g:Nat) (n:Int),t.nodes.length+1-n.toNat≤f→t.nodes.length+1-n.toNat≤g→n<t.nodes.length→cS t of f n=cS t of g n
 | 0,g,n,h,_,hl=>by
   have:n<0∨0≤n:=by omega
   omega
 |f+1,0,n,_,h,hl=>by omega
 | f+1,g+1,n,h1,h2,hl=>by
   simp only[cS];by_cases hn:n<0
   ·rw[if_pos hn,if_pos hn]
   ·rw[if_neg hn,if_neg hn]
    split
    ·rfl
    ·by_cases hp:0≤parent t n
     ·obtain⟨m,rfl⟩:=Int.eq_ofNat_of_zero_le (show 0≤n by omega)
      obtain⟨p,hp1,hp2⟩:=bO t m hp;have hp3:=fD t m hp;refine mB t of f g _ ?_ ?_ ?_<;>rw[hp1]<;>rw[hp1]at hp3<;>simp at *<;>omega
     ·have hp:parent t n<0:=by omega
      cases f<;>cases g<;>simp[cS,hp]
theorem cT(t:Tr)(of:Int){n:Int}(h:n<t.nodes.length):inside t n of=if n<0 then false else if n=of then true else inside t (parent t n) of:=by
 unfold inside;rw[cS];by_cases hn:n<0
 ·rw[if_pos hn,if_pos hn]
 ·rw[if_neg hn,if_neg hn]
  split
  ·rfl
  ·by_cases hp:0≤parent t n
   ·obtain⟨m,rfl⟩:=Int.eq_ofNat_of_zero_le (show 0≤n by omega)
    obtain⟨p,hp1,hp2⟩:=bO t m hp;have hp3:=fD t m hp;refine mB t of _ _ _ ?_ ?_ ?_<;>rw[hp1]<;>rw[hp1]at hp3<;>simp at *<;>omega
   ·have:parent t n<0:=by omega
    cases hl:t.nodes.length<;>simp[cS,this]
theorem eS(v:TreeV)(t:Tr)(node:Int)(of:Int)(w:World)(bd:Bd t)(hn : -1≤node)(hn2:node<t.nodes.length)(h:IsTree w v t) :
 Calls prog 69 #[v.val t,intV node,intV of] w (zn w (inside t node of)):=by
 have HT:=Hd h;have BD:=Hd bd;have hn3:=bd.n;clear h bd;unfold TreeV.val;go_enter func69,ntmps69;go_wp2
 go_loopw [7] (fun i wr=>∃k:Int,i=.int .i64 k ∧ -1≤k∧k<t.nodes.length∧Hid (inside t node of=inside t k of)∧Hid (Below (w.heap.size+1) (boxT w v t) wr)) (fun i _=>mUp t.nodes.length i)
 case atStart=>exact⟨node,rfl,hn,hn2,Hd rfl,Hd brf⟩
 case round=>
  obtain⟨k,rfl,hk1,hk2,HA,HB⟩:=hrel;have HS:=Hd (cT t of hk2);obtain⟨b0,b1,ht1,⟨hs,hs',hs''⟩,hbw⟩:=boxed HB.out HT.out;have HT1:=Hd ht1;have HW:=Hd hbw;clear ht1 hbw;by_cases hk:0≤k
  ·by_cases he:k=of
   ·have he':(k==of)=true:=by simpa using he
    have HE:=Hd he;clear he;go_wp2;go_ret;exact⟨za (by rw[HA.out,HS.out,if_neg (by omega),if_pos HE.out]),HW.out⟩
   ·have he':(k==of)=false:=by simpa using he
    have HE:=Hd he;obtain⟨m,rfl⟩:=Int.eq_ofNat_of_zero_le hk;have hpl:=fD t m;have hpn:=bO t m;have hpg:=fC t m;have HP:=Hd hpl;have HPN:=Hd hpn;clear he hpl hpn
    go_wp2_with (go_at_call 64;refine(bD v t m _ BD.out (by omega) (by omega) HT1.out).mono ?_;rintro e w' ⟨rfl,hb'⟩)
    go_roundw
    case rel=>
     refine⟨parent t m,rfl,hpg,?_,Hd (by rw[HA.out,HS.out,if_neg (by omega),if_neg HE.out]),Hd (HB.out.trans (hb'.mono hs))⟩;by_cases h0:0≤parent t m
     ·obtain⟨p,hp1,hp2⟩:=HPN.out h0
      omega
     ·omega
    case measure=>exact pI (by omega) hk2 HP.out
  ·go_wp2
   go_ret;exact⟨za (by rw[HA.out,HS.out,if_pos (by omega)]),HW.out⟩
def uses(decl:List Int)(node:Int):List Int:=idxs (fun i=>decl[i]?==some node) decl.length
abbrev boxN(w:World)(a:Option Addr)(c:Nat)(l:List Int):World:=w.alloc (.cells #[.slice a l.length c] 30)
theorem LD{w wr:World}{a:Option Addr}{c:Nat}{l:List Int}(hb:Below (w.heap.size+1) (boxN w a c l) wr)(h:Ints w a c l) :
 wr.cell? ⟨w.heap.size,0,none⟩=some (.slice a l.length c)∧Ints wr a c l∧(w.heap.size+1≤wr.heap.size∧w.heap.size<wr.heap.size∧w.heap.size≤wr.heap.size)∧Below w.heap.size w wr:=by
 have hs:=hb.size;simp only[World.size_alloc]at hs;have hw:Below w.heap.size w wr:=((Below.refl _ w).alloc nlr _).trans (hb.mono (by simp));have hb':Below (boxN w a c l).heap.size (boxN w a c l) wr:=by simpa using hb
 obtain⟨hc,_⟩:=bcell hb';exact⟨(hc _ _ (by simp)).trans (by simp),Row.mono h hw nlr,⟨hs,by omega,by omega⟩,hw⟩
theorem KS:prog.underlying 23=some (.slice (prog.elem 23)):=by kernel_rfl
theorem FW(W:World):(sizeOf (prog.elem 23)).run prog W=.ok 1 W:=by kernel_rfl
structure WF (t:Tr):Prop where
 bd:Bd t
 kid:∀(i:Nat) (h:i<t.nodes.length),∀k∈t.nodes[i].kids,0≤k∧k<(i:Int)
 item:∀k∈t.items,0≤k∧k<(t.nodes.length:Int)
 letK:∀(i:Nat) (h:i<t.nodes.length),t.nodes[i].kind=20→t.nodes[i].kids.length=2
 funK:∀(i:Nat) (h:i<t.nodes.length),t.nodes[i].kind=42→2≤t.nodes[i].kids.length
 par:∀(i:Nat) (h:i<t.nodes.length),t.nodes[i].kind=34→0≤parent t i
def upF{α:Type}(t:Tr)(g:Int→Int→α→α):Nat→Int→Int→α→α×Int
 |0,last,_,acc=>(acc,last)
 |f+1,last,n,acc=>if n<0 then (acc,last)else upF t g f n (parent t n) (g last n acc)
def upw{α:Type}(t:Tr)(g:Int→Int→α→α)(last n:Int)(acc:α):α×Int:=upF t g (t.nodes.length+1) last n acc
theorem GK{α:Type}(t:Tr)(g:Int→Int→α→α):∀(f k:Nat) (last n:Int) (acc:α),t.nodes.length+1-n.toNat≤f→t.nodes.length+1-n.toNat≤k→n<t.nodes.length→upF t g f last n acc=upF t g k last n acc
 |0,k,last,n,acc,h,_,hl=>by omega
 |f+1,0,last,n,acc,_,h,hl=>by omega
 | f+1,k+1,last,n,acc,h1,h2,hl=>by
   simp only[upF];by_cases hn:n<0
   ·rw[if_pos hn,if_pos hn]
   ·rw[if_neg hn,if_neg hn]
    by_cases hp:0≤parent t n
    ·obtain⟨m,rfl⟩:=Int.eq_ofNat_of_zero_le (show 0≤n by omega)
     obtain⟨p,hp1,hp2⟩:=bO t m hp;have hp3:=fD t m hp;refine GK t g f k _ _ _ ?_ ?_ ?_<;>rw[hp1]<;>rw[hp1]at hp3<;>simp at *<;>omega
    ·have hp:parent t n<0:=by omega
     cases f<;>cases k<;>simp[upF,hp]
theorem KU{α:Type}(t:Tr)(g:Int→Int→α→α)(last:Int){n:Int}(acc:α)(h:n<t.nodes.length):upw t g last n acc=if n<0 then (acc,last)else upw t g n (parent t n) (g last n acc):=by
 unfold upw;rw[upF];by_cases hn:n<0
 ·rw[if_pos hn,if_pos hn]
 ·rw[if_neg hn,if_neg hn]
  by_cases hp:0≤parent t n
  ·obtain⟨m,rfl⟩:=Int.eq_ofNat_of_zero_le (show 0≤n by omega)
   obtain⟨p,hp1,hp2⟩:=bO t m hp;have hp3:=fD t m hp;refine GK t g _ _ _ _ _ ?_ ?_ ?_<;>rw[hp1]<;>rw[hp1]at hp3<;>simp at *<;>omega
  ·have:parent t n<0:=by omega
   cases hl:t.nodes.length<;>simp[upF,this]
theorem zD(t:Tr){n:Int}(h:0≤n):parent t n<t.nodes.length:=by
 obtain⟨m,rfl⟩:=Int.eq_ofNat_of_zero_le h;by_cases hp:0≤parent t m
 ·obtain⟨p,hp1,hp2⟩:=bO t m hp
  rw[hp1];omega
 ·omega
theorem cO(t:Tr){n:Int}(h:0≤n):0≤parent t n→n<parent t n:=by
 obtain⟨m,rfl⟩:=Int.eq_ofNat_of_zero_le h;exact fD t m
def zH(d:Nd)(last n:Int):List Int:=
 (if d.kind==20&&d.kids[1]?==some last then [n]else [])++(if d.kind==42&&d.kids[d.kids.length-1]?==some last then d.kids.take (d.kids.length-2)++[n]else [])
def bQ(t:Tr)(node:Int):List Int×Int:=upw t (fun last n acc=>acc++zH (t.nd n) last n) node (parent t node) []
def sight(t:Tr)(node:Int):List Int:=(bQ t node).1++t.items.filter fun it=>decide (it<(bQ t node).2)&&zl t it
theorem iS(p:Int→Bool){l:List Int}{k:Nat}(h:k<l.length):(l.take (k+1)).filter p=(l.take k).filter p++(if p l[k]then [l[k]]else []):=by
 rw[List.take_succ_eq_append_getElem h,List.filter_append];cases hp:p l[k]<;>simp[List.filter_cons,hp]
theorem qX(v:TreeV)(t:Tr)(node:Nat)(w:World)(wf:WF t)(hn:node<t.nodes.length)(h:IsTree w v t) :
 Calls prog 65 #[v.val t,intV node] w (RetInts w (sight t node)):=by
 have hmo:prog.follows .mixedOrders=true:=by kernel_rfl
 have HT:=Hd h;have WFH:=Hd wf;have hn3:=wf.bd.n;clear h wf;unfold TreeV.val;have hpg:=fC t node;have hpb:=zD t (n:=(node:Int)) (by omega);go_enter func65,ntmps65
 go_wp2_with (go_at_call 64;refine(bD v t node _ WFH.out.bd (by omega) (by omega) (HT.out.mono ((boxT_below (v:=v) (t:=t)).alloc (by simp) _) nlr)).mono ?_;rintro e w' ⟨rfl,hb'⟩)
 go_loopw [5,6,7] (fun t5 t6 t7 wr=>∃(pre:List Int) (last n:Int) (a5:Option Addr) (c5:Nat),t5=.slice a5 pre.length c5∧t6=intV last∧t7=intV n ∧ -1≤n∧n<t.nodes.length ∧ -1≤last∧last≤t.nodes.length∧pre.length≤2000000*(last+1).toNat∧Hid (0≤n→last<n) ∧
  Hid (bQ t node=upw t (fun last n acc=>acc++zH (t.nd n) last n) last n pre)∧Hid (OwnI wr (w.heap.size+1) a5 c5 pre)∧Hid (Below (w.heap.size+1) (boxT w v t) wr)) (fun _ _ t7 _=>mUp t.nodes.length t7)
 case atStart=>
  have hs1:=hb'.size;simp only[World.size_alloc]at hs1
  exact⟨[],node,parent t node,_,_,rfl,rfl,rfl,hpg,hpb,by omega,by omega,by simp,Hd (cO t (by omega)),Hd rfl,
   Hd (zg (fA (boxT w v t) _ _ (by simp) nlr) hb'),Hd ((brf.alloc (by simp) _).trans (hb'.mono (by simp)))⟩
 case round=>
  obtain⟨pre,last,n,a5,c5,rfl,rfl,rfl,hn1,hn2,hl1,hl2,hpre,HLN,HA,HO,HB⟩:=hrel;obtain⟨b0,b1,ht1,⟨hs,hsl,hsm⟩,hbw⟩:=boxed HB.out HT.out;obtain⟨hcw,hfw⟩:=bcell hbw;have HT1:=Hd ht1;have HS:=Hd (KU t (fun last n acc=>acc++zH (t.nd n) last n) last pre hn2);clear ht1;by_cases hn0:0≤n
  ·obtain⟨m,rfl⟩:=Int.eq_ofNat_of_zero_le hn0
   have hm:m<t.nodes.length:=by omega
   have HS2:=Hd (HA.out.trans (HS.out.trans (if_neg (by omega))));clear HS;obtain⟨b,o,ka,kc,ea,hb,c0,c1,c2,c3,c4,hkr⟩:=HT.out.nodes.at hm;have HKR:=Hd hkr;have hkl:=WFH.out.bd.k _ (List.getElem_mem hm);have hnd:=t.nd_at hm;have HND:=Hd hnd;obtain⟨na,nc,ia,ic⟩:=v;simp only at ea b0 b1;subst ea;have HPG:=Hd (fC t m);have HPB:=Hd (zD t (n:=(m:Int)) (by omega));have HPU:=Hd (cO t (n:=(m:Int)) (by omega));have hln:last<(m:Int):=HLN.out hn0;have hlm:pre.length≤2000000*1000001:=by omega
   have hb1':b<w.heap.size+1:=by omega
   clear hkr hnd;by_cases h20:t.nodes[m].kind=20
   ·have hk2:=WFH.out.letK m hm h20
    obtain⟨b',o',rfl,hb',hc'⟩:=Ints.at HKR.out (i:=1) (by omega);have h20':(t.nodes[m].kind==20)=true:=by simpa using h20
    have h42':(t.nodes[m].kind==42)=false:=by simp[h20]
    clear h20;by_cases he:last=t.nodes[m].kids[1]
    ·have he':(t.nodes[m].kids[1]==last)=true:=by simpa using he.symm
     have HAT:Hid (zH (t.nd m) last m=[(m:Int)]):=Hd (by rw[HND.out];simp[zH,h20',h42',he,List.getElem?_eq_getElem (show 1<t.nodes[m].kids.length by omega)]);clear he
     go_wp2_with (first
      | (go_at_call 64;refine(bD ⟨some ⟨b,o,none⟩,nc,ia,ic⟩ t m _ WFH.out.bd (by omega) (by omega) (HT.out.mono ‹Below w.heap.size w _› nlr)).mono ?_;rintro e w' ⟨rfl,hb'⟩)
      | (at_builtin;refine zJ (news:=[(m:Int)]) rfl (.tmp 40) (.tmp 42) rfl rfl (HO.out.alloc _) rfl (zR _ _ _) (by first|omega|(simp;omega)) (by first|omega|(simp;omega)) ?_;intro a9 c9 w9 l9 HL9 hle9 hown9 hkeep9;have hb9:=hkeep9 _ _ nlr (HB.out.alloc hs _);obtain⟨d9,e9,-,⟨hs9,hsl9,hsm9⟩,hbw9⟩:=boxed hb9 HT.out;obtain⟨hc9,hf9⟩:=bcell hbw9))
     go_roundw
     case rel=>exact⟨_,m,parent t m,_,_,rfl,rfl,rfl,HPG.out,HPB.out,by omega,by omega,by omega,Hd HPU.out,Hd (by have:=HS2.out;simp only[HAT.out]at this;rw[HL9.out];exact this),Hd (zg (hown9) hb'),Hd ((hb9).trans (hb'.mono (by omega)))⟩
     case measure=>exact pI hn0 hn2 HPU.out
    ·have he':(t.nodes[m].kids[1]==last)=false:=by simpa using fun h=>he h.symm
     have HAT:Hid (zH (t.nd m) last m=[]):=Hd (by rw[HND.out];simp[zH,h20',h42',List.getElem?_eq_getElem (show 1<t.nodes[m].kids.length by omega)];exact fun h=>he h.symm);clear he
     go_wp2_with (go_at_call 64;refine(bD ⟨some ⟨b,o,none⟩,nc,ia,ic⟩ t m _ WFH.out.bd (by omega) (by omega) (HT.out.mono ‹Below w.heap.size w _› nlr)).mono ?_;rintro e w' ⟨rfl,hb'⟩)
     go_roundw
     case rel=>exact⟨_,m,parent t m,_,_,rfl,rfl,rfl,HPG.out,HPB.out,by omega,by omega,by omega,Hd HPU.out,Hd (by have:=HS2.out;simp only[HAT.out,List.append_nil]at this;exact this),Hd (zg (HO.out) hb'),Hd ((HB.out).trans (hb'.mono (by omega)))⟩
     case measure=>exact pI hn0 hn2 HPU.out
   ·have h20':(t.nodes[m].kind==20)=false:=by simpa using h20
    by_cases h42:t.nodes[m].kind=42
    ·have hk2:=WFH.out.funK m hm h42
     have h42':(t.nodes[m].kind==42)=true:=by simpa using h42
     clear h20 h42;obtain⟨b',o',rfl,hb',hc'⟩:=Ints.at HKR.out (i:=t.nodes[m].kids.length-1) (by omega);obtain⟨ask,cs,hsl,hrs⟩:=FZ (P:=prog) (T:=23) HKR.out KS FW ((t.nodes[m].kids.length:Int)-2) (by omega) (by omega);have HRS:=Hd hrs;clear hrs;by_cases he:last=t.nodes[m].kids[t.nodes[m].kids.length-1]
     ·have he':(t.nodes[m].kids[t.nodes[m].kids.length-1]==last)=true:=by simpa using he.symm
      have HAT:Hid (zH (t.nd m) last m=t.nodes[m].kids.take (t.nodes[m].kids.length-2)++[(m:Int)]):=Hd (by rw[HND.out];simp[zH,h20',h42',he,List.getElem?_eq_getElem (show t.nodes[m].kids.length-1<t.nodes[m].kids.length by omega)]);clear he
      have hrow:∀W,Below w.heap.size w W→Row 1 W ask (t.nodes[m].kids.length-2) cs (zo (t.nodes[m].kids.take (t.nodes[m].kids.length-2))):=by
       intro W hW;have:=HRS.out.mono hW nlr;rw[show((t.nodes[m].kids.length:Int)-2).toNat=t.nodes[m].kids.length-2 by omega,Nat.mul_one,←List.map_take]at this;exact this
      have HROW:=Hd hrow;clear hrow
      go_wp2_with (first
       | (go_at_call 64;refine(bD ⟨some ⟨b,o,none⟩,nc,ia,ic⟩ t m _ WFH.out.bd (by omega) (by omega) (HT.out.mono ‹Below w.heap.size w _› nlr)).mono ?_;rintro e w' ⟨rfl,hb'⟩)
       | (at_builtin;refine zJ (news:=t.nodes[m].kids.take (t.nodes[m].kids.length-2)) rfl (.tmp 61) (.tmp 66) rfl rfl (HO.out) rfl (HROW.out _ ‹Below w.heap.size w _›) (by first|omega|(simp;omega)) (by first|omega|(simp;omega)) ?_;intro a9 c9 w9 l9 HL9 hle9 hown9 hkeep9;have hb9:=hkeep9 _ _ nlr (HB.out);obtain⟨d9,e9,-,⟨hs9,hsl9,hsm9⟩,hbw9⟩:=boxed hb9 HT.out;obtain⟨hc9,hf9⟩:=bcell hbw9)
       | (at_builtin;refine zJ (news:=[(m:Int)]) rfl (.tmp 67) (.tmp 69) rfl rfl (hown9.alloc _) rfl (zR _ _ _) (by first|omega|(simp;omega)) (by first|omega|(simp;omega)) ?_;intro a7 c7 w7 l7 HL7 hle7 hown7 hkeep7;have hb7:=hkeep7 _ _ nlr (hb9.alloc hs9 _);obtain⟨d7,e7,-,⟨hs7,hsl7,hsm7⟩,hbw7⟩:=boxed hb7 HT.out;obtain⟨hc7,hf7⟩:=bcell hbw7))
      go_roundw
      case rel=>exact⟨_,m,parent t m,_,_,rfl,rfl,rfl,HPG.out,HPB.out,by omega,by omega,by omega,Hd HPU.out,Hd (by have:=HS2.out;simp only[HAT.out]at this;rw[HL7.out,HL9.out,List.append_assoc];exact this),Hd (zg (hown7) hb'),Hd ((hb7).trans (hb'.mono (by omega)))⟩
      case measure=>exact pI hn0 hn2 HPU.out
     ·have he':(t.nodes[m].kids[t.nodes[m].kids.length-1]==last)=false:=by simpa using fun h=>he h.symm
      have HAT:Hid (zH (t.nd m) last m=[]):=Hd (by rw[HND.out];simp[zH,h20',h42',List.getElem?_eq_getElem (show t.nodes[m].kids.length-1<t.nodes[m].kids.length by omega)];exact fun h=>he h.symm);clear he
      go_wp2_with (go_at_call 64;refine(bD ⟨some ⟨b,o,none⟩,nc,ia,ic⟩ t m _ WFH.out.bd (by omega) (by omega) (HT.out.mono ‹Below w.heap.size w _› nlr)).mono ?_;rintro e w' ⟨rfl,hb'⟩)
      go_roundw
      case rel=>exact⟨_,m,parent t m,_,_,rfl,rfl,rfl,HPG.out,HPB.out,by omega,by omega,by omega,Hd HPU.out,Hd (by have:=HS2.out;simp only[HAT.out,List.append_nil]at this;exact this),Hd (zg (HO.out) hb'),Hd ((HB.out).trans (hb'.mono (by omega)))⟩
      case measure=>exact pI hn0 hn2 HPU.out
    ·have h42':(t.nodes[m].kind==42)=false:=by simpa using h42
     have HAT:Hid (zH (t.nd m) last m=[]):=Hd (by rw[HND.out];simp[zH,h20',h42']);clear h20 h42
     go_wp2_with (go_at_call 64;refine(bD ⟨some ⟨b,o,none⟩,nc,ia,ic⟩ t m _ WFH.out.bd (by omega) (by omega) (HT.out.mono ‹Below w.heap.size w _› nlr)).mono ?_;rintro e w' ⟨rfl,hb'⟩)
     go_roundw
     case rel=>exact⟨_,m,parent t m,_,_,rfl,rfl,rfl,HPG.out,HPB.out,by omega,by omega,by omega,Hd HPU.out,Hd (by have:=HS2.out;simp only[HAT.out,List.append_nil]at this;exact this),Hd (zg (HO.out) hb'),Hd ((HB.out).trans (hb'.mono (by omega)))⟩
     case measure=>exact pI hn0 hn2 HPU.out
  ·have hu:bQ t node=(pre,last):=HA.out.trans (HS.out.trans (if_pos (by omega)))
   have HU:=Hd hu;have hlm:pre.length≤2000000*1000001:=by omega
   clear HA HS hu;go_wp2
   go_loopw [5,9] (fun t5 t9 wr=>∃(k:Nat) (a6:Option Addr) (c6:Nat) (q:List Int),t9=.int .i64 k∧k≤t.items.length∧t5=.slice a6 q.length c6∧q.length≤pre.length+k ∧
    Hid (q=pre++(t.items.take k).filter fun it=>decide (it<last)&&zl t it)∧Hid (OwnI wr (w.heap.size+1) a6 c6 q)∧Hid (Below (w.heap.size+1) (boxT w v t) wr)) (fun _ i _=>t.items.length-(intOf i).toNat)
   case atStart=>exact⟨0,a5,c5,pre,rfl,Nat.zero_le _,rfl,by omega,Hd (by simp),HO,HB⟩
   case round=>
    obtain⟨k,a6,c6,q,rfl,hk,rfl,hq,HQ,HO6,HB6⟩:=hrel;obtain⟨b60,b61,ht6,⟨hs6,hsl6,hsm6⟩,hbw6⟩:=boxed HB6.out HT.out;obtain⟨hc6,hf6⟩:=bcell hbw6;clear b0 b1;have him:=WFH.out.bd.i;by_cases hlt:k<t.items.length
    ·obtain⟨b,o,ea,hb,hcit⟩:=Ints.at HT.out.items hlt
     obtain⟨hi1,hi2⟩:=WFH.out.item _ (List.getElem_mem hlt);obtain⟨it,hit⟩:=Int.eq_ofNat_of_zero_le hi1;have hfl:=iS (fun it=>decide (it<last)&&zl t it) hlt;have HF:=Hd hfl;have HIT:=Hd hit;obtain⟨na,nc,ia,ic⟩:=v;simp only at ea b60 b61;subst ea;rw[hit]at hcit hi2;have hb1':b<w.heap.size+1:=by omega
     have hb2':b<wr.heap.size:=by omega
     clear hfl hit hi1;by_cases hlast:(it:Int)<last
     ·have hld:decide ((it:Int)<last)=true:=by simpa using hlast
      have hcall:∀W,Below wr.heap.size wr W→Calls prog 24 #[TreeV.val ⟨na,nc,some ⟨b,o,none⟩,ic⟩ t,intV it] W (zn W (zl t it)):=by
       intro W hJ;exact eT ⟨na,nc,some ⟨b,o,none⟩,ic⟩ t it W WFH.out.bd (by omega) (fun h34=>WFH.out.par it (by omega) (by rw[←t.nd_at (by omega)];exact h34)) (HT.out.mono (hbw6.trans (hJ.mono (by omega))) nlr)
      have HC:=Hd hcall;have HLD:=Hd hld;clear hcall hlast
      cases hdd:zl t it with
      | true=>
        have HD:=Hd hdd;have HX:Hid (pre++(t.items.take (k+1)).filter (fun it=>decide (it<last)&&zl t it)=q++[(it:Int)]):=Hd (by rw[HF.out,HIT.out,HQ.out];simp[HLD.out,HD.out]);clear hdd;go_wp2;refine N.region_JTm 15 hmo (by kernel_rfl) (by kernel_rfl) rfl (by kernel_rfl) (by kernel_rfl) (fun Wz=>Below (wr).heap.size (wr) Wz) (brf.drew) ?_
        iterate 14 (refine N.WalkT.cons ?_ (N.StepP.pure rfl ?_) ?_;rotate_left;(intro W hJ;obtain⟨hcJ,hfJ⟩:=bcell hJ;go_simp;rfl);simp only[N.pz])
        refine N.WalkT.cons (.bool true) (N.StepP.call (f:=24) (args:=#[TreeV.val ⟨na,nc,some ⟨b,o,none⟩,ic⟩ t,intV it]) rfl ?hG1_14 ?cG1_14) ?rG1_14;case hG1_14=>intro W hJ;obtain⟨hcJ,hfJ⟩:=bcell hJ;go_simp;try rfl
        case cG1_14=>intro W hJ;(refine(HC.out W hJ).mono ?_;rintro e w' ⟨rfl,hb2⟩;exact⟨by rw[HD.out],hJ.trans (hb2.mono hJ.size)⟩)
        simp only[N.pz];refine N.WalkT.nil fun W hJ=>?_;obtain⟨b70,b71,-,⟨hs7,hsl7,hsm7⟩,hbw7⟩:=boxed (HB6.out.trans (hJ.mono (by omega))) HT.out;obtain⟨hc7,hf7⟩:=bcell hbw7
        go_wp2_with (at_builtin;refine zJ (news:=[(it:Int)]) rfl (.tmp 95) (.tmp 101) rfl rfl ((zg HO6.out hJ).alloc _) rfl (zR _ _ _) (by first|omega|(simp;omega)) (by first|omega|(simp;omega)) ?_;intro a9 c9 w9 l9 HL9 hle9 hown9 hkeep9)
        go_roundw
        case rel=>exact⟨k+1,a9,c9,l9,by go_num,by omega,rfl,by omega,Hd (by rw[HX.out,←HL9.out]),Hd hown9,Hd (hkeep9 _ _ nlr ((HB6.out.trans (hJ.mono (by omega))).alloc hs7 _))⟩
        case measure=>simp[intOf];omega
      | false=>
        have HD:=Hd hdd;have HX:Hid ((t.items.take (k+1)).filter (fun it=>decide (it<last)&&zl t it)=(t.items.take k).filter fun it=>decide (it<last)&&zl t it):=Hd (by rw[HF.out,HIT.out];simp[HLD.out,HD.out]);clear hdd;go_wp2;refine N.region_JTm 15 hmo (by kernel_rfl) (by kernel_rfl) rfl (by kernel_rfl) (by kernel_rfl) (fun Wz=>Below (wr).heap.size (wr) Wz) (brf.drew) ?_
        iterate 14 (refine N.WalkT.cons ?_ (N.StepP.pure rfl ?_) ?_;rotate_left;(intro W hJ;obtain⟨hcJ,hfJ⟩:=bcell hJ;go_simp;rfl);simp only[N.pz])
        refine N.WalkT.cons (.bool false) (N.StepP.call (f:=24) (args:=#[TreeV.val ⟨na,nc,some ⟨b,o,none⟩,ic⟩ t,intV it]) rfl ?hG2_14 ?cG2_14) ?rG2_14;case hG2_14=>intro W hJ;obtain⟨hcJ,hfJ⟩:=bcell hJ;go_simp;try rfl
        case cG2_14=>intro W hJ;(refine(HC.out W hJ).mono ?_;rintro e w' ⟨rfl,hb2⟩;exact⟨by rw[HD.out],hJ.trans (hb2.mono hJ.size)⟩)
        simp only[N.pz];refine N.WalkT.nil fun W hJ=>?_;go_wp2
        go_roundw
        case rel=>exact⟨k+1,a6,c6,q,by go_num,by omega,rfl,by omega,Hd (by rw[HX.out];exact HQ.out),Hd (zg HO6.out hJ),Hd (HB6.out.trans (hJ.mono (by omega)))⟩
        case measure=>simp[intOf];omega
     ·have hld:decide ((it:Int)<last)=false:=by simpa using hlast
      have HLD:=Hd hld;have HX:Hid ((t.items.take (k+1)).filter (fun it=>decide (it<last)&&zl t it)=(t.items.take k).filter fun it=>decide (it<last)&&zl t it):=Hd (by rw[HF.out,HIT.out];simp[HLD.out]);clear hlast;go_wp2;refine N.region_JTm 15 hmo (by kernel_rfl) (by kernel_rfl) rfl (by kernel_rfl) (by kernel_rfl) (fun Wz=>Below (wr).heap.size (wr) Wz) (brf.drew) ?_
      iterate 15 ((first|(refine N.WalkT.cons undef (N.StepP.skip rfl) ?_)|(refine N.WalkT.cons ?_ (N.StepP.pure rfl ?_) ?_;rotate_left;(intro W hJ;obtain⟨hcJ,hfJ⟩:=bcell hJ;go_simp;rfl)));simp only[N.pz])
      refine N.WalkT.nil fun W hJ=>?_;go_wp2
      go_roundw
      case rel=>exact⟨k+1,a6,c6,q,by go_num,by omega,rfl,by omega,Hd (by rw[HX.out];exact HQ.out),Hd (zg HO6.out hJ),Hd (HB6.out.trans (hJ.mono (by omega)))⟩
      case measure=>simp[intOf];omega
    ·obtain rfl:k=t.items.length:=by omega
     go_wp2;go_ret;have hse:sight t node=pre++(t.items.take t.items.length).filter fun it=>decide (it<last)&&zl t it:=by rw[sight,HU.out,List.take_length]
     rw[hse,←HQ.out];exact RetInts.mk HO6.out (by simp) hbw6
end
end Go.Proofs.YtipjhljnkocioaaGreatDoor
