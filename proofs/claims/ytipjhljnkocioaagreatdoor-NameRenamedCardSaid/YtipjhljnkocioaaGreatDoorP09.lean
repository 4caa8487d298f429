/- Part of a proof. -/
import Derived.Test.YtipjhljnkocioaaGreatDoorP03
import Derived.Test.YtipjhljnkocioaaGreatDoorP06
import Derived.Maps.AppendAt
import Derived.WalkSmall
import Derived.Laws.OwnMore
import Derived.Deep.QuietTactic
import Derived.BigQuiet
import Derived.Deep.RegionHeld3
set_option maxRecDepth 100000
set_option maxHeartbeats 8000000
set_option linter.unusedVariables false
set_option linter.unusedSimpArgs false
open Go.Proofs.Tryz
namespace Go.Proofs.YtipjhljnkocioaaGreatDoor
section
open Go.RowKit
theorem kR:(prog.info? 3).map (fun i=>(i.zero,i.size,i.bytes))=some (some (.int .i64 0),1,8):=by kernel_rfl
theorem JE:(prog.info? 5).map (fun i=>(i.zero,i.size,i.bytes))=some (some (.int .u8 0),1,1):=by kernel_rfl
theorem kS:(prog.info? 52).map (fun i=>(i.zero,i.size,i.bytes))=some (some (.agg #[.int .u8 0,.string ⟨#[]⟩,.int .i64 0,.slice none 0 0,.int .i64 0]),5,64):=by kernel_rfl
theorem cF:prog.underlying 23=some (.slice 3):=by kernel_rfl
theorem FE:prog.underlying 114=some (.slice 5):=by kernel_rfl
theorem dY:prog.underlying 22=some (.slice 52):=by kernel_rfl
abbrev intV(n:Int):Value:=.int .i64 n
abbrev zo(l:List Int):List Value:=l.map intV
structure Nd where
 kind:Int
 text:List UInt8
 n:Int
 kids:List Int
 pos:Int
deriving DecidableEq
structure Tr where
 nodes:List Nd
 items:List Int
deriving DecidableEq
def Nd.cells(d:Nd)(a:Option Addr×Nat):List Value:=[.int .u8 d.kind,strV d.text,intV d.n,.slice a.1 d.kids.length a.2,intV d.pos]
def aE:List Nd→List (Option Addr×Nat)→List Value
 |d::ds,a::ks=>d.cells a++aE ds ks
 |_,_=>[]
def Nodes(w:World)(a:Option Addr)(c:Nat)(ns:List Nd):Prop:=
 ∃ks:List (Option Addr×Nat),ks.length=ns.length∧Row 5 w a ns.length c (aE ns ks)∧∀i (h:i<ns.length) (k:i<ks.length),Row 1 w ks[i].1 ns[i].kids.length ks[i].2 (zo ns[i].kids)
theorem gN:∀(ns:List Nd) (ks:List (Option Addr×Nat)),ks.length=ns.length→(aE ns ks).length=ns.length*5
 | [],[],_=>rfl
 | d::ns,a::ks,h=>by
   simp only[aE,List.length_append,Nd.cells,List.length_cons,List.length_nil,gN ns ks (by simpa using h)];omega
 | [],_::_,h=>by simp at h
 |_::_,[],h=>by simp at h
theorem lL:∀(ns:List Nd) (ks:List (Option Addr×Nat)) (hk:ks.length=ns.length) (i:Nat) (h:i<ns.length) (j:Nat) (hj:j<5),(aE ns ks)[i*5+j]?=(ns[i].cells (ks[i]'(by omega)))[j]?
 | d::ns,a::ks,hk,0,_,j,hj=>by
   simp only[aE,Nat.zero_mul,Nat.zero_add,List.getElem_cons_zero];rw[List.getElem?_append_left (by simp[Nd.cells];omega)]
 | d::ns,a::ks,hk,i+1,h,j,hj=>by
   simp only[aE,List.getElem_cons_succ];rw[List.getElem?_append_right (by simp[Nd.cells];omega),←lL ns ks (by simpa using hk) i (by simpa using h) j hj];congr 1;simp[Nd.cells];omega
 | [],_,_,_,h,_,_=>by simp at h
 |_::_,[],hk,_,_,_,_=>by simp at hk
theorem Nodes.mono{w w':World}{a:Option Addr}{c:Nat}{ns:List Nd}{B:Nat}(h:Nodes w a c ns)(hb:Below B w w')(hB:w.heap.size≤B):Nodes w' a c ns:=by
 obtain⟨ks,h1,h2,h3⟩:=h;exact⟨ks,h1,h2.mono hb hB,fun i h k=>(h3 i h k).mono hb hB⟩
theorem Nodes.at{w:World}{a:Option Addr}{c:Nat}{ns:List Nd}(h:Nodes w a c ns){i:Nat}(hi:i<ns.length) :
 ∃ b o ka kc,a=some ⟨b,o,none⟩∧b<w.heap.size∧w.cell? ⟨b,o+i*5,none⟩=some (.int .u8 ns[i].kind)∧w.cell? ⟨b,o+i*5+1,none⟩=some (strV ns[i].text) ∧
   w.cell? ⟨b,o+i*5+2,none⟩=some (intV ns[i].n)∧w.cell? ⟨b,o+i*5+3,none⟩=some (.slice ka ns[i].kids.length kc)∧w.cell? ⟨b,o+i*5+4,none⟩=some (intV ns[i].pos) ∧
   Row 1 w ka ns[i].kids.length kc (zo ns[i].kids):=by
 obtain⟨ks,h1,h2,h3⟩:=h;obtain⟨b,o,rfl,hb,hc⟩:=h2.some (by omega);have hl:=gN ns ks h1
 have key:∀j (hj:j<5),w.cell? ⟨b,o+i*5+j,none⟩=(ns[i].cells (ks[i]'(by omega)))[j]?:=by
  intro j hj;have hlt:i*5+j<(aE ns ks).length:=by omega
  rw[Nat.add_assoc,hc (i*5+j) hlt,←lL ns ks h1 i hi j hj,List.getElem?_eq_getElem hlt]
 exact⟨b,o,_,_,rfl,hb,key 0 (by omega),key 1 (by omega),key 2 (by omega),key 3 (by omega),key 4 (by omega),h3 i hi (by omega)⟩
abbrev Ints(w:World)(a:Option Addr)(c:Nat)(l:List Int):Prop:=Row 1 w a l.length c (zo l)
theorem Ints.at{w:World}{a:Option Addr}{c:Nat}{l:List Int}(h:Ints w a c l){i:Nat}(hi:i<l.length):∃b o,a=some ⟨b,o,none⟩∧b<w.heap.size∧w.cell? ⟨b,o+i,none⟩=some (intV l[i]):=by
 obtain⟨b,o,rfl,hb,hc⟩:=h.some (by omega);exact⟨b,o,rfl,hb,by rw[hc i (by simpa using hi)];simp⟩
structure TreeV where
 na:Option Addr
 nc:Nat
 ia:Option Addr
 ic:Nat
def TreeV.val(v:TreeV)(t:Tr):Value:=.agg #[.slice v.na t.nodes.length v.nc,.slice v.ia t.items.length v.ic]
structure IsTree (w:World) (v:TreeV) (t:Tr):Prop where
 nodes:Nodes w v.na v.nc t.nodes
 items:Ints w v.ia v.ic t.items
theorem IsTree.mono{w w':World}{v:TreeV}{t:Tr}{B:Nat}(h:IsTree w v t)(hb:Below B w w')(hB:w.heap.size≤B):IsTree w' v t:=⟨h.nodes.mono hb hB,Row.mono h.items hb hB⟩
structure Bd (t:Tr):Prop where
 n:t.nodes.length≤1000000
 i:t.items.length≤1000000
 k:∀d∈t.nodes,d.kids.length≤1000000
 s:∀d∈t.nodes,d.text.length≤1000000000
theorem bcell{W w1:World}(hb:Below W.heap.size W w1):(∀b o,b<W.heap.size→w1.cell? ⟨b,o,none⟩=W.cell? ⟨b,o,none⟩)∧(∀b o,b<W.heap.size→w1.frozen? ⟨b,o,none⟩=W.frozen? ⟨b,o,none⟩):=
 ⟨fun b o h=>hb.cell (p:=⟨b,o,none⟩) h,fun b o h=>hb.frozen (p:=⟨b,o,none⟩) h⟩
def RetInts(w:World)(l:List Int)(e:Ending)(w':World):Prop:=
 ∃a c,e=.returned (.slice a l.length c)∧w'.ownsRow w.heap.size 3 1 (.slice a l.length c) l.length (zo l)∧Below w.heap.size w w'
def zm(w:World)(b:Bool)(e:Ending)(w':World):Prop:=e=.returned (.bool b)∧Below w.heap.size w w'
def dJ(w:World)(n:Int)(e:Ending)(w':World):Prop:=e=.returned (intV n)∧Below w.heap.size w w'
theorem gT(l:List Int):∀u∈zo l,u.oneCell'=true:=by
 intro u hu;obtain⟨c,_,rfl⟩:=List.mem_map.1 hu;rfl
theorem zh{W W':World}{base:Nat}{e:TypeId}{size:Nat}{v:Value}{n:Nat}{xs:List Value}(h:W.ownsRow base e size v n xs)(hb:Below W.heap.size W W'):W'.ownsRow base e size v n xs:=
 h.kept (row:=none) ⟨hb.os,hb.tape,hb.output,hb.size,fun k hk _=>hb.block k hk⟩ (by cases hv:v.ownBlock with|none=>exact .inl rfl|some k=>exact .inr (by simp))
theorem CO{w W W':World}{B:Nat}{e:TypeId}{size:Nat}{v:Value}{n:Nat}{xs:List Value}(hb:Below B w W)(h:W.ownsRow B e size v n xs)(hg:W.grownBy W' v.ownBlock)(hB:B≤W.heap.size):Below B w W':=
 hb.grown hg hB (fun k e=>(h.lt k e).1)
theorem zq{W:World}{B:Nat}{a:Option Addr}{c:Nat}{l:List Int}(h:W.ownsRow B 3 1 (.slice a l.length c) l.length (zo l)):Ints W a c l:=by
 obtain⟨a',c',e,hr⟩:=aQ h;simp at e;obtain⟨rfl,rfl⟩:=e;exact hr
theorem aJ{W:World}{B B':Nat}{e:TypeId}{k:Nat}{v:Value}{n:Nat}{xs:List Value}(h:W.ownsRow B e k v n xs)(hB:B'≤B):W.ownsRow B' e k v n xs:=by
 obtain⟨h1,h2⟩:=h;refine⟨h1,?_⟩;rcases h2 with h2|⟨g,cap,cur,h3,h4,h5⟩
 ·exact .inl h2
 ·exact .inr ⟨g,cap,cur,h3,Nat.le_trans hB h4,h5⟩
abbrev OwnI(W:World)(B:Nat)(a:Option Addr)(c:Nat)(l:List Int):Prop:=W.ownsRow B 3 1 (.slice a l.length c) l.length (zo l)
theorem RetInts.mk{w w':World}{B:Nat}{a:Option Addr}{c:Nat}{l:List Int}(h:OwnI w' B a c l)(hB:w.heap.size≤B)(hb:Below w.heap.size w w'):RetInts w l (.returned (.slice a l.length c)) w':=
 ⟨a,c,rfl,aJ h hB,hb⟩
theorem cR{W W':World}{B:Nat}{e:TypeId}{k:Nat}{v:Value}{n:Nat}{xs:List Value}(hown:W.ownsRow B e k v n xs)(hg:W.grownBy W' v.ownBlock)(hB:B≤W.heap.size) :
 ∀B' A,B'≤B→Below B' A W→Below B' A W':=fun B' A h1 h2=>h2.grown hg (Nat.le_trans h1 hB) (fun k e=>Nat.le_trans h1 (hown.lt k e).1)
theorem cU(W:World)(e:TypeId)(k:Nat){n B:Nat}(hn:W.heap.size=n)(hB:B≤n):(W.alloc (.cells #[] e)).ownsRow B e k (.slice (some ⟨n,0,none⟩) 0 0) 0 []:=by
 subst hn;exact World.ownsRow_made W #[] 0 hB (by decide) (by simp)
def iH(a:Option Addr)(g:Nat):Prop:=∀p,a=some p→p.block≠g
theorem fN{P:Program}(w:World)(B:Nat)(t ty e:TypeId)(i:TypeInfo)(z:Value)(k bytes:Nat)(ht:P.underlying t=some (.slice e))(hi:P.info? e=some i)(hz:i.zero=some z)
 (hsize:i.size=k)(hby:i.bytes=bytes)(hzs:z.cells.size=k)(hsz:0<k)
 (av:Option Addr)(n cv:Nat)(xs:List Value)(hown:w.ownsRow B e k (.slice av n cv) n xs)(ax:Option Addr)(m c:Nat)(news:List Value)(hr:Row k w ax m c news)(h1:∀u∈news,u.oneCell'=true)
 (h63:n+m≤maxLen)(hbytes:(n+m)*bytes≤140737488355328)(hB:B≤w.heap.size){a':Option Addr}{n' c':Nat}{w':World}
 (hrun:(Builtin.append_ #[t,t] ty #[.slice av n cv,.slice ax m c]).run P w=.ok (.slice a' n' c') w'):∀p,a'=some p→av=some p∨w.heap.size≤p.block:=by
 obtain⟨hl,hmc,hnil,hcell⟩:=hr
 cases ax with
 | none=>
   obtain rfl:=hnil rfl;obtain rfl:m=0:=by omega
   have:=run_append_owned_none (P:=P) w B t ty e i k ht hi (.slice av n cv) n xs hown;rw[this]at hrun;injection hrun with h2 _;injection h2 with h3 _ _;intro p hp;exact .inl (h3.trans hp)
 | some a=>
   have hnews:∀j u,news[j]?=some u→w.cell? (a.add j)=some u:=by
    intro j u hj;have hj':j<news.length:=(List.getElem?_eq_some_iff.1 hj).1;rcases hcell with h0|⟨b,o,e,_,hc⟩
    ·subst h0;omega
    ·obtain rfl:=Option.some.inj e
     have hp:(⟨b,o,none⟩:Addr).add j=⟨b,o+j,none⟩:=by unfold Addr.add;split<;>simp_all
     rw[hp,hc j hj',←hj,List.getElem?_eq_getElem hj']
   rcases hown.2 with⟨h0,h00⟩|⟨g,cap,cur,h0,hbg,hg,hnc,hcm,hcs,htake⟩
   ·simp only[Value.slice.injEq]at h0
    obtain⟨rfl,rfl,rfl⟩:=h0;have hxs:xs=[]:=List.eq_nil_of_length_eq_zero (by simpa using hown.1);subst hxs;obtain⟨v',w2,hr2,h2,_,_⟩:=run_append_own (P:=P) w w.heap.size t ty e i z k bytes ht hi hz hsize hby hzs hsz (.slice none 0 0) 0 [] (World.ownsRow_nil w _ e k) a m c news hl hnews h1 h63 hbytes nlr;rw[hr2]at hrun;injection hrun with h3 _;subst h3;rintro p rfl;exact .inr (h2.lt p.block rfl).1
   ·simp only[Value.slice.injEq,true_and]at h0
    obtain⟨rfl,rfl⟩:=h0;by_cases hroom:n+m≤cv
    ·obtain⟨w2,hr2,_⟩:=run_append_fits (P:=P) w B t ty e i k ht hi hsize g n cv xs hown a m c news hl hnews h1 hroom
     rw[hr2]at hrun;injection hrun with h3 _;injection h3 with h4 _ _;intro p hp;exact .inl (h4.trans hp)
    ·have holds:∀j u,xs[j]?=some u→w.cell? ((⟨g,0,none⟩:Addr).add j)=some u:=hown.cells (g:=g) rfl
     subst hsize
     subst hby
     have hr2:=run_append_grow (P:=P) w t ty e i z ht hi hz ⟨g,0,none⟩ n cv xs hown.1 holds a m c news hl hnews (by omega) (by simp only[maxLen]at h63;omega) (growslice_fits (by omega) hbytes);rw[hr2]at hrun;injection hrun with h3 _;injection h3 with h4 _ _;rintro p rfl;injection h4 with h5;subst h5;exact .inr nlr
theorem cP{W:World}{ops:Array Oper}{rest:List Oper}{o:Oper}{a:Act}{Q:Exit→Act→World→Prop}(hgd:o.guard=none)(s x:Operand)(t e:TypeId)(z:Value)(k bytes:Nat)
 (ho:o.op=.call { callee:=.builtin .append,args:=#[s,x],argTypes:=#[t,t] })
 (ht:prog.underlying t=some (.slice e))(hinfo:(prog.info? e).map (fun i=>(i.zero,i.size,i.bytes))=some (some z,k,bytes))(hzs:z.cells.size=k)(hsz:0<k)
 {B:Nat}{av:Option Addr}{cv n:Nat}{xs:List Value}(hs:a.eval s=.slice av n cv)(hown:W.ownsRow B e k (.slice av n cv) n xs)
 {ax:Option Addr}{m c:Nat}{news:List Value}(hx:a.eval x=.slice ax m c)(hr:Row k W ax m c news)(h1:∀u∈news,u.oneCell'=true)
 (h63:n+m≤maxLen)(hbytes:(n+m)*bytes≤140737488355328)(hB:B≤W.heap.size)
 (h:∀a' c' w',w'.ownsRow B e k (.slice a' (n+m) c') (n+m) (xs++news)→W.grownBy w' (Value.slice av n cv).ownBlock→(∀p,a'=some p→av=some p∨W.heap.size≤p.block)→wpList prog ops Q rest (a.put o.dst (.slice a' (n+m) c')) w'):wpList prog ops Q (o::rest) a W:=by
 obtain⟨i0,hi,hz0,hz1,hz2⟩:=info_parts hinfo;refine wpList_plain hgd fun K hK=>?_;obtain⟨v',w',hrun,h2,h3⟩:=cH (P:=prog) W B t o.type e i0 z k bytes ht hi hz0 hz1 hz2 hzs hsz (.slice av n cv) n xs hown ax m c news hr h1 h63 hbytes hB;obtain⟨a',c',rfl,_⟩:=aQ h2;have hw:=fN (P:=prog) W B t o.type e i0 z k bytes ht hi hz0 hz1 hz2 hzs hsz av n cv xs hown ax m c news hr h1 h63 hbytes hB hrun;unfold Oper.wp execOp;simp only[ho,resolve,invoke,builtin,Sem.run_bind,Sem.run_pure,Result.andThen_ok,List.map_toArray,List.map_cons,List.map_nil,hs,hx,hrun];exact hK _ _ (h a' c' w' h2 h3 hw)
theorem jV{W W':World}{av a':Option Addr}{n cv:Nat}(hg:W.grownBy W' (Value.slice av n cv).ownBlock)(hw:∀p,a'=some p→av=some p∨W.heap.size≤p.block) :
 ∀g,g<W.heap.size→iH av g→W'.heap[g]?=W.heap[g]?∧iH a' g:=by
 intro g hlt hn;refine⟨hg.block g hlt ?_,fun p hp=>?_⟩
 ·cases av with
  |none=>simp[Value.ownBlock]
  |some p=>exact fun e=>hn p rfl (by simpa[Value.ownBlock]using e.symm)
 ·rcases hw p hp with h|h
  ·exact hn p h
  ·omega
theorem zM{W:World}{ops:Array Oper}{rest:List Oper}{o:Oper}{a:Act}{Q:Exit→Act→World→Prop}(hgd:o.guard=none)(s x:Operand)
 (ho:o.op=.call { callee:=.builtin .append,args:=#[s,x],argTypes:=#[23,23] })
 {B:Nat}{av:Option Addr}{cv:Nat}{l:List Int}(hs:a.eval s=.slice av l.length cv)(hown:OwnI W B av cv l)
 {ax:Option Addr}{m c:Nat}{news:List Int}(hx:a.eval x=.slice ax m c)(hr:Row 1 W ax m c (zo news))
 (hbytes:l.length+m≤4398046511104)(hB:B≤W.heap.size)
 (h:∀a' c' w' l',Hid (l'=l++news)→l'.length≤l.length+m→OwnI w' B a' c' l'→(∀B' A,B'≤B→Below B' A W→Below B' A w')→(∀g,g<W.heap.size→iH av g→w'.heap[g]?=W.heap[g]?∧iH a' g)→wpList prog ops Q rest (a.put o.dst (.slice a' l'.length c')) w'):wpList prog ops Q (o::rest) a W:=by
 have hm:m=news.length:=by have:=hr.1;simpa using this.symm
 subst hm;refine cP hgd s x 23 3 (.int .i64 0) 1 8 ho cF kR rfl (by decide) hs hown hx hr (gT _) (by unfold maxLen;omega) (by omega) hB ?_;intro a' c' w' h1 h2 h3;have e:l.length+news.length=(l++news).length:=by simp
 have e2:zo l++zo news=zo (l++news):=by simp
 rw[e,e2]at h1;rw[e];exact h a' c' w' _ (Hd rfl) (by simp) h1 (cR hown h2 hB) (jV h2 h3)
theorem zH{W:World}{ops:Array Oper}{rest:List Oper}{o:Oper}{a:Act}{Q:Exit→Act→World→Prop}(hgd:o.guard=none)(s x:Operand)
 (ho:o.op=.call { callee:=.builtin .append,args:=#[s,x],argTypes:=#[23,23] })
 {B:Nat}{av:Option Addr}{cv:Nat}{l:List Int}(hs:a.eval s=.slice av l.length cv)(hown:OwnI W B av cv l)
 {ax:Option Addr}{m c:Nat}{news:List Int}(hx:a.eval x=.slice ax m c)(hr:Row 1 W ax m c (zo news))
 (hbytes:l.length+m≤4398046511104)(hB:B≤W.heap.size)
 (h:∀a' c' w' l',Hid (l'=l++news)→l'.length≤l.length+m→OwnI w' B a' c' l'→(∀B' A,B'≤B→Below B' A W→Below B' A w')→wpList prog ops Q rest (a.put o.dst (.slice a' l'.length c')) w'):wpList prog ops Q (o::rest) a W:=
 zM hgd s x ho hs hown hx hr hbytes hB fun a' c' w' l' h1 h2 h3 h4 _=>h a' c' w' l' h1 h2 h3 h4
theorem zL(w:World)(x:Value)(e:TypeId):Row 1 (w.alloc (.cells #[x] e)) (some ⟨w.heap.size,0,none⟩) 1 1 [x]:=Row.made w [x] e rfl nlr
def idxs(p:Nat→Bool)(k:Nat):List Int:=((List.range k).filter p).map Int.ofNat
theorem nW(p:Nat→Bool)(k:Nat):idxs p (k+1)=idxs p k++(if p k then [(k:Int)]else []):=by
 unfold idxs;rw[List.range_succ,List.filter_append,List.map_append];congr 1;cases h:p k<;>simp[List.filter_cons,h]
theorem gQ{p:Nat→Bool}{k:Nat}(h:p k=true):idxs p (k+1)=idxs p k++[(k:Int)]:=by rw[nW,if_pos h]
theorem gP{p:Nat→Bool}{k:Nat}(h:p k=false):idxs p (k+1)=idxs p k:=by rw[nW,if_neg (by rw[h];exact Bool.false_ne_true),List.append_nil]
theorem bY(p:Nat→Bool)(k:Nat):(idxs p k).length≤k:=by
 unfold idxs;rw[List.length_map];exact Nat.le_trans (List.length_filter_le _ _) (by simp)
def mUp(n:Nat)(v:Value):Nat:=if intOf v<0 then 0 else n+1-(intOf v).toNat
theorem mG{n:Nat}{m p:Int}(h0:0≤m)(hm:m<n)(h:0≤p→m<p):mUp n (intV p)<mUp n (intV m):=by
 have e:∀x:Int,mUp n (intV x)=if x<0 then 0 else n+1-x.toNat:=fun _=>rfl;rw[e,e];split<;>split<;>omega
abbrev boxT(w:World)(v:TreeV)(t:Tr):World:=w.alloc (.cells #[.slice v.na t.nodes.length v.nc,.slice v.ia t.items.length v.ic] 25)
theorem boxed{w wr:World}{v:TreeV}{t:Tr}(hb:Below (w.heap.size+1) (boxT w v t) wr)(h:IsTree w v t) :
 wr.cell? ⟨w.heap.size,0,none⟩=some (.slice v.na t.nodes.length v.nc)∧wr.cell? ⟨w.heap.size,1,none⟩=some (.slice v.ia t.items.length v.ic)∧IsTree wr v t∧(w.heap.size+1≤wr.heap.size∧w.heap.size<wr.heap.size∧w.heap.size≤wr.heap.size)∧Below w.heap.size w wr:=by
 have hs:=hb.size;simp only[World.size_alloc]at hs;have hw:Below w.heap.size w wr:=((Below.refl _ w).alloc nlr _).trans (hb.mono (by simp));have hb':Below (boxT w v t).heap.size (boxT w v t) wr:=by simpa using hb
 obtain⟨hc,_⟩:=bcell hb';exact⟨(hc _ _ (by simp)).trans (by simp),(hc _ _ (by simp)).trans (by simp),h.mono hw nlr,⟨hs,by omega,by omega⟩,hw⟩
theorem boxT_below{w:World}{v:TreeV}{t:Tr}:Below w.heap.size w (boxT w v t):=(Below.refl _ w).alloc nlr _
abbrev boxD(w:World)(ka:Option Addr)(kc:Nat)(d:Nd):World:=w.alloc (.cells #[.int .u8 d.kind,strV d.text,intV d.n,.slice ka d.kids.length kc,intV d.pos] 52)
theorem aK{w wr:World}{v:TreeV}{t:Tr}{ka:Option Addr}{kc:Nat}{d:Nd}(hb:Below (w.heap.size+1+1) (boxD (boxT w v t) ka kc d) wr)(h:IsTree w v t) :
 (wr.cell? ⟨w.heap.size,0,none⟩=some (.slice v.na t.nodes.length v.nc)∧wr.cell? ⟨w.heap.size,1,none⟩=some (.slice v.ia t.items.length v.ic)) ∧
 (wr.cell? ⟨w.heap.size+1,0,none⟩=some (.int .u8 d.kind)∧wr.cell? ⟨w.heap.size+1,1,none⟩=some (strV d.text)∧wr.cell? ⟨w.heap.size+1,2,none⟩=some (intV d.n)∧wr.cell? ⟨w.heap.size+1,3,none⟩=some (.slice ka d.kids.length kc)) ∧
 IsTree wr v t∧(w.heap.size+1+1≤wr.heap.size∧w.heap.size<wr.heap.size∧w.heap.size≤wr.heap.size∧w.heap.size+1<wr.heap.size)∧Below w.heap.size w wr:=by
 have hs:=hb.size;simp only[World.size_alloc]at hs;have h1:Below (w.heap.size+1) (boxT w v t) wr:=(brf.alloc (by simp) _).trans (hb.mono (by omega));obtain⟨l1,l2,l3,⟨l4,l5,l6⟩,l7⟩:=boxed h1 h;have hb':Below (boxD (boxT w v t) ka kc d).heap.size (boxD (boxT w v t) ka kc d) wr:=by simpa using hb
 obtain⟨hc,_⟩:=bcell hb';have e1:(boxD (boxT w v t) ka kc d).cell? ⟨w.heap.size+1,0,none⟩=some (.int .u8 d.kind):=by simp
 have e2:(boxD (boxT w v t) ka kc d).cell? ⟨w.heap.size+1,1,none⟩=some (strV d.text):=by simp
 have e3:(boxD (boxT w v t) ka kc d).cell? ⟨w.heap.size+1,2,none⟩=some (intV d.n):=by simp
 have e4:(boxD (boxT w v t) ka kc d).cell? ⟨w.heap.size+1,3,none⟩=some (.slice ka d.kids.length kc):=by simp
 exact⟨⟨l1,l2⟩,⟨(hc _ _ (by simp)).trans e1,(hc _ _ (by simp)).trans e2,(hc _ _ (by simp)).trans e3,(hc _ _ (by simp)).trans e4⟩,l3,⟨hs,l5,l6,by omega⟩,l7⟩
def hasS(l:List (List UInt8))(s:List UInt8):Bool:=l.contains s
def lC(n:Int):Bool:=decide (97≤n)&&decide (n≤122)
def kO(n:Int):Bool:=decide (48≤n)&&decide (n≤57)
def iW(c:UInt8):Bool:=lC (c.toNat:Int)
def zN(c:UInt8):Bool:=kO (c.toNat:Int)
def cC(c:UInt8):Bool:=iW c||zN c
def zW:List (List UInt8):=[[97,110,100],[97,115,107],[98,108,97,109,101],[98,111,111,108],[98,111,117,110,100,115],[99,104,111,111,115,101],[99,111,117,110,116],[101,108,115,101],[102,97,108,115,101],[102,117,110],[105,102],[105,110],[105,110,116],[108,101,116],[108,111,111,107],[109,97,121],[109,117,115,116],[110,111,116],[111,98,115,101,114,118,101],[111,114],[114,101,116,114,97,99,116],[116,104,101,110],[116,114,117,101],[116,121,112,101],[117,112,116,111],[118,97,108,117,101,115],[119,104,121]]
def signsL:List (List UInt8):=[[61,61],[33,61],[60,61],[62,61],[46,46],[43],[45],[42],[47],[37],[60],[62],[61],[40],[41],[91],[93],[123],[125],[44],[58],[59],[46]]
def numB(l:List UInt8):Bool:=decide (l.length≤4)&&(decide (l.length=1)||l.head? != some 48)
def tokF(s:List UInt8):Int×List UInt8:=
 match s with
 | []=>(0,[])
 | c::_=>
   if iW c then (if hasS zW (s.takeWhile cC)then (3,s.takeWhile cC)else if (s.takeWhile cC).length≤12 then (1,s.takeWhile cC)else (0,[]))
   else if zN c then (if numB (s.takeWhile zN)then (2,s.takeWhile zN)else (0,[]))
   else match signsL.find? (fun g=>g.isPrefixOf s)with
    |some g=>(4,g)
    |none=>(0,[])
def zT(s:List UInt8):Bool:=(tokF s).1==1&&(tokF s).2==s
def twl(p:UInt8→Bool)(l:List UInt8):Nat:=(l.takeWhile p).length
theorem jQ(p:UInt8→Bool)(l:List UInt8):twl p l≤l.length:=(List.takeWhile_sublist p).length_le
theorem oW(p:UInt8→Bool):∀l:List UInt8,l.take (twl p l)=l.takeWhile p
 | []=>rfl
 | c::l=>by
   unfold twl;rw[List.takeWhile_cons];split
   ·show(c::l).take ((l.takeWhile p).length+1)=_
    rw[List.take_succ_cons];exact congrArg _ (oW p l)
   ·rfl
theorem KU(p:UInt8→Bool):∀(l:List UInt8) (k:Nat) (hk:k<l.length),k<twl p l→p l[k]=true
 | c::l,0,_,h=>by
   unfold twl at h;rw[List.takeWhile_cons]at h;split at h
   ·rename_i hc;exact hc
   ·simp at h
 | c::l,k+1,hk,h=>by
   unfold twl at h;rw[List.takeWhile_cons]at h;split at h
   ·exact KU p l k (by simpa using hk) (by unfold twl;simp at h;omega)
   ·simp at h
theorem IK(p:UInt8→Bool):∀(l:List UInt8) (hk:twl p l<l.length),p (l[twl p l]'hk)=false
 | c::l,hk=>by
   cases hc:p c with
   | true=>
     have e:twl p (c::l)=twl p l+1:=by unfold twl;rw[List.takeWhile_cons,if_pos hc];rfl
     have hk':twl p l<l.length:=by rw[e]at hk;simpa using hk
     have:=IK p l hk';simp only[e,List.getElem_cons_succ];exact this
   | false=>
     have e:twl p (c::l)=0:=by unfold twl;rw[List.takeWhile_cons,if_neg (by rw[hc];exact Bool.false_ne_true)];rfl
     simp only[e,List.getElem_cons_zero];exact hc
theorem iY{p:UInt8→Bool}{l:List UInt8}{k:Nat}(hk:k<l.length)(h:k≤twl p l)(hp:p l[k]=true):k+1≤twl p l:=by
 by_cases e:k=twl p l
 ·subst e
  have:=IK p l hk;rw[hp]at this;cases this
 ·omega
theorem oV{p:UInt8→Bool}{l:List UInt8}{k:Nat}(hk:k<l.length)(h:k≤twl p l)(hp:p l[k]=false):k=twl p l:=by
 by_cases e:k=twl p l
 ·exact e
 ·have:=KU p l k hk (by omega)
  rw[hp]at this;cases this
@[go_sem] theorem bytes_extract (l:List UInt8) (i j:Nat):(⟨l.toArray⟩:ByteArray).extract i j=⟨((l.take j).drop i).toArray⟩:=by
 apply ByteArray.ext;simp[ByteArray.data_extract,List.drop_take]
abbrev rI(l:List (List UInt8)):List Value:=l.map strV
abbrev Strs(w:World)(a:Option Addr)(c:Nat)(l:List (List UInt8)):Prop:=Row 1 w a l.length c (rI l)
theorem Strs.at{w:World}{a:Option Addr}{c:Nat}{l:List (List UInt8)}(h:Strs w a c l){i:Nat}(hi:i<l.length):∃b o,a=some ⟨b,o,none⟩∧b<w.heap.size∧w.cell? ⟨b,o+i,none⟩=some (strV l[i]):=by
 obtain⟨b,o,rfl,hb,hc⟩:=h.some (by omega);exact⟨b,o,rfl,hb,by rw[hc i (by simpa using hi)];simp⟩
def lI(w:World)(l:List (List UInt8))(e:Ending)(w':World):Prop:=∃a c,e=.returned (.slice a l.length c)∧Strs w' a c l∧Below w.heap.size w w'
def hasI(l:List Int)(n:Int):Bool:=l.contains n
def dQ(ns:List Nd)(node:Int)(i:Nat):Bool:=hasI ((ns[i]?.map (·.kids)).getD []) node
def iL(p:Nat→Bool)(n:Nat):Nat→Nat→Int
 |_,0=>-1
 |k,f+1=>if k<n then (if p k then (k:Int)else iL p n (k+1) f)else -1
def first(p:Nat→Bool)(n k:Nat):Int:=iL p n k (n-k)
theorem aH{p:Nat→Bool}{n k:Nat}(hk:k<n)(h:p k=true):first p n k=k:=by
 unfold first;rw[show n-k=(n-k-1)+1 by omega,iL,if_pos hk,if_pos h]
theorem cI{p:Nat→Bool}{n k:Nat}(hk:k<n)(h:p k=false):first p n k=first p n (k+1):=by
 unfold first;rw[show n-k=(n-(k+1))+1 by omega,iL,if_pos hk,if_neg (by rw[h];exact Bool.false_ne_true)]
theorem bN{p:Nat→Bool}{n k:Nat}(hk:n≤k):first p n k = -1:=by
 unfold first;rw[show n-k=0 by omega,iL]
theorem eF{p:Nat→Bool}{n:Nat}:∀(f k:Nat),n-k≤f→0≤first p n k→∃m:Nat,first p n k=m∧k≤m∧m<n∧p m=true
 |0,k,h,hp=>by rw[bN (by omega)]at hp;omega
 | f+1,k,h,hp=>by
   by_cases hk:k<n
   ·cases hpk:p k with
    |true=>exact⟨k,aH hk hpk,nlr,hk,hpk⟩
    | false=>
      rw[cI hk hpk]at hp⊢;obtain⟨m,h1,h2,h3,h4⟩:=eF f (k+1) (by omega) hp;exact⟨m,h1,by omega,h3,h4⟩
   ·rw[bN (by omega)]at hp;omega
theorem mP{p:Nat→Bool}{n:Nat}:∀(f k:Nat),n-k≤f → -1≤first p n k
 |0,k,h=>by rw[bN (by omega)];omega
 | f+1,k,h=>by
   by_cases hk:k<n
   ·cases hpk:p k with
    |true=>rw[aH hk hpk];omega
    |false=>rw[cI hk hpk];exact mP f (k+1) (by omega)
   ·rw[bN (by omega)];omega
def parent(t:Tr)(node:Int):Int:=first (dQ t.nodes node) t.nodes.length (node+1).toNat
theorem dS(t:Tr)(n:Int) : -1≤parent t n:=mP _ _ nlr
theorem aT(t:Tr)(i:Nat)(h:0≤parent t i):∃p:Nat,parent t i=p∧p<t.nodes.length:=by
 obtain⟨m,h1,_,h3,_⟩:=eF _ _ nlr h;exact⟨m,h1,h3⟩
theorem dD(t:Tr)(i:Nat)(h:0≤parent t i):(i:Int)<parent t i:=by
 obtain⟨m,h1,h2,h3,_⟩:=eF _ _ nlr h;unfold parent;rw[h1];omega
def nd0:Nd:=⟨0,[],0,[],0⟩
def Tr.nd(t:Tr)(i:Int):Nd:=t.nodes.getD i.toNat nd0
theorem Tr.nd_at(t:Tr){k:Nat}(h:k<t.nodes.length):t.nd (k:Int)=t.nodes[k]:=by simp[Tr.nd,h]
def mL(k:Int):Bool:=k==40||k==41||k==42||k==43||k==44||k==20
def zZ(k:Int):Bool:=decide (1≤k)&&decide (k≤26)&&k != 25
def bU(k:Int):Bool:=k==3||k==21||k==24||k==32||k==45
def suits(n d:Int):Bool:=if n==3 then d==40||d==43||d==20||d==34 else if n==21 then d==42 else if n==45 then d==44 else d==41
def zi(t:Tr)(i:Int):Bool:=mL (t.nd i).kind||(t.nd i).kind==34&&(t.nd (parent t i)).kind==42
def bO(t:Tr)(i:Int):Bool:=hasI t.items i
theorem tO{a b:List Int}(hl:a.length=b.length){k:Nat}(hk:k<a.length)(h:a.take k=b.take k)(he:a[k]=b[k]'(by omega)):a.take (k+1)=b.take (k+1):=by
 rw[List.take_succ_eq_append_getElem hk,List.take_succ_eq_append_getElem (by omega),h,he]
theorem DH{a b:List Int}{k:Nat}(hk:k<a.length)(hk':k<b.length)(he:¬a[k]=b[k]):(a==b)=false:=by
 rw[beq_eq_false_iff_ne];rintro rfl;exact he rfl
theorem bM(a a':Option Addr)(c c':Nat)(l l':List Int)(w:World)(hm:l.length≤140737488355328)(hm':l'.length≤140737488355328)(h:Ints w a c l)(h':Ints w a' c' l') :
 Calls prog 19 #[.slice a l.length c,.slice a' l'.length c'] w (zm w (l==l')):=by
 have HR:=Hd h;have HR':=Hd h';clear h h';by_cases hl:l.length=l'.length
 ·have HL:=Hd hl
  have hl1:((l.length:Int)==(l'.length:Int))=true:=by simp[hl]
  have hl2:((l.length:Int) != (l'.length:Int))=false:=by simp[hl]
  clear hl;go_enter func19,ntmps19;go_wp2
  go_loopw [5] (fun i wr=>∃k:Nat,k≤l.length∧i=.int .i64 k∧Hid (l.take k=l'.take k)∧Hid (Below w.heap.size w wr)) (fun i _=>l.length-(intOf i).toNat)
  case atStart=>exact⟨0,Nat.zero_le _,rfl,Hd rfl,Hd brf⟩
  case round=>
   obtain⟨k,hk,rfl,HA,HB⟩:=hrel;have HR1:=Hd (Row.mono HR.out HB.out nlr);have HR1':=Hd (Row.mono HR'.out HB.out nlr);by_cases hlt:k<l.length
   ·obtain⟨b,o,rfl,hb,hc⟩:=Ints.at HR1.out hlt
    obtain⟨b',o',rfl,hb',hc'⟩:=Ints.at HR1'.out (i:=k) (by have:=HL.out;omega);have hlt':k<l'.length:=by have:=HL.out;omega
    by_cases he:l[k]=l'[k]
    ·have he1:(l[k] != l'[k])=false:=by simp[he]
     have HS:=Hd (tO HL.out hlt HA.out he);clear he;go_wp2
     go_quiet (fail)
     go_wp2
     go_roundw
     case rel=>exact⟨k+1,by omega,by go_num,HS,Hd (below_drewN HB.out _)⟩
     case measure=>simp[intOf];omega
    ·have he1:(l[k] != l'[k])=true:=by simp[he]
     have HE:=Hd he;clear he;go_wp2
     go_quiet (fail)
     go_wp2;go_ret;exact⟨za (DH hlt hlt' HE.out).symm,below_drewN HB.out _⟩
   ·go_wp2
    go_ret;refine⟨za ?_,HB.out⟩;have h1:=HA.out;rw[List.take_of_length_le (by omega),List.take_of_length_le (by have:=HL.out;omega)]at h1;rw[h1];simp
 ·have hl1:((l.length:Int) != (l'.length:Int))=true:=by simp;omega
  have HL:=Hd hl;clear hl;go_enter func19,ntmps19;go_wp2;go_ret;refine⟨za ?_,brf⟩;symm;rw[beq_eq_false_iff_ne];rintro rfl;exact HL.out rfl
def bZ(t:Tr)(of:Int):Nat→Int→Bool
 |0,_=>false
 |f+1,n=>if n<0 then false else if n=of then true else bZ t of f (parent t n)
def inside(t:Tr)(node of:Int):Bool:=bZ t of (t.nodes.length+1) node
theorem lP(t:Tr)(of:Int):∀(f g:Nat) (n:Int),t.nodes.length+1-n.toNat≤f→t.nodes.length+1-n.toNat≤g→n<t.nodes.length→bZ t of f n=bZ t of g n
 | 0,g,n,h,_,hl=>by
   have:n<0∨0≤n:=by omega
   omega
 |f+1,0,n,_,h,hl=>by omega
 | f+1,g+1,n,h1,h2,hl=>by
   simp only[bZ];by_cases hn:n<0
   ·rw[if_pos hn,if_pos hn]
   ·rw[if_neg hn,if_neg hn]
    split
    ·rfl
    ·by_cases hp:0≤parent t n
     ·obtain⟨m,rfl⟩:=Int.eq_ofNat_of_zero_le (show 0≤n by omega)
      obtain⟨p,hp1,hp2⟩:=aT t m hp;have hp3:=dD t m hp;refine lP t of f g _ ?_ ?_ ?_<;>rw[hp1]<;>rw[hp1]at hp3<;>simp at *<;>omega
     ·have hp:parent t n<0:=by omega
      cases f<;>cases g<;>simp[bZ,hp]
theorem aW(t:Tr)(of:Int){n:Int}(h:n<t.nodes.length):inside t n of=if n<0 then false else if n=of then true else inside t (parent t n) of:=by
 unfold inside;rw[bZ];by_cases hn:n<0
 ·rw[if_pos hn,if_pos hn]
 ·rw[if_neg hn,if_neg hn]
  split
  ·rfl
  ·by_cases hp:0≤parent t n
   ·obtain⟨m,rfl⟩:=Int.eq_ofNat_of_zero_le (show 0≤n by omega)
    obtain⟨p,hp1,hp2⟩:=aT t m hp;have hp3:=dD t m hp;refine lP t of _ _ _ ?_ ?_ ?_<;>rw[hp1]<;>rw[hp1]at hp3<;>simp at *<;>omega
   ·have:parent t n<0:=by omega
    cases hl:t.nodes.length<;>simp[bZ,this]
def uses(decl:List Int)(node:Int):List Int:=idxs (fun i=>decl[i]?==some node) decl.length
structure WF (t:Tr):Prop where
 bd:Bd t
 kid:∀(i:Nat) (h:i<t.nodes.length),∀k∈t.nodes[i].kids,0≤k∧k<(i:Int)
 item:∀k∈t.items,0≤k∧k<(t.nodes.length:Int)
 letK:∀(i:Nat) (h:i<t.nodes.length),t.nodes[i].kind=20→t.nodes[i].kids.length=2
 funK:∀(i:Nat) (h:i<t.nodes.length),t.nodes[i].kind=42→2≤t.nodes[i].kids.length
 par:∀(i:Nat) (h:i<t.nodes.length),t.nodes[i].kind=34→0≤parent t i
def upF{α:Type}(t:Tr)(g:Int→Int→α→α):Nat→Int→Int→α→α×Int
 |0,last,_,acc=>(acc,last)
 |f+1,last,n,acc=>if n<0 then (acc,last)else upF t g f n (parent t n) (g last n acc)
def upw{α:Type}(t:Tr)(g:Int→Int→α→α)(last n:Int)(acc:α):α×Int:=upF t g (t.nodes.length+1) last n acc
theorem DU{α:Type}(t:Tr)(g:Int→Int→α→α):∀(f k:Nat) (last n:Int) (acc:α),t.nodes.length+1-n.toNat≤f→t.nodes.length+1-n.toNat≤k→n<t.nodes.length→upF t g f last n acc=upF t g k last n acc
 |0,k,last,n,acc,h,_,hl=>by omega
 |f+1,0,last,n,acc,_,h,hl=>by omega
 | f+1,k+1,last,n,acc,h1,h2,hl=>by
   simp only[upF];by_cases hn:n<0
   ·rw[if_pos hn,if_pos hn]
   ·rw[if_neg hn,if_neg hn]
    by_cases hp:0≤parent t n
    ·obtain⟨m,rfl⟩:=Int.eq_ofNat_of_zero_le (show 0≤n by omega)
     obtain⟨p,hp1,hp2⟩:=aT t m hp;have hp3:=dD t m hp;refine DU t g f k _ _ _ ?_ ?_ ?_<;>rw[hp1]<;>rw[hp1]at hp3<;>simp at *<;>omega
    ·have hp:parent t n<0:=by omega
     cases f<;>cases k<;>simp[upF,hp]
theorem zG(t:Tr){n:Int}(h:0≤n):parent t n<t.nodes.length:=by
 obtain⟨m,rfl⟩:=Int.eq_ofNat_of_zero_le h;by_cases hp:0≤parent t m
 ·obtain⟨p,hp1,hp2⟩:=aT t m hp
  rw[hp1];omega
 ·omega
theorem dE(t:Tr){n:Int}(h:0≤n):0≤parent t n→n<parent t n:=by
 obtain⟨m,rfl⟩:=Int.eq_ofNat_of_zero_le h;exact dD t m
def zy(d:Nd)(last n:Int):List Int:=
 (if d.kind==20&&d.kids[1]?==some last then [n]else [])++(if d.kind==42&&d.kids[d.kids.length-1]?==some last then d.kids.take (d.kids.length-2)++[n]else [])
def aZ(t:Tr)(node:Int):List Int×Int:=upw t (fun last n acc=>acc++zy (t.nd n) last n) node (parent t node) []
def sight(t:Tr)(node:Int):List Int:=(aZ t node).1++t.items.filter fun it=>decide (it<(aZ t node).2)&&zi t it
theorem wC{α:Type}(t:Tr)(g:Int→Int→α→α)(P:Int→α→Prop)(hg:∀(last n:Int) (acc:α),0≤n→n<(t.nodes.length:Int)→P last acc→P n (g last n acc)):∀(f:Nat) (last n:Int) (acc:α),n<t.nodes.length→P last acc→P (upF t g f last n acc).2 (upF t g f last n acc).1
 |0,last,n,acc,_,h=>h
 | f+1,last,n,acc,hn,h=>by
   rw[upF];split
   ·exact h
   ·exact wC t g P hg f _ _ _ (zG t (by omega)) (hg _ _ _ (by omega) hn h)
theorem vY{t:Tr}(wf:WF t){last n x:Int}(h0:0≤n)(hn:n<t.nodes.length)(h:x∈zy (t.nd n) last n):0≤x∧x<t.nodes.length:=by
 obtain⟨m,rfl⟩:=Int.eq_ofNat_of_zero_le h0;rw[t.nd_at (by omega)]at h;simp only[zy,List.mem_append]at h;rcases h with h|h
 ·split at h
  ·obtain rfl:=List.mem_singleton.1 h
   exact⟨h0,hn⟩
  ·cases h
 ·split at h
  ·rcases List.mem_append.1 h with h|h
   ·have:=wf.kid m (by omega) x (List.mem_of_mem_take h)
    omega
   ·obtain rfl:=List.mem_singleton.1 h
    exact⟨h0,hn⟩
  ·cases h
theorem gG{t:Tr}(wf:WF t){node:Nat}{x:Int}(h:x∈sight t node):0≤x∧x<t.nodes.length:=by
 rcases List.mem_append.1 h with h|h
 ·have:=wC t (fun last n acc=>acc++zy (t.nd n) last n) (fun _ acc=>∀x∈acc,0≤x∧x<(t.nodes.length:Int)) (fun last n acc h0 hn ha x hx=>by
   rcases List.mem_append.1 hx with hx|hx
   ·exact ha x hx
   ·exact vY wf h0 hn hx) (t.nodes.length+1) node (parent t node) [] (zG t (by omega)) (by simp)
  exact this x h
 ·exact wf.item x ((List.mem_filter.1 h).1)
def nearest(t:Tr)(node:Int)(name:List UInt8):Int:=((sight t node).find? fun d=>(t.nd d).text==name).getD (-1)
theorem sO{p:Int→Bool}{l:List Int}{k:Nat}(hk:k<l.length)(h:p l[k]=false):((l.drop k).find? p)=((l.drop (k+1)).find? p):=by
 rw[List.drop_eq_getElem_cons hk,List.find?_cons,h]
theorem wN{p:Int→Bool}{l:List Int}{k:Nat}(hk:k<l.length)(h:p l[k]=true):((l.drop k).find? p)=some l[k]:=by
 rw[List.drop_eq_getElem_cons hk,List.find?_cons,h]
theorem kW{t:Tr}(wf:WF t){node:Nat}{name:List UInt8}(h:0≤nearest t node name):nearest t node name<t.nodes.length:=by
 unfold nearest at *
 cases hf:(sight t node).find? fun d=>(t.nd d).text==name with
 |none=>rw[hf]at h;simp at h
 |some d=>exact(gG wf (List.mem_of_find?_eq_some hf)).2
theorem qB{t:Tr}(wf:WF t){node:Nat}{name:List UInt8} : -1≤nearest t node name:=by
 unfold nearest
 cases hf:(sight t node).find? fun d=>(t.nd d).text==name with
 |none=>simp
 |some d=>have:=(gG wf (List.mem_of_find?_eq_some hf)).1;simp only[Option.getD_some];omega
def means(t:Tr)(node:Int):Int:=
 if bU (t.nd node).kind then (if nearest t node (t.nd node).text<0 || !suits (t.nd node).kind (t.nd (nearest t node (t.nd node).text)).kind then -1 else nearest t node (t.nd node).text)else -1
theorem jE{t:Tr}{node:Int}(h:bU (t.nd node).kind=false):means t node = -1:=by rw[means,if_neg (by rw[h];exact Bool.false_ne_true)]
theorem cS{t:Tr}(wf:WF t){node:Nat} : -1≤means t node∧means t node<t.nodes.length:=by
 unfold means;split
 ·split
  ·omega
  ·rename_i h
   simp only[Bool.or_eq_true,decide_eq_true_eq,not_or]at h;exact⟨qB wf,kW wf (by omega)⟩
 ·omega
def zV(t:Tr)(node:Int):Int:=first (fun k=>inside t node (t.items.getD k 0)) t.items.length 0
def unused(t:Tr)(decl:List Int):List Int:=idxs (fun i=>zi t i&&(t.nd i).kind != 44&&(uses decl i).length==0) t.nodes.length
theorem wD(l:List Int)(n:Int):(uses l n).length≤l.length:=bY _ _
def insI(x:Int):List Int→List Int
 | []=>[x]
 |y::l=>if x≤y then x::y::l else y::insI x l
def bA:List Int→List Int
 | []=>[]
 |x::l=>insI x (bA l)
theorem nX(x:Int):∀l:List Int,(insI x l).Perm (x::l)
 | []=>List.Perm.refl _
 | y::l=>by
   simp only[insI];split
   ·exact List.Perm.refl _
   ·exact((nX x l).cons y).trans (List.Perm.swap x y l)
theorem bF:∀l:List Int,(bA l).Perm l
 | []=>List.Perm.refl _
 |x::l=>(nX x _).trans ((bF l).cons x)
theorem nY(x:Int):∀l:List Int,l.Pairwise (· ≤ ·)→(insI x l).Pairwise (· ≤ ·)
 | [],_=>by simp[insI]
 | y::l,h=>by
   simp only[insI];have h':=List.pairwise_cons.1 h;split
   ·rename_i hxy
    refine List.pairwise_cons.2 ⟨fun z hz=>?_,h⟩;rcases List.mem_cons.1 hz with rfl|hz
    ·exact hxy
    ·exact Int.le_trans hxy (h'.1 z hz)
   ·rename_i hxy
    refine List.pairwise_cons.2 ⟨fun z hz=>?_,nY x l h'.2⟩;rcases List.mem_cons.1 ((nX x l).mem_iff.1 hz)with rfl|hz
    ·omega
    ·exact h'.1 z hz
theorem bW:∀l:List Int,(bA l).Pairwise (· ≤ ·)
 | []=>by simp[bA]
 |x::l=>nY x _ (bW l)
theorem bX{l L:List Int}(hp:L.Perm l)(hs:L.Pairwise (· ≤ ·)):L=bA l:=
 (hp.trans (bF l).symm).eq_of_pairwise (le:=(· ≤ ·)) (fun _ _ _ _ h1 h2=>Int.le_antisymm h1 h2) hs (bW l)
theorem dM(l:List Int):(bA l).length=l.length:=(bF l).length_eq
theorem bQ{W:World}{B:Nat}{a:Option Addr}{n c:Nat}{L:List Int}(h:W.ownsRow B 3 1 (.slice a n c) n (zo L))(hn:0<n):∃g,a=some ⟨g,0,none⟩∧B≤g∧g<W.heap.size∧L.length=n ∧
 (∀i,i<n→W.cell? ⟨g,i,none⟩=some (intV (L.getD i 0)))∧(∀i,W.frozen? ⟨g,i,none⟩=false):=by
 have hl:L.length=n:=by have:=h.1;simpa using this
 rcases h.2 with⟨h',h0⟩|⟨g,cap,cur,h',hb,hg,_⟩
 ·omega
 ·simp only[Value.slice.injEq,true_and]at h'
  obtain⟨rfl,rfl⟩:=h';refine⟨g,rfl,hb,(Array.getElem?_eq_some_iff.1 hg).1,hl,fun i hi=>?_,fun i=>h.frozenAt i⟩;rw[h.cellAt i (by omega)];simp[show i<L.length by omega]
theorem eP{W:World}{B g n c:Nat}{L:List Int}(h:W.ownsRow B 3 1 (.slice (some ⟨g,0,none⟩) n c) n (zo L))(i:Nat)(x:Int) :
 (W.setCell ⟨g,i,none⟩ (intV x)).ownsRow B 3 1 (.slice (some ⟨g,0,none⟩) n c) n (zo (L.set i x)):=by
 have:=(h.stored i (intV x)).1;rw[←List.map_set]at this;exact this
theorem qU{p:Nat→Bool}{k:Nat}{x:Int}(h:x∈idxs p k):0≤x∧x<k:=by
 obtain⟨y,hy,rfl⟩:=List.mem_map.1 h;have:=List.mem_range.1 (List.mem_filter.1 hy).1;exact⟨Int.natCast_nonneg _,by show((y:Nat):Int)<k;omega⟩
theorem sU(t:Tr)(x:Int) : -1≤zV t x:=mP _ 0 nlr
theorem CD(t:Tr)(x:Int):zV t x<t.items.length:=by
 rcases Int.lt_or_le (zV t x) 0 with h|h
 ·omega
 ·obtain⟨m,hm,_,h2,_⟩:=eF (p:=fun k=>inside t x (t.items.getD k 0)) t.items.length 0 (by omega) h
  have:zV t x=m:=hm;omega
inductive Reach (t:Tr) (l:List Int) (item:Int):Int→Prop
 |base:Reach t l item item
 |step {n:Nat}(hn:n<t.nodes.length) (h0:0≤l.getD n 0) (h:Reach t l item (zV t n)):Reach t l item (zV t (l.getD n 0))
structure NeedL (t:Tr) (l:List Int) (item:Int) (L:List Int):Prop where
 head:∃r,L=item::r
 nodup:L.Nodup
 reach:∀x∈L,Reach t l item x
theorem NeedL.snoc{t:Tr}{l:List Int}{item:Int}{L:List Int}(h:NeedL t l item L){x:Int}(hx:Reach t l item x)(hn:hasI L x=false):NeedL t l item (L++[x]):=by
 obtain⟨⟨r,hr⟩,h2,h3⟩:=h;refine⟨⟨r++[x],by rw[hr];rfl⟩,?_,?_⟩
 ·rw[List.nodup_append]
  refine⟨h2,by simp,?_⟩;intro a ha b hb hab;simp at hb;subst hb;subst hab;have:L.contains a=true:=List.contains_iff_mem.2 ha;unfold hasI at hn;rw[this]at hn;cases hn
 ·intro y hy
  rcases List.mem_append.1 hy with hy|hy
  ·exact h3 y hy
  ·simp at hy
   subst hy;exact hx
theorem mQ{α:Type}[BEq α][LawfulBEq α]:∀(L M:List α),L.Nodup→(∀x∈L,x∈M)→L.length≤M.length
 | [],_,_,_=>Nat.zero_le _
 | x::L,M,h,hs=>by
   obtain⟨h1,h2⟩:=List.nodup_cons.1 h;have hx:=hs x (by simp)
   have:=mQ L (M.erase x) h2 (fun y hy=>by
    have hne:y≠x:=fun e=>h1 (e▸hy)
    exact(List.mem_erase_of_ne hne).2 (hs y (by simp[hy])))
   rw[List.length_erase_of_mem hx]at this;have:=List.length_pos_of_mem hx;simp only[List.length_cons];omega
theorem Reach.range{t:Tr}{l:List Int}{item x:Int}(h:Reach t l item x):x=item∨(-1≤x∧x<t.items.length):=by
 cases h with
 |base=>exact .inl rfl
 |step hn h0 _=>exact .inr ⟨sU _ _,CD _ _⟩
theorem NeedL.length{t:Tr}{l:List Int}{item:Int}{L:List Int}(h:NeedL t l item L):L.length≤t.items.length+2:=by
 have:=mQ L (item::(List.range (t.items.length+1)).map (fun i:Nat=>(i:Int)-1)) h.nodup (fun x hx=>by
  rcases(h.reach x hx).range with e|⟨h1,h2⟩
  ·subst e;simp
  ·refine List.mem_cons_of_mem _ (List.mem_map.2 ⟨(x+1).toNat,List.mem_range.2 (by omega),by omega⟩))
 simpa using this
def kD(t:Tr)(l:List Int)(L:List Int)(k:Nat):Prop:=∀n,n<k→n<t.nodes.length→0≤l.getD n 0→hasI L (zV t n)=true→hasI L (zV t (l.getD n 0))=true
theorem NeedL.done{t:Tr}{l:List Int}{item:Int}{L:List Int}(h:NeedL t l item L)(hc:kD t l L t.nodes.length)(x:Int):x∈L↔Reach t l item x:=by
 refine⟨h.reach x,fun hr=>?_⟩;have hm:∀y,hasI L y=true↔y∈L:=fun y=>List.contains_iff_mem
 induction hr with
 |base=>obtain⟨r,hr⟩:=h.head;rw[hr];simp
 |step hn h0 _ ih=>exact(hm _).1 (hc _ hn hn h0 ((hm _).2 ih))
def KRow(w:World)(B:Nat)(a:Option Addr)(k:Option Addr×Nat)(kids:List Int):Prop:=
 Row 1 w k.1 kids.length k.2 (zo kids)∧(0<kids.length→∀x,k.1=some x→B≤x.block∧∀y,a=some y→x.block≠y.block)
structure OwnN (w:World) (B:Nat) (a:Option Addr) (c:Nat) (ns:List Nd) (ks:List (Option Addr×Nat)):Prop where
 len:ks.length=ns.length
 own:w.ownsRow B 52 5 (.slice a ns.length c) ns.length (aE ns ks)
 kids:∀i (h:i<ns.length) (k:i<ks.length),KRow w B a ks[i] ns[i].kids
theorem OwnN.nil(w:World)(B:Nat):OwnN w B none 0 [] []:=⟨rfl,⟨rfl,.inl ⟨rfl,rfl⟩⟩,fun i h=>by simp at h⟩
theorem KRow.below{w w':World}{B:Nat}{a:Option Addr}{k:Option Addr×Nat}{kids:List Int}(h:KRow w B a k kids)(hb:Below w.heap.size w w'):KRow w' B a k kids:=⟨h.1.mono hb nlr,h.2⟩
theorem OwnN.below{w w':World}{B:Nat}{a:Option Addr}{c:Nat}{ns:List Nd}{ks:List (Option Addr×Nat)}(h:OwnN w B a c ns ks)(hb:Below w.heap.size w w'):OwnN w' B a c ns ks:=
 ⟨h.len,zh h.own hb,fun i hi k=>(h.kids i hi k).below hb⟩
theorem zR{w:World}{a:Option Addr}{n c k:Nat}{xs:List Value}(h:Row k w a n c xs){p:Addr}(v:Value)(hne:0<n→∀x,a=some x→x.block≠p.block):Row k (w.setCell p v) a n c xs:=by
 obtain⟨h1,h2,h3,h4⟩:=h;refine⟨h1,h2,h3,?_⟩;rcases h4 with h4|⟨b,o,e,hlt,hc⟩
 ·exact .inl h4
 ·by_cases hn:n=0
  ·exact .inl hn
  ·refine .inr ⟨b,o,e,by simpa using hlt,fun i hi=>?_⟩
   have:=hne (by omega) _ e;rw[World.cell?_setCell_other _ _ _ _ (by intro e;have:=congrArg Addr.block e;simp only at this;simp only at *;omega)];exact hc i hi
theorem KRow.setCell{w:World}{B:Nat}{a:Option Addr}{k:Option Addr×Nat}{kids:List Int}(h:KRow w B a k kids){p:Addr}(hp:p.block<B)(v:Value):KRow (w.setCell p v) B a k kids:=
 ⟨zR h.1 v fun h0 x e=>by have:=(h.2 h0 x e).1;omega,h.2⟩
theorem OwnN.setCell{w:World}{B:Nat}{a:Option Addr}{c:Nat}{ns:List Nd}{ks:List (Option Addr×Nat)}(h:OwnN w B a c ns ks){p:Addr}(hp:p.block<B)(v:Value):OwnN (w.setCell p v) B a c ns ks:=
 ⟨h.len,ownsRow_setCell_below h.own hp v,fun i hi k=>(h.kids i hi k).setCell hp v⟩
theorem OwnN.nodes{w:World}{B:Nat}{a:Option Addr}{c:Nat}{ns:List Nd}{ks:List (Option Addr×Nat)}(h:OwnN w B a c ns ks):Nodes w a c ns:=by
 obtain⟨a',c',e,hr⟩:=aQ h.own;simp at e;obtain⟨rfl,rfl⟩:=e;exact⟨ks,h.len,hr,fun i hi k=>(h.kids i hi k).1⟩
theorem OwnN.ownK{w:World}{B:Nat}{a:Option Addr}{c k:Nat}{ns:List Nd}{ks:List (Option Addr×Nat)}(h:OwnN w B a c ns ks)(hk:ns.length=k):w.ownsRow B 52 5 (.slice a k c) k (aE ns ks):=by
 subst hk;exact h.own
theorem OwnN.lt{w:World}{B:Nat}{a:Option Addr}{c:Nat}{ns:List Nd}{ks:List (Option Addr×Nat)}(h:OwnN w B a c ns ks):∀y,a=some y→B≤y.block∧y.block<w.heap.size:=fun y e=>by
 subst e;exact h.own.lt y.block rfl
theorem iJ(d:Nd)(a:Option Addr×Nat):∀u∈d.cells a,u.oneCell'=true:=by
 intro u hu;simp[Nd.cells]at hu;rcases hu with rfl|rfl|rfl|rfl|rfl<;>rfl
theorem rE(W:World)(d:Nd)(a:Option Addr)(c:Nat){n:Nat}(hn:W.heap.size=n):Row 5 (W.alloc (.cells #[.int .u8 d.kind,strV d.text,intV d.n,.slice a d.kids.length c,intV d.pos] 52)) (some ⟨n,0,none⟩) 1 1 (d.cells (a,c)):=by
 subst hn;exact Row.made W (d.cells (a,c)) _ rfl nlr
theorem nP:∀(ns:List Nd) (ks:List (Option Addr×Nat)) (d:Nd) (a:Option Addr×Nat),ks.length=ns.length→aE (ns++[d]) (ks++[a])=aE ns ks++d.cells a
 | [],[],d,a,_=>by simp[aE]
 |n::ns,k::ks,d,a,h=>by simp[aE,nP ns ks d a (by simpa using h)]
 | [],_::_,_,_,h=>by simp at h
 |_::_,[],_,_,h=>by simp at h
theorem OwnN.snoc{W w':World}{B:Nat}{a a':Option Addr}{c c':Nat}{ns:List Nd}{ks:List (Option Addr×Nat)}(h:OwnN W B a c ns ks){d:Nd}{k:Option Addr×Nat}(hk:KRow W B a k d.kids)
 (hown:w'.ownsRow B 52 5 (.slice a' (ns.length+1) c') (ns.length+1) (aE ns ks++d.cells k))(hg:W.grownBy w' (Value.slice a ns.length c).ownBlock)(hw:∀p,a'=some p→a=some p∨W.heap.size≤p.block) :
 OwnN w' B a' c' (ns++[d]) (ks++[k]):=by
 have key:∀{k:Option Addr×Nat}{kids:List Int},KRow W B a k kids→KRow w' B a' k kids:=by
  intro k kids ⟨⟨h1,h2,h3,h4⟩,h5⟩;by_cases h0:0<kids.length
  ·rcases h4 with h4|⟨b,o,e,hlt,hc⟩
   ·omega
   ·obtain⟨h6,h7⟩:=h5 h0 _ e
    refine⟨⟨h1,h2,h3,.inr ⟨b,o,e,Nat.lt_of_lt_of_le hlt hg.size,fun i hi=>?_⟩⟩,fun _ x ex=>?_⟩
    ·have hb:w'.heap[b]?=W.heap[b]?:=hg.block b hlt (by
      cases a with
      |none=>simp[Value.ownBlock]
      |some y=>have:=h7 y rfl;simp[Value.ownBlock];exact this)
     exact(World.cell?_of_block (a:=⟨b,o+i,none⟩) hb).trans (hc i hi)
    ·rw[e]at ex
     obtain rfl:=Option.some.inj ex;refine⟨h6,fun y ey=>?_⟩;rcases hw y ey with h8|h8
     ·exact h7 y h8
     ·simp only;omega
  ·exact⟨⟨h1,h2,h3,.inl (by omega)⟩,fun h=>absurd h h0⟩
 refine⟨by simp[h.len],?_,fun i hi hik=>?_⟩
 ·rw[nP _ _ _ _ h.len,show(ns++[d]).length=ns.length+1 by simp]
  exact hown
 ·by_cases e:i<ns.length
  ·have e2:i<ks.length:=by have:=h.len;omega
   rw[List.getElem_append_left e2,List.getElem_append_left e];exact key (h.kids i e e2)
  ·have hl:=h.len
   obtain rfl:i=ns.length:=by simp at hi;omega
   rw[List.getElem_append_right (by omega),List.getElem_append_right (by omega)];simp[hl];exact key hk
def uX(w:World)(t:Tr)(e:Ending)(w':World):Prop:=
 ∃(v:TreeV) (B:Nat) (ks:List (Option Addr×Nat)),e=.returned (v.val t)∧w.heap.size≤B∧OwnN w' B v.na v.nc t.nodes ks∧Ints w' v.ia v.ic t.items∧(∀x,v.ia=some x→w.heap.size≤x.block∧x.block<B)∧Below w.heap.size w w'
theorem pP{w wr:World}{ka:Option Addr}{kc:Nat}{d:Nd}(hb:Below (w.heap.size+1) (boxD w ka kc d) wr) :
 (wr.cell? ⟨w.heap.size,0,none⟩=some (.int .u8 d.kind)∧wr.cell? ⟨w.heap.size,1,none⟩=some (strV d.text)∧wr.cell? ⟨w.heap.size,2,none⟩=some (intV d.n)∧wr.cell? ⟨w.heap.size,3,none⟩=some (.slice ka d.kids.length kc)∧wr.cell? ⟨w.heap.size,4,none⟩=some (intV d.pos)) ∧
 (∀j,wr.frozen? ⟨w.heap.size,j,none⟩=false)∧(∀b o,b<w.heap.size→wr.cell? ⟨b,o,none⟩=w.cell? ⟨b,o,none⟩)∧(∀b o,b<w.heap.size→wr.frozen? ⟨b,o,none⟩=w.frozen? ⟨b,o,none⟩)∧Below w.heap.size w wr∧w.heap.size+1≤wr.heap.size:=by
 have hs:=hb.size;simp only[World.size_alloc]at hs;have hb':Below (boxD w ka kc d).heap.size (boxD w ka kc d) wr:=by simpa using hb
 obtain⟨hc,hf⟩:=bcell hb';have hw:Below w.heap.size w wr:=((Below.refl _ w).alloc nlr _).trans (hb.mono (by omega));have e0:(boxD w ka kc d).cell? ⟨w.heap.size,0,none⟩=some (.int .u8 d.kind):=by simp
 have e1:(boxD w ka kc d).cell? ⟨w.heap.size,1,none⟩=some (strV d.text):=by simp
 have e2:(boxD w ka kc d).cell? ⟨w.heap.size,2,none⟩=some (intV d.n):=by simp
 have e3:(boxD w ka kc d).cell? ⟨w.heap.size,3,none⟩=some (.slice ka d.kids.length kc):=by simp
 have e4:(boxD w ka kc d).cell? ⟨w.heap.size,4,none⟩=some (intV d.pos):=by simp
 exact⟨⟨(hc _ _ (by simp)).trans e0,(hc _ _ (by simp)).trans e1,(hc _ _ (by simp)).trans e2,(hc _ _ (by simp)).trans e3,(hc _ _ (by simp)).trans e4⟩,fun j=>(hf _ _ (by simp)).trans (by simp),(bcell hw).1,(bcell hw).2,hw,hs⟩
structure Tk where
 kind:Int
 text:List UInt8
 pos:Int
deriving DecidableEq
structure PE where
 toks:List Tk
 fin:Int
structure PS where
 next:Nat
 nodes:List Nd
deriving DecidableEq
def wIf:List UInt8:=[105,102]
def LN:List UInt8:=[116,104,101,110]
def LM:List UInt8:=[101,108,115,101]
def wLet:List UInt8:=[108,101,116]
def wIn:List UInt8:=[105,110]
def wOr:List UInt8:=[111,114]
def wAnd:List UInt8:=[97,110,100]
def wNot:List UInt8:=[110,111,116]
def KY:List UInt8:=[116,114,117,101]
def IL:List UInt8:=[102,97,108,115,101]
def wInt:List UInt8:=[105,110,116]
def KX:List UInt8:=[98,111,111,108]
def yZ:List UInt8:=[117,112,116,111]
def iG:List UInt8:=[44]
def oR:List UInt8:=[45]
def qH:List UInt8:=[58]
def LJ:List UInt8:=[46,46]
def sEq:List UInt8:=[61]
def vW:List UInt8:=[123]
def DG:List UInt8:=[125]
def DF:List UInt8:=[40]
def oS:List UInt8:=[41]
def iU:List UInt8:=[91]
def rG:List UInt8:=[93]
def JQ:List UInt8:=[59]
def sDot:List UInt8:=[46]
def JW:List UInt8:=[48]
def wE:List UInt8:=[99,104,111,111,115,101]
def JV:List UInt8:=[116,121,112,101]
def wFun:List UInt8:=[102,117,110]
def rM:List UInt8:=[111,98,115,101,114,118,101]
def rN:List UInt8:=[114,101,116,114,97,99,116]
def wAsk:List UInt8:=[97,115,107]
def zj(E:PE)(s:PS):Tk:=E.toks.getD s.next ⟨0,[],E.fin⟩
def isTk(t:Tk)(l:List (List UInt8)):Bool:=(t.kind==3||t.kind==4)&&l.contains t.text
def isP(E:PE)(s:PS)(x:List UInt8):Bool:=isTk (zj E s) [x]
def PS.take(s:PS):PS:={ s with next:=s.next+1 }
abbrev PR(α:Type):=Except Int α
def cM(E:PE)(s:PS)(x:List UInt8):PR PS:=if isP E s x then .ok s.take else .error (zj E s).pos
def cA(E:PE)(s:PS)(k:Int):PR PS:=if (zj E s).kind==k then .ok s.take else .error (zj E s).pos
def addP(s:PS)(kind:Int)(own:Tk)(text:List UInt8)(n:Int)(kids:List Int):PS:={ s with nodes:=s.nodes++[⟨kind,text,n,kids,own.pos⟩] }
def valP(l:List UInt8):Int:=l.foldl (fun a c=>a*10+((c.toNat:Int)-48)) 0
abbrev RdP:=PS→PR (Int×PS)
def lR(rd:RdP)(E:PE):Nat→List Int→PS→PR (List Int×PS)
 |0,l,s=>.ok (l,s)
 |f+1,l,s=>if isP E s iG then (rd s.take).bind fun r=>lR rd E f (l++[r.1]) r.2 else .ok (l,s)
def iP(rd:RdP)(E:PE)(s:PS):PR (List Int×PS):=(rd s).bind fun r=>lR rd E (E.toks.length+1) [r.1] r.2
def eH(below:RdP)(E:PE)(kinds:List UInt8→Int)(once:Bool):Nat→Int→RdP
 |0,a,s=>.ok (a,s)
 | f+1,a,s=>
   if kinds (zj E s).text==0 then .ok (a,s)
   else (below s.take).bind fun r=>
    let s':=addP r.2 (kinds (zj E s).text) (zj E s) [] 0 [a,r.1]
    if once then .ok (r.2.nodes.length,s')else eH below E kinds once f r.2.nodes.length s'
def bP(below:RdP)(E:PE)(kinds:List UInt8→Int)(once:Bool)(s:PS):PR (Int×PS):=(below s).bind fun r=>eH below E kinds once (E.toks.length+1) r.1 r.2
def iR(expr:RdP)(E:PE):Nat→Int→RdP
 |0,a,s=>.ok (a,s)
 | f+1,a,s=>
   if isP E s sDot then (cA E s.take 1).bind fun s1=>iR expr E f s1.nodes.length (addP s1 22 (zj E s) (zj E s.take).text 0 [a])
   else if isP E s iU then (expr s.take).bind fun r=>(cM E r.2 rG).bind fun s2=>iR expr E f s2.nodes.length (addP s2 23 (zj E s) [] 0 [a,r.1])
   else .ok (a,s)
def orK(x:List UInt8):Int:=if x=wOr then 18 else 0
def andK(x:List UInt8):Int:=if x=wAnd then 17 else 0
def cmpK(x:List UInt8):Int:=if x=[61,61]then 11 else if x=[33,61]then 12 else if x=[60]then 13 else if x=[60,61]then 14 else if x=[62]then 15 else if x=[62,61]then 16 else 0
def sumK(x:List UInt8):Int:=if x=[43]then 6 else if x=[45]then 7 else 0
def rJ(x:List UInt8):Int:=if x=[42]then 8 else if x=[47]then 9 else if x=[37]then 10 else 0
def addR(s:PS)(kind:Int)(own:Tk)(text:List UInt8)(n:Int)(kids:List Int):PR (Int×PS):=.ok (s.nodes.length,addP s kind own text n kids)
inductive NT|expr|or|and|not|cmp|sum|term|unary|postf|atom|kindOf|param|put
deriving DecidableEq
def qA(expr put:RdP)(E:PE)(nm:Tk)(s:PS):PR (Int×PS):=
 if isP E s DF then
  (if isP E s.take oS then .ok ([],s.take)else iP expr E s.take).bind fun r=>(cM E r.2 oS).bind fun s2=>addR s2 21 nm nm.text 0 r.1
 else if isP E s vW then (iP put E s.take).bind fun r=>(cM E r.2 DG).bind fun s2=>addR s2 24 nm nm.text 0 r.1
 else addR s 3 nm nm.text 0 []
def xY(expr put:RdP)(E:PE)(s:PS):PR (Int×PS):=
 if (zj E s).kind==2 then addR s.take 1 (zj E s) [] (valP (zj E s).text) []
 else if isP E s KY then addR s.take 2 (zj E s) [] 1 []
 else if isP E s IL then addR s.take 2 (zj E s) [] 0 []
 else if isP E s DF then (expr s.take).bind fun r=>(cM E r.2 oS).bind fun s2=>.ok (r.1,s2)
 else if isP E s iU then (iP expr E s.take).bind fun r=>(cM E r.2 rG).bind fun s2=>addR s2 26 (zj E s) [] 0 r.1
 else (cA E s 1).bind fun s1=>qA expr put E (zj E s) s1
def lQ(kindOf:RdP)(E:PE)(s:PS):PR (Int×PS):=
 if isP E s wInt then addR s.take 30 (zj E s) [] 0 []
 else if isP E s KX then addR s.take 31 (zj E s) [] 0 []
 else if isP E s iU then (kindOf s.take).bind fun r=>(cM E r.2 JQ).bind fun s2=>(cA E s2 2).bind fun s3=>(cM E s3 rG).bind fun s4=>addR s4 33 (zj E s) [] (valP (zj E s2).text) [r.1]
 else (cA E s 1).bind fun s1=>addR s1 32 (zj E s) (zj E s).text 0 []
def tC(kindOf:RdP)(E:PE)(s:PS):PR (Int×PS):=
 (cA E s 1).bind fun s1=>(cM E s1 qH).bind fun s2=>(kindOf s2).bind fun r=>addR r.2 34 (zj E s) (zj E s).text 0 [r.1]
def putP(expr:RdP)(E:PE)(s:PS):PR (Int×PS):=
 (cA E s 1).bind fun s1=>(cM E s1 qH).bind fun s2=>(expr s2).bind fun r=>addR r.2 25 (zj E s) (zj E s).text 0 [r.1]
def yH(expr or:RdP)(E:PE)(s:PS):PR (Int×PS):=
 if isP E s wIf then
  (expr s.take).bind fun a=>(cM E a.2 LN).bind fun s2=>(expr s2).bind fun b=>(cM E b.2 LM).bind fun s4=>(expr s4).bind fun c=>addR c.2 19 (zj E s) [] 0 [a.1,b.1,c.1]
 else if isP E s wLet then
  (cA E s.take 1).bind fun s1=>(cM E s1 sEq).bind fun s2=>(expr s2).bind fun a=>(cM E a.2 wIn).bind fun s4=>(expr s4).bind fun c=>addR c.2 20 (zj E s) (zj E s.take).text 0 [a.1,c.1]
 else or s
def jR(nt:Int)(x:List UInt8)(self below:RdP)(E:PE)(s:PS):PR (Int×PS):=
 if isP E s x then (self s.take).bind fun a=>addR a.2 nt (zj E s) [] 0 [a.1]else below s
def aA(E:PE):Nat→NT→RdP
 |0,_,_=>.error 0
 |f+1,.expr,s=>yH (aA E f .expr) (aA E f .or) E s
 |f+1,.or,s=>bP (aA E f .and) E orK false s
 |f+1,.and,s=>bP (aA E f .not) E andK false s
 |f+1,.not,s=>jR 5 wNot (aA E f .not) (aA E f .cmp) E s
 |f+1,.cmp,s=>bP (aA E f .sum) E cmpK true s
 |f+1,.sum,s=>bP (aA E f .term) E sumK false s
 |f+1,.term,s=>bP (aA E f .unary) E rJ false s
 |f+1,.unary,s=>jR 4 oR (aA E f .unary) (aA E f .postf) E s
 |f+1,.postf,s=>(aA E f .atom s).bind fun r=>iR (aA E f .expr) E (E.toks.length+1) r.1 r.2
 |f+1,.atom,s=>xY (aA E f .expr) (aA E f .put) E s
 |f+1,.kindOf,s=>lQ (aA E f .kindOf) E s
 |f+1,.param,s=>tC (aA E f .kindOf) E s
 |f+1,.put,s=>putP (aA E f .expr) E s
def gS(E:PE)(s:PS):PR (Int×PS):=
 if isP E s oR then (cA E s.take 2).bind fun s1=>addR s1 1 (zj E s) [] (-1*valP (zj E s.take).text) []
 else (cA E s 2).bind fun s1=>addR s1 1 (zj E s) [] (1*valP (zj E s).text) []
def jU(E:PE)(own:Tk)(s:PS):PR (Int×PS):=
 (cA E s 1).bind fun s1=>(cM E s1 qH).bind fun s2=>(gS E s2).bind fun a=>(cM E a.2 LJ).bind fun s4=>(gS E s4).bind fun b=>addR b.2 40 own (zj E s).text 0 [a.1,b.1]
def jX(param:RdP)(E:PE)(own:Tk)(s:PS):PR (Int×PS):=
 (cA E s 1).bind fun s1=>(cM E s1 sEq).bind fun s2=>(cM E s2 vW).bind fun s3=>(iP param E s3).bind fun l=>(cM E l.2 DG).bind fun s5=>addR s5 41 own (zj E s).text 0 l.1
def rL(E:PE)(s:PS):PR (Int×PS):=
 if isP E s yZ then (if (zj E s.take).text=JW then .error (zj E s.take).pos else (cA E s.take 2).bind fun s1=>.ok (valP (zj E s.take).text,s1))else .ok (0,s)
def fF(param kindOf expr:RdP)(E:PE)(own:Tk)(s:PS):PR (Int×PS):=
 (cA E s 1).bind fun s1=>(cM E s1 DF).bind fun s2=>(if isP E s2 oS then .ok ([],s2)else iP param E s2).bind fun l=>(cM E l.2 oS).bind fun s4=>(cM E s4 qH).bind fun s5=>
  (kindOf s5).bind fun k=>(rL E k.2).bind fun u=>(cM E u.2 sEq).bind fun s8=>(expr s8).bind fun e=>addR e.2 42 own (zj E s).text u.1 (l.1++[k.1]++[e.1])
def letP(expr:RdP)(E:PE)(own:Tk)(s:PS):PR (Int×PS):=
 (cA E s 1).bind fun s1=>(cM E s1 sEq).bind fun s2=>(expr s2).bind fun e=>addR e.2 43 own (zj E s).text 0 [e.1]
def kY(expr:RdP)(E:PE)(own:Tk)(s:PS):PR (Int×PS):=
 (cA E s 1).bind fun s1=>(cM E s1 qH).bind fun s2=>(expr s2).bind fun e=>addR e.2 44 own (zj E s).text 0 [e.1]
def gX(E:PE)(own:Tk)(s:PS):PR (Int×PS):=(cA E s 1).bind fun s1=>addR s1 45 own (zj E s).text 0 []
def fP(x:List UInt8):Int:=
 if x=[109,117,115,116]then 1 else if x=[109,97,121]then 2 else if x=[99,111,117,110,116]then 3 else if x=[98,111,117,110,100,115]then 4
 else if x=[118,97,108,117,101,115]then 5 else if x=[119,104,121]then 6 else if x=[98,108,97,109,101]then 7 else if x=[108,111,111,107]then 8 else 0
def vB(expr:RdP)(E:PE)(own:Tk)(s:PS):PR (Int×PS):=
 if fP (zj E s).text==0 then .error (zj E s).pos
 else (if fP (zj E s).text==7 then .ok ([],s.take)else if fP (zj E s).text==8 then iP expr E s.take else (expr s.take).bind fun e=>.ok ([e.1],e.2)).bind fun l=>
  addR l.2 46 own [] (fP (zj E s).text) l.1
def JD(E:PE):Nat:=16*E.toks.length+32
def rdP(E:PE)(nt:NT):RdP:=aA E (JD E) nt
def oD(E:PE)(s:PS):PR (Int×PS):=
 if (zj E s).kind != 3 then .error (zj E s).pos
 else if (zj E s).text=wE then jU E (zj E s) s.take
 else if (zj E s).text=JV then jX (rdP E .param) E (zj E s) s.take
 else if (zj E s).text=wFun then fF (rdP E .param) (rdP E .kindOf) (rdP E .expr) E (zj E s) s.take
 else if (zj E s).text=wLet then letP (rdP E .expr) E (zj E s) s.take
 else if (zj E s).text=rM then kY (rdP E .expr) E (zj E s) s.take
 else if (zj E s).text=rN then gX E (zj E s) s.take
 else if (zj E s).text=wAsk then vB (rdP E .expr) E (zj E s) s.take
 else .error (zj E s).pos
def bK(E:PE):Nat→List Int→PS→PR (List Int×PS)
 |0,l,s=>.ok (l,s)
 |f+1,l,s=>if s.next<E.toks.length then (oD E s).bind fun r=>(cM E r.2 JQ).bind fun s2=>bK E f (l++[r.1]) s2 else .ok (l,s)
def mN(E:PE):PR Tr:=(bK E (E.toks.length+1) [] ⟨0,[]⟩).map fun r=>⟨r.2.nodes,r.1⟩
def lF(c:UInt8):Bool:=c==10||decide (32≤c.toNat)&&decide (c.toNat≤126)
def fD(s:List UInt8):Int×Int:=
 if 2000<s.length then (2000,5)else match s.findIdx? (fun c=>!lF c)with
  |some i=>(i,4)
  |none=>(0,0)
def gapB(c:UInt8):Bool:=c==32||c==10
def cG:Bool→List UInt8→Nat
 |_,[]=>0
 |true,c::l=>if c==10 then cG false l+1 else cG true l+1
 |false,c::l=>if gapB c then cG false l+1 else if c==35 then cG true l+1 else 0
def lV(s:List UInt8):Nat→Nat→List Tk→Except (Int×Int) (List Tk)
 |0,_,l=>.ok l
 | f+1,at_,l=>
   if at_<s.length then
    let r:=tokF (s.drop at_)
    if r.1==0 then .error (at_,4)else if l.length=800 then .error (at_,5)
    else lV s f (at_+r.2.length+cG false (s.drop (at_+r.2.length))) (l++[⟨r.1,r.2,at_⟩])
   else .ok l
def lW(s:List UInt8):Except (Int×Int) (List Tk):=if (fD s).2 != 0 then .error (fD s)else lV s (s.length+1) (cG false s) []
def tF(s:List UInt8):Except (Int×Int) Tr:=
 match lW s with
 |.error e=>.error e
 | .ok l=>match mN ⟨l,s.length⟩with
   |.error p=>.error (p,4)
   |.ok t=>.ok t
theorem bind_ok{ε α β:Type}{x:Except ε α}{g:α→Except ε β}{r:β}:x.bind g=.ok r↔∃v,x=.ok v∧g v=.ok r:=by
 cases x with
 |error e=>simp[Except.bind]
 |ok v=>simp[Except.bind]
structure NdOk (E:PE) (i:Nat) (d:Nd):Prop where
 kid:∀k∈d.kids,0≤k∧k<(i:Int)
 kids:d.kids.length≤E.toks.length+2
 n : -9999≤d.n∧d.n≤9999
 kind:1≤d.kind∧d.kind≤46
 text:d.text=[]∨∃t∈E.toks,d.text=t.text
 choose:d.kind=40→∃k0 k1,d.kids=[k0,k1]
structure Adv (E:PE) (k:Nat) (s s':PS):Prop where
 next:s.next≤s'.next
 le:s'.next≤E.toks.length
 pre:∃l,s'.nodes=s.nodes++l∧l.length+k≤s'.next-s.next
 ok:∀i d,s.nodes.length≤i→s'.nodes[i]?=some d→NdOk E i d
theorem Adv.refl{E:PE}{s:PS}(h:s.next≤E.toks.length):Adv E 0 s s:=
 ⟨nlr,h,⟨[],by simp,by simp⟩,fun i d hi hd=>by rw[List.getElem?_eq_none hi]at hd;cases hd⟩
theorem Adv.len{E:PE}{k:Nat}{s s':PS}(h:Adv E k s s'):s.nodes.length≤s'.nodes.length∧s'.nodes.length+k+s.next≤s.nodes.length+s'.next:=by
 obtain⟨h1,h2,⟨l,h3,h4⟩,h5⟩:=h;rw[h3,List.length_append];omega
theorem Adv.trans{E:PE}{k j:Nat}{a b c:PS}(h:Adv E k a b)(g:Adv E j b c):Adv E (k+j) a c:=by
 obtain⟨h1,h2,⟨l,h3,h4⟩,h5⟩:=h;obtain⟨g1,g2,⟨m,g3,g4⟩,g5⟩:=g;refine⟨by omega,g2,⟨l++m,by rw[g3,h3,List.append_assoc],by rw[List.length_append];omega⟩,fun i d hi hd=>?_⟩;by_cases hb:b.nodes.length≤i
 ·exact g5 i d hb hd
 ·refine h5 i d hi ?_
  rw[g3,List.getElem?_append_left (by omega)]at hd;exact hd
theorem Adv.less{E:PE}{k j:Nat}{a b:PS}(h:Adv E k a b)(hj:j≤k):Adv E j a b:=by
 obtain⟨h1,h2,⟨l,h3,h4⟩,h5⟩:=h;exact⟨h1,h2,⟨l,h3,by omega⟩,h5⟩
theorem Adv.take{E:PE}{k:Nat}{a b:PS}(h:Adv E k a b)(hb:b.next<E.toks.length):Adv E (k+1) a b.take:=by
 obtain⟨h1,h2,⟨l,h3,h4⟩,h5⟩:=h;refine⟨?_,?_,⟨l,h3,?_⟩,h5⟩<;>simp only[PS.take]<;>omega
theorem Adv.add{E:PE}{k:Nat}{a b:PS}{kind:Int}{own:Tk}{text:List UInt8}{n:Int}{kids:List Int}(h:Adv E (k+1) a b)(ok:NdOk E b.nodes.length ⟨kind,text,n,kids,own.pos⟩) :
 Adv E k a (addP b kind own text n kids):=by
 obtain⟨h1,h2,⟨l,h3,h4⟩,h5⟩:=h;refine⟨h1,h2,⟨l++[⟨kind,text,n,kids,own.pos⟩],by simp[addP,h3],by simp[addP];omega⟩,fun i d hi hd=>?_⟩;simp only[addP]at hd;by_cases hb:i<b.nodes.length
 ·rw[List.getElem?_append_left hb]at hd
  exact h5 i d hi hd
 ·rw[List.getElem?_append_right (by omega)]at hd
  by_cases he:i-b.nodes.length=0
  ·rw[he]at hd
   simp only[List.length_singleton,Nat.lt_add_one,List.getElem?_eq_getElem,List.getElem_cons_zero,Option.some.injEq]at hd;subst hd;have:i=b.nodes.length:=by omega
   subst this;exact ok
  ·rw[List.getElem?_eq_none (by simp;omega)]at hd
   cases hd
structure Rd (E:PE) (s:PS) (a:Int) (s':PS):Prop where
 adv:Adv E 0 s s'
 more:s.next<s'.next
 lo:(s.nodes.length:Int)≤a
 hi:a<(s'.nodes.length:Int)
def lJ(E:PE):Prop:=∀t∈E.toks,t.kind=2→0≤valP t.text∧valP t.text≤9999
theorem iQ{E:PE}{s:PS}(h:E.toks.length≤s.next):zj E s=⟨0,[],E.fin⟩:=by
 unfold zj;rw[List.getD_eq_getElem?_getD,List.getElem?_eq_none h];rfl
theorem dR{E:PE}{s:PS}(h:s.next<E.toks.length):zj E s∈E.toks:=by
 unfold zj;rw[List.getD_eq_getElem?_getD,List.getElem?_eq_getElem h];exact List.getElem_mem h
theorem eO{E:PE}{s:PS}{x:List UInt8}(h:isP E s x=true):s.next<E.toks.length:=by
 apply Classical.byContradiction;intro hn;unfold isP isTk at h;rw[iQ (by omega)]at h;simp at h
theorem oF{E:PE}{s:PS}{k:Int}(hk:k≠0)(h:(zj E s).kind=k):s.next<E.toks.length:=by
 apply Classical.byContradiction;intro hn;rw[iQ (by omega)]at h;exact hk h.symm
theorem aX{E:PE}{s s':PS}{x:List UInt8}(h:cM E s x=.ok s'):s'=s.take∧s.next<E.toks.length:=by
 unfold cM at h;split at h
 ·rename_i hi
  exact⟨(Except.ok.inj h).symm,eO hi⟩
 ·cases h
theorem cB{E:PE}{s s':PS}{k:Int}(hk:k≠0)(h:cA E s k=.ok s'):s'=s.take∧s.next<E.toks.length∧(zj E s).kind=k:=by
 unfold cA at h;split at h
 ·rename_i hi
  have hi:=eq_of_beq hi;exact⟨(Except.ok.inj h).symm,oF hk hi,hi⟩
 ·cases h
theorem aV{s s':PS}{a kind n:Int}{own:Tk}{text:List UInt8}{kids:List Int}(h:addR s kind own text n kids=.ok (a,s')):a=s.nodes.length∧s'=addP s kind own text n kids:=by
 unfold addR at h;simpa[eq_comm]using Except.ok.inj h
theorem cV{E:PE}{s b:PS}{kind n:Int}{own:Tk}{text:List UInt8}{kids:List Int}(h:Adv E 1 s b)(ok:NdOk E b.nodes.length ⟨kind,text,n,kids,own.pos⟩):Rd E s b.nodes.length (addP b kind own text n kids):=by
 have hl:=h.len;refine⟨h.add ok,?_,?_,?_⟩
 ·simp only[addP];omega
 ·omega
 ·simp[addP];omega
theorem ndok{E:PE}{i:Nat}{kind n:Int}{text:List UInt8}{kids:List Int}{pos:Int}(h1:∀k∈kids,0≤k∧k<(i:Int))(h2:kids.length≤E.toks.length+2)(h3 : -9999≤n∧n≤9999)(h4:1≤kind∧kind≤46)
 (h5:text=[]∨∃t∈E.toks,text=t.text)(h6:kind=40→∃k0 k1,kids=[k0,k1]):NdOk E i ⟨kind,text,n,kids,pos⟩:=⟨h1,h2,h3,h4,h5,h6⟩
def Good1(E:PE)(rd:RdP):Prop:=∀s a s',s.next≤E.toks.length→rd s=.ok (a,s')→Rd E s a s'
theorem wQ{E:PE}{rd:RdP}(g:Good1 E rd):∀(f:Nat) (l:List Int) (s:PS) (l':List Int) (s':PS),s.next≤E.toks.length→(∀k∈l,0≤k∧k<(s.nodes.length:Int))→lR rd E f l s=.ok (l',s') →
 Adv E 0 s s'∧(∀k∈l',0≤k∧k<(s'.nodes.length:Int))∧l'.length+s.next≤l.length+s'.next
 | 0,l,s,l',s',hs,hl,h=>by
   simp only[lR,Except.ok.injEq,Prod.mk.injEq]at h;obtain⟨rfl,rfl⟩:=h;exact⟨Adv.refl hs,hl,nlr⟩
 | f+1,l,s,l',s',hs,hl,h=>by
   rw[lR]at h;split at h
   ·rename_i hi
    obtain⟨⟨a,b⟩,h1,h2⟩:=bind_ok.1 h;have hlt:=eO hi;have r:=g s.take a b (by simp only[PS.take];omega) h1;have hb:=r.adv.len
    obtain⟨h3,h4,h5⟩:=wQ g f _ b l' s' r.adv.le (by
     intro k hk;rcases List.mem_append.1 hk with hk|hk
     ·have:=hl k hk
      simp only[PS.take]at hb;omega
     ·obtain rfl:=List.mem_singleton.1 hk
      have:=r.lo
      exact⟨by omega,r.hi⟩) h2
    have hm:=r.more;simp only[PS.take]at hm;refine⟨(((Adv.refl hs).take hlt).trans (r.adv.trans h3)).less (by omega),h4,?_⟩;simp only[List.length_append,List.length_singleton]at h5;omega
   ·simp only[Except.ok.injEq,Prod.mk.injEq]at h
    obtain⟨rfl,rfl⟩:=h;exact⟨Adv.refl hs,hl,nlr⟩
theorem jD{E:PE}{rd:RdP}(g:Good1 E rd){s:PS}{l':List Int}{s':PS}(hs:s.next≤E.toks.length)(h:iP rd E s=.ok (l',s')) :
 Adv E 0 s s'∧(∀k∈l',0≤k∧k<(s'.nodes.length:Int))∧l'.length+s.next≤s'.next:=by
 unfold iP at h;obtain⟨⟨a,b⟩,h1,h2⟩:=bind_ok.1 h;have r:=g s a b hs h1;have hl:=r.lo
 obtain⟨h3,h4,h5⟩:=wQ g _ _ b l' s' r.adv.le (by
  intro k hk;obtain rfl:=List.mem_singleton.1 hk
  exact⟨by omega,r.hi⟩) h2
 have:=r.more;refine⟨(r.adv.trans h3).less (by omega),h4,?_⟩;simp only[List.length_singleton]at h5;omega
theorem fO{E:PE}{s:PS}{kinds:List UInt8→Int}(h0:kinds []=0)(h:(kinds (zj E s).text==0)=false):s.next<E.toks.length:=by
 apply Classical.byContradiction;intro hn;rw[iQ (by omega)]at h;simp[h0]at h
theorem sX{E:PE}{below:RdP}{kinds:List UInt8→Int}{once:Bool}(g:Good1 E below)(h0:kinds []=0)(hk:∀x,kinds x=0∨1≤kinds x∧kinds x≤18):∀(f:Nat) (a:Int) (s:PS) (a':Int) (s':PS),
 s.next≤E.toks.length→0≤a→a<(s.nodes.length:Int)→eH below E kinds once f a s=.ok (a',s')→Adv E 0 s s'∧a≤a'∧a'<(s'.nodes.length:Int)
 | 0,a,s,a',s',hs,ha,hb,h=>by
   simp only[eH,Except.ok.injEq,Prod.mk.injEq]at h;obtain⟨rfl,rfl⟩:=h;exact⟨Adv.refl hs,Int.le_refl _,hb⟩
 | f+1,a,s,a',s',hs,ha,hb,h=>by
   rw[eH]at h;cases hz:(kinds (zj E s).text==0)with
   | true=>
     rw[if_pos hz]at h;simp only[Except.ok.injEq,Prod.mk.injEq]at h;obtain⟨rfl,rfl⟩:=h;exact⟨Adv.refl hs,Int.le_refl _,hb⟩
   | false=>
     rw[if_neg (by rw[hz];exact Bool.false_ne_true)]at h;obtain⟨⟨b,c⟩,h1,h2⟩:=bind_ok.1 h;have hlt:=fO h0 hz;have r:=g s.take b c (by simp only[PS.take];omega) h1;have hcl:=r.adv.len;have hm:=r.more;have hlo:=r.lo;have hhi:=r.hi;simp only[PS.take]at hm hcl hlo;have hkk:=(hk (zj E s).text).resolve_left (by simpa using hz)
     have had:Adv E 0 s (addP c (kinds (zj E s).text) (zj E s) [] 0 [a,b]):=by
      refine Adv.add ((((Adv.refl hs).take hlt).trans r.adv).less (by omega)) (ndok ?_ (by simp) (by omega) (by omega) (.inl rfl) (by omega));intro k hk;simp only[List.mem_cons,List.not_mem_nil,or_false]at hk;rcases hk with rfl|rfl<;>omega
     simp only at h2;split at h2
     ·simp only[Except.ok.injEq,Prod.mk.injEq]at h2
      obtain⟨rfl,rfl⟩:=h2;exact⟨had,by omega,by simp[addP];omega⟩
     ·obtain⟨h3,h4,h5⟩:=sX g h0 hk f _ _ a' s' had.le (by omega) (by simp[addP];omega) h2
      exact⟨(had.trans h3).less (by omega),by omega,h5⟩
theorem iO{E:PE}{below:RdP}{kinds:List UInt8→Int}{once:Bool}(g:Good1 E below)(h0:kinds []=0)(hk:∀x,kinds x=0∨1≤kinds x∧kinds x≤18):Good1 E (bP below E kinds once):=by
 intro s a s' hs h;unfold bP at h;obtain⟨⟨b,c⟩,h1,h2⟩:=bind_ok.1 h;have r:=g s b c hs h1;have hm:=r.more;have hlo:=r.lo;obtain⟨h3,h4,h5⟩:=sX g h0 hk _ _ c a s' r.adv.le (by omega) r.hi h2;exact⟨(r.adv.trans h3).less (by omega),by have:=h3.next;omega,by omega,h5⟩
theorem eZ{E:PE}{s:PS}(h:s.next<E.toks.length):∃t∈E.toks,(zj E s).text=t.text:=⟨_,dR h,rfl⟩
theorem rC{E:PE}{expr:RdP}(g:Good1 E expr):∀(f:Nat) (a:Int) (s:PS) (a':Int) (s':PS),
 s.next≤E.toks.length→0≤a→a<(s.nodes.length:Int)→iR expr E f a s=.ok (a',s')→Adv E 0 s s'∧a≤a'∧a'<(s'.nodes.length:Int)
 | 0,a,s,a',s',hs,ha,hb,h=>by
   simp only[iR,Except.ok.injEq,Prod.mk.injEq]at h;obtain⟨rfl,rfl⟩:=h;exact⟨Adv.refl hs,Int.le_refl _,hb⟩
 | f+1,a,s,a',s',hs,ha,hb,h=>by
   rw[iR]at h;split at h
   ·rename_i hi
    have hlt:=eO hi;obtain⟨s1,h1,h2⟩:=bind_ok.1 h;obtain⟨rfl,hlt1,-⟩:=cB (by decide) h1
    have had:Adv E 0 s (addP s.take.take 22 (zj E s) (zj E s.take).text 0 [a]):=by
     refine Adv.add ((((Adv.refl hs).take hlt).take hlt1).less (by omega)) (ndok ?_ (by simp) (by omega) (by omega) (.inr (eZ hlt1)) (by omega));intro k hk;obtain rfl:=List.mem_singleton.1 hk;simp only[PS.take];omega
    obtain⟨h3,h4,h5⟩:=rC g f _ _ a' s' had.le (by omega) (by simp[addP];omega) h2;exact⟨(had.trans h3).less (by omega),by simp only[PS.take]at h4;omega,h5⟩
   ·split at h
    ·rename_i hi
     have hlt:=eO hi;obtain⟨⟨b,c⟩,h1,h2⟩:=bind_ok.1 h;obtain⟨s2,h6,h7⟩:=bind_ok.1 h2;obtain⟨rfl,hlt2⟩:=aX h6;have r:=g s.take b c (by simp only[PS.take];omega) h1;have hcl:=r.adv.len;have hm:=r.more;have hlo:=r.lo;have hhi:=r.hi;simp only[PS.take]at hm hcl hlo
     have had:Adv E 0 s (addP c.take 23 (zj E s) [] 0 [a,b]):=by
      refine Adv.add (((((Adv.refl hs).take hlt).trans r.adv).take hlt2).less (by omega)) (ndok ?_ (by simp) (by omega) (by omega) (.inl rfl) (by omega));intro k hk;simp only[List.mem_cons,List.not_mem_nil,or_false]at hk;simp only[PS.take];rcases hk with rfl|rfl<;>omega
     obtain⟨h3,h4,h5⟩:=rC g f _ _ a' s' had.le (by omega) (by simp[addP];omega) h7;exact⟨(had.trans h3).less (by omega),by simp only[PS.take]at h4;omega,h5⟩
    ·simp only[Except.ok.injEq,Prod.mk.injEq]at h
     obtain⟨rfl,rfl⟩:=h;exact⟨Adv.refl hs,Int.le_refl _,hb⟩
theorem cK{i:Nat}:∀k∈([]:List Int),0≤k∧k<(i:Int):=fun _ h=>by cases h
theorem kT{i:Nat}{a:Int}(h0:0≤a)(h1:a<i):∀k∈[a],0≤k∧k<(i:Int):=fun _ h=>by
 obtain rfl:=List.mem_singleton.1 h;exact⟨h0,h1⟩
theorem CI{E:PE}{expr put:RdP}(ge:Good1 E expr)(gp:Good1 E put){nm:Tk}(hnm:nm∈E.toks){s0 s:PS}(ad:Adv E 1 s0 s){a:Int}{s':PS}(h:qA expr put E nm s=.ok (a,s')):Rd E s0 a s':=by
 have hs:=ad.le;unfold qA at h;split at h
 ·rename_i hi
  have hlt:=eO hi;obtain⟨⟨l,c⟩,h1,h2⟩:=bind_ok.1 h;obtain⟨s2,h3,h4⟩:=bind_ok.1 h2;obtain⟨rfl,hlt2⟩:=aX h3;obtain⟨rfl,rfl⟩:=aV h4
  obtain⟨k1,k2,k3⟩:Adv E 0 s.take c∧(∀k∈l,0≤k∧k<(c.nodes.length:Int))∧l.length+s.take.next≤c.next:=by
   split at h1
   ·simp only[Except.ok.injEq,Prod.mk.injEq]at h1
    obtain⟨rfl,rfl⟩:=h1;exact⟨Adv.refl (by simp only[PS.take];omega),cK,by simp⟩
   ·exact jD ge (by simp only[PS.take];omega) h1
  have hl:=k1.le;exact cV ((((ad.take hlt).trans k1).take hlt2).less (by omega)) (ndok (by simpa[PS.take]using k2) (by dsimp only;omega) (by omega) (by omega) (.inr ⟨nm,hnm,rfl⟩) (by omega))
 ·split at h
  ·rename_i hi
   have hlt:=eO hi;obtain⟨⟨l,c⟩,h1,h2⟩:=bind_ok.1 h;obtain⟨s2,h3,h4⟩:=bind_ok.1 h2;obtain⟨rfl,hlt2⟩:=aX h3;obtain⟨rfl,rfl⟩:=aV h4;obtain⟨k1,k2,k3⟩:=jD gp (by simp only[PS.take];omega) h1;have hl:=k1.le;exact cV ((((ad.take hlt).trans k1).take hlt2).less (by omega)) (ndok (by simpa[PS.take]using k2) (by dsimp only;omega) (by omega) (by omega) (.inr ⟨nm,hnm,rfl⟩) (by omega))
  ·obtain⟨rfl,rfl⟩:=aV h
   exact cV ad (ndok cK (by simp) (by omega) (by omega) (.inr ⟨nm,hnm,rfl⟩) (by omega))
theorem EX{E:PE}(tk:lJ E){expr put:RdP}(ge:Good1 E expr)(gp:Good1 E put):Good1 E (xY expr put E):=by
 intro s a s' hs h;unfold xY at h;split at h
 ·rename_i hk
  have hk:=eq_of_beq hk;have hlt:=oF (by decide) hk;obtain⟨rfl,rfl⟩:=aV h;have hv:=tk _ (dR hlt) hk;exact cV ((Adv.refl hs).take hlt) (ndok cK (by simp) (by omega) (by omega) (.inl rfl) (by omega))
 ·split at h
  ·rename_i hi
   obtain⟨rfl,rfl⟩:=aV h;exact cV ((Adv.refl hs).take (eO hi)) (ndok cK (by simp) (by omega) (by omega) (.inl rfl) (by omega))
  ·split at h
   ·rename_i hi
    obtain⟨rfl,rfl⟩:=aV h;exact cV ((Adv.refl hs).take (eO hi)) (ndok cK (by simp) (by omega) (by omega) (.inl rfl) (by omega))
   ·split at h
    ·rename_i hi
     have hlt:=eO hi;obtain⟨⟨b,c⟩,h1,h2⟩:=bind_ok.1 h;obtain⟨s2,h3,h4⟩:=bind_ok.1 h2;obtain⟨rfl,hlt2⟩:=aX h3;simp only[Except.ok.injEq,Prod.mk.injEq]at h4;obtain⟨rfl,rfl⟩:=h4;have r:=ge s.take b c (by simp only[PS.take];omega) h1;have hm:=r.more;have hlo:=r.lo;have hhi:=r.hi;simp only[PS.take]at hm hlo;exact⟨((((Adv.refl hs).take hlt).trans r.adv).take hlt2).less (by omega),by simp only[PS.take];omega,hlo,hhi⟩
    ·split at h
     ·rename_i hi
      have hlt:=eO hi;obtain⟨⟨l,c⟩,h1,h2⟩:=bind_ok.1 h;obtain⟨s2,h3,h4⟩:=bind_ok.1 h2;obtain⟨rfl,hlt2⟩:=aX h3;obtain⟨rfl,rfl⟩:=aV h4;obtain⟨k1,k2,k3⟩:=jD ge (by simp only[PS.take];omega) h1;have hl:=k1.le;exact cV (((((Adv.refl hs).take hlt).trans k1).take hlt2).less (by omega)) (ndok (by simpa[PS.take]using k2) (by dsimp only;omega) (by omega) (by omega) (.inl rfl) (by omega))
     ·obtain⟨s1,h1,h2⟩:=bind_ok.1 h
      obtain⟨rfl,hlt,-⟩:=cB (by decide) h1;exact CI ge gp (dR hlt) ((Adv.refl hs).take hlt) h2
theorem yN{E:PE}(tk:lJ E){kindOf:RdP}(g:Good1 E kindOf):Good1 E (lQ kindOf E):=by
 intro s a s' hs h;unfold lQ at h;split at h
 ·rename_i hi
  obtain⟨rfl,rfl⟩:=aV h;exact cV ((Adv.refl hs).take (eO hi)) (ndok cK (by simp) (by omega) (by omega) (.inl rfl) (by omega))
 ·split at h
  ·rename_i hi
   obtain⟨rfl,rfl⟩:=aV h;exact cV ((Adv.refl hs).take (eO hi)) (ndok cK (by simp) (by omega) (by omega) (.inl rfl) (by omega))
  ·split at h
   ·rename_i hi
    have hlt:=eO hi;obtain⟨⟨b,c⟩,h1,h2⟩:=bind_ok.1 h;obtain⟨s2,h3,h4⟩:=bind_ok.1 h2;obtain⟨rfl,hlt2⟩:=aX h3;obtain⟨s3,h5,h6⟩:=bind_ok.1 h4;obtain⟨rfl,hlt3,hk3⟩:=cB (by decide) h5;obtain⟨s4,h7,h8⟩:=bind_ok.1 h6;obtain⟨rfl,hlt4⟩:=aX h7;obtain⟨rfl,rfl⟩:=aV h8;have r:=g s.take b c (by simp only[PS.take];omega) h1;have hm:=r.more;have hlo:=r.lo;have hhi:=r.hi;have hv:=tk _ (dR hlt3) hk3;exact cV (((((((Adv.refl hs).take hlt).trans r.adv).take hlt2).take hlt3).take hlt4).less (by omega)) (ndok (kT (by omega) (by simpa[PS.take]using hhi)) (by simp) (by omega) (by omega) (.inl rfl) (by omega))
   ·obtain⟨s1,h1,h2⟩:=bind_ok.1 h
    obtain⟨rfl,hlt,-⟩:=cB (by decide) h1;obtain⟨rfl,rfl⟩:=aV h2;exact cV ((Adv.refl hs).take hlt) (ndok cK (by simp) (by omega) (by omega) (.inr (eZ hlt)) (by omega))
theorem wL{E:PE}{rd:RdP}(g:Good1 E rd){k:Int}(hk:1≤k∧k≤39):Good1 E (fun s=>(cA E s 1).bind fun s1=>(cM E s1 qH).bind fun s2=>(rd s2).bind fun r=>addR r.2 k (zj E s) (zj E s).text 0 [r.1]):=by
 intro s a s' hs h;obtain⟨s1,h1,h2⟩:=bind_ok.1 h;obtain⟨rfl,hlt,-⟩:=cB (by decide) h1;obtain⟨s2,h3,h4⟩:=bind_ok.1 h2;obtain⟨rfl,hlt2⟩:=aX h3;obtain⟨⟨b,c⟩,h5,h6⟩:=bind_ok.1 h4;obtain⟨rfl,rfl⟩:=aV h6;have r:=g s.take.take b c (by simp only[PS.take]at hlt2⊢;omega) h5;have hlo:=r.lo;have hhi:=r.hi;exact cV (((((Adv.refl hs).take hlt).take hlt2).trans r.adv).less (by omega)) (ndok (kT (by omega) hhi) (by simp) (by omega) (by omega) (.inr (eZ hlt)) (by omega))
theorem FF{E:PE}{expr or:RdP}(g:Good1 E expr)(go:Good1 E or):Good1 E (yH expr or E):=by
 intro s a s' hs h;unfold yH at h;split at h
 ·rename_i hi
  have hlt:=eO hi;obtain⟨⟨b,c⟩,h1,h2⟩:=bind_ok.1 h;obtain⟨s2,h3,h4⟩:=bind_ok.1 h2;obtain⟨rfl,hlt2⟩:=aX h3;obtain⟨⟨d,e⟩,h5,h6⟩:=bind_ok.1 h4;obtain⟨s4,h7,h8⟩:=bind_ok.1 h6;obtain⟨rfl,hlt4⟩:=aX h7;obtain⟨⟨f,i⟩,h9,h10⟩:=bind_ok.1 h8;obtain⟨rfl,rfl⟩:=aV h10;have r:=g s.take b c (by simp only[PS.take];omega) h1;have r2:=g c.take d e (by simp only[PS.take]at hlt2⊢;omega) h5;have r3:=g e.take f i (by simp only[PS.take]at hlt4⊢;omega) h9;have l1:=r.adv.len;have l2:=r2.adv.len;have l3:=r3.adv.len;have a1:=r.lo;have a2:=r2.lo;have a3:=r3.lo;have b1:=r.hi;have b2:=r2.hi;have b3:=r3.hi;simp only[PS.take]at l1 l2 l3 a1 a2 a3;refine cV (((((((Adv.refl hs).take hlt).trans r.adv).take hlt2).trans r2.adv).take hlt4).trans r3.adv |>.less (by omega)) (ndok ?_ (by simp;omega) (by omega) (by omega) (.inl rfl) (by omega));intro k hk;simp only[List.mem_cons,List.not_mem_nil,or_false]at hk;simp only;rcases hk with rfl|rfl|rfl<;>omega
 ·split at h
  ·rename_i hi
   have hlt:=eO hi;obtain⟨s1,h1,h2⟩:=bind_ok.1 h;obtain⟨rfl,hlt1,-⟩:=cB (by decide) h1;obtain⟨s2,h3,h4⟩:=bind_ok.1 h2;obtain⟨rfl,hlt2⟩:=aX h3;obtain⟨⟨b,c⟩,h5,h6⟩:=bind_ok.1 h4;obtain⟨s4,h7,h8⟩:=bind_ok.1 h6;obtain⟨rfl,hlt4⟩:=aX h7;obtain⟨⟨f,i⟩,h9,h10⟩:=bind_ok.1 h8;obtain⟨rfl,rfl⟩:=aV h10;have r:=g s.take.take.take b c (by simp only[PS.take]at hlt2⊢;omega) h5;have r3:=g c.take f i (by simp only[PS.take]at hlt4⊢;omega) h9;have l1:=r.adv.len;have l3:=r3.adv.len;have a1:=r.lo;have a3:=r3.lo;have b1:=r.hi;have b3:=r3.hi;simp only[PS.take]at l1 l3 a1 a3;refine cV (((((((Adv.refl hs).take hlt).take hlt1).take hlt2).trans r.adv).take hlt4).trans r3.adv |>.less (by omega)) (ndok ?_ (by simp) (by omega) (by omega) (.inr (eZ hlt1)) (by omega));intro k hk;simp only[List.mem_cons,List.not_mem_nil,or_false]at hk;simp only;rcases hk with rfl|rfl<;>omega
  ·exact go s a s' hs h
theorem tV{E:PE}{self below:RdP}(g:Good1 E self)(gb:Good1 E below){nt:Int}(hn:1≤nt∧nt≤39){x:List UInt8}:Good1 E (jR nt x self below E):=by
 intro s a s' hs h;unfold jR at h;split at h
 ·rename_i hi
  have hlt:=eO hi;obtain⟨⟨b,c⟩,h1,h2⟩:=bind_ok.1 h;obtain⟨rfl,rfl⟩:=aV h2;have r:=g s.take b c (by simp only[PS.take];omega) h1;have hlo:=r.lo;exact cV ((((Adv.refl hs).take hlt).trans r.adv).less (by omega)) (ndok (kT (by omega) r.hi) (by simp) (by omega) (by omega) (.inl rfl) (by omega))
 ·exact gb s a s' hs h
theorem KO(x:List UInt8):orK x=0∨1≤orK x∧orK x≤18:=by unfold orK;split<;>omega
theorem IU(x:List UInt8):andK x=0∨1≤andK x∧andK x≤18:=by unfold andK;split<;>omega
theorem IW(x:List UInt8):cmpK x=0∨1≤cmpK x∧cmpK x≤18:=by
 unfold cmpK
 repeat' split
 all_goals omega
theorem JR(x:List UInt8):sumK x=0∨1≤sumK x∧sumK x≤18:=by
 unfold sumK
 repeat' split
 all_goals omega
theorem GU(x:List UInt8):rJ x=0∨1≤rJ x∧rJ x≤18:=by
 unfold rJ
 repeat' split
 all_goals omega
theorem tE{E:PE}(tk:lJ E):∀(f:Nat) (nt:NT),Good1 E (aA E f nt)
 |0,nt=>fun s a s' _ h=>by simp[aA]at h
 | f+1,nt=>by
   have IH:=tE tk f
   cases nt with
   |expr=>exact fun s a s' hs h=>FF (IH .expr) (IH .or) s a s' hs (by rwa[aA]at h)
   |or=>exact fun s a s' hs h=>iO (IH .and) (by decide) KO s a s' hs (by rwa[aA]at h)
   |and=>exact fun s a s' hs h=>iO (IH .not) (by decide) IU s a s' hs (by rwa[aA]at h)
   |not=>exact fun s a s' hs h=>tV (nt:=5) (x:=wNot) (IH .not) (IH .cmp) (by omega) s a s' hs (by rwa[aA]at h)
   |cmp=>exact fun s a s' hs h=>iO (IH .sum) (by decide) IW s a s' hs (by rwa[aA]at h)
   |sum=>exact fun s a s' hs h=>iO (IH .term) (by decide) JR s a s' hs (by rwa[aA]at h)
   |term=>exact fun s a s' hs h=>iO (IH .unary) (by decide) GU s a s' hs (by rwa[aA]at h)
   |unary=>exact fun s a s' hs h=>tV (nt:=4) (x:=oR) (IH .unary) (IH .postf) (by omega) s a s' hs (by rwa[aA]at h)
   | postf=>
     intro s a s' hs h;rw[aA]at h;obtain⟨⟨b,c⟩,h1,h2⟩:=bind_ok.1 h;have r:=IH .atom s b c hs h1;have hlo:=r.lo;have hm:=r.more;obtain⟨h3,h4,h5⟩:=rC (IH .expr) _ b c a s' r.adv.le (by omega) r.hi h2;exact⟨(r.adv.trans h3).less (by omega),by have:=h3.next;omega,by omega,h5⟩
   |atom=>exact fun s a s' hs h=>EX tk (IH .expr) (IH .put) s a s' hs (by rwa[aA]at h)
   |kindOf=>exact fun s a s' hs h=>yN tk (IH .kindOf) s a s' hs (by rwa[aA]at h)
   |param=>exact fun s a s' hs h=>wL (IH .kindOf) (k:=34) (by omega) s a s' hs (by rwa[aA,tC]at h)
   |put=>exact fun s a s' hs h=>wL (IH .expr) (k:=25) (by omega) s a s' hs (by rwa[aA,putP]at h)
end
end Go.Proofs.YtipjhljnkocioaaGreatDoor
