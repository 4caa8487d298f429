/- Part of a proof. -/
import Derived.Test.YtokdgiphdnjeoaaGreatDoorQ03
import Derived.Test.YtokdgiphdnjeoaaGreatDoorQ06
import Derived.Maps.AppendAt
import Derived.WalkSmall
import Derived.Laws.OwnMore
import Derived.Deep.QuietTactic
import Derived.BigQuiet
import Derived.Deep.RegionHeld3
set_option maxRecDepth 100000
set_option maxHeartbeats 8000000
set_option linter.unusedVariables false
set_option linter.unusedSimpArgs false
open Go.Proofs.Tryz
namespace Go.Proofs.YtokdgiphdnjeoaaGreatDoor
section
open Go.RowKit
theorem jU:(prog.info? 3).map (fun i=>(i.zero,i.size,i.bytes))=some (some (.int .i64 0),1,8):=by kernel_rfl
theorem MG:(prog.info? 5).map (fun i=>(i.zero,i.size,i.bytes))=some (some (.int .u8 0),1,1):=by kernel_rfl
theorem iZ:(prog.info? 57).map (fun i=>(i.zero,i.size,i.bytes))=some (some (.agg #[.int .u8 0,.string ⟨#[]⟩,.int .i64 0,.slice none 0 0,.int .i64 0]),5,64):=by kernel_rfl
theorem bM:prog.underlying 23=some (.slice 3):=by kernel_rfl
theorem IV:prog.underlying 76=some (.slice 5):=by kernel_rfl
theorem cZ:prog.underlying 22=some (.slice 57):=by kernel_rfl
abbrev intV(n:Int):Value:=.int .i64 n
abbrev zm(l:List Int):List Value:=l.map intV
structure Nd where
 kind:Int
 text:List UInt8
 n:Int
 kids:List Int
 pos:Int
deriving DecidableEq
structure Tr where
 nodes:List Nd
 items:List Int
deriving DecidableEq
def Nd.cells(d:Nd)(a:Option Addr×Nat):List Value:=[.int .u8 d.kind,strV d.text,intV d.n,.slice a.1 d.kids.length a.2,intV d.pos]
def zI:List Nd→List (Option Addr×Nat)→List Value
 |d::ds,a::ks=>d.cells a++zI ds ks
 |_,_=>[]
def Nodes(w:World)(a:Option Addr)(c:Nat)(ns:List Nd):Prop:=
 ∃ks:List (Option Addr×Nat),ks.length=ns.length∧Row 5 w a ns.length c (zI ns ks)∧∀i (h:i<ns.length) (k:i<ks.length),Row 1 w ks[i].1 ns[i].kids.length ks[i].2 (zm ns[i].kids)
theorem lG:∀(ns:List Nd) (ks:List (Option Addr×Nat)),ks.length=ns.length→(zI ns ks).length=ns.length*5
 | [],[],_=>rfl
 | d::ns,a::ks,h=>by
   simp only[zI,List.length_append,Nd.cells,List.length_cons,List.length_nil,lG ns ks (by simpa using h)];omega
 | [],_::_,h=>by simp at h
 |_::_,[],h=>by simp at h
theorem qT:∀(ns:List Nd) (ks:List (Option Addr×Nat)) (hk:ks.length=ns.length) (i:Nat) (h:i<ns.length) (j:Nat) (hj:j<5),(zI ns ks)[i*5+j]?=(ns[i].cells (ks[i]'(by omega)))[j]?
 | d::ns,a::ks,hk,0,_,j,hj=>by
   simp only[zI,Nat.zero_mul,Nat.zero_add,List.getElem_cons_zero];rw[List.getElem?_append_left (by simp[Nd.cells];omega)]
 | d::ns,a::ks,hk,i+1,h,j,hj=>by
   simp only[zI,List.getElem_cons_succ];rw[List.getElem?_append_right (by simp[Nd.cells];omega),←qT ns ks (by simpa using hk) i (by simpa using h) j hj];congr 1;simp[Nd.cells];omega
 | [],_,_,_,h,_,_=>by simp at h
 |_::_,[],hk,_,_,_,_=>by simp at hk
theorem Nodes.mono{w w':World}{a:Option Addr}{c:Nat}{ns:List Nd}{B:Nat}(h:Nodes w a c ns)(hb:Below B w w')(hB:w.heap.size≤B):Nodes w' a c ns:=by
 obtain⟨ks,h1,h2,h3⟩:=h;exact⟨ks,h1,h2.mono hb hB,fun i h k=>(h3 i h k).mono hb hB⟩
theorem Nodes.at{w:World}{a:Option Addr}{c:Nat}{ns:List Nd}(h:Nodes w a c ns){i:Nat}(hi:i<ns.length) :
 ∃ b o ka kc,a=some ⟨b,o,none⟩∧b<w.heap.size∧w.cell? ⟨b,o+i*5,none⟩=some (.int .u8 ns[i].kind)∧w.cell? ⟨b,o+i*5+1,none⟩=some (strV ns[i].text) ∧
   w.cell? ⟨b,o+i*5+2,none⟩=some (intV ns[i].n)∧w.cell? ⟨b,o+i*5+3,none⟩=some (.slice ka ns[i].kids.length kc)∧w.cell? ⟨b,o+i*5+4,none⟩=some (intV ns[i].pos) ∧
   Row 1 w ka ns[i].kids.length kc (zm ns[i].kids):=by
 obtain⟨ks,h1,h2,h3⟩:=h;obtain⟨b,o,rfl,hb,hc⟩:=h2.some (by omega);have hl:=lG ns ks h1
 have key:∀j (hj:j<5),w.cell? ⟨b,o+i*5+j,none⟩=(ns[i].cells (ks[i]'(by omega)))[j]?:=by
  intro j hj;have hlt:i*5+j<(zI ns ks).length:=by omega
  rw[Nat.add_assoc,hc (i*5+j) hlt,←qT ns ks h1 i hi j hj,List.getElem?_eq_getElem hlt]
 exact⟨b,o,_,_,rfl,hb,key 0 (by omega),key 1 (by omega),key 2 (by omega),key 3 (by omega),key 4 (by omega),h3 i hi (by omega)⟩
abbrev Ints(w:World)(a:Option Addr)(c:Nat)(l:List Int):Prop:=Row 1 w a l.length c (zm l)
theorem Ints.at{w:World}{a:Option Addr}{c:Nat}{l:List Int}(h:Ints w a c l){i:Nat}(hi:i<l.length):∃b o,a=some ⟨b,o,none⟩∧b<w.heap.size∧w.cell? ⟨b,o+i,none⟩=some (intV l[i]):=by
 obtain⟨b,o,rfl,hb,hc⟩:=h.some (by omega);exact⟨b,o,rfl,hb,by rw[hc i (by simpa using hi)];simp⟩
structure TreeV where
 na:Option Addr
 nc:Nat
 ia:Option Addr
 ic:Nat
def TreeV.val(v:TreeV)(t:Tr):Value:=.agg #[.slice v.na t.nodes.length v.nc,.slice v.ia t.items.length v.ic]
structure IsTree (w:World) (v:TreeV) (t:Tr):Prop where
 nodes:Nodes w v.na v.nc t.nodes
 items:Ints w v.ia v.ic t.items
theorem IsTree.mono{w w':World}{v:TreeV}{t:Tr}{B:Nat}(h:IsTree w v t)(hb:Below B w w')(hB:w.heap.size≤B):IsTree w' v t:=⟨h.nodes.mono hb hB,Row.mono h.items hb hB⟩
structure Bd (t:Tr):Prop where
 n:t.nodes.length≤1000000
 i:t.items.length≤1000000
 k:∀d∈t.nodes,d.kids.length≤1000000
 s:∀d∈t.nodes,d.text.length≤1000000000
theorem bcell{W w1:World}(hb:Below W.heap.size W w1):(∀b o,b<W.heap.size→w1.cell? ⟨b,o,none⟩=W.cell? ⟨b,o,none⟩)∧(∀b o,b<W.heap.size→w1.frozen? ⟨b,o,none⟩=W.frozen? ⟨b,o,none⟩):=
 ⟨fun b o h=>hb.cell (p:=⟨b,o,none⟩) h,fun b o h=>hb.frozen (p:=⟨b,o,none⟩) h⟩
def RetInts(w:World)(l:List Int)(e:Ending)(w':World):Prop:=
 ∃a c,e=.returned (.slice a l.length c)∧w'.ownsRow w.heap.size 3 1 (.slice a l.length c) l.length (zm l)∧Below w.heap.size w w'
def zq(w:World)(b:Bool)(e:Ending)(w':World):Prop:=e=.returned (.bool b)∧Below w.heap.size w w'
def dL(w:World)(n:Int)(e:Ending)(w':World):Prop:=e=.returned (intV n)∧Below w.heap.size w w'
theorem fC(l:List Int):∀u∈zm l,u.oneCell'=true:=by
 intro u hu;obtain⟨c,_,rfl⟩:=List.mem_map.1 hu;rfl
theorem zy{W W':World}{base:Nat}{e:TypeId}{size:Nat}{v:Value}{n:Nat}{xs:List Value}(h:W.ownsRow base e size v n xs)(hb:Below W.heap.size W W'):W'.ownsRow base e size v n xs:=
 h.kept (row:=none) ⟨hb.os,hb.tape,hb.output,hb.size,fun k hk _=>hb.block k hk⟩ (by cases hv:v.ownBlock with|none=>exact .inl rfl|some k=>exact .inr (by simp))
theorem EW{w W W':World}{B:Nat}{e:TypeId}{size:Nat}{v:Value}{n:Nat}{xs:List Value}(hb:Below B w W)(h:W.ownsRow B e size v n xs)(hg:W.grownBy W' v.ownBlock)(hB:B≤W.heap.size):Below B w W':=
 hb.grown hg hB (fun k e=>(h.lt k e).1)
theorem zU{W:World}{B:Nat}{a:Option Addr}{c:Nat}{l:List Int}(h:W.ownsRow B 3 1 (.slice a l.length c) l.length (zm l)):Ints W a c l:=by
 obtain⟨a',c',e,hr⟩:=bK h;simp at e;obtain⟨rfl,rfl⟩:=e;exact hr
theorem aY{W:World}{B B':Nat}{e:TypeId}{k:Nat}{v:Value}{n:Nat}{xs:List Value}(h:W.ownsRow B e k v n xs)(hB:B'≤B):W.ownsRow B' e k v n xs:=by
 obtain⟨h1,h2⟩:=h;refine⟨h1,?_⟩;rcases h2 with h2|⟨g,cap,cur,h3,h4,h5⟩
 ·exact .inl h2
 ·exact .inr ⟨g,cap,cur,h3,Nat.le_trans hB h4,h5⟩
abbrev OwnI(W:World)(B:Nat)(a:Option Addr)(c:Nat)(l:List Int):Prop:=W.ownsRow B 3 1 (.slice a l.length c) l.length (zm l)
theorem RetInts.mk{w w':World}{B:Nat}{a:Option Addr}{c:Nat}{l:List Int}(h:OwnI w' B a c l)(hB:w.heap.size≤B)(hb:Below w.heap.size w w'):RetInts w l (.returned (.slice a l.length c)) w':=
 ⟨a,c,rfl,aY h hB,hb⟩
theorem eC{W W':World}{B:Nat}{e:TypeId}{k:Nat}{v:Value}{n:Nat}{xs:List Value}(hown:W.ownsRow B e k v n xs)(hg:W.grownBy W' v.ownBlock)(hB:B≤W.heap.size) :
 ∀B' A,B'≤B→Below B' A W→Below B' A W':=fun B' A h1 h2=>h2.grown hg (Nat.le_trans h1 hB) (fun k e=>Nat.le_trans h1 (hown.lt k e).1)
theorem iG(W:World)(e:TypeId)(k:Nat){n B:Nat}(hn:W.heap.size=n)(hB:B≤n):(W.alloc (.cells #[] e)).ownsRow B e k (.slice (some ⟨n,0,none⟩) 0 0) 0 []:=by
 subst hn;exact World.ownsRow_made W #[] 0 hB (by decide) (by simp)
def gK(a:Option Addr)(g:Nat):Prop:=∀p,a=some p→p.block≠g
theorem dM{P:Program}(w:World)(B:Nat)(t ty e:TypeId)(i:TypeInfo)(z:Value)(k bytes:Nat)(ht:P.underlying t=some (.slice e))(hi:P.info? e=some i)(hz:i.zero=some z)
 (hsize:i.size=k)(hby:i.bytes=bytes)(hzs:z.cells.size=k)(hsz:0<k)
 (av:Option Addr)(n cv:Nat)(xs:List Value)(hown:w.ownsRow B e k (.slice av n cv) n xs)(ax:Option Addr)(m c:Nat)(news:List Value)(hr:Row k w ax m c news)(h1:∀u∈news,u.oneCell'=true)
 (h63:n+m≤maxLen)(hbytes:(n+m)*bytes≤140737488355328)(hB:B≤w.heap.size){a':Option Addr}{n' c':Nat}{w':World}
 (hrun:(Builtin.append_ #[t,t] ty #[.slice av n cv,.slice ax m c]).run P w=.ok (.slice a' n' c') w'):∀p,a'=some p→av=some p∨w.heap.size≤p.block:=by
 obtain⟨hl,hmc,hnil,hcell⟩:=hr
 cases ax with
 | none=>
   obtain rfl:=hnil rfl;obtain rfl:m=0:=by omega
   have:=run_append_owned_none (P:=P) w B t ty e i k ht hi (.slice av n cv) n xs hown;rw[this]at hrun;injection hrun with h2 _;injection h2 with h3 _ _;intro p hp;exact .inl (h3.trans hp)
 | some a=>
   have hnews:∀j u,news[j]?=some u→w.cell? (a.add j)=some u:=by
    intro j u hj;have hj':j<news.length:=(List.getElem?_eq_some_iff.1 hj).1;rcases hcell with h0|⟨b,o,e,_,hc⟩
    ·subst h0;omega
    ·obtain rfl:=Option.some.inj e
     have hp:(⟨b,o,none⟩:Addr).add j=⟨b,o+j,none⟩:=by unfold Addr.add;split<;>simp_all
     rw[hp,hc j hj',←hj,List.getElem?_eq_getElem hj']
   rcases hown.2 with⟨h0,h00⟩|⟨g,cap,cur,h0,hbg,hg,hnc,hcm,hcs,htake⟩
   ·simp only[Value.slice.injEq]at h0
    obtain⟨rfl,rfl,rfl⟩:=h0;have hxs:xs=[]:=List.eq_nil_of_length_eq_zero (by simpa using hown.1);subst hxs;obtain⟨v',w2,hr2,h2,_,_⟩:=run_append_own (P:=P) w w.heap.size t ty e i z k bytes ht hi hz hsize hby hzs hsz (.slice none 0 0) 0 [] (World.ownsRow_nil w _ e k) a m c news hl hnews h1 h63 hbytes nlr;rw[hr2]at hrun;injection hrun with h3 _;subst h3;rintro p rfl;exact .inr (h2.lt p.block rfl).1
   ·simp only[Value.slice.injEq,true_and]at h0
    obtain⟨rfl,rfl⟩:=h0;by_cases hroom:n+m≤cv
    ·obtain⟨w2,hr2,_⟩:=run_append_fits (P:=P) w B t ty e i k ht hi hsize g n cv xs hown a m c news hl hnews h1 hroom
     rw[hr2]at hrun;injection hrun with h3 _;injection h3 with h4 _ _;intro p hp;exact .inl (h4.trans hp)
    ·have holds:∀j u,xs[j]?=some u→w.cell? ((⟨g,0,none⟩:Addr).add j)=some u:=hown.cells (g:=g) rfl
     subst hsize
     subst hby
     have hr2:=run_append_grow (P:=P) w t ty e i z ht hi hz ⟨g,0,none⟩ n cv xs hown.1 holds a m c news hl hnews (by omega) (by simp only[maxLen]at h63;omega) (growslice_fits (by omega) hbytes);rw[hr2]at hrun;injection hrun with h3 _;injection h3 with h4 _ _;rintro p rfl;injection h4 with h5;subst h5;exact .inr nlr
theorem eA{W:World}{ops:Array Oper}{rest:List Oper}{o:Oper}{a:Act}{Q:Exit→Act→World→Prop}(hgd:o.guard=none)(s x:Operand)(t e:TypeId)(z:Value)(k bytes:Nat)
 (ho:o.op=.call { callee:=.builtin .append,args:=#[s,x],argTypes:=#[t,t] })
 (ht:prog.underlying t=some (.slice e))(hinfo:(prog.info? e).map (fun i=>(i.zero,i.size,i.bytes))=some (some z,k,bytes))(hzs:z.cells.size=k)(hsz:0<k)
 {B:Nat}{av:Option Addr}{cv n:Nat}{xs:List Value}(hs:a.eval s=.slice av n cv)(hown:W.ownsRow B e k (.slice av n cv) n xs)
 {ax:Option Addr}{m c:Nat}{news:List Value}(hx:a.eval x=.slice ax m c)(hr:Row k W ax m c news)(h1:∀u∈news,u.oneCell'=true)
 (h63:n+m≤maxLen)(hbytes:(n+m)*bytes≤140737488355328)(hB:B≤W.heap.size)
 (h:∀a' c' w',w'.ownsRow B e k (.slice a' (n+m) c') (n+m) (xs++news)→W.grownBy w' (Value.slice av n cv).ownBlock→(∀p,a'=some p→av=some p∨W.heap.size≤p.block)→wpList prog ops Q rest (a.put o.dst (.slice a' (n+m) c')) w'):wpList prog ops Q (o::rest) a W:=by
 obtain⟨i0,hi,hz0,hz1,hz2⟩:=info_parts hinfo;refine wpList_plain hgd fun K hK=>?_;obtain⟨v',w',hrun,h2,h3⟩:=aZ (P:=prog) W B t o.type e i0 z k bytes ht hi hz0 hz1 hz2 hzs hsz (.slice av n cv) n xs hown ax m c news hr h1 h63 hbytes hB;obtain⟨a',c',rfl,_⟩:=bK h2;have hw:=dM (P:=prog) W B t o.type e i0 z k bytes ht hi hz0 hz1 hz2 hzs hsz av n cv xs hown ax m c news hr h1 h63 hbytes hB hrun;unfold Oper.wp execOp;simp only[ho,resolve,invoke,builtin,Sem.run_bind,Sem.run_pure,Result.andThen_ok,List.map_toArray,List.map_cons,List.map_nil,hs,hx,hrun];exact hK _ _ (h a' c' w' h2 h3 hw)
theorem kP{W W':World}{av a':Option Addr}{n cv:Nat}(hg:W.grownBy W' (Value.slice av n cv).ownBlock)(hw:∀p,a'=some p→av=some p∨W.heap.size≤p.block) :
 ∀g,g<W.heap.size→gK av g→W'.heap[g]?=W.heap[g]?∧gK a' g:=by
 intro g hlt hn;refine⟨hg.block g hlt ?_,fun p hp=>?_⟩
 ·cases av with
  |none=>simp[Value.ownBlock]
  |some p=>exact fun e=>hn p rfl (by simpa[Value.ownBlock]using e.symm)
 ·rcases hw p hp with h|h
  ·exact hn p h
  ·omega
theorem zR{W:World}{ops:Array Oper}{rest:List Oper}{o:Oper}{a:Act}{Q:Exit→Act→World→Prop}(hgd:o.guard=none)(s x:Operand)
 (ho:o.op=.call { callee:=.builtin .append,args:=#[s,x],argTypes:=#[23,23] })
 {B:Nat}{av:Option Addr}{cv:Nat}{l:List Int}(hs:a.eval s=.slice av l.length cv)(hown:OwnI W B av cv l)
 {ax:Option Addr}{m c:Nat}{news:List Int}(hx:a.eval x=.slice ax m c)(hr:Row 1 W ax m c (zm news))
 (hbytes:l.length+m≤4398046511104)(hB:B≤W.heap.size)
 (h:∀a' c' w' l',Hid (l'=l++news)→l'.length≤l.length+m→OwnI w' B a' c' l'→(∀B' A,B'≤B→Below B' A W→Below B' A w')→(∀g,g<W.heap.size→gK av g→w'.heap[g]?=W.heap[g]?∧gK a' g)→wpList prog ops Q rest (a.put o.dst (.slice a' l'.length c')) w'):wpList prog ops Q (o::rest) a W:=by
 have hm:m=news.length:=by have:=hr.1;simpa using this.symm
 subst hm;refine eA hgd s x 23 3 (.int .i64 0) 1 8 ho bM jU rfl (by decide) hs hown hx hr (fC _) (by unfold maxLen;omega) (by omega) hB ?_;intro a' c' w' h1 h2 h3;have e:l.length+news.length=(l++news).length:=by simp
 have e2:zm l++zm news=zm (l++news):=by simp
 rw[e,e2]at h1;rw[e];exact h a' c' w' _ (Hd rfl) (by simp) h1 (eC hown h2 hB) (kP h2 h3)
theorem zV{W:World}{ops:Array Oper}{rest:List Oper}{o:Oper}{a:Act}{Q:Exit→Act→World→Prop}(hgd:o.guard=none)(s x:Operand)
 (ho:o.op=.call { callee:=.builtin .append,args:=#[s,x],argTypes:=#[23,23] })
 {B:Nat}{av:Option Addr}{cv:Nat}{l:List Int}(hs:a.eval s=.slice av l.length cv)(hown:OwnI W B av cv l)
 {ax:Option Addr}{m c:Nat}{news:List Int}(hx:a.eval x=.slice ax m c)(hr:Row 1 W ax m c (zm news))
 (hbytes:l.length+m≤4398046511104)(hB:B≤W.heap.size)
 (h:∀a' c' w' l',Hid (l'=l++news)→l'.length≤l.length+m→OwnI w' B a' c' l'→(∀B' A,B'≤B→Below B' A W→Below B' A w')→wpList prog ops Q rest (a.put o.dst (.slice a' l'.length c')) w'):wpList prog ops Q (o::rest) a W:=
 zR hgd s x ho hs hown hx hr hbytes hB fun a' c' w' l' h1 h2 h3 h4 _=>h a' c' w' l' h1 h2 h3 h4
theorem aK(w:World)(x:Value)(e:TypeId):Row 1 (w.alloc (.cells #[x] e)) (some ⟨w.heap.size,0,none⟩) 1 1 [x]:=Row.made w [x] e rfl nlr
def idxs(p:Nat→Bool)(k:Nat):List Int:=((List.range k).filter p).map Int.ofNat
theorem oZ(p:Nat→Bool)(k:Nat):idxs p (k+1)=idxs p k++(if p k then [(k:Int)]else []):=by
 unfold idxs;rw[List.range_succ,List.filter_append,List.map_append];congr 1;cases h:p k<;>simp[List.filter_cons,h]
theorem nK{p:Nat→Bool}{k:Nat}(h:p k=true):idxs p (k+1)=idxs p k++[(k:Int)]:=by rw[oZ,if_pos h]
theorem xB{p:Nat→Bool}{k:Nat}(h:p k=false):idxs p (k+1)=idxs p k:=by rw[oZ,if_neg (by rw[h];exact Bool.false_ne_true),List.append_nil]
theorem kQ(p:Nat→Bool)(k:Nat):(idxs p k).length≤k:=by
 unfold idxs;rw[List.length_map];exact Nat.le_trans (List.length_filter_le _ _) (by simp)
def mUp(n:Nat)(v:Value):Nat:=if intOf v<0 then 0 else n+1-(intOf v).toNat
theorem pM{n:Nat}{m p:Int}(h0:0≤m)(hm:m<n)(h:0≤p→m<p):mUp n (intV p)<mUp n (intV m):=by
 have e:∀x:Int,mUp n (intV x)=if x<0 then 0 else n+1-x.toNat:=fun _=>rfl;rw[e,e];split<;>split<;>omega
abbrev boxT(w:World)(v:TreeV)(t:Tr):World:=w.alloc (.cells #[.slice v.na t.nodes.length v.nc,.slice v.ia t.items.length v.ic] 25)
theorem boxed{w wr:World}{v:TreeV}{t:Tr}(hb:Below (w.heap.size+1) (boxT w v t) wr)(h:IsTree w v t) :
 wr.cell? ⟨w.heap.size,0,none⟩=some (.slice v.na t.nodes.length v.nc)∧wr.cell? ⟨w.heap.size,1,none⟩=some (.slice v.ia t.items.length v.ic)∧IsTree wr v t∧(w.heap.size+1≤wr.heap.size∧w.heap.size<wr.heap.size∧w.heap.size≤wr.heap.size)∧Below w.heap.size w wr:=by
 have hs:=hb.size;simp only[World.size_alloc]at hs;have hw:Below w.heap.size w wr:=((Below.refl _ w).alloc nlr _).trans (hb.mono (by simp));have hb':Below (boxT w v t).heap.size (boxT w v t) wr:=by simpa using hb
 obtain⟨hc,_⟩:=bcell hb';exact⟨(hc _ _ (by simp)).trans (by simp),(hc _ _ (by simp)).trans (by simp),h.mono hw nlr,⟨hs,by omega,by omega⟩,hw⟩
theorem boxT_below{w:World}{v:TreeV}{t:Tr}:Below w.heap.size w (boxT w v t):=(Below.refl _ w).alloc nlr _
abbrev boxD(w:World)(ka:Option Addr)(kc:Nat)(d:Nd):World:=w.alloc (.cells #[.int .u8 d.kind,strV d.text,intV d.n,.slice ka d.kids.length kc,intV d.pos] 57)
theorem aP{w wr:World}{v:TreeV}{t:Tr}{ka:Option Addr}{kc:Nat}{d:Nd}(hb:Below (w.heap.size+1+1) (boxD (boxT w v t) ka kc d) wr)(h:IsTree w v t) :
 (wr.cell? ⟨w.heap.size,0,none⟩=some (.slice v.na t.nodes.length v.nc)∧wr.cell? ⟨w.heap.size,1,none⟩=some (.slice v.ia t.items.length v.ic)) ∧
 (wr.cell? ⟨w.heap.size+1,0,none⟩=some (.int .u8 d.kind)∧wr.cell? ⟨w.heap.size+1,1,none⟩=some (strV d.text)∧wr.cell? ⟨w.heap.size+1,2,none⟩=some (intV d.n)∧wr.cell? ⟨w.heap.size+1,3,none⟩=some (.slice ka d.kids.length kc)) ∧
 IsTree wr v t∧(w.heap.size+1+1≤wr.heap.size∧w.heap.size<wr.heap.size∧w.heap.size≤wr.heap.size∧w.heap.size+1<wr.heap.size)∧Below w.heap.size w wr:=by
 have hs:=hb.size;simp only[World.size_alloc]at hs;have h1:Below (w.heap.size+1) (boxT w v t) wr:=(brf.alloc (by simp) _).trans (hb.mono (by omega));obtain⟨l1,l2,l3,⟨l4,l5,l6⟩,l7⟩:=boxed h1 h;have hb':Below (boxD (boxT w v t) ka kc d).heap.size (boxD (boxT w v t) ka kc d) wr:=by simpa using hb
 obtain⟨hc,_⟩:=bcell hb';have e1:(boxD (boxT w v t) ka kc d).cell? ⟨w.heap.size+1,0,none⟩=some (.int .u8 d.kind):=by simp
 have e2:(boxD (boxT w v t) ka kc d).cell? ⟨w.heap.size+1,1,none⟩=some (strV d.text):=by simp
 have e3:(boxD (boxT w v t) ka kc d).cell? ⟨w.heap.size+1,2,none⟩=some (intV d.n):=by simp
 have e4:(boxD (boxT w v t) ka kc d).cell? ⟨w.heap.size+1,3,none⟩=some (.slice ka d.kids.length kc):=by simp
 exact⟨⟨l1,l2⟩,⟨(hc _ _ (by simp)).trans e1,(hc _ _ (by simp)).trans e2,(hc _ _ (by simp)).trans e3,(hc _ _ (by simp)).trans e4⟩,l3,⟨hs,l5,l6,by omega⟩,l7⟩
def hasS(l:List (List UInt8))(s:List UInt8):Bool:=l.contains s
def lW(n:Int):Bool:=decide (97≤n)&&decide (n≤122)
def lL(n:Int):Bool:=decide (48≤n)&&decide (n≤57)
def jL(c:UInt8):Bool:=lW (c.toNat:Int)
def zK(c:UInt8):Bool:=lL (c.toNat:Int)
def cB(c:UInt8):Bool:=jL c||zK c
def zZ:List (List UInt8):=[[97,110,100],[97,115,107],[98,108,97,109,101],[98,111,111,108],[98,111,117,110,100,115],[99,104,111,111,115,101],[99,111,117,110,116],[101,108,115,101],[102,97,108,115,101],[102,117,110],[105,102],[105,110],[105,110,116],[108,101,116],[108,111,111,107],[109,97,121],[109,117,115,116],[110,111,116],[111,98,115,101,114,118,101],[111,114],[114,101,116,114,97,99,116],[116,104,101,110],[116,114,117,101],[116,121,112,101],[117,112,116,111],[118,97,108,117,101,115],[119,104,121]]
def signsL:List (List UInt8):=[[61,61],[33,61],[60,61],[62,61],[46,46],[43],[45],[42],[47],[37],[60],[62],[61],[40],[41],[91],[93],[123],[125],[44],[58],[59],[46]]
def numB(l:List UInt8):Bool:=decide (l.length≤4)&&(decide (l.length=1)||l.head? != some 48)
def tokF(s:List UInt8):Int×List UInt8:=
 match s with
 | []=>(0,[])
 | c::_=>
   if jL c then (if hasS zZ (s.takeWhile cB)then (3,s.takeWhile cB)else if (s.takeWhile cB).length≤12 then (1,s.takeWhile cB)else (0,[]))
   else if zK c then (if numB (s.takeWhile zK)then (2,s.takeWhile zK)else (0,[]))
   else match signsL.find? (fun g=>g.isPrefixOf s)with
    |some g=>(4,g)
    |none=>(0,[])
def zX(s:List UInt8):Bool:=(tokF s).1==1&&(tokF s).2==s
def twl(p:UInt8→Bool)(l:List UInt8):Nat:=(l.takeWhile p).length
theorem kH(p:UInt8→Bool)(l:List UInt8):twl p l≤l.length:=(List.takeWhile_sublist p).length_le
theorem qA(p:UInt8→Bool):∀l:List UInt8,l.take (twl p l)=l.takeWhile p
 | []=>rfl
 | c::l=>by
   unfold twl;rw[List.takeWhile_cons];split
   ·show(c::l).take ((l.takeWhile p).length+1)=_
    rw[List.take_succ_cons];exact congrArg _ (qA p l)
   ·rfl
theorem OB(p:UInt8→Bool):∀(l:List UInt8) (k:Nat) (hk:k<l.length),k<twl p l→p l[k]=true
 | c::l,0,_,h=>by
   unfold twl at h;rw[List.takeWhile_cons]at h;split at h
   ·rename_i hc;exact hc
   ·simp at h
 | c::l,k+1,hk,h=>by
   unfold twl at h;rw[List.takeWhile_cons]at h;split at h
   ·exact OB p l k (by simpa using hk) (by unfold twl;simp at h;omega)
   ·simp at h
theorem LL(p:UInt8→Bool):∀(l:List UInt8) (hk:twl p l<l.length),p (l[twl p l]'hk)=false
 | c::l,hk=>by
   cases hc:p c with
   | true=>
     have e:twl p (c::l)=twl p l+1:=by unfold twl;rw[List.takeWhile_cons,if_pos hc];rfl
     have hk':twl p l<l.length:=by rw[e]at hk;simpa using hk
     have:=LL p l hk';simp only[e,List.getElem_cons_succ];exact this
   | false=>
     have e:twl p (c::l)=0:=by unfold twl;rw[List.takeWhile_cons,if_neg (by rw[hc];exact Bool.false_ne_true)];rfl
     simp only[e,List.getElem_cons_zero];exact hc
theorem jN{p:UInt8→Bool}{l:List UInt8}{k:Nat}(hk:k<l.length)(h:k≤twl p l)(hp:p l[k]=true):k+1≤twl p l:=by
 by_cases e:k=twl p l
 ·subst e
  have:=LL p l hk;rw[hp]at this;cases this
 ·omega
theorem pZ{p:UInt8→Bool}{l:List UInt8}{k:Nat}(hk:k<l.length)(h:k≤twl p l)(hp:p l[k]=false):k=twl p l:=by
 by_cases e:k=twl p l
 ·exact e
 ·have:=OB p l k hk (by omega)
  rw[hp]at this;cases this
@[go_sem] theorem bytes_extract (l:List UInt8) (i j:Nat):(⟨l.toArray⟩:ByteArray).extract i j=⟨((l.take j).drop i).toArray⟩:=by
 apply ByteArray.ext;simp[ByteArray.data_extract,List.drop_take]
abbrev KW(l:List (List UInt8)):List Value:=l.map strV
abbrev Strs(w:World)(a:Option Addr)(c:Nat)(l:List (List UInt8)):Prop:=Row 1 w a l.length c (KW l)
theorem Strs.at{w:World}{a:Option Addr}{c:Nat}{l:List (List UInt8)}(h:Strs w a c l){i:Nat}(hi:i<l.length):∃b o,a=some ⟨b,o,none⟩∧b<w.heap.size∧w.cell? ⟨b,o+i,none⟩=some (strV l[i]):=by
 obtain⟨b,o,rfl,hb,hc⟩:=h.some (by omega);exact⟨b,o,rfl,hb,by rw[hc i (by simpa using hi)];simp⟩
def mC(w:World)(l:List (List UInt8))(e:Ending)(w':World):Prop:=∃a c,e=.returned (.slice a l.length c)∧Strs w' a c l∧Below w.heap.size w w'
def hasI(l:List Int)(n:Int):Bool:=l.contains n
def cP(ns:List Nd)(node:Int)(i:Nat):Bool:=hasI ((ns[i]?.map (·.kids)).getD []) node
def iX(p:Nat→Bool)(n:Nat):Nat→Nat→Int
 |_,0=>-1
 |k,f+1=>if k<n then (if p k then (k:Int)else iX p n (k+1) f)else -1
def first(p:Nat→Bool)(n k:Nat):Int:=iX p n k (n-k)
theorem aE{p:Nat→Bool}{n k:Nat}(hk:k<n)(h:p k=true):first p n k=k:=by
 unfold first;rw[show n-k=(n-k-1)+1 by omega,iX,if_pos hk,if_pos h]
theorem cI{p:Nat→Bool}{n k:Nat}(hk:k<n)(h:p k=false):first p n k=first p n (k+1):=by
 unfold first;rw[show n-k=(n-(k+1))+1 by omega,iX,if_pos hk,if_neg (by rw[h];exact Bool.false_ne_true)]
theorem cD{p:Nat→Bool}{n k:Nat}(hk:n≤k):first p n k = -1:=by
 unfold first;rw[show n-k=0 by omega,iX]
theorem eL{p:Nat→Bool}{n:Nat}:∀(f k:Nat),n-k≤f→0≤first p n k→∃m:Nat,first p n k=m∧k≤m∧m<n∧p m=true
 |0,k,h,hp=>by rw[cD (by omega)]at hp;omega
 | f+1,k,h,hp=>by
   by_cases hk:k<n
   ·cases hpk:p k with
    |true=>exact⟨k,aE hk hpk,nlr,hk,hpk⟩
    | false=>
      rw[cI hk hpk]at hp⊢;obtain⟨m,h1,h2,h3,h4⟩:=eL f (k+1) (by omega) hp;exact⟨m,h1,by omega,h3,h4⟩
   ·rw[cD (by omega)]at hp;omega
theorem nJ{p:Nat→Bool}{n:Nat}:∀(f k:Nat),n-k≤f → -1≤first p n k
 |0,k,h=>by rw[cD (by omega)];omega
 | f+1,k,h=>by
   by_cases hk:k<n
   ·cases hpk:p k with
    |true=>rw[aE hk hpk];omega
    |false=>rw[cI hk hpk];exact nJ f (k+1) (by omega)
   ·rw[cD (by omega)];omega
def parent(t:Tr)(node:Int):Int:=first (cP t.nodes node) t.nodes.length (node+1).toNat
theorem bV(t:Tr)(n:Int) : -1≤parent t n:=nJ _ _ nlr
theorem cG(t:Tr)(i:Nat)(h:0≤parent t i):∃p:Nat,parent t i=p∧p<t.nodes.length:=by
 obtain⟨m,h1,_,h3,_⟩:=eL _ _ nlr h;exact⟨m,h1,h3⟩
theorem dX(t:Tr)(i:Nat)(h:0≤parent t i):(i:Int)<parent t i:=by
 obtain⟨m,h1,h2,h3,_⟩:=eL _ _ nlr h;unfold parent;rw[h1];omega
def nd0:Nd:=⟨0,[],0,[],0⟩
def Tr.nd(t:Tr)(i:Int):Nd:=t.nodes.getD i.toNat nd0
theorem Tr.nd_at(t:Tr){k:Nat}(h:k<t.nodes.length):t.nd (k:Int)=t.nodes[k]:=by simp[Tr.nd,h]
def sB(k:Int):Bool:=k==40||k==41||k==42||k==43||k==44||k==20
def bB(k:Int):Bool:=decide (1≤k)&&decide (k≤26)&&k != 25
def aV(k:Int):Bool:=k==3||k==21||k==24||k==32||k==45
def suits(n d:Int):Bool:=if n==3 then d==40||d==43||d==20||d==34 else if n==21 then d==42 else if n==45 then d==44 else d==41
def zh(t:Tr)(i:Int):Bool:=sB (t.nd i).kind||(t.nd i).kind==34&&(t.nd (parent t i)).kind==42
def aX(t:Tr)(i:Int):Bool:=hasI t.items i
theorem vF{a b:List Int}(hl:a.length=b.length){k:Nat}(hk:k<a.length)(h:a.take k=b.take k)(he:a[k]=b[k]'(by omega)):a.take (k+1)=b.take (k+1):=by
 rw[List.take_succ_eq_append_getElem hk,List.take_succ_eq_append_getElem (by omega),h,he]
theorem FO{a b:List Int}{k:Nat}(hk:k<a.length)(hk':k<b.length)(he:¬a[k]=b[k]):(a==b)=false:=by
 rw[beq_eq_false_iff_ne];rintro rfl;exact he rfl
theorem eJ(a a':Option Addr)(c c':Nat)(l l':List Int)(w:World)(hm:l.length≤140737488355328)(hm':l'.length≤140737488355328)(h:Ints w a c l)(h':Ints w a' c' l') :
 Calls prog 64 #[.slice a l.length c,.slice a' l'.length c'] w (zq w (l==l')):=by
 have HR:=Hd h;have HR':=Hd h';clear h h';by_cases hl:l.length=l'.length
 ·have HL:=Hd hl
  have hl1:((l.length:Int)==(l'.length:Int))=true:=by simp[hl]
  have hl2:((l.length:Int) != (l'.length:Int))=false:=by simp[hl]
  clear hl;go_enter func64,ntmps64;go_wp2
  go_loopw [5] (fun i wr=>∃k:Nat,k≤l.length∧i=.int .i64 k∧Hid (l.take k=l'.take k)∧Hid (Below w.heap.size w wr)) (fun i _=>l.length-(intOf i).toNat)
  case atStart=>exact⟨0,Nat.zero_le _,rfl,Hd rfl,Hd brf⟩
  case round=>
   obtain⟨k,hk,rfl,HA,HB⟩:=hrel;have HR1:=Hd (Row.mono HR.out HB.out nlr);have HR1':=Hd (Row.mono HR'.out HB.out nlr);by_cases hlt:k<l.length
   ·obtain⟨b,o,rfl,hb,hc⟩:=Ints.at HR1.out hlt
    obtain⟨b',o',rfl,hb',hc'⟩:=Ints.at HR1'.out (i:=k) (by have:=HL.out;omega);have hlt':k<l'.length:=by have:=HL.out;omega
    by_cases he:l[k]=l'[k]
    ·have he1:(l[k] != l'[k])=false:=by simp[he]
     have HS:=Hd (vF HL.out hlt HA.out he);clear he;go_wp2
     go_quiet (fail)
     go_wp2
     go_roundw
     case rel=>exact⟨k+1,by omega,by go_num,HS,Hd (below_drewN HB.out _)⟩
     case measure=>simp[intOf];omega
    ·have he1:(l[k] != l'[k])=true:=by simp[he]
     have HE:=Hd he;clear he;go_wp2
     go_quiet (fail)
     go_wp2;go_ret;exact⟨zb (FO hlt hlt' HE.out).symm,below_drewN HB.out _⟩
   ·go_wp2
    go_ret;refine⟨zb ?_,HB.out⟩;have h1:=HA.out;rw[List.take_of_length_le (by omega),List.take_of_length_le (by have:=HL.out;omega)]at h1;rw[h1];simp
 ·have hl1:((l.length:Int) != (l'.length:Int))=true:=by simp;omega
  have HL:=Hd hl;clear hl;go_enter func64,ntmps64;go_wp2;go_ret;refine⟨zb ?_,brf⟩;symm;rw[beq_eq_false_iff_ne];rintro rfl;exact HL.out rfl
def bY(t:Tr)(of:Int):Nat→Int→Bool
 |0,_=>false
 |f+1,n=>if n<0 then false else if n=of then true else bY t of f (parent t n)
def inside(t:Tr)(node of:Int):Bool:=bY t of (t.nodes.length+1) node
theorem mG(t:Tr)(of:Int):∀(f g:Nat) (n:Int),t.nodes.length+1-n.toNat≤f→t.nodes.length+1-n.toNat≤g→n<t.nodes.length→bY t of f n=bY t of g n
 | 0,g,n,h,_,hl=>by
   have:n<0∨0≤n:=by omega
   omega
 |f+1,0,n,_,h,hl=>by omega
 | f+1,g+1,n,h1,h2,hl=>by
   simp only[bY];by_cases hn:n<0
   ·rw[if_pos hn,if_pos hn]
   ·rw[if_neg hn,if_neg hn]
    split
    ·rfl
    ·by_cases hp:0≤parent t n
     ·obtain⟨m,rfl⟩:=Int.eq_ofNat_of_zero_le (show 0≤n by omega)
      obtain⟨p,hp1,hp2⟩:=cG t m hp;have hp3:=dX t m hp;refine mG t of f g _ ?_ ?_ ?_<;>rw[hp1]<;>rw[hp1]at hp3<;>simp at *<;>omega
     ·have hp:parent t n<0:=by omega
      cases f<;>cases g<;>simp[bY,hp]
theorem bE(t:Tr)(of:Int){n:Int}(h:n<t.nodes.length):inside t n of=if n<0 then false else if n=of then true else inside t (parent t n) of:=by
 unfold inside;rw[bY];by_cases hn:n<0
 ·rw[if_pos hn,if_pos hn]
 ·rw[if_neg hn,if_neg hn]
  split
  ·rfl
  ·by_cases hp:0≤parent t n
   ·obtain⟨m,rfl⟩:=Int.eq_ofNat_of_zero_le (show 0≤n by omega)
    obtain⟨p,hp1,hp2⟩:=cG t m hp;have hp3:=dX t m hp;refine mG t of _ _ _ ?_ ?_ ?_<;>rw[hp1]<;>rw[hp1]at hp3<;>simp at *<;>omega
   ·have:parent t n<0:=by omega
    cases hl:t.nodes.length<;>simp[bY,this]
def uses(decl:List Int)(node:Int):List Int:=idxs (fun i=>decl[i]?==some node) decl.length
structure WF (t:Tr):Prop where
 bd:Bd t
 kid:∀(i:Nat) (h:i<t.nodes.length),∀k∈t.nodes[i].kids,0≤k∧k<(i:Int)
 item:∀k∈t.items,0≤k∧k<(t.nodes.length:Int)
 letK:∀(i:Nat) (h:i<t.nodes.length),t.nodes[i].kind=20→t.nodes[i].kids.length=2
 funK:∀(i:Nat) (h:i<t.nodes.length),t.nodes[i].kind=42→2≤t.nodes[i].kids.length
 par:∀(i:Nat) (h:i<t.nodes.length),t.nodes[i].kind=34→0≤parent t i
def upF{α:Type}(t:Tr)(g:Int→Int→α→α):Nat→Int→Int→α→α×Int
 |0,last,_,acc=>(acc,last)
 |f+1,last,n,acc=>if n<0 then (acc,last)else upF t g f n (parent t n) (g last n acc)
def upw{α:Type}(t:Tr)(g:Int→Int→α→α)(last n:Int)(acc:α):α×Int:=upF t g (t.nodes.length+1) last n acc
theorem GH{α:Type}(t:Tr)(g:Int→Int→α→α):∀(f k:Nat) (last n:Int) (acc:α),t.nodes.length+1-n.toNat≤f→t.nodes.length+1-n.toNat≤k→n<t.nodes.length→upF t g f last n acc=upF t g k last n acc
 |0,k,last,n,acc,h,_,hl=>by omega
 |f+1,0,last,n,acc,_,h,hl=>by omega
 | f+1,k+1,last,n,acc,h1,h2,hl=>by
   simp only[upF];by_cases hn:n<0
   ·rw[if_pos hn,if_pos hn]
   ·rw[if_neg hn,if_neg hn]
    by_cases hp:0≤parent t n
    ·obtain⟨m,rfl⟩:=Int.eq_ofNat_of_zero_le (show 0≤n by omega)
     obtain⟨p,hp1,hp2⟩:=cG t m hp;have hp3:=dX t m hp;refine GH t g f k _ _ _ ?_ ?_ ?_<;>rw[hp1]<;>rw[hp1]at hp3<;>simp at *<;>omega
    ·have hp:parent t n<0:=by omega
     cases f<;>cases k<;>simp[upF,hp]
theorem zD(t:Tr){n:Int}(h:0≤n):parent t n<t.nodes.length:=by
 obtain⟨m,rfl⟩:=Int.eq_ofNat_of_zero_le h;by_cases hp:0≤parent t m
 ·obtain⟨p,hp1,hp2⟩:=cG t m hp
  rw[hp1];omega
 ·omega
theorem dH(t:Tr){n:Int}(h:0≤n):0≤parent t n→n<parent t n:=by
 obtain⟨m,rfl⟩:=Int.eq_ofNat_of_zero_le h;exact dX t m
def zz(d:Nd)(last n:Int):List Int:=
 (if d.kind==20&&d.kids[1]?==some last then [n]else [])++(if d.kind==42&&d.kids[d.kids.length-1]?==some last then d.kids.take (d.kids.length-2)++[n]else [])
def zQ(t:Tr)(node:Int):List Int×Int:=upw t (fun last n acc=>acc++zz (t.nd n) last n) node (parent t node) []
def sight(t:Tr)(node:Int):List Int:=(zQ t node).1++t.items.filter fun it=>decide (it<(zQ t node).2)&&zh t it
theorem xW{α:Type}(t:Tr)(g:Int→Int→α→α)(P:Int→α→Prop)(hg:∀(last n:Int) (acc:α),0≤n→n<(t.nodes.length:Int)→P last acc→P n (g last n acc)):∀(f:Nat) (last n:Int) (acc:α),n<t.nodes.length→P last acc→P (upF t g f last n acc).2 (upF t g f last n acc).1
 |0,last,n,acc,_,h=>h
 | f+1,last,n,acc,hn,h=>by
   rw[upF];split
   ·exact h
   ·exact xW t g P hg f _ _ _ (zD t (by omega)) (hg _ _ _ (by omega) hn h)
theorem xR{t:Tr}(wf:WF t){last n x:Int}(h0:0≤n)(hn:n<t.nodes.length)(h:x∈zz (t.nd n) last n):0≤x∧x<t.nodes.length:=by
 obtain⟨m,rfl⟩:=Int.eq_ofNat_of_zero_le h0;rw[t.nd_at (by omega)]at h;simp only[zz,List.mem_append]at h;rcases h with h|h
 ·split at h
  ·obtain rfl:=List.mem_singleton.1 h
   exact⟨h0,hn⟩
  ·cases h
 ·split at h
  ·rcases List.mem_append.1 h with h|h
   ·have:=wf.kid m (by omega) x (List.mem_of_mem_take h)
    omega
   ·obtain rfl:=List.mem_singleton.1 h
    exact⟨h0,hn⟩
  ·cases h
theorem jJ{t:Tr}(wf:WF t){node:Nat}{x:Int}(h:x∈sight t node):0≤x∧x<t.nodes.length:=by
 rcases List.mem_append.1 h with h|h
 ·have:=xW t (fun last n acc=>acc++zz (t.nd n) last n) (fun _ acc=>∀x∈acc,0≤x∧x<(t.nodes.length:Int)) (fun last n acc h0 hn ha x hx=>by
   rcases List.mem_append.1 hx with hx|hx
   ·exact ha x hx
   ·exact xR wf h0 hn hx) (t.nodes.length+1) node (parent t node) [] (zD t (by omega)) (by simp)
  exact this x h
 ·exact wf.item x ((List.mem_filter.1 h).1)
def nearest(t:Tr)(node:Int)(name:List UInt8):Int:=((sight t node).find? fun d=>(t.nd d).text==name).getD (-1)
theorem uB{p:Int→Bool}{l:List Int}{k:Nat}(hk:k<l.length)(h:p l[k]=false):((l.drop k).find? p)=((l.drop (k+1)).find? p):=by
 rw[List.drop_eq_getElem_cons hk,List.find?_cons,h]
theorem yI{p:Int→Bool}{l:List Int}{k:Nat}(hk:k<l.length)(h:p l[k]=true):((l.drop k).find? p)=some l[k]:=by
 rw[List.drop_eq_getElem_cons hk,List.find?_cons,h]
theorem lR{t:Tr}(wf:WF t){node:Nat}{name:List UInt8}(h:0≤nearest t node name):nearest t node name<t.nodes.length:=by
 unfold nearest at *
 cases hf:(sight t node).find? fun d=>(t.nd d).text==name with
 |none=>rw[hf]at h;simp at h
 |some d=>exact(jJ wf (List.mem_of_find?_eq_some hf)).2
theorem rI{t:Tr}(wf:WF t){node:Nat}{name:List UInt8} : -1≤nearest t node name:=by
 unfold nearest
 cases hf:(sight t node).find? fun d=>(t.nd d).text==name with
 |none=>simp
 |some d=>have:=(jJ wf (List.mem_of_find?_eq_some hf)).1;simp only[Option.getD_some];omega
def means(t:Tr)(node:Int):Int:=
 if aV (t.nd node).kind then (if nearest t node (t.nd node).text<0 || !suits (t.nd node).kind (t.nd (nearest t node (t.nd node).text)).kind then -1 else nearest t node (t.nd node).text)else -1
theorem fD{t:Tr}{node:Int}(h:aV (t.nd node).kind=false):means t node = -1:=by rw[means,if_neg (by rw[h];exact Bool.false_ne_true)]
theorem aJ{t:Tr}(wf:WF t){node:Nat} : -1≤means t node∧means t node<t.nodes.length:=by
 unfold means;split
 ·split
  ·omega
  ·rename_i h
   simp only[Bool.or_eq_true,decide_eq_true_eq,not_or]at h;exact⟨rI wf,lR wf (by omega)⟩
 ·omega
def zY(t:Tr)(node:Int):Int:=first (fun k=>inside t node (t.items.getD k 0)) t.items.length 0
def unused(t:Tr)(decl:List Int):List Int:=idxs (fun i=>zh t i&&(t.nd i).kind != 44&&(uses decl i).length==0) t.nodes.length
theorem NA(l:List Int)(n:Int):(uses l n).length≤l.length:=kQ _ _
def insI(x:Int):List Int→List Int
 | []=>[x]
 |y::l=>if x≤y then x::y::l else y::insI x l
def cT:List Int→List Int
 | []=>[]
 |x::l=>insI x (cT l)
theorem pA(x:Int):∀l:List Int,(insI x l).Perm (x::l)
 | []=>List.Perm.refl _
 | y::l=>by
   simp only[insI];split
   ·exact List.Perm.refl _
   ·exact((pA x l).cons y).trans (List.Perm.swap x y l)
theorem dD:∀l:List Int,(cT l).Perm l
 | []=>List.Perm.refl _
 |x::l=>(pA x _).trans ((dD l).cons x)
theorem pB(x:Int):∀l:List Int,l.Pairwise (· ≤ ·)→(insI x l).Pairwise (· ≤ ·)
 | [],_=>by simp[insI]
 | y::l,h=>by
   simp only[insI];have h':=List.pairwise_cons.1 h;split
   ·rename_i hxy
    refine List.pairwise_cons.2 ⟨fun z hz=>?_,h⟩;rcases List.mem_cons.1 hz with rfl|hz
    ·exact hxy
    ·exact Int.le_trans hxy (h'.1 z hz)
   ·rename_i hxy
    refine List.pairwise_cons.2 ⟨fun z hz=>?_,pB x l h'.2⟩;rcases List.mem_cons.1 ((pA x l).mem_iff.1 hz)with rfl|hz
    ·omega
    ·exact h'.1 z hz
theorem cU:∀l:List Int,(cT l).Pairwise (· ≤ ·)
 | []=>by simp[cT]
 |x::l=>pB x _ (cU l)
theorem cV{l L:List Int}(hp:L.Perm l)(hs:L.Pairwise (· ≤ ·)):L=cT l:=
 (hp.trans (dD l).symm).eq_of_pairwise (le:=(· ≤ ·)) (fun _ _ _ _ h1 h2=>Int.le_antisymm h1 h2) hs (cU l)
theorem fY(l:List Int):(cT l).length=l.length:=(dD l).length_eq
theorem dG{W:World}{B:Nat}{a:Option Addr}{n c:Nat}{L:List Int}(h:W.ownsRow B 3 1 (.slice a n c) n (zm L))(hn:0<n):∃g,a=some ⟨g,0,none⟩∧B≤g∧g<W.heap.size∧L.length=n ∧
 (∀i,i<n→W.cell? ⟨g,i,none⟩=some (intV (L.getD i 0)))∧(∀i,W.frozen? ⟨g,i,none⟩=false):=by
 have hl:L.length=n:=by have:=h.1;simpa using this
 rcases h.2 with⟨h',h0⟩|⟨g,cap,cur,h',hb,hg,_⟩
 ·omega
 ·simp only[Value.slice.injEq,true_and]at h'
  obtain⟨rfl,rfl⟩:=h';refine⟨g,rfl,hb,(Array.getElem?_eq_some_iff.1 hg).1,hl,fun i hi=>?_,fun i=>h.frozenAt i⟩;rw[h.cellAt i (by omega)];simp[show i<L.length by omega]
theorem gJ{W:World}{B g n c:Nat}{L:List Int}(h:W.ownsRow B 3 1 (.slice (some ⟨g,0,none⟩) n c) n (zm L))(i:Nat)(x:Int) :
 (W.setCell ⟨g,i,none⟩ (intV x)).ownsRow B 3 1 (.slice (some ⟨g,0,none⟩) n c) n (zm (L.set i x)):=by
 have:=(h.stored i (intV x)).1;rw[←List.map_set]at this;exact this
theorem yK{p:Nat→Bool}{k:Nat}{x:Int}(h:x∈idxs p k):0≤x∧x<k:=by
 obtain⟨y,hy,rfl⟩:=List.mem_map.1 h;have:=List.mem_range.1 (List.mem_filter.1 hy).1;exact⟨Int.natCast_nonneg _,by show((y:Nat):Int)<k;omega⟩
theorem uI(t:Tr)(x:Int) : -1≤zY t x:=nJ _ 0 nlr
theorem EI(t:Tr)(x:Int):zY t x<t.items.length:=by
 rcases Int.lt_or_le (zY t x) 0 with h|h
 ·omega
 ·obtain⟨m,hm,_,h2,_⟩:=eL (p:=fun k=>inside t x (t.items.getD k 0)) t.items.length 0 (by omega) h
  have:zY t x=m:=hm;omega
inductive Reach (t:Tr) (l:List Int) (item:Int):Int→Prop
 |base:Reach t l item item
 |step {n:Nat}(hn:n<t.nodes.length) (h0:0≤l.getD n 0) (h:Reach t l item (zY t n)):Reach t l item (zY t (l.getD n 0))
structure NeedL (t:Tr) (l:List Int) (item:Int) (L:List Int):Prop where
 head:∃r,L=item::r
 nodup:L.Nodup
 reach:∀x∈L,Reach t l item x
theorem NeedL.snoc{t:Tr}{l:List Int}{item:Int}{L:List Int}(h:NeedL t l item L){x:Int}(hx:Reach t l item x)(hn:hasI L x=false):NeedL t l item (L++[x]):=by
 obtain⟨⟨r,hr⟩,h2,h3⟩:=h;refine⟨⟨r++[x],by rw[hr];rfl⟩,?_,?_⟩
 ·rw[List.nodup_append]
  refine⟨h2,by simp,?_⟩;intro a ha b hb hab;simp at hb;subst hb;subst hab;have:L.contains a=true:=List.contains_iff_mem.2 ha;unfold hasI at hn;rw[this]at hn;cases hn
 ·intro y hy
  rcases List.mem_append.1 hy with hy|hy
  ·exact h3 y hy
  ·simp at hy
   subst hy;exact hx
theorem nL{α:Type}[BEq α][LawfulBEq α]:∀(L M:List α),L.Nodup→(∀x∈L,x∈M)→L.length≤M.length
 | [],_,_,_=>Nat.zero_le _
 | x::L,M,h,hs=>by
   obtain⟨h1,h2⟩:=List.nodup_cons.1 h;have hx:=hs x (by simp)
   have:=nL L (M.erase x) h2 (fun y hy=>by
    have hne:y≠x:=fun e=>h1 (e▸hy)
    exact(List.mem_erase_of_ne hne).2 (hs y (by simp[hy])))
   rw[List.length_erase_of_mem hx]at this;have:=List.length_pos_of_mem hx;simp only[List.length_cons];omega
theorem Reach.range{t:Tr}{l:List Int}{item x:Int}(h:Reach t l item x):x=item∨(-1≤x∧x<t.items.length):=by
 cases h with
 |base=>exact .inl rfl
 |step hn h0 _=>exact .inr ⟨uI _ _,EI _ _⟩
theorem NeedL.length{t:Tr}{l:List Int}{item:Int}{L:List Int}(h:NeedL t l item L):L.length≤t.items.length+2:=by
 have:=nL L (item::(List.range (t.items.length+1)).map (fun i:Nat=>(i:Int)-1)) h.nodup (fun x hx=>by
  rcases(h.reach x hx).range with e|⟨h1,h2⟩
  ·subst e;simp
  ·refine List.mem_cons_of_mem _ (List.mem_map.2 ⟨(x+1).toNat,List.mem_range.2 (by omega),by omega⟩))
 simpa using this
def rT(t:Tr)(l:List Int)(L:List Int)(k:Nat):Prop:=∀n,n<k→n<t.nodes.length→0≤l.getD n 0→hasI L (zY t n)=true→hasI L (zY t (l.getD n 0))=true
theorem NeedL.done{t:Tr}{l:List Int}{item:Int}{L:List Int}(h:NeedL t l item L)(hc:rT t l L t.nodes.length)(x:Int):x∈L↔Reach t l item x:=by
 refine⟨h.reach x,fun hr=>?_⟩;have hm:∀y,hasI L y=true↔y∈L:=fun y=>List.contains_iff_mem
 induction hr with
 |base=>obtain⟨r,hr⟩:=h.head;rw[hr];simp
 |step hn h0 _ ih=>exact(hm _).1 (hc _ hn hn h0 ((hm _).2 ih))
def KRow(w:World)(B:Nat)(a:Option Addr)(k:Option Addr×Nat)(kids:List Int):Prop:=
 Row 1 w k.1 kids.length k.2 (zm kids)∧(0<kids.length→∀x,k.1=some x→B≤x.block∧∀y,a=some y→x.block≠y.block)
structure OwnN (w:World) (B:Nat) (a:Option Addr) (c:Nat) (ns:List Nd) (ks:List (Option Addr×Nat)):Prop where
 len:ks.length=ns.length
 own:w.ownsRow B 57 5 (.slice a ns.length c) ns.length (zI ns ks)
 kids:∀i (h:i<ns.length) (k:i<ks.length),KRow w B a ks[i] ns[i].kids
theorem OwnN.nil(w:World)(B:Nat):OwnN w B none 0 [] []:=⟨rfl,⟨rfl,.inl ⟨rfl,rfl⟩⟩,fun i h=>by simp at h⟩
theorem KRow.below{w w':World}{B:Nat}{a:Option Addr}{k:Option Addr×Nat}{kids:List Int}(h:KRow w B a k kids)(hb:Below w.heap.size w w'):KRow w' B a k kids:=⟨h.1.mono hb nlr,h.2⟩
theorem OwnN.below{w w':World}{B:Nat}{a:Option Addr}{c:Nat}{ns:List Nd}{ks:List (Option Addr×Nat)}(h:OwnN w B a c ns ks)(hb:Below w.heap.size w w'):OwnN w' B a c ns ks:=
 ⟨h.len,zy h.own hb,fun i hi k=>(h.kids i hi k).below hb⟩
theorem aA{w:World}{a:Option Addr}{n c k:Nat}{xs:List Value}(h:Row k w a n c xs){p:Addr}(v:Value)(hne:0<n→∀x,a=some x→x.block≠p.block):Row k (w.setCell p v) a n c xs:=by
 obtain⟨h1,h2,h3,h4⟩:=h;refine⟨h1,h2,h3,?_⟩;rcases h4 with h4|⟨b,o,e,hlt,hc⟩
 ·exact .inl h4
 ·by_cases hn:n=0
  ·exact .inl hn
  ·refine .inr ⟨b,o,e,by simpa using hlt,fun i hi=>?_⟩
   have:=hne (by omega) _ e;rw[World.cell?_setCell_other _ _ _ _ (by intro e;have:=congrArg Addr.block e;simp only at this;simp only at *;omega)];exact hc i hi
theorem KRow.setCell{w:World}{B:Nat}{a:Option Addr}{k:Option Addr×Nat}{kids:List Int}(h:KRow w B a k kids){p:Addr}(hp:p.block<B)(v:Value):KRow (w.setCell p v) B a k kids:=
 ⟨aA h.1 v fun h0 x e=>by have:=(h.2 h0 x e).1;omega,h.2⟩
theorem OwnN.setCell{w:World}{B:Nat}{a:Option Addr}{c:Nat}{ns:List Nd}{ks:List (Option Addr×Nat)}(h:OwnN w B a c ns ks){p:Addr}(hp:p.block<B)(v:Value):OwnN (w.setCell p v) B a c ns ks:=
 ⟨h.len,ownsRow_setCell_below h.own hp v,fun i hi k=>(h.kids i hi k).setCell hp v⟩
theorem OwnN.nodes{w:World}{B:Nat}{a:Option Addr}{c:Nat}{ns:List Nd}{ks:List (Option Addr×Nat)}(h:OwnN w B a c ns ks):Nodes w a c ns:=by
 obtain⟨a',c',e,hr⟩:=bK h.own;simp at e;obtain⟨rfl,rfl⟩:=e;exact⟨ks,h.len,hr,fun i hi k=>(h.kids i hi k).1⟩
theorem OwnN.ownK{w:World}{B:Nat}{a:Option Addr}{c k:Nat}{ns:List Nd}{ks:List (Option Addr×Nat)}(h:OwnN w B a c ns ks)(hk:ns.length=k):w.ownsRow B 57 5 (.slice a k c) k (zI ns ks):=by
 subst hk;exact h.own
theorem OwnN.lt{w:World}{B:Nat}{a:Option Addr}{c:Nat}{ns:List Nd}{ks:List (Option Addr×Nat)}(h:OwnN w B a c ns ks):∀y,a=some y→B≤y.block∧y.block<w.heap.size:=fun y e=>by
 subst e;exact h.own.lt y.block rfl
theorem fI(d:Nd)(a:Option Addr×Nat):∀u∈d.cells a,u.oneCell'=true:=by
 intro u hu;simp[Nd.cells]at hu;rcases hu with rfl|rfl|rfl|rfl|rfl<;>rfl
theorem nN(W:World)(d:Nd)(a:Option Addr)(c:Nat){n:Nat}(hn:W.heap.size=n):Row 5 (W.alloc (.cells #[.int .u8 d.kind,strV d.text,intV d.n,.slice a d.kids.length c,intV d.pos] 57)) (some ⟨n,0,none⟩) 1 1 (d.cells (a,c)):=by
 subst hn;exact Row.made W (d.cells (a,c)) _ rfl nlr
theorem oO:∀(ns:List Nd) (ks:List (Option Addr×Nat)) (d:Nd) (a:Option Addr×Nat),ks.length=ns.length→zI (ns++[d]) (ks++[a])=zI ns ks++d.cells a
 | [],[],d,a,_=>by simp[zI]
 |n::ns,k::ks,d,a,h=>by simp[zI,oO ns ks d a (by simpa using h)]
 | [],_::_,_,_,h=>by simp at h
 |_::_,[],_,_,h=>by simp at h
theorem OwnN.snoc{W w':World}{B:Nat}{a a':Option Addr}{c c':Nat}{ns:List Nd}{ks:List (Option Addr×Nat)}(h:OwnN W B a c ns ks){d:Nd}{k:Option Addr×Nat}(hk:KRow W B a k d.kids)
 (hown:w'.ownsRow B 57 5 (.slice a' (ns.length+1) c') (ns.length+1) (zI ns ks++d.cells k))(hg:W.grownBy w' (Value.slice a ns.length c).ownBlock)(hw:∀p,a'=some p→a=some p∨W.heap.size≤p.block) :
 OwnN w' B a' c' (ns++[d]) (ks++[k]):=by
 have key:∀{k:Option Addr×Nat}{kids:List Int},KRow W B a k kids→KRow w' B a' k kids:=by
  intro k kids ⟨⟨h1,h2,h3,h4⟩,h5⟩;by_cases h0:0<kids.length
  ·rcases h4 with h4|⟨b,o,e,hlt,hc⟩
   ·omega
   ·obtain⟨h6,h7⟩:=h5 h0 _ e
    refine⟨⟨h1,h2,h3,.inr ⟨b,o,e,Nat.lt_of_lt_of_le hlt hg.size,fun i hi=>?_⟩⟩,fun _ x ex=>?_⟩
    ·have hb:w'.heap[b]?=W.heap[b]?:=hg.block b hlt (by
      cases a with
      |none=>simp[Value.ownBlock]
      |some y=>have:=h7 y rfl;simp[Value.ownBlock];exact this)
     exact(World.cell?_of_block (a:=⟨b,o+i,none⟩) hb).trans (hc i hi)
    ·rw[e]at ex
     obtain rfl:=Option.some.inj ex;refine⟨h6,fun y ey=>?_⟩;rcases hw y ey with h8|h8
     ·exact h7 y h8
     ·simp only;omega
  ·exact⟨⟨h1,h2,h3,.inl (by omega)⟩,fun h=>absurd h h0⟩
 refine⟨by simp[h.len],?_,fun i hi hik=>?_⟩
 ·rw[oO _ _ _ _ h.len,show(ns++[d]).length=ns.length+1 by simp]
  exact hown
 ·by_cases e:i<ns.length
  ·have e2:i<ks.length:=by have:=h.len;omega
   rw[List.getElem_append_left e2,List.getElem_append_left e];exact key (h.kids i e e2)
  ·have hl:=h.len
   obtain rfl:i=ns.length:=by simp at hi;omega
   rw[List.getElem_append_right (by omega),List.getElem_append_right (by omega)];simp[hl];exact key hk
def wQ(w:World)(t:Tr)(e:Ending)(w':World):Prop:=
 ∃(v:TreeV) (B:Nat) (ks:List (Option Addr×Nat)),e=.returned (v.val t)∧w.heap.size≤B∧OwnN w' B v.na v.nc t.nodes ks∧Ints w' v.ia v.ic t.items∧(∀x,v.ia=some x→w.heap.size≤x.block∧x.block<B)∧Below w.heap.size w w'
theorem qS{w wr:World}{ka:Option Addr}{kc:Nat}{d:Nd}(hb:Below (w.heap.size+1) (boxD w ka kc d) wr) :
 (wr.cell? ⟨w.heap.size,0,none⟩=some (.int .u8 d.kind)∧wr.cell? ⟨w.heap.size,1,none⟩=some (strV d.text)∧wr.cell? ⟨w.heap.size,2,none⟩=some (intV d.n)∧wr.cell? ⟨w.heap.size,3,none⟩=some (.slice ka d.kids.length kc)∧wr.cell? ⟨w.heap.size,4,none⟩=some (intV d.pos)) ∧
 (∀j,wr.frozen? ⟨w.heap.size,j,none⟩=false)∧(∀b o,b<w.heap.size→wr.cell? ⟨b,o,none⟩=w.cell? ⟨b,o,none⟩)∧(∀b o,b<w.heap.size→wr.frozen? ⟨b,o,none⟩=w.frozen? ⟨b,o,none⟩)∧Below w.heap.size w wr∧w.heap.size+1≤wr.heap.size:=by
 have hs:=hb.size;simp only[World.size_alloc]at hs;have hb':Below (boxD w ka kc d).heap.size (boxD w ka kc d) wr:=by simpa using hb
 obtain⟨hc,hf⟩:=bcell hb';have hw:Below w.heap.size w wr:=((Below.refl _ w).alloc nlr _).trans (hb.mono (by omega));have e0:(boxD w ka kc d).cell? ⟨w.heap.size,0,none⟩=some (.int .u8 d.kind):=by simp
 have e1:(boxD w ka kc d).cell? ⟨w.heap.size,1,none⟩=some (strV d.text):=by simp
 have e2:(boxD w ka kc d).cell? ⟨w.heap.size,2,none⟩=some (intV d.n):=by simp
 have e3:(boxD w ka kc d).cell? ⟨w.heap.size,3,none⟩=some (.slice ka d.kids.length kc):=by simp
 have e4:(boxD w ka kc d).cell? ⟨w.heap.size,4,none⟩=some (intV d.pos):=by simp
 exact⟨⟨(hc _ _ (by simp)).trans e0,(hc _ _ (by simp)).trans e1,(hc _ _ (by simp)).trans e2,(hc _ _ (by simp)).trans e3,(hc _ _ (by simp)).trans e4⟩,fun j=>(hf _ _ (by simp)).trans (by simp),(bcell hw).1,(bcell hw).2,hw,hs⟩
structure Tk where
 kind:Int
 text:List UInt8
 pos:Int
deriving DecidableEq
structure PE where
 toks:List Tk
 fin:Int
structure PS where
 next:Nat
 nodes:List Nd
deriving DecidableEq
def wIf:List UInt8:=[105,102]
def OU:List UInt8:=[116,104,101,110]
def OT:List UInt8:=[101,108,115,101]
def wLet:List UInt8:=[108,101,116]
def wIn:List UInt8:=[105,110]
def wOr:List UInt8:=[111,114]
def wAnd:List UInt8:=[97,110,100]
def wNot:List UInt8:=[110,111,116]
def OF:List UInt8:=[116,114,117,101]
def LM:List UInt8:=[102,97,108,115,101]
def wInt:List UInt8:=[105,110,116]
def OE:List UInt8:=[98,111,111,108]
def CD:List UInt8:=[117,112,116,111]
def iS:List UInt8:=[44]
def pX:List UInt8:=[45]
def rO:List UInt8:=[58]
def OQ:List UInt8:=[46,46]
def sEq:List UInt8:=[61]
def xP:List UInt8:=[123]
def FN:List UInt8:=[125]
def FM:List UInt8:=[40]
def pY:List UInt8:=[41]
def jI:List UInt8:=[91]
def sR:List UInt8:=[93]
def MU:List UInt8:=[59]
def sDot:List UInt8:=[46]
def NC:List UInt8:=[48]
def xX:List UInt8:=[99,104,111,111,115,101]
def NB:List UInt8:=[116,121,112,101]
def wFun:List UInt8:=[102,117,110]
def sW:List UInt8:=[111,98,115,101,114,118,101]
def sX:List UInt8:=[114,101,116,114,97,99,116]
def wAsk:List UInt8:=[97,115,107]
def zi(E:PE)(s:PS):Tk:=E.toks.getD s.next ⟨0,[],E.fin⟩
def isTk(t:Tk)(l:List (List UInt8)):Bool:=(t.kind==3||t.kind==4)&&l.contains t.text
def isP(E:PE)(s:PS)(x:List UInt8):Bool:=isTk (zi E s) [x]
def PS.take(s:PS):PS:={ s with next:=s.next+1 }
abbrev PR(α:Type):=Except Int α
def cM(E:PE)(s:PS)(x:List UInt8):PR PS:=if isP E s x then .ok s.take else .error (zi E s).pos
def bZ(E:PE)(s:PS)(k:Int):PR PS:=if (zi E s).kind==k then .ok s.take else .error (zi E s).pos
def addP(s:PS)(kind:Int)(own:Tk)(text:List UInt8)(n:Int)(kids:List Int):PS:={ s with nodes:=s.nodes++[⟨kind,text,n,kids,own.pos⟩] }
def valP(l:List UInt8):Int:=l.foldl (fun a c=>a*10+((c.toNat:Int)-48)) 0
abbrev RdP:=PS→PR (Int×PS)
def mI(rd:RdP)(E:PE):Nat→List Int→PS→PR (List Int×PS)
 |0,l,s=>.ok (l,s)
 |f+1,l,s=>if isP E s iS then (rd s.take).bind fun r=>mI rd E f (l++[r.1]) r.2 else .ok (l,s)
def jC(rd:RdP)(E:PE)(s:PS):PR (List Int×PS):=(rd s).bind fun r=>mI rd E (E.toks.length+1) [r.1] r.2
def eO(below:RdP)(E:PE)(kinds:List UInt8→Int)(once:Bool):Nat→Int→RdP
 |0,a,s=>.ok (a,s)
 | f+1,a,s=>
   if kinds (zi E s).text==0 then .ok (a,s)
   else (below s.take).bind fun r=>
    let s':=addP r.2 (kinds (zi E s).text) (zi E s) [] 0 [a,r.1]
    if once then .ok (r.2.nodes.length,s')else eO below E kinds once f r.2.nodes.length s'
def bU(below:RdP)(E:PE)(kinds:List UInt8→Int)(once:Bool)(s:PS):PR (Int×PS):=(below s).bind fun r=>eO below E kinds once (E.toks.length+1) r.1 r.2
def jE(expr:RdP)(E:PE):Nat→Int→RdP
 |0,a,s=>.ok (a,s)
 | f+1,a,s=>
   if isP E s sDot then (bZ E s.take 1).bind fun s1=>jE expr E f s1.nodes.length (addP s1 22 (zi E s) (zi E s.take).text 0 [a])
   else if isP E s jI then (expr s.take).bind fun r=>(cM E r.2 sR).bind fun s2=>jE expr E f s2.nodes.length (addP s2 23 (zi E s) [] 0 [a,r.1])
   else .ok (a,s)
def orK(x:List UInt8):Int:=if x=wOr then 18 else 0
def andK(x:List UInt8):Int:=if x=wAnd then 17 else 0
def cmpK(x:List UInt8):Int:=if x=[61,61]then 11 else if x=[33,61]then 12 else if x=[60]then 13 else if x=[60,61]then 14 else if x=[62]then 15 else if x=[62,61]then 16 else 0
def sumK(x:List UInt8):Int:=if x=[43]then 6 else if x=[45]then 7 else 0
def sT(x:List UInt8):Int:=if x=[42]then 8 else if x=[47]then 9 else if x=[37]then 10 else 0
def addR(s:PS)(kind:Int)(own:Tk)(text:List UInt8)(n:Int)(kids:List Int):PR (Int×PS):=.ok (s.nodes.length,addP s kind own text n kids)
inductive NT|expr|or|and|not|cmp|sum|term|unary|postf|atom|kindOf|param|put
deriving DecidableEq
def rH(expr put:RdP)(E:PE)(nm:Tk)(s:PS):PR (Int×PS):=
 if isP E s FM then
  (if isP E s.take pY then .ok ([],s.take)else jC expr E s.take).bind fun r=>(cM E r.2 pY).bind fun s2=>addR s2 21 nm nm.text 0 r.1
 else if isP E s xP then (jC put E s.take).bind fun r=>(cM E r.2 FN).bind fun s2=>addR s2 24 nm nm.text 0 r.1
 else addR s 3 nm nm.text 0 []
def AU(expr put:RdP)(E:PE)(s:PS):PR (Int×PS):=
 if (zi E s).kind==2 then addR s.take 1 (zi E s) [] (valP (zi E s).text) []
 else if isP E s OF then addR s.take 2 (zi E s) [] 1 []
 else if isP E s LM then addR s.take 2 (zi E s) [] 0 []
 else if isP E s FM then (expr s.take).bind fun r=>(cM E r.2 pY).bind fun s2=>.ok (r.1,s2)
 else if isP E s jI then (jC expr E s.take).bind fun r=>(cM E r.2 sR).bind fun s2=>addR s2 26 (zi E s) [] 0 r.1
 else (bZ E s 1).bind fun s1=>rH expr put E (zi E s) s1
def mH(kindOf:RdP)(E:PE)(s:PS):PR (Int×PS):=
 if isP E s wInt then addR s.take 30 (zi E s) [] 0 []
 else if isP E s OE then addR s.take 31 (zi E s) [] 0 []
 else if isP E s jI then (kindOf s.take).bind fun r=>(cM E r.2 MU).bind fun s2=>(bZ E s2 2).bind fun s3=>(cM E s3 sR).bind fun s4=>addR s4 33 (zi E s) [] (valP (zi E s2).text) [r.1]
 else (bZ E s 1).bind fun s1=>addR s1 32 (zi E s) (zi E s).text 0 []
def uT(kindOf:RdP)(E:PE)(s:PS):PR (Int×PS):=
 (bZ E s 1).bind fun s1=>(cM E s1 rO).bind fun s2=>(kindOf s2).bind fun r=>addR r.2 34 (zi E s) (zi E s).text 0 [r.1]
def putP(expr:RdP)(E:PE)(s:PS):PR (Int×PS):=
 (bZ E s 1).bind fun s1=>(cM E s1 rO).bind fun s2=>(expr s2).bind fun r=>addR r.2 25 (zi E s) (zi E s).text 0 [r.1]
def BH(expr or:RdP)(E:PE)(s:PS):PR (Int×PS):=
 if isP E s wIf then
  (expr s.take).bind fun a=>(cM E a.2 OU).bind fun s2=>(expr s2).bind fun b=>(cM E b.2 OT).bind fun s4=>(expr s4).bind fun c=>addR c.2 19 (zi E s) [] 0 [a.1,b.1,c.1]
 else if isP E s wLet then
  (bZ E s.take 1).bind fun s1=>(cM E s1 sEq).bind fun s2=>(expr s2).bind fun a=>(cM E a.2 wIn).bind fun s4=>(expr s4).bind fun c=>addR c.2 20 (zi E s) (zi E s.take).text 0 [a.1,c.1]
 else or s
def kI(nt:Int)(x:List UInt8)(self below:RdP)(E:PE)(s:PS):PR (Int×PS):=
 if isP E s x then (self s.take).bind fun a=>addR a.2 nt (zi E s) [] 0 [a.1]else below s
def aD(E:PE):Nat→NT→RdP
 |0,_,_=>.error 0
 |f+1,.expr,s=>BH (aD E f .expr) (aD E f .or) E s
 |f+1,.or,s=>bU (aD E f .and) E orK false s
 |f+1,.and,s=>bU (aD E f .not) E andK false s
 |f+1,.not,s=>kI 5 wNot (aD E f .not) (aD E f .cmp) E s
 |f+1,.cmp,s=>bU (aD E f .sum) E cmpK true s
 |f+1,.sum,s=>bU (aD E f .term) E sumK false s
 |f+1,.term,s=>bU (aD E f .unary) E sT false s
 |f+1,.unary,s=>kI 4 pX (aD E f .unary) (aD E f .postf) E s
 |f+1,.postf,s=>(aD E f .atom s).bind fun r=>jE (aD E f .expr) E (E.toks.length+1) r.1 r.2
 |f+1,.atom,s=>AU (aD E f .expr) (aD E f .put) E s
 |f+1,.kindOf,s=>mH (aD E f .kindOf) E s
 |f+1,.param,s=>uT (aD E f .kindOf) E s
 |f+1,.put,s=>putP (aD E f .expr) E s
def iE(E:PE)(s:PS):PR (Int×PS):=
 if isP E s pX then (bZ E s.take 2).bind fun s1=>addR s1 1 (zi E s) [] (-1*valP (zi E s.take).text) []
 else (bZ E s 2).bind fun s1=>addR s1 1 (zi E s) [] (1*valP (zi E s).text) []
def kM(E:PE)(own:Tk)(s:PS):PR (Int×PS):=
 (bZ E s 1).bind fun s1=>(cM E s1 rO).bind fun s2=>(iE E s2).bind fun a=>(cM E a.2 OQ).bind fun s4=>(iE E s4).bind fun b=>addR b.2 40 own (zi E s).text 0 [a.1,b.1]
def kT(param:RdP)(E:PE)(own:Tk)(s:PS):PR (Int×PS):=
 (bZ E s 1).bind fun s1=>(cM E s1 sEq).bind fun s2=>(cM E s2 xP).bind fun s3=>(jC param E s3).bind fun l=>(cM E l.2 FN).bind fun s5=>addR s5 41 own (zi E s).text 0 l.1
def sV(E:PE)(s:PS):PR (Int×PS):=
 if isP E s CD then (if (zi E s.take).text=NC then .error (zi E s.take).pos else (bZ E s.take 2).bind fun s1=>.ok (valP (zi E s.take).text,s1))else .ok (0,s)
def fM(param kindOf expr:RdP)(E:PE)(own:Tk)(s:PS):PR (Int×PS):=
 (bZ E s 1).bind fun s1=>(cM E s1 FM).bind fun s2=>(if isP E s2 pY then .ok ([],s2)else jC param E s2).bind fun l=>(cM E l.2 pY).bind fun s4=>(cM E s4 rO).bind fun s5=>
  (kindOf s5).bind fun k=>(sV E k.2).bind fun u=>(cM E u.2 sEq).bind fun s8=>(expr s8).bind fun e=>addR e.2 42 own (zi E s).text u.1 (l.1++[k.1]++[e.1])
def letP(expr:RdP)(E:PE)(own:Tk)(s:PS):PR (Int×PS):=
 (bZ E s 1).bind fun s1=>(cM E s1 sEq).bind fun s2=>(expr s2).bind fun e=>addR e.2 43 own (zi E s).text 0 [e.1]
def lT(expr:RdP)(E:PE)(own:Tk)(s:PS):PR (Int×PS):=
 (bZ E s 1).bind fun s1=>(cM E s1 rO).bind fun s2=>(expr s2).bind fun e=>addR e.2 44 own (zi E s).text 0 [e.1]
def iI(E:PE)(own:Tk)(s:PS):PR (Int×PS):=(bZ E s 1).bind fun s1=>addR s1 45 own (zi E s).text 0 []
def fX(x:List UInt8):Int:=
 if x=[109,117,115,116]then 1 else if x=[109,97,121]then 2 else if x=[99,111,117,110,116]then 3 else if x=[98,111,117,110,100,115]then 4
 else if x=[118,97,108,117,101,115]then 5 else if x=[119,104,121]then 6 else if x=[98,108,97,109,101]then 7 else if x=[108,111,111,107]then 8 else 0
def wT(expr:RdP)(E:PE)(own:Tk)(s:PS):PR (Int×PS):=
 if fX (zi E s).text==0 then .error (zi E s).pos
 else (if fX (zi E s).text==7 then .ok ([],s.take)else if fX (zi E s).text==8 then jC expr E s.take else (expr s.take).bind fun e=>.ok ([e.1],e.2)).bind fun l=>
  addR l.2 46 own [] (fX (zi E s).text) l.1
def ME(E:PE):Nat:=16*E.toks.length+32
def rdP(E:PE)(nt:NT):RdP:=aD E (ME E) nt
def pG(E:PE)(s:PS):PR (Int×PS):=
 if (zi E s).kind != 3 then .error (zi E s).pos
 else if (zi E s).text=xX then kM E (zi E s) s.take
 else if (zi E s).text=NB then kT (rdP E .param) E (zi E s) s.take
 else if (zi E s).text=wFun then fM (rdP E .param) (rdP E .kindOf) (rdP E .expr) E (zi E s) s.take
 else if (zi E s).text=wLet then letP (rdP E .expr) E (zi E s) s.take
 else if (zi E s).text=sW then lT (rdP E .expr) E (zi E s) s.take
 else if (zi E s).text=sX then iI E (zi E s) s.take
 else if (zi E s).text=wAsk then wT (rdP E .expr) E (zi E s) s.take
 else .error (zi E s).pos
def bS(E:PE):Nat→List Int→PS→PR (List Int×PS)
 |0,l,s=>.ok (l,s)
 |f+1,l,s=>if s.next<E.toks.length then (pG E s).bind fun r=>(cM E r.2 MU).bind fun s2=>bS E f (l++[r.1]) s2 else .ok (l,s)
def nG(E:PE):PR Tr:=(bS E (E.toks.length+1) [] ⟨0,[]⟩).map fun r=>⟨r.2.nodes,r.1⟩
def lZ(c:UInt8):Bool:=c==10||decide (32≤c.toNat)&&decide (c.toNat≤126)
def fJ(s:List UInt8):Int×Int:=
 if 2000<s.length then (2000,5)else match s.findIdx? (fun c=>!lZ c)with
  |some i=>(i,4)
  |none=>(0,0)
def gapB(c:UInt8):Bool:=c==32||c==10
def cE:Bool→List UInt8→Nat
 |_,[]=>0
 |true,c::l=>if c==10 then cE false l+1 else cE true l+1
 |false,c::l=>if gapB c then cE false l+1 else if c==35 then cE true l+1 else 0
def mN(s:List UInt8):Nat→Nat→List Tk→Except (Int×Int) (List Tk)
 |0,_,l=>.ok l
 | f+1,at_,l=>
   if at_<s.length then
    let r:=tokF (s.drop at_)
    if r.1==0 then .error (at_,4)else if l.length=800 then .error (at_,5)
    else mN s f (at_+r.2.length+cE false (s.drop (at_+r.2.length))) (l++[⟨r.1,r.2,at_⟩])
   else .ok l
def mO(s:List UInt8):Except (Int×Int) (List Tk):=if (fJ s).2 != 0 then .error (fJ s)else mN s (s.length+1) (cE false s) []
def uW(s:List UInt8):Except (Int×Int) Tr:=
 match mO s with
 |.error e=>.error e
 | .ok l=>match nG ⟨l,s.length⟩with
   |.error p=>.error (p,4)
   |.ok t=>.ok t
theorem bind_ok{ε α β:Type}{x:Except ε α}{g:α→Except ε β}{r:β}:x.bind g=.ok r↔∃v,x=.ok v∧g v=.ok r:=by
 cases x with
 |error e=>simp[Except.bind]
 |ok v=>simp[Except.bind]
structure NdOk (E:PE) (i:Nat) (d:Nd):Prop where
 kid:∀k∈d.kids,0≤k∧k<(i:Int)
 kids:d.kids.length≤E.toks.length+2
 n : -9999≤d.n∧d.n≤9999
 kind:1≤d.kind∧d.kind≤46
 text:d.text=[]∨∃t∈E.toks,d.text=t.text
 choose:d.kind=40→∃k0 k1,d.kids=[k0,k1]
structure Adv (E:PE) (k:Nat) (s s':PS):Prop where
 next:s.next≤s'.next
 le:s'.next≤E.toks.length
 pre:∃l,s'.nodes=s.nodes++l∧l.length+k≤s'.next-s.next
 ok:∀i d,s.nodes.length≤i→s'.nodes[i]?=some d→NdOk E i d
theorem Adv.refl{E:PE}{s:PS}(h:s.next≤E.toks.length):Adv E 0 s s:=
 ⟨nlr,h,⟨[],by simp,by simp⟩,fun i d hi hd=>by rw[List.getElem?_eq_none hi]at hd;cases hd⟩
theorem Adv.len{E:PE}{k:Nat}{s s':PS}(h:Adv E k s s'):s.nodes.length≤s'.nodes.length∧s'.nodes.length+k+s.next≤s.nodes.length+s'.next:=by
 obtain⟨h1,h2,⟨l,h3,h4⟩,h5⟩:=h;rw[h3,List.length_append];omega
theorem Adv.trans{E:PE}{k j:Nat}{a b c:PS}(h:Adv E k a b)(g:Adv E j b c):Adv E (k+j) a c:=by
 obtain⟨h1,h2,⟨l,h3,h4⟩,h5⟩:=h;obtain⟨g1,g2,⟨m,g3,g4⟩,g5⟩:=g;refine⟨by omega,g2,⟨l++m,by rw[g3,h3,List.append_assoc],by rw[List.length_append];omega⟩,fun i d hi hd=>?_⟩;by_cases hb:b.nodes.length≤i
 ·exact g5 i d hb hd
 ·refine h5 i d hi ?_
  rw[g3,List.getElem?_append_left (by omega)]at hd;exact hd
theorem Adv.less{E:PE}{k j:Nat}{a b:PS}(h:Adv E k a b)(hj:j≤k):Adv E j a b:=by
 obtain⟨h1,h2,⟨l,h3,h4⟩,h5⟩:=h;exact⟨h1,h2,⟨l,h3,by omega⟩,h5⟩
theorem Adv.take{E:PE}{k:Nat}{a b:PS}(h:Adv E k a b)(hb:b.next<E.toks.length):Adv E (k+1) a b.take:=by
 obtain⟨h1,h2,⟨l,h3,h4⟩,h5⟩:=h;refine⟨?_,?_,⟨l,h3,?_⟩,h5⟩<;>simp only[PS.take]<;>omega
theorem Adv.add{E:PE}{k:Nat}{a b:PS}{kind:Int}{own:Tk}{text:List UInt8}{n:Int}{kids:List Int}(h:Adv E (k+1) a b)(ok:NdOk E b.nodes.length ⟨kind,text,n,kids,own.pos⟩) :
 Adv E k a (addP b kind own text n kids):=by
 obtain⟨h1,h2,⟨l,h3,h4⟩,h5⟩:=h;refine⟨h1,h2,⟨l++[⟨kind,text,n,kids,own.pos⟩],by simp[addP,h3],by simp[addP];omega⟩,fun i d hi hd=>?_⟩;simp only[addP]at hd;by_cases hb:i<b.nodes.length
 ·rw[List.getElem?_append_left hb]at hd
  exact h5 i d hi hd
 ·rw[List.getElem?_append_right (by omega)]at hd
  by_cases he:i-b.nodes.length=0
  ·rw[he]at hd
   simp only[List.length_singleton,Nat.lt_add_one,List.getElem?_eq_getElem,List.getElem_cons_zero,Option.some.injEq]at hd;subst hd;have:i=b.nodes.length:=by omega
   subst this;exact ok
  ·rw[List.getElem?_eq_none (by simp;omega)]at hd
   cases hd
structure Rd (E:PE) (s:PS) (a:Int) (s':PS):Prop where
 adv:Adv E 0 s s'
 more:s.next<s'.next
 lo:(s.nodes.length:Int)≤a
 hi:a<(s'.nodes.length:Int)
def mD(E:PE):Prop:=∀t∈E.toks,t.kind=2→0≤valP t.text∧valP t.text≤9999
theorem jD{E:PE}{s:PS}(h:E.toks.length≤s.next):zi E s=⟨0,[],E.fin⟩:=by
 unfold zi;rw[List.getD_eq_getElem?_getD,List.getElem?_eq_none h];rfl
theorem dW{E:PE}{s:PS}(h:s.next<E.toks.length):zi E s∈E.toks:=by
 unfold zi;rw[List.getD_eq_getElem?_getD,List.getElem?_eq_getElem h];exact List.getElem_mem h
theorem eT{E:PE}{s:PS}{x:List UInt8}(h:isP E s x=true):s.next<E.toks.length:=by
 apply Classical.byContradiction;intro hn;unfold isP isTk at h;rw[jD (by omega)]at h;simp at h
theorem pJ{E:PE}{s:PS}{k:Int}(hk:k≠0)(h:(zi E s).kind=k):s.next<E.toks.length:=by
 apply Classical.byContradiction;intro hn;rw[jD (by omega)]at h;exact hk h.symm
theorem bF{E:PE}{s s':PS}{x:List UInt8}(h:cM E s x=.ok s'):s'=s.take∧s.next<E.toks.length:=by
 unfold cM at h;split at h
 ·rename_i hi
  exact⟨(Except.ok.inj h).symm,eT hi⟩
 ·cases h
theorem cA{E:PE}{s s':PS}{k:Int}(hk:k≠0)(h:bZ E s k=.ok s'):s'=s.take∧s.next<E.toks.length∧(zi E s).kind=k:=by
 unfold bZ at h;split at h
 ·rename_i hi
  have hi:=eq_of_beq hi;exact⟨(Except.ok.inj h).symm,pJ hk hi,hi⟩
 ·cases h
theorem bD{s s':PS}{a kind n:Int}{own:Tk}{text:List UInt8}{kids:List Int}(h:addR s kind own text n kids=.ok (a,s')):a=s.nodes.length∧s'=addP s kind own text n kids:=by
 unfold addR at h;simpa[eq_comm]using Except.ok.inj h
theorem cR{E:PE}{s b:PS}{kind n:Int}{own:Tk}{text:List UInt8}{kids:List Int}(h:Adv E 1 s b)(ok:NdOk E b.nodes.length ⟨kind,text,n,kids,own.pos⟩):Rd E s b.nodes.length (addP b kind own text n kids):=by
 have hl:=h.len;refine⟨h.add ok,?_,?_,?_⟩
 ·simp only[addP];omega
 ·omega
 ·simp[addP];omega
theorem ndok{E:PE}{i:Nat}{kind n:Int}{text:List UInt8}{kids:List Int}{pos:Int}(h1:∀k∈kids,0≤k∧k<(i:Int))(h2:kids.length≤E.toks.length+2)(h3 : -9999≤n∧n≤9999)(h4:1≤kind∧kind≤46)
 (h5:text=[]∨∃t∈E.toks,text=t.text)(h6:kind=40→∃k0 k1,kids=[k0,k1]):NdOk E i ⟨kind,text,n,kids,pos⟩:=⟨h1,h2,h3,h4,h5,h6⟩
def Good1(E:PE)(rd:RdP):Prop:=∀s a s',s.next≤E.toks.length→rd s=.ok (a,s')→Rd E s a s'
theorem yM{E:PE}{rd:RdP}(g:Good1 E rd):∀(f:Nat) (l:List Int) (s:PS) (l':List Int) (s':PS),s.next≤E.toks.length→(∀k∈l,0≤k∧k<(s.nodes.length:Int))→mI rd E f l s=.ok (l',s') →
 Adv E 0 s s'∧(∀k∈l',0≤k∧k<(s'.nodes.length:Int))∧l'.length+s.next≤l.length+s'.next
 | 0,l,s,l',s',hs,hl,h=>by
   simp only[mI,Except.ok.injEq,Prod.mk.injEq]at h;obtain⟨rfl,rfl⟩:=h;exact⟨Adv.refl hs,hl,nlr⟩
 | f+1,l,s,l',s',hs,hl,h=>by
   rw[mI]at h;split at h
   ·rename_i hi
    obtain⟨⟨a,b⟩,h1,h2⟩:=bind_ok.1 h;have hlt:=eT hi;have r:=g s.take a b (by simp only[PS.take];omega) h1;have hb:=r.adv.len
    obtain⟨h3,h4,h5⟩:=yM g f _ b l' s' r.adv.le (by
     intro k hk;rcases List.mem_append.1 hk with hk|hk
     ·have:=hl k hk
      simp only[PS.take]at hb;omega
     ·obtain rfl:=List.mem_singleton.1 hk
      have:=r.lo
      exact⟨by omega,r.hi⟩) h2
    have hm:=r.more;simp only[PS.take]at hm;refine⟨(((Adv.refl hs).take hlt).trans (r.adv.trans h3)).less (by omega),h4,?_⟩;simp only[List.length_append,List.length_singleton]at h5;omega
   ·simp only[Except.ok.injEq,Prod.mk.injEq]at h
    obtain⟨rfl,rfl⟩:=h;exact⟨Adv.refl hs,hl,nlr⟩
theorem jV{E:PE}{rd:RdP}(g:Good1 E rd){s:PS}{l':List Int}{s':PS}(hs:s.next≤E.toks.length)(h:jC rd E s=.ok (l',s')) :
 Adv E 0 s s'∧(∀k∈l',0≤k∧k<(s'.nodes.length:Int))∧l'.length+s.next≤s'.next:=by
 unfold jC at h;obtain⟨⟨a,b⟩,h1,h2⟩:=bind_ok.1 h;have r:=g s a b hs h1;have hl:=r.lo
 obtain⟨h3,h4,h5⟩:=yM g _ _ b l' s' r.adv.le (by
  intro k hk;obtain rfl:=List.mem_singleton.1 hk
  exact⟨by omega,r.hi⟩) h2
 have:=r.more;refine⟨(r.adv.trans h3).less (by omega),h4,?_⟩;simp only[List.length_singleton]at h5;omega
theorem fV{E:PE}{s:PS}{kinds:List UInt8→Int}(h0:kinds []=0)(h:(kinds (zi E s).text==0)=false):s.next<E.toks.length:=by
 apply Classical.byContradiction;intro hn;rw[jD (by omega)]at h;simp[h0]at h
theorem uM{E:PE}{below:RdP}{kinds:List UInt8→Int}{once:Bool}(g:Good1 E below)(h0:kinds []=0)(hk:∀x,kinds x=0∨1≤kinds x∧kinds x≤18):∀(f:Nat) (a:Int) (s:PS) (a':Int) (s':PS),
 s.next≤E.toks.length→0≤a→a<(s.nodes.length:Int)→eO below E kinds once f a s=.ok (a',s')→Adv E 0 s s'∧a≤a'∧a'<(s'.nodes.length:Int)
 | 0,a,s,a',s',hs,ha,hb,h=>by
   simp only[eO,Except.ok.injEq,Prod.mk.injEq]at h;obtain⟨rfl,rfl⟩:=h;exact⟨Adv.refl hs,Int.le_refl _,hb⟩
 | f+1,a,s,a',s',hs,ha,hb,h=>by
   rw[eO]at h;cases hz:(kinds (zi E s).text==0)with
   | true=>
     rw[if_pos hz]at h;simp only[Except.ok.injEq,Prod.mk.injEq]at h;obtain⟨rfl,rfl⟩:=h;exact⟨Adv.refl hs,Int.le_refl _,hb⟩
   | false=>
     rw[if_neg (by rw[hz];exact Bool.false_ne_true)]at h;obtain⟨⟨b,c⟩,h1,h2⟩:=bind_ok.1 h;have hlt:=fV h0 hz;have r:=g s.take b c (by simp only[PS.take];omega) h1;have hcl:=r.adv.len;have hm:=r.more;have hlo:=r.lo;have hhi:=r.hi;simp only[PS.take]at hm hcl hlo;have hkk:=(hk (zi E s).text).resolve_left (by simpa using hz)
     have had:Adv E 0 s (addP c (kinds (zi E s).text) (zi E s) [] 0 [a,b]):=by
      refine Adv.add ((((Adv.refl hs).take hlt).trans r.adv).less (by omega)) (ndok ?_ (by simp) (by omega) (by omega) (.inl rfl) (by omega));intro k hk;simp only[List.mem_cons,List.not_mem_nil,or_false]at hk;rcases hk with rfl|rfl<;>omega
     simp only at h2;split at h2
     ·simp only[Except.ok.injEq,Prod.mk.injEq]at h2
      obtain⟨rfl,rfl⟩:=h2;exact⟨had,by omega,by simp[addP];omega⟩
     ·obtain⟨h3,h4,h5⟩:=uM g h0 hk f _ _ a' s' had.le (by omega) (by simp[addP];omega) h2
      exact⟨(had.trans h3).less (by omega),by omega,h5⟩
theorem jB{E:PE}{below:RdP}{kinds:List UInt8→Int}{once:Bool}(g:Good1 E below)(h0:kinds []=0)(hk:∀x,kinds x=0∨1≤kinds x∧kinds x≤18):Good1 E (bU below E kinds once):=by
 intro s a s' hs h;unfold bU at h;obtain⟨⟨b,c⟩,h1,h2⟩:=bind_ok.1 h;have r:=g s b c hs h1;have hm:=r.more;have hlo:=r.lo;obtain⟨h3,h4,h5⟩:=uM g h0 hk _ _ c a s' r.adv.le (by omega) r.hi h2;exact⟨(r.adv.trans h3).less (by omega),by have:=h3.next;omega,by omega,h5⟩
theorem fE{E:PE}{s:PS}(h:s.next<E.toks.length):∃t∈E.toks,(zi E s).text=t.text:=⟨_,dW h,rfl⟩
theorem sO{E:PE}{expr:RdP}(g:Good1 E expr):∀(f:Nat) (a:Int) (s:PS) (a':Int) (s':PS),
 s.next≤E.toks.length→0≤a→a<(s.nodes.length:Int)→jE expr E f a s=.ok (a',s')→Adv E 0 s s'∧a≤a'∧a'<(s'.nodes.length:Int)
 | 0,a,s,a',s',hs,ha,hb,h=>by
   simp only[jE,Except.ok.injEq,Prod.mk.injEq]at h;obtain⟨rfl,rfl⟩:=h;exact⟨Adv.refl hs,Int.le_refl _,hb⟩
 | f+1,a,s,a',s',hs,ha,hb,h=>by
   rw[jE]at h;split at h
   ·rename_i hi
    have hlt:=eT hi;obtain⟨s1,h1,h2⟩:=bind_ok.1 h;obtain⟨rfl,hlt1,-⟩:=cA (by decide) h1
    have had:Adv E 0 s (addP s.take.take 22 (zi E s) (zi E s.take).text 0 [a]):=by
     refine Adv.add ((((Adv.refl hs).take hlt).take hlt1).less (by omega)) (ndok ?_ (by simp) (by omega) (by omega) (.inr (fE hlt1)) (by omega));intro k hk;obtain rfl:=List.mem_singleton.1 hk;simp only[PS.take];omega
    obtain⟨h3,h4,h5⟩:=sO g f _ _ a' s' had.le (by omega) (by simp[addP];omega) h2;exact⟨(had.trans h3).less (by omega),by simp only[PS.take]at h4;omega,h5⟩
   ·split at h
    ·rename_i hi
     have hlt:=eT hi;obtain⟨⟨b,c⟩,h1,h2⟩:=bind_ok.1 h;obtain⟨s2,h6,h7⟩:=bind_ok.1 h2;obtain⟨rfl,hlt2⟩:=bF h6;have r:=g s.take b c (by simp only[PS.take];omega) h1;have hcl:=r.adv.len;have hm:=r.more;have hlo:=r.lo;have hhi:=r.hi;simp only[PS.take]at hm hcl hlo
     have had:Adv E 0 s (addP c.take 23 (zi E s) [] 0 [a,b]):=by
      refine Adv.add (((((Adv.refl hs).take hlt).trans r.adv).take hlt2).less (by omega)) (ndok ?_ (by simp) (by omega) (by omega) (.inl rfl) (by omega));intro k hk;simp only[List.mem_cons,List.not_mem_nil,or_false]at hk;simp only[PS.take];rcases hk with rfl|rfl<;>omega
     obtain⟨h3,h4,h5⟩:=sO g f _ _ a' s' had.le (by omega) (by simp[addP];omega) h7;exact⟨(had.trans h3).less (by omega),by simp only[PS.take]at h4;omega,h5⟩
    ·simp only[Except.ok.injEq,Prod.mk.injEq]at h
     obtain⟨rfl,rfl⟩:=h;exact⟨Adv.refl hs,Int.le_refl _,hb⟩
theorem cK{i:Nat}:∀k∈([]:List Int),0≤k∧k<(i:Int):=fun _ h=>by cases h
theorem lN{i:Nat}{a:Int}(h0:0≤a)(h1:a<i):∀k∈[a],0≤k∧k<(i:Int):=fun _ h=>by
 obtain rfl:=List.mem_singleton.1 h;exact⟨h0,h1⟩
theorem EN{E:PE}{expr put:RdP}(ge:Good1 E expr)(gp:Good1 E put){nm:Tk}(hnm:nm∈E.toks){s0 s:PS}(ad:Adv E 1 s0 s){a:Int}{s':PS}(h:rH expr put E nm s=.ok (a,s')):Rd E s0 a s':=by
 have hs:=ad.le;unfold rH at h;split at h
 ·rename_i hi
  have hlt:=eT hi;obtain⟨⟨l,c⟩,h1,h2⟩:=bind_ok.1 h;obtain⟨s2,h3,h4⟩:=bind_ok.1 h2;obtain⟨rfl,hlt2⟩:=bF h3;obtain⟨rfl,rfl⟩:=bD h4
  obtain⟨k1,k2,k3⟩:Adv E 0 s.take c∧(∀k∈l,0≤k∧k<(c.nodes.length:Int))∧l.length+s.take.next≤c.next:=by
   split at h1
   ·simp only[Except.ok.injEq,Prod.mk.injEq]at h1
    obtain⟨rfl,rfl⟩:=h1;exact⟨Adv.refl (by simp only[PS.take];omega),cK,by simp⟩
   ·exact jV ge (by simp only[PS.take];omega) h1
  have hl:=k1.le;exact cR ((((ad.take hlt).trans k1).take hlt2).less (by omega)) (ndok (by simpa[PS.take]using k2) (by dsimp only;omega) (by omega) (by omega) (.inr ⟨nm,hnm,rfl⟩) (by omega))
 ·split at h
  ·rename_i hi
   have hlt:=eT hi;obtain⟨⟨l,c⟩,h1,h2⟩:=bind_ok.1 h;obtain⟨s2,h3,h4⟩:=bind_ok.1 h2;obtain⟨rfl,hlt2⟩:=bF h3;obtain⟨rfl,rfl⟩:=bD h4;obtain⟨k1,k2,k3⟩:=jV gp (by simp only[PS.take];omega) h1;have hl:=k1.le;exact cR ((((ad.take hlt).trans k1).take hlt2).less (by omega)) (ndok (by simpa[PS.take]using k2) (by dsimp only;omega) (by omega) (by omega) (.inr ⟨nm,hnm,rfl⟩) (by omega))
  ·obtain⟨rfl,rfl⟩:=bD h
   exact cR ad (ndok cK (by simp) (by omega) (by omega) (.inr ⟨nm,hnm,rfl⟩) (by omega))
theorem IM{E:PE}(tk:mD E){expr put:RdP}(ge:Good1 E expr)(gp:Good1 E put):Good1 E (AU expr put E):=by
 intro s a s' hs h;unfold AU at h;split at h
 ·rename_i hk
  have hk:=eq_of_beq hk;have hlt:=pJ (by decide) hk;obtain⟨rfl,rfl⟩:=bD h;have hv:=tk _ (dW hlt) hk;exact cR ((Adv.refl hs).take hlt) (ndok cK (by simp) (by omega) (by omega) (.inl rfl) (by omega))
 ·split at h
  ·rename_i hi
   obtain⟨rfl,rfl⟩:=bD h;exact cR ((Adv.refl hs).take (eT hi)) (ndok cK (by simp) (by omega) (by omega) (.inl rfl) (by omega))
  ·split at h
   ·rename_i hi
    obtain⟨rfl,rfl⟩:=bD h;exact cR ((Adv.refl hs).take (eT hi)) (ndok cK (by simp) (by omega) (by omega) (.inl rfl) (by omega))
   ·split at h
    ·rename_i hi
     have hlt:=eT hi;obtain⟨⟨b,c⟩,h1,h2⟩:=bind_ok.1 h;obtain⟨s2,h3,h4⟩:=bind_ok.1 h2;obtain⟨rfl,hlt2⟩:=bF h3;simp only[Except.ok.injEq,Prod.mk.injEq]at h4;obtain⟨rfl,rfl⟩:=h4;have r:=ge s.take b c (by simp only[PS.take];omega) h1;have hm:=r.more;have hlo:=r.lo;have hhi:=r.hi;simp only[PS.take]at hm hlo;exact⟨((((Adv.refl hs).take hlt).trans r.adv).take hlt2).less (by omega),by simp only[PS.take];omega,hlo,hhi⟩
    ·split at h
     ·rename_i hi
      have hlt:=eT hi;obtain⟨⟨l,c⟩,h1,h2⟩:=bind_ok.1 h;obtain⟨s2,h3,h4⟩:=bind_ok.1 h2;obtain⟨rfl,hlt2⟩:=bF h3;obtain⟨rfl,rfl⟩:=bD h4;obtain⟨k1,k2,k3⟩:=jV ge (by simp only[PS.take];omega) h1;have hl:=k1.le;exact cR (((((Adv.refl hs).take hlt).trans k1).take hlt2).less (by omega)) (ndok (by simpa[PS.take]using k2) (by dsimp only;omega) (by omega) (by omega) (.inl rfl) (by omega))
     ·obtain⟨s1,h1,h2⟩:=bind_ok.1 h
      obtain⟨rfl,hlt,-⟩:=cA (by decide) h1;exact EN ge gp (dW hlt) ((Adv.refl hs).take hlt) h2
theorem BP{E:PE}(tk:mD E){kindOf:RdP}(g:Good1 E kindOf):Good1 E (mH kindOf E):=by
 intro s a s' hs h;unfold mH at h;split at h
 ·rename_i hi
  obtain⟨rfl,rfl⟩:=bD h;exact cR ((Adv.refl hs).take (eT hi)) (ndok cK (by simp) (by omega) (by omega) (.inl rfl) (by omega))
 ·split at h
  ·rename_i hi
   obtain⟨rfl,rfl⟩:=bD h;exact cR ((Adv.refl hs).take (eT hi)) (ndok cK (by simp) (by omega) (by omega) (.inl rfl) (by omega))
  ·split at h
   ·rename_i hi
    have hlt:=eT hi;obtain⟨⟨b,c⟩,h1,h2⟩:=bind_ok.1 h;obtain⟨s2,h3,h4⟩:=bind_ok.1 h2;obtain⟨rfl,hlt2⟩:=bF h3;obtain⟨s3,h5,h6⟩:=bind_ok.1 h4;obtain⟨rfl,hlt3,hk3⟩:=cA (by decide) h5;obtain⟨s4,h7,h8⟩:=bind_ok.1 h6;obtain⟨rfl,hlt4⟩:=bF h7;obtain⟨rfl,rfl⟩:=bD h8;have r:=g s.take b c (by simp only[PS.take];omega) h1;have hm:=r.more;have hlo:=r.lo;have hhi:=r.hi;have hv:=tk _ (dW hlt3) hk3;exact cR (((((((Adv.refl hs).take hlt).trans r.adv).take hlt2).take hlt3).take hlt4).less (by omega)) (ndok (lN (by omega) (by simpa[PS.take]using hhi)) (by simp) (by omega) (by omega) (.inl rfl) (by omega))
   ·obtain⟨s1,h1,h2⟩:=bind_ok.1 h
    obtain⟨rfl,hlt,-⟩:=cA (by decide) h1;obtain⟨rfl,rfl⟩:=bD h2;exact cR ((Adv.refl hs).take hlt) (ndok cK (by simp) (by omega) (by omega) (.inr (fE hlt)) (by omega))
theorem yF{E:PE}{rd:RdP}(g:Good1 E rd){k:Int}(hk:1≤k∧k≤39):Good1 E (fun s=>(bZ E s 1).bind fun s1=>(cM E s1 rO).bind fun s2=>(rd s2).bind fun r=>addR r.2 k (zi E s) (zi E s).text 0 [r.1]):=by
 intro s a s' hs h;obtain⟨s1,h1,h2⟩:=bind_ok.1 h;obtain⟨rfl,hlt,-⟩:=cA (by decide) h1;obtain⟨s2,h3,h4⟩:=bind_ok.1 h2;obtain⟨rfl,hlt2⟩:=bF h3;obtain⟨⟨b,c⟩,h5,h6⟩:=bind_ok.1 h4;obtain⟨rfl,rfl⟩:=bD h6;have r:=g s.take.take b c (by simp only[PS.take]at hlt2⊢;omega) h5;have hlo:=r.lo;have hhi:=r.hi;exact cR (((((Adv.refl hs).take hlt).take hlt2).trans r.adv).less (by omega)) (ndok (lN (by omega) hhi) (by simp) (by omega) (by omega) (.inr (fE hlt)) (by omega))
theorem IW{E:PE}{expr or:RdP}(g:Good1 E expr)(go:Good1 E or):Good1 E (BH expr or E):=by
 intro s a s' hs h;unfold BH at h;split at h
 ·rename_i hi
  have hlt:=eT hi;obtain⟨⟨b,c⟩,h1,h2⟩:=bind_ok.1 h;obtain⟨s2,h3,h4⟩:=bind_ok.1 h2;obtain⟨rfl,hlt2⟩:=bF h3;obtain⟨⟨d,e⟩,h5,h6⟩:=bind_ok.1 h4;obtain⟨s4,h7,h8⟩:=bind_ok.1 h6;obtain⟨rfl,hlt4⟩:=bF h7;obtain⟨⟨f,i⟩,h9,h10⟩:=bind_ok.1 h8;obtain⟨rfl,rfl⟩:=bD h10;have r:=g s.take b c (by simp only[PS.take];omega) h1;have r2:=g c.take d e (by simp only[PS.take]at hlt2⊢;omega) h5;have r3:=g e.take f i (by simp only[PS.take]at hlt4⊢;omega) h9;have l1:=r.adv.len;have l2:=r2.adv.len;have l3:=r3.adv.len;have a1:=r.lo;have a2:=r2.lo;have a3:=r3.lo;have b1:=r.hi;have b2:=r2.hi;have b3:=r3.hi;simp only[PS.take]at l1 l2 l3 a1 a2 a3;refine cR (((((((Adv.refl hs).take hlt).trans r.adv).take hlt2).trans r2.adv).take hlt4).trans r3.adv |>.less (by omega)) (ndok ?_ (by simp;omega) (by omega) (by omega) (.inl rfl) (by omega));intro k hk;simp only[List.mem_cons,List.not_mem_nil,or_false]at hk;simp only;rcases hk with rfl|rfl|rfl<;>omega
 ·split at h
  ·rename_i hi
   have hlt:=eT hi;obtain⟨s1,h1,h2⟩:=bind_ok.1 h;obtain⟨rfl,hlt1,-⟩:=cA (by decide) h1;obtain⟨s2,h3,h4⟩:=bind_ok.1 h2;obtain⟨rfl,hlt2⟩:=bF h3;obtain⟨⟨b,c⟩,h5,h6⟩:=bind_ok.1 h4;obtain⟨s4,h7,h8⟩:=bind_ok.1 h6;obtain⟨rfl,hlt4⟩:=bF h7;obtain⟨⟨f,i⟩,h9,h10⟩:=bind_ok.1 h8;obtain⟨rfl,rfl⟩:=bD h10;have r:=g s.take.take.take b c (by simp only[PS.take]at hlt2⊢;omega) h5;have r3:=g c.take f i (by simp only[PS.take]at hlt4⊢;omega) h9;have l1:=r.adv.len;have l3:=r3.adv.len;have a1:=r.lo;have a3:=r3.lo;have b1:=r.hi;have b3:=r3.hi;simp only[PS.take]at l1 l3 a1 a3;refine cR (((((((Adv.refl hs).take hlt).take hlt1).take hlt2).trans r.adv).take hlt4).trans r3.adv |>.less (by omega)) (ndok ?_ (by simp) (by omega) (by omega) (.inr (fE hlt1)) (by omega));intro k hk;simp only[List.mem_cons,List.not_mem_nil,or_false]at hk;simp only;rcases hk with rfl|rfl<;>omega
  ·exact go s a s' hs h
theorem vN{E:PE}{self below:RdP}(g:Good1 E self)(gb:Good1 E below){nt:Int}(hn:1≤nt∧nt≤39){x:List UInt8}:Good1 E (kI nt x self below E):=by
 intro s a s' hs h;unfold kI at h;split at h
 ·rename_i hi
  have hlt:=eT hi;obtain⟨⟨b,c⟩,h1,h2⟩:=bind_ok.1 h;obtain⟨rfl,rfl⟩:=bD h2;have r:=g s.take b c (by simp only[PS.take];omega) h1;have hlo:=r.lo;exact cR ((((Adv.refl hs).take hlt).trans r.adv).less (by omega)) (ndok (lN (by omega) r.hi) (by simp) (by omega) (by omega) (.inl rfl) (by omega))
 ·exact gb s a s' hs h
theorem NV(x:List UInt8):orK x=0∨1≤orK x∧orK x≤18:=by unfold orK;split<;>omega
theorem LU(x:List UInt8):andK x=0∨1≤andK x∧andK x≤18:=by unfold andK;split<;>omega
theorem LW(x:List UInt8):cmpK x=0∨1≤cmpK x∧cmpK x≤18:=by
 unfold cmpK
 repeat' split
 all_goals omega
theorem MV(x:List UInt8):sumK x=0∨1≤sumK x∧sumK x≤18:=by
 unfold sumK
 repeat' split
 all_goals omega
theorem KX(x:List UInt8):sT x=0∨1≤sT x∧sT x≤18:=by
 unfold sT
 repeat' split
 all_goals omega
theorem uV{E:PE}(tk:mD E):∀(f:Nat) (nt:NT),Good1 E (aD E f nt)
 |0,nt=>fun s a s' _ h=>by simp[aD]at h
 | f+1,nt=>by
   have IH:=uV tk f
   cases nt with
   |expr=>exact fun s a s' hs h=>IW (IH .expr) (IH .or) s a s' hs (by rwa[aD]at h)
   |or=>exact fun s a s' hs h=>jB (IH .and) (by decide) NV s a s' hs (by rwa[aD]at h)
   |and=>exact fun s a s' hs h=>jB (IH .not) (by decide) LU s a s' hs (by rwa[aD]at h)
   |not=>exact fun s a s' hs h=>vN (nt:=5) (x:=wNot) (IH .not) (IH .cmp) (by omega) s a s' hs (by rwa[aD]at h)
   |cmp=>exact fun s a s' hs h=>jB (IH .sum) (by decide) LW s a s' hs (by rwa[aD]at h)
   |sum=>exact fun s a s' hs h=>jB (IH .term) (by decide) MV s a s' hs (by rwa[aD]at h)
   |term=>exact fun s a s' hs h=>jB (IH .unary) (by decide) KX s a s' hs (by rwa[aD]at h)
   |unary=>exact fun s a s' hs h=>vN (nt:=4) (x:=pX) (IH .unary) (IH .postf) (by omega) s a s' hs (by rwa[aD]at h)
   | postf=>
     intro s a s' hs h;rw[aD]at h;obtain⟨⟨b,c⟩,h1,h2⟩:=bind_ok.1 h;have r:=IH .atom s b c hs h1;have hlo:=r.lo;have hm:=r.more;obtain⟨h3,h4,h5⟩:=sO (IH .expr) _ b c a s' r.adv.le (by omega) r.hi h2;exact⟨(r.adv.trans h3).less (by omega),by have:=h3.next;omega,by omega,h5⟩
   |atom=>exact fun s a s' hs h=>IM tk (IH .expr) (IH .put) s a s' hs (by rwa[aD]at h)
   |kindOf=>exact fun s a s' hs h=>BP tk (IH .kindOf) s a s' hs (by rwa[aD]at h)
   |param=>exact fun s a s' hs h=>yF (IH .kindOf) (k:=34) (by omega) s a s' hs (by rwa[aD,uT]at h)
   |put=>exact fun s a s' hs h=>yF (IH .expr) (k:=25) (by omega) s a s' hs (by rwa[aD,putP]at h)
end
end Go.Proofs.YtokdgiphdnjeoaaGreatDoor
