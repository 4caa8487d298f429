/- Part of a proof. -/
import Derived.Test.YtcdkdiedphhdhaaGreatDoorK03
import Derived.Test.YtcdkdiedphhdhaaGreatDoorK06
import Derived.Maps.AppendAt
import Derived.WalkSmall
import Derived.Laws.OwnMore
import Derived.Deep.QuietTactic
import Derived.BigQuiet
import Derived.Deep.RegionHeld3
set_option maxRecDepth 100000
set_option maxHeartbeats 8000000
set_option linter.unusedVariables false
set_option linter.unusedSimpArgs false
open Go.Proofs.Tryz
namespace Go.Proofs.YtcdkdiedphhdhaaGreatDoor
section
open Go.RowKit
theorem kI:(prog.info? 3).map (fun i=>(i.zero,i.size,i.bytes))=some (some (.int .i64 0),1,8):=by kernel_rfl
theorem PV:(prog.info? 5).map (fun i=>(i.zero,i.size,i.bytes))=some (some (.int .u8 0),1,1):=by kernel_rfl
theorem pZ:(prog.info? 9).map (fun i=>(i.zero,i.size,i.bytes))=some (some (.string ⟨#[]⟩),1,16):=by kernel_rfl
theorem mA:(prog.info? 31).map (fun i=>(i.zero,i.size,i.bytes))=some (some (.agg #[.int .u8 0,.string ⟨#[]⟩,.int .i64 0,.slice none 0 0,.int .i64 0]),5,64):=by kernel_rfl
theorem bI:prog.underlying 23=some (.slice 3):=by kernel_rfl
theorem BR:prog.underlying 46=some (.slice 5):=by kernel_rfl
theorem dK:prog.underlying 22=some (.slice 31):=by kernel_rfl
abbrev intV(n:Int):Value:=.int .i64 n
abbrev zq(l:List Int):List Value:=l.map intV
structure Nd where
 kind:Int
 text:List UInt8
 n:Int
 kids:List Int
 pos:Int
deriving DecidableEq
structure Tr where
 nodes:List Nd
 items:List Int
deriving DecidableEq
def Nd.cells(d:Nd)(a:Option Addr×Nat):List Value:=[.int .u8 d.kind,strV d.text,intV d.n,.slice a.1 d.kids.length a.2,intV d.pos]
def zN:List Nd->List (Option Addr×Nat)->List Value
 |d::ds,a::ks=>d.cells a++zN ds ks
 |_,_=>[]
def Nodes(w:World)(a:Option Addr)(c:Nat)(ns:List Nd):Prop:=
 ∃ks:List (Option Addr×Nat),ks.length=ns.length/\Row 5 w a ns.length c (zN ns ks)/\∀i (h:i<ns.length) (k:i<ks.length),Row 1 w ks[i].1 ns[i].kids.length ks[i].2 (zq ns[i].kids)
theorem iL:∀(ns:List Nd) (ks:List (Option Addr×Nat)),ks.length=ns.length->(zN ns ks).length=ns.length*5
 | [],[],_=>rfl
 | d::ns,a::ks,h=>by
   simp only[zN,List.length_append,Nd.cells,List.length_cons,List.length_nil,iL ns ks (by simpa using h)];omega
 | [],_::_,h=>by simp at h
 |_::_,[],h=>by simp at h
theorem mU:∀(ns:List Nd) (ks:List (Option Addr×Nat)) (hk:ks.length=ns.length) (i:Nat) (h:i<ns.length) (j:Nat) (hj:j<5),(zN ns ks)[i*5+j]?=(ns[i].cells (ks[i]'(by omega)))[j]?
 | d::ns,a::ks,hk,0,_,j,hj=>by
   simp only[zN,Nat.zero_mul,Nat.zero_add,List.getElem_cons_zero];rw[List.getElem?_append_left (by simp[Nd.cells];omega)]
 | d::ns,a::ks,hk,i+1,h,j,hj=>by
   simp only[zN,List.getElem_cons_succ];rw[List.getElem?_append_right (by simp[Nd.cells];omega),<-mU ns ks (by simpa using hk) i (by simpa using h) j hj];congr 1;simp[Nd.cells];omega
 | [],_,_,_,h,_,_=>by simp at h
 |_::_,[],hk,_,_,_,_=>by simp at hk
theorem Nodes.mono{w w':World}{a:Option Addr}{c:Nat}{ns:List Nd}{B:Nat}(h:Nodes w a c ns)(hb:Below B w w')(hB:w.heap.size<=B):Nodes w' a c ns:=by
 obtain⟨ks,h1,h2,h3⟩:=h;exact⟨ks,h1,h2.mono hb hB,fun i h k=>(h3 i h k).mono hb hB⟩
theorem Nodes.at{w:World}{a:Option Addr}{c:Nat}{ns:List Nd}(h:Nodes w a c ns){i:Nat}(hi:i<ns.length) :
 ∃ b o ka kc,a=some ⟨b,o,none⟩/\b<w.heap.size/\w.cell? ⟨b,o+i*5,none⟩=some (.int .u8 ns[i].kind)/\w.cell? ⟨b,o+i*5+1,none⟩=some (strV ns[i].text) /\
   w.cell? ⟨b,o+i*5+2,none⟩=some (intV ns[i].n)/\w.cell? ⟨b,o+i*5+3,none⟩=some (.slice ka ns[i].kids.length kc)/\w.cell? ⟨b,o+i*5+4,none⟩=some (intV ns[i].pos) /\
   Row 1 w ka ns[i].kids.length kc (zq ns[i].kids):=by
 obtain⟨ks,h1,h2,h3⟩:=h;obtain⟨b,o,rfl,hb,hc⟩:=h2.some (by omega);have hl:=iL ns ks h1
 have key:∀j (hj:j<5),w.cell? ⟨b,o+i*5+j,none⟩=(ns[i].cells (ks[i]'(by omega)))[j]?:=by
  intro j hj;have ha:i*5+j<(zN ns ks).length:=by omega
  rw[Nat.add_assoc,hc (i*5+j) ha,<-mU ns ks h1 i hi j hj,List.getElem?_eq_getElem ha]
 exact⟨b,o,_,_,rfl,hb,key 0 (by omega),key 1 (by omega),key 2 (by omega),key 3 (by omega),key 4 (by omega),h3 i hi (by omega)⟩
abbrev Ints(w:World)(a:Option Addr)(c:Nat)(l:List Int):Prop:=Row 1 w a l.length c (zq l)
theorem Ints.at{w:World}{a:Option Addr}{c:Nat}{l:List Int}(h:Ints w a c l){i:Nat}(hi:i<l.length):∃b o,a=some ⟨b,o,none⟩/\b<w.heap.size/\w.cell? ⟨b,o+i,none⟩=some (intV l[i]):=by
 obtain⟨b,o,rfl,hb,hc⟩:=h.some (by omega);exact⟨b,o,rfl,hb,by rw[hc i (by simpa using hi)];simp⟩
structure TreeV where
 na:Option Addr
 nc:Nat
 ia:Option Addr
 ic:Nat
def TreeV.val(v:TreeV)(t:Tr):Value:=.agg #[.slice v.na t.nodes.length v.nc,.slice v.ia t.items.length v.ic]
structure IsTree (w:World) (v:TreeV) (t:Tr):Prop where
 nodes:Nodes w v.na v.nc t.nodes
 items:Ints w v.ia v.ic t.items
theorem IsTree.mono{w w':World}{v:TreeV}{t:Tr}{B:Nat}(h:IsTree w v t)(hb:Below B w w')(hB:w.heap.size<=B):IsTree w' v t:=⟨h.nodes.mono hb hB,Row.mono h.items hb hB⟩
structure Bd (t:Tr):Prop where
 n:t.nodes.length<=1000000
 i:t.items.length<=1000000
 k:∀d∈t.nodes,d.kids.length<=1000000
 s:∀d∈t.nodes,d.text.length<=1000000000
theorem bcell{W w1:World}(hb:Below W.heap.size W w1):(∀b o,b<W.heap.size->w1.cell? ⟨b,o,none⟩=W.cell? ⟨b,o,none⟩)/\(∀b o,b<W.heap.size->w1.frozen? ⟨b,o,none⟩=W.frozen? ⟨b,o,none⟩):=
 ⟨fun b o h=>hb.cell (p:=⟨b,o,none⟩) h,fun b o h=>hb.frozen (p:=⟨b,o,none⟩) h⟩
def RetInts(w:World)(l:List Int)(e:Ending)(w':World):Prop:=
 ∃a c,e=.returned (.slice a l.length c)/\w'.ownsRow w.heap.size 3 1 (.slice a l.length c) l.length (zq l)/\Below w.heap.size w w'
def zD(w:World)(b:Bool)(e:Ending)(w':World):Prop:=e=.returned (.bool b)/\Below w.heap.size w w'
def kS(w:World)(n:Int)(e:Ending)(w':World):Prop:=e=.returned (intV n)/\Below w.heap.size w w'
theorem fF(l:List Int):∀u∈zq l,u.oneCell'=true:=by
 intro u hu;obtain⟨c,_,rfl⟩:=List.mem_map.1 hu;rfl
theorem zL{W W':World}{base:Nat}{e:TypeId}{size:Nat}{v:Value}{n:Nat}{xs:List Value}(h:W.ownsRow base e size v n xs)(hb:Below W.heap.size W W'):W'.ownsRow base e size v n xs:=
 h.kept (row:=none) ⟨hb.os,hb.tape,hb.output,hb.size,fun k hk _=>hb.block k hk⟩ (by cases hv:v.ownBlock with|none=>exact .inl rfl|some k=>exact .inr (by simp))
theorem dX{W:World}{B:Nat}{a:Option Addr}{c:Nat}{l:List Int}(h:W.ownsRow B 3 1 (.slice a l.length c) l.length (zq l)):Ints W a c l:=by
 obtain⟨a',c',e,hr⟩:=aZ h;simp at e;obtain⟨rfl,rfl⟩:=e;exact hr
theorem cA{W:World}{B B':Nat}{e:TypeId}{k:Nat}{v:Value}{n:Nat}{xs:List Value}(h:W.ownsRow B e k v n xs)(hB:B'<=B):W.ownsRow B' e k v n xs:=by
 obtain⟨h1,h2⟩:=h;refine⟨h1,?_⟩;rcases h2 with h2|⟨g,cap,cur,h3,h4,h5⟩
 .exact .inl h2
 .exact .inr ⟨g,cap,cur,h3,Nat.le_trans hB h4,h5⟩
abbrev OwnI(W:World)(B:Nat)(a:Option Addr)(c:Nat)(l:List Int):Prop:=W.ownsRow B 3 1 (.slice a l.length c) l.length (zq l)
theorem RetInts.mk{w w':World}{B:Nat}{a:Option Addr}{c:Nat}{l:List Int}(h:OwnI w' B a c l)(hB:w.heap.size<=B)(hb:Below w.heap.size w w'):RetInts w l (.returned (.slice a l.length c)) w':=
 ⟨a,c,rfl,cA h hB,hb⟩
theorem dD{W W':World}{B:Nat}{e:TypeId}{k:Nat}{v:Value}{n:Nat}{xs:List Value}(hown:W.ownsRow B e k v n xs)(hg:W.grownBy W' v.ownBlock)(hB:B<=W.heap.size) :
 ∀B' A,B'<=B->Below B' A W->Below B' A W':=fun B' A h1 h2=>h2.grown hg (Nat.le_trans h1 hB) (fun k e=>Nat.le_trans h1 (hown.lt k e).1)
theorem tO(W:World)(e:TypeId)(k:Nat){n B:Nat}(hn:W.heap.size=n)(hB:B<=n):(W.alloc (.cells #[] e)).ownsRow B e k (.slice (some ⟨n,0,none⟩) 0 0) 0 []:=by
 subst hn;exact World.ownsRow_made W #[] 0 hB (by decide) (by simp)
def lO(a:Option Addr)(g:Nat):Prop:=∀p,a=some p->p.block≠g
theorem dI{P:Program}(w:World)(B:Nat)(t ty e:TypeId)(i:TypeInfo)(z:Value)(k bytes:Nat)(ht:P.underlying t=some (.slice e))(hi:P.info? e=some i)(hz:i.zero=some z)
 (hsize:i.size=k)(hby:i.bytes=bytes)(hzs:z.cells.size=k)(hsz:0<k)
 (av:Option Addr)(n cv:Nat)(xs:List Value)(hown:w.ownsRow B e k (.slice av n cv) n xs)(ax:Option Addr)(m c:Nat)(news:List Value)(hr:Row k w ax m c news)(h1:∀u∈news,u.oneCell'=true)
 (h63:n+m<=maxLen)(hbytes:(n+m)*bytes<=140737488355328)(hB:B<=w.heap.size){a':Option Addr}{n' c':Nat}{w':World}
 (hrun:(Builtin.append_ #[t,t] ty #[.slice av n cv,.slice ax m c]).run P w=.ok (.slice a' n' c') w'):∀p,a'=some p->av=some p\/w.heap.size<=p.block:=by
 obtain⟨hl,hu,hf,hb⟩:=hr
 cases ax with
 | none=>
   obtain rfl:=hf rfl;obtain rfl:m=0:=by omega
   have:=run_append_owned_none (P:=P) w B t ty e i k ht hi (.slice av n cv) n xs hown;rw[this]at hrun;injection hrun with h2 _;injection h2 with h3 _ _;intro p hp;exact .inl (h3.trans hp)
 | some a=>
   have ha:∀j u,news[j]?=some u->w.cell? (a.add j)=some u:=by
    intro j u hj;have hh:j<news.length:=(List.getElem?_eq_some_iff.1 hj).1;rcases hb with h0|⟨b,o,e,_,hc⟩
    .subst h0;omega
    .obtain rfl:=Option.some.inj e
     have hp:(⟨b,o,none⟩:Addr).add j=⟨b,o+j,none⟩:=by unfold Addr.add;split<;>simp_all
     rw[hp,hc j hh,<-hj,List.getElem?_eq_getElem hh]
   rcases hown.2 with⟨h0,hn⟩|⟨g,cap,cur,h0,ho,hg,hv,hq,hs,hk⟩
   .simp only[Value.slice.injEq]at h0
    obtain⟨rfl,rfl,rfl⟩:=h0;have hm:xs=[]:=List.eq_nil_of_length_eq_zero (by simpa using hown.1);subst hm;obtain⟨v',w2,he,h2,_,_⟩:=run_append_own (P:=P) w w.heap.size t ty e i z k bytes ht hi hz hsize hby hzs hsz (.slice none 0 0) 0 [] (World.ownsRow_nil w _ e k) a m c news hl ha h1 h63 hbytes nlr;rw[he]at hrun;injection hrun with h3 _;subst h3;rintro p rfl;exact .inr (h2.lt p.block rfl).1
   .simp only[Value.slice.injEq,true_and]at h0
    obtain⟨rfl,rfl⟩:=h0;by_cases hroom:n+m<=cv
    .obtain⟨w2,he,_⟩:=run_append_fits (P:=P) w B t ty e i k ht hi hsize g n cv xs hown a m c news hl ha h1 hroom
     rw[he]at hrun;injection hrun with h3 _;injection h3 with h4 _ _;intro p hp;exact .inl (h4.trans hp)
    .have hd:∀j u,xs[j]?=some u->w.cell? ((⟨g,0,none⟩:Addr).add j)=some u:=hown.cells (g:=g) rfl
     subst hsize
     subst hby
     have he:=run_append_grow (P:=P) w t ty e i z ht hi hz ⟨g,0,none⟩ n cv xs hown.1 hd a m c news hl ha (by omega) (by simp only[maxLen]at h63;omega) (growslice_fits (by omega) hbytes);rw[he]at hrun;injection hrun with h3 _;injection h3 with h4 _ _;rintro p rfl;injection h4 with h5;subst h5;exact .inr nlr
theorem eF{W:World}{ops:Array Oper}{rest:List Oper}{o:Oper}{a:Act}{Q:Exit->Act->World->Prop}(hgd:o.guard=none)(s x:Operand)(t e:TypeId)(z:Value)(k bytes:Nat)
 (ho:o.op=.call { callee:=.builtin .append,args:=#[s,x],argTypes:=#[t,t] })
 (ht:prog.underlying t=some (.slice e))(hinfo:(prog.info? e).map (fun i=>(i.zero,i.size,i.bytes))=some (some z,k,bytes))(hzs:z.cells.size=k)(hsz:0<k)
 {B:Nat}{av:Option Addr}{cv n:Nat}{xs:List Value}(hs:a.eval s=.slice av n cv)(hown:W.ownsRow B e k (.slice av n cv) n xs)
 {ax:Option Addr}{m c:Nat}{news:List Value}(hx:a.eval x=.slice ax m c)(hr:Row k W ax m c news)(h1:∀u∈news,u.oneCell'=true)
 (h63:n+m<=maxLen)(hbytes:(n+m)*bytes<=140737488355328)(hB:B<=W.heap.size)
 (h:∀a' c' w',w'.ownsRow B e k (.slice a' (n+m) c') (n+m) (xs++news)->W.grownBy w' (Value.slice av n cv).ownBlock->(∀p,a'=some p->av=some p\/W.heap.size<=p.block)->wpList prog ops Q rest (a.put o.dst (.slice a' (n+m) c')) w'):wpList prog ops Q (o::rest) a W:=by
 obtain⟨i0,hi,hb,hc,hd⟩:=info_parts hinfo;refine wpList_plain hgd fun K hK=>?_;obtain⟨v',w',ha,h2,h3⟩:=aQ (P:=prog) W B t o.type e i0 z k bytes ht hi hb hc hd hzs hsz (.slice av n cv) n xs hown ax m c news hr h1 h63 hbytes hB;obtain⟨a',c',rfl,_⟩:=aZ h2;have hw:=dI (P:=prog) W B t o.type e i0 z k bytes ht hi hb hc hd hzs hsz av n cv xs hown ax m c news hr h1 h63 hbytes hB ha;unfold Oper.wp execOp;simp only[ho,resolve,invoke,builtin,Sem.run_bind,Sem.run_pure,Result.andThen_ok,List.map_toArray,List.map_cons,List.map_nil,hs,hx,ha];exact hK _ _ (h a' c' w' h2 h3 hw)
theorem lB{W W':World}{av a':Option Addr}{n cv:Nat}(hg:W.grownBy W' (Value.slice av n cv).ownBlock)(hw:∀p,a'=some p->av=some p\/W.heap.size<=p.block) :
 ∀g,g<W.heap.size->lO av g->W'.heap[g]?=W.heap[g]?/\lO a' g:=by
 intro g ha hn;refine⟨hg.block g ha ?_,fun p hp=>?_⟩
 .cases av with
  |none=>simp[Value.ownBlock]
  |some p=>exact fun e=>hn p rfl (by simpa[Value.ownBlock]using e.symm)
 .rcases hw p hp with h|h
  .exact hn p h
  .omega
theorem aO{W:World}{ops:Array Oper}{rest:List Oper}{o:Oper}{a:Act}{Q:Exit->Act->World->Prop}(hgd:o.guard=none)(s x:Operand)
 (ho:o.op=.call { callee:=.builtin .append,args:=#[s,x],argTypes:=#[23,23] })
 {B:Nat}{av:Option Addr}{cv:Nat}{l:List Int}(hs:a.eval s=.slice av l.length cv)(hown:OwnI W B av cv l)
 {ax:Option Addr}{m c:Nat}{news:List Int}(hx:a.eval x=.slice ax m c)(hr:Row 1 W ax m c (zq news))
 (hbytes:l.length+m<=4398046511104)(hB:B<=W.heap.size)
 (h:∀a' c' w' l',Hid (l'=l++news)->l'.length<=l.length+m->OwnI w' B a' c' l'->(∀B' A,B'<=B->Below B' A W->Below B' A w')->(∀g,g<W.heap.size->lO av g->w'.heap[g]?=W.heap[g]?/\lO a' g)->wpList prog ops Q rest (a.put o.dst (.slice a' l'.length c')) w'):wpList prog ops Q (o::rest) a W:=by
 have hm:m=news.length:=by have:=hr.1;simpa using this.symm
 subst hm;refine eF hgd s x 23 3 (.int .i64 0) 1 8 ho bI kI rfl (by decide) hs hown hx hr (fF _) (by unfold maxLen;omega) (by omega) hB ?_;intro a' c' w' h1 h2 h3;have e:l.length+news.length=(l++news).length:=by simp
 have e2:zq l++zq news=zq (l++news):=by simp
 rw[e,e2]at h1;rw[e];exact h a' c' w' _ (Hd rfl) (by simp) h1 (dD hown h2 hB) (lB h2 h3)
theorem iJ{W:World}{ops:Array Oper}{rest:List Oper}{o:Oper}{a:Act}{Q:Exit->Act->World->Prop}(hgd:o.guard=none)(s x:Operand)
 (ho:o.op=.call { callee:=.builtin .append,args:=#[s,x],argTypes:=#[23,23] })
 {B:Nat}{av:Option Addr}{cv:Nat}{l:List Int}(hs:a.eval s=.slice av l.length cv)(hown:OwnI W B av cv l)
 {ax:Option Addr}{m c:Nat}{news:List Int}(hx:a.eval x=.slice ax m c)(hr:Row 1 W ax m c (zq news))
 (hbytes:l.length+m<=4398046511104)(hB:B<=W.heap.size)
 (h:∀a' c' w' l',Hid (l'=l++news)->l'.length<=l.length+m->OwnI w' B a' c' l'->(∀B' A,B'<=B->Below B' A W->Below B' A w')->wpList prog ops Q rest (a.put o.dst (.slice a' l'.length c')) w'):wpList prog ops Q (o::rest) a W:=
 aO hgd s x ho hs hown hx hr hbytes hB fun a' c' w' l' h1 h2 h3 h4 _=>h a' c' w' l' h1 h2 h3 h4
theorem cN(w:World)(x:Value)(e:TypeId):Row 1 (w.alloc (.cells #[x] e)) (some ⟨w.heap.size,0,none⟩) 1 1 [x]:=Row.made w [x] e rfl nlr
def mUp(n:Nat)(v:Value):Nat:=if intOf v<0 then 0 else n+1-(intOf v).toNat
theorem RH{n:Nat}{m p:Int}(h0:0<=m)(hm:m<n)(h:0<=p->m<p):mUp n (intV p)<mUp n (intV m):=by
 have e:∀x:Int,mUp n (intV x)=if x<0 then 0 else n+1-x.toNat:=fun _=>rfl;rw[e,e];split<;>split<;>omega
abbrev boxT(w:World)(v:TreeV)(t:Tr):World:=w.alloc (.cells #[.slice v.na t.nodes.length v.nc,.slice v.ia t.items.length v.ic] 25)
theorem boxed{w wr:World}{v:TreeV}{t:Tr}(hb:Below (w.heap.size+1) (boxT w v t) wr)(h:IsTree w v t) :
 wr.cell? ⟨w.heap.size,0,none⟩=some (.slice v.na t.nodes.length v.nc)/\wr.cell? ⟨w.heap.size,1,none⟩=some (.slice v.ia t.items.length v.ic)/\IsTree wr v t/\(w.heap.size+1<=wr.heap.size/\w.heap.size<wr.heap.size/\w.heap.size<=wr.heap.size)/\Below w.heap.size w wr:=by
 have hs:=hb.size;simp only[World.size_alloc]at hs;have hw:Below w.heap.size w wr:=((Below.refl _ w).alloc nlr _).trans (hb.mono (by simp));have ha:Below (boxT w v t).heap.size (boxT w v t) wr:=by simpa using hb
 obtain⟨hc,_⟩:=bcell ha;exact⟨(hc _ _ (by simp)).trans (by simp),(hc _ _ (by simp)).trans (by simp),h.mono hw nlr,⟨hs,by omega,by omega⟩,hw⟩
theorem boxT_below{w:World}{v:TreeV}{t:Tr}:Below w.heap.size w (boxT w v t):=(Below.refl _ w).alloc nlr _
abbrev boxD(w:World)(ka:Option Addr)(kc:Nat)(d:Nd):World:=w.alloc (.cells #[.int .u8 d.kind,strV d.text,intV d.n,.slice ka d.kids.length kc,intV d.pos] 31)
theorem kY{w wr:World}{v:TreeV}{t:Tr}{ka:Option Addr}{kc:Nat}{d:Nd}(hb:Below (w.heap.size+1+1) (boxD (boxT w v t) ka kc d) wr)(h:IsTree w v t) :
 (wr.cell? ⟨w.heap.size,0,none⟩=some (.slice v.na t.nodes.length v.nc)/\wr.cell? ⟨w.heap.size,1,none⟩=some (.slice v.ia t.items.length v.ic)) /\
 (wr.cell? ⟨w.heap.size+1,0,none⟩=some (.int .u8 d.kind)/\wr.cell? ⟨w.heap.size+1,1,none⟩=some (strV d.text)/\wr.cell? ⟨w.heap.size+1,2,none⟩=some (intV d.n)/\wr.cell? ⟨w.heap.size+1,3,none⟩=some (.slice ka d.kids.length kc)) /\
 IsTree wr v t/\(w.heap.size+1+1<=wr.heap.size/\w.heap.size<wr.heap.size/\w.heap.size<=wr.heap.size/\w.heap.size+1<wr.heap.size)/\Below w.heap.size w wr:=by
 have hs:=hb.size;simp only[World.size_alloc]at hs;have h1:Below (w.heap.size+1) (boxT w v t) wr:=(brf.alloc (by simp) _).trans (hb.mono (by omega));obtain⟨l1,l2,l3,⟨l4,l5,l6⟩,l7⟩:=boxed h1 h;have ha:Below (boxD (boxT w v t) ka kc d).heap.size (boxD (boxT w v t) ka kc d) wr:=by simpa using hb
 obtain⟨hc,_⟩:=bcell ha;have e1:(boxD (boxT w v t) ka kc d).cell? ⟨w.heap.size+1,0,none⟩=some (.int .u8 d.kind):=by simp
 have e2:(boxD (boxT w v t) ka kc d).cell? ⟨w.heap.size+1,1,none⟩=some (strV d.text):=by simp
 have e3:(boxD (boxT w v t) ka kc d).cell? ⟨w.heap.size+1,2,none⟩=some (intV d.n):=by simp
 have e4:(boxD (boxT w v t) ka kc d).cell? ⟨w.heap.size+1,3,none⟩=some (.slice ka d.kids.length kc):=by simp
 exact⟨⟨l1,l2⟩,⟨(hc _ _ (by simp)).trans e1,(hc _ _ (by simp)).trans e2,(hc _ _ (by simp)).trans e3,(hc _ _ (by simp)).trans e4⟩,l3,⟨hs,l5,l6,by omega⟩,l7⟩
def hasS(l:List (List UInt8))(s:List UInt8):Bool:=l.contains s
def qZ(n:Int):Bool:=decide (97<=n)&&decide (n<=122)
def pR(n:Int):Bool:=decide (48<=n)&&decide (n<=57)
def mL(c:UInt8):Bool:=qZ (c.toNat:Int)
def aF(c:UInt8):Bool:=pR (c.toNat:Int)
def fG(c:UInt8):Bool:=mL c||aF c
def dS:List (List UInt8):=[[97,110,100],[97,115,107],[98,108,97,109,101],[98,111,111,108],[98,111,117,110,100,115],[99,104,111,111,115,101],[99,111,117,110,116],[101,108,115,101],[102,97,108,115,101],[102,117,110],[105,102],[105,110],[105,110,116],[108,101,116],[108,111,111,107],[109,97,121],[109,117,115,116],[110,111,116],[111,98,115,101,114,118,101],[111,114],[114,101,116,114,97,99,116],[116,104,101,110],[116,114,117,101],[116,121,112,101],[117,112,116,111],[118,97,108,117,101,115],[119,104,121]]
def signsL:List (List UInt8):=[[61,61],[33,61],[60,61],[62,61],[46,46],[43],[45],[42],[47],[37],[60],[62],[61],[40],[41],[91],[93],[123],[125],[44],[58],[59],[46]]
def numB(l:List UInt8):Bool:=decide (l.length<=4)&&(decide (l.length=1)||l.head? != some 48)
def tokF(s:List UInt8):Int×List UInt8:=
 match s with
 | []=>(0,[])
 | c::_=>
   if mL c then (if hasS dS (s.takeWhile fG)then (3,s.takeWhile fG)else if (s.takeWhile fG).length<=12 then (1,s.takeWhile fG)else (0,[]))
   else if aF c then (if numB (s.takeWhile aF)then (2,s.takeWhile aF)else (0,[]))
   else match signsL.find? (fun g=>g.isPrefixOf s)with
    |some g=>(4,g)
    |none=>(0,[])
def zG(s:List UInt8):Bool:=(tokF s).1==1&&(tokF s).2==s
def twl(p:UInt8->Bool)(l:List UInt8):Nat:=(l.takeWhile p).length
theorem oB(p:UInt8->Bool)(l:List UInt8):twl p l<=l.length:=(List.takeWhile_sublist p).length_le
theorem AU(p:UInt8->Bool):∀l:List UInt8,l.take (twl p l)=l.takeWhile p
 | []=>rfl
 | c::l=>by
   unfold twl;rw[List.takeWhile_cons];split
   .show(c::l).take ((l.takeWhile p).length+1)=_
    rw[List.take_succ_cons];exact congrArg _ (AU p l)
   .rfl
theorem RR(p:UInt8->Bool):∀(l:List UInt8) (k:Nat) (hk:k<l.length),k<twl p l->p l[k]=true
 | c::l,0,_,h=>by
   unfold twl at h;rw[List.takeWhile_cons]at h;split at h
   .rename_i hc;exact hc
   .simp at h
 | c::l,k+1,hk,h=>by
   unfold twl at h;rw[List.takeWhile_cons]at h;split at h
   .exact RR p l k (by simpa using hk) (by unfold twl;simp at h;omega)
   .simp at h
theorem OR(p:UInt8->Bool):∀(l:List UInt8) (hk:twl p l<l.length),p (l[twl p l]'hk)=false
 | c::l,hk=>by
   cases hc:p c with
   | true=>
     have e:twl p (c::l)=twl p l+1:=by unfold twl;rw[List.takeWhile_cons,if_pos hc];rfl
     have ha:twl p l<l.length:=by rw[e]at hk;simpa using hk
     have:=OR p l ha;simp only[e,List.getElem_cons_succ];exact this
   | false=>
     have e:twl p (c::l)=0:=by unfold twl;rw[List.takeWhile_cons,if_neg (by rw[hc];exact Bool.false_ne_true)];rfl
     simp only[e,List.getElem_cons_zero];exact hc
theorem tY{p:UInt8->Bool}{l:List UInt8}{k:Nat}(hk:k<l.length)(h:k<=twl p l)(hp:p l[k]=true):k+1<=twl p l:=by
 by_cases e:k=twl p l
 .subst e
  have:=OR p l hk;rw[hp]at this;cases this
 .omega
theorem AT{p:UInt8->Bool}{l:List UInt8}{k:Nat}(hk:k<l.length)(h:k<=twl p l)(hp:p l[k]=false):k=twl p l:=by
 by_cases e:k=twl p l
 .exact e
 .have:=RR p l k hk (by omega)
  rw[hp]at this;cases this
@[go_sem] theorem bytes_extract (l:List UInt8) (i j:Nat):(⟨l.toArray⟩:ByteArray).extract i j=⟨((l.take j).drop i).toArray⟩:=by
 apply ByteArray.ext;simp[ByteArray.data_extract,List.drop_take]
abbrev kP(l:List (List UInt8)):List Value:=l.map strV
abbrev Strs(w:World)(a:Option Addr)(c:Nat)(l:List (List UInt8)):Prop:=Row 1 w a l.length c (kP l)
theorem Strs.at{w:World}{a:Option Addr}{c:Nat}{l:List (List UInt8)}(h:Strs w a c l){i:Nat}(hi:i<l.length):∃b o,a=some ⟨b,o,none⟩/\b<w.heap.size/\w.cell? ⟨b,o+i,none⟩=some (strV l[i]):=by
 obtain⟨b,o,rfl,hb,hc⟩:=h.some (by omega);exact⟨b,o,rfl,hb,by rw[hc i (by simpa using hi)];simp⟩
def sW(w:World)(l:List (List UInt8))(e:Ending)(w':World):Prop:=∃a c,e=.returned (.slice a l.length c)/\Strs w' a c l/\Below w.heap.size w w'
end
section
open Go Go.RowKit
def intT:List UInt8:=[105,110,116]
def zz:List UInt8:=[98,111,111,108]
def digF:Nat->Nat->List UInt8
 |0,_=>[]
 |f+1,n=>if n<10 then [UInt8.ofNat (48+n)]else digF f (n / 10)++[UInt8.ofNat (48+n % 10)]
def digN(n:Nat):List UInt8:=digF (n+1) n
theorem BN{n:Nat}(h:n<10):digN n=[UInt8.ofNat (48+n)]:=by rw[digN,digF,if_pos h]
def bC(of:List UInt8)(many:Nat):List UInt8:=91::(of++59::32::(digN many++[93]))
theorem dT(of:List UInt8){n:Nat}(h:n<10):bC of n=91::(of++[59,32,UInt8.ofNat (48+n),93]):=by rw[bC,BN h];rfl
def cutK(k:List UInt8):Option (List UInt8×Nat):=
 match k with
 | 91::r=>if r.length<4 then none else
   let of:=r.take (r.length-4)
   match r.drop (r.length-4)with
   | [59,32,d,93]=>if 49<=d.toNat/\d.toNat<=54 then some (of,d.toNat-48)else none
   |_=>none
 |_=>none
theorem pP(of:List UInt8){n:Nat}(h1:1<=n)(h2:n<=6):cutK (bC of n)=some (of,n):=by
 rw[dT of (by omega)];unfold cutK;simp only[List.length_append,List.length_cons,List.length_nil,Nat.reduceAdd];rw[if_neg (by omega)];have e1:of.length+4-4=of.length:=by omega
 rw[e1,List.take_left,List.drop_left]
 have hd:(UInt8.ofNat (48+n)).toNat=48+n:=by
  rw[UInt8.toNat_ofNat'];exact Nat.mod_eq_of_lt (by omega)
 simp only[hd];rw[if_pos ⟨by omega,by omega⟩];simp
theorem jF{k of:List UInt8}{n:Nat}(h:cutK k=some (of,n)):1<=n/\n<=6/\k=bC of n:=by
 unfold cutK at h;split at h
 .rename_i r
  split at h
  .cases h
  .rename_i hl
   simp only at h;split at h
   .rename_i d hd
    split at h
    .rename_i hn
     cases h
     refine⟨by omega,by omega,?_⟩;rw[dT _ (by omega)]
     have e:UInt8.ofNat (48+(d.toNat-48))=d:=by
      apply UInt8.toNat_inj.1;rw[UInt8.toNat_ofNat'];rw[Nat.mod_eq_of_lt (by omega)];omega
     rw[e,<-hd,List.take_append_drop]
    .cases h
   .cases h
 .cases h
theorem pQ{k of:List UInt8}{n:Nat}(h:cutK k=some (of,n)):of.length<k.length:=by
 obtain⟨_,h2,rfl⟩:=jF h;rw[dT _ (by omega)];simp;omega
def wW:Nat->List UInt8->Bool
 |0,_=>false
 |f+1,k=>k==intT||k==zz||zG k||match cutK k with|some (of,_)=>wW f of|none=>false
def aX(k:List UInt8):Bool:=wW (k.length+1) k
def aW(k:List UInt8):Option (List UInt8×Nat):=match cutK k with|some p=>if aX p.1 then some p else none|none=>none
theorem CW:∀(f g:Nat) (k:List UInt8),k.length<f->k.length<g->wW f k=wW g k
 |0,_,k,h,_=>by omega
 |f+1,0,k,_,h=>by omega
 | f+1,g+1,k,h1,h2=>by
   rw[wW,wW]
   cases hc:cutK k with
   |none=>rfl
   | some p=>
     have:=pQ (n:=p.2) (of:=p.1) hc;simp only;rw[CW f g p.1 (by omega) (by omega)]
theorem fL(k:List UInt8):aX k=(k==intT||k==zz||zG k||(aW k).isSome):=by
 unfold aX aW;rw[wW]
 cases hc:cutK k with
 |none=>rfl
 | some p=>
   have:=pQ (n:=p.2) (of:=p.1) hc;simp only;rw[CW k.length (p.1.length+1) p.1 (by omega) (by omega)];unfold aX;cases wW (p.1.length+1) p.1<;>simp
theorem gY{k of:List UInt8}{n:Nat}(h:aW k=some (of,n)):1<=n/\n<=6/\k=bC of n/\aX of=true:=by
 unfold aW at h
 cases hc:cutK k with
 |none=>rw[hc]at h;cases h
 | some p=>
   rw[hc]at h;simp only at h;split at h
   .cases h
    obtain⟨h1,h2,h3⟩:=jF hc;exact⟨h1,h2,h3,‹_›⟩
   .cases h
theorem mX{of:List UInt8}{n:Nat}(h1:1<=n)(h2:n<=6)(h:aX of=true):aW (bC of n)=some (of,n):=by
 unfold aW;rw[pP of h1 h2];simp[h]
theorem BQ{k of:List UInt8}{n:Nat}(h:aW k=some (of,n)):of.length<k.length:=by
 obtain⟨_,h2,rfl,_⟩:=gY h;rw[dT _ (by omega)];simp;omega
theorem vH:∀(f n:Nat),n<f->∃l,digF f n=l++[UInt8.ofNat (48+n % 10)]/\(10<=n->∃m d,l=m++[UInt8.ofNat (48+d)]/\d<10)
 |0,_,h=>by omega
 | f+1,n,h=>by
   rw[digF];split
   .rename_i hn
    exact⟨[],by rw[Nat.mod_eq_of_lt hn];rfl,fun h=>by omega⟩
   .rename_i hn
    obtain⟨l,hl,-⟩:=vH f (n / 10) (by omega);exact⟨_,rfl,fun _=>⟨l,(n / 10) % 10,hl,by omega⟩⟩
theorem vV{of of':List UInt8}{n n':Nat}(h1:1<=n')(h2:n'<=6)(h:bC of n=bC of' n'):n=n':=by
 have hd:∀d:Nat,d<10->(UInt8.ofNat (48+d)).toNat=48+d:=fun d hd=>by
  rw[UInt8.toNat_ofNat'];exact Nat.mod_eq_of_lt (by omega)
 obtain⟨l,hl,hb⟩:=vH (n+1) n (by omega);rw[dT of' (by omega)]at h;unfold bC digN at h;rw[hl]at h;by_cases hn:n<10
 .rw[digF,if_pos hn]at hl
  have hc:l=[]:=by
   have:=congrArg List.length hl;simp only[List.length_append,List.length_cons,List.length_nil]at this;exact List.length_eq_zero_iff.1 (by omega)
  subst hc;have a1:=hd n hn;have a2:=hd n' (by omega)
  have a3:(UInt8.ofNat (48+n))=UInt8.ofNat (48+n'):=by
   have:=congrArg (fun x=>x.reverse.getD 1 0) h;simp only[List.reverse_append,List.reverse_cons,List.nil_append,List.append_assoc,List.cons_append]at this;simpa[Nat.mod_eq_of_lt hn]using this
  have a4:=congrArg UInt8.toNat a3;omega
 .obtain⟨m,d,rfl,ha⟩:=hb (by omega)
  have a3:(UInt8.ofNat (48+d))=32:=by
   have:=congrArg (fun x=>x.reverse.getD 2 0) h;simpa using this
  have a4:=congrArg UInt8.toNat a3;rw[hd d ha]at a4;have:(32:UInt8).toNat=32:=rfl;omega
end
section
open Go.RowKit
def hasI(l:List Int)(n:Int):Bool:=l.contains n
def dR(ns:List Nd)(node:Int)(i:Nat):Bool:=hasI ((ns[i]?.map (·.kids)).getD []) node
def jJ(p:Nat->Bool)(n:Nat):Nat->Nat->Int
 |_,0=>-1
 |k,f+1=>if k<n then (if p k then (k:Int)else jJ p n (k+1) f)else -1
def first(p:Nat->Bool)(n k:Nat):Int:=jJ p n k (n-k)
theorem zV{p:Nat->Bool}{n k:Nat}(hk:k<n)(h:p k=true):first p n k=k:=by
 unfold first;rw[show n-k=(n-k-1)+1 by omega,jJ,if_pos hk,if_pos h]
theorem bW{p:Nat->Bool}{n k:Nat}(hk:k<n)(h:p k=false):first p n k=first p n (k+1):=by
 unfold first;rw[show n-k=(n-(k+1))+1 by omega,jJ,if_pos hk,if_neg (by rw[h];exact Bool.false_ne_true)]
theorem bS{p:Nat->Bool}{n k:Nat}(hk:n<=k):first p n k = -1:=by
 unfold first;rw[show n-k=0 by omega,jJ]
theorem eM{p:Nat->Bool}{n:Nat}:∀(f k:Nat),n-k<=f->0<=first p n k->∃m:Nat,first p n k=m/\k<=m/\m<n/\p m=true
 |0,k,h,hp=>by rw[bS (by omega)]at hp;omega
 | f+1,k,h,hp=>by
   by_cases hk:k<n
   .cases hpk:p k with
    |true=>exact⟨k,zV hk hpk,nlr,hk,hpk⟩
    | false=>
      rw[bW hk hpk]at hp|-;obtain⟨m,h1,h2,h3,h4⟩:=eM f (k+1) (by omega) hp;exact⟨m,h1,by omega,h3,h4⟩
   .rw[bS (by omega)]at hp;omega
theorem oL{p:Nat->Bool}{n:Nat}:∀(f k:Nat),n-k<=f -> -1<=first p n k
 |0,k,h=>by rw[bS (by omega)];omega
 | f+1,k,h=>by
   by_cases hk:k<n
   .cases hpk:p k with
    |true=>rw[zV hk hpk];omega
    |false=>rw[bW hk hpk];exact oL f (k+1) (by omega)
   .rw[bS (by omega)];omega
def parent(t:Tr)(node:Int):Int:=first (dR t.nodes node) t.nodes.length (node+1).toNat
theorem cY(t:Tr)(n:Int) : -1<=parent t n:=oL _ _ nlr
theorem eH(t:Tr)(i:Nat)(h:0<=parent t i):∃p:Nat,parent t i=p/\p<t.nodes.length:=by
 obtain⟨m,h1,_,h3,_⟩:=eM _ _ nlr h;exact⟨m,h1,h3⟩
theorem eT(t:Tr)(i:Nat)(h:0<=parent t i):(i:Int)<parent t i:=by
 obtain⟨m,h1,h2,h3,_⟩:=eM _ _ nlr h;unfold parent;rw[h1];omega
def nd0:Nd:=⟨0,[],0,[],0⟩
def Tr.nd(t:Tr)(i:Int):Nd:=t.nodes.getD i.toNat nd0
theorem Tr.nd_at(t:Tr){k:Nat}(h:k<t.nodes.length):t.nd (k:Int)=t.nodes[k]:=by simp[Tr.nd,h]
def tB(k:Int):Bool:=k==40||k==41||k==42||k==43||k==44||k==20
def zl(k:Int):Bool:=decide (1<=k)&&decide (k<=26)&&k != 25
def bD(k:Int):Bool:=k==3||k==21||k==24||k==32||k==45
def suits(n d:Int):Bool:=if n==3 then d==40||d==43||d==20||d==34 else if n==21 then d==42 else if n==45 then d==44 else d==41
def zn(t:Tr)(i:Int):Bool:=tB (t.nd i).kind||(t.nd i).kind==34&&(t.nd (parent t i)).kind==42
def bT(t:Tr)(i:Int):Bool:=hasI t.items i
def bX(t:Tr)(of:Int):Nat->Int->Bool
 |0,_=>false
 |f+1,n=>if n<0 then false else if n=of then true else bX t of f (parent t n)
def inside(t:Tr)(node of:Int):Bool:=bX t of (t.nodes.length+1) node
theorem mZ(t:Tr)(of:Int):∀(f g:Nat) (n:Int),t.nodes.length+1-n.toNat<=f->t.nodes.length+1-n.toNat<=g->n<t.nodes.length->bX t of f n=bX t of g n
 | 0,g,n,h,_,hl=>by
   have:n<0\/0<=n:=by omega
   omega
 |f+1,0,n,_,h,hl=>by omega
 | f+1,g+1,n,h1,h2,hl=>by
   simp only[bX];by_cases hn:n<0
   .rw[if_pos hn,if_pos hn]
   .rw[if_neg hn,if_neg hn]
    split
    .rfl
    .by_cases hp:0<=parent t n
     .obtain⟨m,rfl⟩:=Int.eq_ofNat_of_zero_le (show 0<=n by omega)
      obtain⟨p,ha,hc⟩:=eH t m hp;have hb:=eT t m hp;refine mZ t of f g _ ?_ ?_ ?_<;>rw[ha]<;>rw[ha]at hb<;>simp at *<;>omega
     .have hp:parent t n<0:=by omega
      cases f<;>cases g<;>simp[bX,hp]
theorem bP(t:Tr)(of:Int){n:Int}(h:n<t.nodes.length):inside t n of=if n<0 then false else if n=of then true else inside t (parent t n) of:=by
 unfold inside;rw[bX];by_cases hn:n<0
 .rw[if_pos hn,if_pos hn]
 .rw[if_neg hn,if_neg hn]
  split
  .rfl
  .by_cases hp:0<=parent t n
   .obtain⟨m,rfl⟩:=Int.eq_ofNat_of_zero_le (show 0<=n by omega)
    obtain⟨p,ha,hc⟩:=eH t m hp;have hb:=eT t m hp;refine mZ t of _ _ _ ?_ ?_ ?_<;>rw[ha]<;>rw[ha]at hb<;>simp at *<;>omega
   .have:parent t n<0:=by omega
    cases hl:t.nodes.length<;>simp[bX,this]
theorem OB:prog.underlying 23=some (.slice (prog.elem 23)):=by kernel_rfl
theorem KG(W:World):(sizeOf (prog.elem 23)).run prog W=.ok 1 W:=by kernel_rfl
structure WF (t:Tr):Prop where
 bd:Bd t
 kid:∀(i:Nat) (h:i<t.nodes.length),∀k∈t.nodes[i].kids,0<=k/\k<(i:Int)
 item:∀k∈t.items,0<=k/\k<(t.nodes.length:Int)
 letK:∀(i:Nat) (h:i<t.nodes.length),t.nodes[i].kind=20->t.nodes[i].kids.length=2
 funK:∀(i:Nat) (h:i<t.nodes.length),t.nodes[i].kind=42->2<=t.nodes[i].kids.length
 par:∀(i:Nat) (h:i<t.nodes.length),t.nodes[i].kind=34->0<=parent t i
def upF{α:Type}(t:Tr)(g:Int->Int->α->α):Nat->Int->Int->α->α×Int
 |0,last,_,acc=>(acc,last)
 |f+1,last,n,acc=>if n<0 then (acc,last)else upF t g f n (parent t n) (g last n acc)
def upw{α:Type}(t:Tr)(g:Int->Int->α->α)(last n:Int)(acc:α):α×Int:=upF t g (t.nodes.length+1) last n acc
theorem KX{α:Type}(t:Tr)(g:Int->Int->α->α):∀(f k:Nat) (last n:Int) (acc:α),t.nodes.length+1-n.toNat<=f->t.nodes.length+1-n.toNat<=k->n<t.nodes.length->upF t g f last n acc=upF t g k last n acc
 |0,k,last,n,acc,h,_,hl=>by omega
 |f+1,0,last,n,acc,_,h,hl=>by omega
 | f+1,k+1,last,n,acc,h1,h2,hl=>by
   simp only[upF];by_cases hn:n<0
   .rw[if_pos hn,if_pos hn]
   .rw[if_neg hn,if_neg hn]
    by_cases hp:0<=parent t n
    .obtain⟨m,rfl⟩:=Int.eq_ofNat_of_zero_le (show 0<=n by omega)
     obtain⟨p,ha,hc⟩:=eH t m hp;have hb:=eT t m hp;refine KX t g f k _ _ _ ?_ ?_ ?_<;>rw[ha]<;>rw[ha]at hb<;>simp at *<;>omega
    .have hp:parent t n<0:=by omega
     cases f<;>cases k<;>simp[upF,hp]
theorem zH(t:Tr){n:Int}(h:0<=n):parent t n<t.nodes.length:=by
 obtain⟨m,rfl⟩:=Int.eq_ofNat_of_zero_le h;by_cases hp:0<=parent t m
 .obtain⟨p,ha,hb⟩:=eH t m hp
  rw[ha];omega
 .omega
theorem eU(t:Tr){n:Int}(h:0<=n):0<=parent t n->n<parent t n:=by
 obtain⟨m,rfl⟩:=Int.eq_ofNat_of_zero_le h;exact eT t m
def zK(d:Nd)(last n:Int):List Int:=
 (if d.kind==20&&d.kids[1]?==some last then [n]else [])++(if d.kind==42&&d.kids[d.kids.length-1]?==some last then d.kids.take (d.kids.length-2)++[n]else [])
def zX(t:Tr)(node:Int):List Int×Int:=upw t (fun last n acc=>acc++zK (t.nd n) last n) node (parent t node) []
def sight(t:Tr)(node:Int):List Int:=(zX t node).1++t.items.filter fun it=>decide (it<(zX t node).2)&&zn t it
theorem AY{α:Type}(t:Tr)(g:Int->Int->α->α)(P:Int->α->Prop)(hg:∀(last n:Int) (acc:α),0<=n->n<(t.nodes.length:Int)->P last acc->P n (g last n acc)):∀(f:Nat) (last n:Int) (acc:α),n<t.nodes.length->P last acc->P (upF t g f last n acc).2 (upF t g f last n acc).1
 |0,last,n,acc,_,h=>h
 | f+1,last,n,acc,hn,h=>by
   rw[upF];split
   .exact h
   .exact AY t g P hg f _ _ _ (zH t (by omega)) (hg _ _ _ (by omega) hn h)
theorem AQ{t:Tr}(wf:WF t){last n x:Int}(h0:0<=n)(hn:n<t.nodes.length)(h:x∈zK (t.nd n) last n):0<=x/\x<t.nodes.length:=by
 obtain⟨m,rfl⟩:=Int.eq_ofNat_of_zero_le h0;rw[t.nd_at (by omega)]at h;simp only[zK,List.mem_append]at h;rcases h with h|h
 .split at h
  .obtain rfl:=List.mem_singleton.1 h
   exact⟨h0,hn⟩
  .cases h
 .split at h
  .rcases List.mem_append.1 h with h|h
   .have:=wf.kid m (by omega) x (List.mem_of_mem_take h)
    omega
   .obtain rfl:=List.mem_singleton.1 h
    exact⟨h0,hn⟩
  .cases h
theorem mK{t:Tr}(wf:WF t){node:Nat}{x:Int}(h:x∈sight t node):0<=x/\x<t.nodes.length:=by
 rcases List.mem_append.1 h with h|h
 .have:=AY t (fun last n acc=>acc++zK (t.nd n) last n) (fun _ acc=>∀x∈acc,0<=x/\x<(t.nodes.length:Int)) (fun last n acc h0 hn ha x hx=>by
   rcases List.mem_append.1 hx with hx|hx
   .exact ha x hx
   .exact AQ wf h0 hn hx) (t.nodes.length+1) node (parent t node) [] (zH t (by omega)) (by simp)
  exact this x h
 .exact wf.item x ((List.mem_filter.1 h).1)
def nearest(t:Tr)(node:Int)(name:List UInt8):Int:=((sight t node).find? fun d=>(t.nd d).text==name).getD (-1)
theorem IQ{p:Int->Bool}{l:List Int}{k:Nat}(hk:k<l.length)(h:p l[k]=false):((l.drop k).find? p)=((l.drop (k+1)).find? p):=by
 rw[List.drop_eq_getElem_cons hk,List.find?_cons,h]
theorem MH{p:Int->Bool}{l:List Int}{k:Nat}(hk:k<l.length)(h:p l[k]=true):((l.drop k).find? p)=some l[k]:=by
 rw[List.drop_eq_getElem_cons hk,List.find?_cons,h]
theorem tJ{t:Tr}(wf:WF t){node:Nat}{name:List UInt8}(h:0<=nearest t node name):nearest t node name<t.nodes.length:=by
 unfold nearest at *
 cases hf:(sight t node).find? fun d=>(t.nd d).text==name with
 |none=>rw[hf]at h;simp at h
 |some d=>exact(mK wf (List.mem_of_find?_eq_some hf)).2
theorem EN{t:Tr}(wf:WF t){node:Nat}{name:List UInt8} : -1<=nearest t node name:=by
 unfold nearest
 cases hf:(sight t node).find? fun d=>(t.nd d).text==name with
 |none=>simp
 |some d=>have:=(mK wf (List.mem_of_find?_eq_some hf)).1;simp only[Option.getD_some];omega
def means(t:Tr)(node:Int):Int:=
 if bD (t.nd node).kind then (if nearest t node (t.nd node).text<0 || !suits (t.nd node).kind (t.nd (nearest t node (t.nd node).text)).kind then -1 else nearest t node (t.nd node).text)else -1
theorem iQ{t:Tr}{node:Int}(h:bD (t.nd node).kind=false):means t node = -1:=by rw[means,if_neg (by rw[h];exact Bool.false_ne_true)]
theorem dE{t:Tr}(wf:WF t){node:Nat} : -1<=means t node/\means t node<t.nodes.length:=by
 unfold means;split
 .split
  .omega
  .rename_i h
   simp only[Bool.or_eq_true,decide_eq_true_eq,not_or]at h;exact⟨EN wf,tJ wf (by omega)⟩
 .omega
theorem iB{W:World}{B:Nat}{a:Option Addr}{n c:Nat}{L:List Int}(h:W.ownsRow B 3 1 (.slice a n c) n (zq L))(hn:0<n):∃g,a=some ⟨g,0,none⟩/\B<=g/\g<W.heap.size/\L.length=n /\
 (∀i,i<n->W.cell? ⟨g,i,none⟩=some (intV (L.getD i 0)))/\(∀i,W.frozen? ⟨g,i,none⟩=false):=by
 have hl:L.length=n:=by have:=h.1;simpa using this
 rcases h.2 with⟨h',h0⟩|⟨g,cap,cur,h',hb,hg,_⟩
 .omega
 .simp only[Value.slice.injEq,true_and]at h'
  obtain⟨rfl,rfl⟩:=h';refine⟨g,rfl,hb,(Array.getElem?_eq_some_iff.1 hg).1,hl,fun i hi=>?_,fun i=>h.frozenAt i⟩;rw[h.cellAt i (by omega)];simp[show i<L.length by omega]
theorem qP{W:World}{B g n c:Nat}{L:List Int}(h:W.ownsRow B 3 1 (.slice (some ⟨g,0,none⟩) n c) n (zq L))(i:Nat)(x:Int) :
 (W.setCell ⟨g,i,none⟩ (intV x)).ownsRow B 3 1 (.slice (some ⟨g,0,none⟩) n c) n (zq (L.set i x)):=by
 have:=(h.stored i (intV x)).1;rw[<-List.map_set]at this;exact this
def KRow(w:World)(B:Nat)(a:Option Addr)(k:Option Addr×Nat)(kids:List Int):Prop:=
 Row 1 w k.1 kids.length k.2 (zq kids)/\(0<kids.length->∀x,k.1=some x->B<=x.block/\∀y,a=some y->x.block≠y.block)
structure OwnN (w:World) (B:Nat) (a:Option Addr) (c:Nat) (ns:List Nd) (ks:List (Option Addr×Nat)):Prop where
 len:ks.length=ns.length
 own:w.ownsRow B 31 5 (.slice a ns.length c) ns.length (zN ns ks)
 kids:∀i (h:i<ns.length) (k:i<ks.length),KRow w B a ks[i] ns[i].kids
theorem OwnN.nil(w:World)(B:Nat):OwnN w B none 0 [] []:=⟨rfl,⟨rfl,.inl ⟨rfl,rfl⟩⟩,fun i h=>by simp at h⟩
theorem KRow.below{w w':World}{B:Nat}{a:Option Addr}{k:Option Addr×Nat}{kids:List Int}(h:KRow w B a k kids)(hb:Below w.heap.size w w'):KRow w' B a k kids:=⟨h.1.mono hb nlr,h.2⟩
theorem OwnN.below{w w':World}{B:Nat}{a:Option Addr}{c:Nat}{ns:List Nd}{ks:List (Option Addr×Nat)}(h:OwnN w B a c ns ks)(hb:Below w.heap.size w w'):OwnN w' B a c ns ks:=
 ⟨h.len,zL h.own hb,fun i hi k=>(h.kids i hi k).below hb⟩
theorem bA{w:World}{a:Option Addr}{n c k:Nat}{xs:List Value}(h:Row k w a n c xs){p:Addr}(v:Value)(hne:0<n->∀x,a=some x->x.block≠p.block):Row k (w.setCell p v) a n c xs:=by
 obtain⟨h1,h2,h3,h4⟩:=h;refine⟨h1,h2,h3,?_⟩;rcases h4 with h4|⟨b,o,e,ha,hc⟩
 .exact .inl h4
 .by_cases hn:n=0
  .exact .inl hn
  .refine .inr ⟨b,o,e,by simpa using ha,fun i hi=>?_⟩
   have:=hne (by omega) _ e;rw[World.cell?_setCell_other _ _ _ _ (by intro e;have:=congrArg Addr.block e;simp only at this;simp only at *;omega)];exact hc i hi
theorem KRow.setCell{w:World}{B:Nat}{a:Option Addr}{k:Option Addr×Nat}{kids:List Int}(h:KRow w B a k kids){p:Addr}(hp:p.block<B)(v:Value):KRow (w.setCell p v) B a k kids:=
 ⟨bA h.1 v fun h0 x e=>by have:=(h.2 h0 x e).1;omega,h.2⟩
theorem OwnN.setCell{w:World}{B:Nat}{a:Option Addr}{c:Nat}{ns:List Nd}{ks:List (Option Addr×Nat)}(h:OwnN w B a c ns ks){p:Addr}(hp:p.block<B)(v:Value):OwnN (w.setCell p v) B a c ns ks:=
 ⟨h.len,ownsRow_setCell_below h.own hp v,fun i hi k=>(h.kids i hi k).setCell hp v⟩
theorem OwnN.nodes{w:World}{B:Nat}{a:Option Addr}{c:Nat}{ns:List Nd}{ks:List (Option Addr×Nat)}(h:OwnN w B a c ns ks):Nodes w a c ns:=by
 obtain⟨a',c',e,hr⟩:=aZ h.own;simp at e;obtain⟨rfl,rfl⟩:=e;exact⟨ks,h.len,hr,fun i hi k=>(h.kids i hi k).1⟩
theorem OwnN.ownK{w:World}{B:Nat}{a:Option Addr}{c k:Nat}{ns:List Nd}{ks:List (Option Addr×Nat)}(h:OwnN w B a c ns ks)(hk:ns.length=k):w.ownsRow B 31 5 (.slice a k c) k (zN ns ks):=by
 subst hk;exact h.own
theorem OwnN.lt{w:World}{B:Nat}{a:Option Addr}{c:Nat}{ns:List Nd}{ks:List (Option Addr×Nat)}(h:OwnN w B a c ns ks):∀y,a=some y->B<=y.block/\y.block<w.heap.size:=fun y e=>by
 subst e;exact h.own.lt y.block rfl
theorem gW(d:Nd)(a:Option Addr×Nat):∀u∈d.cells a,u.oneCell'=true:=by
 intro u hu;simp[Nd.cells]at hu;rcases hu with rfl|rfl|rfl|rfl|rfl<;>rfl
theorem tS(W:World)(d:Nd)(a:Option Addr)(c:Nat){n:Nat}(hn:W.heap.size=n):Row 5 (W.alloc (.cells #[.int .u8 d.kind,strV d.text,intV d.n,.slice a d.kids.length c,intV d.pos] 31)) (some ⟨n,0,none⟩) 1 1 (d.cells (a,c)):=by
 subst hn;exact Row.made W (d.cells (a,c)) _ rfl nlr
theorem pN:∀(ns:List Nd) (ks:List (Option Addr×Nat)) (d:Nd) (a:Option Addr×Nat),ks.length=ns.length->zN (ns++[d]) (ks++[a])=zN ns ks++d.cells a
 | [],[],d,a,_=>by simp[zN]
 |n::ns,k::ks,d,a,h=>by simp[zN,pN ns ks d a (by simpa using h)]
 | [],_::_,_,_,h=>by simp at h
 |_::_,[],_,_,h=>by simp at h
theorem OwnN.snoc{W w':World}{B:Nat}{a a':Option Addr}{c c':Nat}{ns:List Nd}{ks:List (Option Addr×Nat)}(h:OwnN W B a c ns ks){d:Nd}{k:Option Addr×Nat}(hk:KRow W B a k d.kids)
 (hown:w'.ownsRow B 31 5 (.slice a' (ns.length+1) c') (ns.length+1) (zN ns ks++d.cells k))(hg:W.grownBy w' (Value.slice a ns.length c).ownBlock)(hw:∀p,a'=some p->a=some p\/W.heap.size<=p.block) :
 OwnN w' B a' c' (ns++[d]) (ks++[k]):=by
 have key:∀{k:Option Addr×Nat}{kids:List Int},KRow W B a k kids->KRow w' B a' k kids:=by
  intro k kids ⟨⟨h1,h2,h3,h4⟩,h5⟩;by_cases h0:0<kids.length
  .rcases h4 with h4|⟨b,o,e,ha,hc⟩
   .omega
   .obtain⟨h6,h7⟩:=h5 h0 _ e
    refine⟨⟨h1,h2,h3,.inr ⟨b,o,e,Nat.lt_of_lt_of_le ha hg.size,fun i hi=>?_⟩⟩,fun _ x ex=>?_⟩
    .have hb:w'.heap[b]?=W.heap[b]?:=hg.block b ha (by
      cases a with
      |none=>simp[Value.ownBlock]
      |some y=>have:=h7 y rfl;simp[Value.ownBlock];exact this)
     exact(World.cell?_of_block (a:=⟨b,o+i,none⟩) hb).trans (hc i hi)
    .rw[e]at ex
     obtain rfl:=Option.some.inj ex;refine⟨h6,fun y ey=>?_⟩;rcases hw y ey with h8|h8
     .exact h7 y h8
     .simp only;omega
  .exact⟨⟨h1,h2,h3,.inl (by omega)⟩,fun h=>absurd h h0⟩
 refine⟨by simp[h.len],?_,fun i hi hik=>?_⟩
 .rw[pN _ _ _ _ h.len,show(ns++[d]).length=ns.length+1 by simp]
  exact hown
 .by_cases e:i<ns.length
  .have e2:i<ks.length:=by have:=h.len;omega
   rw[List.getElem_append_left e2,List.getElem_append_left e];exact key (h.kids i e e2)
  .have hl:=h.len
   obtain rfl:i=ns.length:=by simp at hi;omega
   rw[List.getElem_append_right (by omega),List.getElem_append_right (by omega)];simp[hl];exact key hk
def GP(w:World)(t:Tr)(e:Ending)(w':World):Prop:=
 ∃(v:TreeV) (B:Nat) (ks:List (Option Addr×Nat)),e=.returned (v.val t)/\w.heap.size<=B/\OwnN w' B v.na v.nc t.nodes ks/\Ints w' v.ia v.ic t.items/\(∀x,v.ia=some x->w.heap.size<=x.block/\x.block<B)/\Below w.heap.size w w'
theorem DX{w wr:World}{ka:Option Addr}{kc:Nat}{d:Nd}(hb:Below (w.heap.size+1) (boxD w ka kc d) wr) :
 (wr.cell? ⟨w.heap.size,0,none⟩=some (.int .u8 d.kind)/\wr.cell? ⟨w.heap.size,1,none⟩=some (strV d.text)/\wr.cell? ⟨w.heap.size,2,none⟩=some (intV d.n)/\wr.cell? ⟨w.heap.size,3,none⟩=some (.slice ka d.kids.length kc)/\wr.cell? ⟨w.heap.size,4,none⟩=some (intV d.pos)) /\
 (∀j,wr.frozen? ⟨w.heap.size,j,none⟩=false)/\(∀b o,b<w.heap.size->wr.cell? ⟨b,o,none⟩=w.cell? ⟨b,o,none⟩)/\(∀b o,b<w.heap.size->wr.frozen? ⟨b,o,none⟩=w.frozen? ⟨b,o,none⟩)/\Below w.heap.size w wr/\w.heap.size+1<=wr.heap.size:=by
 have hs:=hb.size;simp only[World.size_alloc]at hs;have ha:Below (boxD w ka kc d).heap.size (boxD w ka kc d) wr:=by simpa using hb
 obtain⟨hc,hf⟩:=bcell ha;have hw:Below w.heap.size w wr:=((Below.refl _ w).alloc nlr _).trans (hb.mono (by omega));have e0:(boxD w ka kc d).cell? ⟨w.heap.size,0,none⟩=some (.int .u8 d.kind):=by simp
 have e1:(boxD w ka kc d).cell? ⟨w.heap.size,1,none⟩=some (strV d.text):=by simp
 have e2:(boxD w ka kc d).cell? ⟨w.heap.size,2,none⟩=some (intV d.n):=by simp
 have e3:(boxD w ka kc d).cell? ⟨w.heap.size,3,none⟩=some (.slice ka d.kids.length kc):=by simp
 have e4:(boxD w ka kc d).cell? ⟨w.heap.size,4,none⟩=some (intV d.pos):=by simp
 exact⟨⟨(hc _ _ (by simp)).trans e0,(hc _ _ (by simp)).trans e1,(hc _ _ (by simp)).trans e2,(hc _ _ (by simp)).trans e3,(hc _ _ (by simp)).trans e4⟩,fun j=>(hf _ _ (by simp)).trans (by simp),(bcell hw).1,(bcell hw).2,hw,hs⟩
structure Tk where
 kind:Int
 text:List UInt8
 pos:Int
deriving DecidableEq
structure PE where
 toks:List Tk
 fin:Int
structure PS where
 next:Nat
 nodes:List Nd
deriving DecidableEq
def wIf:List UInt8:=[105,102]
def SP:List UInt8:=[116,104,101,110]
def SO:List UInt8:=[101,108,115,101]
def wLet:List UInt8:=[108,101,116]
def wIn:List UInt8:=[105,110]
def wOr:List UInt8:=[111,114]
def wAnd:List UInt8:=[97,110,100]
def wNot:List UInt8:=[110,111,116]
def RU:List UInt8:=[116,114,117,101]
def OS:List UInt8:=[102,97,108,115,101]
def wInt:List UInt8:=[105,110,116]
def RT:List UInt8:=[98,111,111,108]
def EZ:List UInt8:=[117,112,116,111]
def sN:List UInt8:=[44]
def qY:List UInt8:=[45]
def sM:List UInt8:=[58]
def SI:List UInt8:=[46,46]
def sEq:List UInt8:=[61]
def AN:List UInt8:=[123]
def JZ:List UInt8:=[125]
def JY:List UInt8:=[40]
def AO:List UInt8:=[41]
def jT:List UInt8:=[91]
def tU:List UInt8:=[93]
def QE:List UInt8:=[59]
def sDot:List UInt8:=[46]
def QL:List UInt8:=[48]
def AZ:List UInt8:=[99,104,111,111,115,101]
def QK:List UInt8:=[116,121,112,101]
def wFun:List UInt8:=[102,117,110]
def uC:List UInt8:=[111,98,115,101,114,118,101]
def uD:List UInt8:=[114,101,116,114,97,99,116]
def wAsk:List UInt8:=[97,115,107]
def zh(E:PE)(s:PS):Tk:=E.toks.getD s.next ⟨0,[],E.fin⟩
def isTk(t:Tk)(l:List (List UInt8)):Bool:=(t.kind==3||t.kind==4)&&l.contains t.text
def isP(E:PE)(s:PS)(x:List UInt8):Bool:=isTk (zh E s) [x]
def PS.take(s:PS):PS:={ s with next:=s.next+1 }
abbrev PR(α:Type):=Except Int α
def cC(E:PE)(s:PS)(x:List UInt8):PR PS:=if isP E s x then .ok s.take else .error (zh E s).pos
def bU(E:PE)(s:PS)(k:Int):PR PS:=if (zh E s).kind==k then .ok s.take else .error (zh E s).pos
def addP(s:PS)(kind:Int)(own:Tk)(text:List UInt8)(n:Int)(kids:List Int):PS:={ s with nodes:=s.nodes++[⟨kind,text,n,kids,own.pos⟩] }
def valP(l:List UInt8):Int:=l.foldl (fun a c=>a*10+((c.toNat:Int)-48)) 0
abbrev RdP:=PS->PR (Int×PS)
def qI(rd:RdP)(E:PE):Nat->List Int->PS->PR (List Int×PS)
 |0,l,s=>.ok (l,s)
 |f+1,l,s=>if isP E s sN then (rd s.take).bind fun r=>qI rd E f (l++[r.1]) r.2 else .ok (l,s)
def nB(rd:RdP)(E:PE)(s:PS):PR (List Int×PS):=(rd s).bind fun r=>qI rd E (E.toks.length+1) [r.1] r.2
def gG(below:RdP)(E:PE)(kinds:List UInt8->Int)(once:Bool):Nat->Int->RdP
 |0,a,s=>.ok (a,s)
 | f+1,a,s=>
   if kinds (zh E s).text==0 then .ok (a,s)
   else (below s.take).bind fun r=>
    let s':=addP r.2 (kinds (zh E s).text) (zh E s) [] 0 [a,r.1]
    if once then .ok (r.2.nodes.length,s')else gG below E kinds once f r.2.nodes.length s'
def eD(below:RdP)(E:PE)(kinds:List UInt8->Int)(once:Bool)(s:PS):PR (Int×PS):=(below s).bind fun r=>gG below E kinds once (E.toks.length+1) r.1 r.2
def jP(expr:RdP)(E:PE):Nat->Int->RdP
 |0,a,s=>.ok (a,s)
 | f+1,a,s=>
   if isP E s sDot then (bU E s.take 1).bind fun s1=>jP expr E f s1.nodes.length (addP s1 22 (zh E s) (zh E s.take).text 0 [a])
   else if isP E s jT then (expr s.take).bind fun r=>(cC E r.2 tU).bind fun s2=>jP expr E f s2.nodes.length (addP s2 23 (zh E s) [] 0 [a,r.1])
   else .ok (a,s)
def orK(x:List UInt8):Int:=if x=wOr then 18 else 0
def andK(x:List UInt8):Int:=if x=wAnd then 17 else 0
def cmpK(x:List UInt8):Int:=if x=[61,61]then 11 else if x=[33,61]then 12 else if x=[60]then 13 else if x=[60,61]then 14 else if x=[62]then 15 else if x=[62,61]then 16 else 0
def sumK(x:List UInt8):Int:=if x=[43]then 6 else if x=[45]then 7 else 0
def tW(x:List UInt8):Int:=if x=[42]then 8 else if x=[47]then 9 else if x=[37]then 10 else 0
def addR(s:PS)(kind:Int)(own:Tk)(text:List UInt8)(n:Int)(kids:List Int):PR (Int×PS):=.ok (s.nodes.length,addP s kind own text n kids)
inductive NT|expr|or|and|not|cmp|sum|term|unary|postf|atom|kindOf|param|put
deriving DecidableEq
def sG(expr put:RdP)(E:PE)(nm:Tk)(s:PS):PR (Int×PS):=
 if isP E s JY then
  (if isP E s.take AO then .ok ([],s.take)else nB expr E s.take).bind fun r=>(cC E r.2 AO).bind fun s2=>addR s2 21 nm nm.text 0 r.1
 else if isP E s AN then (nB put E s.take).bind fun r=>(cC E r.2 JZ).bind fun s2=>addR s2 24 nm nm.text 0 r.1
 else addR s 3 nm nm.text 0 []
def DV(expr put:RdP)(E:PE)(s:PS):PR (Int×PS):=
 if (zh E s).kind==2 then addR s.take 1 (zh E s) [] (valP (zh E s).text) []
 else if isP E s RU then addR s.take 2 (zh E s) [] 1 []
 else if isP E s OS then addR s.take 2 (zh E s) [] 0 []
 else if isP E s JY then (expr s.take).bind fun r=>(cC E r.2 AO).bind fun s2=>.ok (r.1,s2)
 else if isP E s jT then (nB expr E s.take).bind fun r=>(cC E r.2 tU).bind fun s2=>addR s2 26 (zh E s) [] 0 r.1
 else (bU E s 1).bind fun s1=>sG expr put E (zh E s) s1
def nA(kindOf:RdP)(E:PE)(s:PS):PR (Int×PS):=
 if isP E s wInt then addR s.take 30 (zh E s) [] 0 []
 else if isP E s RT then addR s.take 31 (zh E s) [] 0 []
 else if isP E s jT then (kindOf s.take).bind fun r=>(cC E r.2 QE).bind fun s2=>(bU E s2 2).bind fun s3=>(cC E s3 tU).bind fun s4=>addR s4 33 (zh E s) [] (valP (zh E s2).text) [r.1]
 else (bU E s 1).bind fun s1=>addR s1 32 (zh E s) (zh E s).text 0 []
def wB(kindOf:RdP)(E:PE)(s:PS):PR (Int×PS):=
 (bU E s 1).bind fun s1=>(cC E s1 sM).bind fun s2=>(kindOf s2).bind fun r=>addR r.2 34 (zh E s) (zh E s).text 0 [r.1]
def putP(expr:RdP)(E:PE)(s:PS):PR (Int×PS):=
 (bU E s 1).bind fun s1=>(cC E s1 sM).bind fun s2=>(expr s2).bind fun r=>addR r.2 25 (zh E s) (zh E s).text 0 [r.1]
def EF(expr or:RdP)(E:PE)(s:PS):PR (Int×PS):=
 if isP E s wIf then
  (expr s.take).bind fun a=>(cC E a.2 SP).bind fun s2=>(expr s2).bind fun b=>(cC E b.2 SO).bind fun s4=>(expr s4).bind fun c=>addR c.2 19 (zh E s) [] 0 [a.1,b.1,c.1]
 else if isP E s wLet then
  (bU E s.take 1).bind fun s1=>(cC E s1 sEq).bind fun s2=>(expr s2).bind fun a=>(cC E a.2 wIn).bind fun s4=>(expr s4).bind fun c=>addR c.2 20 (zh E s) (zh E s.take).text 0 [a.1,c.1]
 else or s
def kV(nt:Int)(x:List UInt8)(self below:RdP)(E:PE)(s:PS):PR (Int×PS):=
 if isP E s x then (self s.take).bind fun a=>addR a.2 nt (zh E s) [] 0 [a.1]else below s
def zZ(E:PE):Nat->NT->RdP
 |0,_,_=>.error 0
 |f+1,.expr,s=>EF (zZ E f .expr) (zZ E f .or) E s
 |f+1,.or,s=>eD (zZ E f .and) E orK false s
 |f+1,.and,s=>eD (zZ E f .not) E andK false s
 |f+1,.not,s=>kV 5 wNot (zZ E f .not) (zZ E f .cmp) E s
 |f+1,.cmp,s=>eD (zZ E f .sum) E cmpK true s
 |f+1,.sum,s=>eD (zZ E f .term) E sumK false s
 |f+1,.term,s=>eD (zZ E f .unary) E tW false s
 |f+1,.unary,s=>kV 4 qY (zZ E f .unary) (zZ E f .postf) E s
 |f+1,.postf,s=>(zZ E f .atom s).bind fun r=>jP (zZ E f .expr) E (E.toks.length+1) r.1 r.2
 |f+1,.atom,s=>DV (zZ E f .expr) (zZ E f .put) E s
 |f+1,.kindOf,s=>nA (zZ E f .kindOf) E s
 |f+1,.param,s=>wB (zZ E f .kindOf) E s
 |f+1,.put,s=>putP (zZ E f .expr) E s
def iO(E:PE)(s:PS):PR (Int×PS):=
 if isP E s qY then (bU E s.take 2).bind fun s1=>addR s1 1 (zh E s) [] (-1*valP (zh E s.take).text) []
 else (bU E s 2).bind fun s1=>addR s1 1 (zh E s) [] (1*valP (zh E s).text) []
def kZ(E:PE)(own:Tk)(s:PS):PR (Int×PS):=
 (bU E s 1).bind fun s1=>(cC E s1 sM).bind fun s2=>(iO E s2).bind fun a=>(cC E a.2 SI).bind fun s4=>(iO E s4).bind fun b=>addR b.2 40 own (zh E s).text 0 [a.1,b.1]
def lF(param:RdP)(E:PE)(own:Tk)(s:PS):PR (Int×PS):=
 (bU E s 1).bind fun s1=>(cC E s1 sEq).bind fun s2=>(cC E s2 AN).bind fun s3=>(nB param E s3).bind fun l=>(cC E l.2 JZ).bind fun s5=>addR s5 41 own (zh E s).text 0 l.1
def uB(E:PE)(s:PS):PR (Int×PS):=
 if isP E s EZ then (if (zh E s.take).text=QL then .error (zh E s.take).pos else (bU E s.take 2).bind fun s1=>.ok (valP (zh E s.take).text,s1))else .ok (0,s)
def fR(param kindOf expr:RdP)(E:PE)(own:Tk)(s:PS):PR (Int×PS):=
 (bU E s 1).bind fun s1=>(cC E s1 JY).bind fun s2=>(if isP E s2 AO then .ok ([],s2)else nB param E s2).bind fun l=>(cC E l.2 AO).bind fun s4=>(cC E s4 sM).bind fun s5=>
  (kindOf s5).bind fun k=>(uB E k.2).bind fun u=>(cC E u.2 sEq).bind fun s8=>(expr s8).bind fun e=>addR e.2 42 own (zh E s).text u.1 (l.1++[k.1]++[e.1])
def letP(expr:RdP)(E:PE)(own:Tk)(s:PS):PR (Int×PS):=
 (bU E s 1).bind fun s1=>(cC E s1 sEq).bind fun s2=>(expr s2).bind fun e=>addR e.2 43 own (zh E s).text 0 [e.1]
def mG(expr:RdP)(E:PE)(own:Tk)(s:PS):PR (Int×PS):=
 (bU E s 1).bind fun s1=>(cC E s1 sM).bind fun s2=>(expr s2).bind fun e=>addR e.2 44 own (zh E s).text 0 [e.1]
def iS(E:PE)(own:Tk)(s:PS):PR (Int×PS):=(bU E s 1).bind fun s1=>addR s1 45 own (zh E s).text 0 []
def gH(x:List UInt8):Int:=
 if x=[109,117,115,116]then 1 else if x=[109,97,121]then 2 else if x=[99,111,117,110,116]then 3 else if x=[98,111,117,110,100,115]then 4
 else if x=[118,97,108,117,101,115]then 5 else if x=[119,104,121]then 6 else if x=[98,108,97,109,101]then 7 else if x=[108,111,111,107]then 8 else 0
def yL(expr:RdP)(E:PE)(own:Tk)(s:PS):PR (Int×PS):=
 if gH (zh E s).text==0 then .error (zh E s).pos
 else (if gH (zh E s).text==7 then .ok ([],s.take)else if gH (zh E s).text==8 then nB expr E s.take else (expr s.take).bind fun e=>.ok ([e.1],e.2)).bind fun l=>
  addR l.2 46 own [] (gH (zh E s).text) l.1
def PU(E:PE):Nat:=16*E.toks.length+32
def rdP(E:PE)(nt:NT):RdP:=zZ E (PU E) nt
def qF(E:PE)(s:PS):PR (Int×PS):=
 if (zh E s).kind != 3 then .error (zh E s).pos
 else if (zh E s).text=AZ then kZ E (zh E s) s.take
 else if (zh E s).text=QK then lF (rdP E .param) E (zh E s) s.take
 else if (zh E s).text=wFun then fR (rdP E .param) (rdP E .kindOf) (rdP E .expr) E (zh E s) s.take
 else if (zh E s).text=wLet then letP (rdP E .expr) E (zh E s) s.take
 else if (zh E s).text=uC then mG (rdP E .expr) E (zh E s) s.take
 else if (zh E s).text=uD then iS E (zh E s) s.take
 else if (zh E s).text=wAsk then yL (rdP E .expr) E (zh E s) s.take
 else .error (zh E s).pos
def bM(E:PE):Nat->List Int->PS->PR (List Int×PS)
 |0,l,s=>.ok (l,s)
 |f+1,l,s=>if s.next<E.toks.length then (qF E s).bind fun r=>(cC E r.2 QE).bind fun s2=>bM E f (l++[r.1]) s2 else .ok (l,s)
def oG(E:PE):PR Tr:=(bM E (E.toks.length+1) [] ⟨0,[]⟩).map fun r=>⟨r.2.nodes,r.1⟩
def mP(c:UInt8):Bool:=c==10||decide (32<=c.toNat)&&decide (c.toNat<=126)
def fP(s:List UInt8):Int×Int:=
 if 2000<s.length then (2000,5)else match s.findIdx? (fun c=>!mP c)with
  |some i=>(i,4)
  |none=>(0,0)
def gapB(c:UInt8):Bool:=c==32||c==10
def cB:Bool->List UInt8->Nat
 |_,[]=>0
 |true,c::l=>if c==10 then cB false l+1 else cB true l+1
 |false,c::l=>if gapB c then cB false l+1 else if c==35 then cB true l+1 else 0
def nH(s:List UInt8):Nat->Nat->List Tk->Except (Int×Int) (List Tk)
 |0,_,l=>.ok l
 | f+1,at_,l=>
   if at_<s.length then
    let r:=tokF (s.drop at_)
    if r.1==0 then .error (at_,4)else if l.length=800 then .error (at_,5)
    else nH s f (at_+r.2.length+cB false (s.drop (at_+r.2.length))) (l++[⟨r.1,r.2,at_⟩])
   else .ok l
def nI(s:List UInt8):Except (Int×Int) (List Tk):=if (fP s).2 != 0 then .error (fP s)else nH s (s.length+1) (cB false s) []
def wE(s:List UInt8):Except (Int×Int) Tr:=
 match nI s with
 |.error e=>.error e
 | .ok l=>match oG ⟨l,s.length⟩with
   |.error p=>.error (p,4)
   |.ok t=>.ok t
theorem bind_ok{ε α β:Type}{x:Except ε α}{g:α->Except ε β}{r:β}:x.bind g=.ok r↔∃v,x=.ok v/\g v=.ok r:=by
 cases x with
 |error e=>simp[Except.bind]
 |ok v=>simp[Except.bind]
structure NdOk (E:PE) (i:Nat) (d:Nd):Prop where
 kid:∀k∈d.kids,0<=k/\k<(i:Int)
 kids:d.kids.length<=E.toks.length+2
 n : -9999<=d.n/\d.n<=9999
 kind:1<=d.kind/\d.kind<=46
 text:d.text=[]\/∃t∈E.toks,d.text=t.text
 choose:d.kind=40->∃k0 k1,d.kids=[k0,k1]
structure Adv (E:PE) (k:Nat) (s s':PS):Prop where
 next:s.next<=s'.next
 le:s'.next<=E.toks.length
 pre:∃l,s'.nodes=s.nodes++l/\l.length+k<=s'.next-s.next
 ok:∀i d,s.nodes.length<=i->s'.nodes[i]?=some d->NdOk E i d
theorem Adv.refl{E:PE}{s:PS}(h:s.next<=E.toks.length):Adv E 0 s s:=
 ⟨nlr,h,⟨[],by simp,by simp⟩,fun i d hi hd=>by rw[List.getElem?_eq_none hi]at hd;cases hd⟩
theorem Adv.len{E:PE}{k:Nat}{s s':PS}(h:Adv E k s s'):s.nodes.length<=s'.nodes.length/\s'.nodes.length+k+s.next<=s.nodes.length+s'.next:=by
 obtain⟨h1,h2,⟨l,h3,h4⟩,h5⟩:=h;rw[h3,List.length_append];omega
theorem Adv.trans{E:PE}{k j:Nat}{a b c:PS}(h:Adv E k a b)(g:Adv E j b c):Adv E (k+j) a c:=by
 obtain⟨h1,h2,⟨l,h3,h4⟩,h5⟩:=h;obtain⟨g1,g2,⟨m,g3,g4⟩,g5⟩:=g;refine⟨by omega,g2,⟨l++m,by rw[g3,h3,List.append_assoc],by rw[List.length_append];omega⟩,fun i d hi hd=>?_⟩;by_cases hb:b.nodes.length<=i
 .exact g5 i d hb hd
 .refine h5 i d hi ?_
  rw[g3,List.getElem?_append_left (by omega)]at hd;exact hd
theorem Adv.less{E:PE}{k j:Nat}{a b:PS}(h:Adv E k a b)(hj:j<=k):Adv E j a b:=by
 obtain⟨h1,h2,⟨l,h3,h4⟩,h5⟩:=h;exact⟨h1,h2,⟨l,h3,by omega⟩,h5⟩
theorem Adv.take{E:PE}{k:Nat}{a b:PS}(h:Adv E k a b)(hb:b.next<E.toks.length):Adv E (k+1) a b.take:=by
 obtain⟨h1,h2,⟨l,h3,h4⟩,h5⟩:=h;refine⟨?_,?_,⟨l,h3,?_⟩,h5⟩<;>simp only[PS.take]<;>omega
theorem Adv.add{E:PE}{k:Nat}{a b:PS}{kind:Int}{own:Tk}{text:List UInt8}{n:Int}{kids:List Int}(h:Adv E (k+1) a b)(ok:NdOk E b.nodes.length ⟨kind,text,n,kids,own.pos⟩) :
 Adv E k a (addP b kind own text n kids):=by
 obtain⟨h1,h2,⟨l,h3,h4⟩,h5⟩:=h;refine⟨h1,h2,⟨l++[⟨kind,text,n,kids,own.pos⟩],by simp[addP,h3],by simp[addP];omega⟩,fun i d hi hd=>?_⟩;simp only[addP]at hd;by_cases hb:i<b.nodes.length
 .rw[List.getElem?_append_left hb]at hd
  exact h5 i d hi hd
 .rw[List.getElem?_append_right (by omega)]at hd
  by_cases he:i-b.nodes.length=0
  .rw[he]at hd
   simp only[List.length_singleton,Nat.lt_add_one,List.getElem?_eq_getElem,List.getElem_cons_zero,Option.some.injEq]at hd;subst hd;have:i=b.nodes.length:=by omega
   subst this;exact ok
  .rw[List.getElem?_eq_none (by simp;omega)]at hd
   cases hd
structure Rd (E:PE) (s:PS) (a:Int) (s':PS):Prop where
 adv:Adv E 0 s s'
 more:s.next<s'.next
 lo:(s.nodes.length:Int)<=a
 hi:a<(s'.nodes.length:Int)
def mS(E:PE):Prop:=∀t∈E.toks,t.kind=2->0<=valP t.text/\valP t.text<=9999
theorem jN{E:PE}{s:PS}(h:E.toks.length<=s.next):zh E s=⟨0,[],E.fin⟩:=by
 unfold zh;rw[List.getD_eq_getElem?_getD,List.getElem?_eq_none h];rfl
theorem dU{E:PE}{s:PS}(h:s.next<E.toks.length):zh E s∈E.toks:=by
 unfold zh;rw[List.getD_eq_getElem?_getD,List.getElem?_eq_getElem h];exact List.getElem_mem h
theorem fT{E:PE}{s:PS}{x:List UInt8}(h:isP E s x=true):s.next<E.toks.length:=by
 apply Classical.byContradiction;intro hn;unfold isP isTk at h;rw[jN (by omega)]at h;simp at h
theorem qH{E:PE}{s:PS}{k:Int}(hk:k≠0)(h:(zh E s).kind=k):s.next<E.toks.length:=by
 apply Classical.byContradiction;intro hn;rw[jN (by omega)]at h;exact hk h.symm
theorem aY{E:PE}{s s':PS}{x:List UInt8}(h:cC E s x=.ok s'):s'=s.take/\s.next<E.toks.length:=by
 unfold cC at h;split at h
 .rename_i hi
  exact⟨(Except.ok.inj h).symm,fT hi⟩
 .cases h
theorem bY{E:PE}{s s':PS}{k:Int}(hk:k≠0)(h:bU E s k=.ok s'):s'=s.take/\s.next<E.toks.length/\(zh E s).kind=k:=by
 unfold bU at h;split at h
 .rename_i hi
  have hi:=eq_of_beq hi;exact⟨(Except.ok.inj h).symm,qH hk hi,hi⟩
 .cases h
theorem aV{s s':PS}{a kind n:Int}{own:Tk}{text:List UInt8}{kids:List Int}(h:addR s kind own text n kids=.ok (a,s')):a=s.nodes.length/\s'=addP s kind own text n kids:=by
 unfold addR at h;simpa[eq_comm]using Except.ok.inj h
theorem cK{E:PE}{s b:PS}{kind n:Int}{own:Tk}{text:List UInt8}{kids:List Int}(h:Adv E 1 s b)(ok:NdOk E b.nodes.length ⟨kind,text,n,kids,own.pos⟩):Rd E s b.nodes.length (addP b kind own text n kids):=by
 have hl:=h.len;refine⟨h.add ok,?_,?_,?_⟩
 .simp only[addP];omega
 .omega
 .simp[addP];omega
theorem ndok{E:PE}{i:Nat}{kind n:Int}{text:List UInt8}{kids:List Int}{pos:Int}(h1:∀k∈kids,0<=k/\k<(i:Int))(h2:kids.length<=E.toks.length+2)(h3 : -9999<=n/\n<=9999)(h4:1<=kind/\kind<=46)
 (h5:text=[]\/∃t∈E.toks,text=t.text)(h6:kind=40->∃k0 k1,kids=[k0,k1]):NdOk E i ⟨kind,text,n,kids,pos⟩:=⟨h1,h2,h3,h4,h5,h6⟩
def Good1(E:PE)(rd:RdP):Prop:=∀s a s',s.next<=E.toks.length->rd s=.ok (a,s')->Rd E s a s'
theorem CH{E:PE}{rd:RdP}(g:Good1 E rd):∀(f:Nat) (l:List Int) (s:PS) (l':List Int) (s':PS),s.next<=E.toks.length->(∀k∈l,0<=k/\k<(s.nodes.length:Int))->qI rd E f l s=.ok (l',s') ->
 Adv E 0 s s'/\(∀k∈l',0<=k/\k<(s'.nodes.length:Int))/\l'.length+s.next<=l.length+s'.next
 | 0,l,s,l',s',hs,hl,h=>by
   simp only[qI,Except.ok.injEq,Prod.mk.injEq]at h;obtain⟨rfl,rfl⟩:=h;exact⟨Adv.refl hs,hl,nlr⟩
 | f+1,l,s,l',s',hs,hl,h=>by
   rw[qI]at h;split at h
   .rename_i hi
    obtain⟨⟨a,b⟩,h1,h2⟩:=bind_ok.1 h;have ha:=fT hi;have r:=g s.take a b (by simp only[PS.take];omega) h1;have hb:=r.adv.len
    obtain⟨h3,h4,h5⟩:=CH g f _ b l' s' r.adv.le (by
     intro k hk;rcases List.mem_append.1 hk with hk|hk
     .have:=hl k hk
      simp only[PS.take]at hb;omega
     .obtain rfl:=List.mem_singleton.1 hk
      have:=r.lo
      exact⟨by omega,r.hi⟩) h2
    have hm:=r.more;simp only[PS.take]at hm;refine⟨(((Adv.refl hs).take ha).trans (r.adv.trans h3)).less (by omega),h4,?_⟩;simp only[List.length_append,List.length_singleton]at h5;omega
   .simp only[Except.ok.injEq,Prod.mk.injEq]at h
    obtain⟨rfl,rfl⟩:=h;exact⟨Adv.refl hs,hl,nlr⟩
theorem kL{E:PE}{rd:RdP}(g:Good1 E rd){s:PS}{l':List Int}{s':PS}(hs:s.next<=E.toks.length)(h:nB rd E s=.ok (l',s')) :
 Adv E 0 s s'/\(∀k∈l',0<=k/\k<(s'.nodes.length:Int))/\l'.length+s.next<=s'.next:=by
 unfold nB at h;obtain⟨⟨a,b⟩,h1,h2⟩:=bind_ok.1 h;have r:=g s a b hs h1;have hl:=r.lo
 obtain⟨h3,h4,h5⟩:=CH g _ _ b l' s' r.adv.le (by
  intro k hk;obtain rfl:=List.mem_singleton.1 hk
  exact⟨by omega,r.hi⟩) h2
 have:=r.more;refine⟨(r.adv.trans h3).less (by omega),h4,?_⟩;simp only[List.length_singleton]at h5;omega
theorem mD{E:PE}{s:PS}{kinds:List UInt8->Int}(h0:kinds []=0)(h:(kinds (zh E s).text==0)=false):s.next<E.toks.length:=by
 apply Classical.byContradiction;intro hn;rw[jN (by omega)]at h;simp[h0]at h
theorem vU{E:PE}{below:RdP}{kinds:List UInt8->Int}{once:Bool}(g:Good1 E below)(h0:kinds []=0)(hk:∀x,kinds x=0\/1<=kinds x/\kinds x<=18):∀(f:Nat) (a:Int) (s:PS) (a':Int) (s':PS),
 s.next<=E.toks.length->0<=a->a<(s.nodes.length:Int)->gG below E kinds once f a s=.ok (a',s')->Adv E 0 s s'/\a<=a'/\a'<(s'.nodes.length:Int)
 | 0,a,s,a',s',hs,ha,hb,h=>by
   simp only[gG,Except.ok.injEq,Prod.mk.injEq]at h;obtain⟨rfl,rfl⟩:=h;exact⟨Adv.refl hs,Int.le_refl _,hb⟩
 | f+1,a,s,a',s',hs,ha,hb,h=>by
   rw[gG]at h;cases hz:(kinds (zh E s).text==0)with
   | true=>
     rw[if_pos hz]at h;simp only[Except.ok.injEq,Prod.mk.injEq]at h;obtain⟨rfl,rfl⟩:=h;exact⟨Adv.refl hs,Int.le_refl _,hb⟩
   | false=>
     rw[if_neg (by rw[hz];exact Bool.false_ne_true)]at h;obtain⟨⟨b,c⟩,h1,h2⟩:=bind_ok.1 h;have hf:=mD h0 hz;have r:=g s.take b c (by simp only[PS.take];omega) h1;have hd:=r.adv.len;have hm:=r.more;have he:=r.lo;have hg:=r.hi;simp only[PS.take]at hm hd he;have hh:=(hk (zh E s).text).resolve_left (by simpa using hz)
     have hc:Adv E 0 s (addP c (kinds (zh E s).text) (zh E s) [] 0 [a,b]):=by
      refine Adv.add ((((Adv.refl hs).take hf).trans r.adv).less (by omega)) (ndok ?_ (by simp) (by omega) (by omega) (.inl rfl) (by omega));intro k hk;simp only[List.mem_cons,List.not_mem_nil,or_false]at hk;rcases hk with rfl|rfl<;>omega
     simp only at h2;split at h2
     .simp only[Except.ok.injEq,Prod.mk.injEq]at h2
      obtain⟨rfl,rfl⟩:=h2;exact⟨hc,by omega,by simp[addP];omega⟩
     .obtain⟨h3,h4,h5⟩:=vU g h0 hk f _ _ a' s' hc.le (by omega) (by simp[addP];omega) h2
      exact⟨(hc.trans h3).less (by omega),by omega,h5⟩
theorem jM{E:PE}{below:RdP}{kinds:List UInt8->Int}{once:Bool}(g:Good1 E below)(h0:kinds []=0)(hk:∀x,kinds x=0\/1<=kinds x/\kinds x<=18):Good1 E (eD below E kinds once):=by
 intro s a s' hs h;unfold eD at h;obtain⟨⟨b,c⟩,h1,h2⟩:=bind_ok.1 h;have r:=g s b c hs h1;have hm:=r.more;have ha:=r.lo;obtain⟨h3,h4,h5⟩:=vU g h0 hk _ _ c a s' r.adv.le (by omega) r.hi h2;exact⟨(r.adv.trans h3).less (by omega),by have:=h3.next;omega,by omega,h5⟩
theorem fH{E:PE}{s:PS}(h:s.next<E.toks.length):∃t∈E.toks,(zh E s).text=t.text:=⟨_,dU h,rfl⟩
theorem tR{E:PE}{expr:RdP}(g:Good1 E expr):∀(f:Nat) (a:Int) (s:PS) (a':Int) (s':PS),
 s.next<=E.toks.length->0<=a->a<(s.nodes.length:Int)->jP expr E f a s=.ok (a',s')->Adv E 0 s s'/\a<=a'/\a'<(s'.nodes.length:Int)
 | 0,a,s,a',s',hs,ha,hb,h=>by
   simp only[jP,Except.ok.injEq,Prod.mk.injEq]at h;obtain⟨rfl,rfl⟩:=h;exact⟨Adv.refl hs,Int.le_refl _,hb⟩
 | f+1,a,s,a',s',hs,ha,hb,h=>by
   rw[jP]at h;split at h
   .rename_i hi
    have he:=fT hi;obtain⟨s1,h1,h2⟩:=bind_ok.1 h;obtain⟨rfl,hd,-⟩:=bY (by decide) h1
    have hc:Adv E 0 s (addP s.take.take 22 (zh E s) (zh E s.take).text 0 [a]):=by
     refine Adv.add ((((Adv.refl hs).take he).take hd).less (by omega)) (ndok ?_ (by simp) (by omega) (by omega) (.inr (fH hd)) (by omega));intro k hk;obtain rfl:=List.mem_singleton.1 hk;simp only[PS.take];omega
    obtain⟨h3,h4,h5⟩:=tR g f _ _ a' s' hc.le (by omega) (by simp[addP];omega) h2;exact⟨(hc.trans h3).less (by omega),by simp only[PS.take]at h4;omega,h5⟩
   .split at h
    .rename_i hi
     have he:=fT hi;obtain⟨⟨b,c⟩,h1,h2⟩:=bind_ok.1 h;obtain⟨s2,h6,h7⟩:=bind_ok.1 h2;obtain⟨rfl,hf⟩:=aY h6;have r:=g s.take b c (by simp only[PS.take];omega) h1;have hg:=r.adv.len;have hm:=r.more;have hh:=r.lo;have hj:=r.hi;simp only[PS.take]at hm hg hh
     have hc:Adv E 0 s (addP c.take 23 (zh E s) [] 0 [a,b]):=by
      refine Adv.add (((((Adv.refl hs).take he).trans r.adv).take hf).less (by omega)) (ndok ?_ (by simp) (by omega) (by omega) (.inl rfl) (by omega));intro k hk;simp only[List.mem_cons,List.not_mem_nil,or_false]at hk;simp only[PS.take];rcases hk with rfl|rfl<;>omega
     obtain⟨h3,h4,h5⟩:=tR g f _ _ a' s' hc.le (by omega) (by simp[addP];omega) h7;exact⟨(hc.trans h3).less (by omega),by simp only[PS.take]at h4;omega,h5⟩
    .simp only[Except.ok.injEq,Prod.mk.injEq]at h
     obtain⟨rfl,rfl⟩:=h;exact⟨Adv.refl hs,Int.le_refl _,hb⟩
theorem cE{i:Nat}:∀k∈([]:List Int),0<=k/\k<(i:Int):=fun _ h=>by cases h
theorem mC{i:Nat}{a:Int}(h0:0<=a)(h1:a<i):∀k∈[a],0<=k/\k<(i:Int):=fun _ h=>by
 obtain rfl:=List.mem_singleton.1 h;exact⟨h0,h1⟩
theorem JC{E:PE}{expr put:RdP}(ge:Good1 E expr)(gp:Good1 E put){nm:Tk}(hnm:nm∈E.toks){s0 s:PS}(ad:Adv E 1 s0 s){a:Int}{s':PS}(h:sG expr put E nm s=.ok (a,s')):Rd E s0 a s':=by
 have hs:=ad.le;unfold sG at h;split at h
 .rename_i hi
  have hb:=fT hi;obtain⟨⟨l,c⟩,h1,h2⟩:=bind_ok.1 h;obtain⟨s2,h3,h4⟩:=bind_ok.1 h2;obtain⟨rfl,ha⟩:=aY h3;obtain⟨rfl,rfl⟩:=aV h4
  obtain⟨k1,k2,k3⟩:Adv E 0 s.take c/\(∀k∈l,0<=k/\k<(c.nodes.length:Int))/\l.length+s.take.next<=c.next:=by
   split at h1
   .simp only[Except.ok.injEq,Prod.mk.injEq]at h1
    obtain⟨rfl,rfl⟩:=h1;exact⟨Adv.refl (by simp only[PS.take];omega),cE,by simp⟩
   .exact kL ge (by simp only[PS.take];omega) h1
  have hl:=k1.le;exact cK ((((ad.take hb).trans k1).take ha).less (by omega)) (ndok (by simpa[PS.take]using k2) (by dsimp only;omega) (by omega) (by omega) (.inr ⟨nm,hnm,rfl⟩) (by omega))
 .split at h
  .rename_i hi
   have hb:=fT hi;obtain⟨⟨l,c⟩,h1,h2⟩:=bind_ok.1 h;obtain⟨s2,h3,h4⟩:=bind_ok.1 h2;obtain⟨rfl,ha⟩:=aY h3;obtain⟨rfl,rfl⟩:=aV h4;obtain⟨k1,k2,k3⟩:=kL gp (by simp only[PS.take];omega) h1;have hl:=k1.le;exact cK ((((ad.take hb).trans k1).take ha).less (by omega)) (ndok (by simpa[PS.take]using k2) (by dsimp only;omega) (by omega) (by omega) (.inr ⟨nm,hnm,rfl⟩) (by omega))
  .obtain⟨rfl,rfl⟩:=aV h
   exact cK ad (ndok cE (by simp) (by omega) (by omega) (.inr ⟨nm,hnm,rfl⟩) (by omega))
theorem LX{E:PE}(tk:mS E){expr put:RdP}(ge:Good1 E expr)(gp:Good1 E put):Good1 E (DV expr put E):=by
 intro s a s' hs h;unfold DV at h;split at h
 .rename_i hk
  have hk:=eq_of_beq hk;have ha:=qH (by decide) hk;obtain⟨rfl,rfl⟩:=aV h;have hv:=tk _ (dU ha) hk;exact cK ((Adv.refl hs).take ha) (ndok cE (by simp) (by omega) (by omega) (.inl rfl) (by omega))
 .split at h
  .rename_i hi
   obtain⟨rfl,rfl⟩:=aV h;exact cK ((Adv.refl hs).take (fT hi)) (ndok cE (by simp) (by omega) (by omega) (.inl rfl) (by omega))
  .split at h
   .rename_i hi
    obtain⟨rfl,rfl⟩:=aV h;exact cK ((Adv.refl hs).take (fT hi)) (ndok cE (by simp) (by omega) (by omega) (.inl rfl) (by omega))
   .split at h
    .rename_i hi
     have ha:=fT hi;obtain⟨⟨b,c⟩,h1,h2⟩:=bind_ok.1 h;obtain⟨s2,h3,h4⟩:=bind_ok.1 h2;obtain⟨rfl,hb⟩:=aY h3;simp only[Except.ok.injEq,Prod.mk.injEq]at h4;obtain⟨rfl,rfl⟩:=h4;have r:=ge s.take b c (by simp only[PS.take];omega) h1;have hm:=r.more;have hc:=r.lo;have hd:=r.hi;simp only[PS.take]at hm hc;exact⟨((((Adv.refl hs).take ha).trans r.adv).take hb).less (by omega),by simp only[PS.take];omega,hc,hd⟩
    .split at h
     .rename_i hi
      have ha:=fT hi;obtain⟨⟨l,c⟩,h1,h2⟩:=bind_ok.1 h;obtain⟨s2,h3,h4⟩:=bind_ok.1 h2;obtain⟨rfl,hb⟩:=aY h3;obtain⟨rfl,rfl⟩:=aV h4;obtain⟨k1,k2,k3⟩:=kL ge (by simp only[PS.take];omega) h1;have hl:=k1.le;exact cK (((((Adv.refl hs).take ha).trans k1).take hb).less (by omega)) (ndok (by simpa[PS.take]using k2) (by dsimp only;omega) (by omega) (by omega) (.inl rfl) (by omega))
     .obtain⟨s1,h1,h2⟩:=bind_ok.1 h
      obtain⟨rfl,ha,-⟩:=bY (by decide) h1;exact JC ge gp (dU ha) ((Adv.refl hs).take ha) h2
theorem EM{E:PE}(tk:mS E){kindOf:RdP}(g:Good1 E kindOf):Good1 E (nA kindOf E):=by
 intro s a s' hs h;unfold nA at h;split at h
 .rename_i hi
  obtain⟨rfl,rfl⟩:=aV h;exact cK ((Adv.refl hs).take (fT hi)) (ndok cE (by simp) (by omega) (by omega) (.inl rfl) (by omega))
 .split at h
  .rename_i hi
   obtain⟨rfl,rfl⟩:=aV h;exact cK ((Adv.refl hs).take (fT hi)) (ndok cE (by simp) (by omega) (by omega) (.inl rfl) (by omega))
  .split at h
   .rename_i hi
    have hb:=fT hi;obtain⟨⟨b,c⟩,h1,h2⟩:=bind_ok.1 h;obtain⟨s2,h3,h4⟩:=bind_ok.1 h2;obtain⟨rfl,hc⟩:=aY h3;obtain⟨s3,h5,h6⟩:=bind_ok.1 h4;obtain⟨rfl,ha,hf⟩:=bY (by decide) h5;obtain⟨s4,h7,h8⟩:=bind_ok.1 h6;obtain⟨rfl,hd⟩:=aY h7;obtain⟨rfl,rfl⟩:=aV h8;have r:=g s.take b c (by simp only[PS.take];omega) h1;have hm:=r.more;have hg:=r.lo;have he:=r.hi;have hv:=tk _ (dU ha) hf;exact cK (((((((Adv.refl hs).take hb).trans r.adv).take hc).take ha).take hd).less (by omega)) (ndok (mC (by omega) (by simpa[PS.take]using he)) (by simp) (by omega) (by omega) (.inl rfl) (by omega))
   .obtain⟨s1,h1,h2⟩:=bind_ok.1 h
    obtain⟨rfl,hb,-⟩:=bY (by decide) h1;obtain⟨rfl,rfl⟩:=aV h2;exact cK ((Adv.refl hs).take hb) (ndok cE (by simp) (by omega) (by omega) (.inr (fH hb)) (by omega))
theorem BL{E:PE}{rd:RdP}(g:Good1 E rd){k:Int}(hk:1<=k/\k<=39):Good1 E (fun s=>(bU E s 1).bind fun s1=>(cC E s1 sM).bind fun s2=>(rd s2).bind fun r=>addR r.2 k (zh E s) (zh E s).text 0 [r.1]):=by
 intro s a s' hs h;obtain⟨s1,h1,h2⟩:=bind_ok.1 h;obtain⟨rfl,hb,-⟩:=bY (by decide) h1;obtain⟨s2,h3,h4⟩:=bind_ok.1 h2;obtain⟨rfl,ha⟩:=aY h3;obtain⟨⟨b,c⟩,h5,h6⟩:=bind_ok.1 h4;obtain⟨rfl,rfl⟩:=aV h6;have r:=g s.take.take b c (by simp only[PS.take]at ha|-;omega) h5;have hd:=r.lo;have hc:=r.hi;exact cK (((((Adv.refl hs).take hb).take ha).trans r.adv).less (by omega)) (ndok (mC (by omega) hc) (by simp) (by omega) (by omega) (.inr (fH hb)) (by omega))
theorem ME{E:PE}{expr or:RdP}(g:Good1 E expr)(go:Good1 E or):Good1 E (EF expr or E):=by
 intro s a s' hs h;unfold EF at h;split at h
 .rename_i hi
  have he:=fT hi;obtain⟨⟨b,c⟩,h1,h2⟩:=bind_ok.1 h;obtain⟨s2,h3,h4⟩:=bind_ok.1 h2;obtain⟨rfl,ha⟩:=aY h3;obtain⟨⟨d,e⟩,h5,h6⟩:=bind_ok.1 h4;obtain⟨s4,h7,h8⟩:=bind_ok.1 h6;obtain⟨rfl,hb⟩:=aY h7;obtain⟨⟨f,i⟩,h9,hd⟩:=bind_ok.1 h8;obtain⟨rfl,rfl⟩:=aV hd;have r:=g s.take b c (by simp only[PS.take];omega) h1;have r2:=g c.take d e (by simp only[PS.take]at ha|-;omega) h5;have r3:=g e.take f i (by simp only[PS.take]at hb|-;omega) h9;have l1:=r.adv.len;have l2:=r2.adv.len;have l3:=r3.adv.len;have a1:=r.lo;have a2:=r2.lo;have a3:=r3.lo;have b1:=r.hi;have b2:=r2.hi;have b3:=r3.hi;simp only[PS.take]at l1 l2 l3 a1 a2 a3;refine cK (((((((Adv.refl hs).take he).trans r.adv).take ha).trans r2.adv).take hb).trans r3.adv |>.less (by omega)) (ndok ?_ (by simp;omega) (by omega) (by omega) (.inl rfl) (by omega));intro k hk;simp only[List.mem_cons,List.not_mem_nil,or_false]at hk;simp only;rcases hk with rfl|rfl|rfl<;>omega
 .split at h
  .rename_i hi
   have he:=fT hi;obtain⟨s1,h1,h2⟩:=bind_ok.1 h;obtain⟨rfl,hc,-⟩:=bY (by decide) h1;obtain⟨s2,h3,h4⟩:=bind_ok.1 h2;obtain⟨rfl,ha⟩:=aY h3;obtain⟨⟨b,c⟩,h5,h6⟩:=bind_ok.1 h4;obtain⟨s4,h7,h8⟩:=bind_ok.1 h6;obtain⟨rfl,hb⟩:=aY h7;obtain⟨⟨f,i⟩,h9,hd⟩:=bind_ok.1 h8;obtain⟨rfl,rfl⟩:=aV hd;have r:=g s.take.take.take b c (by simp only[PS.take]at ha|-;omega) h5;have r3:=g c.take f i (by simp only[PS.take]at hb|-;omega) h9;have l1:=r.adv.len;have l3:=r3.adv.len;have a1:=r.lo;have a3:=r3.lo;have b1:=r.hi;have b3:=r3.hi;simp only[PS.take]at l1 l3 a1 a3;refine cK (((((((Adv.refl hs).take he).take hc).take ha).trans r.adv).take hb).trans r3.adv |>.less (by omega)) (ndok ?_ (by simp) (by omega) (by omega) (.inr (fH hc)) (by omega));intro k hk;simp only[List.mem_cons,List.not_mem_nil,or_false]at hk;simp only;rcases hk with rfl|rfl<;>omega
  .exact go s a s' hs h
theorem wX{E:PE}{self below:RdP}(g:Good1 E self)(gb:Good1 E below){nt:Int}(hn:1<=nt/\nt<=39){x:List UInt8}:Good1 E (kV nt x self below E):=by
 intro s a s' hs h;unfold kV at h;split at h
 .rename_i hi
  have ha:=fT hi;obtain⟨⟨b,c⟩,h1,h2⟩:=bind_ok.1 h;obtain⟨rfl,rfl⟩:=aV h2;have r:=g s.take b c (by simp only[PS.take];omega) h1;have hb:=r.lo;exact cK ((((Adv.refl hs).take ha).trans r.adv).less (by omega)) (ndok (mC (by omega) r.hi) (by simp) (by omega) (by omega) (.inl rfl) (by omega))
 .exact gb s a s' hs h
theorem RI(x:List UInt8):orK x=0\/1<=orK x/\orK x<=18:=by unfold orK;split<;>omega
theorem PB(x:List UInt8):andK x=0\/1<=andK x/\andK x<=18:=by unfold andK;split<;>omega
theorem PH(x:List UInt8):cmpK x=0\/1<=cmpK x/\cmpK x<=18:=by
 unfold cmpK
 repeat' split
 all_goals omega
theorem QF(x:List UInt8):sumK x=0\/1<=sumK x/\sumK x<=18:=by
 unfold sumK
 repeat' split
 all_goals omega
theorem NW(x:List UInt8):tW x=0\/1<=tW x/\tW x<=18:=by
 unfold tW
 repeat' split
 all_goals omega
theorem wD{E:PE}(tk:mS E):∀(f:Nat) (nt:NT),Good1 E (zZ E f nt)
 |0,nt=>fun s a s' _ h=>by simp[zZ]at h
 | f+1,nt=>by
   have IH:=wD tk f
   cases nt with
   |expr=>exact fun s a s' hs h=>ME (IH .expr) (IH .or) s a s' hs (by rwa[zZ]at h)
   |or=>exact fun s a s' hs h=>jM (IH .and) (by decide) RI s a s' hs (by rwa[zZ]at h)
   |and=>exact fun s a s' hs h=>jM (IH .not) (by decide) PB s a s' hs (by rwa[zZ]at h)
   |not=>exact fun s a s' hs h=>wX (nt:=5) (x:=wNot) (IH .not) (IH .cmp) (by omega) s a s' hs (by rwa[zZ]at h)
   |cmp=>exact fun s a s' hs h=>jM (IH .sum) (by decide) PH s a s' hs (by rwa[zZ]at h)
   |sum=>exact fun s a s' hs h=>jM (IH .term) (by decide) QF s a s' hs (by rwa[zZ]at h)
   |term=>exact fun s a s' hs h=>jM (IH .unary) (by decide) NW s a s' hs (by rwa[zZ]at h)
   |unary=>exact fun s a s' hs h=>wX (nt:=4) (x:=qY) (IH .unary) (IH .postf) (by omega) s a s' hs (by rwa[zZ]at h)
   | postf=>
     intro s a s' hs h;rw[zZ]at h;obtain⟨⟨b,c⟩,h1,h2⟩:=bind_ok.1 h;have r:=IH .atom s b c hs h1;have ha:=r.lo;have hm:=r.more;obtain⟨h3,h4,h5⟩:=tR (IH .expr) _ b c a s' r.adv.le (by omega) r.hi h2;exact⟨(r.adv.trans h3).less (by omega),by have:=h3.next;omega,by omega,h5⟩
   |atom=>exact fun s a s' hs h=>LX tk (IH .expr) (IH .put) s a s' hs (by rwa[zZ]at h)
   |kindOf=>exact fun s a s' hs h=>EM tk (IH .kindOf) s a s' hs (by rwa[zZ]at h)
   |param=>exact fun s a s' hs h=>BL (IH .kindOf) (k:=34) (by omega) s a s' hs (by rwa[zZ,wB]at h)
   |put=>exact fun s a s' hs h=>BL (IH .expr) (k:=25) (by omega) s a s' hs (by rwa[zZ,putP]at h)
end
end Go.Proofs.YtcdkdiedphhdhaaGreatDoor
