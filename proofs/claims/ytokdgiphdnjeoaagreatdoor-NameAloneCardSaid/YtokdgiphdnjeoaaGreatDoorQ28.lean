/- Part of a proof. -/
import Derived.Test.YtokdgiphdnjeoaaGreatDoorQ27
import Derived.Maps.OwnSet
set_option maxRecDepth 100000
set_option maxHeartbeats 8000000
set_option linter.unusedVariables false
set_option linter.unusedSimpArgs false
open Go.Proofs.Tryz
namespace Go.Proofs.YtokdgiphdnjeoaaGreatDoor
section
open Go Go.RowKit Go.Maps
theorem ze{P:Program}(w:World){ops:Array Oper}{rest:List Oper}{o:Oper}{a:Act}{Q:Exit→Act→World→Prop}
 (hg:o.guard=none)(m x v:Operand)(t:TypeId)(hop:o.op=Op.insert t m x v)(k e:TypeId)(K:Keyed P k)(ht:P.underlying t=some (.map k e))(R:Value→Option (DataW Unit×List MemPlace))(b n:Nat)(D:DataW Unit)
 (hm:a.eval m=.map (some b))(hown:w.ownsMap P k R b n D)(hn:n<maxLen)(key val:Value)(kl:Lit)(hx:a.eval x=key)(hv:a.eval v=val)(hkey:keyOf P k key=some kl)(d:DataW Unit)(ps:List MemPlace)(hval:R val=some (d,ps))
 (hK:∀w',w'.ownsMap P k R b (n+1) (D.put kl d)→w.grownBy w' (some b)→wpList P ops Q rest (a.put o.dst undef) w'):wpList P ops Q (o::rest) a w:=by
 refine wpList_plain hg fun K' hK'=>?_;obtain⟨w',hrun,r1,r2⟩:=hown.update K ht hn hkey hval;unfold Oper.wp;simp[execOp,hop,hm,hx,hv,hrun,Result.andThen];exact hK' _ _ (hK w' r1 r2)
theorem jZ:prog.underlying 9=some .string:=by kernel_rfl
theorem zE:Keyed prog 9:=string_keyed jZ
def rdV:Value→Option (DataW Unit×List MemPlace)
 |.int .u8 n=>some (.lit (.int .u8 n),[])
 |.int .i64 n=>some (.lit (.int .i64 n),[])
 |.func (.func f) a b=>if a = #[]∧b = #[]then some (.ptr (.lit (.int .i64 f)),[])else none
 |.nilFunc=>some (.nil,[])
 |_=>none
theorem eX{D:DataW Unit}(hD:IsMap D)(k x:List UInt8)(d z:DataW Unit):(D.put (.string k) d).atKey (.string x) z=if x=k then d else D.atKey (.string x) z:=by
 by_cases h:x=k
 ·subst h
  rw[if_pos rfl];exact atKey_put_same hD (show WideAt.IsKeyLit (.string x)from trivial) d z
 ·rw[if_neg h]
  exact atKey_put_other (by intro e;injection e with e;exact h e) d z
theorem bG{D:DataW Unit}(hD:IsMap D)(k:Lit)(d:DataW Unit):IsMap (D.put k d):=by
 obtain⟨es,rfl⟩:=hD;exact⟨_,rfl⟩
theorem OA{v:Value}{n:Int}{ps:List MemPlace}(h:rdV v=some (.lit (.int .u8 n),ps)):v=.int .u8 n:=by
 unfold rdV at h;split at h<;>simp at h;rw[h.1]
theorem MP{v:Value}{n:Int}{ps:List MemPlace}(h:rdV v=some (.lit (.int .i64 n),ps)):v=.int .i64 n:=by
 unfold rdV at h;split at h<;>simp at h;rw[h.1]
theorem NZ{v:Value}{n:Nat}{ps:List MemPlace}(h:rdV v=some (.ptr (.lit (.int .i64 n)),ps)):v=.func (.func n) #[] #[]:=by
 unfold rdV at h;split at h<;>simp at h;obtain⟨⟨rfl,rfl⟩,h1,_⟩:=h;first|rw[h1]|rw[Int.ofNat_inj.1 h1]
abbrev OwnS(X:World)(b n:Nat)(D:DataW Unit):Prop:=X.ownsMap prog 9 rdV b n D
theorem MN{X:World}{b n:Nat}{D:DataW Unit}(h:OwnS X b n D):∃es clock,X.heap[b]?=some (.map es clock)∧∀Y:World,Y.heap[b]?=some (.map es clock)→OwnS Y b n D:=by
 obtain⟨es,clock,hb,F,hs,hD⟩:=h;exact⟨es,clock,hb,fun Y hY=>⟨es,clock,hY,F,hs,hD⟩⟩
theorem zO{s:List UInt8}(h:s.length≤1000000):keyOf prog 9 (strV s)=some (.string s):=WideMaps.keyOf_string_mk jZ (s:=⟨s.toArray⟩) (by simp[ByteArray.size,maxLen];omega)
theorem dY:prog.underlying 332=some (.map 9 5):=by kernel_rfl
theorem iN:prog.underlying 92=some (.map 9 3):=by kernel_rfl
theorem ND(w:World):(zeroValue 5).run prog w=.ok (.int .u8 0) w:=by kernel_rfl
theorem LD(w:World):(zeroValue 3).run prog w=.ok (.int .i64 0) w:=by kernel_rfl
theorem pL{X:World}{b n:Nat}{D:DataW Unit}(h:OwnS X b n D){s:List UInt8}(hs:s.length≤1000000){k:Int}(hk:D.atKey (.string s) (.lit (.int .u8 0))=.lit (.int .u8 k)) :
 (Instr.lookup 332 (.map (some b)) (strV s) false).run prog X=.ok (.int .u8 k) X:=by
 obtain⟨v,ps,hrun,hv⟩:=h.lookup zE dY (ND X) (zd:=.lit (.int .u8 0)) (zp:=[]) rfl (zO hs);rw[hk]at hv;rw[hrun,OA hv]
theorem JZ{X:World}{b n:Nat}{D:DataW Unit}(h:OwnS X b n D){s:List UInt8}(hs:s.length≤1000000){k:Int}(hk:D.atKey (.string s) (.lit (.int .i64 0))=.lit (.int .i64 k)) :
 (Instr.lookup 92 (.map (some b)) (strV s) false).run prog X=.ok (.int .i64 k) X:=by
 obtain⟨v,ps,hrun,hv⟩:=h.lookup zE iN (LD X) (zd:=.lit (.int .i64 0)) (zp:=[]) rfl (zO hs);rw[hk]at hv;rw[hrun,MP hv]
structure KMap (b:Nat) (o:Obj) (kinds:List UInt8→Int):Prop where
 look:∀(X:World) (s:List UInt8),X.heap[b]?=some o→s.length≤1000000→(Instr.lookup 332 (.map (some b)) (strV s) false).run prog X=.ok (.int .u8 (kinds s)) X
 zero:kinds []=0
theorem PQ.map{c:PC}{s:PS}{F:List (Nat×Obj)}{d:Nat}{X Y:World}(h:PQ c s F d X)(hg:(X.alloc (.map #[] 0)).grownBy Y (some X.heap.size)){n:Nat}{D:DataW Unit}(ho:OwnS Y X.heap.size n D) :
 ∃o,PQ c s ((X.heap.size,o)::F) d Y∧∀Z:World,Z.heap[X.heap.size]?=some o→OwnS Z X.heap.size n D:=by
 obtain⟨es,clock,hb,hall⟩:=MN ho;refine⟨_,?_,hall⟩;have h1:=h.alloc (.map #[] 0);have ht:Turns (fun i=>i=X.heap.size) (X.alloc (.map #[] 0)) Y:=⟨hg.os,hg.tape,hg.output,hg.size,fun i hi hn=>hg.block i hi (by simpa using hn)⟩
 have h2:=h1.turned ht;obtain⟨⟨G,g⟩,hd⟩:=h1;have hG:=(g.out _ (List.mem_cons_self ..))
 have hn:=(List.nodup_cons.1 g.nd).1;obtain⟨⟨G2,g2⟩,-⟩:=h2;have hpar:IsPar c.w0 c.E c.ta c.tc c.iv s G Y:=g.par.turns ht (fun i hi e=>hG.2 (by subst e;exact hi)) (fun i e=>by subst e;simp only at hG;omega);refine⟨⟨G,hpar,fun p hp=>?_,fun p hp=>g.out ⟨p.1,p.2⟩ |> fun q=>?_,?_⟩,hd⟩
 ·rcases List.mem_cons.1 hp with rfl|hp
  ·exact hb
  ·exact g2.own p hp
 ·rcases List.mem_cons.1 hp with rfl|hp
  ·exact hG
  ·exact g.out p (List.mem_cons_of_mem _ hp)
 ·exact List.nodup_cons.2 ⟨hn,(List.nodup_cons.1 g.nd).2⟩
theorem OP{D:DataW Unit}(hD:D=(DataW.map []).put (.string wOr) (.lit (.int .u8 18)))(x:List UInt8):D.atKey (.string x) (.lit (.int .u8 0))=.lit (.int .u8 (orK x)):=by
 subst hD;rw[eX ⟨_,rfl⟩];unfold orK;split<;>rfl
theorem NQ{D:DataW Unit}(hD:D=(DataW.map []).put (.string wAnd) (.lit (.int .u8 17)))(x:List UInt8):D.atKey (.string x) (.lit (.int .u8 0))=.lit (.int .u8 (andK x)):=by
 subst hD;rw[eX ⟨_,rfl⟩];unfold andK;split<;>rfl
theorem NU{D:DataW Unit}(hD:D=((DataW.map []).put (.string [43]) (.lit (.int .u8 6))).put (.string [45]) (.lit (.int .u8 7)))(x:List UInt8):D.atKey (.string x) (.lit (.int .u8 0))=.lit (.int .u8 (sumK x)):=by
 subst hD;rw[eX (bG ⟨_,rfl⟩ _ _),eX ⟨_,rfl⟩];unfold sumK;by_cases h1:x=[43]
 ·subst h1;rfl
 ·by_cases h2:x=[45]
  ·subst h2;rfl
  ·simp only[h1,h2,if_false];rfl
theorem ML{D:DataW Unit}(hD:D=(((DataW.map []).put (.string [42]) (.lit (.int .u8 8))).put (.string [47]) (.lit (.int .u8 9))).put (.string [37]) (.lit (.int .u8 10)))(x:List UInt8):D.atKey (.string x) (.lit (.int .u8 0))=.lit (.int .u8 (sT x)):=by
 subst hD;rw[eX (bG (bG ⟨_,rfl⟩ _ _) _ _),eX (bG ⟨_,rfl⟩ _ _),eX ⟨_,rfl⟩];unfold sT;by_cases h1:x=[42]
 ·subst h1;rfl
 ·by_cases h2:x=[47]
  ·subst h2;rfl
  ·by_cases h3:x=[37]
   ·subst h3;rfl
   ·simp only[h1,h2,h3,if_false];rfl
theorem NR{D:DataW Unit}(hD:D=((((((DataW.map []).put (.string [61,61]) (.lit (.int .u8 11))).put (.string [33,61]) (.lit (.int .u8 12))).put (.string [60]) (.lit (.int .u8 13))).put (.string [60,61]) (.lit (.int .u8 14))).put (.string [62]) (.lit (.int .u8 15))).put (.string [62,61]) (.lit (.int .u8 16)))(x:List UInt8) :
 D.atKey (.string x) (.lit (.int .u8 0))=.lit (.int .u8 (cmpK x)):=by
 subst hD;rw[eX (bG (bG (bG (bG (bG ⟨_,rfl⟩ _ _) _ _) _ _) _ _) _ _),eX (bG (bG (bG (bG ⟨_,rfl⟩ _ _) _ _) _ _) _ _),eX (bG (bG (bG ⟨_,rfl⟩ _ _) _ _) _ _),eX (bG (bG ⟨_,rfl⟩ _ _) _ _),eX (bG ⟨_,rfl⟩ _ _),eX ⟨_,rfl⟩];unfold cmpK;by_cases h1:x=[61,61]
 ·subst h1;rfl
 ·by_cases h2:x=[33,61]
  ·subst h2;rfl
  ·by_cases h3:x=[60]
   ·subst h3;rfl
   ·by_cases h4:x=[60,61]
    ·subst h4;rfl
    ·by_cases h5:x=[62]
     ·subst h5;rfl
     ·by_cases h6:x=[62,61]
      ·subst h6;rfl
      ·simp only[h1,h2,h3,h4,h5,h6,if_false];rfl
end
section
open Go Go.RowKit
theorem jA{below:RdP}{E:PE}{kinds:List UInt8→Int}{once:Bool}{f:Nat}{a:Int}{s:PS}(h:(kinds (zi E s).text==0)=true):eO below E kinds once f a s=.ok (a,s):=by
 cases f with
 |zero=>rfl
 |succ f=>unfold eO;rw[if_pos h]
theorem xF{below:RdP}{E:PE}{kinds:List UInt8→Int}{f:Nat}{a:Int}{s:PS}(h:(kinds (zi E s).text==0)=false):eO below E kinds true (f+1) a s=(below s.take).bind fun r=>.ok ((r.2.nodes.length:Int),addP r.2 (kinds (zi E s).text) (zi E s) [] 0 [a,r.1]):=by
 conv=>lhs;unfold eO
 rw[if_neg (by rw[h];exact Bool.false_ne_true)];rfl
theorem iF{below:RdP}{E:PE}{kinds:List UInt8→Int}{f:Nat}{a:Int}{s:PS}(h:(kinds (zi E s).text==0)=false):eO below E kinds false (f+1) a s=(below s.take).bind fun r=>eO below E kinds false f r.2.nodes.length (addP r.2 (kinds (zi E s).text) (zi E s) [] 0 [a,r.1]):=by
 conv=>lhs;unfold eO
 rw[if_neg (by rw[h];exact Bool.false_ne_true)];rfl
theorem kX{c:PC}(he:OkC c)(s:PS):(zi c.E s).text.length≤1000000:=by
 by_cases h:s.next<c.E.toks.length
 ·have:=he.text _ (dW h);omega
 ·rw[jD (by omega)];simp
theorem zr{a b c:World}{row:Option Nat}(h:a.grownBy b row)(k:b.grownBy c row):a.grownBy c row:=
 ⟨k.os.trans h.os,k.tape.trans h.tape,k.output.trans h.output,Nat.le_trans h.size k.size,fun i hi hn=>(k.block i (Nat.lt_of_lt_of_le hi h.size) hn).trans (h.block i hi hn)⟩
abbrev lvO(b:Nat)(fn:FuncId)(once:Bool):Obj:=.cells #[.map (some b),.func (.func fn) #[] #[],.bool once] 334
theorem Own.lv{F:List (Nat×Obj)}{X:World}(h:Own F X){g b:Nat}{fn:FuncId}{once:Bool}(hm:(g,lvO b fn once)∈F):X.cell? ⟨g,0,none⟩=some (.map (some b))∧X.cell? ⟨g,1,none⟩=some (.func (.func fn) #[] #[])∧X.cell? ⟨g,2,none⟩=some (.bool once):=
 ⟨za (h _ hm) rfl,za (h _ hm) rfl,za (h _ hm) rfl⟩
theorem DD{c:PC}(he:OkC c){below:RdP}{s:PS}(hbl:∀s',s.next≤s'.next→zt c 332 below s'){b:Nat}{o:Obj}{kinds:List UInt8→Int}(hkm:KMap b o kinds){F:List (Nat×Obj)}{d:Nat}{X:World}(h:PQ c s ((b,o)::F) d X) :
 Calls prog 333 #[.agg #[.map (some b),.func (.func 332) #[] #[],.bool false],c.ptr] X (RdI c F d s.next (bU below c.E kinds false s)):=by
 have HE:=Hd he;have HB:=Hd hbl;have HM:=Hd hkm;have HP0:=Hd (h.alloc (lvO b 332 false));have hmany:=he.many;obtain⟨S,hS⟩:∃S,bU below c.E kinds false s=S:=⟨_,rfl⟩
 rw[hS];unfold bU at hS;have HS0:=Hd hS.symm;obtain⟨l0,l1,l2⟩:=HP0.out.own.lv (g:=X.heap.size) (b:=b) (fn:=332) (once:=false) (by simp);clear he hbl hkm h hS;have hmo:prog.follows .mixedOrders=true:=by kernel_rfl
 go_enter func333,ntmps333
 go_wp2_with (go_at_call 332;refine(HB.out s nlr _ _ _ HP0.out).mono ?_;rintro e w1 (⟨ps,hr,rfl,hb⟩|⟨a1,s1,hr,rfl,hn,hp⟩);(exact⟨rfl,.er (zk HS0.out hr) hb⟩);have HS1:=Hd (zj HS0.out hr);have HP1:=Hd hp;have HN1:=Hd hn;clear hr hn hp l0 l1 l2)
 go_loopw [5] (fun t5 wr=>∃(a:Int) (sk:PS) (f:Nat),t5=intV a∧Hid (S=eO below c.E kinds false f a sk)∧Hid (s.next≤sk.next∧c.E.toks.length+1≤f+sk.next)∧Hid (PQ c sk ((X.heap.size,lvO b 332 false)::(b,o)::F) d wr)) (fun _ wr=>lO c wr)
 case atStart=>exact⟨a1,s1,_,rfl,HS1,Hd ⟨HN1.out,by simp⟩,HP1⟩
 case round=>
  obtain⟨a,sk,f,rfl,HSK,HNK,HPK⟩:=hrel;have hnk:=HPK.out.next;have HML:=Hd HPK.out.meas;obtain⟨T,hT⟩:∃T,zi c.E sk=T:=⟨_,rfl⟩
  have HT:=Hd hT;have HTL:=Hd (kX HE.out sk);obtain⟨k,hk⟩:∃k,kinds T.text=k:=⟨_,rfl⟩
  have HK:=Hd hk
  have HLK:Hid (∀Z:World,PQ c sk ((X.heap.size,lvO b 332 false)::(b,o)::F) d Z→(Instr.lookup 332 (.map (some b)) (strV T.text) false).run prog (Z.alloc (tkO T))=.ok (.int .u8 k) (Z.alloc (tkO T))):=Hd (fun Z hZ=>by
   have:=HM.out.look (Z.alloc (tkO T)) T.text ((hZ.alloc (tkO T)).own (b,o) (by simp)) (by rw[←HT.out];exact HTL.out)
   rw[HK.out]at this;exact this)
  cases hz:(k==0)with
  | true=>
    have HS2:=Hd (HSK.out.trans (jA (by rw[hT,hk];exact hz)));clear hT hk
    go_wp2_with (go_at_call 241;refine(zM HE.out HPK.out HT.out).mono ?_;rintro e w2 ⟨rfl,hp⟩;have hlk:=HLK.out _ hp;have HP2:=Hd (hp.alloc (tkO T));obtain⟨l0,l1,l2⟩:=HP2.out.own.lv (g:=X.heap.size) (b:=b) (fn:=332) (once:=false) (by simp);clear hp)
    go_ret;exact .ok HS2.out HNK.out.1 HP2.out.drop.drop.drop
  | false=>
    have hlt:=fV (E:=c.E) (s:=sk) HM.out.zero (by rw[hT,hk];exact hz);obtain⟨f,rfl⟩:∃g,f=g+1:=⟨f-1,by have:=HNK.out.2;omega⟩
    have hs2:=HSK.out.trans (iF (by rw[hT,hk];exact hz));rw[hT,hk]at hs2;have HS2:=Hd hs2;clear hT hk hs2
    go_wp2_with (first
     | (go_at_call 241;refine(zM HE.out HPK.out HT.out).mono ?_;rintro e w2 ⟨rfl,hp⟩;have hlk:=HLK.out _ hp;have HP2:=Hd (hp.alloc (tkO T));obtain⟨l0,l1,l2⟩:=HP2.out.own.lv (g:=X.heap.size) (b:=b) (fn:=332) (once:=false) (by simp);obtain⟨c0,c1,c2⟩:=HP2.out.own.tk (b:=w2.heap.size) (t:=T) (by simp);clear hp)
     | (go_at_call 243;refine(iP HE.out HP2.out HT.out hlt).mono ?_;rintro e w3 ⟨rfl,hp⟩;have HP3:=Hd hp;clear hp))
    refine N.region_C [false,false,false,false,false,false,false,true,true,true,true] [?vC1_0,?vC1_1,?vC1_2,?vC1_3,?vC1_4,?vC1_5,?vC1_6,undef,undef,undef,undef] hmo (by kernel_rfl) (by kernel_rfl) (by kernel_rfl) (by kernel_rfl) rfl rfl (fun ch w=>RdI c F d s.next S (.panicked ch) w) (fun ch b w hd h=>⟨hd,h⟩) (fun Wz=>Wz.heap[w2.heap.size]?=some (tkO T)∧Wz.heap[X.heap.size]?=some (lvO b 332 false)) ⟨HP3.out.drew.own (w2.heap.size,tkO T) (by simp),HP3.out.drew.own (X.heap.size,lvO b 332 false) (by simp)⟩ ?wC1_ ?_
    case wC1_=>
     iterate 7 (refine N.WalkC.still (N.StillP.known rfl ?_) ?_;(intro W hJ;obtain⟨hj0,hj1⟩:=hJ;have j00:=za (i:=0) hj0 rfl;have j01:=za (i:=1) hj0 rfl;have j02:=za (i:=2) hj0 rfl;have j11:=za (i:=1) hj1 rfl;go_simp;rfl);simp only[N.pz])
     refine N.WalkC.chain fun u7=>?_;simp only[N.pz];refine N.WalkC.chain fun u8=>?_;simp only[N.pz];refine N.WalkC.chain fun u9=>?_;simp only[N.pz];refine N.WalkC.chain fun u10=>?_;simp only[N.pz];exact .nil
    iterate 7 (refine N.TailC.still ?_;simp only[N.pz])
    refine N.TailC.call (f:=332) (args:=#[c.ptr]) rfl ?a7 ?_;case a7=>go_simp;try rfl
    refine(HB.out sk.take (by have:=HNK.out.1;simp only[PS.take];omega) _ _ _ HP3.out.drew).mono ?_;rintro e w4 (⟨ps,hr,rfl,hb⟩|⟨a4,s4,hr,rfl,hn,hp⟩)
    ·exact .inr ⟨_,rfl,.er (zk HS2.out hr) hb⟩
    have HS4:=Hd (zj HS2.out hr);have HP4:=Hd hp;have HN4:=Hd hn;clear hp hn hr;refine .inl ⟨_,rfl,(fun _=>⟨HP4.out.own (w2.heap.size,tkO T) (by simp),HP4.out.own (X.heap.size,lvO b 332 false) (by simp)⟩),?_⟩;simp only[N.pz];refine N.TailC.run (v:=.slice (some ⟨w4.heap.size,0,none⟩) 2 2) (w':=w4.alloc (.cells #[intV a,intV a4] 3)) rfl ?a8 (fun _=>⟨(HP4.out.alloc _).drop.own (w2.heap.size,tkO T) (by simp),(HP4.out.alloc _).drop.own (X.heap.size,lvO b 332 false) (by simp)⟩) ?b8;case a8=>go_simp;try rfl
    simp only[N.pz];refine N.TailC.call (f:=316) (args:=#[c.ptr,.int .u8 k,tkA T,strV [],intV 0,.slice (some ⟨w4.heap.size,0,none⟩) 2 2]) rfl ?a9 ?_;case a9=>go_simp;try rfl
    refine(kA HE.out HP4.out k T [] 0 [a,a4] rfl).mono ?_;rintro e w5⟨rfl,hp⟩;have HP5:=Hd hp;clear hp;refine .inl ⟨_,rfl,(fun _=>⟨HP5.out.own (w2.heap.size,tkO T) (by simp),HP5.out.own (X.heap.size,lvO b 332 false) (by simp)⟩),?_⟩;simp only[N.pz];refine N.TailC.run (v:=intV s4.nodes.length) (w':=w5) rfl ?a10 (fun h=>absurd rfl h) ?b10;case a10=>go_simp;try rfl
    simp only[N.pz];refine N.TailC.nil ?_;clear l0 l1 l2 c0 c1 c2;obtain⟨l0,l1,l2⟩:=HP5.out.own.lv (g:=X.heap.size) (b:=b) (fn:=332) (once:=false) (by simp);go_wp2;have hn4:sk.next+1≤s4.next:=HN4.out
    go_roundw
    case rel=>exact⟨_,_,f,rfl,HS4,Hd ⟨by have h1:=HNK.out.1;show s.next≤s4.next;omega,by have h1:=HNK.out.2;show _≤f+s4.next;omega⟩,Hd HP5.out.drop⟩
    case measure=>rw[HP5.out.meas,HML.out];show c.E.toks.length-s4.next<_;omega
theorem QOrP{c:PC}(he:OkC c){below:RdP}{s:PS}(hbl:∀s',s.next≤s'.next→zt c 332 below s'):zt c 329 (bU below c.E orK false) s:=by
 intro F d X h;have HE:=Hd he;have HB:=Hd hbl;have HP:=Hd h;have hmm:=@run_makeMap prog;have HOW:=Hd (show OwnS (X.alloc (.map #[] 0)) X.heap.size 0 (.map [])from World.ownsMap_made X _ _ _);have HG:Hid ((X.alloc (.map #[] 0)).grownBy (X.alloc (.map #[] 0)) (some X.heap.size)):=Hd ⟨rfl,rfl,rfl,nlr,fun _ _ _=>rfl⟩;clear he hbl h;go_enter func329,ntmps329
 go_wp2_with (first
  | (refine ze _ rfl _ _ _ 332 rfl 9 5 zE dY rdV X.heap.size 0 _ rfl HOW.out (by decide) _ _ (.string wOr) rfl rfl (zO (s:=wOr) (by decide)) (.lit (.int .u8 18)) [] rfl ?_;intro w1 ho1 hg1;have HOW1:=Hd ho1;have HG1:=Hd (zr HG.out hg1);clear ho1 hg1)
  | (go_at_call 333;obtain⟨o,hp,hall⟩:=HP.out.map HG1.out HOW1.out;refine(DD HE.out HB.out (kinds:=orK) (o:=o) ⟨fun Z x hZ hx=>pL (hall Z hZ) hx (OP rfl x),rfl⟩ hp).mono ?_;rintro e w2 (⟨ps,hr,rfl,hb⟩|⟨a2,s2,hr,rfl,hn,hp2⟩);(exact⟨rfl,.er hr hb⟩);have HR:=Hd hr;have HP2:=Hd hp2;have HN:=Hd hn;clear hr hp2 hn hall hp))
 go_ret;exact .ok HR.out HN.out HP2.out
theorem AQ{c:PC}(he:OkC c){below:RdP}{s:PS}(hbl:∀s',s.next≤s'.next→zt c 334 below s'){b:Nat}{o:Obj}{kinds:List UInt8→Int}(hkm:KMap b o kinds){F:List (Nat×Obj)}{d:Nat}{X:World}(h:PQ c s ((b,o)::F) d X) :
 Calls prog 333 #[.agg #[.map (some b),.func (.func 334) #[] #[],.bool false],c.ptr] X (RdI c F d s.next (bU below c.E kinds false s)):=by
 have HE:=Hd he;have HB:=Hd hbl;have HM:=Hd hkm;have HP0:=Hd (h.alloc (lvO b 334 false));have hmany:=he.many;obtain⟨S,hS⟩:∃S,bU below c.E kinds false s=S:=⟨_,rfl⟩
 rw[hS];unfold bU at hS;have HS0:=Hd hS.symm;obtain⟨l0,l1,l2⟩:=HP0.out.own.lv (g:=X.heap.size) (b:=b) (fn:=334) (once:=false) (by simp);clear he hbl hkm h hS;have hmo:prog.follows .mixedOrders=true:=by kernel_rfl
 go_enter func333,ntmps333
 go_wp2_with (go_at_call 334;refine(HB.out s nlr _ _ _ HP0.out).mono ?_;rintro e w1 (⟨ps,hr,rfl,hb⟩|⟨a1,s1,hr,rfl,hn,hp⟩);(exact⟨rfl,.er (zk HS0.out hr) hb⟩);have HS1:=Hd (zj HS0.out hr);have HP1:=Hd hp;have HN1:=Hd hn;clear hr hn hp l0 l1 l2)
 go_loopw [5] (fun t5 wr=>∃(a:Int) (sk:PS) (f:Nat),t5=intV a∧Hid (S=eO below c.E kinds false f a sk)∧Hid (s.next≤sk.next∧c.E.toks.length+1≤f+sk.next)∧Hid (PQ c sk ((X.heap.size,lvO b 334 false)::(b,o)::F) d wr)) (fun _ wr=>lO c wr)
 case atStart=>exact⟨a1,s1,_,rfl,HS1,Hd ⟨HN1.out,by simp⟩,HP1⟩
 case round=>
  obtain⟨a,sk,f,rfl,HSK,HNK,HPK⟩:=hrel;have hnk:=HPK.out.next;have HML:=Hd HPK.out.meas;obtain⟨T,hT⟩:∃T,zi c.E sk=T:=⟨_,rfl⟩
  have HT:=Hd hT;have HTL:=Hd (kX HE.out sk);obtain⟨k,hk⟩:∃k,kinds T.text=k:=⟨_,rfl⟩
  have HK:=Hd hk
  have HLK:Hid (∀Z:World,PQ c sk ((X.heap.size,lvO b 334 false)::(b,o)::F) d Z→(Instr.lookup 332 (.map (some b)) (strV T.text) false).run prog (Z.alloc (tkO T))=.ok (.int .u8 k) (Z.alloc (tkO T))):=Hd (fun Z hZ=>by
   have:=HM.out.look (Z.alloc (tkO T)) T.text ((hZ.alloc (tkO T)).own (b,o) (by simp)) (by rw[←HT.out];exact HTL.out)
   rw[HK.out]at this;exact this)
  cases hz:(k==0)with
  | true=>
    have HS2:=Hd (HSK.out.trans (jA (by rw[hT,hk];exact hz)));clear hT hk
    go_wp2_with (go_at_call 241;refine(zM HE.out HPK.out HT.out).mono ?_;rintro e w2 ⟨rfl,hp⟩;have hlk:=HLK.out _ hp;have HP2:=Hd (hp.alloc (tkO T));obtain⟨l0,l1,l2⟩:=HP2.out.own.lv (g:=X.heap.size) (b:=b) (fn:=334) (once:=false) (by simp);clear hp)
    go_ret;exact .ok HS2.out HNK.out.1 HP2.out.drop.drop.drop
  | false=>
    have hlt:=fV (E:=c.E) (s:=sk) HM.out.zero (by rw[hT,hk];exact hz);obtain⟨f,rfl⟩:∃g,f=g+1:=⟨f-1,by have:=HNK.out.2;omega⟩
    have hs2:=HSK.out.trans (iF (by rw[hT,hk];exact hz));rw[hT,hk]at hs2;have HS2:=Hd hs2;clear hT hk hs2
    go_wp2_with (first
     | (go_at_call 241;refine(zM HE.out HPK.out HT.out).mono ?_;rintro e w2 ⟨rfl,hp⟩;have hlk:=HLK.out _ hp;have HP2:=Hd (hp.alloc (tkO T));obtain⟨l0,l1,l2⟩:=HP2.out.own.lv (g:=X.heap.size) (b:=b) (fn:=334) (once:=false) (by simp);obtain⟨c0,c1,c2⟩:=HP2.out.own.tk (b:=w2.heap.size) (t:=T) (by simp);clear hp)
     | (go_at_call 243;refine(iP HE.out HP2.out HT.out hlt).mono ?_;rintro e w3 ⟨rfl,hp⟩;have HP3:=Hd hp;clear hp))
    refine N.region_C [false,false,false,false,false,false,false,true,true,true,true] [?vC2_0,?vC2_1,?vC2_2,?vC2_3,?vC2_4,?vC2_5,?vC2_6,undef,undef,undef,undef] hmo (by kernel_rfl) (by kernel_rfl) (by kernel_rfl) (by kernel_rfl) rfl rfl (fun ch w=>RdI c F d s.next S (.panicked ch) w) (fun ch b w hd h=>⟨hd,h⟩) (fun Wz=>Wz.heap[w2.heap.size]?=some (tkO T)∧Wz.heap[X.heap.size]?=some (lvO b 334 false)) ⟨HP3.out.drew.own (w2.heap.size,tkO T) (by simp),HP3.out.drew.own (X.heap.size,lvO b 334 false) (by simp)⟩ ?wC2_ ?_
    case wC2_=>
     iterate 7 (refine N.WalkC.still (N.StillP.known rfl ?_) ?_;(intro W hJ;obtain⟨hj0,hj1⟩:=hJ;have j00:=za (i:=0) hj0 rfl;have j01:=za (i:=1) hj0 rfl;have j02:=za (i:=2) hj0 rfl;have j11:=za (i:=1) hj1 rfl;go_simp;rfl);simp only[N.pz])
     refine N.WalkC.chain fun u7=>?_;simp only[N.pz];refine N.WalkC.chain fun u8=>?_;simp only[N.pz];refine N.WalkC.chain fun u9=>?_;simp only[N.pz];refine N.WalkC.chain fun u10=>?_;simp only[N.pz];exact .nil
    iterate 7 (refine N.TailC.still ?_;simp only[N.pz])
    refine N.TailC.call (f:=334) (args:=#[c.ptr]) rfl ?a7 ?_;case a7=>go_simp;try rfl
    refine(HB.out sk.take (by have:=HNK.out.1;simp only[PS.take];omega) _ _ _ HP3.out.drew).mono ?_;rintro e w4 (⟨ps,hr,rfl,hb⟩|⟨a4,s4,hr,rfl,hn,hp⟩)
    ·exact .inr ⟨_,rfl,.er (zk HS2.out hr) hb⟩
    have HS4:=Hd (zj HS2.out hr);have HP4:=Hd hp;have HN4:=Hd hn;clear hp hn hr;refine .inl ⟨_,rfl,(fun _=>⟨HP4.out.own (w2.heap.size,tkO T) (by simp),HP4.out.own (X.heap.size,lvO b 334 false) (by simp)⟩),?_⟩;simp only[N.pz];refine N.TailC.run (v:=.slice (some ⟨w4.heap.size,0,none⟩) 2 2) (w':=w4.alloc (.cells #[intV a,intV a4] 3)) rfl ?a8 (fun _=>⟨(HP4.out.alloc _).drop.own (w2.heap.size,tkO T) (by simp),(HP4.out.alloc _).drop.own (X.heap.size,lvO b 334 false) (by simp)⟩) ?b8;case a8=>go_simp;try rfl
    simp only[N.pz];refine N.TailC.call (f:=316) (args:=#[c.ptr,.int .u8 k,tkA T,strV [],intV 0,.slice (some ⟨w4.heap.size,0,none⟩) 2 2]) rfl ?a9 ?_;case a9=>go_simp;try rfl
    refine(kA HE.out HP4.out k T [] 0 [a,a4] rfl).mono ?_;rintro e w5⟨rfl,hp⟩;have HP5:=Hd hp;clear hp;refine .inl ⟨_,rfl,(fun _=>⟨HP5.out.own (w2.heap.size,tkO T) (by simp),HP5.out.own (X.heap.size,lvO b 334 false) (by simp)⟩),?_⟩;simp only[N.pz];refine N.TailC.run (v:=intV s4.nodes.length) (w':=w5) rfl ?a10 (fun h=>absurd rfl h) ?b10;case a10=>go_simp;try rfl
    simp only[N.pz];refine N.TailC.nil ?_;clear l0 l1 l2 c0 c1 c2;obtain⟨l0,l1,l2⟩:=HP5.out.own.lv (g:=X.heap.size) (b:=b) (fn:=334) (once:=false) (by simp);go_wp2;have hn4:sk.next+1≤s4.next:=HN4.out
    go_roundw
    case rel=>exact⟨_,_,f,rfl,HS4,Hd ⟨by have h1:=HNK.out.1;show s.next≤s4.next;omega,by have h1:=HNK.out.2;show _≤f+s4.next;omega⟩,Hd HP5.out.drop⟩
    case measure=>rw[HP5.out.meas,HML.out];show c.E.toks.length-s4.next<_;omega
theorem OH{c:PC}(he:OkC c){below:RdP}{s:PS}(hbl:∀s',s.next≤s'.next→zt c 334 below s'):zt c 332 (bU below c.E andK false) s:=by
 intro F d X h;have HE:=Hd he;have HB:=Hd hbl;have HP:=Hd h;have hmm:=@run_makeMap prog;have HOW:=Hd (show OwnS (X.alloc (.map #[] 0)) X.heap.size 0 (.map [])from World.ownsMap_made X _ _ _);have HG:Hid ((X.alloc (.map #[] 0)).grownBy (X.alloc (.map #[] 0)) (some X.heap.size)):=Hd ⟨rfl,rfl,rfl,nlr,fun _ _ _=>rfl⟩;clear he hbl h;go_enter func332,ntmps332
 go_wp2_with (first
  | (refine ze _ rfl _ _ _ 332 rfl 9 5 zE dY rdV X.heap.size 0 _ rfl HOW.out (by decide) _ _ (.string wAnd) rfl rfl (zO (s:=wAnd) (by decide)) (.lit (.int .u8 17)) [] rfl ?_;intro w1 ho1 hg1;have HOW1:=Hd ho1;have HG1:=Hd (zr HG.out hg1);clear ho1 hg1)
  | (go_at_call 333;obtain⟨o,hp,hall⟩:=HP.out.map HG1.out HOW1.out;refine(AQ HE.out HB.out (kinds:=andK) (o:=o) ⟨fun Z x hZ hx=>pL (hall Z hZ) hx (NQ rfl x),rfl⟩ hp).mono ?_;rintro e w2 (⟨ps,hr,rfl,hb⟩|⟨a2,s2,hr,rfl,hn,hp2⟩);(exact⟨rfl,.er hr hb⟩);have HR:=Hd hr;have HP2:=Hd hp2;have HN:=Hd hn;clear hr hp2 hn hall hp))
 go_ret;exact .ok HR.out HN.out HP2.out
theorem AR{c:PC}(he:OkC c){below:RdP}{s:PS}(hbl:∀s',s.next≤s'.next→zt c 336 below s'){b:Nat}{o:Obj}{kinds:List UInt8→Int}(hkm:KMap b o kinds){F:List (Nat×Obj)}{d:Nat}{X:World}(h:PQ c s ((b,o)::F) d X) :
 Calls prog 333 #[.agg #[.map (some b),.func (.func 336) #[] #[],.bool true],c.ptr] X (RdI c F d s.next (bU below c.E kinds true s)):=by
 have HE:=Hd he;have HB:=Hd hbl;have HM:=Hd hkm;have HP0:=Hd (h.alloc (lvO b 336 true));have hmany:=he.many;obtain⟨S,hS⟩:∃S,bU below c.E kinds true s=S:=⟨_,rfl⟩
 rw[hS];unfold bU at hS;have HS0:=Hd hS.symm;obtain⟨l0,l1,l2⟩:=HP0.out.own.lv (g:=X.heap.size) (b:=b) (fn:=336) (once:=true) (by simp);clear he hbl hkm h hS;have hmo:prog.follows .mixedOrders=true:=by kernel_rfl
 go_enter func333,ntmps333
 go_wp2_with (go_at_call 336;refine(HB.out s nlr _ _ _ HP0.out).mono ?_;rintro e w1 (⟨ps,hr,rfl,hb⟩|⟨a1,s1,hr,rfl,hn,hp⟩);(exact⟨rfl,.er (zk HS0.out hr) hb⟩);have HS1:=Hd (zj HS0.out hr);have HP1:=Hd hp;have HN1:=Hd hn;clear hr hn hp l0 l1 l2)
 go_loopw [5] (fun t5 wr=>∃(a:Int) (sk:PS) (f:Nat),t5=intV a∧Hid (S=eO below c.E kinds true f a sk)∧Hid (s.next≤sk.next∧c.E.toks.length+1≤f+sk.next)∧Hid (PQ c sk ((X.heap.size,lvO b 336 true)::(b,o)::F) d wr)) (fun _ wr=>lO c wr)
 case atStart=>exact⟨a1,s1,_,rfl,HS1,Hd ⟨HN1.out,by simp⟩,HP1⟩
 case round=>
  obtain⟨a,sk,f,rfl,HSK,HNK,HPK⟩:=hrel;have hnk:=HPK.out.next;have HML:=Hd HPK.out.meas;obtain⟨T,hT⟩:∃T,zi c.E sk=T:=⟨_,rfl⟩
  have HT:=Hd hT;have HTL:=Hd (kX HE.out sk);obtain⟨k,hk⟩:∃k,kinds T.text=k:=⟨_,rfl⟩
  have HK:=Hd hk
  have HLK:Hid (∀Z:World,PQ c sk ((X.heap.size,lvO b 336 true)::(b,o)::F) d Z→(Instr.lookup 332 (.map (some b)) (strV T.text) false).run prog (Z.alloc (tkO T))=.ok (.int .u8 k) (Z.alloc (tkO T))):=Hd (fun Z hZ=>by
   have:=HM.out.look (Z.alloc (tkO T)) T.text ((hZ.alloc (tkO T)).own (b,o) (by simp)) (by rw[←HT.out];exact HTL.out)
   rw[HK.out]at this;exact this)
  cases hz:(k==0)with
  | true=>
    have HS2:=Hd (HSK.out.trans (jA (by rw[hT,hk];exact hz)));clear hT hk
    go_wp2_with (go_at_call 241;refine(zM HE.out HPK.out HT.out).mono ?_;rintro e w2 ⟨rfl,hp⟩;have hlk:=HLK.out _ hp;have HP2:=Hd (hp.alloc (tkO T));obtain⟨l0,l1,l2⟩:=HP2.out.own.lv (g:=X.heap.size) (b:=b) (fn:=336) (once:=true) (by simp);clear hp)
    go_ret;exact .ok HS2.out HNK.out.1 HP2.out.drop.drop.drop
  | false=>
    have hlt:=fV (E:=c.E) (s:=sk) HM.out.zero (by rw[hT,hk];exact hz);obtain⟨f,rfl⟩:∃g,f=g+1:=⟨f-1,by have:=HNK.out.2;omega⟩
    have hs2:=HSK.out.trans (xF (by rw[hT,hk];exact hz));rw[hT,hk]at hs2;have HS2:=Hd hs2;clear hT hk hs2
    go_wp2_with (first
     | (go_at_call 241;refine(zM HE.out HPK.out HT.out).mono ?_;rintro e w2 ⟨rfl,hp⟩;have hlk:=HLK.out _ hp;have HP2:=Hd (hp.alloc (tkO T));obtain⟨l0,l1,l2⟩:=HP2.out.own.lv (g:=X.heap.size) (b:=b) (fn:=336) (once:=true) (by simp);obtain⟨c0,c1,c2⟩:=HP2.out.own.tk (b:=w2.heap.size) (t:=T) (by simp);clear hp)
     | (go_at_call 243;refine(iP HE.out HP2.out HT.out hlt).mono ?_;rintro e w3 ⟨rfl,hp⟩;have HP3:=Hd hp;clear hp))
    refine N.region_C [false,false,false,false,false,false,false,true,true,true,true] [?vC3_0,?vC3_1,?vC3_2,?vC3_3,?vC3_4,?vC3_5,?vC3_6,undef,undef,undef,undef] hmo (by kernel_rfl) (by kernel_rfl) (by kernel_rfl) (by kernel_rfl) rfl rfl (fun ch w=>RdI c F d s.next S (.panicked ch) w) (fun ch b w hd h=>⟨hd,h⟩) (fun Wz=>Wz.heap[w2.heap.size]?=some (tkO T)∧Wz.heap[X.heap.size]?=some (lvO b 336 true)) ⟨HP3.out.drew.own (w2.heap.size,tkO T) (by simp),HP3.out.drew.own (X.heap.size,lvO b 336 true) (by simp)⟩ ?wC3_ ?_
    case wC3_=>
     iterate 7 (refine N.WalkC.still (N.StillP.known rfl ?_) ?_;(intro W hJ;obtain⟨hj0,hj1⟩:=hJ;have j00:=za (i:=0) hj0 rfl;have j01:=za (i:=1) hj0 rfl;have j02:=za (i:=2) hj0 rfl;have j11:=za (i:=1) hj1 rfl;go_simp;rfl);simp only[N.pz])
     refine N.WalkC.chain fun u7=>?_;simp only[N.pz];refine N.WalkC.chain fun u8=>?_;simp only[N.pz];refine N.WalkC.chain fun u9=>?_;simp only[N.pz];refine N.WalkC.chain fun u10=>?_;simp only[N.pz];exact .nil
    iterate 7 (refine N.TailC.still ?_;simp only[N.pz])
    refine N.TailC.call (f:=336) (args:=#[c.ptr]) rfl ?a7 ?_;case a7=>go_simp;try rfl
    refine(HB.out sk.take (by have:=HNK.out.1;simp only[PS.take];omega) _ _ _ HP3.out.drew).mono ?_;rintro e w4 (⟨ps,hr,rfl,hb⟩|⟨a4,s4,hr,rfl,hn,hp⟩)
    ·exact .inr ⟨_,rfl,.er (zk HS2.out hr) hb⟩
    have HS4:=Hd (zj HS2.out hr);have HP4:=Hd hp;have HN4:=Hd hn;clear hp hn hr;refine .inl ⟨_,rfl,(fun _=>⟨HP4.out.own (w2.heap.size,tkO T) (by simp),HP4.out.own (X.heap.size,lvO b 336 true) (by simp)⟩),?_⟩;simp only[N.pz];refine N.TailC.run (v:=.slice (some ⟨w4.heap.size,0,none⟩) 2 2) (w':=w4.alloc (.cells #[intV a,intV a4] 3)) rfl ?a8 (fun _=>⟨(HP4.out.alloc _).drop.own (w2.heap.size,tkO T) (by simp),(HP4.out.alloc _).drop.own (X.heap.size,lvO b 336 true) (by simp)⟩) ?b8;case a8=>go_simp;try rfl
    simp only[N.pz];refine N.TailC.call (f:=316) (args:=#[c.ptr,.int .u8 k,tkA T,strV [],intV 0,.slice (some ⟨w4.heap.size,0,none⟩) 2 2]) rfl ?a9 ?_;case a9=>go_simp;try rfl
    refine(kA HE.out HP4.out k T [] 0 [a,a4] rfl).mono ?_;rintro e w5⟨rfl,hp⟩;have HP5:=Hd hp;clear hp;refine .inl ⟨_,rfl,(fun _=>⟨HP5.out.own (w2.heap.size,tkO T) (by simp),HP5.out.own (X.heap.size,lvO b 336 true) (by simp)⟩),?_⟩;simp only[N.pz];refine N.TailC.run (v:=intV s4.nodes.length) (w':=w5) rfl ?a10 (fun h=>absurd rfl h) ?b10;case a10=>go_simp;try rfl
    simp only[N.pz];refine N.TailC.nil ?_;clear l0 l1 l2 c0 c1 c2;obtain⟨l0,l1,l2⟩:=HP5.out.own.lv (g:=X.heap.size) (b:=b) (fn:=336) (once:=true) (by simp);go_wp2;go_ret;exact .ok HS4.out (by have h1:=HNK.out.1;have h2:=HN4.out;simp only[PS.take]at h2;show s.next≤s4.next;omega) HP5.out.drop.drop.drop
theorem OJ{c:PC}(he:OkC c){below:RdP}{s:PS}(hbl:∀s',s.next≤s'.next→zt c 336 below s'):zt c 335 (bU below c.E cmpK true) s:=by
 intro F d X h;have HE:=Hd he;have HB:=Hd hbl;have HP:=Hd h;have hmm:=@run_makeMap prog;have HOW:=Hd (show OwnS (X.alloc (.map #[] 0)) X.heap.size 0 (.map [])from World.ownsMap_made X _ _ _);have HG:Hid ((X.alloc (.map #[] 0)).grownBy (X.alloc (.map #[] 0)) (some X.heap.size)):=Hd ⟨rfl,rfl,rfl,nlr,fun _ _ _=>rfl⟩;clear he hbl h;go_enter func335,ntmps335
 go_wp2_with (first
  | (refine ze _ rfl _ _ _ 332 rfl 9 5 zE dY rdV X.heap.size 5 _ rfl HOW5.out (by decide) _ _ (.string [62,61]) rfl rfl (zO (s:=[62,61]) (by decide)) (.lit (.int .u8 16)) [] rfl ?_;intro w6 ho6 hg6;have HOW6:=Hd ho6;have HG6:=Hd (zr HG5.out hg6);clear ho6 hg6)
  | (refine ze _ rfl _ _ _ 332 rfl 9 5 zE dY rdV X.heap.size 4 _ rfl HOW4.out (by decide) _ _ (.string [62]) rfl rfl (zO (s:=[62]) (by decide)) (.lit (.int .u8 15)) [] rfl ?_;intro w5 ho5 hg5;have HOW5:=Hd ho5;have HG5:=Hd (zr HG4.out hg5);clear ho5 hg5)
  | (refine ze _ rfl _ _ _ 332 rfl 9 5 zE dY rdV X.heap.size 3 _ rfl HOW3.out (by decide) _ _ (.string [60,61]) rfl rfl (zO (s:=[60,61]) (by decide)) (.lit (.int .u8 14)) [] rfl ?_;intro w4 ho4 hg4;have HOW4:=Hd ho4;have HG4:=Hd (zr HG3.out hg4);clear ho4 hg4)
  | (refine ze _ rfl _ _ _ 332 rfl 9 5 zE dY rdV X.heap.size 2 _ rfl HOW2.out (by decide) _ _ (.string [60]) rfl rfl (zO (s:=[60]) (by decide)) (.lit (.int .u8 13)) [] rfl ?_;intro w3 ho3 hg3;have HOW3:=Hd ho3;have HG3:=Hd (zr HG2.out hg3);clear ho3 hg3)
  | (refine ze _ rfl _ _ _ 332 rfl 9 5 zE dY rdV X.heap.size 1 _ rfl HOW1.out (by decide) _ _ (.string [33,61]) rfl rfl (zO (s:=[33,61]) (by decide)) (.lit (.int .u8 12)) [] rfl ?_;intro w2 ho2 hg2;have HOW2:=Hd ho2;have HG2:=Hd (zr HG1.out hg2);clear ho2 hg2)
  | (refine ze _ rfl _ _ _ 332 rfl 9 5 zE dY rdV X.heap.size 0 _ rfl HOW.out (by decide) _ _ (.string [61,61]) rfl rfl (zO (s:=[61,61]) (by decide)) (.lit (.int .u8 11)) [] rfl ?_;intro w1 ho1 hg1;have HOW1:=Hd ho1;have HG1:=Hd (zr HG.out hg1);clear ho1 hg1)
  | (go_at_call 333;obtain⟨o,hp,hall⟩:=HP.out.map HG6.out HOW6.out;refine(AR HE.out HB.out (kinds:=cmpK) (o:=o) ⟨fun Z x hZ hx=>pL (hall Z hZ) hx (NR rfl x),rfl⟩ hp).mono ?_;rintro e w2 (⟨ps,hr,rfl,hb⟩|⟨a2,s2,hr,rfl,hn,hp2⟩);(exact⟨rfl,.er hr hb⟩);have HR:=Hd hr;have HP2:=Hd hp2;have HN:=Hd hn;clear hr hp2 hn hall hp))
 go_ret;exact .ok HR.out HN.out HP2.out
theorem AS{c:PC}(he:OkC c){below:RdP}{s:PS}(hbl:∀s',s.next≤s'.next→zt c 337 below s'){b:Nat}{o:Obj}{kinds:List UInt8→Int}(hkm:KMap b o kinds){F:List (Nat×Obj)}{d:Nat}{X:World}(h:PQ c s ((b,o)::F) d X) :
 Calls prog 333 #[.agg #[.map (some b),.func (.func 337) #[] #[],.bool false],c.ptr] X (RdI c F d s.next (bU below c.E kinds false s)):=by
 have HE:=Hd he;have HB:=Hd hbl;have HM:=Hd hkm;have HP0:=Hd (h.alloc (lvO b 337 false));have hmany:=he.many;obtain⟨S,hS⟩:∃S,bU below c.E kinds false s=S:=⟨_,rfl⟩
 rw[hS];unfold bU at hS;have HS0:=Hd hS.symm;obtain⟨l0,l1,l2⟩:=HP0.out.own.lv (g:=X.heap.size) (b:=b) (fn:=337) (once:=false) (by simp);clear he hbl hkm h hS;have hmo:prog.follows .mixedOrders=true:=by kernel_rfl
 go_enter func333,ntmps333
 go_wp2_with (go_at_call 337;refine(HB.out s nlr _ _ _ HP0.out).mono ?_;rintro e w1 (⟨ps,hr,rfl,hb⟩|⟨a1,s1,hr,rfl,hn,hp⟩);(exact⟨rfl,.er (zk HS0.out hr) hb⟩);have HS1:=Hd (zj HS0.out hr);have HP1:=Hd hp;have HN1:=Hd hn;clear hr hn hp l0 l1 l2)
 go_loopw [5] (fun t5 wr=>∃(a:Int) (sk:PS) (f:Nat),t5=intV a∧Hid (S=eO below c.E kinds false f a sk)∧Hid (s.next≤sk.next∧c.E.toks.length+1≤f+sk.next)∧Hid (PQ c sk ((X.heap.size,lvO b 337 false)::(b,o)::F) d wr)) (fun _ wr=>lO c wr)
 case atStart=>exact⟨a1,s1,_,rfl,HS1,Hd ⟨HN1.out,by simp⟩,HP1⟩
 case round=>
  obtain⟨a,sk,f,rfl,HSK,HNK,HPK⟩:=hrel;have hnk:=HPK.out.next;have HML:=Hd HPK.out.meas;obtain⟨T,hT⟩:∃T,zi c.E sk=T:=⟨_,rfl⟩
  have HT:=Hd hT;have HTL:=Hd (kX HE.out sk);obtain⟨k,hk⟩:∃k,kinds T.text=k:=⟨_,rfl⟩
  have HK:=Hd hk
  have HLK:Hid (∀Z:World,PQ c sk ((X.heap.size,lvO b 337 false)::(b,o)::F) d Z→(Instr.lookup 332 (.map (some b)) (strV T.text) false).run prog (Z.alloc (tkO T))=.ok (.int .u8 k) (Z.alloc (tkO T))):=Hd (fun Z hZ=>by
   have:=HM.out.look (Z.alloc (tkO T)) T.text ((hZ.alloc (tkO T)).own (b,o) (by simp)) (by rw[←HT.out];exact HTL.out)
   rw[HK.out]at this;exact this)
  cases hz:(k==0)with
  | true=>
    have HS2:=Hd (HSK.out.trans (jA (by rw[hT,hk];exact hz)));clear hT hk
    go_wp2_with (go_at_call 241;refine(zM HE.out HPK.out HT.out).mono ?_;rintro e w2 ⟨rfl,hp⟩;have hlk:=HLK.out _ hp;have HP2:=Hd (hp.alloc (tkO T));obtain⟨l0,l1,l2⟩:=HP2.out.own.lv (g:=X.heap.size) (b:=b) (fn:=337) (once:=false) (by simp);clear hp)
    go_ret;exact .ok HS2.out HNK.out.1 HP2.out.drop.drop.drop
  | false=>
    have hlt:=fV (E:=c.E) (s:=sk) HM.out.zero (by rw[hT,hk];exact hz);obtain⟨f,rfl⟩:∃g,f=g+1:=⟨f-1,by have:=HNK.out.2;omega⟩
    have hs2:=HSK.out.trans (iF (by rw[hT,hk];exact hz));rw[hT,hk]at hs2;have HS2:=Hd hs2;clear hT hk hs2
    go_wp2_with (first
     | (go_at_call 241;refine(zM HE.out HPK.out HT.out).mono ?_;rintro e w2 ⟨rfl,hp⟩;have hlk:=HLK.out _ hp;have HP2:=Hd (hp.alloc (tkO T));obtain⟨l0,l1,l2⟩:=HP2.out.own.lv (g:=X.heap.size) (b:=b) (fn:=337) (once:=false) (by simp);obtain⟨c0,c1,c2⟩:=HP2.out.own.tk (b:=w2.heap.size) (t:=T) (by simp);clear hp)
     | (go_at_call 243;refine(iP HE.out HP2.out HT.out hlt).mono ?_;rintro e w3 ⟨rfl,hp⟩;have HP3:=Hd hp;clear hp))
    refine N.region_C [false,false,false,false,false,false,false,true,true,true,true] [?vC4_0,?vC4_1,?vC4_2,?vC4_3,?vC4_4,?vC4_5,?vC4_6,undef,undef,undef,undef] hmo (by kernel_rfl) (by kernel_rfl) (by kernel_rfl) (by kernel_rfl) rfl rfl (fun ch w=>RdI c F d s.next S (.panicked ch) w) (fun ch b w hd h=>⟨hd,h⟩) (fun Wz=>Wz.heap[w2.heap.size]?=some (tkO T)∧Wz.heap[X.heap.size]?=some (lvO b 337 false)) ⟨HP3.out.drew.own (w2.heap.size,tkO T) (by simp),HP3.out.drew.own (X.heap.size,lvO b 337 false) (by simp)⟩ ?wC4_ ?_
    case wC4_=>
     iterate 7 (refine N.WalkC.still (N.StillP.known rfl ?_) ?_;(intro W hJ;obtain⟨hj0,hj1⟩:=hJ;have j00:=za (i:=0) hj0 rfl;have j01:=za (i:=1) hj0 rfl;have j02:=za (i:=2) hj0 rfl;have j11:=za (i:=1) hj1 rfl;go_simp;rfl);simp only[N.pz])
     refine N.WalkC.chain fun u7=>?_;simp only[N.pz];refine N.WalkC.chain fun u8=>?_;simp only[N.pz];refine N.WalkC.chain fun u9=>?_;simp only[N.pz];refine N.WalkC.chain fun u10=>?_;simp only[N.pz];exact .nil
    iterate 7 (refine N.TailC.still ?_;simp only[N.pz])
    refine N.TailC.call (f:=337) (args:=#[c.ptr]) rfl ?a7 ?_;case a7=>go_simp;try rfl
    refine(HB.out sk.take (by have:=HNK.out.1;simp only[PS.take];omega) _ _ _ HP3.out.drew).mono ?_;rintro e w4 (⟨ps,hr,rfl,hb⟩|⟨a4,s4,hr,rfl,hn,hp⟩)
    ·exact .inr ⟨_,rfl,.er (zk HS2.out hr) hb⟩
    have HS4:=Hd (zj HS2.out hr);have HP4:=Hd hp;have HN4:=Hd hn;clear hp hn hr;refine .inl ⟨_,rfl,(fun _=>⟨HP4.out.own (w2.heap.size,tkO T) (by simp),HP4.out.own (X.heap.size,lvO b 337 false) (by simp)⟩),?_⟩;simp only[N.pz];refine N.TailC.run (v:=.slice (some ⟨w4.heap.size,0,none⟩) 2 2) (w':=w4.alloc (.cells #[intV a,intV a4] 3)) rfl ?a8 (fun _=>⟨(HP4.out.alloc _).drop.own (w2.heap.size,tkO T) (by simp),(HP4.out.alloc _).drop.own (X.heap.size,lvO b 337 false) (by simp)⟩) ?b8;case a8=>go_simp;try rfl
    simp only[N.pz];refine N.TailC.call (f:=316) (args:=#[c.ptr,.int .u8 k,tkA T,strV [],intV 0,.slice (some ⟨w4.heap.size,0,none⟩) 2 2]) rfl ?a9 ?_;case a9=>go_simp;try rfl
    refine(kA HE.out HP4.out k T [] 0 [a,a4] rfl).mono ?_;rintro e w5⟨rfl,hp⟩;have HP5:=Hd hp;clear hp;refine .inl ⟨_,rfl,(fun _=>⟨HP5.out.own (w2.heap.size,tkO T) (by simp),HP5.out.own (X.heap.size,lvO b 337 false) (by simp)⟩),?_⟩;simp only[N.pz];refine N.TailC.run (v:=intV s4.nodes.length) (w':=w5) rfl ?a10 (fun h=>absurd rfl h) ?b10;case a10=>go_simp;try rfl
    simp only[N.pz];refine N.TailC.nil ?_;clear l0 l1 l2 c0 c1 c2;obtain⟨l0,l1,l2⟩:=HP5.out.own.lv (g:=X.heap.size) (b:=b) (fn:=337) (once:=false) (by simp);go_wp2;have hn4:sk.next+1≤s4.next:=HN4.out
    go_roundw
    case rel=>exact⟨_,_,f,rfl,HS4,Hd ⟨by have h1:=HNK.out.1;show s.next≤s4.next;omega,by have h1:=HNK.out.2;show _≤f+s4.next;omega⟩,Hd HP5.out.drop⟩
    case measure=>rw[HP5.out.meas,HML.out];show c.E.toks.length-s4.next<_;omega
theorem ON{c:PC}(he:OkC c){below:RdP}{s:PS}(hbl:∀s',s.next≤s'.next→zt c 337 below s'):zt c 336 (bU below c.E sumK false) s:=by
 intro F d X h;have HE:=Hd he;have HB:=Hd hbl;have HP:=Hd h;have hmm:=@run_makeMap prog;have HOW:=Hd (show OwnS (X.alloc (.map #[] 0)) X.heap.size 0 (.map [])from World.ownsMap_made X _ _ _);have HG:Hid ((X.alloc (.map #[] 0)).grownBy (X.alloc (.map #[] 0)) (some X.heap.size)):=Hd ⟨rfl,rfl,rfl,nlr,fun _ _ _=>rfl⟩;clear he hbl h;go_enter func336,ntmps336
 go_wp2_with (first
  | (refine ze _ rfl _ _ _ 332 rfl 9 5 zE dY rdV X.heap.size 1 _ rfl HOW1.out (by decide) _ _ (.string [45]) rfl rfl (zO (s:=[45]) (by decide)) (.lit (.int .u8 7)) [] rfl ?_;intro w2 ho2 hg2;have HOW2:=Hd ho2;have HG2:=Hd (zr HG1.out hg2);clear ho2 hg2)
  | (refine ze _ rfl _ _ _ 332 rfl 9 5 zE dY rdV X.heap.size 0 _ rfl HOW.out (by decide) _ _ (.string [43]) rfl rfl (zO (s:=[43]) (by decide)) (.lit (.int .u8 6)) [] rfl ?_;intro w1 ho1 hg1;have HOW1:=Hd ho1;have HG1:=Hd (zr HG.out hg1);clear ho1 hg1)
  | (go_at_call 333;obtain⟨o,hp,hall⟩:=HP.out.map HG2.out HOW2.out;refine(AS HE.out HB.out (kinds:=sumK) (o:=o) ⟨fun Z x hZ hx=>pL (hall Z hZ) hx (NU rfl x),rfl⟩ hp).mono ?_;rintro e w2 (⟨ps,hr,rfl,hb⟩|⟨a2,s2,hr,rfl,hn,hp2⟩);(exact⟨rfl,.er hr hb⟩);have HR:=Hd hr;have HP2:=Hd hp2;have HN:=Hd hn;clear hr hp2 hn hall hp))
 go_ret;exact .ok HR.out HN.out HP2.out
theorem wP{c:PC}(he:OkC c){below:RdP}{s:PS}(hbl:∀s',s.next≤s'.next→zt c 338 below s'){b:Nat}{o:Obj}{kinds:List UInt8→Int}(hkm:KMap b o kinds){F:List (Nat×Obj)}{d:Nat}{X:World}(h:PQ c s ((b,o)::F) d X) :
 Calls prog 333 #[.agg #[.map (some b),.func (.func 338) #[] #[],.bool false],c.ptr] X (RdI c F d s.next (bU below c.E kinds false s)):=by
 have HE:=Hd he;have HB:=Hd hbl;have HM:=Hd hkm;have HP0:=Hd (h.alloc (lvO b 338 false));have hmany:=he.many;obtain⟨S,hS⟩:∃S,bU below c.E kinds false s=S:=⟨_,rfl⟩
 rw[hS];unfold bU at hS;have HS0:=Hd hS.symm;obtain⟨l0,l1,l2⟩:=HP0.out.own.lv (g:=X.heap.size) (b:=b) (fn:=338) (once:=false) (by simp);clear he hbl hkm h hS;have hmo:prog.follows .mixedOrders=true:=by kernel_rfl
 go_enter func333,ntmps333
 go_wp2_with (go_at_call 338;refine(HB.out s nlr _ _ _ HP0.out).mono ?_;rintro e w1 (⟨ps,hr,rfl,hb⟩|⟨a1,s1,hr,rfl,hn,hp⟩);(exact⟨rfl,.er (zk HS0.out hr) hb⟩);have HS1:=Hd (zj HS0.out hr);have HP1:=Hd hp;have HN1:=Hd hn;clear hr hn hp l0 l1 l2)
 go_loopw [5] (fun t5 wr=>∃(a:Int) (sk:PS) (f:Nat),t5=intV a∧Hid (S=eO below c.E kinds false f a sk)∧Hid (s.next≤sk.next∧c.E.toks.length+1≤f+sk.next)∧Hid (PQ c sk ((X.heap.size,lvO b 338 false)::(b,o)::F) d wr)) (fun _ wr=>lO c wr)
 case atStart=>exact⟨a1,s1,_,rfl,HS1,Hd ⟨HN1.out,by simp⟩,HP1⟩
 case round=>
  obtain⟨a,sk,f,rfl,HSK,HNK,HPK⟩:=hrel;have hnk:=HPK.out.next;have HML:=Hd HPK.out.meas;obtain⟨T,hT⟩:∃T,zi c.E sk=T:=⟨_,rfl⟩
  have HT:=Hd hT;have HTL:=Hd (kX HE.out sk);obtain⟨k,hk⟩:∃k,kinds T.text=k:=⟨_,rfl⟩
  have HK:=Hd hk
  have HLK:Hid (∀Z:World,PQ c sk ((X.heap.size,lvO b 338 false)::(b,o)::F) d Z→(Instr.lookup 332 (.map (some b)) (strV T.text) false).run prog (Z.alloc (tkO T))=.ok (.int .u8 k) (Z.alloc (tkO T))):=Hd (fun Z hZ=>by
   have:=HM.out.look (Z.alloc (tkO T)) T.text ((hZ.alloc (tkO T)).own (b,o) (by simp)) (by rw[←HT.out];exact HTL.out)
   rw[HK.out]at this;exact this)
  cases hz:(k==0)with
  | true=>
    have HS2:=Hd (HSK.out.trans (jA (by rw[hT,hk];exact hz)));clear hT hk
    go_wp2_with (go_at_call 241;refine(zM HE.out HPK.out HT.out).mono ?_;rintro e w2 ⟨rfl,hp⟩;have hlk:=HLK.out _ hp;have HP2:=Hd (hp.alloc (tkO T));obtain⟨l0,l1,l2⟩:=HP2.out.own.lv (g:=X.heap.size) (b:=b) (fn:=338) (once:=false) (by simp);clear hp)
    go_ret;exact .ok HS2.out HNK.out.1 HP2.out.drop.drop.drop
  | false=>
    have hlt:=fV (E:=c.E) (s:=sk) HM.out.zero (by rw[hT,hk];exact hz);obtain⟨f,rfl⟩:∃g,f=g+1:=⟨f-1,by have:=HNK.out.2;omega⟩
    have hs2:=HSK.out.trans (iF (by rw[hT,hk];exact hz));rw[hT,hk]at hs2;have HS2:=Hd hs2;clear hT hk hs2
    go_wp2_with (first
     | (go_at_call 241;refine(zM HE.out HPK.out HT.out).mono ?_;rintro e w2 ⟨rfl,hp⟩;have hlk:=HLK.out _ hp;have HP2:=Hd (hp.alloc (tkO T));obtain⟨l0,l1,l2⟩:=HP2.out.own.lv (g:=X.heap.size) (b:=b) (fn:=338) (once:=false) (by simp);obtain⟨c0,c1,c2⟩:=HP2.out.own.tk (b:=w2.heap.size) (t:=T) (by simp);clear hp)
     | (go_at_call 243;refine(iP HE.out HP2.out HT.out hlt).mono ?_;rintro e w3 ⟨rfl,hp⟩;have HP3:=Hd hp;clear hp))
    refine N.region_C [false,false,false,false,false,false,false,true,true,true,true] [?vC5_0,?vC5_1,?vC5_2,?vC5_3,?vC5_4,?vC5_5,?vC5_6,undef,undef,undef,undef] hmo (by kernel_rfl) (by kernel_rfl) (by kernel_rfl) (by kernel_rfl) rfl rfl (fun ch w=>RdI c F d s.next S (.panicked ch) w) (fun ch b w hd h=>⟨hd,h⟩) (fun Wz=>Wz.heap[w2.heap.size]?=some (tkO T)∧Wz.heap[X.heap.size]?=some (lvO b 338 false)) ⟨HP3.out.drew.own (w2.heap.size,tkO T) (by simp),HP3.out.drew.own (X.heap.size,lvO b 338 false) (by simp)⟩ ?wC5_ ?_
    case wC5_=>
     iterate 7 (refine N.WalkC.still (N.StillP.known rfl ?_) ?_;(intro W hJ;obtain⟨hj0,hj1⟩:=hJ;have j00:=za (i:=0) hj0 rfl;have j01:=za (i:=1) hj0 rfl;have j02:=za (i:=2) hj0 rfl;have j11:=za (i:=1) hj1 rfl;go_simp;rfl);simp only[N.pz])
     refine N.WalkC.chain fun u7=>?_;simp only[N.pz];refine N.WalkC.chain fun u8=>?_;simp only[N.pz];refine N.WalkC.chain fun u9=>?_;simp only[N.pz];refine N.WalkC.chain fun u10=>?_;simp only[N.pz];exact .nil
    iterate 7 (refine N.TailC.still ?_;simp only[N.pz])
    refine N.TailC.call (f:=338) (args:=#[c.ptr]) rfl ?a7 ?_;case a7=>go_simp;try rfl
    refine(HB.out sk.take (by have:=HNK.out.1;simp only[PS.take];omega) _ _ _ HP3.out.drew).mono ?_;rintro e w4 (⟨ps,hr,rfl,hb⟩|⟨a4,s4,hr,rfl,hn,hp⟩)
    ·exact .inr ⟨_,rfl,.er (zk HS2.out hr) hb⟩
    have HS4:=Hd (zj HS2.out hr);have HP4:=Hd hp;have HN4:=Hd hn;clear hp hn hr;refine .inl ⟨_,rfl,(fun _=>⟨HP4.out.own (w2.heap.size,tkO T) (by simp),HP4.out.own (X.heap.size,lvO b 338 false) (by simp)⟩),?_⟩;simp only[N.pz];refine N.TailC.run (v:=.slice (some ⟨w4.heap.size,0,none⟩) 2 2) (w':=w4.alloc (.cells #[intV a,intV a4] 3)) rfl ?a8 (fun _=>⟨(HP4.out.alloc _).drop.own (w2.heap.size,tkO T) (by simp),(HP4.out.alloc _).drop.own (X.heap.size,lvO b 338 false) (by simp)⟩) ?b8;case a8=>go_simp;try rfl
    simp only[N.pz];refine N.TailC.call (f:=316) (args:=#[c.ptr,.int .u8 k,tkA T,strV [],intV 0,.slice (some ⟨w4.heap.size,0,none⟩) 2 2]) rfl ?a9 ?_;case a9=>go_simp;try rfl
    refine(kA HE.out HP4.out k T [] 0 [a,a4] rfl).mono ?_;rintro e w5⟨rfl,hp⟩;have HP5:=Hd hp;clear hp;refine .inl ⟨_,rfl,(fun _=>⟨HP5.out.own (w2.heap.size,tkO T) (by simp),HP5.out.own (X.heap.size,lvO b 338 false) (by simp)⟩),?_⟩;simp only[N.pz];refine N.TailC.run (v:=intV s4.nodes.length) (w':=w5) rfl ?a10 (fun h=>absurd rfl h) ?b10;case a10=>go_simp;try rfl
    simp only[N.pz];refine N.TailC.nil ?_;clear l0 l1 l2 c0 c1 c2;obtain⟨l0,l1,l2⟩:=HP5.out.own.lv (g:=X.heap.size) (b:=b) (fn:=338) (once:=false) (by simp);go_wp2;have hn4:sk.next+1≤s4.next:=HN4.out
    go_roundw
    case rel=>exact⟨_,_,f,rfl,HS4,Hd ⟨by have h1:=HNK.out.1;show s.next≤s4.next;omega,by have h1:=HNK.out.2;show _≤f+s4.next;omega⟩,Hd HP5.out.drop⟩
    case measure=>rw[HP5.out.meas,HML.out];show c.E.toks.length-s4.next<_;omega
theorem NK{c:PC}(he:OkC c){below:RdP}{s:PS}(hbl:∀s',s.next≤s'.next→zt c 338 below s'):zt c 337 (bU below c.E sT false) s:=by
 intro F d X h;have HE:=Hd he;have HB:=Hd hbl;have HP:=Hd h;have hmm:=@run_makeMap prog;have HOW:=Hd (show OwnS (X.alloc (.map #[] 0)) X.heap.size 0 (.map [])from World.ownsMap_made X _ _ _);have HG:Hid ((X.alloc (.map #[] 0)).grownBy (X.alloc (.map #[] 0)) (some X.heap.size)):=Hd ⟨rfl,rfl,rfl,nlr,fun _ _ _=>rfl⟩;clear he hbl h;go_enter func337,ntmps337
 go_wp2_with (first
  | (refine ze _ rfl _ _ _ 332 rfl 9 5 zE dY rdV X.heap.size 2 _ rfl HOW2.out (by decide) _ _ (.string [37]) rfl rfl (zO (s:=[37]) (by decide)) (.lit (.int .u8 10)) [] rfl ?_;intro w3 ho3 hg3;have HOW3:=Hd ho3;have HG3:=Hd (zr HG2.out hg3);clear ho3 hg3)
  | (refine ze _ rfl _ _ _ 332 rfl 9 5 zE dY rdV X.heap.size 1 _ rfl HOW1.out (by decide) _ _ (.string [47]) rfl rfl (zO (s:=[47]) (by decide)) (.lit (.int .u8 9)) [] rfl ?_;intro w2 ho2 hg2;have HOW2:=Hd ho2;have HG2:=Hd (zr HG1.out hg2);clear ho2 hg2)
  | (refine ze _ rfl _ _ _ 332 rfl 9 5 zE dY rdV X.heap.size 0 _ rfl HOW.out (by decide) _ _ (.string [42]) rfl rfl (zO (s:=[42]) (by decide)) (.lit (.int .u8 8)) [] rfl ?_;intro w1 ho1 hg1;have HOW1:=Hd ho1;have HG1:=Hd (zr HG.out hg1);clear ho1 hg1)
  | (go_at_call 333;obtain⟨o,hp,hall⟩:=HP.out.map HG3.out HOW3.out;refine(wP HE.out HB.out (kinds:=sT) (o:=o) ⟨fun Z x hZ hx=>pL (hall Z hZ) hx (ML rfl x),rfl⟩ hp).mono ?_;rintro e w2 (⟨ps,hr,rfl,hb⟩|⟨a2,s2,hr,rfl,hn,hp2⟩);(exact⟨rfl,.er hr hb⟩);have HR:=Hd hr;have HP2:=Hd hp2;have HN:=Hd hn;clear hr hp2 hn hall hp))
 go_ret;exact .ok HR.out HN.out HP2.out
theorem PQg.put{c:PC}{s s':PS}{F:List (Nat×Obj)}{G:Nat→Prop}{X0 w:World}(h0:PQg c s F G X0)(h:PQg c s' F G w){g:Nat}{o:Obj}(hg:X0.heap.size≤g)(ho:w.heap[g]?=some o):PQg c s' ((g,o)::F) G w:=by
 have hl:=h0.par.lt;refine⟨h.par,fun p hp=>?_,fun p hp=>?_,?_⟩
 ·rcases List.mem_cons.1 hp with rfl|hp
  ·exact ho
  ·exact h.own p hp
 ·rcases List.mem_cons.1 hp with rfl|hp
  ·exact⟨by simp only;omega,fun e=>by have:=(h0.par.mem _ e).2;simp only at this;omega⟩
  ·exact h.out p hp
 ·refine List.nodup_cons.2 ⟨fun e=>?_,h.nd⟩
  obtain⟨p,hp,e⟩:=List.mem_map.1 e;have:=(Array.getElem?_eq_some_iff.1 (h0.own p hp)).1;simp only at e;omega
theorem MT{w:World}{g:Nat}{xs:List Value}{T:TypeId}(h:w.heap[g]?=some (.cells xs.toArray T)):Row 1 w (some ⟨g,0,none⟩) xs.length xs.length xs:=by
 refine⟨by simp,nlr,(fun h=>by cases h),.inr ⟨g,0,rfl,(Array.getElem?_eq_some_iff.1 h).1,fun i hi=>?_⟩⟩;rw[Nat.zero_add];exact za h (by simp[hi])
namespace N
theorem stepE_other{P:Program}{ops:Array Oper}{Q:Exit→Act→World→Prop}{J:Bool→World→Prop}{K:World→World→Prop}{G:List PanicEntry→World→Prop}{pre:World→Prop}{x:Nat→Value}{o:Oper}{a:Act}{k:Kd}{ev:Bool}(h:ev=false)(hs:∀b,k.step P ops Q G (J b) K pre x o a):k.stepE P ops Q G J K ev pre x o a:=by
 subst h;exact⟨hs,trivial⟩
theorem stepE_fix{P:Program}{ops:Array Oper}{Q:Exit→Act→World→Prop}{J:Bool→World→Prop}{K:World→World→Prop}{G:List PanicEntry→World→Prop}{pre:World→Prop}{x:Nat→Value}{o:Oper}{a:Act}{v:Value}{ev:Bool}(h:ev=true)(hs:StepS P ops Q G (fun _=>True) K o a (fun w=>J false w∧pre w) (fun u w=>J true w∧u=v)):(Kd.fix v).stepE P ops Q G J K ev pre x o a:=by
 subst h;exact hs
end N
theorem FB{ex:RdP}{E:PE}{f:Nat}{a:Int}{s:PS}(h:isP E s sDot=true):jE ex E (f+1) a s=(bZ E s.take 1).bind fun s1=>jE ex E f s1.nodes.length (addP s1 22 (zi E s) (zi E s.take).text 0 [a]):=by
 conv=>lhs;unfold jE
 rw[if_pos h]
theorem xL{ex:RdP}{E:PE}{f:Nat}{a:Int}{s:PS}(h:isP E s sDot=false)(h2:isP E s jI=true):jE ex E (f+1) a s=(ex s.take).bind fun r=>(cM E r.2 sR).bind fun s2=>jE ex E f s2.nodes.length (addP s2 23 (zi E s) [] 0 [a,r.1]):=by
 conv=>lhs;unfold jE
 rw[if_neg (by rw[h];exact Bool.false_ne_true),if_pos h2]
theorem KJ{ex:RdP}{E:PE}{f:Nat}{a:Int}{s:PS}(h:isP E s sDot=false)(h2:isP E s jI=false):jE ex E f a s=.ok (a,s):=by
 cases f with
 |zero=>rfl
 | succ f=>
   unfold jE;rw[if_neg (by rw[h];exact Bool.false_ne_true),if_neg (by rw[h2];exact Bool.false_ne_true)]
theorem DH{c:PC}(he:OkC c){at_ ex:RdP}{s:PS}(hat:zt c 340 at_ s)(hex:∀s',s.next<s'.next→zt c 322 ex s') :
 zt c 339 (fun s=>(at_ s).bind fun r=>jE ex c.E (c.E.toks.length+1) r.1 r.2) s:=by
 intro F d X h;have HE:=Hd he;have HA:=Hd hat;have HX:=Hd hex;have HP0:=Hd h;obtain⟨S,hS⟩:∃S,((at_ s).bind fun r=>jE ex c.E (c.E.toks.length+1) r.1 r.2)=S:=⟨_,rfl⟩
 simp only[];rw[hS];have HS0:=Hd hS.symm;clear he hat hex h hS;have hmo:prog.follows .mixedOrders=true:=by kernel_rfl
 go_enter func339,ntmps339
 go_wp2_with (go_at_call 340;refine(HA.out _ _ _ HP0.out).mono ?_;rintro e w1 (⟨ps,hr,rfl,hb⟩|⟨a1,s1,hr,rfl,hn,hp⟩);(exact⟨rfl,.er (zk HS0.out hr) hb⟩);have HS1:=Hd (zj HS0.out hr);have HP1:=Hd hp;have HN1:=Hd hn;clear hr hn hp)
 go_loopw [3] (fun t3 wr=>∃(a:Int) (sk:PS) (f:Nat),t3=intV a∧Hid (S=jE ex c.E f a sk)∧Hid (s.next≤sk.next∧c.E.toks.length+1≤f+sk.next)∧Hid (PQ c sk F d wr)) (fun _ wr=>lO c wr)
 case atStart=>exact⟨a1,s1,_,rfl,HS1,Hd ⟨HN1.out,by simp⟩,HP1⟩
 case round=>
  obtain⟨a,sk,f,rfl,HSK,HNK,HPK⟩:=hrel;have hnk:=HPK.out.next;have HML:=Hd HPK.out.meas;obtain⟨T,hT⟩:∃T,zi c.E sk=T:=⟨_,rfl⟩
  have HT:=Hd hT
  cases h1:isP c.E sk sDot with
  | true=>
    have hlt:=eT h1;obtain⟨f,rfl⟩:∃g,f=g+1:=⟨f-1,by have:=HNK.out.2;omega⟩
    obtain⟨U,hU⟩:∃U,zi c.E sk.take=U:=⟨_,rfl⟩
    have hs2:=HSK.out.trans (FB h1);rw[hT,hU]at hs2;have HU:=Hd hU;have HS2:=Hd hs2;have H1:=Hd h1;clear hT hU hs2 h1
    go_wp2_with (first
     | (go_at_call 241;refine(zM HE.out HPK.out HT.out).mono ?_;rintro e w2 ⟨rfl,hp⟩;have HP2:=Hd (hp.alloc (tkO T));clear hp)
     | (go_at_call 320;refine(eY HE.out HP2.out _ H1.out).mono ?_;rintro e w3 ⟨rfl,hp⟩;have HP3:=Hd hp;clear hp))
    obtain⟨⟨G,g0⟩,hd3⟩:=HP3.out.drew;have HG:=Hd g0;have HD3:=Hd hd3;clear g0 hd3
    refine N.region_E 7 3 hmo (by kernel_rfl) (by kernel_rfl) rfl (by kernel_rfl) (by kernel_rfl) (fun ch w=>RdI c F d s.next S (.panicked ch) w) (fun ch b w hd h=>⟨hd,h⟩)
     (fun b w=>PQg c (if b then sk.take.take else sk.take) ((w2.heap.size,tkO T)::F) G w∧w3.drew.heap.size≤w.heap.size∧(b=true→bZ c.E sk.take 1=.ok sk.take.take)) (fun w w'=>w.heap.size≤w'.heap.size∧∀g,w3.drew.heap.size≤g→g<w.heap.size→w'.heap[g]?=w.heap[g]?) ⟨HG.out,nlr,fun h=>by cases h⟩ rfl
     [.fix c.ptr,.fix (tkA T),.fix c.ptr,.fix (tkA U),.fix (strV U.text),.fix (intV a),.dep [] (fun _ v w=>∃g,v=.slice (some ⟨g,0,none⟩) 1 1∧w3.drew.heap.size≤g∧w.heap[g]?=some (.cells #[intV a] 3))] [[],[],[],[],[],[],[]] rfl (by kernel_rfl)
     (N.sts_kd ⟨trivial,trivial,trivial,trivial,trivial,trivial,(by rintro l v w w' ⟨hk1,hk2⟩ ⟨g,h1,h2,h3⟩;exact⟨g,h1,h2,(hk2 g h2 (Array.getElem?_eq_some_iff.1 h3).1).trans h3⟩),trivial⟩) fun x=>?_
    refine N.WalkE.fix (N.stepE_other rfl fun b=>N.StepS.known rfl (fun _=>⟨nlr,fun _ _ _=>rfl⟩) (by intro W hJ hP;go_simp)) ?_;simp only[N.pz];refine N.WalkE.fix (N.stepE_other rfl fun b=>N.StepS.known rfl (fun _=>⟨nlr,fun _ _ _=>rfl⟩) (by intro W hJ hP;have hj:=hJ.1.own (w2.heap.size,tkO T) (by simp);have j0:=za (i:=0) hj rfl;have j1:=za (i:=1) hj rfl;have j2:=za (i:=2) hj rfl;clear hJ hP;go_simp)) ?_;simp only[N.pz];refine N.WalkE.fix (N.stepE_other rfl fun b=>N.StepS.known rfl (fun _=>⟨nlr,fun _ _ _=>rfl⟩) (by intro W hJ hP;go_simp)) ?_;simp only[N.pz];refine N.WalkE.fix (N.stepE_fix rfl (N.StepS.call (f:=314) (args:=#[c.ptr]) rfl (by intro W hJ hP;go_simp;try rfl) ?ev)) ?_
    case ev=>
     rintro W-⟨hJ,hP⟩;refine(NI HE.out hJ.1).mono ?_;rintro e Y (⟨ps,hr,rfl,hb⟩|⟨hr,hl,rfl,hp,hs⟩)
     ·exact .inr ⟨_,rfl,.er (zk HS2.out hr) hb⟩
     ·refine .inl ⟨_,rfl,trivial,⟨hs.turns.size,fun g hg hgW=>hs.turns.block g hgW (fun e=>?_)⟩,⟨hp,Nat.le_trans hJ.2.1 hs.turns.size,fun _=>hr⟩,by rw[←HU.out];rfl⟩
      have:=(HG.out.par.mem g e).2;omega
    simp only[N.pz];refine N.WalkE.fix (N.stepE_other rfl fun b=>N.StepS.known rfl (fun _=>⟨nlr,fun _ _ _=>rfl⟩) (by intro W hJ hP;go_simp)) ?_;simp only[N.pz];refine N.WalkE.fix (N.stepE_other rfl fun b=>N.StepS.known rfl (fun _=>⟨nlr,fun _ _ _=>rfl⟩) (by intro W hJ hP;go_simp)) ?_;simp only[N.pz];refine N.WalkE.dep (N.stepE_other rfl fun b=>N.StepS.runs rfl (by intro W hJ hP;exact⟨_,_,(by(go_simp;try rfl)),⟨(hJ.1.alloc _).tail,Nat.le_trans hJ.2.1 (by simp),hJ.2.2⟩,⟨by simp,fun g _ hg=>Below.heap_alloc _ _ _ hg⟩,⟨W.heap.size,rfl,hJ.2.1,World.alloc_heap_new _ _⟩⟩)) ?_;simp only[N.pz];refine N.WalkE.nil fun W hJ hH=>?_;obtain⟨hJ1,hJ2,hJ3⟩:=hJ;have hkp:=hJ3 rfl;obtain⟨g6,hx6,hg6,ho6⟩:=hH 6;generalize x 6=y6 at *;subst hx6;have hpk:PQ c sk.take.take ((g6,.cells #[intV a] 3)::(w2.heap.size,tkO T)::F) (d+1+1) W:=⟨⟨G,HG.out.put hJ1 hg6 ho6⟩,by have:=HD3.out;simp only[PS.take]at this⊢;omega⟩
    have HP6:=Hd hpk;have HS6:=Hd (zj HS2.out hkp);have HR6:=Hd (MT (xs:=[intV a]) ho6);clear hJ1 hJ2 hJ3 hkp hpk hH hg6 ho6
    go_wp2_with (go_at_call 316;refine(IC HE.out (K:=[(g6,.cells #[intV a] 3)]) HP6.out 22 T U.text 0 (kids:=[a]) HR6.out (fun _ x e=>by obtain rfl:=Option.some.inj e;simp)).mono ?_;rintro e w5 ⟨rfl,hp⟩;have HP7:=Hd hp;clear hp)
    go_roundw
    case rel=>exact⟨_,_,f,rfl,HS6,Hd ⟨by have h1:=HNK.out.1;show s.next≤sk.next+1+1;omega,by have h1:=HNK.out.2;show _≤f+(sk.next+1+1);omega⟩,Hd (HP7.out.drop.less (by omega))⟩
    case measure=>rw[HP7.out.meas,HML.out];show c.E.toks.length-(sk.next+1+1)<_;omega
  | false=>
    have H1:=Hd h1
    cases h2:isP c.E sk jI with
    | true=>
      have hlt:=eT h2;obtain⟨f,rfl⟩:∃g,f=g+1:=⟨f-1,by have:=HNK.out.2;omega⟩
      have hs2:=HSK.out.trans (xL h1 h2);rw[hT]at hs2;have HS2:=Hd hs2;have H2:=Hd h2;clear hT hs2 h1 h2
      go_wp2_with (first
       | (go_at_call 316;refine(kA HE.out HP6.out 23 T [] 0 [a,a5] rfl).mono ?_;rintro e w7 ⟨rfl,hp⟩;have HP7:=Hd hp;clear hp)
       | (go_at_call 244;refine(bC HE.out HP5.out _).mono ?_;rintro e w6 (⟨ps,hr,rfl,hb⟩|⟨hr,-,rfl,hp⟩);(exact⟨rfl,.er (zk HS5.out hr) hb⟩);have HS6:=Hd (zj HS5.out hr);have HP6:=Hd hp;obtain⟨c0,c1,c2⟩:=hp.own.tk (b:=w2.heap.size) (t:=T) (by simp);clear hp hr)
       | (go_at_call 322;refine(HX.out sk.take (by have:=HNK.out.1;simp only[PS.take];omega) _ _ _ HP4.out).mono ?_;rintro e w5 (⟨ps,hr,rfl,hb⟩|⟨a5,s5,hr,rfl,hn,hp⟩);(exact⟨rfl,.er (zk HS2.out hr) hb⟩);have HS5:=Hd (zj HS2.out hr);have HP5:=Hd hp;have HN5:=Hd hn;clear hp hr hn)
       | (go_at_call 320;refine(eY HE.out HP3.out _ H2.out).mono ?_;rintro e w4 ⟨rfl,hp⟩;have HP4:=Hd hp;clear hp)
       | (go_at_call 320;refine(dE HE.out HP2.out _ H1.out).mono ?_;rintro e w3 ⟨rfl,hp⟩;have HP3:=Hd hp;clear hp)
       | (go_at_call 241;refine(zM HE.out HPK.out HT.out).mono ?_;rintro e w2 ⟨rfl,hp⟩;have HP2:=Hd (hp.alloc (tkO T));clear hp))
      have hn5:sk.next+1≤s5.next:=HN5.out
      go_roundw
      case rel=>exact⟨_,_,f,rfl,HS6,Hd ⟨by have h1:=HNK.out.1;show s.next≤s5.next+1;omega,by have h1:=HNK.out.2;show _≤f+(s5.next+1);omega⟩,Hd (HP7.out.drop.less (by omega))⟩
      case measure=>rw[HP7.out.meas,HML.out];show c.E.toks.length-(s5.next+1)<_;omega
    | false=>
      have HS2:=Hd (HSK.out.trans (KJ h1 h2));have H2:=Hd h2;clear hT h1 h2
      go_wp2_with (first
       | (go_at_call 320;refine(dE HE.out HP3.out _ H2.out).mono ?_;rintro e w4 ⟨rfl,hp⟩;have HP4:=Hd hp;clear hp)
       | (go_at_call 320;refine(dE HE.out HP2.out _ H1.out).mono ?_;rintro e w3 ⟨rfl,hp⟩;have HP3:=Hd hp;clear hp)
       | (go_at_call 241;refine(zM HE.out HPK.out HT.out).mono ?_;rintro e w2 ⟨rfl,hp⟩;have HP2:=Hd (hp.alloc (tkO T));clear hp))
      go_ret;exact .ok HS2.out HNK.out.1 HP4.out.drop
def fnNT:NT→FuncId
 |.expr=>322
 |.or=>329
 |.and=>332
 |.not=>334
 |.cmp=>335
 |.sum=>336
 |.term=>337
 |.unary=>338
 |.postf=>339
 |.atom=>340
 |.kindOf=>319
 |.param=>318
 |.put=>342
def vA:NT→Nat
 |.expr=>12
 |.or=>11
 |.and=>10
 |.not=>9
 |.cmp=>8
 |.sum=>7
 |.term=>6
 |.unary=>5
 |.postf=>4
 |.atom=>3
 |.kindOf=>2
 |.param=>2
 |.put=>2
theorem FD(nt:NT):vA nt≤12:=by cases nt<;>decide
theorem rM{c:PC}{fn:FuncId}{rd:RdP}{s:PS}(h:c.E.toks.length<s.next):zt c fn rd s:=fun F d X hp=>by have:=hp.next;omega
theorem vC{c:PC}(he:OkC c):∀(f:Nat) (nt:NT) (s:PS),16*(c.E.toks.length-s.next)+vA nt+1≤f→zt c (fnNT nt) (aD c.E f nt) s
 |0,nt,s,h=>by omega
 | f+1,nt,s,h=>by
   by_cases hn:c.E.toks.length<s.next
   ·exact rM hn
   have ih:∀nt' s',16*(c.E.toks.length-s'.next)+vA nt'+1≤f→zt c (fnNT nt') (aD c.E f nt') s':=fun nt' s'=>vC he f nt' s'
   have ahead:∀nt' s',s.next<s'.next→zt c (fnNT nt') (aD c.E f nt') s':=fun nt' s' hs=>by
    by_cases hn':c.E.toks.length<s'.next
    ·exact rM hn'
    ·exact ih nt' s' (by have:=FD nt';omega)
   have same:∀nt' s',s.next≤s'.next→vA nt'<vA nt→zt c (fnNT nt') (aD c.E f nt') s':=fun nt' s' hs hr=>ih nt' s' (by omega)
   cases nt with
   |expr=>exact NG he (ahead .expr) (same .or s nlr (by decide))
   |or=>exact QOrP he fun s' hs=>same .and s' hs (by decide)
   |and=>exact OH he fun s' hs=>same .not s' hs (by decide)
   |not=>exact OL he (ahead .not) (same .cmp s nlr (by decide))
   |cmp=>exact OJ he fun s' hs=>same .sum s' hs (by decide)
   |sum=>exact ON he fun s' hs=>same .term s' hs (by decide)
   |term=>exact NK he fun s' hs=>same .unary s' hs (by decide)
   |unary=>exact LR he (ahead .unary) (same .postf s nlr (by decide))
   |postf=>exact DH he (same .atom s nlr (by decide)) (ahead .expr)
   |atom=>exact NF he (ahead .expr) (ahead .put)
   |kindOf=>exact IE he (ahead .kindOf)
   |param=>exact LQ he (ahead .kindOf)
   |put=>exact OM he (ahead .expr)
theorem KN{c:PC}(he:OkC c)(nt:NT)(s:PS):zt c (fnNT nt) (rdP c.E nt) s:=vC he _ nt s (by have:=FD nt;unfold ME;omega)
theorem LV{ε α β:Type}{S:Except ε β}{b:Bool}{x y:Except ε α}{k:α→Except ε β}(h:S=(if b=true then x else y).bind k)(hb:b=true):S=x.bind k:=by rw[if_pos hb]at h;exact h
theorem IP{ε α β:Type}{S:Except ε β}{b:Bool}{x y:Except ε α}{k:α→Except ε β}(h:S=(if b=true then x else y).bind k)(hb:b=false):S=y.bind k:=by rw[if_neg (by rw[hb];exact Bool.false_ne_true)]at h;exact h
theorem GJ{E:PE}{s:PS}(h:isP E s CD=false):sV E s=.ok (0,s):=by unfold sV;rw[if_neg (by rw[h];exact Bool.false_ne_true)]
theorem vO{E:PE}{s:PS}(h:isP E s CD=true){U:Tk}(hU:zi E s.take=U)(hz:(U.text==[48])=true):sV E s=.error U.pos:=by
 unfold sV;rw[if_pos h,hU,if_pos (show U.text=NC from eq_of_beq hz)]
theorem nP{E:PE}{s:PS}(h:isP E s CD=true){U:Tk}(hU:zi E s.take=U)(hz:(U.text==[48])=false):sV E s=(bZ E s.take 2).bind fun s1=>.ok (valP U.text,s1):=by
 unfold sV;rw[if_pos h,hU,if_neg (show ¬U.text=NC from fun e=>by rw[e]at hz;exact absurd hz (by decide))]
theorem AP{c:PC}(he:OkC c){param kindOf expr:RdP}{s:PS}(nm:Tk)(hparam:∀s',s.next<s'.next→zt c 318 param s')(hkindOf:∀s',s.next<s'.next→zt c 319 kindOf s')(hexpr:∀s',s.next<s'.next→zt c 322 expr s'):∀(F:List (Nat×Obj)) (d:Nat) (X:World),PQ c s F d X→Calls prog 289 #[c.ptr,tkA nm] X (RdI c F d s.next (fM param kindOf expr c.E nm s)):=by
 intro F d X h;have HE:=Hd he;have Hparam:=Hd hparam;have HkindOf:=Hd hkindOf;have Hexpr:=Hd hexpr;have HN0:Hid (s.next≤s.next):=Hd nlr;have hmany:=he.many;obtain⟨S,hS⟩:∃S,fM param kindOf expr c.E nm s=S:=⟨_,rfl⟩
 rw[hS];unfold fM at hS;obtain⟨T,hT⟩:∃T,zi c.E s=T:=⟨_,rfl⟩
 rw[hT]at hS;have HT:=Hd hT;have HS0:=Hd hS.symm;have HP0:=Hd (h.alloc (tkO nm));clear he h hparam hkindOf hexpr hS hT;obtain⟨c0_00,c0_01,c0_02⟩:=HP0.out.own.tk (b:=X.heap.size) (t:=nm) (by simp);go_enter func289,ntmps289
 go_wp2_with (first
  | (go_at_call 244;refine(bC HE.out HP1.out _).mono ?_;rintro e w2 (⟨ps,hr,rfl,hb⟩|⟨hr,-,rfl,hp⟩);(exact⟨rfl,.er (zk HS1.out hr) hb⟩);have HS2:=Hd (zj HS1.out hr);have HP2:=Hd hp;clear hp hr;have HN2:Hid (s.next<_):=Hd (Nat.lt_succ_of_le (Nat.le_of_lt HN1.out));obtain⟨c2_00,c2_01,c2_02⟩:=HP2.out.own.tk (b:=w1.heap.size) (t:=T) (by simp);obtain⟨c2_10,c2_11,c2_12⟩:=HP2.out.own.tk (b:=X.heap.size) (t:=nm) (by simp);)
  | (go_at_call 314;refine(iV HE.out HP0.out).mono ?_;rintro e w1 (⟨ps,hr,rfl,hb⟩|⟨hr,-,he,hp⟩);(exact⟨rfl,.er (zk HS0.out hr) hb⟩);have q:=zj HS0.out hr;rw[HT.out]at he;subst he;have HS1:=Hd q;have HP1:=Hd (hp.alloc (tkO T));clear hp hr q;have HN1:Hid (s.next<_):=Hd (Nat.lt_succ_of_le HN0.out);obtain⟨c1_00,c1_01,c1_02⟩:=HP1.out.own.tk (b:=w1.heap.size) (t:=T) (by simp);obtain⟨c1_10,c1_11,c1_12⟩:=HP1.out.own.tk (b:=X.heap.size) (t:=nm) (by simp);))
 cases hb1:isP c.E s.take.take pY with
 | true=>
   have HB1:=Hd hb1;clear hb1
   go_wp2_with (first
    | (at_builtin;have hpa:=(HP7.out.alloc (.cells #[intV a7] 3)).drop;have hbl:=HLB4.out;refine zR (news:=[a7]) rfl (.tmp 22) (.tmp 25) rfl rfl (HLK4.out.own _ hpa.own.left) rfl (aK _ _ _) (by omega) (by have:=hpa.lt;omega) ?_;intro aa8 cc8 w8 l8 HLE8 hle8 hown8 hkeep8 hap8;obtain⟨K8,hk8,hp8⟩:=hpa.appended HLK4.out hown8 hkeep8 hap8;have HLK8:=Hd hk8;have HP8:=Hd hp8;have HS8:=HS7;have HN8:=HN7;clear hpa hown8 hkeep8 hap8 hk8 hp8;obtain⟨c8_00,c8_01,c8_02⟩:=HP8.out.own.tk (b:=w1.heap.size) (t:=T) (by simp);obtain⟨c8_10,c8_11,c8_12⟩:=HP8.out.own.tk (b:=X.heap.size) (t:=nm) (by simp);)
    | (go_at_call 319;refine(HkindOf.out _ HN6.out _ _ _ HP6.out).mono ?_;rintro e w7 (⟨ps,hr,rfl,hb⟩|⟨a7,s7,hr,rfl,hn,hp⟩);(exact⟨rfl,.er (zk HS6.out hr) hb⟩);have HS7:=Hd (zj HS6.out hr);have HP7:=Hd hp;clear hp hr;have HN7:=Hd (Nat.lt_of_lt_of_le HN6.out hn);clear hn;obtain⟨c7_00,c7_01,c7_02⟩:=HP7.out.own.tk (b:=w1.heap.size) (t:=T) (by simp);obtain⟨c7_10,c7_11,c7_12⟩:=HP7.out.own.tk (b:=X.heap.size) (t:=nm) (by simp);)
    | (go_at_call 244;refine(bC HE.out HP5.out _).mono ?_;rintro e w6 (⟨ps,hr,rfl,hb⟩|⟨hr,-,rfl,hp⟩);(exact⟨rfl,.er (zk HS5.out hr) hb⟩);have HS6:=Hd (zj HS5.out hr);have HP6:=Hd hp;clear hp hr;have HN6:Hid (s.next<_):=Hd (Nat.lt_succ_of_le (Nat.le_of_lt HN5.out));obtain⟨c6_00,c6_01,c6_02⟩:=HP6.out.own.tk (b:=w1.heap.size) (t:=T) (by simp);obtain⟨c6_10,c6_11,c6_12⟩:=HP6.out.own.tk (b:=X.heap.size) (t:=nm) (by simp);)
    | (go_at_call 244;refine(bC HE.out HP4.out _).mono ?_;rintro e w5 (⟨ps,hr,rfl,hb⟩|⟨hr,-,rfl,hp⟩);(exact⟨rfl,.er (zk HS4.out hr) hb⟩);have HS5:=Hd (zj HS4.out hr);have HP5:=Hd hp;clear hp hr;have HN5:Hid (s.next<_):=Hd (Nat.lt_succ_of_le (Nat.le_of_lt HN4.out));obtain⟨c5_00,c5_01,c5_02⟩:=HP5.out.own.tk (b:=w1.heap.size) (t:=T) (by simp);obtain⟨c5_10,c5_11,c5_12⟩:=HP5.out.own.tk (b:=X.heap.size) (t:=nm) (by simp);)
    | (go_at_call 294;refine(QIsP HE.out HP2.out pY rfl HB1.out).mono ?_;rintro e w3 ⟨rfl,hp⟩;have HP4:Hid (PQ c _ ([]++_) _ w3):=Hd hp;clear hp;have HN4:=HN2;have HS4:=Hd (zj (LV HS2.out HB1.out) rfl);have HLK4:=Hd (KL.nil c);have HLB4:Hid (([]:List Int).length≤900):=Hd (by simp);obtain⟨c4_00,c4_01,c4_02⟩:=HP4.out.own.tk (b:=w1.heap.size) (t:=T) (by simp);obtain⟨c4_10,c4_11,c4_12⟩:=HP4.out.own.tk (b:=X.heap.size) (t:=nm) (by simp);))
   cases hu:isP c.E s7 CD with
   | true=>
     have HU:=Hd hu;clear hu;obtain⟨U,hU⟩:∃U,zi c.E s7.take=U:=⟨_,rfl⟩
     have HLU:=Hd hU;clear hU;cases hz:(U.text==[48])with
     | true=>
       have HZ:=Hd hz
       go_wp2_with (first
        | (go_at_call 242;refine(oE HE.out HP10.out HLU.out).mono ?_;rintro e w11 ⟨rfl,hb⟩)
        | (go_at_call 241;refine(zM HE.out HP9.out HLU.out).mono ?_;rintro e w10 ⟨rfl,hp⟩;have HP10:=Hd hp;clear hp;have HN10:=HN9;obtain⟨c10_00,c10_01,c10_02⟩:=HP10.out.own.tk (b:=w1.heap.size) (t:=T) (by simp);obtain⟨c10_10,c10_11,c10_12⟩:=HP10.out.own.tk (b:=X.heap.size) (t:=nm) (by simp);)
        | (go_at_call 320;refine(eY HE.out HP8.out _ HU.out).mono ?_;rintro e w9 ⟨rfl,hp⟩;have HP9:=Hd hp;clear hp;have HN9:Hid (s.next<_):=Hd (Nat.lt_succ_of_le (Nat.le_of_lt HN8.out));obtain⟨c9_00,c9_01,c9_02⟩:=HP9.out.own.tk (b:=w1.heap.size) (t:=T) (by simp);obtain⟨c9_10,c9_11,c9_12⟩:=HP9.out.own.tk (b:=X.heap.size) (t:=nm) (by simp);))
       exact⟨rfl,.er (zk HS8.out (vO HU.out HLU.out HZ.out)) hb⟩
     | false=>
       have HZ:=Hd hz
       go_wp2_with (first
        | (go_at_call 316;refine(oD HE.out HP14.out 42 nm T.text v HLK14.out).mono ?_;rintro e w15 ⟨rfl,hp⟩;have HP15:=Hd hp;clear hp)
        | (at_builtin;have hpa:=(HP13.out.alloc (.cells #[intV a13] 3)).drop;have hbl:=(show l8.length≤901 by have h1:=HLB4.out;have h2:=congrArg List.length HLE8.out;simp at h1 h2⊢;omega);refine zR (news:=[a13]) rfl (.tmp 42) (.tmp 45) rfl rfl (HLK8.out.own _ hpa.own.left) rfl (aK _ _ _) (by omega) (by have:=hpa.lt;omega) ?_;intro aa14 cc14 w14 l14 HLE14 hle14 hown14 hkeep14 hap14;obtain⟨K14,hk14,hp14⟩:=hpa.appended HLK8.out hown14 hkeep14 hap14;have HLK14:=Hd hk14;have HP14:=Hd hp14;have HS14:=HS13;have HN14:=HN13;clear hpa hown14 hkeep14 hap14 hk14 hp14;obtain⟨c14_00,c14_01,c14_02⟩:=HP14.out.own.tk (b:=w1.heap.size) (t:=T) (by simp);obtain⟨c14_10,c14_11,c14_12⟩:=HP14.out.own.tk (b:=X.heap.size) (t:=nm) (by simp);)
        | (go_at_call 322;refine(Hexpr.out _ HN12.out _ _ _ HP12.out).mono ?_;rintro e w13 (⟨ps,hr,rfl,hb⟩|⟨a13,s13,hr,rfl,hn,hp⟩);(exact⟨rfl,.er (zk HS12.out hr) hb⟩);have HS13:=Hd (zj HS12.out hr);have HP13:=Hd hp;clear hp hr;have HN13:=Hd (Nat.lt_of_lt_of_le HN12.out hn);clear hn;obtain⟨c13_00,c13_01,c13_02⟩:=HP13.out.own.tk (b:=w1.heap.size) (t:=T) (by simp);obtain⟨c13_10,c13_11,c13_12⟩:=HP13.out.own.tk (b:=X.heap.size) (t:=nm) (by simp);)
        | (go_at_call 244;refine(bC HE.out HP11.out _).mono ?_;rintro e w12 (⟨ps,hr,rfl,hb⟩|⟨hr,-,rfl,hp⟩);(exact⟨rfl,.er (zk HS11.out hr) hb⟩);have HS12:=Hd (zj HS11.out hr);have HP12:=Hd hp;clear hp hr;have HN12:Hid (s.next<_):=Hd (Nat.lt_succ_of_le (Nat.le_of_lt HN11.out));obtain⟨c12_00,c12_01,c12_02⟩:=HP12.out.own.tk (b:=w1.heap.size) (t:=T) (by simp);obtain⟨c12_10,c12_11,c12_12⟩:=HP12.out.own.tk (b:=X.heap.size) (t:=nm) (by simp);)
        | (go_at_call 321;refine(jP HE.out HP10.out).mono ?_;rintro e w11 (⟨ps,hr,rfl,hb⟩|⟨hr,-,he,hv0,hv1,hp⟩);(exact⟨rfl,.er (zk HS8.out (zk (nP HU.out HLU.out HZ.out) hr)) hb⟩);have hu:=zj (nP HU.out HLU.out HZ.out) hr;have q:=zj HS8.out hu;clear hu;rw[HLU.out]at he hv0 hv1;subst he;obtain⟨v,hv⟩:∃v,valP U.text=v:=⟨_,rfl⟩;rw[hv]at q hv0 hv1;rw[hv];clear hv;have HS11:=Hd q;have HP11:=Hd hp;clear hp hr q;have HN11:Hid (s.next<_):=Hd (Nat.lt_succ_of_le (Nat.le_of_lt HN10.out));obtain⟨c11_00,c11_01,c11_02⟩:=HP11.out.own.tk (b:=w1.heap.size) (t:=T) (by simp);obtain⟨c11_10,c11_11,c11_12⟩:=HP11.out.own.tk (b:=X.heap.size) (t:=nm) (by simp);)
        | (go_at_call 241;refine(zM HE.out HP9.out HLU.out).mono ?_;rintro e w10 ⟨rfl,hp⟩;have HP10:=Hd hp;clear hp;have HN10:=HN9;obtain⟨c10_00,c10_01,c10_02⟩:=HP10.out.own.tk (b:=w1.heap.size) (t:=T) (by simp);obtain⟨c10_10,c10_11,c10_12⟩:=HP10.out.own.tk (b:=X.heap.size) (t:=nm) (by simp);)
        | (go_at_call 320;refine(eY HE.out HP8.out _ HU.out).mono ?_;rintro e w9 ⟨rfl,hp⟩;have HP9:=Hd hp;clear hp;have HN9:Hid (s.next<_):=Hd (Nat.lt_succ_of_le (Nat.le_of_lt HN8.out));obtain⟨c9_00,c9_01,c9_02⟩:=HP9.out.own.tk (b:=w1.heap.size) (t:=T) (by simp);obtain⟨c9_10,c9_11,c9_12⟩:=HP9.out.own.tk (b:=X.heap.size) (t:=nm) (by simp);))
       go_ret;have hS:S=.ok ((s13.nodes.length:Int),addP s13 42 nm T.text v l14):=by rw[HS14.out,HLE14.out,HLE8.out];rfl
       exact .ok hS (Nat.le_of_lt HN14.out) (HP15.out.drop.drop.less (by omega))
   | false=>
     have HU:=Hd hu;clear hu
     go_wp2_with (first
      | (go_at_call 316;refine(oD HE.out HP14.out 42 nm T.text 0 HLK14.out).mono ?_;rintro e w15 ⟨rfl,hp⟩;have HP15:=Hd hp;clear hp)
      | (at_builtin;have hpa:=(HP13.out.alloc (.cells #[intV a13] 3)).drop;have hbl:=(show l8.length≤901 by have h1:=HLB4.out;have h2:=congrArg List.length HLE8.out;simp at h1 h2⊢;omega);refine zR (news:=[a13]) rfl (.tmp 42) (.tmp 45) rfl rfl (HLK8.out.own _ hpa.own.left) rfl (aK _ _ _) (by omega) (by have:=hpa.lt;omega) ?_;intro aa14 cc14 w14 l14 HLE14 hle14 hown14 hkeep14 hap14;obtain⟨K14,hk14,hp14⟩:=hpa.appended HLK8.out hown14 hkeep14 hap14;have HLK14:=Hd hk14;have HP14:=Hd hp14;have HS14:=HS13;have HN14:=HN13;clear hpa hown14 hkeep14 hap14 hk14 hp14;obtain⟨c14_00,c14_01,c14_02⟩:=HP14.out.own.tk (b:=w1.heap.size) (t:=T) (by simp);obtain⟨c14_10,c14_11,c14_12⟩:=HP14.out.own.tk (b:=X.heap.size) (t:=nm) (by simp);)
      | (go_at_call 322;refine(Hexpr.out _ HN12.out _ _ _ HP12.out).mono ?_;rintro e w13 (⟨ps,hr,rfl,hb⟩|⟨a13,s13,hr,rfl,hn,hp⟩);(exact⟨rfl,.er (zk HS12.out hr) hb⟩);have HS13:=Hd (zj HS12.out hr);have HP13:=Hd hp;clear hp hr;have HN13:=Hd (Nat.lt_of_lt_of_le HN12.out hn);clear hn;obtain⟨c13_00,c13_01,c13_02⟩:=HP13.out.own.tk (b:=w1.heap.size) (t:=T) (by simp);obtain⟨c13_10,c13_11,c13_12⟩:=HP13.out.own.tk (b:=X.heap.size) (t:=nm) (by simp);)
      | (go_at_call 244;refine(bC HE.out HP11.out _).mono ?_;rintro e w12 (⟨ps,hr,rfl,hb⟩|⟨hr,-,rfl,hp⟩);(exact⟨rfl,.er (zk HS11.out hr) hb⟩);have HS12:=Hd (zj HS11.out hr);have HP12:=Hd hp;clear hp hr;have HN12:Hid (s.next<_):=Hd (Nat.lt_succ_of_le (Nat.le_of_lt HN11.out));obtain⟨c12_00,c12_01,c12_02⟩:=HP12.out.own.tk (b:=w1.heap.size) (t:=T) (by simp);obtain⟨c12_10,c12_11,c12_12⟩:=HP12.out.own.tk (b:=X.heap.size) (t:=nm) (by simp);)
      | (go_at_call 320;refine(dE HE.out HP8.out _ HU.out).mono ?_;rintro e w9 ⟨rfl,hp⟩;have HP11:=Hd hp;clear hp;have HN11:=HN8;have HS11:=Hd (zj HS8.out (GJ HU.out));obtain⟨c11_00,c11_01,c11_02⟩:=HP11.out.own.tk (b:=w1.heap.size) (t:=T) (by simp);obtain⟨c11_10,c11_11,c11_12⟩:=HP11.out.own.tk (b:=X.heap.size) (t:=nm) (by simp);))
     go_ret;have hS:S=.ok ((s13.nodes.length:Int),addP s13 42 nm T.text 0 l14):=by rw[HS14.out,HLE14.out,HLE8.out];rfl
     exact .ok hS (Nat.le_of_lt HN14.out) (HP15.out.drop.drop.less (by omega))
 | false=>
   have HB1:=Hd hb1;clear hb1
   go_wp2_with (first
    | (at_builtin;have hpa:=(HP7.out.alloc (.cells #[intV a7] 3)).drop;have hbl:=HLB4.out;refine zR (news:=[a7]) rfl (.tmp 22) (.tmp 25) rfl rfl (HLK4.out.own _ hpa.own.left) rfl (aK _ _ _) (by omega) (by have:=hpa.lt;omega) ?_;intro aa8 cc8 w8 l8 HLE8 hle8 hown8 hkeep8 hap8;obtain⟨K8,hk8,hp8⟩:=hpa.appended HLK4.out hown8 hkeep8 hap8;have HLK8:=Hd hk8;have HP8:=Hd hp8;have HS8:=HS7;have HN8:=HN7;clear hpa hown8 hkeep8 hap8 hk8 hp8;obtain⟨c8_00,c8_01,c8_02⟩:=HP8.out.own.tk (b:=w1.heap.size) (t:=T) (by simp);obtain⟨c8_10,c8_11,c8_12⟩:=HP8.out.own.tk (b:=X.heap.size) (t:=nm) (by simp);)
    | (go_at_call 319;refine(HkindOf.out _ HN6.out _ _ _ HP6.out).mono ?_;rintro e w7 (⟨ps,hr,rfl,hb⟩|⟨a7,s7,hr,rfl,hn,hp⟩);(exact⟨rfl,.er (zk HS6.out hr) hb⟩);have HS7:=Hd (zj HS6.out hr);have HP7:=Hd hp;clear hp hr;have HN7:=Hd (Nat.lt_of_lt_of_le HN6.out hn);clear hn;obtain⟨c7_00,c7_01,c7_02⟩:=HP7.out.own.tk (b:=w1.heap.size) (t:=T) (by simp);obtain⟨c7_10,c7_11,c7_12⟩:=HP7.out.own.tk (b:=X.heap.size) (t:=nm) (by simp);)
    | (go_at_call 244;refine(bC HE.out HP5.out _).mono ?_;rintro e w6 (⟨ps,hr,rfl,hb⟩|⟨hr,-,rfl,hp⟩);(exact⟨rfl,.er (zk HS5.out hr) hb⟩);have HS6:=Hd (zj HS5.out hr);have HP6:=Hd hp;clear hp hr;have HN6:Hid (s.next<_):=Hd (Nat.lt_succ_of_le (Nat.le_of_lt HN5.out));obtain⟨c6_00,c6_01,c6_02⟩:=HP6.out.own.tk (b:=w1.heap.size) (t:=T) (by simp);obtain⟨c6_10,c6_11,c6_12⟩:=HP6.out.own.tk (b:=X.heap.size) (t:=nm) (by simp);)
    | (go_at_call 244;refine(bC HE.out HP4.out _).mono ?_;rintro e w5 (⟨ps,hr,rfl,hb⟩|⟨hr,-,rfl,hp⟩);(exact⟨rfl,.er (zk HS4.out hr) hb⟩);have HS5:=Hd (zj HS4.out hr);have HP5:=Hd hp;clear hp hr;have HN5:Hid (s.next<_):=Hd (Nat.lt_succ_of_le (Nat.le_of_lt HN4.out));obtain⟨c5_00,c5_01,c5_02⟩:=HP5.out.own.tk (b:=w1.heap.size) (t:=T) (by simp);obtain⟨c5_10,c5_11,c5_12⟩:=HP5.out.own.tk (b:=X.heap.size) (t:=nm) (by simp);)
    | (go_at_call 317;refine(oF HE.out (fun s2 h2=>Hparam.out s2 (Nat.lt_of_lt_of_le HN3.out h2)) HP3.out).mono ?_;rintro e w4 (⟨ps,hr,rfl,hb⟩|⟨l4,s4,q4,cp4,K4,hr,rfl,hn,hlk,hkl,hp⟩);(exact⟨rfl,.er (zk HS3.out hr) hb⟩);have HS4:=Hd (zj HS3.out hr);have HLB4:Hid (l4.length≤900):=Hd (by have:=hp.next;omega);have HP4:=Hd hp;have HLK4:=Hd hkl;clear hp hr hlk hkl;have HN4:=Hd (Nat.lt_of_lt_of_le HN3.out hn);clear hn;obtain⟨c4_00,c4_01,c4_02⟩:=HP4.out.own.tk (b:=w1.heap.size) (t:=T) (by simp);obtain⟨c4_10,c4_11,c4_12⟩:=HP4.out.own.tk (b:=X.heap.size) (t:=nm) (by simp);)
    | (go_at_call 294;refine(QIsP HE.out HP2.out pY rfl HB1.out).mono ?_;rintro e w3 ⟨rfl,hp⟩;have HP3:=Hd hp;clear hp;have HN3:=HN2;have HS3:=Hd (IP HS2.out HB1.out);obtain⟨c3_00,c3_01,c3_02⟩:=HP3.out.own.tk (b:=w1.heap.size) (t:=T) (by simp);obtain⟨c3_10,c3_11,c3_12⟩:=HP3.out.own.tk (b:=X.heap.size) (t:=nm) (by simp);))
   cases hu:isP c.E s7 CD with
   | true=>
     have HU:=Hd hu;clear hu;obtain⟨U,hU⟩:∃U,zi c.E s7.take=U:=⟨_,rfl⟩
     have HLU:=Hd hU;clear hU;cases hz:(U.text==[48])with
     | true=>
       have HZ:=Hd hz
       go_wp2_with (first
        | (go_at_call 242;refine(oE HE.out HP10.out HLU.out).mono ?_;rintro e w11 ⟨rfl,hb⟩)
        | (go_at_call 241;refine(zM HE.out HP9.out HLU.out).mono ?_;rintro e w10 ⟨rfl,hp⟩;have HP10:=Hd hp;clear hp;have HN10:=HN9;obtain⟨c10_00,c10_01,c10_02⟩:=HP10.out.own.tk (b:=w1.heap.size) (t:=T) (by simp);obtain⟨c10_10,c10_11,c10_12⟩:=HP10.out.own.tk (b:=X.heap.size) (t:=nm) (by simp);)
        | (go_at_call 320;refine(eY HE.out HP8.out _ HU.out).mono ?_;rintro e w9 ⟨rfl,hp⟩;have HP9:=Hd hp;clear hp;have HN9:Hid (s.next<_):=Hd (Nat.lt_succ_of_le (Nat.le_of_lt HN8.out));obtain⟨c9_00,c9_01,c9_02⟩:=HP9.out.own.tk (b:=w1.heap.size) (t:=T) (by simp);obtain⟨c9_10,c9_11,c9_12⟩:=HP9.out.own.tk (b:=X.heap.size) (t:=nm) (by simp);))
       exact⟨rfl,.er (zk HS8.out (vO HU.out HLU.out HZ.out)) hb⟩
     | false=>
       have HZ:=Hd hz
       go_wp2_with (first
        | (go_at_call 316;refine(oD HE.out HP14.out 42 nm T.text v HLK14.out).mono ?_;rintro e w15 ⟨rfl,hp⟩;have HP15:=Hd hp;clear hp)
        | (at_builtin;have hpa:=(HP13.out.alloc (.cells #[intV a13] 3)).drop;have hbl:=(show l8.length≤901 by have h1:=HLB4.out;have h2:=congrArg List.length HLE8.out;simp at h1 h2⊢;omega);refine zR (news:=[a13]) rfl (.tmp 42) (.tmp 45) rfl rfl (HLK8.out.own _ hpa.own.left) rfl (aK _ _ _) (by omega) (by have:=hpa.lt;omega) ?_;intro aa14 cc14 w14 l14 HLE14 hle14 hown14 hkeep14 hap14;obtain⟨K14,hk14,hp14⟩:=hpa.appended HLK8.out hown14 hkeep14 hap14;have HLK14:=Hd hk14;have HP14:=Hd hp14;have HS14:=HS13;have HN14:=HN13;clear hpa hown14 hkeep14 hap14 hk14 hp14;obtain⟨c14_00,c14_01,c14_02⟩:=HP14.out.own.tk (b:=w1.heap.size) (t:=T) (by simp);obtain⟨c14_10,c14_11,c14_12⟩:=HP14.out.own.tk (b:=X.heap.size) (t:=nm) (by simp);)
        | (go_at_call 322;refine(Hexpr.out _ HN12.out _ _ _ HP12.out).mono ?_;rintro e w13 (⟨ps,hr,rfl,hb⟩|⟨a13,s13,hr,rfl,hn,hp⟩);(exact⟨rfl,.er (zk HS12.out hr) hb⟩);have HS13:=Hd (zj HS12.out hr);have HP13:=Hd hp;clear hp hr;have HN13:=Hd (Nat.lt_of_lt_of_le HN12.out hn);clear hn;obtain⟨c13_00,c13_01,c13_02⟩:=HP13.out.own.tk (b:=w1.heap.size) (t:=T) (by simp);obtain⟨c13_10,c13_11,c13_12⟩:=HP13.out.own.tk (b:=X.heap.size) (t:=nm) (by simp);)
        | (go_at_call 244;refine(bC HE.out HP11.out _).mono ?_;rintro e w12 (⟨ps,hr,rfl,hb⟩|⟨hr,-,rfl,hp⟩);(exact⟨rfl,.er (zk HS11.out hr) hb⟩);have HS12:=Hd (zj HS11.out hr);have HP12:=Hd hp;clear hp hr;have HN12:Hid (s.next<_):=Hd (Nat.lt_succ_of_le (Nat.le_of_lt HN11.out));obtain⟨c12_00,c12_01,c12_02⟩:=HP12.out.own.tk (b:=w1.heap.size) (t:=T) (by simp);obtain⟨c12_10,c12_11,c12_12⟩:=HP12.out.own.tk (b:=X.heap.size) (t:=nm) (by simp);)
        | (go_at_call 321;refine(jP HE.out HP10.out).mono ?_;rintro e w11 (⟨ps,hr,rfl,hb⟩|⟨hr,-,he,hv0,hv1,hp⟩);(exact⟨rfl,.er (zk HS8.out (zk (nP HU.out HLU.out HZ.out) hr)) hb⟩);have hu:=zj (nP HU.out HLU.out HZ.out) hr;have q:=zj HS8.out hu;clear hu;rw[HLU.out]at he hv0 hv1;subst he;obtain⟨v,hv⟩:∃v,valP U.text=v:=⟨_,rfl⟩;rw[hv]at q hv0 hv1;rw[hv];clear hv;have HS11:=Hd q;have HP11:=Hd hp;clear hp hr q;have HN11:Hid (s.next<_):=Hd (Nat.lt_succ_of_le (Nat.le_of_lt HN10.out));obtain⟨c11_00,c11_01,c11_02⟩:=HP11.out.own.tk (b:=w1.heap.size) (t:=T) (by simp);obtain⟨c11_10,c11_11,c11_12⟩:=HP11.out.own.tk (b:=X.heap.size) (t:=nm) (by simp);)
        | (go_at_call 241;refine(zM HE.out HP9.out HLU.out).mono ?_;rintro e w10 ⟨rfl,hp⟩;have HP10:=Hd hp;clear hp;have HN10:=HN9;obtain⟨c10_00,c10_01,c10_02⟩:=HP10.out.own.tk (b:=w1.heap.size) (t:=T) (by simp);obtain⟨c10_10,c10_11,c10_12⟩:=HP10.out.own.tk (b:=X.heap.size) (t:=nm) (by simp);)
        | (go_at_call 320;refine(eY HE.out HP8.out _ HU.out).mono ?_;rintro e w9 ⟨rfl,hp⟩;have HP9:=Hd hp;clear hp;have HN9:Hid (s.next<_):=Hd (Nat.lt_succ_of_le (Nat.le_of_lt HN8.out));obtain⟨c9_00,c9_01,c9_02⟩:=HP9.out.own.tk (b:=w1.heap.size) (t:=T) (by simp);obtain⟨c9_10,c9_11,c9_12⟩:=HP9.out.own.tk (b:=X.heap.size) (t:=nm) (by simp);))
       go_ret;have hS:S=.ok ((s13.nodes.length:Int),addP s13 42 nm T.text v l14):=by rw[HS14.out,HLE14.out,HLE8.out];rfl
       exact .ok hS (Nat.le_of_lt HN14.out) (HP15.out.drop.drop.less (by omega))
   | false=>
     have HU:=Hd hu;clear hu
     go_wp2_with (first
      | (go_at_call 316;refine(oD HE.out HP14.out 42 nm T.text 0 HLK14.out).mono ?_;rintro e w15 ⟨rfl,hp⟩;have HP15:=Hd hp;clear hp)
      | (at_builtin;have hpa:=(HP13.out.alloc (.cells #[intV a13] 3)).drop;have hbl:=(show l8.length≤901 by have h1:=HLB4.out;have h2:=congrArg List.length HLE8.out;simp at h1 h2⊢;omega);refine zR (news:=[a13]) rfl (.tmp 42) (.tmp 45) rfl rfl (HLK8.out.own _ hpa.own.left) rfl (aK _ _ _) (by omega) (by have:=hpa.lt;omega) ?_;intro aa14 cc14 w14 l14 HLE14 hle14 hown14 hkeep14 hap14;obtain⟨K14,hk14,hp14⟩:=hpa.appended HLK8.out hown14 hkeep14 hap14;have HLK14:=Hd hk14;have HP14:=Hd hp14;have HS14:=HS13;have HN14:=HN13;clear hpa hown14 hkeep14 hap14 hk14 hp14;obtain⟨c14_00,c14_01,c14_02⟩:=HP14.out.own.tk (b:=w1.heap.size) (t:=T) (by simp);obtain⟨c14_10,c14_11,c14_12⟩:=HP14.out.own.tk (b:=X.heap.size) (t:=nm) (by simp);)
      | (go_at_call 322;refine(Hexpr.out _ HN12.out _ _ _ HP12.out).mono ?_;rintro e w13 (⟨ps,hr,rfl,hb⟩|⟨a13,s13,hr,rfl,hn,hp⟩);(exact⟨rfl,.er (zk HS12.out hr) hb⟩);have HS13:=Hd (zj HS12.out hr);have HP13:=Hd hp;clear hp hr;have HN13:=Hd (Nat.lt_of_lt_of_le HN12.out hn);clear hn;obtain⟨c13_00,c13_01,c13_02⟩:=HP13.out.own.tk (b:=w1.heap.size) (t:=T) (by simp);obtain⟨c13_10,c13_11,c13_12⟩:=HP13.out.own.tk (b:=X.heap.size) (t:=nm) (by simp);)
      | (go_at_call 244;refine(bC HE.out HP11.out _).mono ?_;rintro e w12 (⟨ps,hr,rfl,hb⟩|⟨hr,-,rfl,hp⟩);(exact⟨rfl,.er (zk HS11.out hr) hb⟩);have HS12:=Hd (zj HS11.out hr);have HP12:=Hd hp;clear hp hr;have HN12:Hid (s.next<_):=Hd (Nat.lt_succ_of_le (Nat.le_of_lt HN11.out));obtain⟨c12_00,c12_01,c12_02⟩:=HP12.out.own.tk (b:=w1.heap.size) (t:=T) (by simp);obtain⟨c12_10,c12_11,c12_12⟩:=HP12.out.own.tk (b:=X.heap.size) (t:=nm) (by simp);)
      | (go_at_call 320;refine(dE HE.out HP8.out _ HU.out).mono ?_;rintro e w9 ⟨rfl,hp⟩;have HP11:=Hd hp;clear hp;have HN11:=HN8;have HS11:=Hd (zj HS8.out (GJ HU.out));obtain⟨c11_00,c11_01,c11_02⟩:=HP11.out.own.tk (b:=w1.heap.size) (t:=T) (by simp);obtain⟨c11_10,c11_11,c11_12⟩:=HP11.out.own.tk (b:=X.heap.size) (t:=nm) (by simp);))
     go_ret;have hS:S=.ok ((s13.nodes.length:Int),addP s13 42 nm T.text 0 l14):=by rw[HS14.out,HLE14.out,HLE8.out];rfl
     exact .ok hS (Nat.le_of_lt HN14.out) (HP15.out.drop.drop.less (by omega))
end
end Go.Proofs.YtokdgiphdnjeoaaGreatDoor
