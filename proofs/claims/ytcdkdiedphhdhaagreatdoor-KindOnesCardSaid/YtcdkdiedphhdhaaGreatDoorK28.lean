/- Part of a proof. -/
import Derived.Test.YtcdkdiedphhdhaaGreatDoorK27
import Derived.Maps.OwnSet
set_option maxRecDepth 100000
set_option maxHeartbeats 8000000
set_option linter.unusedVariables false
set_option linter.unusedSimpArgs false
open Go.Proofs.Tryz
namespace Go.Proofs.YtcdkdiedphhdhaaGreatDoor
section
open Go Go.RowKit Go.Maps
theorem ze{P:Program}(w:World){ops:Array Oper}{rest:List Oper}{o:Oper}{a:Act}{Q:Exit->Act->World->Prop}
 (hg:o.guard=none)(m x v:Operand)(t:TypeId)(hop:o.op=Op.insert t m x v)(k e:TypeId)(K:Keyed P k)(ht:P.underlying t=some (.map k e))(R:Value->Option (DataW Unit×List MemPlace))(b n:Nat)(D:DataW Unit)
 (hm:a.eval m=.map (some b))(hown:w.ownsMap P k R b n D)(hn:n<maxLen)(key val:Value)(kl:Lit)(hx:a.eval x=key)(hv:a.eval v=val)(hkey:keyOf P k key=some kl)(d:DataW Unit)(ps:List MemPlace)(hval:R val=some (d,ps))
 (hK:∀w',w'.ownsMap P k R b (n+1) (D.put kl d)->w.grownBy w' (some b)->wpList P ops Q rest (a.put o.dst undef) w'):wpList P ops Q (o::rest) a w:=by
 refine wpList_plain hg fun K' hK'=>?_;obtain⟨w',ha,r1,r2⟩:=hown.update K ht hn hkey hval;unfold Oper.wp;simp[execOp,hop,hm,hx,hv,ha,Result.andThen];exact hK' _ _ (hK w' r1 r2)
theorem nQ:prog.underlying 9=some .string:=by kernel_rfl
theorem zF:Keyed prog 9:=string_keyed nQ
def rdV:Value->Option (DataW Unit×List MemPlace)
 |.int .u8 n=>some (.lit (.int .u8 n),[])
 |.int .i64 n=>some (.lit (.int .i64 n),[])
 |.func (.func f) a b=>if a = #[]/\b = #[]then some (.ptr (.lit (.int .i64 f)),[])else none
 |.nilFunc=>some (.nil,[])
 |_=>none
theorem eV{D:DataW Unit}(hD:IsMap D)(k x:List UInt8)(d z:DataW Unit):(D.put (.string k) d).atKey (.string x) z=if x=k then d else D.atKey (.string x) z:=by
 by_cases h:x=k
 .subst h
  rw[if_pos rfl];exact atKey_put_same hD (show WideAt.IsKeyLit (.string x)from trivial) d z
 .rw[if_neg h]
  exact atKey_put_other (by intro e;injection e with e;exact h e) d z
theorem aI{D:DataW Unit}(hD:IsMap D)(k:Lit)(d:DataW Unit):IsMap (D.put k d):=by
 obtain⟨es,rfl⟩:=hD;exact⟨_,rfl⟩
theorem RO{v:Value}{n:Int}{ps:List MemPlace}(h:rdV v=some (.lit (.int .u8 n),ps)):v=.int .u8 n:=by
 unfold rdV at h;split at h<;>simp at h;rw[h.1]
theorem AK{v:Value}{n:Int}{ps:List MemPlace}(h:rdV v=some (.lit (.int .i64 n),ps)):v=.int .i64 n:=by
 unfold rdV at h;split at h<;>simp at h;rw[h.1]
theorem RN{v:Value}{n:Nat}{ps:List MemPlace}(h:rdV v=some (.ptr (.lit (.int .i64 n)),ps)):v=.func (.func n) #[] #[]:=by
 unfold rdV at h;split at h<;>simp at h;obtain⟨⟨rfl,rfl⟩,h1,_⟩:=h;first|rw[h1]|rw[Int.ofNat_inj.1 h1]
abbrev OwnS(X:World)(b n:Nat)(D:DataW Unit):Prop:=X.ownsMap prog 9 rdV b n D
theorem nG{X:World}{b n:Nat}{D:DataW Unit}(h:OwnS X b n D):∃es clock,X.heap[b]?=some (.map es clock)/\∀Y:World,Y.heap[b]?=some (.map es clock)->OwnS Y b n D:=by
 obtain⟨es,clock,hb,F,hs,hD⟩:=h;exact⟨es,clock,hb,fun Y hY=>⟨es,clock,hY,F,hs,hD⟩⟩
theorem zR{s:List UInt8}(h:s.length<=1000000):keyOf prog 9 (strV s)=some (.string s):=WideMaps.keyOf_string_mk nQ (s:=⟨s.toArray⟩) (by simp[ByteArray.size,maxLen];omega)
theorem eB:prog.underlying 273=some (.map 9 5):=by kernel_rfl
theorem fX:prog.underlying 74=some (.map 9 3):=by kernel_rfl
theorem QM(w:World):(zeroValue 5).run prog w=.ok (.int .u8 0) w:=by kernel_rfl
theorem uE(w:World):(zeroValue 3).run prog w=.ok (.int .i64 0) w:=by kernel_rfl
theorem qJ{X:World}{b n:Nat}{D:DataW Unit}(h:OwnS X b n D){s:List UInt8}(hs:s.length<=1000000){k:Int}(hk:D.atKey (.string s) (.lit (.int .u8 0))=.lit (.int .u8 k)) :
 (Instr.lookup 273 (.map (some b)) (strV s) false).run prog X=.ok (.int .u8 k) X:=by
 obtain⟨v,ps,ha,hv⟩:=h.lookup zF eB (QM X) (zd:=.lit (.int .u8 0)) (zp:=[]) rfl (zR hs);rw[hk]at hv;rw[ha,RO hv]
theorem NB{X:World}{b n:Nat}{D:DataW Unit}(h:OwnS X b n D){s:List UInt8}(hs:s.length<=1000000){k:Int}(hk:D.atKey (.string s) (.lit (.int .i64 0))=.lit (.int .i64 k)) :
 (Instr.lookup 74 (.map (some b)) (strV s) false).run prog X=.ok (.int .i64 k) X:=by
 obtain⟨v,ps,ha,hv⟩:=h.lookup zF fX (uE X) (zd:=.lit (.int .i64 0)) (zp:=[]) rfl (zR hs);rw[hk]at hv;rw[ha,AK hv]
structure KMap (b:Nat) (o:Obj) (kinds:List UInt8->Int):Prop where
 look:∀(X:World) (s:List UInt8),X.heap[b]?=some o->s.length<=1000000->(Instr.lookup 273 (.map (some b)) (strV s) false).run prog X=.ok (.int .u8 (kinds s)) X
 zero:kinds []=0
theorem PQ.map{c:PC}{s:PS}{F:List (Nat×Obj)}{d:Nat}{X Y:World}(h:PQ c s F d X)(hg:(X.alloc (.map #[] 0)).grownBy Y (some X.heap.size)){n:Nat}{D:DataW Unit}(ho:OwnS Y X.heap.size n D) :
 ∃o,PQ c s ((X.heap.size,o)::F) d Y/\∀Z:World,Z.heap[X.heap.size]?=some o->OwnS Z X.heap.size n D:=by
 obtain⟨es,clock,hb,ha⟩:=nG ho;refine⟨_,?_,ha⟩;have h1:=h.alloc (.map #[] 0);have ht:Turns (fun i=>i=X.heap.size) (X.alloc (.map #[] 0)) Y:=⟨hg.os,hg.tape,hg.output,hg.size,fun i hi hn=>hg.block i hi (by simpa using hn)⟩
 have h2:=h1.turned ht;obtain⟨⟨G,g⟩,hd⟩:=h1;have hG:=(g.out _ (List.mem_cons_self ..))
 have hn:=(List.nodup_cons.1 g.nd).1;obtain⟨⟨G2,g2⟩,-⟩:=h2;have hc:IsPar c.w0 c.E c.ta c.tc c.iv s G Y:=g.par.turns ht (fun i hi e=>hG.2 (by subst e;exact hi)) (fun i e=>by subst e;simp only at hG;omega);refine⟨⟨G,hc,fun p hp=>?_,fun p hp=>g.out ⟨p.1,p.2⟩ |> fun q=>?_,?_⟩,hd⟩
 .rcases List.mem_cons.1 hp with rfl|hp
  .exact hb
  .exact g2.own p hp
 .rcases List.mem_cons.1 hp with rfl|hp
  .exact hG
  .exact g.out p (List.mem_cons_of_mem _ hp)
 .exact List.nodup_cons.2 ⟨hn,(List.nodup_cons.1 g.nd).2⟩
theorem SH{D:DataW Unit}(hD:D=(DataW.map []).put (.string wOr) (.lit (.int .u8 18)))(x:List UInt8):D.atKey (.string x) (.lit (.int .u8 0))=.lit (.int .u8 (orK x)):=by
 subst hD;rw[eV ⟨_,rfl⟩];unfold orK;split<;>rfl
theorem RD{D:DataW Unit}(hD:D=(DataW.map []).put (.string wAnd) (.lit (.int .u8 17)))(x:List UInt8):D.atKey (.string x) (.lit (.int .u8 0))=.lit (.int .u8 (andK x)):=by
 subst hD;rw[eV ⟨_,rfl⟩];unfold andK;split<;>rfl
theorem RF{D:DataW Unit}(hD:D=((DataW.map []).put (.string [43]) (.lit (.int .u8 6))).put (.string [45]) (.lit (.int .u8 7)))(x:List UInt8):D.atKey (.string x) (.lit (.int .u8 0))=.lit (.int .u8 (sumK x)):=by
 subst hD;rw[eV (aI ⟨_,rfl⟩ _ _),eV ⟨_,rfl⟩];unfold sumK;by_cases h1:x=[43]
 .subst h1;rfl
 .by_cases h2:x=[45]
  .subst h2;rfl
  .simp only[h1,h2,if_false];rfl
theorem PY{D:DataW Unit}(hD:D=(((DataW.map []).put (.string [42]) (.lit (.int .u8 8))).put (.string [47]) (.lit (.int .u8 9))).put (.string [37]) (.lit (.int .u8 10)))(x:List UInt8):D.atKey (.string x) (.lit (.int .u8 0))=.lit (.int .u8 (tW x)):=by
 subst hD;rw[eV (aI (aI ⟨_,rfl⟩ _ _) _ _),eV (aI ⟨_,rfl⟩ _ _),eV ⟨_,rfl⟩];unfold tW;by_cases h1:x=[42]
 .subst h1;rfl
 .by_cases h2:x=[47]
  .subst h2;rfl
  .by_cases h3:x=[37]
   .subst h3;rfl
   .simp only[h1,h2,h3,if_false];rfl
theorem RE{D:DataW Unit}(hD:D=((((((DataW.map []).put (.string [61,61]) (.lit (.int .u8 11))).put (.string [33,61]) (.lit (.int .u8 12))).put (.string [60]) (.lit (.int .u8 13))).put (.string [60,61]) (.lit (.int .u8 14))).put (.string [62]) (.lit (.int .u8 15))).put (.string [62,61]) (.lit (.int .u8 16)))(x:List UInt8) :
 D.atKey (.string x) (.lit (.int .u8 0))=.lit (.int .u8 (cmpK x)):=by
 subst hD;rw[eV (aI (aI (aI (aI (aI ⟨_,rfl⟩ _ _) _ _) _ _) _ _) _ _),eV (aI (aI (aI (aI ⟨_,rfl⟩ _ _) _ _) _ _) _ _),eV (aI (aI (aI ⟨_,rfl⟩ _ _) _ _) _ _),eV (aI (aI ⟨_,rfl⟩ _ _) _ _),eV (aI ⟨_,rfl⟩ _ _),eV ⟨_,rfl⟩];unfold cmpK;by_cases h1:x=[61,61]
 .subst h1;rfl
 .by_cases h2:x=[33,61]
  .subst h2;rfl
  .by_cases h3:x=[60]
   .subst h3;rfl
   .by_cases h4:x=[60,61]
    .subst h4;rfl
    .by_cases h5:x=[62]
     .subst h5;rfl
     .by_cases h6:x=[62,61]
      .subst h6;rfl
      .simp only[h1,h2,h3,h4,h5,h6,if_false];rfl
end
section
open Go Go.RowKit
theorem vT{below:RdP}{E:PE}{kinds:List UInt8->Int}{once:Bool}{f:Nat}{a:Int}{s:PS}(h:(kinds (zh E s).text==0)=true):gG below E kinds once f a s=.ok (a,s):=by
 cases f with
 |zero=>rfl
 |succ f=>unfold gG;rw[if_pos h]
theorem AC{below:RdP}{E:PE}{kinds:List UInt8->Int}{f:Nat}{a:Int}{s:PS}(h:(kinds (zh E s).text==0)=false):gG below E kinds true (f+1) a s=(below s.take).bind fun r=>.ok ((r.2.nodes.length:Int),addP r.2 (kinds (zh E s).text) (zh E s) [] 0 [a,r.1]):=by
 conv=>lhs;unfold gG
 rw[if_neg (by rw[h];exact Bool.false_ne_true)];rfl
theorem AB{below:RdP}{E:PE}{kinds:List UInt8->Int}{f:Nat}{a:Int}{s:PS}(h:(kinds (zh E s).text==0)=false):gG below E kinds false (f+1) a s=(below s.take).bind fun r=>gG below E kinds false f r.2.nodes.length (addP r.2 (kinds (zh E s).text) (zh E s) [] 0 [a,r.1]):=by
 conv=>lhs;unfold gG
 rw[if_neg (by rw[h];exact Bool.false_ne_true)];rfl
theorem tX{c:PC}(he:OkC c)(s:PS):(zh c.E s).text.length<=1000000:=by
 by_cases h:s.next<c.E.toks.length
 .have:=he.text _ (dU h);omega
 .rw[jN (by omega)];simp
theorem zs{a b c:World}{row:Option Nat}(h:a.grownBy b row)(k:b.grownBy c row):a.grownBy c row:=
 ⟨k.os.trans h.os,k.tape.trans h.tape,k.output.trans h.output,Nat.le_trans h.size k.size,fun i hi hn=>(k.block i (Nat.lt_of_lt_of_le hi h.size) hn).trans (h.block i hi hn)⟩
abbrev lvO(b:Nat)(fn:FuncId)(once:Bool):Obj:=.cells #[.map (some b),.func (.func fn) #[] #[],.bool once] 275
theorem Own.lv{F:List (Nat×Obj)}{X:World}(h:Own F X){g b:Nat}{fn:FuncId}{once:Bool}(hm:(g,lvO b fn once)∈F):X.cell? ⟨g,0,none⟩=some (.map (some b))/\X.cell? ⟨g,1,none⟩=some (.func (.func fn) #[] #[])/\X.cell? ⟨g,2,none⟩=some (.bool once):=
 ⟨za (h _ hm) rfl,za (h _ hm) rfl,za (h _ hm) rfl⟩
theorem iG{c:PC}(he:OkC c){fn:FuncId}(hfn:∀(args:Array Value) (w:World),(callFunc fn args).run prog w=.ok (.enter fn args) w){below:RdP}{s:PS}(hbl:∀s',s.next<=s'.next->zx c fn below s'){b:Nat}{o:Obj}{kinds:List UInt8->Int}(hkm:KMap b o kinds){F:List (Nat×Obj)}{d:Nat}{X:World}(h:PQ c s ((b,o)::F) d X) :
 Calls prog 217 #[.agg #[.map (some b),.func (.func fn) #[] #[],.bool false],c.ptr] X (RdI c F d s.next (eD below c.E kinds false s)):=by
 have HE:=Hd he;have HB:=Hd hbl;have HM:=Hd hkm;have Hj:=Hd (h.alloc (lvO b fn false));have hf:=he.many;obtain⟨S,hS⟩:∃S,eD below c.E kinds false s=S:=⟨_,rfl⟩
 rw[hS];unfold eD at hS;have Hk:=Hd hS.symm;obtain⟨l0,l1,l2⟩:=Hj.o.own.lv (g:=X.heap.size) (b:=b) (fn:=fn) (once:=false) (by simp);clear he hbl hkm h hS;have hj:prog.follows .mixedOrders=true:=by kernel_rfl
 go_enter func217,ntmps217
 go_wp2_with (guard_target =~ Calls _ fn _ _ _;refine(HB.o s nlr _ _ _ Hj.o).mono ?_;rintro e w1 (⟨ps,hr,rfl,hb⟩|⟨a1,s1,hr,rfl,hn,hp⟩);(exact⟨rfl,.er (bG Hk.o hr) hb⟩);have Hq:=Hd (bH Hk.o hr);have Hp:=Hd hp;have Hn:=Hd hn;clear hr hn hp l0 l1 l2)
 go_loopw [5] (fun t5 wr=>∃(a:Int) (sk:PS) (f:Nat),t5=intV a/\Hid (S=gG below c.E kinds false f a sk)/\Hid (s.next<=sk.next/\c.E.toks.length+1<=f+sk.next)/\Hid (PQ c sk ((X.heap.size,lvO b fn false)::(b,o)::F) d wr)) (fun _ wr=>tI c wr)
 case atStart=>exact⟨a1,s1,_,rfl,Hq,Hd ⟨Hn.o,by simp⟩,Hp⟩
 case round=>
  obtain⟨a,sk,f,rfl,Hl,Hb,Hf⟩:=hrel;have hm:=Hf.o.next;have Hm:=Hd Hf.o.meas;obtain⟨T,hT⟩:∃T,zh c.E sk=T:=⟨_,rfl⟩
  have HT:=Hd hT;have Hs:=Hd (tX HE.o sk);obtain⟨k,hk⟩:∃k,kinds T.text=k:=⟨_,rfl⟩
  have HK:=Hd hk
  have Hi:Hid (∀Z:World,PQ c sk ((X.heap.size,lvO b fn false)::(b,o)::F) d Z->(Instr.lookup 273 (.map (some b)) (strV T.text) false).run prog (Z.alloc (tkO T))=.ok (.int .u8 k) (Z.alloc (tkO T))):=Hd (fun Z hZ=>by
   have:=HM.o.look (Z.alloc (tkO T)) T.text ((hZ.alloc (tkO T)).own (b,o) (by simp)) (by rw[<-HT.o];exact Hs.o)
   rw[HK.o]at this;exact this)
  cases hz:(k==0)with
  | true=>
    have Hg:=Hd (Hl.o.trans (vT (by rw[hT,hk];exact hz)));clear hT hk
    go_wp2_with (go_at_call 131;refine(cU HE.o Hf.o HT.o).mono ?_;rintro e w2 ⟨rfl,hp⟩;have hh:=Hi.o _ hp;have Ha:=Hd (hp.alloc (tkO T));obtain⟨l0,l1,l2⟩:=Ha.o.own.lv (g:=X.heap.size) (b:=b) (fn:=fn) (once:=false) (by simp);clear hp)
    go_ret;exact .ok Hg.o Hb.o.1 Ha.o.drop.drop.drop
  | false=>
    have hi:=mD (E:=c.E) (s:=sk) HM.o.zero (by rw[hT,hk];exact hz);obtain⟨f,rfl⟩:∃g,f=g+1:=⟨f-1,by have:=Hb.o.2;omega⟩
    have hc:=Hl.o.trans (AB (by rw[hT,hk];exact hz));rw[hT,hk]at hc;have Hg:=Hd hc;clear hT hk hc
    go_wp2_with (first
     | (go_at_call 131;refine(cU HE.o Hf.o HT.o).mono ?_;rintro e w2 ⟨rfl,hp⟩;have hh:=Hi.o _ hp;have Ha:=Hd (hp.alloc (tkO T));obtain⟨l0,l1,l2⟩:=Ha.o.own.lv (g:=X.heap.size) (b:=b) (fn:=fn) (once:=false) (by simp);obtain⟨c0,c1,c2⟩:=Ha.o.own.tk (b:=w2.heap.size) (t:=T) (by simp);clear hp)
     | (go_at_call 133;refine(lR HE.o Ha.o HT.o hi).mono ?_;rintro e w3 ⟨rfl,hp⟩;have Hh:=Hd hp;clear hp))
    refine N.region_C [false,false,false,false,false,false,false,true,true,true,true] [?vC1_0,?vC1_1,?vC1_2,?vC1_3,?vC1_4,?vC1_5,?vC1_6,undef,undef,undef,undef] hj (by kernel_rfl) (by kernel_rfl) (by kernel_rfl) (by kernel_rfl) rfl rfl (fun ch w=>RdI c F d s.next S (.panicked ch) w) (fun ch b w hd h=>⟨hd,h⟩) (fun Wz=>Wz.heap[w2.heap.size]?=some (tkO T)/\Wz.heap[X.heap.size]?=some (lvO b fn false)) ⟨Hh.o.drew.own (w2.heap.size,tkO T) (by simp),Hh.o.drew.own (X.heap.size,lvO b fn false) (by simp)⟩ ?wC1_ ?_
    case wC1_=>
     iterate 7 (refine N.WalkC.still (N.StillP.known rfl ?_) ?_;(intro W hJ;obtain⟨ha,hg⟩:=hJ;have j00:=za (i:=0) ha rfl;have j01:=za (i:=1) ha rfl;have j02:=za (i:=2) ha rfl;have j11:=za (i:=1) hg rfl;go_simp;rfl);simp only[N.pz])
     refine N.WalkC.chain fun u7=>?_;simp only[N.pz];refine N.WalkC.chain fun u8=>?_;simp only[N.pz];refine N.WalkC.chain fun u9=>?_;simp only[N.pz];refine N.WalkC.chain fun u10=>?_;simp only[N.pz];exact .nil
    iterate 7 (refine N.TailC.still ?_;simp only[N.pz])
    refine N.TailC.call (f:=fn) (args:=#[c.ptr]) rfl ?a7 ?_;case a7=>go_simp;try rfl
    refine(HB.o sk.take (by have:=Hb.o.1;simp only[PS.take];omega) _ _ _ Hh.o.drew).mono ?_;rintro e w4 (⟨ps,hr,rfl,hb⟩|⟨a4,s4,hr,rfl,hn,hp⟩)
    .exact .inr ⟨_,rfl,.er (bG Hg.o hr) hb⟩
    have Hr:=Hd (bH Hg.o hr);have Hc:=Hd hp;have Ho:=Hd hn;clear hp hn hr;refine .inl ⟨_,rfl,(fun _=>⟨Hc.o.own (w2.heap.size,tkO T) (by simp),Hc.o.own (X.heap.size,lvO b fn false) (by simp)⟩),?_⟩;simp only[N.pz];refine N.TailC.run (v:=.slice (some ⟨w4.heap.size,0,none⟩) 2 2) (w':=w4.alloc (.cells #[intV a,intV a4] 3)) rfl ?a8 (fun _=>⟨(Hc.o.alloc _).drop.own (w2.heap.size,tkO T) (by simp),(Hc.o.alloc _).drop.own (X.heap.size,lvO b fn false) (by simp)⟩) ?b8;case a8=>go_simp;try rfl
    simp only[N.pz];refine N.TailC.call (f:=199) (args:=#[c.ptr,.int .u8 k,tkA T,strV [],intV 0,.slice (some ⟨w4.heap.size,0,none⟩) 2 2]) rfl ?a9 ?_;case a9=>go_simp;try rfl
    refine(mR HE.o Hc.o k T [] 0 [a,a4] rfl).mono ?_;rintro e w5⟨rfl,hp⟩;have He:=Hd hp;clear hp;refine .inl ⟨_,rfl,(fun _=>⟨He.o.own (w2.heap.size,tkO T) (by simp),He.o.own (X.heap.size,lvO b fn false) (by simp)⟩),?_⟩;simp only[N.pz];refine N.TailC.run (v:=intV s4.nodes.length) (w':=w5) rfl ?a10 (fun h=>absurd rfl h) ?b10;case a10=>go_simp;try rfl
    simp only[N.pz];refine N.TailC.nil ?_;clear l0 l1 l2 c0 c1 c2;obtain⟨l0,l1,l2⟩:=He.o.own.lv (g:=X.heap.size) (b:=b) (fn:=fn) (once:=false) (by simp);go_wp2;have hl:sk.next+1<=s4.next:=Ho.o
    go_roundw
    case rel=>exact⟨_,_,f,rfl,Hr,Hd ⟨by have h1:=Hb.o.1;show s.next<=s4.next;omega,by have h1:=Hb.o.2;show _<=f+s4.next;omega⟩,Hd He.o.drop⟩
    case measure=>rw[He.o.meas,Hm.o];show c.E.toks.length-s4.next<_;omega
theorem QOrP{c:PC}(he:OkC c){below:RdP}{s:PS}(hbl:∀s',s.next<=s'.next->zx c 216 below s'):zx c 213 (eD below c.E orK false) s:=by
 intro F d X h;have HE:=Hd he;have HB:=Hd hbl;have HP:=Hd h;have hg:=@run_makeMap prog;have Hc:=Hd (show OwnS (X.alloc (.map #[] 0)) X.heap.size 0 (.map [])from World.ownsMap_made X _ _ _);have HG:Hid ((X.alloc (.map #[] 0)).grownBy (X.alloc (.map #[] 0)) (some X.heap.size)):=Hd ⟨rfl,rfl,rfl,nlr,fun _ _ _=>rfl⟩;clear he hbl h;go_enter func213,ntmps213
 go_wp2_with (first
  | (refine ze _ rfl _ _ _ 273 rfl 9 5 zF eB rdV X.heap.size 0 _ rfl Hc.o (by decide) _ _ (.string wOr) rfl rfl (zR (s:=wOr) (by decide)) (.lit (.int .u8 18)) [] rfl ?_;intro w1 hd hc;have Ha:=Hd hd;have Hb:=Hd (zs HG.o hc);clear hd hc)
  | (go_at_call 217;obtain⟨o,hp,ha⟩:=HP.o.map Hb.o Ha.o;refine(iG HE.o (fun _ _=>by go_simp) HB.o (kinds:=orK) (o:=o) ⟨fun Z x hZ hx=>qJ (ha Z hZ) hx (SH rfl x),rfl⟩ hp).mono ?_;rintro e w2 (⟨ps,hr,rfl,hb⟩|⟨a2,s2,hr,rfl,hn,hf⟩);(exact⟨rfl,.er hr hb⟩);have HR:=Hd hr;have He:=Hd hf;have HN:=Hd hn;clear hr hf hn ha hp))
 go_ret;exact .ok HR.o HN.o He.o
theorem RX{c:PC}(he:OkC c){below:RdP}{s:PS}(hbl:∀s',s.next<=s'.next->zx c 218 below s'):zx c 216 (eD below c.E andK false) s:=by
 intro F d X h;have HE:=Hd he;have HB:=Hd hbl;have HP:=Hd h;have hg:=@run_makeMap prog;have Hc:=Hd (show OwnS (X.alloc (.map #[] 0)) X.heap.size 0 (.map [])from World.ownsMap_made X _ _ _);have HG:Hid ((X.alloc (.map #[] 0)).grownBy (X.alloc (.map #[] 0)) (some X.heap.size)):=Hd ⟨rfl,rfl,rfl,nlr,fun _ _ _=>rfl⟩;clear he hbl h;go_enter func216,ntmps216
 go_wp2_with (first
  | (refine ze _ rfl _ _ _ 273 rfl 9 5 zF eB rdV X.heap.size 0 _ rfl Hc.o (by decide) _ _ (.string wAnd) rfl rfl (zR (s:=wAnd) (by decide)) (.lit (.int .u8 17)) [] rfl ?_;intro w1 hd hc;have Ha:=Hd hd;have Hb:=Hd (zs HG.o hc);clear hd hc)
  | (go_at_call 217;obtain⟨o,hp,ha⟩:=HP.o.map Hb.o Ha.o;refine(iG HE.o (fun _ _=>by go_simp) HB.o (kinds:=andK) (o:=o) ⟨fun Z x hZ hx=>qJ (ha Z hZ) hx (RD rfl x),rfl⟩ hp).mono ?_;rintro e w2 (⟨ps,hr,rfl,hb⟩|⟨a2,s2,hr,rfl,hn,hf⟩);(exact⟨rfl,.er hr hb⟩);have HR:=Hd hr;have He:=Hd hf;have HN:=Hd hn;clear hr hf hn ha hp))
 go_ret;exact .ok HR.o HN.o He.o
theorem yG{c:PC}(he:OkC c){fn:FuncId}(hfn:∀(args:Array Value) (w:World),(callFunc fn args).run prog w=.ok (.enter fn args) w){below:RdP}{s:PS}(hbl:∀s',s.next<=s'.next->zx c fn below s'){b:Nat}{o:Obj}{kinds:List UInt8->Int}(hkm:KMap b o kinds){F:List (Nat×Obj)}{d:Nat}{X:World}(h:PQ c s ((b,o)::F) d X) :
 Calls prog 217 #[.agg #[.map (some b),.func (.func fn) #[] #[],.bool true],c.ptr] X (RdI c F d s.next (eD below c.E kinds true s)):=by
 have HE:=Hd he;have HB:=Hd hbl;have HM:=Hd hkm;have Hj:=Hd (h.alloc (lvO b fn true));have hf:=he.many;obtain⟨S,hS⟩:∃S,eD below c.E kinds true s=S:=⟨_,rfl⟩
 rw[hS];unfold eD at hS;have Hk:=Hd hS.symm;obtain⟨l0,l1,l2⟩:=Hj.o.own.lv (g:=X.heap.size) (b:=b) (fn:=fn) (once:=true) (by simp);clear he hbl hkm h hS;have hj:prog.follows .mixedOrders=true:=by kernel_rfl
 go_enter func217,ntmps217
 go_wp2_with (guard_target =~ Calls _ fn _ _ _;refine(HB.o s nlr _ _ _ Hj.o).mono ?_;rintro e w1 (⟨ps,hr,rfl,hb⟩|⟨a1,s1,hr,rfl,hn,hp⟩);(exact⟨rfl,.er (bG Hk.o hr) hb⟩);have Hp:=Hd (bH Hk.o hr);have Ho:=Hd hp;have Hm:=Hd hn;clear hr hn hp l0 l1 l2)
 go_loopw [5] (fun t5 wr=>∃(a:Int) (sk:PS) (f:Nat),t5=intV a/\Hid (S=gG below c.E kinds true f a sk)/\Hid (s.next<=sk.next/\c.E.toks.length+1<=f+sk.next)/\Hid (PQ c sk ((X.heap.size,lvO b fn true)::(b,o)::F) d wr)) (fun _ wr=>tI c wr)
 case atStart=>exact⟨a1,s1,_,rfl,Hp,Hd ⟨Hm.o,by simp⟩,Ho⟩
 case round=>
  obtain⟨a,sk,f,rfl,Hl,Hc,Hf⟩:=hrel;have hl:=Hf.o.next;have Hs:=Hd Hf.o.meas;obtain⟨T,hT⟩:∃T,zh c.E sk=T:=⟨_,rfl⟩
  have HT:=Hd hT;have Hr:=Hd (tX HE.o sk);obtain⟨k,hk⟩:∃k,kinds T.text=k:=⟨_,rfl⟩
  have HK:=Hd hk
  have Hi:Hid (∀Z:World,PQ c sk ((X.heap.size,lvO b fn true)::(b,o)::F) d Z->(Instr.lookup 273 (.map (some b)) (strV T.text) false).run prog (Z.alloc (tkO T))=.ok (.int .u8 k) (Z.alloc (tkO T))):=Hd (fun Z hZ=>by
   have:=HM.o.look (Z.alloc (tkO T)) T.text ((hZ.alloc (tkO T)).own (b,o) (by simp)) (by rw[<-HT.o];exact Hr.o)
   rw[HK.o]at this;exact this)
  cases hz:(k==0)with
  | true=>
    have Hg:=Hd (Hl.o.trans (vT (by rw[hT,hk];exact hz)));clear hT hk
    go_wp2_with (go_at_call 131;refine(cU HE.o Hf.o HT.o).mono ?_;rintro e w2 ⟨rfl,hp⟩;have hh:=Hi.o _ hp;have Ha:=Hd (hp.alloc (tkO T));obtain⟨l0,l1,l2⟩:=Ha.o.own.lv (g:=X.heap.size) (b:=b) (fn:=fn) (once:=true) (by simp);clear hp)
    go_ret;exact .ok Hg.o Hc.o.1 Ha.o.drop.drop.drop
  | false=>
    have hi:=mD (E:=c.E) (s:=sk) HM.o.zero (by rw[hT,hk];exact hz);obtain⟨f,rfl⟩:∃g,f=g+1:=⟨f-1,by have:=Hc.o.2;omega⟩
    have hc:=Hl.o.trans (AC (by rw[hT,hk];exact hz));rw[hT,hk]at hc;have Hg:=Hd hc;clear hT hk hc
    go_wp2_with (first
     | (go_at_call 131;refine(cU HE.o Hf.o HT.o).mono ?_;rintro e w2 ⟨rfl,hp⟩;have hh:=Hi.o _ hp;have Ha:=Hd (hp.alloc (tkO T));obtain⟨l0,l1,l2⟩:=Ha.o.own.lv (g:=X.heap.size) (b:=b) (fn:=fn) (once:=true) (by simp);obtain⟨c0,c1,c2⟩:=Ha.o.own.tk (b:=w2.heap.size) (t:=T) (by simp);clear hp)
     | (go_at_call 133;refine(lR HE.o Ha.o HT.o hi).mono ?_;rintro e w3 ⟨rfl,hp⟩;have Hh:=Hd hp;clear hp))
    refine N.region_C [false,false,false,false,false,false,false,true,true,true,true] [?vC2_0,?vC2_1,?vC2_2,?vC2_3,?vC2_4,?vC2_5,?vC2_6,undef,undef,undef,undef] hj (by kernel_rfl) (by kernel_rfl) (by kernel_rfl) (by kernel_rfl) rfl rfl (fun ch w=>RdI c F d s.next S (.panicked ch) w) (fun ch b w hd h=>⟨hd,h⟩) (fun Wz=>Wz.heap[w2.heap.size]?=some (tkO T)/\Wz.heap[X.heap.size]?=some (lvO b fn true)) ⟨Hh.o.drew.own (w2.heap.size,tkO T) (by simp),Hh.o.drew.own (X.heap.size,lvO b fn true) (by simp)⟩ ?wC2_ ?_
    case wC2_=>
     iterate 7 (refine N.WalkC.still (N.StillP.known rfl ?_) ?_;(intro W hJ;obtain⟨ha,hg⟩:=hJ;have j00:=za (i:=0) ha rfl;have j01:=za (i:=1) ha rfl;have j02:=za (i:=2) ha rfl;have j11:=za (i:=1) hg rfl;go_simp;rfl);simp only[N.pz])
     refine N.WalkC.chain fun u7=>?_;simp only[N.pz];refine N.WalkC.chain fun u8=>?_;simp only[N.pz];refine N.WalkC.chain fun u9=>?_;simp only[N.pz];refine N.WalkC.chain fun u10=>?_;simp only[N.pz];exact .nil
    iterate 7 (refine N.TailC.still ?_;simp only[N.pz])
    refine N.TailC.call (f:=fn) (args:=#[c.ptr]) rfl ?a7 ?_;case a7=>go_simp;try rfl
    refine(HB.o sk.take (by have:=Hc.o.1;simp only[PS.take];omega) _ _ _ Hh.o.drew).mono ?_;rintro e w4 (⟨ps,hr,rfl,hb⟩|⟨a4,s4,hr,rfl,hn,hp⟩)
    .exact .inr ⟨_,rfl,.er (bG Hg.o hr) hb⟩
    have Hq:=Hd (bH Hg.o hr);have Hb:=Hd hp;have Hn:=Hd hn;clear hp hn hr;refine .inl ⟨_,rfl,(fun _=>⟨Hb.o.own (w2.heap.size,tkO T) (by simp),Hb.o.own (X.heap.size,lvO b fn true) (by simp)⟩),?_⟩;simp only[N.pz];refine N.TailC.run (v:=.slice (some ⟨w4.heap.size,0,none⟩) 2 2) (w':=w4.alloc (.cells #[intV a,intV a4] 3)) rfl ?a8 (fun _=>⟨(Hb.o.alloc _).drop.own (w2.heap.size,tkO T) (by simp),(Hb.o.alloc _).drop.own (X.heap.size,lvO b fn true) (by simp)⟩) ?b8;case a8=>go_simp;try rfl
    simp only[N.pz];refine N.TailC.call (f:=199) (args:=#[c.ptr,.int .u8 k,tkA T,strV [],intV 0,.slice (some ⟨w4.heap.size,0,none⟩) 2 2]) rfl ?a9 ?_;case a9=>go_simp;try rfl
    refine(mR HE.o Hb.o k T [] 0 [a,a4] rfl).mono ?_;rintro e w5⟨rfl,hp⟩;have He:=Hd hp;clear hp;refine .inl ⟨_,rfl,(fun _=>⟨He.o.own (w2.heap.size,tkO T) (by simp),He.o.own (X.heap.size,lvO b fn true) (by simp)⟩),?_⟩;simp only[N.pz];refine N.TailC.run (v:=intV s4.nodes.length) (w':=w5) rfl ?a10 (fun h=>absurd rfl h) ?b10;case a10=>go_simp;try rfl
    simp only[N.pz];refine N.TailC.nil ?_;clear l0 l1 l2 c0 c1 c2;obtain⟨l0,l1,l2⟩:=He.o.own.lv (g:=X.heap.size) (b:=b) (fn:=fn) (once:=true) (by simp);go_wp2;go_ret;exact .ok Hq.o (by have h1:=Hc.o.1;have h2:=Hn.o;simp only[PS.take]at h2;show s.next<=s4.next;omega) He.o.drop.drop.drop
theorem RZ{c:PC}(he:OkC c){below:RdP}{s:PS}(hbl:∀s',s.next<=s'.next->zx c 220 below s'):zx c 219 (eD below c.E cmpK true) s:=by
 intro F d X h;have HE:=Hd he;have HB:=Hd hbl;have HP:=Hd h;have ht:=@run_makeMap prog;have Hn:=Hd (show OwnS (X.alloc (.map #[] 0)) X.heap.size 0 (.map [])from World.ownsMap_made X _ _ _);have HG:Hid ((X.alloc (.map #[] 0)).grownBy (X.alloc (.map #[] 0)) (some X.heap.size)):=Hd ⟨rfl,rfl,rfl,nlr,fun _ _ _=>rfl⟩;clear he hbl h;go_enter func219,ntmps219
 go_wp2_with (first
  | (refine ze _ rfl _ _ _ 273 rfl 9 5 zF eB rdV X.heap.size 5 _ rfl Hf.o (by decide) _ _ (.string [62,61]) rfl rfl (zR (s:=[62,61]) (by decide)) (.lit (.int .u8 16)) [] rfl ?_;intro w6 hq hi;have Hg:=Hd hq;have Hm:=Hd (zs Hl.o hi);clear hq hi)
  | (refine ze _ rfl _ _ _ 273 rfl 9 5 zF eB rdV X.heap.size 4 _ rfl He.o (by decide) _ _ (.string [62]) rfl rfl (zR (s:=[62]) (by decide)) (.lit (.int .u8 15)) [] rfl ?_;intro w5 ho hh;have Hf:=Hd ho;have Hl:=Hd (zs Hk.o hh);clear ho hh)
  | (refine ze _ rfl _ _ _ 273 rfl 9 5 zF eB rdV X.heap.size 3 _ rfl Hc.o (by decide) _ _ (.string [60,61]) rfl rfl (zR (s:=[60,61]) (by decide)) (.lit (.int .u8 14)) [] rfl ?_;intro w4 hm hg;have He:=Hd hm;have Hk:=Hd (zs Hj.o hg);clear hm hg)
  | (refine ze _ rfl _ _ _ 273 rfl 9 5 zF eB rdV X.heap.size 2 _ rfl Hb.o (by decide) _ _ (.string [60]) rfl rfl (zR (s:=[60]) (by decide)) (.lit (.int .u8 13)) [] rfl ?_;intro w3 hl hf;have Hc:=Hd hl;have Hj:=Hd (zs Hi.o hf);clear hl hf)
  | (refine ze _ rfl _ _ _ 273 rfl 9 5 zF eB rdV X.heap.size 1 _ rfl Ha.o (by decide) _ _ (.string [33,61]) rfl rfl (zR (s:=[33,61]) (by decide)) (.lit (.int .u8 12)) [] rfl ?_;intro w2 hk hd;have Hb:=Hd hk;have Hi:=Hd (zs Hh.o hd);clear hk hd)
  | (refine ze _ rfl _ _ _ 273 rfl 9 5 zF eB rdV X.heap.size 0 _ rfl Hn.o (by decide) _ _ (.string [61,61]) rfl rfl (zR (s:=[61,61]) (by decide)) (.lit (.int .u8 11)) [] rfl ?_;intro w1 hj hc;have Ha:=Hd hj;have Hh:=Hd (zs HG.o hc);clear hj hc)
  | (go_at_call 217;obtain⟨o,hp,ha⟩:=HP.o.map Hm.o Hg.o;refine(yG HE.o (fun _ _=>by go_simp) HB.o (kinds:=cmpK) (o:=o) ⟨fun Z x hZ hx=>qJ (ha Z hZ) hx (RE rfl x),rfl⟩ hp).mono ?_;rintro e w2 (⟨ps,hr,rfl,hb⟩|⟨a2,s2,hr,rfl,hn,hs⟩);(exact⟨rfl,.er hr hb⟩);have HR:=Hd hr;have Ho:=Hd hs;have HN:=Hd hn;clear hr hs hn ha hp))
 go_ret;exact .ok HR.o HN.o Ho.o
theorem SD{c:PC}(he:OkC c){below:RdP}{s:PS}(hbl:∀s',s.next<=s'.next->zx c 221 below s'):zx c 220 (eD below c.E sumK false) s:=by
 intro F d X h;have HE:=Hd he;have HB:=Hd hbl;have HP:=Hd h;have hi:=@run_makeMap prog;have Hf:=Hd (show OwnS (X.alloc (.map #[] 0)) X.heap.size 0 (.map [])from World.ownsMap_made X _ _ _);have HG:Hid ((X.alloc (.map #[] 0)).grownBy (X.alloc (.map #[] 0)) (some X.heap.size)):=Hd ⟨rfl,rfl,rfl,nlr,fun _ _ _=>rfl⟩;clear he hbl h;go_enter func220,ntmps220
 go_wp2_with (first
  | (refine ze _ rfl _ _ _ 273 rfl 9 5 zF eB rdV X.heap.size 1 _ rfl Ha.o (by decide) _ _ (.string [45]) rfl rfl (zR (s:=[45]) (by decide)) (.lit (.int .u8 7)) [] rfl ?_;intro w2 hg hd;have Hb:=Hd hg;have He:=Hd (zs Hc.o hd);clear hg hd)
  | (refine ze _ rfl _ _ _ 273 rfl 9 5 zF eB rdV X.heap.size 0 _ rfl Hf.o (by decide) _ _ (.string [43]) rfl rfl (zR (s:=[43]) (by decide)) (.lit (.int .u8 6)) [] rfl ?_;intro w1 hf hc;have Ha:=Hd hf;have Hc:=Hd (zs HG.o hc);clear hf hc)
  | (go_at_call 217;obtain⟨o,hp,ha⟩:=HP.o.map He.o Hb.o;refine(iG HE.o (fun _ _=>by go_simp) HB.o (kinds:=sumK) (o:=o) ⟨fun Z x hZ hx=>qJ (ha Z hZ) hx (RF rfl x),rfl⟩ hp).mono ?_;rintro e w2 (⟨ps,hr,rfl,hb⟩|⟨a2,s2,hr,rfl,hn,hh⟩);(exact⟨rfl,.er hr hb⟩);have HR:=Hd hr;have Hg:=Hd hh;have HN:=Hd hn;clear hr hh hn ha hp))
 go_ret;exact .ok HR.o HN.o Hg.o
theorem QU{c:PC}(he:OkC c){below:RdP}{s:PS}(hbl:∀s',s.next<=s'.next->zx c 222 below s'):zx c 221 (eD below c.E tW false) s:=by
 intro F d X h;have HE:=Hd he;have HB:=Hd hbl;have HP:=Hd h;have hk:=@run_makeMap prog;have Hh:=Hd (show OwnS (X.alloc (.map #[] 0)) X.heap.size 0 (.map [])from World.ownsMap_made X _ _ _);have HG:Hid ((X.alloc (.map #[] 0)).grownBy (X.alloc (.map #[] 0)) (some X.heap.size)):=Hd ⟨rfl,rfl,rfl,nlr,fun _ _ _=>rfl⟩;clear he hbl h;go_enter func221,ntmps221
 go_wp2_with (first
  | (refine ze _ rfl _ _ _ 273 rfl 9 5 zF eB rdV X.heap.size 2 _ rfl Hb.o (by decide) _ _ (.string [37]) rfl rfl (zR (s:=[37]) (by decide)) (.lit (.int .u8 10)) [] rfl ?_;intro w3 hi hf;have Hc:=Hd hi;have Hg:=Hd (zs Hf.o hf);clear hi hf)
  | (refine ze _ rfl _ _ _ 273 rfl 9 5 zF eB rdV X.heap.size 1 _ rfl Ha.o (by decide) _ _ (.string [47]) rfl rfl (zR (s:=[47]) (by decide)) (.lit (.int .u8 9)) [] rfl ?_;intro w2 hh hd;have Hb:=Hd hh;have Hf:=Hd (zs He.o hd);clear hh hd)
  | (refine ze _ rfl _ _ _ 273 rfl 9 5 zF eB rdV X.heap.size 0 _ rfl Hh.o (by decide) _ _ (.string [42]) rfl rfl (zR (s:=[42]) (by decide)) (.lit (.int .u8 8)) [] rfl ?_;intro w1 hg hc;have Ha:=Hd hg;have He:=Hd (zs HG.o hc);clear hg hc)
  | (go_at_call 217;obtain⟨o,hp,ha⟩:=HP.o.map Hg.o Hc.o;refine(iG HE.o (fun _ _=>by go_simp) HB.o (kinds:=tW) (o:=o) ⟨fun Z x hZ hx=>qJ (ha Z hZ) hx (PY rfl x),rfl⟩ hp).mono ?_;rintro e w2 (⟨ps,hr,rfl,hb⟩|⟨a2,s2,hr,rfl,hn,hj⟩);(exact⟨rfl,.er hr hb⟩);have HR:=Hd hr;have Hi:=Hd hj;have HN:=Hd hn;clear hr hj hn ha hp))
 go_ret;exact .ok HR.o HN.o Hi.o
theorem PQg.put{c:PC}{s s':PS}{F:List (Nat×Obj)}{G:Nat->Prop}{X0 w:World}(h0:PQg c s F G X0)(h:PQg c s' F G w){g:Nat}{o:Obj}(hg:X0.heap.size<=g)(ho:w.heap[g]?=some o):PQg c s' ((g,o)::F) G w:=by
 have hl:=h0.par.lt;refine⟨h.par,fun p hp=>?_,fun p hp=>?_,?_⟩
 .rcases List.mem_cons.1 hp with rfl|hp
  .exact ho
  .exact h.own p hp
 .rcases List.mem_cons.1 hp with rfl|hp
  .exact⟨by simp only;omega,fun e=>by have:=(h0.par.mem _ e).2;simp only at this;omega⟩
  .exact h.out p hp
 .refine List.nodup_cons.2 ⟨fun e=>?_,h.nd⟩
  obtain⟨p,hp,e⟩:=List.mem_map.1 e;have:=(Array.getElem?_eq_some_iff.1 (h0.own p hp)).1;simp only at e;omega
theorem QD{w:World}{g:Nat}{xs:List Value}{T:TypeId}(h:w.heap[g]?=some (.cells xs.toArray T)):Row 1 w (some ⟨g,0,none⟩) xs.length xs.length xs:=by
 refine⟨by simp,nlr,(fun h=>by cases h),.inr ⟨g,0,rfl,(Array.getElem?_eq_some_iff.1 h).1,fun i hi=>?_⟩⟩;rw[Nat.zero_add];exact za h (by simp[hi])
namespace N
theorem stepE_other{P:Program}{ops:Array Oper}{Q:Exit->Act->World->Prop}{J:Bool->World->Prop}{K:World->World->Prop}{G:List PanicEntry->World->Prop}{pre:World->Prop}{x:Nat->Value}{o:Oper}{a:Act}{k:Kd}{ev:Bool}(h:ev=false)(hs:∀b,k.step P ops Q G (J b) K pre x o a):k.stepE P ops Q G J K ev pre x o a:=by
 subst h;exact⟨hs,trivial⟩
theorem stepE_fix{P:Program}{ops:Array Oper}{Q:Exit->Act->World->Prop}{J:Bool->World->Prop}{K:World->World->Prop}{G:List PanicEntry->World->Prop}{pre:World->Prop}{x:Nat->Value}{o:Oper}{a:Act}{v:Value}{ev:Bool}(h:ev=true)(hs:StepS P ops Q G (fun _=>True) K o a (fun w=>J false w/\pre w) (fun u w=>J true w/\u=v)):(Kd.fix v).stepE P ops Q G J K ev pre x o a:=by
 subst h;exact hs
end N
theorem JP{ex:RdP}{E:PE}{f:Nat}{a:Int}{s:PS}(h:isP E s sDot=true):jP ex E (f+1) a s=(bU E s.take 1).bind fun s1=>jP ex E f s1.nodes.length (addP s1 22 (zh E s) (zh E s.take).text 0 [a]):=by
 conv=>lhs;unfold jP
 rw[if_pos h]
theorem AI{ex:RdP}{E:PE}{f:Nat}{a:Int}{s:PS}(h:isP E s sDot=false)(h2:isP E s jT=true):jP ex E (f+1) a s=(ex s.take).bind fun r=>(cC E r.2 tU).bind fun s2=>jP ex E f s2.nodes.length (addP s2 23 (zh E s) [] 0 [a,r.1]):=by
 conv=>lhs;unfold jP
 rw[if_neg (by rw[h];exact Bool.false_ne_true),if_pos h2]
theorem NH{ex:RdP}{E:PE}{f:Nat}{a:Int}{s:PS}(h:isP E s sDot=false)(h2:isP E s jT=false):jP ex E f a s=.ok (a,s):=by
 cases f with
 |zero=>rfl
 | succ f=>
   unfold jP;rw[if_neg (by rw[h];exact Bool.false_ne_true),if_neg (by rw[h2];exact Bool.false_ne_true)]
theorem GM{c:PC}(he:OkC c){at_ ex:RdP}{s:PS}(hat:zx c 224 at_ s)(hex:∀s',s.next<s'.next->zx c 205 ex s') :
 zx c 223 (fun s=>(at_ s).bind fun r=>jP ex c.E (c.E.toks.length+1) r.1 r.2) s:=by
 intro F d X h;have HE:=Hd he;have HA:=Hd hat;have HX:=Hd hex;have Hr:=Hd h;obtain⟨S,hS⟩:∃S,((at_ s).bind fun r=>jP ex c.E (c.E.toks.length+1) r.1 r.2)=S:=⟨_,rfl⟩
 simp only[];rw[hS];have Hm:=Hd hS.symm;clear he hat hex h hS;have hv:prog.follows .mixedOrders=true:=by kernel_rfl
 go_enter func223,ntmps223
 go_wp2_with (go_at_call 224;refine(HA.o _ _ _ Hr.o).mono ?_;rintro e w1 (⟨ps,hr,rfl,hb⟩|⟨a1,s1,hr,rfl,hn,hp⟩);(exact⟨rfl,.er (bG Hm.o hr) hb⟩);have Hv:=Hd (bH Hm.o hr);have Hs:=Hd hp;have Hp:=Hd hn;clear hr hn hp)
 go_loopw [3] (fun t3 wr=>∃(a:Int) (sk:PS) (f:Nat),t3=intV a/\Hid (S=jP ex c.E f a sk)/\Hid (s.next<=sk.next/\c.E.toks.length+1<=f+sk.next)/\Hid (PQ c sk F d wr)) (fun _ wr=>tI c wr)
 case atStart=>exact⟨a1,s1,_,rfl,Hv,Hd ⟨Hp.o,by simp⟩,Hs⟩
 case round=>
  obtain⟨a,sk,f,rfl,Hk,Ha,Hg⟩:=hrel;have hz:=Hg.o.next;have Hl:=Hd Hg.o.meas;obtain⟨T,hT⟩:∃T,zh c.E sk=T:=⟨_,rfl⟩
  have HT:=Hd hT
  cases h1:isP c.E sk sDot with
  | true=>
    have hu:=fT h1;obtain⟨f,rfl⟩:∃g,f=g+1:=⟨f-1,by have:=Ha.o.2;omega⟩
    obtain⟨U,hU⟩:∃U,zh c.E sk.take=U:=⟨_,rfl⟩
    have ha:=Hk.o.trans (JP h1);rw[hT,hU]at ha;have HU:=Hd hU;have Hb:=Hd ha;have H1:=Hd h1;clear hT hU ha h1
    go_wp2_with (first
     | (go_at_call 131;refine(cU HE.o Hg.o HT.o).mono ?_;rintro e w2 ⟨rfl,hp⟩;have Hc:=Hd (hp.alloc (tkO T));clear hp)
     | (go_at_call 203;refine(LO HE.o Hc.o _ H1.o).mono ?_;rintro e w3 ⟨rfl,hp⟩;have He:=Hd hp;clear hp))
    obtain⟨⟨G,g0⟩,hi⟩:=He.o.drew;have HG:=Hd g0;have Ho:=Hd hi;clear g0 hi
    refine N.region_E 7 3 hv (by kernel_rfl) (by kernel_rfl) rfl (by kernel_rfl) (by kernel_rfl) (fun ch w=>RdI c F d s.next S (.panicked ch) w) (fun ch b w hd h=>⟨hd,h⟩)
     (fun b w=>PQg c (if b then sk.take.take else sk.take) ((w2.heap.size,tkO T)::F) G w/\w3.drew.heap.size<=w.heap.size/\(b=true->bU c.E sk.take 1=.ok sk.take.take)) (fun w w'=>w.heap.size<=w'.heap.size/\∀g,w3.drew.heap.size<=g->g<w.heap.size->w'.heap[g]?=w.heap[g]?) ⟨HG.o,nlr,fun h=>by cases h⟩ rfl
     [.fix c.ptr,.fix (tkA T),.fix c.ptr,.fix (tkA U),.fix (strV U.text),.fix (intV a),.dep [] (fun _ v w=>∃g,v=.slice (some ⟨g,0,none⟩) 1 1/\w3.drew.heap.size<=g/\w.heap[g]?=some (.cells #[intV a] 3))] [[],[],[],[],[],[],[]] rfl (by kernel_rfl)
     (N.sts_kd ⟨trivial,trivial,trivial,trivial,trivial,trivial,(by rintro l v w w' ⟨hx,ht⟩ ⟨g,h1,h2,h3⟩;exact⟨g,h1,h2,(ht g h2 (Array.getElem?_eq_some_iff.1 h3).1).trans h3⟩),trivial⟩) fun x=>?_
    refine N.WalkE.fix (N.stepE_other rfl fun b=>N.StepS.known rfl (fun _=>⟨nlr,fun _ _ _=>rfl⟩) (by intro W hJ hP;go_simp)) ?_;simp only[N.pz];refine N.WalkE.fix (N.stepE_other rfl fun b=>N.StepS.known rfl (fun _=>⟨nlr,fun _ _ _=>rfl⟩) (by intro W hJ hP;have hj:=hJ.1.own (w2.heap.size,tkO T) (by simp);have j0:=za (i:=0) hj rfl;have j1:=za (i:=1) hj rfl;have j2:=za (i:=2) hj rfl;clear hJ hP;go_simp)) ?_;simp only[N.pz];refine N.WalkE.fix (N.stepE_other rfl fun b=>N.StepS.known rfl (fun _=>⟨nlr,fun _ _ _=>rfl⟩) (by intro W hJ hP;go_simp)) ?_;simp only[N.pz];refine N.WalkE.fix (N.stepE_fix rfl (N.StepS.call (f:=197) (args:=#[c.ptr]) rfl (by intro W hJ hP;go_simp;try rfl) ?ev)) ?_
    case ev=>
     rintro W-⟨hJ,hP⟩;refine(QR HE.o hJ.1).mono ?_;rintro e Y (⟨ps,hr,rfl,hb⟩|⟨hr,hl,rfl,hp,hs⟩)
     .exact .inr ⟨_,rfl,.er (bG Hb.o hr) hb⟩
     .refine .inl ⟨_,rfl,trivial,⟨hs.turns.size,fun g hg hgW=>hs.turns.block g hgW (fun e=>?_)⟩,⟨hp,Nat.le_trans hJ.2.1 hs.turns.size,fun _=>hr⟩,by rw[<-HU.o];rfl⟩
      have:=(HG.o.par.mem g e).2;omega
    simp only[N.pz];refine N.WalkE.fix (N.stepE_other rfl fun b=>N.StepS.known rfl (fun _=>⟨nlr,fun _ _ _=>rfl⟩) (by intro W hJ hP;go_simp)) ?_;simp only[N.pz];refine N.WalkE.fix (N.stepE_other rfl fun b=>N.StepS.known rfl (fun _=>⟨nlr,fun _ _ _=>rfl⟩) (by intro W hJ hP;go_simp)) ?_;simp only[N.pz];refine N.WalkE.dep (N.stepE_other rfl fun b=>N.StepS.runs rfl (by intro W hJ hP;exact⟨_,_,(by(go_simp;try rfl)),⟨(hJ.1.alloc _).tail,Nat.le_trans hJ.2.1 (by simp),hJ.2.2⟩,⟨by simp,fun g _ hg=>Below.heap_alloc _ _ _ hg⟩,⟨W.heap.size,rfl,hJ.2.1,World.alloc_heap_new _ _⟩⟩)) ?_;simp only[N.pz];refine N.WalkE.nil fun W hJ hH=>?_;obtain⟨hf,hq,hh⟩:=hJ;have hm:=hh rfl;obtain⟨g6,hw,hk,hc⟩:=hH 6;generalize x 6=y6 at *;subst hw;have ho:PQ c sk.take.take ((g6,.cells #[intV a] 3)::(w2.heap.size,tkO T)::F) (d+1+1) W:=⟨⟨G,HG.o.put hf hk hc⟩,by have:=Ho.o;simp only[PS.take]at this|-;omega⟩
    have Hi:=Hd ho;have Hj:=Hd (bH Hb.o hm);have Hu:=Hd (QD (xs:=[intV a]) hc);clear hf hq hh hm ho hH hk hc
    go_wp2_with (go_at_call 199;refine(LM HE.o (K:=[(g6,.cells #[intV a] 3)]) Hi.o 22 T U.text 0 (kids:=[a]) Hu.o (fun _ x e=>by obtain rfl:=Option.some.inj e;simp)).mono ?_;rintro e w5 ⟨rfl,hp⟩;have Hf:=Hd hp;clear hp)
    go_roundw
    case rel=>exact⟨_,_,f,rfl,Hj,Hd ⟨by have h1:=Ha.o.1;show s.next<=sk.next+1+1;omega,by have h1:=Ha.o.2;show _<=f+(sk.next+1+1);omega⟩,Hd (Hf.o.drop.less (by omega))⟩
    case measure=>rw[Hf.o.meas,Hl.o];show c.E.toks.length-(sk.next+1+1)<_;omega
  | false=>
    have H1:=Hd h1
    cases h2:isP c.E sk jT with
    | true=>
      have hu:=fT h2;obtain⟨f,rfl⟩:∃g,f=g+1:=⟨f-1,by have:=Ha.o.2;omega⟩
      have ha:=Hk.o.trans (AI h1 h2);rw[hT]at ha;have Hb:=Hd ha;have H2:=Hd h2;clear hT ha h1 h2
      go_wp2_with (first
       | (go_at_call 199;refine(mR HE.o Hi.o 23 T [] 0 [a,a5] rfl).mono ?_;rintro e w7 ⟨rfl,hp⟩;have Hf:=Hd hp;clear hp)
       | (go_at_call 134;refine(GK HE.o Ht.o _).mono ?_;rintro e w6 (⟨ps,hr,rfl,hb⟩|⟨hr,-,rfl,hp⟩);(exact⟨rfl,.er (bG Hn.o hr) hb⟩);have Hj:=Hd (bH Hn.o hr);have Hi:=Hd hp;obtain⟨c0,c1,c2⟩:=hp.own.tk (b:=w2.heap.size) (t:=T) (by simp);clear hp hr)
       | (go_at_call 205;refine(HX.o sk.take (by have:=Ha.o.1;simp only[PS.take];omega) _ _ _ Hh.o).mono ?_;rintro e w5 (⟨ps,hr,rfl,hb⟩|⟨a5,s5,hr,rfl,hn,hp⟩);(exact⟨rfl,.er (bG Hb.o hr) hb⟩);have Hn:=Hd (bH Hb.o hr);have Ht:=Hd hp;have Hq:=Hd hn;clear hp hr hn)
       | (go_at_call 203;refine(LO HE.o He.o _ H2.o).mono ?_;rintro e w4 ⟨rfl,hp⟩;have Hh:=Hd hp;clear hp)
       | (go_at_call 203;refine(GI HE.o Hc.o _ H1.o).mono ?_;rintro e w3 ⟨rfl,hp⟩;have He:=Hd hp;clear hp)
       | (go_at_call 131;refine(cU HE.o Hg.o HT.o).mono ?_;rintro e w2 ⟨rfl,hp⟩;have Hc:=Hd (hp.alloc (tkO T));clear hp))
      have hy:sk.next+1<=s5.next:=Hq.o
      go_roundw
      case rel=>exact⟨_,_,f,rfl,Hj,Hd ⟨by have h1:=Ha.o.1;show s.next<=s5.next+1;omega,by have h1:=Ha.o.2;show _<=f+(s5.next+1);omega⟩,Hd (Hf.o.drop.less (by omega))⟩
      case measure=>rw[Hf.o.meas,Hl.o];show c.E.toks.length-(s5.next+1)<_;omega
    | false=>
      have Hb:=Hd (Hk.o.trans (NH h1 h2));have H2:=Hd h2;clear hT h1 h2
      go_wp2_with (first
       | (go_at_call 203;refine(GI HE.o He.o _ H2.o).mono ?_;rintro e w4 ⟨rfl,hp⟩;have Hh:=Hd hp;clear hp)
       | (go_at_call 203;refine(GI HE.o Hc.o _ H1.o).mono ?_;rintro e w3 ⟨rfl,hp⟩;have He:=Hd hp;clear hp)
       | (go_at_call 131;refine(cU HE.o Hg.o HT.o).mono ?_;rintro e w2 ⟨rfl,hp⟩;have Hc:=Hd (hp.alloc (tkO T));clear hp))
      go_ret;exact .ok Hb.o Ha.o.1 Hh.o.drop
def fnNT:NT->FuncId
 |.expr=>205
 |.or=>213
 |.and=>216
 |.not=>218
 |.cmp=>219
 |.sum=>220
 |.term=>221
 |.unary=>222
 |.postf=>223
 |.atom=>224
 |.kindOf=>202
 |.param=>201
 |.put=>226
def wJ:NT->Nat
 |.expr=>12
 |.or=>11
 |.and=>10
 |.not=>9
 |.cmp=>8
 |.sum=>7
 |.term=>6
 |.unary=>5
 |.postf=>4
 |.atom=>3
 |.kindOf=>2
 |.param=>2
 |.put=>2
theorem JR(nt:NT):wJ nt<=12:=by cases nt<;>decide
theorem sJ{c:PC}{fn:FuncId}{rd:RdP}{s:PS}(h:c.E.toks.length<s.next):zx c fn rd s:=fun F d X hp=>by have:=hp.next;omega
theorem wL{c:PC}(he:OkC c):∀(f:Nat) (nt:NT) (s:PS),16*(c.E.toks.length-s.next)+wJ nt+1<=f->zx c (fnNT nt) (zZ c.E f nt) s
 |0,nt,s,h=>by omega
 | f+1,nt,s,h=>by
   by_cases hn:c.E.toks.length<s.next
   .exact sJ hn
   have ih:∀nt' s',16*(c.E.toks.length-s'.next)+wJ nt'+1<=f->zx c (fnNT nt') (zZ c.E f nt') s':=fun nt' s'=>wL he f nt' s'
   have ahead:∀nt' s',s.next<s'.next->zx c (fnNT nt') (zZ c.E f nt') s':=fun nt' s' hs=>by
    by_cases hn':c.E.toks.length<s'.next
    .exact sJ hn'
    .exact ih nt' s' (by have:=JR nt';omega)
   have same:∀nt' s',s.next<=s'.next->wJ nt'<wJ nt->zx c (fnNT nt') (zZ c.E f nt') s':=fun nt' s' hs hr=>ih nt' s' (by omega)
   cases nt with
   |expr=>exact QP he (ahead .expr) (same .or s nlr (by decide))
   |or=>exact QOrP he fun s' hs=>same .and s' hs (by decide)
   |and=>exact RX he fun s' hs=>same .not s' hs (by decide)
   |not=>exact SB he (ahead .not) (same .cmp s nlr (by decide))
   |cmp=>exact RZ he fun s' hs=>same .sum s' hs (by decide)
   |sum=>exact SD he fun s' hs=>same .term s' hs (by decide)
   |term=>exact QU he fun s' hs=>same .unary s' hs (by decide)
   |unary=>exact OY he (ahead .unary) (same .postf s nlr (by decide))
   |postf=>exact GM he (same .atom s nlr (by decide)) (ahead .expr)
   |atom=>exact QO he (ahead .expr) (ahead .put)
   |kindOf=>exact LP he (ahead .kindOf)
   |param=>exact OX he (ahead .kindOf)
   |put=>exact SC he (ahead .expr)
theorem NL{c:PC}(he:OkC c)(nt:NT)(s:PS):zx c (fnNT nt) (rdP c.E nt) s:=wL he _ nt s (by have:=JR nt;unfold PU;omega)
theorem PG{ε α β:Type}{S:Except ε β}{b:Bool}{x y:Except ε α}{k:α->Except ε β}(h:S=(if b=true then x else y).bind k)(hb:b=true):S=x.bind k:=by rw[if_pos hb]at h;exact h
theorem LZ{ε α β:Type}{S:Except ε β}{b:Bool}{x y:Except ε α}{k:α->Except ε β}(h:S=(if b=true then x else y).bind k)(hb:b=false):S=y.bind k:=by rw[if_neg (by rw[hb];exact Bool.false_ne_true)]at h;exact h
theorem KZ{E:PE}{s:PS}(h:isP E s EZ=false):uB E s=.ok (0,s):=by unfold uB;rw[if_neg (by rw[h];exact Bool.false_ne_true)]
theorem wZ{E:PE}{s:PS}(h:isP E s EZ=true){U:Tk}(hU:zh E s.take=U)(hz:(U.text==[48])=true):uB E s=.error U.pos:=by
 unfold uB;rw[if_pos h,hU,if_pos (show U.text=QL from eq_of_beq hz)]
theorem oO{E:PE}{s:PS}(h:isP E s EZ=true){U:Tk}(hU:zh E s.take=U)(hz:(U.text==[48])=false):uB E s=(bU E s.take 2).bind fun s1=>.ok (valP U.text,s1):=by
 unfold uB;rw[if_pos h,hU,if_neg (show ¬U.text=QL from fun e=>by rw[e]at hz;exact absurd hz (by decide))]
theorem AtP.bt{α β:Type}{c:PC}{n0 m d:Nat}{F:List (Nat×Obj)}{X:World}{s:PS}{S:PR β}{b:Bool}{x y:PR α}{k:α->PR β}(A:AtP c n0 m F d X s S ((if b=true then x else y).bind k))(hb:b=true):AtP c n0 m F d X s S (x.bind k):=⟨PG A.eq hb,A.p,A.n,A.nm⟩
theorem AtP.bf{α β:Type}{c:PC}{n0 m d:Nat}{F:List (Nat×Obj)}{X:World}{s:PS}{S:PR β}{b:Bool}{x y:PR α}{k:α->PR β}(A:AtP c n0 m F d X s S ((if b=true then x else y).bind k))(hb:b=false):AtP c n0 m F d X s S (y.bind k):=⟨LZ A.eq hb,A.p,A.n,A.nm⟩
theorem DT{c:PC}(he:OkC c){param kindOf expr:RdP}{s:PS}(nm:Tk)(hparam:∀s',s.next<s'.next->zx c 201 param s')(hkindOf:∀s',s.next<s'.next->zx c 202 kindOf s')(hexpr:∀s',s.next<s'.next->zx c 205 expr s'):∀(F:List (Nat×Obj)) (d:Nat) (X:World),PQ c s F d X->Calls prog 167 #[c.ptr,tkA nm] X (RdI c F d s.next (fR param kindOf expr c.E nm s)):=by
 intro F d X h;have HE:=Hd he;have Hk:=Hd hparam;have Hi:=Hd hkindOf;have Hh:=Hd hexpr;have hx:=he.many;obtain⟨S,hS⟩:∃S,fR param kindOf expr c.E nm s=S:=⟨_,rfl⟩
 rw[hS];unfold fR at hS;obtain⟨T,hT⟩:∃T,zh c.E s=T:=⟨_,rfl⟩
 rw[hT]at hS;have HT:=Hd hT;have A0:=AtP.box (n0:=s.next) (S:=S) ⟨hS.symm,h,nlr,nlr⟩ nm;clear he h hparam hkindOf hexpr hS hT;go_enter func167,ntmps167
 go_wp2_with (first
  | (go_at_call 134;refine dV HE A1 (fun _ _ a b=>⟨rfl,.er a b⟩) ?_;intro w2 A2)
  | (go_at_call 197;refine vY HE HT A0 (fun _ _ a b=>⟨rfl,.er a b⟩) ?_;intro w1 A1))
 cases hb1:isP c.E s.take.take AO with
 | true=>
   have Hl:=Hd hb1;clear hb1
   go_wp2_with (first
    | (at_builtin;have hf:=(A7.p.alloc (.cells #[intV a7] 3)).drop;have hn:=Hf.o;refine aO (news:=[a7]) rfl (.tmp 22) (.tmp 25) rfl rfl (Hj.o.own _ hf.own.left) rfl (cN _ _ _) (by omega) (by have:=hf.lt;omega) ?_;intro aa8 cc8 w8 l8 Hc hw hj hh hk;obtain⟨K8,ho,hq⟩:=hf.appended Hj.o hj hh hk;have He:=Hd ho;have A8:=A7.up hq rfl;clear hf hj hh hk ho hq;)
    | (go_at_call 202;refine gQ Hi A6 (fun _ _ a b=>⟨rfl,.er a b⟩) ?_;intro a7 s7 w7 A7)
    | (go_at_call 134;refine dV HE A5 (fun _ _ a b=>⟨rfl,.er a b⟩) ?_;intro w6 A6)
    | (go_at_call 134;refine dV HE A4 (fun _ _ a b=>⟨rfl,.er a b⟩) ?_;intro w5 A5)
    | (go_at_call 172;refine isC HE Hl A2 rfl ?_;intro w3 A3;have A4:AtP c _ _ ([]++_) _ w3 _ S _:=(A3.bt Hl.o).pure;have Hj:=Hd (KL.nil c);have Hf:Hid (([]:List Int).length<=900):=Hd (by simp)))
   cases hu:isP c.E s7 EZ with
   | true=>
     have HU:=Hd hu;clear hu;obtain⟨U,hU⟩:∃U,zh c.E s7.take=U:=⟨_,rfl⟩
     have Hg:=Hd hU;clear hU;cases hz:(U.text==[48])with
     | true=>
       have HZ:=Hd hz
       go_wp2_with (first
        | (go_at_call 132;refine(pI HE.o A10.p Hg.o).mono ?_;rintro e w11 ⟨rfl,hb⟩)
        | (go_at_call 131;refine(cU HE.o A9.p Hg.o).mono ?_;rintro e w10 ⟨rfl,hp⟩;have A10:=A9.up hp rfl;clear hp)
        | (go_at_call 203;refine hasT HE HU A8 ?_;intro w9 A9))
       exact⟨rfl,.er (bG A8.eq (wZ HU.o Hg.o HZ.o)) hb⟩
     | false=>
       have HZ:=Hd hz
       go_wp2_with (first
        | (go_at_call 199;refine(pH HE.o A14.p 42 nm T.text v Hb.o).mono ?_;rintro e w15 ⟨rfl,hp⟩;have A15:=A14.up hp rfl;clear hp)
        | (at_builtin;have hf:=(A13.p.alloc (.cells #[intV a13] 3)).drop;have hn:=(show l8.length<=901 by have h1:=Hf.o;have h2:=congrArg List.length Hc.o;simp at h1 h2|-;omega);refine aO (news:=[a13]) rfl (.tmp 42) (.tmp 45) rfl rfl (He.o.own _ hf.own.left) rfl (cN _ _ _) (by omega) (by have:=hf.lt;omega) ?_;intro aa14 cc14 w14 l14 Ha hm hc ha hd;obtain⟨K14,hg,hi⟩:=hf.appended He.o hc ha hd;have Hb:=Hd hg;have A14:=A13.up hi rfl;clear hf hc ha hd hg hi;obtain⟨c14_00,c14_01,c14_02⟩:=A14.p.own.tk (b:=w1.heap.size) (t:=T) (by simp);obtain⟨c14_10,c14_11,c14_12⟩:=A14.p.own.tk (b:=X.heap.size) (t:=nm) (by simp);)
        | (go_at_call 205;refine gQ Hh A12 (fun _ _ a b=>⟨rfl,.er a b⟩) ?_;intro a13 s13 w13 A13)
        | (go_at_call 134;refine dV HE A11 (fun _ _ a b=>⟨rfl,.er a b⟩) ?_;intro w12 A12)
        | (go_at_call 204;refine(kB HE.o A10.p).mono ?_;rintro e w11 (⟨ps,hr,rfl,hb⟩|⟨hr,-,he,hs,ht,hp⟩);(exact⟨rfl,.er (bG A8.eq (bG (oO HU.o Hg.o HZ.o) hr)) hb⟩);have hu:=bH (oO HU.o Hg.o HZ.o) hr;have q:=bH A8.eq hu;clear hu;rw[Hg.o]at he hs ht;subst he;obtain⟨v,hv⟩:∃v,valP U.text=v:=⟨_,rfl⟩;rw[hv]at q hs ht;rw[hv];clear hv;have A11:AtP c s.next (s.next+1) _ _ _ _ S _:=⟨q,hp,Nat.succ_le_succ A10.le,Nat.le_succ _⟩;clear hp hr q)
        | (go_at_call 131;refine(cU HE.o A9.p Hg.o).mono ?_;rintro e w10 ⟨rfl,hp⟩;have A10:=A9.up hp rfl;clear hp)
        | (go_at_call 203;refine hasT HE HU A8 ?_;intro w9 A9))
       go_ret;have hS:S=.ok ((s13.nodes.length:Int),addP s13 42 nm T.text v l14):=by rw[A14.eq,Ha.o,Hc.o];rfl
       exact .ok hS A15.le (A15.p.drop.drop.less (by omega))
   | false=>
     have HU:=Hd hu;clear hu
     go_wp2_with (first
      | (go_at_call 199;refine(pH HE.o A14.p 42 nm T.text 0 Hb.o).mono ?_;rintro e w15 ⟨rfl,hp⟩;have A15:=A14.up hp rfl;clear hp)
      | (at_builtin;have hf:=(A13.p.alloc (.cells #[intV a13] 3)).drop;have hn:=(show l8.length<=901 by have h1:=Hf.o;have h2:=congrArg List.length Hc.o;simp at h1 h2|-;omega);refine aO (news:=[a13]) rfl (.tmp 42) (.tmp 45) rfl rfl (He.o.own _ hf.own.left) rfl (cN _ _ _) (by omega) (by have:=hf.lt;omega) ?_;intro aa14 cc14 w14 l14 Ha hm hc ha hd;obtain⟨K14,hg,hi⟩:=hf.appended He.o hc ha hd;have Hb:=Hd hg;have A14:=A13.up hi rfl;clear hf hc ha hd hg hi;obtain⟨c14_00,c14_01,c14_02⟩:=A14.p.own.tk (b:=w1.heap.size) (t:=T) (by simp);obtain⟨c14_10,c14_11,c14_12⟩:=A14.p.own.tk (b:=X.heap.size) (t:=nm) (by simp);)
      | (go_at_call 205;refine gQ Hh A12 (fun _ _ a b=>⟨rfl,.er a b⟩) ?_;intro a13 s13 w13 A13)
      | (go_at_call 134;refine dV HE A11 (fun _ _ a b=>⟨rfl,.er a b⟩) ?_;intro w12 A12)
      | (go_at_call 203;refine hasF HE HU A8 ?_;intro w9 A9;have A11:AtP c _ _ _ _ _ _ S _:=⟨bH A9.eq (KZ HU.o),A9.p,A9.n,A9.nm⟩))
     go_ret;have hS:S=.ok ((s13.nodes.length:Int),addP s13 42 nm T.text 0 l14):=by rw[A14.eq,Ha.o,Hc.o];rfl
     exact .ok hS A15.le (A15.p.drop.drop.less (by omega))
 | false=>
   have Hl:=Hd hb1;clear hb1
   go_wp2_with (first
    | (at_builtin;have hf:=(A7.p.alloc (.cells #[intV a7] 3)).drop;have hn:=Hf.o;refine aO (news:=[a7]) rfl (.tmp 22) (.tmp 25) rfl rfl (Hj.o.own _ hf.own.left) rfl (cN _ _ _) (by omega) (by have:=hf.lt;omega) ?_;intro aa8 cc8 w8 l8 Hc hw hj hh hk;obtain⟨K8,ho,hq⟩:=hf.appended Hj.o hj hh hk;have He:=Hd ho;have A8:=A7.up hq rfl;clear hf hj hh hk ho hq;)
    | (go_at_call 202;refine gQ Hi A6 (fun _ _ a b=>⟨rfl,.er a b⟩) ?_;intro a7 s7 w7 A7)
    | (go_at_call 134;refine dV HE A5 (fun _ _ a b=>⟨rfl,.er a b⟩) ?_;intro w6 A6)
    | (go_at_call 134;refine dV HE A4 (fun _ _ a b=>⟨rfl,.er a b⟩) ?_;intro w5 A5)
    | (go_at_call 200;refine IX A3 (rS HE.o (fun _ _=>by go_simp) (fun s2 h2=>Hk.o s2 (Nat.lt_of_lt_of_le A3.n h2)) A3.p) (fun _ _ a b=>⟨rfl,.er a b⟩) ?_;intro l4 s4 q4 cp4 K4 w4 hl Hj A4;have Hf:Hid (l4.length<=900):=Hd (by have:=A4.p.next;omega);clear hl)
    | (go_at_call 172;refine isC HE Hl A2 rfl ?_;intro w3 A3;replace A3:=A3.bf Hl.o))
   cases hu:isP c.E s7 EZ with
   | true=>
     have HU:=Hd hu;clear hu;obtain⟨U,hU⟩:∃U,zh c.E s7.take=U:=⟨_,rfl⟩
     have Hg:=Hd hU;clear hU;cases hz:(U.text==[48])with
     | true=>
       have HZ:=Hd hz
       go_wp2_with (first
        | (go_at_call 132;refine(pI HE.o A10.p Hg.o).mono ?_;rintro e w11 ⟨rfl,hb⟩)
        | (go_at_call 131;refine(cU HE.o A9.p Hg.o).mono ?_;rintro e w10 ⟨rfl,hp⟩;have A10:=A9.up hp rfl;clear hp)
        | (go_at_call 203;refine hasT HE HU A8 ?_;intro w9 A9))
       exact⟨rfl,.er (bG A8.eq (wZ HU.o Hg.o HZ.o)) hb⟩
     | false=>
       have HZ:=Hd hz
       go_wp2_with (first
        | (go_at_call 199;refine(pH HE.o A14.p 42 nm T.text v Hb.o).mono ?_;rintro e w15 ⟨rfl,hp⟩;have A15:=A14.up hp rfl;clear hp)
        | (at_builtin;have hf:=(A13.p.alloc (.cells #[intV a13] 3)).drop;have hn:=(show l8.length<=901 by have h1:=Hf.o;have h2:=congrArg List.length Hc.o;simp at h1 h2|-;omega);refine aO (news:=[a13]) rfl (.tmp 42) (.tmp 45) rfl rfl (He.o.own _ hf.own.left) rfl (cN _ _ _) (by omega) (by have:=hf.lt;omega) ?_;intro aa14 cc14 w14 l14 Ha hm hc ha hd;obtain⟨K14,hg,hi⟩:=hf.appended He.o hc ha hd;have Hb:=Hd hg;have A14:=A13.up hi rfl;clear hf hc ha hd hg hi;obtain⟨c14_00,c14_01,c14_02⟩:=A14.p.own.tk (b:=w1.heap.size) (t:=T) (by simp);obtain⟨c14_10,c14_11,c14_12⟩:=A14.p.own.tk (b:=X.heap.size) (t:=nm) (by simp);)
        | (go_at_call 205;refine gQ Hh A12 (fun _ _ a b=>⟨rfl,.er a b⟩) ?_;intro a13 s13 w13 A13)
        | (go_at_call 134;refine dV HE A11 (fun _ _ a b=>⟨rfl,.er a b⟩) ?_;intro w12 A12)
        | (go_at_call 204;refine(kB HE.o A10.p).mono ?_;rintro e w11 (⟨ps,hr,rfl,hb⟩|⟨hr,-,he,hs,ht,hp⟩);(exact⟨rfl,.er (bG A8.eq (bG (oO HU.o Hg.o HZ.o) hr)) hb⟩);have hu:=bH (oO HU.o Hg.o HZ.o) hr;have q:=bH A8.eq hu;clear hu;rw[Hg.o]at he hs ht;subst he;obtain⟨v,hv⟩:∃v,valP U.text=v:=⟨_,rfl⟩;rw[hv]at q hs ht;rw[hv];clear hv;have A11:AtP c s.next (s.next+1) _ _ _ _ S _:=⟨q,hp,Nat.succ_le_succ A10.le,Nat.le_succ _⟩;clear hp hr q)
        | (go_at_call 131;refine(cU HE.o A9.p Hg.o).mono ?_;rintro e w10 ⟨rfl,hp⟩;have A10:=A9.up hp rfl;clear hp)
        | (go_at_call 203;refine hasT HE HU A8 ?_;intro w9 A9))
       go_ret;have hS:S=.ok ((s13.nodes.length:Int),addP s13 42 nm T.text v l14):=by rw[A14.eq,Ha.o,Hc.o];rfl
       exact .ok hS A15.le (A15.p.drop.drop.less (by omega))
   | false=>
     have HU:=Hd hu;clear hu
     go_wp2_with (first
      | (go_at_call 199;refine(pH HE.o A14.p 42 nm T.text 0 Hb.o).mono ?_;rintro e w15 ⟨rfl,hp⟩;have A15:=A14.up hp rfl;clear hp)
      | (at_builtin;have hf:=(A13.p.alloc (.cells #[intV a13] 3)).drop;have hn:=(show l8.length<=901 by have h1:=Hf.o;have h2:=congrArg List.length Hc.o;simp at h1 h2|-;omega);refine aO (news:=[a13]) rfl (.tmp 42) (.tmp 45) rfl rfl (He.o.own _ hf.own.left) rfl (cN _ _ _) (by omega) (by have:=hf.lt;omega) ?_;intro aa14 cc14 w14 l14 Ha hm hc ha hd;obtain⟨K14,hg,hi⟩:=hf.appended He.o hc ha hd;have Hb:=Hd hg;have A14:=A13.up hi rfl;clear hf hc ha hd hg hi;obtain⟨c14_00,c14_01,c14_02⟩:=A14.p.own.tk (b:=w1.heap.size) (t:=T) (by simp);obtain⟨c14_10,c14_11,c14_12⟩:=A14.p.own.tk (b:=X.heap.size) (t:=nm) (by simp);)
      | (go_at_call 205;refine gQ Hh A12 (fun _ _ a b=>⟨rfl,.er a b⟩) ?_;intro a13 s13 w13 A13)
      | (go_at_call 134;refine dV HE A11 (fun _ _ a b=>⟨rfl,.er a b⟩) ?_;intro w12 A12)
      | (go_at_call 203;refine hasF HE HU A8 ?_;intro w9 A9;have A11:AtP c _ _ _ _ _ _ S _:=⟨bH A9.eq (KZ HU.o),A9.p,A9.n,A9.nm⟩))
     go_ret;have hS:S=.ok ((s13.nodes.length:Int),addP s13 42 nm T.text 0 l14):=by rw[A14.eq,Ha.o,Hc.o];rfl
     exact .ok hS A15.le (A15.p.drop.drop.less (by omega))
end
section
open Go Go.RowKit Go.Maps
def tabD(l:List (List UInt8×DataW Unit))(D:DataW Unit):DataW Unit:=l.foldl (fun D p=>D.put (.string p.1) p.2) D
theorem KP:∀(l:List (List UInt8×DataW Unit)) (D:DataW Unit),IsMap D->(l.map Prod.fst).Nodup->∀(x:List UInt8) (z:DataW Unit),
 (tabD l D).atKey (.string x) z=match l.find? (fun p=>p.1==x)with
  |some p=>p.2
  |none=>D.atKey (.string x) z
 | [],D,hD,hn,x,z=>rfl
 | p::l,D,hD,hn,x,z=>by
   obtain⟨h1,h2⟩:=List.nodup_cons.1 hn;have ih:=KP l (D.put (.string p.1) p.2) (aI hD _ _) h2 x z;have e:tabD (p::l) D=tabD l (D.put (.string p.1) p.2):=rfl;rw[e,ih,List.find?_cons];by_cases hx:p.1=x
   .rw[show(p.1==x)=true by rw[hx];simp]
    have hf:l.find? (fun q=>q.1==x)=none:=by
     rw[List.find?_eq_none];intro q hq e2;exact h1 (List.mem_map.2 ⟨q,hq,(eq_of_beq e2).trans hx.symm⟩)
    rw[hf];simp only;rw[eV hD,if_pos hx.symm]
   .rw[show(p.1==x)=false by simpa using hx]
    cases hf:l.find? (fun q=>q.1==x)with
    |some q=>rfl
    | none=>
      simp only;rw[eV hD,if_neg (fun e=>hx e.symm)]
theorem KQ:∀(l:List (List UInt8×DataW Unit)) (D:DataW Unit),IsMap D->∀(x:List UInt8),Maps.has (tabD l D) (.string x)=((l.any fun p=>p.1==x)||Maps.has D (.string x))
 | [],D,hD,x=>by simp[tabD]
 | p::l,D,hD,x=>by
   have e:tabD (p::l) D=tabD l (D.put (.string p.1) p.2):=rfl;rw[e,KQ l _ (aI hD _ _) x,List.any_cons];by_cases hx:p.1=x
   .subst hx
    rw[has_put_same hD (show WideAt.IsKeyLit (.string p.1)from trivial)];simp
   .rw[has_put_other (by intro e;injection e with e;exact hx e.symm),show(p.1==x)=false by simpa using hx]
    simp
def queryT:List (List UInt8×DataW Unit):=[([109,117,115,116],.lit (.int .i64 1)),([109,97,121],.lit (.int .i64 2)),([99,111,117,110,116],.lit (.int .i64 3)),([98,111,117,110,100,115],.lit (.int .i64 4)),([118,97,108,117,101,115],.lit (.int .i64 5)),([119,104,121],.lit (.int .i64 6)),([98,108,97,109,101],.lit (.int .i64 7)),([108,111,111,107],.lit (.int .i64 8))]
def qE(x:List UInt8):Nat:=if x=[99,104,111,111,115,101]then 165 else if x=[116,121,112,101]then 166 else if x=[102,117,110]then 167 else if x=[108,101,116]then 168 else if x=[111,98,115,101,114,118,101]then 169 else if x=[114,101,116,114,97,99,116]then 170 else if x=[97,115,107]then 171 else 0
def itemT:List (List UInt8×DataW Unit):=[([99,104,111,111,115,101],.ptr (.lit (.int .i64 (165:Nat)))),([116,121,112,101],.ptr (.lit (.int .i64 (166:Nat)))),([102,117,110],.ptr (.lit (.int .i64 (167:Nat)))),([108,101,116],.ptr (.lit (.int .i64 (168:Nat)))),([111,98,115,101,114,118,101],.ptr (.lit (.int .i64 (169:Nat)))),([114,101,116,114,97,99,116],.ptr (.lit (.int .i64 (170:Nat)))),([97,115,107],.ptr (.lit (.int .i64 (171:Nat))))]
theorem NI(x:List UInt8):(tabD queryT (.map [])).atKey (.string x) (.lit (.int .i64 0))=.lit (.int .i64 (gH x)):=by
 rw[KP _ _ ⟨_,rfl⟩ (by decide)];unfold gH;by_cases h0:x=[109,117,115,116]
 .subst h0;rfl
 by_cases h1:x=[109,97,121]
 .subst h1;rfl
 by_cases h2:x=[99,111,117,110,116]
 .subst h2;rfl
 by_cases h3:x=[98,111,117,110,100,115]
 .subst h3;rfl
 by_cases h4:x=[118,97,108,117,101,115]
 .subst h4;rfl
 by_cases h5:x=[119,104,121]
 .subst h5;rfl
 by_cases h6:x=[98,108,97,109,101]
 .subst h6;rfl
 by_cases h7:x=[108,111,111,107]
 .subst h7;rfl
 simp only[h0,h1,h2,h3,h4,h5,h6,h7,if_false]
 have hf:queryT.find? (fun p=>p.1==x)=none:=by
  rw[List.find?_eq_none];intro p hp;simp only[queryT,List.mem_cons,List.not_mem_nil,or_false]at hp;rcases hp with rfl|rfl|rfl|rfl|rfl|rfl|rfl|rfl
  all_goals (intro e;have e2:=(eq_of_beq e).symm;contradiction)
 rw[hf];rfl
def eG(x:List UInt8):Bool:=itemT.any fun p=>p.1==x
theorem CA(x:List UInt8):Maps.has (tabD itemT (.map [])) (.string x)=eG x:=by
 rw[KQ _ _ ⟨_,rfl⟩];unfold eG;simp[Maps.has]
theorem PW{x:List UInt8}(h:eG x=true):(tabD itemT (.map [])).atKey (.string x) .nil=.ptr (.lit (.int .i64 (qE x))):=by
 rw[KP _ _ ⟨_,rfl⟩ (by decide)];unfold qE;by_cases h0:x=[99,104,111,111,115,101]
 .subst h0;rfl
 by_cases h1:x=[116,121,112,101]
 .subst h1;rfl
 by_cases h2:x=[102,117,110]
 .subst h2;rfl
 by_cases h3:x=[108,101,116]
 .subst h3;rfl
 by_cases h4:x=[111,98,115,101,114,118,101]
 .subst h4;rfl
 by_cases h5:x=[114,101,116,114,97,99,116]
 .subst h5;rfl
 by_cases h6:x=[97,115,107]
 .subst h6;rfl
 exfalso;unfold eG at h;rw[List.any_eq_true]at h;obtain⟨p,hp,e⟩:=h;simp only[itemT,List.mem_cons,List.not_mem_nil,or_false]at hp;rcases hp with rfl|rfl|rfl|rfl|rfl|rfl|rfl
 all_goals (have e2:=(eq_of_beq e).symm;contradiction)
theorem iU:prog.underlying 182=some (.map 9 186):=by kernel_rfl
theorem LD(w:World):(zeroValue 186).run prog w=.ok .nilFunc w:=by kernel_rfl
theorem vW{X:World}{b n:Nat}(h:OwnS X b n (tabD itemT (.map []))){s:List UInt8}(hs:s.length<=1000000)(hh:eG s=true) :
 (Instr.lookup 182 (.map (some b)) (strV s) true).run prog X=.ok (.tuple #[.func (.func (qE s)) #[] #[],.bool true]) X:=by
 obtain⟨v,ps,ha,hv⟩:=h.look_ok zF iU (LD X) (zd:=.nil) (zp:=[]) rfl (zR hs);rw[PW hh]at hv;rw[ha,RN hv,CA,hh]
theorem IZ{X:World}{b n:Nat}(h:OwnS X b n (tabD itemT (.map []))){s:List UInt8}(hs:s.length<=1000000)(hh:eG s=false) :
 ∃v,(Instr.lookup 182 (.map (some b)) (strV s) true).run prog X=.ok (.tuple #[v,.bool false]) X:=by
 obtain⟨v,ps,ha,hv⟩:=h.look_ok zF iU (LD X) (zd:=.nil) (zp:=[]) rfl (zR hs);exact⟨v,by rw[ha,CA,hh]⟩
theorem lQ{c:PC}{s:PS}{F:List (Nat×Obj)}{d:Nat}{X:World}(h:PQ c s F d X){z:Nat}(hz:X.heap.size=z) :
 Calls prog 206 #[] X fun e Y=>e=.returned (.map (some z))/\∃o,PQ c s ((z,o)::F) d Y/\∀Z:World,Z.heap[z]?=some o->∀x:List UInt8,x.length<=1000000->(Instr.lookup 74 (.map (some z)) (strV x) false).run prog Z=.ok (intV (gH x)) Z:=by
 subst hz;have HP:=Hd h;have hs:=@run_makeMap prog;have Hr:=Hd (show OwnS (X.alloc (.map #[] 0)) X.heap.size 0 (.map [])from World.ownsMap_made X _ _ _);have HG:Hid ((X.alloc (.map #[] 0)).grownBy (X.alloc (.map #[] 0)) (some X.heap.size)):=Hd ⟨rfl,rfl,rfl,nlr,fun _ _ _=>rfl⟩;clear h;go_enter func206,ntmps206
 go_wp2_with (first
  | (refine ze _ rfl _ _ _ 74 rfl 9 3 zF fX rdV X.heap.size 7 _ rfl Hh.o (by decide) _ _ (.string [108,111,111,107]) rfl rfl (zR (s:=[108,111,111,107]) (by decide)) (.lit (.int .i64 8)) [] rfl ?_;intro w8 hr hi;have Hi:=Hd hr;have Hq:=Hd (zs Hp.o hi);clear hr hi)
  | (refine ze _ rfl _ _ _ 74 rfl 9 3 zF fX rdV X.heap.size 6 _ rfl Hg.o (by decide) _ _ (.string [98,108,97,109,101]) rfl rfl (zR (s:=[98,108,97,109,101]) (by decide)) (.lit (.int .i64 7)) [] rfl ?_;intro w7 hq hh;have Hh:=Hd hq;have Hp:=Hd (zs Ho.o hh);clear hq hh)
  | (refine ze _ rfl _ _ _ 74 rfl 9 3 zF fX rdV X.heap.size 5 _ rfl Hf.o (by decide) _ _ (.string [119,104,121]) rfl rfl (zR (s:=[119,104,121]) (by decide)) (.lit (.int .i64 6)) [] rfl ?_;intro w6 ho hg;have Hg:=Hd ho;have Ho:=Hd (zs Hn.o hg);clear ho hg)
  | (refine ze _ rfl _ _ _ 74 rfl 9 3 zF fX rdV X.heap.size 4 _ rfl He.o (by decide) _ _ (.string [118,97,108,117,101,115]) rfl rfl (zR (s:=[118,97,108,117,101,115]) (by decide)) (.lit (.int .i64 5)) [] rfl ?_;intro w5 hn hf;have Hf:=Hd hn;have Hn:=Hd (zs Hm.o hf);clear hn hf)
  | (refine ze _ rfl _ _ _ 74 rfl 9 3 zF fX rdV X.heap.size 3 _ rfl Hc.o (by decide) _ _ (.string [98,111,117,110,100,115]) rfl rfl (zR (s:=[98,111,117,110,100,115]) (by decide)) (.lit (.int .i64 4)) [] rfl ?_;intro w4 hm he;have He:=Hd hm;have Hm:=Hd (zs Hl.o he);clear hm he)
  | (refine ze _ rfl _ _ _ 74 rfl 9 3 zF fX rdV X.heap.size 2 _ rfl Hb.o (by decide) _ _ (.string [99,111,117,110,116]) rfl rfl (zR (s:=[99,111,117,110,116]) (by decide)) (.lit (.int .i64 3)) [] rfl ?_;intro w3 hl hd;have Hc:=Hd hl;have Hl:=Hd (zs Hk.o hd);clear hl hd)
  | (refine ze _ rfl _ _ _ 74 rfl 9 3 zF fX rdV X.heap.size 1 _ rfl Ha.o (by decide) _ _ (.string [109,97,121]) rfl rfl (zR (s:=[109,97,121]) (by decide)) (.lit (.int .i64 2)) [] rfl ?_;intro w2 hk hc;have Hb:=Hd hk;have Hk:=Hd (zs Hj.o hc);clear hk hc)
  | (refine ze _ rfl _ _ _ 74 rfl 9 3 zF fX rdV X.heap.size 0 _ rfl Hr.o (by decide) _ _ (.string [109,117,115,116]) rfl rfl (zR (s:=[109,117,115,116]) (by decide)) (.lit (.int .i64 1)) [] rfl ?_;intro w1 hj hb;have Ha:=Hd hj;have Hj:=Hd (zs HG.o hb);clear hj hb))
 go_ret;obtain⟨o,hp,ha⟩:=HP.o.map Hq.o Hi.o;exact⟨rfl,o,hp,fun Z hZ x hx=>NB (ha Z hZ) hx (NI x)⟩
theorem OV{c:PC}{s:PS}{F:List (Nat×Obj)}{d:Nat}{X:World}(h:PQ c s F d X){z:Nat}(hz:X.heap.size=z) :
 Calls prog 130 #[] X fun e Y=>e=.returned (.map (some z))/\∃o,PQ c s ((z,o)::F) d Y/\∀Z:World,Z.heap[z]?=some o->OwnS Z z 7 (tabD itemT (.map [])):=by
 subst hz;have HP:=Hd h;have hq:=@run_makeMap prog;have Hp:=Hd (show OwnS (X.alloc (.map #[] 0)) X.heap.size 0 (.map [])from World.ownsMap_made X _ _ _);have HG:Hid ((X.alloc (.map #[] 0)).grownBy (X.alloc (.map #[] 0)) (some X.heap.size)):=Hd ⟨rfl,rfl,rfl,nlr,fun _ _ _=>rfl⟩;clear h;go_enter func130,ntmps130
 go_wp2_with (first
  | (refine ze _ rfl _ _ _ 182 rfl 9 186 zF iU rdV X.heap.size 6 _ rfl Hg.o (by decide) _ _ (.string [97,115,107]) rfl rfl (zR (s:=[97,115,107]) (by decide)) (.ptr (.lit (.int .i64 (171:Nat)))) [] rfl ?_;intro w7 ho hh;have Hh:=Hd ho;have Ho:=Hd (zs Hn.o hh);clear ho hh)
  | (refine ze _ rfl _ _ _ 182 rfl 9 186 zF iU rdV X.heap.size 5 _ rfl Hf.o (by decide) _ _ (.string [114,101,116,114,97,99,116]) rfl rfl (zR (s:=[114,101,116,114,97,99,116]) (by decide)) (.ptr (.lit (.int .i64 (170:Nat)))) [] rfl ?_;intro w6 hn hg;have Hg:=Hd hn;have Hn:=Hd (zs Hm.o hg);clear hn hg)
  | (refine ze _ rfl _ _ _ 182 rfl 9 186 zF iU rdV X.heap.size 4 _ rfl He.o (by decide) _ _ (.string [111,98,115,101,114,118,101]) rfl rfl (zR (s:=[111,98,115,101,114,118,101]) (by decide)) (.ptr (.lit (.int .i64 (169:Nat)))) [] rfl ?_;intro w5 hm hf;have Hf:=Hd hm;have Hm:=Hd (zs Hl.o hf);clear hm hf)
  | (refine ze _ rfl _ _ _ 182 rfl 9 186 zF iU rdV X.heap.size 3 _ rfl Hc.o (by decide) _ _ (.string [108,101,116]) rfl rfl (zR (s:=[108,101,116]) (by decide)) (.ptr (.lit (.int .i64 (168:Nat)))) [] rfl ?_;intro w4 hl he;have He:=Hd hl;have Hl:=Hd (zs Hk.o he);clear hl he)
  | (refine ze _ rfl _ _ _ 182 rfl 9 186 zF iU rdV X.heap.size 2 _ rfl Hb.o (by decide) _ _ (.string [102,117,110]) rfl rfl (zR (s:=[102,117,110]) (by decide)) (.ptr (.lit (.int .i64 (167:Nat)))) [] rfl ?_;intro w3 hk hd;have Hc:=Hd hk;have Hk:=Hd (zs Hj.o hd);clear hk hd)
  | (refine ze _ rfl _ _ _ 182 rfl 9 186 zF iU rdV X.heap.size 1 _ rfl Ha.o (by decide) _ _ (.string [116,121,112,101]) rfl rfl (zR (s:=[116,121,112,101]) (by decide)) (.ptr (.lit (.int .i64 (166:Nat)))) [] rfl ?_;intro w2 hj hc;have Hb:=Hd hj;have Hj:=Hd (zs Hi.o hc);clear hj hc)
  | (refine ze _ rfl _ _ _ 182 rfl 9 186 zF iU rdV X.heap.size 0 _ rfl Hp.o (by decide) _ _ (.string [99,104,111,111,115,101]) rfl rfl (zR (s:=[99,104,111,111,115,101]) (by decide)) (.ptr (.lit (.int .i64 (165:Nat)))) [] rfl ?_;intro w1 hi hb;have Ha:=Hd hi;have Hi:=Hd (zs HG.o hb);clear hi hb))
 go_ret;obtain⟨o,hp,ha⟩:=HP.o.map Ho.o Hh.o;exact⟨rfl,o,hp,fun Z hZ=>ha Z hZ⟩
end
end Go.Proofs.YtcdkdiedphhdhaaGreatDoor
