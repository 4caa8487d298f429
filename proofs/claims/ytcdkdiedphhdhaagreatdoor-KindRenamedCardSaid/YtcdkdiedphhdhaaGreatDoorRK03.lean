/- Part of a proof. -/
import Derived.Test.YtcdkdiedphhdhaaGreatDoorRows
import Derived.Test.YtcdkdiedphhdhaaGreatDoorK31
import Derived.Test.YtcdkdiedphhdhaaGreatDoorK34
import Derived.Test.YtcdkdiedphhdhaaGreatDoorRK02
set_option maxRecDepth 100000
set_option maxHeartbeats 8000000
set_option linter.unusedVariables false
set_option linter.unusedSimpArgs false
open Go.Proofs.Tryz
namespace Go.Proofs.YtcdkdiedphhdhaaGreatDoor
section
open Go.ChangeShapes Go.WideShapes Go.ChangeAt Go.RowKit
theorem VY:ownKnob prog.godebug=none:=by kernel_rfl
section
variable {H : Type} {enc : TypeId × Value -> H} {P : Program}
theorem VK{f:Func}{s:ChangeSpec}{apart fresh handsOn again:Bool}{W W':World}{args:Array Value}{v:Value}{ds gs:List (DataW H)}{before pa pv:List MemPlace}
 (hW:DataW.Whole enc P f.params.toList s.vars apart W args.toList ds gs before)
 (hres:∀(b:Nat) (sp:Nat->Bool) (hd:Bool),DataW.TrodAll enc P W' b sp hd f.resultTypes.toList (v.resultList f.resultTypes.size) (s.fn H (ds++gs)).results [])
 (hargs:∀sp:Nat->Bool,(∀p∈before,sp p.block=true)->DataW.TrodAll enc P W' 0 sp true f.params.toList args.toList (s.fn H (ds++gs)).args pa)
 (hvars:∀sp:Nat->Bool,(∀p∈before,sp p.block=true)->DataW.TrodVars enc P W' sp s.vars (s.fn H (ds++gs)).vars pv)
 (hps:before=pa++pv)(hb:Below W.heap.size W W')
 (hok:∀(j:Nat) (t:TypeId) (r:Value),f.resultTypes[j]?=some t->(v.resultList f.resultTypes.size)[j]?=some r->Value.okWide P W' .any 0 t r) :
 s.post enc P f apart fresh handsOn again W args v W':=by
 have hc:∀p∈before,(fun b=>decide (b<W.heap.size)) p.block=true:=fun p hp=>by simpa using hW.lt p hp
 refine⟨ds,gs,before,[],pa,pv,hW,hres _ _ _,hargs _ hc,hvars _ hc,World.keptBut_mono (fun p hp=>⟨hp,?_⟩) (hb.frame _),fun _=>?_⟩
 .rw[hps,List.mem_append]at hp
  exact Or.inr hp
 have hf:=hW.lt
 obtain⟨_,_,_,_,_,hz,hn⟩:=hW;refine⟨hok,_,_,([]++pa)++pv,⟨[]++pa,pv,trodAll_append (hargs _ (fun _ _=>rfl)) (hres _ _ _),hvars _ (fun _ _=>rfl),rfl,?_,?_⟩,?_⟩
 .intro b off hp
  have he:(.cell b off)∈before:=by rw[hps];simpa using hp
  rw[hb.frozen (p:=⟨b,off,none⟩) (hf _ he)];exact hz b off he
 .intro ha
  have:=hn ha;rw[hps]at this;simpa using this
 intro p hp _
 rw[hps];simpa using hp
theorem TH(hl:laidOutB P=true){W W':World}{sp':Nat->Bool}:∀{ts:List TypeId}{vs:List Value}{ds:List (DataW H)}{ps:List MemPlace},(ts.all fun t=>P.readableRec t&&decide (t<P.types.size))=true ->
 DataW.TrodAll enc P W 0 (fun _=>true) true ts vs ds ps->(∀p∈ps,W.sameAt W' p)->(∀p∈ps,sp' p.block=true)->DataW.TrodAll enc P W' 0 sp' true ts vs ds ps
 | [],_,_,_,_,h,_,_=>by
   obtain⟨rfl,rfl,rfl⟩:=trodAll_nil h;exact trodAll_mk0
 | t::ts,vs,ds,ps,hr,h,h1,h2=>by
   obtain⟨v,vs1,d,ds1,a,b,rfl,rfl,rfl,k1,k2⟩:=trodAll_cons h;simp only[List.all_cons,Bool.and_eq_true,decide_eq_true_eq]at hr
   exact trodAll_cons_mk (WideElems.Trod_stays hl hr.1.1 hr.1.2 k1 (fun p hp=>h1 p (List.mem_append_left _ hp)) (fun p hp=>h2 p (List.mem_append_left _ hp)))
    (TH hl hr.2 k2 (fun p hp=>h1 p (List.mem_append_right _ hp)) (fun p hp=>h2 p (List.mem_append_right _ hp)))
theorem VZ{f:Func}{s:ChangeSpec}{apart fresh handsOn again:Bool}{W W':World}{args:Array Value}{ds gs:List (DataW H)}{before:List MemPlace}{tb:TypeId}
 (hl:laidOutB P=true)(hr:(f.params.toList.all fun t=>P.readableRec t&&decide (t<P.types.size))=true)(htb:P.underlying tb=some .bool)(hrt:f.resultTypes = #[tb])(hsv:s.vars=[])
 (hW:DataW.Whole enc P f.params.toList s.vars apart W args.toList ds gs before)(hb:Below W.heap.size W W')
 (e1:(s.fn H (ds++gs)).results=[.lit (.bool true)])(e2:(s.fn H (ds++gs)).args=ds)(e3:(s.fn H (ds++gs)).vars=[]) :
 s.post enc P f apart fresh handsOn again W args (.bool true) W':=by
 have ha:=hW;obtain⟨p,q,hA,hV,rfl,hf,hg⟩:=hW
 have hq:q=[]:=by
  rw[hsv]at hV;obtain⟨_,rfl⟩:=trodVars_none hV;rfl
 subst hq;have hc:=ha.lt;refine VK (pa:=p) (pv:=[]) ha ?_ ?_ ?_ rfl hb ?_
 .intro b sp hd
  rw[e1,hrt];exact trodAll_cons_mk (shut_bool htb _) trodAll_mk0
 .intro sp he
  rw[e2];exact TH hl hr hA (fun x hx=>hb.same (hc x (List.mem_append_left _ hx))) (fun x hx=>he x (List.mem_append_left _ hx))
 .intro sp _
  rw[e3,hsv];rfl
 exact ok_one hrt rfl (okWide_bool_mk htb _)
end
theorem TT{P:Program}{W:World}:∀(k:Nat) (l:List (String×DataW Unit)),laidMet P l W->laidMet P (l.drop k) W
 |0,_,h=>h
 |_+1,[],h=>h
 |k+1,_::l,h=>TT k l h.tail
theorem VI{W:World}{l:List (String×DataW Unit)}(k:Nat)(hp:(l.all fun x=>x.2.handleName?.isNone)=true)(hd:l.drop k=[("strings.asciiSpace",Lib.tabData .u8 Lib.asciiSpaceTab)])(h:laidMetH prog l W):GV W:=by
 rw[MakeChecks.laidMetH_plain _ _ _ hp]at h;have h6:=TT k l h;rw[hd]at h6;exact Lib.tabIs_of_head (g:=4) IT (show _=some 235 by kernel_rfl) (underlying235) underlying5 (by kernel_rfl) (by kernel_rfl) h6
section
variable {H : Type} {enc : TypeId × Value -> H} {W : World} {v : Value} {d : DataW H} {ps : List MemPlace} {base : Nat}
theorem VQ(hval:Value.okWide prog W .any base 9 v)(h:DataW.Trod enc prog W 0 (fun _=>true) true 9 v d ps):∃l:List UInt8,v=strV l/\l.length<=maxLen:=by
 obtain⟨s,rfl,_,_,hs⟩:=Go.ChangeMaps.open_string underlying9 hval h;exact⟨s.data.toList,rfl,by simpa using hs⟩
end
end
section
open Go Go.ChangeShapes Go.WideShapes Go.ChangeAt Go.RowKit
section
variable {H : Type} {enc : TypeId × Value -> H} {W : World} {v : Value} {d : DataW H} {ps : List MemPlace} {base : Nat}
theorem WO(hval:Value.okWide prog W .any base 5 v)(h:DataW.Trod enc prog W 0 (fun _=>true) true 5 v d ps):∃n:Nat,v=.int .u8 n/\n<256:=by
 obtain⟨n,rfl,_,_,hw⟩:=open_int underlying5 hval h;simp[Lit.wf,IntKind.min,IntKind.max,IntKind.signed,IntKind.bits]at hw;exact⟨n.toNat,by congr 1;omega,by omega⟩
end
end
section
open Go Go.RowKit
def zk(t:Tr)(node:Int)(q:Int->Bool):Int:=if (zb t).2.2 != 0 then (zb t).2.2 else if decide (node<0)||(decide ((t.nodes.length:Int)<=node) || !q node)then 7 else 0
def WM(w:World)(v:TreeV)(t:Tr)(node:Int)(q:Int->Bool)(e:Ending)(w':World):Prop:=
 (zk t node q=0/\Resolved t/\0<=node/\node<t.nodes.length/\q node=true/\∃p:ProgV,e=.returned (.tuple #[p.ptr,intV 0])/\p.v=v/\OpenW w p t (eC t t.nodes.length) (zg t t.nodes.length) w') \/
 (zk t node q≠0/\e=.returned (.tuple #[.pointer none,intV (zk t node q)])/\Below w.heap.size w w')
theorem TG{t:Tr}(h:Resolved t):zb t=(zg t t.nodes.length,0,0):=cR h.check h.err
theorem TW(v:TreeV)(t:Tr)(node:Int)(w:World)(bd:Bd t)(rg:Rg t)(hg:GV w)(h:IsTree w v t) :
 Calls prog 32 #[v.val t,intV node,.func (.func 33) #[] #[]] w (WM w v t node (zn t)):=by
 have hn:=bd.n;have HC:=Hd (iE v t (boxT w v t) bd rg (hg.mono boxT_below nlr) (h.mono boxT_below nlr));have HT:=Hd h;have BD:=Hd bd;clear h hg bd rg;obtain⟨na,nc,ia,ic⟩:=v;by_cases hz:(zb t).2.2=0
 .have HZ:=Hd hz
  have Hc:Hid (zk t node (zn t)=if decide (node<0)||(decide ((t.nodes.length:Int)<=node) || !(zn t) node)then 7 else 0):=Hd (by unfold zk;rw[hz,if_neg (by decide)]);clear hz;have ARM:True:=trivial;by_cases hlo:node<0
  .have hc:(decide (node<0))=true:=by simpa using hlo
   have Ha:Hid (zk t node (zn t)=7):=Hd (by rw[Hc.o,hc];rfl);unfold TreeV.val;go_enter func32,ntmps32
   go_wp2_with (go_at_call 37;refine HC.o.mono ?_;rintro e w2 (⟨-,hb,p,rfl,hf,ha⟩|⟨hd,-⟩);rotate_left;(exact absurd HZ.o hd);have Hb:=Hd (boxT_below.trans (ha.below.mono (by simp)):Below w.heap.size w w2);clear ha hb)
   go_ret2
   exact .inr ⟨by rw[Ha.o];decide,by rw[Ha.o];rfl,Hb.o⟩
  have hc:(decide (node<0))=false:=by simpa using hlo
  by_cases hhi:(t.nodes.length:Int)<=node
  .have he:(decide ((t.nodes.length:Int)<=node))=true:=by simpa using hhi
   have hj:(decide (node ≥ (t.nodes.length:Int)))=true:=by simpa using hhi
   have Ha:Hid (zk t node (zn t)=7):=Hd (by rw[Hc.o,hc,he];rfl);unfold TreeV.val;go_enter func32,ntmps32
   go_wp2_with (go_at_call 37;refine HC.o.mono ?_;rintro e w2 (⟨-,hb,p,rfl,hf,ha⟩|⟨hd,-⟩);rotate_left;(exact absurd HZ.o hd);obtain⟨s,v',aa,ac,da,dc⟩:=p;simp only at hf;subst hf;have hh:=ha.prog.c0;simp only at hh;have Hb:=Hd (boxT_below.trans (ha.below.mono (by simp)):Below w.heap.size w w2);clear ha hb)
   go_ret2
   exact .inr ⟨by rw[Ha.o];decide,by rw[Ha.o];rfl,Hb.o⟩
  have he:(decide ((t.nodes.length:Int)<=node))=false:=by simpa using hhi
  have hj:(decide (node ≥ (t.nodes.length:Int)))=false:=by simpa using hhi
  obtain⟨m,rfl⟩:=Int.eq_ofNat_of_zero_le (show 0<=node by omega);have hm:m<t.nodes.length:=by omega
  have HQ:Hid (∀(p:ProgV) (W:World),Resolved t->OpenW (boxT w ⟨na,nc,ia,ic⟩ t) p t (eC t t.nodes.length) (zg t t.nodes.length) W->Calls prog 33 #[p.ptr,intV m] W fun e w'=>e=.returned (.bool ((zn t) (m:Int)))/\W=w'):=Hd fun p W hb ha=>by
   have wf:=iV BD.out hb.check;have hu:=jX (pY (fE hb.check));have:=iD p t _ _ m W BD.out hm (hu.within m hm) ha.prog;rwa[lW wf hu hm]at this
  cases hq:(zn t) (m:Int)with
  | true=>
    have Ha:Hid (zk t m (zn t)=0):=Hd (by rw[Hc.o,hc,he,hq];rfl);have Hi:=Hd hq;rw[hq]at HQ;clear hq;unfold TreeV.val;go_enter func32,ntmps32
    go_wp2_with (first
     | (go_at_call 37;refine HC.o.mono ?_;rintro e w2 (⟨-,hb,p,rfl,hf,ha⟩|⟨hd,-⟩);rotate_left;(exact absurd HZ.o hd);rw[TG hb]at ha;have Hf:=Hd hb;have He:=Hd (HQ.o p w2 hb ha);obtain⟨s,v',aa,ac,da,dc⟩:=p;simp only at hf;subst hf;have hh:=ha.prog.c0;simp only at hh;have Hh:=Hd ha;clear ha hb)
     | (go_at_call 33;refine He.o.mono ?_;rintro e w' ⟨rfl,rfl⟩))
    go_ret2
    exact .inl ⟨Ha.o,Hf.o,by omega,by omega,Hi.o,⟨s,⟨na,nc,ia,ic⟩,aa,ac,da,dc⟩,rfl,rfl,Hh.o.base HT.o boxT_below⟩
  | false=>
    have Ha:Hid (zk t m (zn t)=7):=Hd (by rw[Hc.o,hc,he,hq];rfl);rw[hq]at HQ;clear hq;unfold TreeV.val;go_enter func32,ntmps32
    go_wp2_with (first
     | (go_at_call 37;refine HC.o.mono ?_;rintro e w2 (⟨-,hb,p,rfl,hf,ha⟩|⟨hd,-⟩);rotate_left;(exact absurd HZ.o hd);rw[TG hb]at ha;have Hf:=Hd hb;have He:=Hd (HQ.o p w2 hb ha);obtain⟨s,v',aa,ac,da,dc⟩:=p;simp only at hf;subst hf;have hh:=ha.prog.c0;simp only at hh;have Hb:=Hd (boxT_below.trans (ha.below.mono (by simp)):Below w.heap.size w w2);clear ha hb)
     | (go_at_call 33;refine He.o.mono ?_;rintro e w' ⟨rfl,rfl⟩))
    go_ret2
    exact .inr ⟨by rw[Ha.o];decide,by rw[Ha.o];rfl,Hb.o⟩
 have hd:((zb t).2.2 != 0)=true:=by simpa using hz
 have hk:zk t node (zn t)=(zb t).2.2:=by unfold zk;rw[if_pos hd]
 obtain⟨E1,hi⟩:∃E1,(zb t).2.2=E1:=⟨_,rfl⟩
 rw[hi]at hd hk;have Hc:=Hd hk;have Hg:=Hd hi;have HZ:=Hd hz;clear hi hz hk;unfold TreeV.val;go_enter func32,ntmps32
 go_wp2_with (go_at_call 37;refine HC.o.mono ?_;rintro e w2 (⟨h0,-⟩|⟨-,rfl,hl⟩);(exact absurd h0 HZ.o);rw[Hg.o];have Hb:=Hd (boxT_below.trans (hl.mono (by simp)):Below w.heap.size w w2);clear hl)
 go_ret2
 exact .inr ⟨by rw[Hc.o];simpa using hd,by rw[Hc.o];rfl,Hb.o⟩
def RetIntsE(w:World)(l:List Int)(err:Int)(e:Ending)(w':World):Prop:=
 ∃a c,e=.returned (.tuple #[.slice a l.length c,intV err])/\w'.ownsRow w.heap.size 3 1 (.slice a l.length c) l.length (zq l)/\Below w.heap.size w w'
theorem RetIntsE.nil{w w':World}{err:Int}(hb:Below w.heap.size w w'):RetIntsE w [] err (.returned (.tuple #[.slice none 0 0,intV err])) w':=⟨none,0,rfl,⟨rfl,.inl ⟨rfl,rfl⟩⟩,hb⟩
def TJ(t:Tr)(node:Int):List Int×Int:=if zk t node (zn t)=0 then (uses (zg t t.nodes.length) node,0)else ([],zk t node (zn t))
theorem TX(v:TreeV)(t:Tr)(node:Int)(w:World)(bd:Bd t)(rg:Rg t)(hg:GV w)(h:IsTree w v t) :
 Calls prog 15 #[v.val t,intV node] w (RetIntsE w (TJ t node).1 (TJ t node).2):=by
 have HC:=Hd (TW v t node (boxT w v t) bd rg (hg.mono boxT_below nlr) (h.mono boxT_below nlr));have BD:=Hd bd;clear h hg bd rg;obtain⟨na,nc,ia,ic⟩:=v;by_cases hz:zk t node (zn t)=0
 .have HZ:=Hd hz
  have HU:Hid (TJ t node=(uses (zg t t.nodes.length) node,0)):=Hd (by unfold TJ;rw[if_pos hz]);clear hz;unfold TreeV.val;go_enter func15,ntmps15
  go_wp2_with (first
   | (go_at_call 32;refine HC.o.mono ?_;rintro e w2 (⟨-,hi,hj,hk,-,p,rfl,hh,hd⟩|⟨hc,-⟩);rotate_left;(exact absurd HZ.o hc);have He:=Hd (UG p t _ _ node w2 BD.out hd.prog);have Ha:=Hd (boxT_below.trans (hd.below.mono (by simp)):Below w.heap.size w w2);obtain⟨s,v',aa,ac,da,dc⟩:=p;clear hd hi hh)
   | (go_at_call 34;refine He.o.mono ?_;rintro e w3 ⟨a,c,rfl,ha,hf⟩;have HO:=Hd ha;have Hb:=Hd (Ha.o.trans (hf.mono Ha.o.size));clear ha hf))
  go_ret2
  rw[HU.o];exact⟨a,c,rfl,cA HO.o Ha.o.size,Hb.o⟩
 have hc:(zk t node (zn t) != 0)=true:=by simpa using hz
 have hu:TJ t node=([],zk t node (zn t)):=by unfold TJ;rw[if_neg hz]
 obtain⟨E1,hb⟩:∃E1,zk t node (zn t)=E1:=⟨_,rfl⟩
 rw[hb]at hc hu;have Hc:=Hd hb;have HZ:=Hd hz;have HU:=Hd hu;clear hb hz hu;unfold TreeV.val;go_enter func15,ntmps15
 go_wp2_with (go_at_call 32;refine HC.o.mono ?_;rintro e w2 (⟨h0,-⟩|⟨-,rfl,he⟩);(exact absurd h0 HZ.o);rw[Hc.o];have Ha:=Hd (boxT_below.trans (he.mono (by simp)):Below w.heap.size w w2);clear he)
 go_ret2
 rw[HU.o];exact .nil Ha.o
end
section
open Go.RowKit
theorem mem_idxs{p:Nat->Bool}{n:Nat}{x:Int}:x∈idxs p n↔∃i:Nat,i<n/\p i=true/\x=i:=by
 unfold idxs;simp only[List.mem_map,List.mem_filter,List.mem_range];constructor
 .rintro⟨i,⟨h1,h2⟩,h3⟩;exact⟨i,h1,h2,h3.symm⟩
 rintro⟨i,h1,h2,h3⟩;exact⟨i,⟨h1,h2⟩,h3.symm⟩
theorem ST{t:Tr}{i:Nat}(hi:i<t.nodes.length):(zg t t.nodes.length).getD i 0=means t i:=by
 rw[bE,List.getD_eq_getElem?_getD,List.getElem?_map,List.getElem?_range hi];rfl
end
section
open Go.RowKit
def mvI(f:Nat->Nat)(k:Int):Int:=if k<0 then k else (f k.toNat:Int)
theorem zj(f:Nat->Nat)(k:Nat):mvI f (k:Int)=(f k:Int):=by unfold mvI;rw[if_neg (by omega)];simp
section
variable {t u : Tr} {S : List Int} {f : Nat -> Nat}
end
end
end Go.Proofs.YtcdkdiedphhdhaaGreatDoor
