/- Part of a proof. -/
import Derived.Test.YtipjhljnkocioaaGreatDoorRows
import Derived.Test.YtipjhljnkocioaaGreatDoorC15
import Derived.Test.YtipjhljnkocioaaGreatDoorC16
import Derived.ProofKit
import Derived.OpenShut
import Derived.Carry
import Derived.ChangeSlices
import Derived.SliceStrings
import Derived.Deep.Slices
import Derived.LaidMore
import Derived.Lib.LaidTab
import Derived.Stop.LaidErr
set_option maxRecDepth 100000
set_option maxHeartbeats 8000000
set_option linter.unusedVariables false
set_option linter.unusedSimpArgs false
open Go.Proofs.Tryz
namespace Go.Proofs.YtipjhljnkocioaaGreatDoor
section
open Go.ChangeShapes Go.WideShapes Go.ChangeAt Go.RowKit
theorem nN:ownKnob prog.godebug=none:=by kernel_rfl
theorem nJ:laidOutB prog=true:=by kernel_rfl
section
variable {H : Type} {enc : TypeId × Value → H} {P : Program}
theorem BQ{f:Func}{s:ChangeSpec}{apart fresh handsOn again:Bool}{W W':World}{args:Array Value}{v:Value}{ds gs:List (DataW H)}{before pa pv:List MemPlace}
 (hW:DataW.Whole enc P f.params.toList s.vars apart W args.toList ds gs before)
 (hres:∀(b:Nat) (sp:Nat→Bool) (hd:Bool),DataW.TrodAll enc P W' b sp hd f.resultTypes.toList (v.resultList f.resultTypes.size) (s.fn H (ds++gs)).results [])
 (hargs:∀sp:Nat→Bool,(∀p∈before,sp p.block=true)→DataW.TrodAll enc P W' 0 sp true f.params.toList args.toList (s.fn H (ds++gs)).args pa)
 (hvars:∀sp:Nat→Bool,(∀p∈before,sp p.block=true)→DataW.TrodVars enc P W' sp s.vars (s.fn H (ds++gs)).vars pv)
 (hps:before=pa++pv)(hb:Below W.heap.size W W')
 (hok:∀(j:Nat) (t:TypeId) (r:Value),f.resultTypes[j]?=some t→(v.resultList f.resultTypes.size)[j]?=some r→Value.okWide P W' .any 0 t r) :
 s.post enc P f apart fresh handsOn again W args v W':=by
 have hold:∀p∈before,(fun b=>decide (b<W.heap.size)) p.block=true:=fun p hp=>by simpa using hW.lt p hp
 refine⟨ds,gs,before,[],pa,pv,hW,hres _ _ _,hargs _ hold,hvars _ hold,World.keptBut_mono (fun p hp=>⟨hp,?_⟩) (hb.frame _),fun _=>?_⟩
 ·rw[hps,List.mem_append]at hp
  exact Or.inr hp
 ·have hlt:=hW.lt
  obtain⟨_,_,_,_,_,hz,hn⟩:=hW;refine⟨hok,_,_,([]++pa)++pv,⟨[]++pa,pv,trodAll_append (hargs _ (fun _ _=>rfl)) (hres _ _ _),hvars _ (fun _ _=>rfl),rfl,?_,?_⟩,?_⟩
  ·intro b off hp
   have hp':(.cell b off)∈before:=by rw[hps];simpa using hp
   rw[hb.frozen (p:=⟨b,off,none⟩) (hlt _ hp')];exact hz b off hp'
  ·intro ha
   have:=hn ha;rw[hps]at this;simpa using this
  ·intro p hp _
   rw[hps];simpa using hp
theorem lN(hl:laidOutB P=true){W W':World}{sp':Nat→Bool}:∀{ts:List TypeId}{vs:List Value}{ds:List (DataW H)}{ps:List MemPlace},(ts.all fun t=>P.readableRec t&&decide (t<P.types.size))=true →
 DataW.TrodAll enc P W 0 (fun _=>true) true ts vs ds ps→(∀p∈ps,W.sameAt W' p)→(∀p∈ps,sp' p.block=true)→DataW.TrodAll enc P W' 0 sp' true ts vs ds ps
 | [],_,_,_,_,h,_,_=>by
   obtain⟨rfl,rfl,rfl⟩:=trodAll_nil h;exact trodAll_mk0
 | t::ts,vs,ds,ps,hr,h,h1,h2=>by
   obtain⟨v,vs1,d,ds1,a,b,rfl,rfl,rfl,k1,k2⟩:=trodAll_cons h;simp only[List.all_cons,Bool.and_eq_true,decide_eq_true_eq]at hr
   exact trodAll_cons_mk (WideElems.Trod_stays hl hr.1.1 hr.1.2 k1 (fun p hp=>h1 p (List.mem_append_left _ hp)) (fun p hp=>h2 p (List.mem_append_left _ hp)))
    (lN hl hr.2 k2 (fun p hp=>h1 p (List.mem_append_right _ hp)) (fun p hp=>h2 p (List.mem_append_right _ hp)))
theorem nO{f:Func}{s:ChangeSpec}{apart fresh handsOn again:Bool}{W W':World}{args:Array Value}{ds gs:List (DataW H)}{before:List MemPlace}{tb:TypeId}
 (hl:laidOutB P=true)(hr:(f.params.toList.all fun t=>P.readableRec t&&decide (t<P.types.size))=true)(htb:P.underlying tb=some .bool)(hrt:f.resultTypes = #[tb])(hsv:s.vars=[])
 (hW:DataW.Whole enc P f.params.toList s.vars apart W args.toList ds gs before)(hb:Below W.heap.size W W')
 (e1:(s.fn H (ds++gs)).results=[.lit (.bool true)])(e2:(s.fn H (ds++gs)).args=ds)(e3:(s.fn H (ds++gs)).vars=[]) :
 s.post enc P f apart fresh handsOn again W args (.bool true) W':=by
 have hW':=hW;obtain⟨p,q,hA,hV,rfl,hfz,hnd⟩:=hW
 have hq:q=[]:=by
  rw[hsv]at hV;obtain⟨_,rfl⟩:=trodVars_none hV;rfl
 subst hq;have hlt:=hW'.lt;refine BQ (pa:=p) (pv:=[]) hW' ?_ ?_ ?_ rfl hb ?_
 ·intro b sp hd
  rw[e1,hrt];exact trodAll_cons_mk (shut_bool htb _) trodAll_mk0
 ·intro sp hsp
  rw[e2];exact lN hl hr hA (fun x hx=>hb.same (hlt x (List.mem_append_left _ hx))) (fun x hx=>hsp x (List.mem_append_left _ hx))
 ·intro sp _
  rw[e3,hsv];rfl
 ·exact ok_one hrt rfl (okWide_bool_mk htb _)
end
theorem uK{P:Program}{W:World}:∀(k:Nat) (l:List (String×DataW Unit)),laidMet P l W→laidMet P (l.drop k) W
 |0,_,h=>h
 |_+1,[],h=>h
 |k+1,_::l,h=>uK k l h.tail
theorem jG{W:World}{l:List (String×DataW Unit)}(k:Nat)(hp:(l.all fun x=>x.2.handleName?.isNone)=true)(hd:l.drop k=[("strings.asciiSpace",Lib.tabData .u8 Lib.asciiSpaceTab)])(h:laidMetH prog l W):GV W:=by
 rw[MakeChecks.laidMetH_plain _ _ _ hp]at h;have h6:=uK k l h;rw[hd]at h6;exact Lib.tabIs_of_head (g:=0) EI (show _=some 204 by kernel_rfl) (underlying204) underlying5 (by kernel_rfl) (by kernel_rfl) h6
section
variable {H : Type} {enc : TypeId × Value → H} {W : World} {v : Value} {d : DataW H} {ps : List MemPlace} {base : Nat}
theorem kC:prog.cellsOf 3=1:=by kernel_rfl
theorem BP:prog.cellsOf 5=1:=by kernel_rfl
theorem qG:prog.cellsOf 9=1:=by kernel_rfl
theorem mY:prog.cellsOf 23=1:=by kernel_rfl
theorem sL:prog.cellsOf 22=1:=by kernel_rfl
theorem uO:prog.cellsOf 52=5:=by kernel_rfl
theorem uP:prog.cellsOf 25=2:=by kernel_rfl
theorem IM(b o i:Nat):(⟨b,o,none⟩:Addr).add i=⟨b,o+i,none⟩:=by
 unfold Addr.add;split
 ·simp_all
 ·rfl
theorem lL{k:Nat}(hk:0<k){a:Addr}{n c:Nat}{xs:List Value}(hl:xs.length=n*k)(hn:n≤c)(hc:∀i (h:i<xs.length),W.cell? (a.add i)=some xs[i]):Row k W (some a) n c xs:=by
 refine⟨hl,hn,(fun h=>by cases h),?_⟩;by_cases h0:n=0
 ·exact .inl h0
 ·have hpos:0<xs.length:=by rw[hl];exact Nat.mul_pos (by omega) hk
  have hc0:=hc 0 hpos;have ha:a.add 0=a:=by simp[Addr.add]
  rw[ha]at hc0
  have hspot:a.spot=none:=by
   unfold World.cell? at hc0;split at hc0
   ·split at hc0
    ·cases hc0
    ·rename_i h;simpa using h
   ·cases hc0
  obtain⟨b,o,sp⟩:=a;simp only at hspot;subst hspot;refine .inr ⟨b,o,rfl,World.block_lt_of_cell? W _ hc0,fun i hi=>?_⟩;have:=hc i hi;rwa[IM]at this
theorem wf_i64{z:Int}(h:(Lit.int .i64 z).wf=true) : -9223372036854775808≤z∧z≤9223372036854775807:=by
 simpa[Lit.wf,IntKind.min,IntKind.max,IntKind.signed,IntKind.bits]using h
theorem mW{cs:List Value}{fuel:Nat}{x:DataW H×List MemPlace}{b0:Nat}{held:Bool}(h:DataW.trod enc prog W b0 (fun _=>true) held fuel 23 cs=some x) :
 ∃a n c l,cs=[.slice a n c]∧n=l.length∧Ints W a c l:=by
 rcases Go.Deep.open_slice1 underlying23 kC h with⟨rfl,_⟩|⟨a,len,cap,m,n,V,D,Pl,rfl,hb,hl,hm,hmm,rfl,hx⟩
 ·exact⟨none,0,0,[],rfl,rfl,⟨by simp[zo],nlr,(fun _=>rfl),.inl rfl⟩⟩
 ·rw[if_pos rfl]at hmm
  have each:∀i,i<len→∃z:Int,V i=intV z:=by
   intro i hi;obtain⟨z,e,_⟩:=DataW.trod_int underlying3 (hx i (by omega)).2;exact⟨z,by simpa using e⟩
  obtain⟨q,hq⟩:=Go.Deep.choose_lt each;refine⟨some a,len,cap,(List.range len).map q,rfl,by simp,?_⟩;simp only[Ints,List.length_map,List.length_range];refine lL (by decide) (by simp[zo]) hl fun i hi=>?_;simp[zo]at hi;rw[(hx i (by omega)).1,hq i hi];simp[zo]
theorem sJ{cs:List Value}{fuel:Nat}{x:DataW H×List MemPlace}{b0:Nat}{held:Bool}(h:DataW.trod enc prog W b0 (fun _=>true) held fuel 22 cs=some x) :
 ∃a n c l,cs=[.slice a n c]∧n=l.length∧Nodes W a c l∧∀y∈l,-9223372036854775808≤y.n∧y.n≤9223372036854775807:=by
 rcases Go.Deep.open_slice underlying22 h with⟨rfl,_⟩|⟨a,len,cap,m,n,D,Pl,rfl,hb,hl,hm,hmm,rfl,hx⟩
 ·exact⟨none,0,0,[],rfl,rfl,⟨[],rfl,⟨rfl,nlr,(fun _=>rfl),.inl rfl⟩,fun i hi=>by simp at hi⟩,fun y hy=>by cases hy⟩
 ·rw[if_pos rfl]at hmm
  have each:∀i,i<len→∃q:Nd×(Option Addr×Nat),(∀j,j<5→W.cell? (a.add (i*5+j))=(q.1.cells q.2)[j]?)∧Row 1 W q.2.1 q.1.kids.length q.2.2 (zo q.1.kids) ∧ -9223372036854775808≤q.1.n∧q.1.n≤9223372036854775807:=by
   intro i hi;obtain⟨cs',h1,h2⟩:=hx i (by omega);rw[uO]at h1;obtain⟨_,hlen,hcell⟩:=World.cells?_some h1;obtain⟨xs,k,hk,hxy,_,hxl,hf⟩:=DataW.trod_struct underlying52 h2
   match xs,hxl,cs',hlen with
   | [y0,y1,y2,y3,y4],_,[v0,v1,v2,v3,v4],_=>
     have g0:DataW.trod enc prog W b0 (fun _=>true) held k 5 (([v0,v1,v2,v3,v4].drop 0).take (prog.cellsOf 5))=some y0:=hf 0 _ rfl;rw[BP]at g0;have g1:DataW.trod enc prog W b0 (fun _=>true) held k 9 (([v0,v1,v2,v3,v4].drop 1).take (prog.cellsOf 9))=some y1:=hf 1 _ rfl;rw[qG]at g1;have g2:DataW.trod enc prog W b0 (fun _=>true) held k 3 (([v0,v1,v2,v3,v4].drop 2).take (prog.cellsOf 3))=some y2:=hf 2 _ rfl;rw[kC]at g2;have g3:DataW.trod enc prog W b0 (fun _=>true) held k 23 (([v0,v1,v2,v3,v4].drop 3).take (prog.cellsOf 23))=some y3:=hf 3 _ rfl;rw[mY]at g3;have g4:DataW.trod enc prog W b0 (fun _=>true) held k 3 (([v0,v1,v2,v3,v4].drop 4).take (prog.cellsOf 3))=some y4:=hf 4 _ rfl;rw[kC]at g4;simp only[List.drop_zero,List.take_succ_cons,List.take_zero,List.drop_succ_cons]at g0 g1 g2 g3 g4;obtain⟨z0,e0,_⟩:=DataW.trod_int underlying5 g0;obtain⟨s1,e1,_⟩:=DataW.trod_string underlying9 g1;obtain⟨z2,e2,_,w2⟩:=DataW.trod_int underlying3 g2;obtain⟨a3,n3,c3,l3,e3,rfl,r3⟩:=mW g3;obtain⟨z4,e4,_⟩:=DataW.trod_int underlying3 g4;simp only[List.cons.injEq,and_true]at e0 e1 e2 e3 e4;subst e0 e1 e2 e3 e4;refine⟨(⟨z0,s1.data.toList,z2,l3,z4⟩,(a3,c3)),fun j hj=>?_,r3,wf_i64 w2⟩;have hj':=hcell j hj;rw[Go.Deep.add_add]at hj';rw[hj']
     match j,hj with
     |0,_=>rfl
     |1,_=>rfl
     |2,_=>rfl
     |3,_=>rfl
     |4,_=>rfl
  haveI:Inhabited (Nd×(Option Addr×Nat)):=⟨(nd0,(none,0))⟩
  obtain⟨q,hq⟩:=Go.Deep.choose_lt each;have hks:((List.range len).map fun i=>(q i).2).length=((List.range len).map fun i=>(q i).1).length:=by simp
  have hln:=gK _ _ hks;refine⟨some a,len,cap,(List.range len).map fun i=>(q i).1,rfl,by simp,⟨(List.range len).map fun i=>(q i).2,hks,?_,fun i hi k=>?_⟩,fun y hy=>?_⟩
  ·simp only[List.length_map,List.length_range]
   simp only[List.length_map,List.length_range]at hln;refine lL (by decide) hln hl fun i hi=>?_;rw[hln]at hi;have h5:=(hq (i / 5) (by omega)).1 (i % 5) (by omega);rw[show i / 5*5+i % 5=i by omega]at h5;rw[h5];have h6:=lX _ _ hks (i / 5) (by simp;omega) (i % 5) (by omega);rw[show i / 5*5+i % 5=i by omega,List.getElem?_eq_getElem (by omega)]at h6;rw[h6];simp
  ·simp only[List.getElem_map,List.getElem_range]
   simp at hi;exact(hq i hi).2.1
  ·obtain⟨i,hi,rfl⟩:=List.mem_map.1 hy
   exact(hq i (List.mem_range.1 hi)).2.2
theorem lI(hval:Value.okWide prog W .any base 25 v)(h:DataW.Trod enc prog W 0 (fun _=>true) true 25 v d ps) :
 ∃(u:TreeV) (t:Tr),v=u.val t∧IsTree W u t∧Rg t:=by
 obtain⟨cs,rfl,hsz⟩:=okWide_struct underlying25 hval;obtain⟨fuel,hf⟩:=h;obtain⟨y0,y1,k,_,hl,h0,h1⟩:=trod_struct2 underlying25 hf;rw[uP]at hsz
 match cs,hsz with
 | ⟨[u0,u1]⟩,_=>
   simp only[sL,mY,Value.cells,List.drop_zero,List.take_succ_cons,List.take_zero,List.drop_succ_cons]at h0 h1;obtain⟨na,n0,nc,ns,e0,rfl,k0,k2⟩:=sJ h0;obtain⟨ia,n1,ic,is,e1,rfl,k1⟩:=mW h1;simp only[List.cons.injEq,and_true]at e0 e1;subst e0 e1;refine⟨⟨na,nc,ia,ic⟩,⟨ns,is⟩,rfl,⟨k0,k1⟩,fun i hi=>?_⟩;have hi':i<ns.length:=hi;have:(⟨ns,is⟩:Tr).nd i=ns[i]:=by simp[Tr.nd,hi']
   rw[this];exact k2 _ (List.getElem_mem hi')
end
end
end Go.Proofs.YtipjhljnkocioaaGreatDoor
