/- Part of a proof. -/
import Derived.Test.YtcdkdiedphhdhaaGreatDoorRows
import Derived.Test.YtcdkdiedphhdhaaGreatDoorK31
set_option maxRecDepth 100000
set_option maxHeartbeats 8000000
set_option linter.unusedVariables false
set_option linter.unusedSimpArgs false
open Go.Proofs.Tryz
namespace Go.Proofs.YtcdkdiedphhdhaaGreatDoor
section
open Go.ChangeShapes Go.WideShapes Go.ChangeAt Go.RowKit
theorem TG:ownKnob prog.godebug=none:=by kernel_rfl
section
variable {H : Type} {enc : TypeId × Value -> H} {P : Program}
theorem TB{f:Func}{s:ChangeSpec}{apart fresh handsOn again:Bool}{W W':World}{args:Array Value}{v:Value}{ds gs:List (DataW H)}{before pa pv:List MemPlace}
 (hW:DataW.Whole enc P f.params.toList s.vars apart W args.toList ds gs before)
 (hres:∀(b:Nat) (sp:Nat->Bool) (hd:Bool),DataW.TrodAll enc P W' b sp hd f.resultTypes.toList (v.resultList f.resultTypes.size) (s.fn H (ds++gs)).results [])
 (hargs:∀sp:Nat->Bool,(∀p∈before,sp p.block=true)->DataW.TrodAll enc P W' 0 sp true f.params.toList args.toList (s.fn H (ds++gs)).args pa)
 (hvars:∀sp:Nat->Bool,(∀p∈before,sp p.block=true)->DataW.TrodVars enc P W' sp s.vars (s.fn H (ds++gs)).vars pv)
 (hps:before=pa++pv)(hb:Below W.heap.size W W')
 (hok:∀(j:Nat) (t:TypeId) (r:Value),f.resultTypes[j]?=some t->(v.resultList f.resultTypes.size)[j]?=some r->Value.okWide P W' .any 0 t r) :
 s.post enc P f apart fresh handsOn again W args v W':=by
 have hc:∀p∈before,(fun b=>decide (b<W.heap.size)) p.block=true:=fun p hp=>by simpa using hW.lt p hp
 refine⟨ds,gs,before,[],pa,pv,hW,hres _ _ _,hargs _ hc,hvars _ hc,World.keptBut_mono (fun p hp=>⟨hp,?_⟩) (hb.frame _),fun _=>?_⟩
 .rw[hps,List.mem_append]at hp
  exact Or.inr hp
 .have hf:=hW.lt
  obtain⟨_,_,_,_,_,hz,hn⟩:=hW;refine⟨hok,_,_,([]++pa)++pv,⟨[]++pa,pv,trodAll_append (hargs _ (fun _ _=>rfl)) (hres _ _ _),hvars _ (fun _ _=>rfl),rfl,?_,?_⟩,?_⟩
  .intro b off hp
   have he:(.cell b off)∈before:=by rw[hps];simpa using hp
   rw[hb.frozen (p:=⟨b,off,none⟩) (hf _ he)];exact hz b off he
  .intro ha
   have:=hn ha;rw[hps]at this;simpa using this
  .intro p hp _
   rw[hps];simpa using hp
theorem zj(hl:laidOutB P=true){W W':World}{sp':Nat->Bool}:∀{ts:List TypeId}{vs:List Value}{ds:List (DataW H)}{ps:List MemPlace},(ts.all fun t=>P.readableRec t&&decide (t<P.types.size))=true ->
 DataW.TrodAll enc P W 0 (fun _=>true) true ts vs ds ps->(∀p∈ps,W.sameAt W' p)->(∀p∈ps,sp' p.block=true)->DataW.TrodAll enc P W' 0 sp' true ts vs ds ps
 | [],_,_,_,_,h,_,_=>by
   obtain⟨rfl,rfl,rfl⟩:=trodAll_nil h;exact trodAll_mk0
 | t::ts,vs,ds,ps,hr,h,h1,h2=>by
   obtain⟨v,vs1,d,ds1,a,b,rfl,rfl,rfl,k1,k2⟩:=trodAll_cons h;simp only[List.all_cons,Bool.and_eq_true,decide_eq_true_eq]at hr
   exact trodAll_cons_mk (WideElems.Trod_stays hl hr.1.1 hr.1.2 k1 (fun p hp=>h1 p (List.mem_append_left _ hp)) (fun p hp=>h2 p (List.mem_append_left _ hp)))
    (zj hl hr.2 k2 (fun p hp=>h1 p (List.mem_append_right _ hp)) (fun p hp=>h2 p (List.mem_append_right _ hp)))
theorem TH{f:Func}{s:ChangeSpec}{apart fresh handsOn again:Bool}{W W':World}{args:Array Value}{ds gs:List (DataW H)}{before:List MemPlace}{tb:TypeId}
 (hl:laidOutB P=true)(hr:(f.params.toList.all fun t=>P.readableRec t&&decide (t<P.types.size))=true)(htb:P.underlying tb=some .bool)(hrt:f.resultTypes = #[tb])(hsv:s.vars=[])
 (hW:DataW.Whole enc P f.params.toList s.vars apart W args.toList ds gs before)(hb:Below W.heap.size W W')
 (e1:(s.fn H (ds++gs)).results=[.lit (.bool true)])(e2:(s.fn H (ds++gs)).args=ds)(e3:(s.fn H (ds++gs)).vars=[]) :
 s.post enc P f apart fresh handsOn again W args (.bool true) W':=by
 have ha:=hW;obtain⟨p,q,hA,hV,rfl,hf,hg⟩:=hW
 have hq:q=[]:=by
  rw[hsv]at hV;obtain⟨_,rfl⟩:=trodVars_none hV;rfl
 subst hq;have hc:=ha.lt;refine TB (pa:=p) (pv:=[]) ha ?_ ?_ ?_ rfl hb ?_
 .intro b sp hd
  rw[e1,hrt];exact trodAll_cons_mk (shut_bool htb _) trodAll_mk0
 .intro sp he
  rw[e2];exact zj hl hr hA (fun x hx=>hb.same (hc x (List.mem_append_left _ hx))) (fun x hx=>he x (List.mem_append_left _ hx))
 .intro sp _
  rw[e3,hsv];rfl
 .exact ok_one hrt rfl (okWide_bool_mk htb _)
end
theorem SQ{P:Program}{W:World}:∀(k:Nat) (l:List (String×DataW Unit)),laidMet P l W->laidMet P (l.drop k) W
 |0,_,h=>h
 |_+1,[],h=>h
 |k+1,_::l,h=>SQ k l h.tail
theorem TA{W:World}{l:List (String×DataW Unit)}(k:Nat)(hp:(l.all fun x=>x.2.handleName?.isNone)=true)(hd:l.drop k=[("strings.asciiSpace",Lib.tabData .u8 Lib.asciiSpaceTab)])(h:laidMetH prog l W):GV W:=by
 rw[MakeChecks.laidMetH_plain _ _ _ hp]at h;have h6:=SQ k l h;rw[hd]at h6;exact Lib.tabIs_of_head (g:=4) IT (show _=some 235 by kernel_rfl) (underlying235) underlying5 (by kernel_rfl) (by kernel_rfl) h6
section
variable {H : Type} {enc : TypeId × Value -> H} {W : World} {v : Value} {d : DataW H} {ps : List MemPlace} {base : Nat}
theorem TE(hval:Value.okWide prog W .any base 9 v)(h:DataW.Trod enc prog W 0 (fun _=>true) true 9 v d ps):∃l:List UInt8,v=strV l/\l.length<=maxLen:=by
 obtain⟨s,rfl,_,_,hs⟩:=Go.ChangeMaps.open_string underlying9 hval h;exact⟨s.data.toList,rfl,by simpa using hs⟩
end
end
section
open Go Go.ChangeShapes Go.WideShapes Go.ChangeAt Go.RowKit
section
variable {H : Type} {enc : TypeId × Value -> H} {W : World} {v : Value} {d : DataW H} {ps : List MemPlace} {base : Nat}
theorem TL(hval:Value.okWide prog W .any base 5 v)(h:DataW.Trod enc prog W 0 (fun _=>true) true 5 v d ps):∃n:Nat,v=.int .u8 n/\n<256:=by
 obtain⟨n,rfl,_,_,hw⟩:=open_int underlying5 hval h;simp[Lit.wf,IntKind.min,IntKind.max,IntKind.signed,IntKind.bits]at hw;exact⟨n.toNat,by congr 1;omega,by omega⟩
end
end
end Go.Proofs.YtcdkdiedphhdhaaGreatDoor
