/- Part of a proof. -/
import Derived.Test.YtcdkdiedphhdhaaGreatDoorK39
set_option maxRecDepth 100000
set_option maxHeartbeats 8000000
set_option linter.unusedVariables false
set_option linter.unusedSimpArgs false
namespace Go.Proofs.YtcdkdiedphhdhaaGreatDoor
section
open Go Go.RowKit
theorem TA{t:Tr}{i:Nat}(hi:i<t.nodes.length):(exT t)[i]'(by rw[cP];exact hi)=if zl (t.nd (i:Int)).kind then tyP t i else []:=by
 simp[exT]
theorem SY{t:Tr}{i:Nat}(hi:i<t.nodes.length):ofK (exT t) (i:Int)=if zl (t.nd (i:Int)).kind then tyP t i else []:=by
 unfold ofK;rw[Int.toNat_natCast,List.getD_eq_getElem?_getD,List.getElem?_eq_getElem (by rw[cP];exact hi),Option.getD_some,TA hi]
section
variable {t : Tr} {S : List Int}
theorem TS(G:Good t S){i:Nat}(hi:i<t.nodes.length)(hx:zl (t.nd (i:Int)).kind=true)(h24:(t.nd (i:Int)).kind≠24){j:Nat}(hj:j<(t.nd (i:Int)).kids.length) :
 ∃a:Nat,(t.nd (i:Int)).kids[j]=a/\a<i/\zl (t.nd (a:Int)).kind=true:=by
 obtain⟨a,ha,hb⟩:=aN G hi (List.getElem_mem hj);have h1:=G.kidOk hi hj;rw[ha]at h1;refine⟨a,ha,hb,?_⟩;unfold kidK at h1;rw[if_neg (by simpa using h24),if_neg (by intro e;simp at e;rw[e]at hx;cases hx),if_neg (by intro e;simp at e;rcases e with e|e<;>(rw[e]at hx;cases hx)),if_neg (by intro e;simp at e;rw[e]at hx;cases hx),if_neg (by intro e;simp at e;rw[e]at hx;cases hx)]at h1;exact h1
theorem SV(G:Good t S){i:Nat}(hi:i<t.nodes.length)(hx:zl (t.nd (i:Int)).kind=true)(h24:(t.nd (i:Int)).kind≠24):(t.nd (i:Int)).kids.map (ofK (tysP t i))=(t.nd (i:Int)).kids.map (ofK (exT t)):=by
 refine List.map_congr_left fun x hxm=>?_;obtain⟨j,hj,rfl⟩:=List.getElem_of_mem hxm;obtain⟨a,ha,hc,hb⟩:=TS G hi hx h24 hj;rw[ha,eS hc (by omega),SY (by omega),if_pos hb]
theorem ST{i:Nat}(hx:zl (t.nd (i:Int)).kind=true):tyP t i=aJ t (tysP t i) i i:=by unfold tyP typP;simp only[hx,if_true]
theorem SR{i:Nat}{L:List (List UInt8)}{j:Nat}(hj:j<(t.nd (i:Int)).kids.length):((t.nd (i:Int)).kids.map (ofK L)).getD j []=ofK L (t.nd (i:Int)).kids[j]:=by
 rw[List.getD_eq_getElem?_getD,List.getElem?_eq_getElem (by simpa using hj),Option.getD_some,List.getElem_map]
theorem TQ{k:List UInt8}{l:List (List UInt8)}(h:areB k l=true):∀x∈l,x=k:=fun x hx=>by
 have:=List.all_eq_true.1 h x hx;simpa using this
theorem UC(G:Good t S){i:Nat}(hi:i<t.nodes.length)(hk:(t.nd (i:Int)).kind=19)(hne:tyP t i≠[]) :
 ∃h:(t.nd (i:Int)).kids.length=3,ofK (exT t) (t.nd (i:Int)).kids[0]=zz/\ofK (exT t) (t.nd (i:Int)).kids[1]=tyP t i/\ofK (exT t) (t.nd (i:Int)).kids[2]=tyP t i:=by
 have hx:zl (t.nd (i:Int)).kind=true:=by rw[hk];rfl
 have hm:=G.many hi;rw[hk]at hm
 have h3:(t.nd (i:Int)).kids.length=3:=by
  have:((t.nd (i:Int)).kids.length:Int)=3:=by simpa[zC]using hm
  omega
 have e:=ST hx;have hl:=SV G hi hx (by omega);simp only[aJ,hk,hl,SR (t:=t) (i:=i) (L:=exT t) (show 0<_ by omega),SR (t:=t) (i:=i) (L:=exT t) (show 1<_ by omega),SR (t:=t) (i:=i) (L:=exT t) (show 2<_ by omega)]at e;have e:tyP t i=if ofK (exT t) (t.nd (i:Int)).kids[0]==zz&&ofK (exT t) (t.nd (i:Int)).kids[1]==ofK (exT t) (t.nd (i:Int)).kids[2]then ofK (exT t) (t.nd (i:Int)).kids[1]else []:=e;split at e
 .rename_i hc
  simp only[Bool.and_eq_true,beq_iff_eq]at hc;exact⟨h3,hc.1,e.symm,hc.2▸e.symm⟩
 .exact absurd e hne
theorem TV(G:Good t S){i:Nat}(hi:i<t.nodes.length)(hk:(t.nd (i:Int)).kind=20) :
 ∃h:(t.nd (i:Int)).kids.length=2,ofK (exT t) (t.nd (i:Int)).kids[1]=tyP t i:=by
 have hx:zl (t.nd (i:Int)).kind=true:=by rw[hk];rfl
 have hm:=G.many hi;rw[hk]at hm
 have h3:(t.nd (i:Int)).kids.length=2:=by
  have:((t.nd (i:Int)).kids.length:Int)=2:=by simpa[zC]using hm
  omega
 have e:=ST hx;have hl:=SV G hi hx (by omega);simp only[aJ,hk,hl,SR (t:=t) (i:=i) (L:=exT t) (show 1<_ by omega)]at e;exact⟨h3,e.symm⟩
theorem TW(G:Good t S){i:Nat}(hi:i<t.nodes.length)(hk:(t.nd (i:Int)).kind=4\/6<=(t.nd (i:Int)).kind/\(t.nd (i:Int)).kind<=10)(hne:tyP t i≠[]) :
 tyP t i=intT/\∀x∈(t.nd (i:Int)).kids,ofK (exT t) x=intT:=by
 have hx:zl (t.nd (i:Int)).kind=true:=by simp[zl];omega
 have e:=ST hx;have hl:=SV G hi hx (by omega);have ha:(t.nd (i:Int)).kind=4\/(t.nd (i:Int)).kind=6\/(t.nd (i:Int)).kind=7\/(t.nd (i:Int)).kind=8\/(t.nd (i:Int)).kind=9\/(t.nd (i:Int)).kind=10:=by omega
 have e:tyP t i=if areB intT ((t.nd (i:Int)).kids.map (ofK (exT t)))then intT else []:=by
  rw[e,<-hl];rcases ha with k|k|k|k|k|k<;>(simp only[aJ,k];rfl)
 split at e
 .rename_i hc
  exact⟨e,fun x hx=>TQ hc _ (List.mem_map.2 ⟨x,hx,rfl⟩)⟩
 .exact absurd e hne
theorem TK{i:Nat}(hk:(t.nd (i:Int)).kind=5\/11<=(t.nd (i:Int)).kind/\(t.nd (i:Int)).kind<=18)(hne:tyP t i≠[]):tyP t i=zz:=by
 have hx:zl (t.nd (i:Int)).kind=true:=by simp[zl];omega
 have e:=ST hx;have ha:(t.nd (i:Int)).kind=5\/(t.nd (i:Int)).kind=11\/(t.nd (i:Int)).kind=12\/(t.nd (i:Int)).kind=13\/(t.nd (i:Int)).kind=14\/(t.nd (i:Int)).kind=15\/(t.nd (i:Int)).kind=16\/(t.nd (i:Int)).kind=17\/(t.nd (i:Int)).kind=18:=by omega
 obtain⟨b,e⟩:∃b:Bool,tyP t i=if b then zz else []:=by
  rcases ha with k|k|k|k|k|k|k|k|k<;>exact⟨_,by rw[e];simp only[aJ,k];rfl⟩
 cases b with
 |true=>exact e
 |false=>exact absurd e hne
theorem TN(G:Good t S){i:Nat}(hi:i<t.nodes.length)(hk:(t.nd (i:Int)).kind=26)(hne:tyP t i≠[]) :
 ∃h:0<(t.nd (i:Int)).kids.length,tyP t i=bC (ofK (exT t) (t.nd (i:Int)).kids[0]) (t.nd (i:Int)).kids.length:=by
 have hx:zl (t.nd (i:Int)).kind=true:=by rw[hk];rfl
 have hm:=G.many hi;rw[hk]at hm
 have h3:0<(t.nd (i:Int)).kids.length:=by
  have:(1:Int)<=((t.nd (i:Int)).kids.length:Int):=by simpa[zC]using hm
  omega
 have e:=ST hx;have hl:=SV G hi hx (by omega)
 have e:tyP t i=if areB (ofK (exT t) (t.nd (i:Int)).kids[0]) ((t.nd (i:Int)).kids.map (ofK (exT t)))then bC (ofK (exT t) (t.nd (i:Int)).kids[0]) ((t.nd (i:Int)).kids.map (ofK (exT t))).length else []:=by
  rw[e,<-SR (t:=t) (i:=i) (L:=exT t) h3,<-hl];simp only[aJ,zS,hk];rfl
 split at e
 .rw[List.length_map]at e
  exact⟨h3,e⟩
 .exact absurd e hne
theorem TX{i:Nat}(hk:(t.nd (i:Int)).kind=24)(hne:tyP t i≠[]):tyP t i=(t.nd (i:Int)).text:=by
 have hx:zl (t.nd (i:Int)).kind=true:=by rw[hk];rfl
 have e:=ST hx
 have e:tyP t i=if eqF (cW t (tysP t i)) (t.nd (i:Int)).kids (t.nd (means t i)).kids then (t.nd (i:Int)).text else []:=by
  rw[e];simp only[aJ,zS,hk];rfl
 split at e
 .exact e
 .exact absurd e hne
theorem SW{i:Nat}{a:Int}(h0:0<=a)(hn:i<=t.nodes.length)(h:ofK (tysP t i) a≠[]):ofK (tysP t i) a=tyP t a.toNat:=by
 by_cases ha:a.toNat<i
 .obtain⟨k,rfl⟩:=Int.eq_ofNat_of_zero_le h0
  exact eS (by simpa using ha) (by simp at ha;omega)
 .exact absurd (sU t (by omega)) h
theorem TO(bd:Bd t)(hr:(zb t).2.2=0){i k:Nat}(hi:i<t.nodes.length)(hk:k<t.nodes.length)(k3:(t.nd (i:Int)).kind=3)(j3:(t.nd (k:Int)).kind=3)(hm:means t i=means t k)(hne:tyP t i≠[])(hne':tyP t k≠[]):tyP t k=tyP t i:=by
 obtain⟨wf,G⟩:=zi bd hr;obtain⟨d,hd,hb,-,-,he,-⟩:=cX bd hr hi (by rw[k3];rfl);have e1:tyP t i=eP t (tysP t i) d:=by rw[ST (by rw[k3];rfl)];simp[aJ,k3,hd]
 have e2:tyP t k=eP t (tysP t k) d:=by rw[ST (by rw[j3];rfl)];simp[aJ,j3,<-hm,hd]
 rw[e1]at hne|-;rw[e2]at hne' |-
 have ha:0<=(t.nd (d:Int)).kids.getD 0 0:=by
  rw[List.getD_eq_getElem?_getD]
  cases hc:(t.nd (d:Int)).kids[0]? with
  |none=>simp
  | some x=>
    obtain⟨a,rfl,_⟩:=aN G hb (List.mem_of_getElem? hc);simp
 unfold eP at hne hne' |-;split
 .rename_i hc
  rw[if_pos hc]at hne hne';rw[SW ha (by omega) hne,SW ha (by omega) hne']
 .rename_i hc
  rw[if_neg hc]at hne hne';split
  .rename_i hc
   rw[if_pos hc]at hne hne';rw[SW (by omega) (by omega) hne,SW (by omega) (by omega) hne']
  .rfl
theorem TU(G:Good t S)(ha:InferAt t t.nodes.length 0){i:Nat}(hi:i<t.nodes.length)(hk:(t.nd (i:Int)).kind=42) :
 ∃h:2<=(t.nd (i:Int)).kids.length,ofK (exT t) ((t.nd (i:Int)).kids[(t.nd (i:Int)).kids.length-1])=ofK (tysP t t.nodes.length) ((t.nd (i:Int)).kids[(t.nd (i:Int)).kids.length-2]):=by
 have hm:=G.many hi;rw[hk]at hm
 have h2:2<=(t.nd (i:Int)).kids.length:=by
  have:(2:Int)<=((t.nd (i:Int)).kids.length:Int):=by simpa[zC]using hm
  omega
 have h1:=(lZ (ha.zero i hi)).1
 have e:aR t (tysP t (i+1)) i=if ofK (tysP t (i+1)) ((t.nd (i:Int)).kids[(t.nd (i:Int)).kids.length-1])==ofK (tysP t (i+1)) ((t.nd (i:Int)).kids[(t.nd (i:Int)).kids.length-2])then 0 else 11:=by
  rw[<-SR (t:=t) (i:=i) (L:=tysP t (i+1)) (show _-1<_ by omega),<-SR (t:=t) (i:=i) (L:=tysP t (i+1)) (show _-2<_ by omega)];unfold aR;simp only[hk,List.length_map];rfl
 rw[e]at h1;split at h1
 .rename_i hc
  obtain⟨a,hd,hf⟩:=aN G hi (List.getElem_mem (show(t.nd (i:Int)).kids.length-1<_ by omega));obtain⟨b,he,hg⟩:=aN G hi (List.getElem_mem (show(t.nd (i:Int)).kids.length-2<_ by omega));have hb:=G.kidOk hi (show(t.nd (i:Int)).kids.length-1<(t.nd (i:Int)).kids.length by omega);rw[hk,hd]at hb;unfold kidK at hb;rw[if_neg (by decide),if_neg (by decide),if_neg (by decide),if_neg (by decide),if_pos (by decide),if_pos (by simp;omega)]at hb;rw[hd,he]at hc;simp only[beq_iff_eq]at hc;rw[eS (by omega) (by omega),eS (by omega) (by omega)]at hc;exact⟨h2,by rw[hd,he,SY (by omega),if_pos hb,eS (by omega) (by omega),hc]⟩
 .cases h1
end
end
end Go.Proofs.YtcdkdiedphhdhaaGreatDoor
