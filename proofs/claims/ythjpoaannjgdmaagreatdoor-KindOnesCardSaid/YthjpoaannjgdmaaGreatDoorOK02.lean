/- Part of a proof. -/
import Derived.Test.YthjpoaannjgdmaaGreatDoorK35
set_option maxRecDepth 100000
set_option maxHeartbeats 8000000
set_option linter.unusedVariables false
set_option linter.unusedSimpArgs false
namespace Go.Proofs.YthjpoaannjgdmaaGreatDoor
section
open Go Go.RowKit
theorem SW{t:Tr}{i:Nat}(hi:i<t.nodes.length):(exT t)[i]'(by rw[cR];exact hi)=if zn (t.nd (i:Int)).kind then tyP t i else []:=by
 simp[exT]
theorem SU{t:Tr}{i:Nat}(hi:i<t.nodes.length):ofK (exT t) (i:Int)=if zn (t.nd (i:Int)).kind then tyP t i else []:=by
 unfold ofK;rw[Int.toNat_natCast,List.getD_eq_getElem?_getD,List.getElem?_eq_getElem (by rw[cR];exact hi),Option.getD_some,SW hi]
section
variable {t : Tr} {S : List Int}
theorem TP(G:Good t S){i:Nat}(hi:i<t.nodes.length)(hx:zn (t.nd (i:Int)).kind=true)(h24:(t.nd (i:Int)).kind≠24){j:Nat}(hj:j<(t.nd (i:Int)).kids.length) :
 ∃a:Nat,(t.nd (i:Int)).kids[j]=a/\a<i/\zn (t.nd (a:Int)).kind=true:=by
 obtain⟨a,ha,hb⟩:=aQ G hi (List.getElem_mem hj);have h1:=G.kidOk hi hj;rw[ha]at h1;refine⟨a,ha,hb,?_⟩;unfold kidK at h1;rw[if_neg (by simpa using h24),if_neg (by intro e;simp at e;rw[e]at hx;cases hx),if_neg (by intro e;simp at e;rcases e with e|e<;>(rw[e]at hx;cases hx)),if_neg (by intro e;simp at e;rw[e]at hx;cases hx),if_neg (by intro e;simp at e;rw[e]at hx;cases hx)]at h1;exact h1
theorem SR(G:Good t S){i:Nat}(hi:i<t.nodes.length)(hx:zn (t.nd (i:Int)).kind=true)(h24:(t.nd (i:Int)).kind≠24):(t.nd (i:Int)).kids.map (ofK (tysP t i))=(t.nd (i:Int)).kids.map (ofK (exT t)):=by
 refine List.map_congr_left fun x hxm=>?_;obtain⟨j,hj,rfl⟩:=List.getElem_of_mem hxm;obtain⟨a,ha,hc,hb⟩:=TP G hi hx h24 hj;rw[ha,eP hc (by omega),SU (by omega),if_pos hb]
theorem SP{i:Nat}(hx:zn (t.nd (i:Int)).kind=true):tyP t i=aM t (tysP t i) i i:=by unfold tyP typP;simp only[hx,if_true]
theorem SN{i:Nat}{L:List (List UInt8)}{j:Nat}(hj:j<(t.nd (i:Int)).kids.length):((t.nd (i:Int)).kids.map (ofK L)).getD j []=ofK L (t.nd (i:Int)).kids[j]:=by
 rw[List.getD_eq_getElem?_getD,List.getElem?_eq_getElem (by simpa using hj),Option.getD_some,List.getElem_map]
theorem TN{k:List UInt8}{l:List (List UInt8)}(h:areB k l=true):∀x∈l,x=k:=fun x hx=>by
 have:=List.all_eq_true.1 h x hx;simpa using this
theorem TY(G:Good t S){i:Nat}(hi:i<t.nodes.length)(hk:(t.nd (i:Int)).kind=19)(hne:tyP t i≠[]) :
 ∃h:(t.nd (i:Int)).kids.length=3,ofK (exT t) (t.nd (i:Int)).kids[0]=zA/\ofK (exT t) (t.nd (i:Int)).kids[1]=tyP t i/\ofK (exT t) (t.nd (i:Int)).kids[2]=tyP t i:=by
 have hx:zn (t.nd (i:Int)).kind=true:=by rw[hk];rfl
 have hm:=G.many hi;rw[hk]at hm
 have h3:(t.nd (i:Int)).kids.length=3:=by
  have:((t.nd (i:Int)).kids.length:Int)=3:=by simpa[zD]using hm
  omega
 have e:=SP hx;have hl:=SR G hi hx (by omega);simp only[aM,hk,hl,SN (t:=t) (i:=i) (L:=exT t) (show 0<_ by omega),SN (t:=t) (i:=i) (L:=exT t) (show 1<_ by omega),SN (t:=t) (i:=i) (L:=exT t) (show 2<_ by omega)]at e;have e:tyP t i=if ofK (exT t) (t.nd (i:Int)).kids[0]==zA&&ofK (exT t) (t.nd (i:Int)).kids[1]==ofK (exT t) (t.nd (i:Int)).kids[2]then ofK (exT t) (t.nd (i:Int)).kids[1]else []:=e;split at e
 .rename_i hc
  simp only[Bool.and_eq_true,beq_iff_eq]at hc;exact⟨h3,hc.1,e.symm,hc.2▸e.symm⟩
 .exact absurd e hne
theorem TS(G:Good t S){i:Nat}(hi:i<t.nodes.length)(hk:(t.nd (i:Int)).kind=20) :
 ∃h:(t.nd (i:Int)).kids.length=2,ofK (exT t) (t.nd (i:Int)).kids[1]=tyP t i:=by
 have hx:zn (t.nd (i:Int)).kind=true:=by rw[hk];rfl
 have hm:=G.many hi;rw[hk]at hm
 have h3:(t.nd (i:Int)).kids.length=2:=by
  have:((t.nd (i:Int)).kids.length:Int)=2:=by simpa[zD]using hm
  omega
 have e:=SP hx;have hl:=SR G hi hx (by omega);simp only[aM,hk,hl,SN (t:=t) (i:=i) (L:=exT t) (show 1<_ by omega)]at e;exact⟨h3,e.symm⟩
theorem TT(G:Good t S){i:Nat}(hi:i<t.nodes.length)(hk:(t.nd (i:Int)).kind=4\/6<=(t.nd (i:Int)).kind/\(t.nd (i:Int)).kind<=10)(hne:tyP t i≠[]) :
 tyP t i=intT/\∀x∈(t.nd (i:Int)).kids,ofK (exT t) x=intT:=by
 have hx:zn (t.nd (i:Int)).kind=true:=by simp[zn];omega
 have e:=SP hx;have hl:=SR G hi hx (by omega);have ha:(t.nd (i:Int)).kind=4\/(t.nd (i:Int)).kind=6\/(t.nd (i:Int)).kind=7\/(t.nd (i:Int)).kind=8\/(t.nd (i:Int)).kind=9\/(t.nd (i:Int)).kind=10:=by omega
 have e:tyP t i=if areB intT ((t.nd (i:Int)).kids.map (ofK (exT t)))then intT else []:=by
  rw[e,<-hl];rcases ha with k|k|k|k|k|k<;>(simp only[aM,k];rfl)
 split at e
 .rename_i hc
  exact⟨e,fun x hx=>TN hc _ (List.mem_map.2 ⟨x,hx,rfl⟩)⟩
 .exact absurd e hne
theorem TH{i:Nat}(hk:(t.nd (i:Int)).kind=5\/11<=(t.nd (i:Int)).kind/\(t.nd (i:Int)).kind<=18)(hne:tyP t i≠[]):tyP t i=zA:=by
 have hx:zn (t.nd (i:Int)).kind=true:=by simp[zn];omega
 have e:=SP hx;have ha:(t.nd (i:Int)).kind=5\/(t.nd (i:Int)).kind=11\/(t.nd (i:Int)).kind=12\/(t.nd (i:Int)).kind=13\/(t.nd (i:Int)).kind=14\/(t.nd (i:Int)).kind=15\/(t.nd (i:Int)).kind=16\/(t.nd (i:Int)).kind=17\/(t.nd (i:Int)).kind=18:=by omega
 obtain⟨b,e⟩:∃b:Bool,tyP t i=if b then zA else []:=by
  rcases ha with k|k|k|k|k|k|k|k|k<;>exact⟨_,by rw[e];simp only[aM,k];rfl⟩
 cases b with
 |true=>exact e
 |false=>exact absurd e hne
theorem TK(G:Good t S){i:Nat}(hi:i<t.nodes.length)(hk:(t.nd (i:Int)).kind=26)(hne:tyP t i≠[]) :
 ∃h:0<(t.nd (i:Int)).kids.length,tyP t i=bE (ofK (exT t) (t.nd (i:Int)).kids[0]) (t.nd (i:Int)).kids.length:=by
 have hx:zn (t.nd (i:Int)).kind=true:=by rw[hk];rfl
 have hm:=G.many hi;rw[hk]at hm
 have h3:0<(t.nd (i:Int)).kids.length:=by
  have:(1:Int)<=((t.nd (i:Int)).kids.length:Int):=by simpa[zD]using hm
  omega
 have e:=SP hx;have hl:=SR G hi hx (by omega)
 have e:tyP t i=if areB (ofK (exT t) (t.nd (i:Int)).kids[0]) ((t.nd (i:Int)).kids.map (ofK (exT t)))then bE (ofK (exT t) (t.nd (i:Int)).kids[0]) ((t.nd (i:Int)).kids.map (ofK (exT t))).length else []:=by
  rw[e,<-SN (t:=t) (i:=i) (L:=exT t) h3,<-hl];simp only[aM,zU,hk];rfl
 split at e
 .rw[List.length_map]at e
  exact⟨h3,e⟩
 .exact absurd e hne
theorem TU{i:Nat}(hk:(t.nd (i:Int)).kind=24)(hne:tyP t i≠[]):tyP t i=(t.nd (i:Int)).text:=by
 have hx:zn (t.nd (i:Int)).kind=true:=by rw[hk];rfl
 have e:=SP hx
 have e:tyP t i=if eqF (cY t (tysP t i)) (t.nd (i:Int)).kids (t.nd (means t i)).kids then (t.nd (i:Int)).text else []:=by
  rw[e];simp only[aM,zU,hk];rfl
 split at e
 .exact e
 .exact absurd e hne
theorem SS{i:Nat}{a:Int}(h0:0<=a)(hn:i<=t.nodes.length)(h:ofK (tysP t i) a≠[]):ofK (tysP t i) a=tyP t a.toNat:=by
 by_cases ha:a.toNat<i
 .obtain⟨k,rfl⟩:=Int.eq_ofNat_of_zero_le h0
  exact eP (by simpa using ha) (by simp at ha;omega)
 .exact absurd (sX t (by omega)) h
theorem TL(bd:Bd t)(hr:(zb t).2.2=0){i k:Nat}(hi:i<t.nodes.length)(hk:k<t.nodes.length)(k3:(t.nd (i:Int)).kind=3)(j3:(t.nd (k:Int)).kind=3)(hm:means t i=means t k)(hne:tyP t i≠[])(hne':tyP t k≠[]):tyP t k=tyP t i:=by
 obtain⟨wf,G⟩:=zl bd hr;obtain⟨d,hd,hb,-,-,he,-⟩:=cZ bd hr hi (by rw[k3];rfl);have e1:tyP t i=eN t (tysP t i) d:=by rw[SP (by rw[k3];rfl)];simp[aM,k3,hd]
 have e2:tyP t k=eN t (tysP t k) d:=by rw[SP (by rw[j3];rfl)];simp[aM,j3,<-hm,hd]
 rw[e1]at hne|-;rw[e2]at hne' |-
 have ha:0<=(t.nd (d:Int)).kids.getD 0 0:=by
  rw[List.getD_eq_getElem?_getD]
  cases hc:(t.nd (d:Int)).kids[0]? with
  |none=>simp
  | some x=>
    obtain⟨a,rfl,_⟩:=aQ G hb (List.mem_of_getElem? hc);simp
 unfold eN at hne hne' |-;split
 .rename_i hc
  rw[if_pos hc]at hne hne';rw[SS ha (by omega) hne,SS ha (by omega) hne']
 .rename_i hc
  rw[if_neg hc]at hne hne';split
  .rename_i hc
   rw[if_pos hc]at hne hne';rw[SS (by omega) (by omega) hne,SS (by omega) (by omega) hne']
  .rfl
theorem TR(G:Good t S)(ha:InferAt t t.nodes.length 0){i:Nat}(hi:i<t.nodes.length)(hk:(t.nd (i:Int)).kind=42) :
 ∃h:2<=(t.nd (i:Int)).kids.length,ofK (exT t) ((t.nd (i:Int)).kids[(t.nd (i:Int)).kids.length-1])=ofK (tysP t t.nodes.length) ((t.nd (i:Int)).kids[(t.nd (i:Int)).kids.length-2]):=by
 have hm:=G.many hi;rw[hk]at hm
 have h2:2<=(t.nd (i:Int)).kids.length:=by
  have:(2:Int)<=((t.nd (i:Int)).kids.length:Int):=by simpa[zD]using hm
  omega
 have h1:=(mC (ha.zero i hi)).1
 have e:aT t (tysP t (i+1)) i=if ofK (tysP t (i+1)) ((t.nd (i:Int)).kids[(t.nd (i:Int)).kids.length-1])==ofK (tysP t (i+1)) ((t.nd (i:Int)).kids[(t.nd (i:Int)).kids.length-2])then 0 else 11:=by
  rw[<-SN (t:=t) (i:=i) (L:=tysP t (i+1)) (show _-1<_ by omega),<-SN (t:=t) (i:=i) (L:=tysP t (i+1)) (show _-2<_ by omega)];unfold aT;simp only[hk,List.length_map];rfl
 rw[e]at h1;split at h1
 .rename_i hc
  obtain⟨a,hd,hf⟩:=aQ G hi (List.getElem_mem (show(t.nd (i:Int)).kids.length-1<_ by omega));obtain⟨b,he,hg⟩:=aQ G hi (List.getElem_mem (show(t.nd (i:Int)).kids.length-2<_ by omega));have hb:=G.kidOk hi (show(t.nd (i:Int)).kids.length-1<(t.nd (i:Int)).kids.length by omega);rw[hk,hd]at hb;unfold kidK at hb;rw[if_neg (by decide),if_neg (by decide),if_neg (by decide),if_neg (by decide),if_pos (by decide),if_pos (by simp;omega)]at hb;rw[hd,he]at hc;simp only[beq_iff_eq]at hc;rw[eP (by omega) (by omega),eP (by omega) (by omega)]at hc;exact⟨h2,by rw[hd,he,SU (by omega),if_pos hb,eP (by omega) (by omega),hc]⟩
 .cases h1
end
end
end Go.Proofs.YthjpoaannjgdmaaGreatDoor
