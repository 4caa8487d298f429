/- Part of a proof. -/
import Derived.Test.YtipjhljnkocioaaGreatDoorP37
import Derived.Test.YtipjhljnkocioaaGreatDoorQF02
import Derived.Test.YtipjhljnkocioaaGreatDoorQF04
set_option maxRecDepth 100000
set_option maxHeartbeats 8000000
set_option linter.unusedVariables false
set_option linter.unusedSimpArgs false
namespace Go.Proofs.YtipjhljnkocioaaGreatDoor
section
open Go Go.RowKit
theorem MH{t:Tr}{S:List Int}(G:Good t S){i:Nat}(hi:i<t.nodes.length):eY t i=zZ (t.nd i).kind:=by
 have hr:=G.right i hi;unfold bR okK at hr;unfold eY zZ fL dN at *;by_cases h1:1≤(t.nd i).kind
 ·simp[h1]
 ·exfalso
  have e1:((t.nd (i:Int)).kind==25)=false:=by rw[beq_eq_false_iff_ne];omega
  have e2:((t.nd (i:Int)).kind==34)=false:=by rw[beq_eq_false_iff_ne];omega
  simp[h1,e1,e2,show ¬30≤(t.nd (i:Int)).kind by omega,show ¬40≤(t.nd (i:Int)).kind by omega]at hr
theorem MS{t:Tr}{i:Nat}(hi:i<t.nodes.length):(ze t t.nodes.length)[i]?=some (means t i):=by
 rw[bD,List.getElem?_map,List.getElem?_range hi];rfl
theorem mem_visible{t:Tr}{i x:Int}:x∈visible t i↔x∈sight t i∧nearest t i (t.nd x).text=x∧suits 3 (t.nd x).kind=true:=by
 unfold visible;rw[(bF _).mem_iff,List.mem_filter,Bool.and_eq_true,beq_iff_eq]
theorem MF(t:Tr):∀(f:Nat) (last n:Int) (acc:List Int),(upF t (fun last n acc=>acc++zy (t.nd n) last n) f last n acc).1=acc++(upF t (fun last n acc=>acc++zy (t.nd n) last n) f last n []).1
 |0,last,n,acc=>by simp[upF]
 | f+1,last,n,acc=>by
   rw[upF,upF];by_cases hn:n<0
   ·rw[if_pos hn,if_pos hn];simp
   ·rw[if_neg hn,if_neg hn,MF t f n _ (acc++_),MF t f n _ ([]++_),List.nil_append,List.append_assoc]
theorem NI(t:Tr)(last n:Int)(acc:List Int):(upw t (fun last n acc=>acc++zy (t.nd n) last n) last n acc).1=acc++(upw t (fun last n acc=>acc++zy (t.nd n) last n) last n []).1:=MF t _ _ _ _
def UpAt(t:Tr)(i n:Int)(hs:List (List UInt8)):Prop:=
 parent t n<0∨∃acc:List Int,hs=acc.map (fun x=>(t.nd x).text)∧(aZ t i).1=(upw t (fun last n acc=>acc++zy (t.nd n) last n) n (parent t n) acc).1∧∀x∈acc,x≤n
def letB(t:Tr)(n p:Int):Bool:=(t.nd p).kind==20&&((t.nd p).kids.length==2&&(t.nd p).kids.getD 1 0==n)
theorem MX{t:Tr}{S:List Int}(G:Good t S){i:Nat}(hi:i<t.nodes.length)(c42:(t.nd i).kind=42):parent t i = -1:=by
 refine G.noParent ?_;apply Classical.byContradiction;intro hn;obtain⟨j,_,hj,hmj⟩:=zO (G.parent_yes hi hn);have:=G.kidKind hj hmj;rw[c42]at this;simp[dN]at this
theorem UpAt.step{t:Tr}{S:List Int}(wf:WF t)(G:Good t S){i:Int}{n p:Nat}{hs:List (List UInt8)}(hn:n<t.nodes.length)(hp:parent t n=p)(hpl:p<t.nodes.length)(h:UpAt t i n hs) :
 (letB t n p=true→(((p:Int)∈visible t i↔(t.nd p).text ∉ hs)∧UpAt t i p (hs++[(t.nd p).text])))∧(letB t n p=false→UpAt t i p hs):=by
 have hlt:=dD t n (by omega);rw[hp]at hlt;rcases h with h|⟨acc,rfl,h2,h3⟩
 ·omega
 ·rw[hp,ML t _ _ _ (by omega),if_neg (by omega)]at h2
  constructor
  ·intro hb
   unfold letB at hb;simp only[Bool.and_eq_true,beq_iff_eq]at hb;obtain⟨hk,hl,hb⟩:=hb
   have hs1:zy (t.nd p) n p=[(p:Int)]:=by
    unfold zy;rw[List.getD_eq_getElem?_getD,List.getElem?_eq_getElem (show 1<(t.nd p).kids.length by omega),Option.getD_some]at hb;rw[List.getElem?_eq_getElem (show 1<(t.nd p).kids.length by omega),hb,hk];simp
   simp only[hs1]at h2;refine⟨?_,.inr ⟨acc++[(p:Int)],by simp,h2,?_⟩⟩
   ·rw[NI]at h2
    have hsi:sight t i=acc++((p:Int)::((upw t (fun last n acc=>acc++zy (t.nd n) last n) p (parent t p) []).1++t.items.filter fun it=>decide (it<(aZ t i).2)&&zi t it)):=by
     unfold sight;rw[h2];simp
    have hmem:(p:Int)∈sight t i:=by rw[hsi];simp
    have hsu:suits 3 (t.nd p).kind=true:=by rw[hk];rfl
    rw[mem_visible,hsu];unfold nearest;rw[hsi,List.find?_append,←hsi];constructor
    ·rintro⟨_,h4,_⟩ hm
     obtain⟨y,hy,hyt⟩:=List.mem_map.1 hm;cases hf:acc.find? (fun d=>(t.nd d).text==(t.nd p).text)with
     | none=>
       rw[List.find?_eq_none]at hf;exact hf y hy (by simpa using hyt)
     | some z=>
       rw[hf]at h4;simp only[Option.some_or,Option.getD_some]at h4;have:=h3 z (List.mem_of_find?_eq_some hf);omega
    ·intro hm
     refine⟨hmem,?_,rfl⟩
     have hf:acc.find? (fun d=>(t.nd d).text==(t.nd p).text)=none:=by
      rw[List.find?_eq_none];intro y hy he;exact hm (List.mem_map.2 ⟨y,hy,by simpa using he⟩)
     rw[hf,List.find?_cons];simp
   ·intro x hx
    rcases List.mem_append.1 hx with hx|hx
    ·have:=h3 x hx;omega
    ·obtain rfl:=List.mem_singleton.1 hx;exact Int.le_refl _
  ·intro hb
   by_cases c42:(t.nd p).kind=42
   ·exact .inl (by rw[MX G hpl c42];omega)
   ·have hs1:zy (t.nd p) n p=[]:=by
     unfold zy;rw[show((t.nd p).kind==42)=false by simpa using c42];by_cases hk:(t.nd p).kind=20
     ·have hl:(t.nd p).kids.length=2:=by rw[t.nd_at hpl];exact wf.letK p hpl (by rw[←t.nd_at hpl];exact hk)
      unfold letB at hb;rw[hk,hl,List.getD_eq_getElem?_getD,List.getElem?_eq_getElem (show 1<(t.nd p).kids.length by omega),Option.getD_some]at hb;rw[List.getElem?_eq_getElem (show 1<(t.nd p).kids.length by omega)];have:¬(t.nd p).kids[1]'(by omega)=(n:Int):=by simpa using hb
      simp[this]
     ·simp[hk]
    simp only[hs1,List.append_nil]at h2;exact .inr ⟨acc,rfl,h2,fun x hx=>by have:=h3 x hx;omega⟩
theorem LX{t:Tr}(bd:Bd t)(h:(zc t).2.2=0){i:Nat}(hi:i<t.nodes.length):fK t i=if zZ (t.nd i).kind then (free t (ze t t.nodes.length) i,0)else ([],7):=by
 obtain⟨wf,G⟩:=zK bd h;unfold fK;rw[jF h hi,MH G hi]
 cases zZ (t.nd i).kind with
 |true=>rw[if_pos rfl,if_pos rfl,if_pos rfl];exact congrArg (·,(0:Int)) (NH wf G hi)
 |false=>simp
theorem mem_free{t:Tr}{i x:Int}:x∈free t (ze t t.nodes.length) i↔∃m u:Nat,m<t.nodes.length∧u<t.nodes.length∧x=m∧inside t m i=false∧means t u=m∧inside t u i=true:=by
 unfold free;rw[LY];constructor
 ·rintro⟨m,hm,hp,rfl⟩
  unfold LP at hp;rw[Bool.and_eq_true,List.any_eq_true,Bool.not_eq_true']at hp;obtain⟨h1,u,hu,h2⟩:=hp;obtain⟨k,hk,rfl⟩:=mem_uses.1 hu
  have hkl:k<t.nodes.length:=by
   have:=(List.getElem?_eq_some_iff.1 hk).1;rwa[zD]at this
  rw[MS hkl]at hk;exact⟨m,k,hm,hkl,rfl,h1,Option.some.inj hk,h2⟩
 ·rintro⟨m,u,hm,hu,rfl,h1,h2,h3⟩
  refine⟨m,hm,?_,rfl⟩;unfold LP;rw[Bool.and_eq_true,List.any_eq_true,Bool.not_eq_true'];exact⟨h1,u,mem_uses.2 ⟨u,by rw[MS hu,h2],rfl⟩,h3⟩
theorem MI(t:Tr)(i:Int):(free t (ze t t.nodes.length) i).Pairwise (· < ·):=MK _ _
theorem MJ(t:Tr)(i:Int):(free t (ze t t.nodes.length) i).length≤t.nodes.length:=bY _ _
theorem MW{t:Tr}(bd:Bd t)(h:(zc t).2.2=0){i:Nat}(hi:i<t.nodes.length)(hk:(t.nd i).kind=3):free t (ze t t.nodes.length) i=[means t i]:=by
 obtain⟨wf,G⟩:=zK bd h;have hb:=G.begins hi
 have hst:stt (bV t) i=(i:Int)-1:=by
  apply Classical.byContradiction;intro hn;obtain⟨k,hk2,_⟩:=G.cover hi (j:=(i:Int)-1) (by omega) (by omega);have hm:=G.many hi;rw[hk]at hm;have:(t.nd i).kids.length=0:=by simpa[zQ]using hm
  rw[List.length_eq_zero_iff.1 this]at hk2;cases hk2
 have hin:∀u:Nat,u<t.nodes.length→(inside t u i=true↔u=i):=fun u hu=>by
  rw[G.inside_iff hi hu,hst];omega
 obtain⟨d,hd,hdl,hdd,_,_,_⟩:=oJ bd h hi (by rw[hk];rfl)
 have hdi:d≠i:=by
  rintro rfl;unfold zi mL at hdd;rw[hk]at hdd;simp at hdd
 refine MR (MI t i) (by simp) fun x=>?_;rw[mem_free,List.mem_singleton];constructor
 ·rintro⟨m,u,hm,hu,rfl,h1,h2,h3⟩
  rw[(hin u hu).1 h3]at h2;exact h2.symm
 ·rintro rfl
  refine⟨d,i,hdl,hi,hd,?_,hd,(hin i hi).2 rfl⟩;rw[Bool.eq_false_iff];intro hc;exact hdi ((hin d hdl).1 hc)
theorem NG{t:Tr}(bd:Bd t)(h:(zc t).2.2=0){i:Nat}(hi:i<t.nodes.length){x:Int}(hx:x∈free t (ze t t.nodes.length) i) :
 ∃m u:Nat,x=m∧m<t.nodes.length∧u≤i∧means t u=m∧inside t u i=true∧inside t m i=false:=by
 obtain⟨wf,G⟩:=zK bd h;obtain⟨m,u,hm,hu,rfl,h1,h2,h3⟩:=mem_free.1 hx;have:=(G.inside_iff hi hu).1 h3;exact⟨m,u,rfl,hm,by omega,h2,h3,h1⟩
theorem LV{t:Tr}{o n:Int}(h:n<0):inside t n o=false:=by rw[aW t o (by omega),if_pos h]
theorem NB{t:Tr}(bd:Bd t)(h:(zc t).2.2=0){i:Nat}(hi:i<t.nodes.length)(hx:zZ (t.nd i).kind=true){k:Int}(hk:k∈(t.nd i).kids){y:Int}(hy:y∈free t (ze t t.nodes.length) k) :
 y∈free t (ze t t.nodes.length) i∨y=i:=by
 obtain⟨wf,G⟩:=zK bd h;obtain⟨k1,k2,k3,k4⟩:=G.kid hi k hk;obtain⟨k,rfl⟩:=Int.eq_ofNat_of_zero_le k4;have hkl:k<t.nodes.length:=by omega
 obtain⟨m,u,hm,hu,rfl,h1,h2,h3⟩:=mem_free.1 hy;have hu3:=(G.inside_iff hkl hu).1 h3;have hui:inside t u i=true:=(G.inside_iff hi hu).2 ⟨by omega,by omega⟩;have hnk:¬(stt (bV t) k<(m:Int)∧(m:Int)≤k):=fun hc=>by rw[(G.inside_iff hkl hm).2 hc]at h1;cases h1
 cases hmi:inside t m i with
 |false=>exact .inl (mem_free.2 ⟨m,u,hm,hu,rfl,hmi,h2,hui⟩)
 | true=>
   right;apply Classical.byContradiction;intro hne;have hmi3:=(G.inside_iff hi hm).1 hmi;have hmi2:=hmi;rw[aW t i (by omega),if_neg (by omega),if_neg hne]at hmi2
   have key:inside t u m=true→False:=fun hc=>by
    have hc3:=(G.inside_iff hm hu).1 hc;obtain⟨c,hc1,hc2,hc4⟩:=G.cover hi hmi3.1 (by omega);obtain⟨c5,c6,c7,c8⟩:=G.kid hi c hc1;obtain⟨c,rfl⟩:=Int.eq_ofNat_of_zero_le c8;have hnest:=G.nest c c m nlr (by omega) hc2 (by omega)
    have hck:c=k:=by
     have hasc:=List.pairwise_iff_getElem.1 (G.asc hi);obtain⟨a,ha,ea⟩:=List.getElem_of_mem hc1;obtain⟨b,hb,eb⟩:=List.getElem_of_mem hk;rcases Nat.lt_trichotomy a b with hab|hab|hab
     ·have:=hasc a b ha hb hab;rw[ea,eb]at this;omega
     ·subst hab;rw[ea]at eb;omega
     ·have:=hasc b a hb ha hab;rw[ea,eb]at this;omega
    subst hck;exact hnk ⟨hc2,hc4⟩
   have hs:=gW (t:=t) (node:=(u:Int)) (by omega);rw[h2]at hs;rcases(fI G hu hs).1 with(⟨_,_,hin⟩|⟨_,hin⟩|⟨_,hp,hp42,_⟩) | ⟨hit,_,_⟩
   ·exact key hin
   ·exact key hin
   ·obtain⟨q,hq,hql,_⟩:=zO hp
    rw[hq]at hmi2 hp42;rw[aW t i (by omega),if_neg (by omega)]at hmi2;by_cases hqi:(q:Int)=i
    ·rw[hqi]at hp42
     rw[hp42]at hx;exact absurd hx (by decide)
    ·rw[if_neg hqi,MX G hql hp42,LV (by omega)]at hmi2
     cases hmi2
   ·rw[G.noParent hit,LV (by omega)]at hmi2
    cases hmi2
end
end Go.Proofs.YtipjhljnkocioaaGreatDoor
