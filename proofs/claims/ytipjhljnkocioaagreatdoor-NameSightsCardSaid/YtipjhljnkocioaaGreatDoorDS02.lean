/- Part of a proof. -/
import Derived.Test.YtipjhljnkocioaaGreatDoorC24
import Derived.Test.YtipjhljnkocioaaGreatDoorDS01
set_option maxRecDepth 100000
set_option maxHeartbeats 8000000
set_option linter.unusedVariables false
set_option linter.unusedSimpArgs false
namespace Go.Proofs.YtipjhljnkocioaaGreatDoor
section
open Go.RowKit
theorem PB(t:Tr):∀(L:List Int) (seen:List (List UInt8)),L.Nodup →
 visF t seen L=L.filter fun d=>!seen.contains (t.nd d).text&&(L.find? (fun x=>(t.nd x).text==(t.nd d).text)==some d)&&suits 3 (t.nd d).kind
 | [],_,_=>rfl
 | d::r,seen,h=>by
   obtain⟨h1,h2⟩:=List.nodup_cons.1 h;rw[visF,List.filter_cons,PB t r _ h2];have hd:((d::r).find? (fun x=>(t.nd x).text==(t.nd d).text)==some d)=true:=by simp[List.find?_cons]
   have hr:r.filter (fun x=>!((t.nd d).text::seen).contains (t.nd x).text&&(r.find? (fun y=>(t.nd y).text==(t.nd x).text)==some x)&&suits 3 (t.nd x).kind) =
    r.filter (fun x=>!seen.contains (t.nd x).text&&((d::r).find? (fun y=>(t.nd y).text==(t.nd x).text)==some x)&&suits 3 (t.nd x).kind):=by
    refine List.filter_congr fun x hx=>?_;have hne:d≠x:=fun e=>h1 (e▸hx);rw[List.find?_cons,List.contains_cons];by_cases e:(t.nd d).text=(t.nd x).text
    ·rw[show((t.nd x).text==(t.nd d).text)=true by rw[e];simp,show((t.nd d).text==(t.nd x).text)=true by rw[e];simp]
     simp[hne]
    ·rw[show((t.nd x).text==(t.nd d).text)=false by simpa using fun e2=>e e2.symm,show((t.nd d).text==(t.nd x).text)=false by simpa using e]
     simp
   rw[hr,hd,Bool.and_true];cases (!seen.contains (t.nd d).text&&suits 3 (t.nd d).kind)<;>rfl
theorem PI{t:Tr}{node:Int}(ho:fU t node)(htop:(t.items.filter fun it=>decide (it<(bQ t node).2)&&zl t it)=t.items.filter fun it=>decide (it<node)&&zl t it)(x:List UInt8) :
 (zz t node).find? (fun d=>(t.nd d).text==x)=(sight t node).find? (fun d=>(t.nd d).text==x):=by
 unfold zz sight;rw[htop,List.find?_append,List.find?_append,yG];intro a ha b hb h1 h2;simp only[List.mem_filter,Bool.and_eq_true,decide_eq_true_eq]at ha hb;rw[beq_iff_eq]at h1 h2;exact ho a ha.1 b hb.1 ha.2.1 hb.2.1 ha.2.2 hb.2.2 (h1.trans h2.symm)
theorem QD{t:Tr}{S:List Int}(wf:WF t)(G:Good t S){node:Nat}(hn:node<t.nodes.length)(ho:fU t node):bM (visF t [] (zz t node))=visible t node:=by
 rw[PB t _ _ (mZ wf G hn)];unfold visible;refine cC ?_ (dD _);refine(cK _).trans ?_
 have hp:(zz t node).Perm (sight t node):=by
  unfold zz sight;rw[G.ahead hn];exact(List.Perm.refl _).append (List.reverse_perm _)
 have hf:(zz t node).filter (fun d=>!([]:List (List UInt8)).contains (t.nd d).text&&((zz t node).find? (fun x=>(t.nd x).text==(t.nd d).text)==some d)&&suits 3 (t.nd d).kind) =
  (zz t node).filter (fun d=>nearest t node (t.nd d).text==d&&suits 3 (t.nd d).kind):=by
  refine List.filter_congr fun d hd=>?_;rw[PI ho (G.ahead hn)];unfold nearest;cases hz:(sight t node).find? (fun x=>(t.nd x).text==(t.nd d).text)with
  | none=>
    rw[List.find?_eq_none]at hz;exact absurd (by simp) (hz d (hp.mem_iff.1 hd))
  |some y=>simp
 rw[hf];exact hp.filter _
end
end Go.Proofs.YtipjhljnkocioaaGreatDoor
