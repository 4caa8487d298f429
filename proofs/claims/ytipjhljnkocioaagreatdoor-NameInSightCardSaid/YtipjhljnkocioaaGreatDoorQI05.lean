/- Part of a proof. -/
import Derived.Test.YtipjhljnkocioaaGreatDoorP22
import Derived.Test.YtipjhljnkocioaaGreatDoorQI02
set_option maxRecDepth 100000
set_option maxHeartbeats 8000000
set_option linter.unusedVariables false
set_option linter.unusedSimpArgs false
namespace Go.Proofs.YtipjhljnkocioaaGreatDoor
section
open Go.RowKit
theorem LP(t:Tr):∀(L:List Int) (seen:List (List UInt8)),L.Nodup →
 visF t seen L=L.filter fun d=>!seen.contains (t.nd d).text&&(L.find? (fun x=>(t.nd x).text==(t.nd d).text)==some d)&&suits 3 (t.nd d).kind
 | [],_,_=>rfl
 | d::r,seen,h=>by
   obtain⟨h1,h2⟩:=List.nodup_cons.1 h;rw[visF,List.filter_cons,LP t r _ h2];have hd:((d::r).find? (fun x=>(t.nd x).text==(t.nd d).text)==some d)=true:=by simp[List.find?_cons]
   have hr:r.filter (fun x=>!((t.nd d).text::seen).contains (t.nd x).text&&(r.find? (fun y=>(t.nd y).text==(t.nd x).text)==some x)&&suits 3 (t.nd x).kind) =
    r.filter (fun x=>!seen.contains (t.nd x).text&&((d::r).find? (fun y=>(t.nd y).text==(t.nd x).text)==some x)&&suits 3 (t.nd x).kind):=by
    refine List.filter_congr fun x hx=>?_;have hne:d≠x:=fun e=>h1 (e▸hx);rw[List.find?_cons,List.contains_cons];by_cases e:(t.nd d).text=(t.nd x).text
    ·rw[show((t.nd x).text==(t.nd d).text)=true by rw[e];simp,show((t.nd d).text==(t.nd x).text)=true by rw[e];simp]
     simp[hne]
    ·rw[show((t.nd x).text==(t.nd d).text)=false by simpa using fun e2=>e e2.symm,show((t.nd d).text==(t.nd x).text)=false by simpa using e]
     simp
   rw[hr,hd,Bool.and_true];cases (!seen.contains (t.nd d).text&&suits 3 (t.nd d).kind)<;>rfl
theorem LV{t:Tr}{node:Int}(ho:fC t node)(htop:(t.items.filter fun it=>decide (it<(aZ t node).2)&&zi t it)=t.items.filter fun it=>decide (it<node)&&zi t it)(x:List UInt8) :
 (zB t node).find? (fun d=>(t.nd d).text==x)=(sight t node).find? (fun d=>(t.nd d).text==x):=by
 unfold zB sight;rw[htop,List.find?_append,List.find?_append,wM];intro a ha b hb h1 h2;simp only[List.mem_filter,Bool.and_eq_true,decide_eq_true_eq]at ha hb;rw[beq_iff_eq]at h1 h2;exact ho a ha.1 b hb.1 ha.2.1 hb.2.1 ha.2.2 hb.2.2 (h1.trans h2.symm)
theorem MV{t:Tr}{S:List Int}(wf:WF t)(G:Good t S){node:Nat}(hn:node<t.nodes.length)(ho:fC t node):bA (visF t [] (zB t node))=visible t node:=by
 rw[LP t _ _ (fQ wf G hn)];unfold visible;refine bX ?_ (bW _);refine(bF _).trans ?_
 have hp:(zB t node).Perm (sight t node):=by
  unfold zB sight;rw[G.ahead hn];exact(List.Perm.refl _).append (List.reverse_perm _)
 have hf:(zB t node).filter (fun d=>!([]:List (List UInt8)).contains (t.nd d).text&&((zB t node).find? (fun x=>(t.nd x).text==(t.nd d).text)==some d)&&suits 3 (t.nd d).kind) =
  (zB t node).filter (fun d=>nearest t node (t.nd d).text==d&&suits 3 (t.nd d).kind):=by
  refine List.filter_congr fun d hd=>?_;rw[LV ho (G.ahead hn)];unfold nearest;cases hz:(sight t node).find? (fun x=>(t.nd x).text==(t.nd d).text)with
  | none=>
    rw[List.find?_eq_none]at hz;exact absurd (by simp) (hz d (hp.mem_iff.1 hd))
  |some y=>simp
 rw[hf];exact hp.filter _
end
end Go.Proofs.YtipjhljnkocioaaGreatDoor
