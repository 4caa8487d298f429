/- Part of a proof. -/
import Derived.Test.YtokdgiphdnjeoaaGreatDoorQ38
import Derived.Test.YtokdgiphdnjeoaaGreatDoorQ39
set_option maxRecDepth 100000
set_option maxHeartbeats 8000000
set_option linter.unusedVariables false
set_option linter.unusedSimpArgs false
namespace Go.Proofs.YtokdgiphdnjeoaaGreatDoor
section
open Go Go.RowKit
theorem GA{p:Int→Bool}{x:Int}:∀{l:List Int},x∈l.takeWhile p→p x=true
 | [],h=>by cases h
 | y::l,h=>by
   rw[List.takeWhile_cons]at h;split at h
   ·rename_i hy
    rcases List.mem_cons.1 h with rfl|h
    ·exact hy
    ·exact GA h
   ·cases h
theorem fL{t:Tr}{x:Int}(h:zh t x=true):aV (t.nd x).kind=false:=by
 unfold zh sB at h;unfold aV;generalize (t.nd x).kind=k at h⊢;simp only[Bool.or_eq_true,Bool.and_eq_true,beq_iff_eq]at h;rcases h with(((((rfl|rfl) | rfl) | rfl) | rfl) | rfl) | ⟨rfl,_⟩<;>rfl
theorem qW{t:Tr}{x:Int}(h:zh t x=true):cQ (t.nd x).kind=true:=by
 unfold zh sB at h;unfold cQ;generalize (t.nd x).kind=k at h⊢;simp only[Bool.or_eq_true,Bool.and_eq_true,beq_iff_eq]at h;rcases h with(((((rfl|rfl) | rfl) | rfl) | rfl) | rfl) | ⟨rfl,_⟩<;>rfl
theorem BQ{k:Int}(h:aV k=true):cQ k=true:=by
 unfold aV at h;unfold cQ;simp only[Bool.or_eq_true,beq_iff_eq]at h;rcases h with(((rfl|rfl) | rfl) | rfl) | rfl<;>rfl
structure Renamed (t t':Tr) (d:Nat) (new:List UInt8):Prop where
 form:SameForm t t'
 bd:Bd t
 res:(zc t).2.2=0
 lt:d<t.nodes.length
 decl:zh t d=true
 text:∀i:Nat,i<t.nodes.length→(t'.nd i).text=if i=d∨means t i=d then new else (t.nd i).text
 fresh:∀i:Nat,i<t.nodes.length→(t.nd i).text≠new
 name:zX new=true
section
variable {t t' : Tr} {d : Nat} {new : List UInt8} (R : Renamed t t' d new)
include R
theorem Renamed.noName{i:Nat}(hi:i<t.nodes.length)(h:aV (t.nd i).kind=false):(t'.nd i).text=if i=d then new else (t.nd i).text:=by
 rw[R.text i hi,fD h];simp only[show ¬((-1:Int)=(d:Int)) by omega,or_false]
theorem Renamed.same{x y:Nat}(hx:x<t.nodes.length)(hy:y<t.nodes.length)(h1:aV (t.nd x).kind=false)(h2:aV (t.nd y).kind=false)(hne:x≠y)(h:(t'.nd x).text=(t'.nd y).text):(t.nd x).text=(t.nd y).text:=by
 rw[R.noName hx h1,R.noName hy h2]at h;by_cases e1:x=d
 ·rw[if_pos e1,if_neg (by omega)]at h
  exact absurd h.symm (R.fresh y hy)
 ·rw[if_neg e1]at h
  by_cases e2:y=d
  ·rw[if_pos e2]at h
   exact absurd h (R.fresh x hx)
  ·rw[if_neg e2]at h
   exact h
theorem Renamed.means{i:Nat}(hi:i<t.nodes.length):Go.Proofs.YtokdgiphdnjeoaaGreatDoor.means t' i=Go.Proofs.YtokdgiphdnjeoaaGreatDoor.means t i:=by
 obtain⟨wf,G⟩:=cS R.bd R.res;have F:=R.form
 cases hk:aV (t.nd i).kind with
 |false=>rw[fD hk,fD (by rw[F.kind];exact hk)]
 | true=>
   obtain⟨e,he,hel,hed,htx,_,_⟩:=EO R.bd R.res hi hk;have hne:Go.Proofs.YtokdgiphdnjeoaaGreatDoor.means t i ≠ -1:=by omega
   have hmn:nearest t i (t.nd i).text=e∧suits (t.nd i).kind (t.nd e).kind=true:=by
    have h2:=he;unfold Go.Proofs.YtokdgiphdnjeoaaGreatDoor.means at h2;rw[if_pos hk]at h2;split at h2
    ·omega
    ·rename_i hc
     simp only[Bool.or_eq_true,decide_eq_true_eq,Bool.not_eq_true',not_or,Bool.not_eq_false]at hc;rw[h2]at hc;exact⟨h2,hc.2⟩
   have hid:i≠d:=by
    rintro rfl;have:=fL R.decl;rw[hk]at this;cases this
   have hnear:nearest t' i (t'.nd i).text=e:=by
    have h1:=hmn.1;unfold nearest at h1⊢;rw[F.sg];cases hf:(sight t i).find? (fun d=>(t.nd d).text==(t.nd i).text)with
    |none=>rw[hf]at h1;simp at h1
    | some z=>
      rw[hf,Option.getD_some]at h1;subst h1;obtain⟨_,as1,bs,hl,has⟩:=List.find?_eq_some_iff_append.1 hf;have hin:∀x∈sight t i,zh t x=true∧0≤x∧x<t.nodes.length:=fun x hx=>⟨rP G hi hx,(kU G hi hx).2⟩
      have hfind:(sight t i).find? (fun d=>(t'.nd d).text==(t'.nd i).text)=some (e:Int):=by
       refine List.find?_eq_some_iff_append.2 ⟨?_,as1,bs,hl,fun x hx=>?_⟩
       ·rw[beq_iff_eq,R.noName hel (fL hed),R.text i hi,he]
        by_cases hc:e=d
        ·rw[if_pos hc,if_pos (.inr (by rw[hc]))]
        ·rw[if_neg hc,if_neg (by omega)];exact htx
       ·have hxs:x∈sight t i:=by rw[hl];simp[hx]
        obtain⟨q1,q2,q3⟩:=hin x hxs;obtain⟨x,rfl⟩:=Int.eq_ofNat_of_zero_le q2;have hxl:x<t.nodes.length:=by omega
        have hx2:¬(t.nd x).text=(t.nd i).text:=by simpa using has x hx
        have hx3:¬(t'.nd x).text=(t'.nd i).text:=by
         rw[R.noName hxl (fL q1),R.text i hi,he];by_cases hc:e=d
         ·have hxd:¬x=d:=fun h=>hx2 (by rw[h,←hc];exact htx)
          rw[if_neg hxd,if_pos (show i=d∨(e:Int)=(d:Int)from .inr (by rw[hc]))];exact R.fresh x hxl
         ·rw[if_neg (show ¬(i=d∨(e:Int)=(d:Int)) by omega)]
          by_cases hc2:x=d
          ·rw[if_pos hc2]
           exact fun h=>R.fresh i hi h.symm
          ·rw[if_neg hc2];exact hx2
        simpa using hx3
      rw[hfind];rfl
   rw[he];unfold Go.Proofs.YtokdgiphdnjeoaaGreatDoor.means;rw[F.kind,hk,if_pos rfl,hnear,F.kind,hmn.2,if_neg (by simp)]
theorem Renamed.err{i:Nat}(hi:i<t.nodes.length):aQ t' i=0:=by
 obtain⟨wf,G⟩:=cS R.bd R.res;have F:=R.form;have h:=(aS R.res).err i hi
 have hitem:∀x∈t.items,∃y:Nat,x=y∧y<t.nodes.length:=fun x hx=>by
  obtain⟨_,_,h2,h3,_⟩:=G.item x hx;obtain⟨y,rfl⟩:=Int.eq_ofNat_of_zero_le h3;exact⟨y,rfl,by omega⟩
 have hA:¬(aX t i&&zh t i&&aN t i)=true:=fun hc=>by unfold aQ at h;rw[if_pos hc]at h;cases h
 have hB:¬((t.nd i).kind==34&&aO t i)=true:=fun hc=>by unfold aQ at h;rw[if_neg hA,if_pos hc]at h;cases h
 have hA':¬(aX t' i&&zh t' i&&aN t' i)=true:=fun hc=>by
  rw[Bool.and_eq_true,Bool.and_eq_true,F.isD]at hc;obtain⟨⟨h1,h2⟩,h3⟩:=hc;refine hA ?_;rw[Bool.and_eq_true,Bool.and_eq_true];refine⟨⟨by unfold aX at h1⊢;rwa[F.items]at h1,h2⟩,?_⟩;unfold aN eH at h3⊢;rw[F.items]at h3;obtain⟨x,hx,hp⟩:=List.any_eq_true.1 h3;refine List.any_eq_true.2 ⟨x,hx,?_⟩;have hxi:x∈t.items:=(List.takeWhile_sublist _).subset hx;have hxlt:x<(i:Int):=by simpa using GA hx
  obtain⟨x,rfl,hxl⟩:=hitem x hxi;rw[Bool.and_eq_true,F.isD,beq_iff_eq]at hp;rw[Bool.and_eq_true,beq_iff_eq];exact⟨hp.1,R.same hxl hi (fL hp.1) (fL h2) (by omega) hp.2⟩
 have hB':¬((t'.nd i).kind==34&&aO t' i)=true:=fun hc=>by
  rw[Bool.and_eq_true,F.kind,beq_iff_eq]at hc;obtain⟨h1,h2⟩:=hc;refine hB ?_;rw[Bool.and_eq_true,beq_iff_eq];refine⟨h1,?_⟩;have hp:=wf.par i hi (by rw[←t.nd_at hi];exact h1);obtain⟨q,hq,hql,_⟩:=zF hp;unfold aO eH at h2⊢;rw[F.par,F.kids]at h2;obtain⟨x,hx,hpp⟩:=List.any_eq_true.1 h2;refine List.any_eq_true.2 ⟨x,hx,?_⟩;have hxi:x∈(t.nd (parent t i)).kids:=(List.takeWhile_sublist _).subset hx;rw[hq]at hxi;obtain⟨_,_,k3,k4⟩:=G.kid hql x hxi;have hxlt:x<(i:Int):=by simpa using GA hx
  obtain⟨x,rfl⟩:=Int.eq_ofNat_of_zero_le k4;rw[Bool.and_eq_true,F.kind,beq_iff_eq,beq_iff_eq]at hpp;rw[Bool.and_eq_true,beq_iff_eq,beq_iff_eq];exact⟨hpp.1,R.same (by omega) hi (by rw[hpp.1];rfl) (by rw[h1];rfl) (by omega) hpp.2⟩
 unfold aQ at h⊢;rw[if_neg hA'];rw[if_neg hB'];rw[if_neg hA,if_neg hB]at h;rw[R.means hi,F.kind,F.n,F.ins]
 have hr:zT t' i=zT t i:=by
  unfold zT eH;rw[F.items,R.means hi];rw[Bool.eq_iff_iff,List.any_eq_true,List.any_eq_true]
  have key:∀x∈t.items.takeWhile (fun x=>decide (x<(i:Int))),Go.Proofs.YtokdgiphdnjeoaaGreatDoor.means t' x=Go.Proofs.YtokdgiphdnjeoaaGreatDoor.means t x:=fun x hx=>by
   obtain⟨y,rfl,hy⟩:=hitem x ((List.takeWhile_sublist _).subset hx);exact R.means hy
  constructor<;>rintro⟨x,hx,hp⟩<;>refine⟨x,hx,?_⟩
  ·rwa[F.kind,key x hx]at hp
  ·rwa[F.kind,key x hx]
 rw[hr];exact h
theorem Renamed.check:zJ t'=0:=by
 refine R.form.check (aS R.res).check fun i hi=>?_;rw[R.text i hi];by_cases hc:i=d∨Go.Proofs.YtokdgiphdnjeoaaGreatDoor.means t i=d
 ·rw[if_pos hc]
  refine .inr ⟨?_,R.name⟩;rcases hc with rfl|hc
  ·exact qW R.decl
  ·refine BQ ?_
   cases hk:aV (t.nd i).kind with
   |true=>rfl
   |false=>rw[fD hk]at hc;omega
 ·rw[if_neg hc];exact .inl rfl
end
end
end Go.Proofs.YtokdgiphdnjeoaaGreatDoor
