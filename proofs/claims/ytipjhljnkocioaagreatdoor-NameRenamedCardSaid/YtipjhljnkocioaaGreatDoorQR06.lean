/- Part of a proof. -/
import Derived.Test.YtipjhljnkocioaaGreatDoorP38
import Derived.Test.YtipjhljnkocioaaGreatDoorP39
import Derived.Test.YtipjhljnkocioaaGreatDoorQR05
set_option maxRecDepth 100000
set_option maxHeartbeats 8000000
set_option linter.unusedVariables false
set_option linter.unusedSimpArgs false
namespace Go.Proofs.YtipjhljnkocioaaGreatDoor
section
open Go Go.RowKit
theorem MV{p:Int→Bool}{x:Int}:∀{l:List Int},x∈l.takeWhile p→p x=true
 | [],h=>by cases h
 | y::l,h=>by
   rw[List.takeWhile_cons]at h;split at h
   ·rename_i hy
    rcases List.mem_cons.1 h with rfl|h
    ·exact hy
    ·exact MV h
   ·cases h
theorem LP{t:Tr}{x:Int}(h:zi t x=true):bU (t.nd x).kind=false:=by
 unfold zi mL at h;unfold bU;generalize (t.nd x).kind=k at h⊢;simp only[Bool.or_eq_true,Bool.and_eq_true,beq_iff_eq]at h;rcases h with(((((rfl|rfl) | rfl) | rfl) | rfl) | rfl) | ⟨rfl,_⟩<;>rfl
theorem LX{t:Tr}{x:Int}(h:zi t x=true):cT (t.nd x).kind=true:=by
 unfold zi mL at h;unfold cT;generalize (t.nd x).kind=k at h⊢;simp only[Bool.or_eq_true,Bool.and_eq_true,beq_iff_eq]at h;rcases h with(((((rfl|rfl) | rfl) | rfl) | rfl) | rfl) | ⟨rfl,_⟩<;>rfl
theorem ML{k:Int}(h:bU k=true):cT k=true:=by
 unfold bU at h;unfold cT;simp only[Bool.or_eq_true,beq_iff_eq]at h;rcases h with(((rfl|rfl) | rfl) | rfl) | rfl<;>rfl
structure Renamed (t t':Tr) (d:Nat) (new:List UInt8):Prop where
 form:SameForm t t'
 bd:Bd t
 res:(zc t).2.2=0
 lt:d<t.nodes.length
 decl:zi t d=true
 text:∀i:Nat,i<t.nodes.length→(t'.nd i).text=if i=d∨means t i=d then new else (t.nd i).text
 fresh:∀i:Nat,i<t.nodes.length→(t.nd i).text≠new
 name:zT new=true
section
variable {t t' : Tr} {d : Nat} {new : List UInt8} (R : Renamed t t' d new)
include R
theorem Renamed.noName{i:Nat}(hi:i<t.nodes.length)(h:bU (t.nd i).kind=false):(t'.nd i).text=if i=d then new else (t.nd i).text:=by
 rw[R.text i hi,jE h];simp only[show ¬((-1:Int)=(d:Int)) by omega,or_false]
theorem Renamed.same{x y:Nat}(hx:x<t.nodes.length)(hy:y<t.nodes.length)(h1:bU (t.nd x).kind=false)(h2:bU (t.nd y).kind=false)(hne:x≠y)(h:(t'.nd x).text=(t'.nd y).text):(t.nd x).text=(t.nd y).text:=by
 rw[R.noName hx h1,R.noName hy h2]at h;by_cases e1:x=d
 ·rw[if_pos e1,if_neg (by omega)]at h
  exact absurd h.symm (R.fresh y hy)
 ·rw[if_neg e1]at h
  by_cases e2:y=d
  ·rw[if_pos e2]at h
   exact absurd h (R.fresh x hx)
  ·rw[if_neg e2]at h
   exact h
theorem Renamed.means{i:Nat}(hi:i<t.nodes.length):Go.Proofs.YtipjhljnkocioaaGreatDoor.means t' i=Go.Proofs.YtipjhljnkocioaaGreatDoor.means t i:=by
 obtain⟨wf,G⟩:=zK R.bd R.res;have F:=R.form
 cases hk:bU (t.nd i).kind with
 |false=>rw[jE hk,jE (by rw[F.kind];exact hk)]
 | true=>
   obtain⟨e,he,hel,hed,htx,_,_⟩:=oJ R.bd R.res hi hk;have hne:Go.Proofs.YtipjhljnkocioaaGreatDoor.means t i ≠ -1:=by omega
   have hmn:nearest t i (t.nd i).text=e∧suits (t.nd i).kind (t.nd e).kind=true:=by
    have h2:=he;unfold Go.Proofs.YtipjhljnkocioaaGreatDoor.means at h2;rw[if_pos hk]at h2;split at h2
    ·omega
    ·rename_i hc
     simp only[Bool.or_eq_true,decide_eq_true_eq,Bool.not_eq_true',not_or,Bool.not_eq_false]at hc;rw[h2]at hc;exact⟨h2,hc.2⟩
   have hid:i≠d:=by
    rintro rfl;have:=LP R.decl;rw[hk]at this;cases this
   have hnear:nearest t' i (t'.nd i).text=e:=by
    have h1:=hmn.1;unfold nearest at h1⊢;rw[F.sg];cases hf:(sight t i).find? (fun d=>(t.nd d).text==(t.nd i).text)with
    |none=>rw[hf]at h1;simp at h1
    | some z=>
      rw[hf,Option.getD_some]at h1;subst h1;obtain⟨_,as1,bs,hl,has⟩:=List.find?_eq_some_iff_append.1 hf;have hin:∀x∈sight t i,zi t x=true∧0≤x∧x<t.nodes.length:=fun x hx=>⟨qI G hi hx,(fI G hi hx).2⟩
      have hfind:(sight t i).find? (fun d=>(t'.nd d).text==(t'.nd i).text)=some (e:Int):=by
       refine List.find?_eq_some_iff_append.2 ⟨?_,as1,bs,hl,fun x hx=>?_⟩
       ·rw[beq_iff_eq,R.noName hel (LP hed),R.text i hi,he]
        by_cases hc:e=d
        ·rw[if_pos hc,if_pos (.inr (by rw[hc]))]
        ·rw[if_neg hc,if_neg (by omega)];exact htx
       ·have hxs:x∈sight t i:=by rw[hl];simp[hx]
        obtain⟨q1,q2,q3⟩:=hin x hxs;obtain⟨x,rfl⟩:=Int.eq_ofNat_of_zero_le q2;have hxl:x<t.nodes.length:=by omega
        have hx2:¬(t.nd x).text=(t.nd i).text:=by simpa using has x hx
        have hx3:¬(t'.nd x).text=(t'.nd i).text:=by
         rw[R.noName hxl (LP q1),R.text i hi,he];by_cases hc:e=d
         ·have hxd:¬x=d:=fun h=>hx2 (by rw[h,←hc];exact htx)
          rw[if_neg hxd,if_pos (show i=d∨(e:Int)=(d:Int)from .inr (by rw[hc]))];exact R.fresh x hxl
         ·rw[if_neg (show ¬(i=d∨(e:Int)=(d:Int)) by omega)]
          by_cases hc2:x=d
          ·rw[if_pos hc2]
           exact fun h=>R.fresh i hi h.symm
          ·rw[if_neg hc2];exact hx2
        simpa using hx3
      rw[hfind];rfl
   rw[he];unfold Go.Proofs.YtipjhljnkocioaaGreatDoor.means;rw[F.kind,hk,if_pos rfl,hnear,F.kind,hmn.2,if_neg (by simp)]
theorem Renamed.err{i:Nat}(hi:i<t.nodes.length):bT t' i=0:=by
 obtain⟨wf,G⟩:=zK R.bd R.res;have F:=R.form;have h:=(aD R.res).err i hi
 have hitem:∀x∈t.items,∃y:Nat,x=y∧y<t.nodes.length:=fun x hx=>by
  obtain⟨_,_,h2,h3,_⟩:=G.item x hx;obtain⟨y,rfl⟩:=Int.eq_ofNat_of_zero_le h3;exact⟨y,rfl,by omega⟩
 have hA:¬(bO t i&&zi t i&&bL t i)=true:=fun hc=>by unfold bT at h;rw[if_pos hc]at h;cases h
 have hB:¬((t.nd i).kind==34&&bS t i)=true:=fun hc=>by unfold bT at h;rw[if_neg hA,if_pos hc]at h;cases h
 have hA':¬(bO t' i&&zi t' i&&bL t' i)=true:=fun hc=>by
  rw[Bool.and_eq_true,Bool.and_eq_true,F.isD]at hc;obtain⟨⟨h1,h2⟩,h3⟩:=hc;refine hA ?_;rw[Bool.and_eq_true,Bool.and_eq_true];refine⟨⟨by unfold bO at h1⊢;rwa[F.items]at h1,h2⟩,?_⟩;unfold bL fX at h3⊢;rw[F.items]at h3;obtain⟨x,hx,hp⟩:=List.any_eq_true.1 h3;refine List.any_eq_true.2 ⟨x,hx,?_⟩;have hxi:x∈t.items:=(List.takeWhile_sublist _).subset hx;have hxlt:x<(i:Int):=by simpa using MV hx
  obtain⟨x,rfl,hxl⟩:=hitem x hxi;rw[Bool.and_eq_true,F.isD,beq_iff_eq]at hp;rw[Bool.and_eq_true,beq_iff_eq];exact⟨hp.1,R.same hxl hi (LP hp.1) (LP h2) (by omega) hp.2⟩
 have hB':¬((t'.nd i).kind==34&&bS t' i)=true:=fun hc=>by
  rw[Bool.and_eq_true,F.kind,beq_iff_eq]at hc;obtain⟨h1,h2⟩:=hc;refine hB ?_;rw[Bool.and_eq_true,beq_iff_eq];refine⟨h1,?_⟩;have hp:=wf.par i hi (by rw[←t.nd_at hi];exact h1);obtain⟨q,hq,hql,_⟩:=zO hp;unfold bS fX at h2⊢;rw[F.par,F.kids]at h2;obtain⟨x,hx,hpp⟩:=List.any_eq_true.1 h2;refine List.any_eq_true.2 ⟨x,hx,?_⟩;have hxi:x∈(t.nd (parent t i)).kids:=(List.takeWhile_sublist _).subset hx;rw[hq]at hxi;obtain⟨_,_,k3,k4⟩:=G.kid hql x hxi;have hxlt:x<(i:Int):=by simpa using MV hx
  obtain⟨x,rfl⟩:=Int.eq_ofNat_of_zero_le k4;rw[Bool.and_eq_true,F.kind,beq_iff_eq,beq_iff_eq]at hpp;rw[Bool.and_eq_true,beq_iff_eq,beq_iff_eq];exact⟨hpp.1,R.same (by omega) hi (by rw[hpp.1];rfl) (by rw[h1];rfl) (by omega) hpp.2⟩
 unfold bT at h⊢;rw[if_neg hA'];rw[if_neg hB'];rw[if_neg hA,if_neg hB]at h;rw[R.means hi,F.kind,F.n,F.ins]
 have hr:aR t' i=aR t i:=by
  unfold aR fX;rw[F.items,R.means hi];rw[Bool.eq_iff_iff,List.any_eq_true,List.any_eq_true]
  have key:∀x∈t.items.takeWhile (fun x=>decide (x<(i:Int))),Go.Proofs.YtipjhljnkocioaaGreatDoor.means t' x=Go.Proofs.YtipjhljnkocioaaGreatDoor.means t x:=fun x hx=>by
   obtain⟨y,rfl,hy⟩:=hitem x ((List.takeWhile_sublist _).subset hx);exact R.means hy
  constructor<;>rintro⟨x,hx,hp⟩<;>refine⟨x,hx,?_⟩
  ·rwa[F.kind,key x hx]at hp
  ·rwa[F.kind,key x hx]
 rw[hr];exact h
theorem Renamed.check:aN t'=0:=by
 refine R.form.check (aD R.res).check fun i hi=>?_;rw[R.text i hi];by_cases hc:i=d∨Go.Proofs.YtipjhljnkocioaaGreatDoor.means t i=d
 ·rw[if_pos hc]
  refine .inr ⟨?_,R.name⟩;rcases hc with rfl|hc
  ·exact LX R.decl
  ·refine ML ?_
   cases hk:bU (t.nd i).kind with
   |true=>rfl
   |false=>rw[jE hk]at hc;omega
 ·rw[if_neg hc];exact .inl rfl
theorem Renamed.resolve:zc t'=(ze t t.nodes.length,0,0):=by
 rw[cX R.check fun m hm=>R.err (by rw[R.form.len]at hm;exact hm)];rw[bD,bD,R.form.len];congr 1;exact List.map_congr_left fun i hi=>R.means (List.mem_range.1 hi)
end
theorem MS(t:Tr)(l:List Int)(node:Int)(name:List UInt8)(i:Int):(renT t l node name).nd i=if renB l node i.toNat&&decide (i.toNat<t.nodes.length)then { t.nd i with text:=name } else t.nd i:=by
 unfold Tr.nd renT;simp only;by_cases hi:i.toNat<t.nodes.length
 ·rw[List.getD_eq_getElem?_getD,List.getElem?_eq_getElem (by rw[cD];exact hi),Option.getD_some,jH _ _ _ _ _ hi,List.getD_eq_getElem?_getD,List.getElem?_eq_getElem hi,Option.getD_some,Bool.and_comm]
 ·rw[List.getD_eq_getElem?_getD,List.getElem?_eq_none (by rw[cD];omega),List.getD_eq_getElem?_getD,List.getElem?_eq_none (by omega)]
  simp[hi]
theorem LU(t:Tr)(l:List Int)(node:Int)(name:List UInt8):SameForm t (renT t l node name):=by
 refine⟨by simp[renT,cD],rfl,fun i=>?_,fun i=>?_,fun i=>?_,fun i=>?_⟩<;>rw[MS]<;>split<;>rfl
theorem MI{t:Tr}{d i:Nat}(hi:i<t.nodes.length):renB (ze t t.nodes.length) d i=true↔i=d∨means t i=d:=by
 unfold renB;rw[dW hi];simp only[Bool.or_eq_true,beq_iff_eq];omega
theorem LV{t:Tr}{d i:Nat}(hi:i<t.nodes.length)(name:List UInt8):((renT t (ze t t.nodes.length) d name).nd i).text=if i=d∨means t i=d then name else (t.nd i).text:=by
 rw[MS];simp only[Int.toNat_natCast,hi,decide_true,Bool.and_true];by_cases h:i=d∨means t i=d
 ·rw[if_pos h,if_pos ((MI hi).2 h)]
 ·rw[if_neg h,if_neg fun hc=>h ((MI hi).1 hc)]
theorem MJ{t t':Tr}(F:SameForm t t')(h:∀i:Nat,i<t.nodes.length→(t'.nd i).text=(t.nd i).text):t'=t:=by
 obtain⟨n,i⟩:=t;obtain⟨n',i'⟩:=t';have e1:i'=i:=F.items;subst e1;congr 1;refine List.ext_getElem F.len fun k h1 h2=>?_;have hk:=F.kind k;have hn:=F.n k;have hks:=F.kids k;have hp:=F.pos k;have ht:=h k h2;rw[Tr.nd_at ⟨n',i'⟩ h1,Tr.nd_at ⟨n,i'⟩ h2]at hk hn hks hp ht;cases hx:n'[k]with
 | mk a b c e f=>
   cases hy:n[k]with
   | mk a2 b2 c2 e2 f2=>
     rw[hx,hy]at hk hn hks hp ht;simp only at hk hn hks hp ht;subst hk hn hks hp ht;rfl
theorem MO{t:Tr}(bd:Bd t)(h:(zc t).2.2=0){d:Nat}(hd:d<t.nodes.length)(hdd:zi t d=true){new:List UInt8}(hn:zT new=true)(hf:∀i:Nat,i<t.nodes.length→(t.nd i).text≠new) :
 ∃t',renU t d new=.ok t'∧Renamed t t' d new:=by
 have R:Renamed t (renT t (ze t t.nodes.length) d new) d new:=⟨LU _ _ _ _,bd,h,hd,hdd,fun i hi=>LV hi new,hf,hn⟩
 refine⟨_,?_,R⟩;unfold renU;rw[jF h hd,hdd,if_pos rfl,if_pos rfl,if_pos hn];unfold dH;rw[R.resolve];simp[renO]
theorem MB{t:Tr}{S:List Int}(G:Good t S){d:Nat}(hd:d<t.nodes.length)(hdd:zi t d=true):zT (t.nd d).text=true:=by
 have hr:=G.right d hd;unfold bR at hr;simp only[Bool.and_eq_true,beq_iff_eq]at hr;rw[←hr.1.1.1.1.1.1.2];exact LX hdd
theorem MP{t:Tr}(bd:Bd t)(h:(zc t).2.2=0){d:Nat}(hd:d<t.nodes.length)(hdd:zi t d=true):renU t d (t.nd d).text=.ok t:=by
 obtain⟨wf,G⟩:=zK bd h
 have e:renT t (ze t t.nodes.length) d (t.nd d).text=t:=MJ (LU _ _ _ _) fun i hi=>by
  rw[LV hi];by_cases hc:i=d∨means t i=d
  ·rw[if_pos hc]
   rcases hc with rfl|hc
   ·rfl
   ·have:=(lS (t:=t) (n:=(i:Int)) (by omega)).1
    rw[hc]at this;exact this
  ·rw[if_neg hc]
 unfold renU;rw[jF h hd,hdd,if_pos rfl,if_pos rfl,if_pos (MB G hd hdd)];unfold dH;have hres:=aD h;rw[e,cX hres.check hres.err];simp[renO]
theorem MF{t t':Tr}{d:Nat}{new:List UInt8}(R:Renamed t t' d new):renU t' d (t.nd d).text=.ok t:=by
 obtain⟨wf,G⟩:=zK R.bd R.res;have F:=R.form
 have hl:ze t' t'.nodes.length=ze t t.nodes.length:=by
  rw[bD,bD,F.len];exact List.map_congr_left fun i hi=>R.means (List.mem_range.1 hi)
 have hr:(zc t').2.2=0:=by rw[R.resolve]
 have hd':d<t'.nodes.length:=by rw[F.len];exact R.lt
 have F2:=LU t' (ze t' t'.nodes.length) d (t.nd d).text;have F3:SameForm t (renT t' (ze t' t'.nodes.length) d (t.nd d).text):=⟨F2.len.trans F.len,F2.items.trans F.items,fun i=>(F2.kind i).trans (F.kind i),fun i=>(F2.n i).trans (F.n i),fun i=>(F2.kids i).trans (F.kids i),fun i=>(F2.pos i).trans (F.pos i)⟩
 have e:renT t' (ze t' t'.nodes.length) d (t.nd d).text=t:=MJ F3 fun i hi=>by
  have hi':i<t'.nodes.length:=by rw[F.len];exact hi
  rw[LV hi',R.means hi];by_cases hc:i=d∨means t i=d
  ·rw[if_pos hc]
   rcases hc with rfl|hc
   ·rfl
   ·have:=(lS (t:=t) (n:=(i:Int)) (by omega)).1
    rw[hc]at this;exact this
  ·rw[if_neg hc,R.text i hi,if_neg hc]
 unfold renU;rw[jF hr hd',F.isD,R.decl,if_pos rfl,if_pos rfl,if_pos (MB G R.lt R.decl)];unfold dH;have hres:=aD R.res;rw[e,cX hres.check hres.err,hl];simp[renO]
theorem Renamed.needs{t t':Tr}{d:Nat}{new:List UInt8}(R:Renamed t t' d new)(item:Int):∀(m:Nat) (j:Int),NS t' (ze t' t'.nodes.length) item m j=NS t (ze t t.nodes.length) item m j:=by
 have F:=R.form
 have hl:ze t' t'.nodes.length=ze t t.nodes.length:=by
  rw[bD,bD,F.len];exact List.map_congr_left fun i hi=>R.means (List.mem_range.1 hi)
 rw[hl];intro m
 induction m with
 |zero=>intro j;rfl
 |succ m ih=>intro j;rw[jS,jS,ih,ih,F.len];simp only[F.itemOf']
end
end Go.Proofs.YtipjhljnkocioaaGreatDoor
