/- Part of a proof. -/
import Derived.Test.YtcdkdiedphhdhaaGreatDoorK39
import Derived.Test.YtcdkdiedphhdhaaGreatDoorLK02
set_option maxRecDepth 100000
set_option maxHeartbeats 8000000
set_option linter.unusedVariables false
set_option linter.unusedSimpArgs false
namespace Go.Proofs.YtcdkdiedphhdhaaGreatDoor
section
open Go Go.RowKit
section
variable {t : Tr} {S : List Int}
theorem SW{F:Int->Option (Int×Bool)}:∀(l:List Int) (n m:Int),(∀x∈l,∀r,F x=some r->0<=r.1)->capS F l n=some m->m<=8->∃cs:List Int,cs.length=l.length/\(∀(j:Nat) (h:j<l.length) (h':j<cs.length),∃o,F l[j]=some (cs[j],o))/\m=n+cs.sum/\n<=m
 | [],n,m,_,h,_=>by
   cases h
   exact⟨[],rfl,fun j h=>absurd h (Nat.not_lt_zero _),by simp,Int.le_refl _⟩
 | x::l,n,m,hp,h,h8=>by
   rw[capS]at h
   cases hx:F x with
   |none=>rw[hx]at h;cases h
   | some r=>
     rw[hx]at h;obtain⟨cs,h1,h2,h3,h4⟩:=SW l _ m (fun y hy=>hp y (by simp[hy])) h h8;have h0:=hp x (by simp) r hx;refine⟨r.1::cs,by simp[h1],fun j hj hj'=>?_,by simp only[List.sum_cons];omega,by omega⟩
     cases j with
     |zero=>exact⟨r.2,hx⟩
     |succ j=>exact h2 j (by simpa using hj) (by simpa using hj')
theorem TF(bd:Bd t)(hr:(zb t).2.2=0)(ha:InferAt t t.nodes.length 0){r:Nat}(hrn:r<t.nodes.length)(k41:(t.nd (r:Int)).kind=41) :
 ∃cs:List Int,cs.length=(t.nd (r:Int)).kids.length/\(∀(j:Nat) (h:j<(t.nd (r:Int)).kids.length) (h':j<cs.length),TyC t (ofK (tysP t t.nodes.length) (t.nd (r:Int)).kids[j]) cs[j])/\TyC t (t.nd (r:Int)).text cs.sum/\cs.sum<=8:=by
 obtain⟨wf,G⟩:=zi bd hr;have h0:=(zt hr).err
 have hk:∀(j:Nat) (hj:j<(t.nd (r:Int)).kids.length),∃(a:Nat) (c:Int),(t.nd (r:Int)).kids[j]=a/\a<r/\ofK (tysP t t.nodes.length) (t.nd (r:Int)).kids[j]=tyP t a/\TyC t (tyP t a) c:=fun j hj=>by
  obtain⟨a,he,hg⟩:=aN G hrn (List.getElem_mem hj);have h1:=G.kidOk hrn hj;rw[k41,he]at h1;have k34:(t.nd (a:Int)).kind=34:=by simpa[kidK]using h1
  obtain⟨c,hc,-⟩:=AV bd hr ha (show a<t.nodes.length by omega) (by unfold vP;rw[k34];rfl);exact⟨a,c,he,hg,by rw[he,eS (by omega) (by omega)],hc⟩
 obtain⟨c,hc,h8⟩:=sQ bd hr ha hrn k41 fun a ham=>by
  obtain⟨j,hj,hn⟩:=List.getElem_of_mem ham;obtain⟨b,c,hb,-,-,hc⟩:=hk j hj;obtain rfl:a=b:=by omega
  exact⟨c,hc⟩
 obtain⟨f,hf⟩:=hc.has
 cases f with
 |zero=>cases hf
 | succ f=>
   obtain⟨-,hd,-⟩:=G.ok hrn;rw[k41]at hd;have hd:zG (t.nd (r:Int)).text=true:=hd.symm;have hh:aW (t.nd (r:Int)).text=none:=by unfold aW;rw[jE hd]
   have hl:¬((t.nd (r:Int)).text==intT||(t.nd (r:Int)).text==zz)=true:=by
    intro e;simp only[Bool.or_eq_true,beq_iff_eq]at e;rcases e with e|e<;>rw[e]at hd
    .rw[qB]at hd;cases hd
    .rw[mT]at hd;cases hd
   rw[zU,if_neg hl,hh]at hf;simp only at hf;rw[qT G h0 nlr hrn k41 rfl]at hf;simp only at hf;obtain⟨m,hm,hi⟩:=Option.map_eq_some_iff.1 hf;obtain rfl:m=c:=(Prod.mk.inj hi).1;obtain⟨cs,h1,h2,h3,-⟩:=SW _ _ m (fun x _ r h=>(cI f _ r h).1) hm h8;refine⟨cs,h1,fun j h h'=>?_,?_,by omega⟩
   .obtain⟨o,ho⟩:=h2 j h h'
    obtain⟨a,d,-,-,g1,g2⟩:=hk j h;have g3:HasC t (tysP t t.nodes.length) t.nodes.length (tyP t a) cs[j] o:=⟨f,by rw[<-g1];exact ho⟩
    have g4:=(g3.unique g2.has).1;rw[g1,g4];exact g2
   .have e:cs.sum=m:=by omega
    rw[e];exact hc
theorem SX{L:List (List UInt8)}{b:Nat}{field:List UInt8}:∀(l:List Int) (cs:List Int) (n:Int) (j:Nat),cs.length=l.length->(∀(i:Nat) (h:i<l.length) (h':i<cs.length),∃o,HasC t L b (ofK L l[i]) cs[i] o)->(hj:j<l.length)->(hj':j<cs.length)->(t.nd l[j]).text=field->(∀(i:Nat) (h:i<l.length),i<j->(t.nd l[i]).text≠field) ->
 ∃f,dL t L b f field l n=some (n+(cs.take j).sum,cs[j],0)
 | [],_,_,_,_,_,hj,_,_,_=>absurd hj (Nat.not_lt_zero _)
 |x::l,[],_,_,h,_,_,_,_,_=>by cases h
 | x::l,c::cs,n,0,h,hh,hj,hj',hf,_=>by
   obtain⟨o,f,hc⟩:=hh 0 hj hj';refine⟨f,?_⟩;simp only[List.getElem_cons_zero]at hc hf;rw[dL,hc];simp only[Option.bind_some,hf,beq_self_eq_true,if_true,List.take_zero,List.sum_nil,Int.add_zero,List.getElem_cons_zero]
 | x::l,c::cs,n,j+1,h,hh,hj,hj',hf,hn=>by
   obtain⟨o,f,hc⟩:=hh 0 (by simp) (by simp);obtain⟨g,hg⟩:=SX l cs (n+c) j (by simpa using h) (fun i h1 h2=>hh (i+1) (by simpa using h1) (by simpa using h2)) (by simpa using hj) (by simpa using hj') hf (fun i h1 h2=>hn (i+1) (by simpa using h1) (by omega));have hx:=hn 0 (by simp) (by omega);refine⟨f+g,?_⟩;simp only[List.getElem_cons_zero]at hc hx;have ha:((t.nd x).text==field)=false:=by simpa using hx
   rw[dL,aG f (f+g) _ _ (by omega) hc];simp only[Option.bind_some,ha,Bool.false_eq_true,if_false];rw[dF (by omega) _ _ _ hg];simp only[List.take_succ_cons,List.sum_cons,List.getElem_cons_succ];rw[Int.add_assoc]
end
end
end Go.Proofs.YtcdkdiedphhdhaaGreatDoor
