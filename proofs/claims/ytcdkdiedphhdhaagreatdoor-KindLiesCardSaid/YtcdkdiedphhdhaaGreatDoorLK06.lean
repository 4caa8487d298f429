/- Part of a proof. -/
import Derived.Test.YtcdkdiedphhdhaaGreatDoorRows
import Derived.Test.YtcdkdiedphhdhaaGreatDoorK42
import Derived.Test.YtcdkdiedphhdhaaGreatDoorLK01
import Derived.Test.YtcdkdiedphhdhaaGreatDoorLK04
set_option maxRecDepth 100000
set_option maxHeartbeats 8000000
set_option linter.unusedVariables false
set_option linter.unusedSimpArgs false
open Go.Proofs.Tryz
namespace Go.Proofs.YtcdkdiedphhdhaaGreatDoor
section
open Go Go.RowKit
structure TM (t:Tr) (r:Nat) (cs:List Int):Prop where
 len:cs.length=(t.nd (r:Int)).kids.length
 one:1<=(t.nd (r:Int)).kids.length
 rc:recT t t.nodes.length (t.nd (r:Int)).text=some r
 all:∀x,CellsR t (t.nd (r:Int)).text x->x=(cs.sum,0)
 sum:cs.sum<=8
 pos:1<=cs.sum
 cell:∀(j:Nat) (h:j<(t.nd (r:Int)).kids.length) (h':j<cs.length),1<=cs[j]/\∀x,CellsR t (ofK (tysP t t.nodes.length) (t.nd (r:Int)).kids[j]) x->x=(cs[j],0)
 place:∀(j:Nat) (h:j<(t.nd (r:Int)).kids.length) (h':j<cs.length),∀x,nS t (t.nd (r:Int)).text (t.nd (t.nd (r:Int)).kids[j]).text x->x=((cs.take j).sum,cs[j],0)
 list:∀m:Nat,1<=m->m<=6->(∀x,CellsR t (bC (t.nd (r:Int)).text m) x->x=(m*cs.sum,0))/\mW (bC (t.nd (r:Int)).text m)=((t.nd (r:Int)).text,m,0)
theorem SR{cs:List Int}(h:∀(i:Nat) (hi:i<cs.length),1<=cs[i]):∀j,0<=(cs.take j).sum/\(cs.take j).sum<=cs.sum:=by
 induction cs with
 |nil=>intro j;simp
 | cons a l ih=>
   intro j;have h0:=h 0 (by simp);have ih:=ih fun i hi=>h (i+1) (by simpa using hi);simp only[List.getElem_cons_zero]at h0
   cases j with
   |zero=>have:=ih l.length;simp at this|-;omega
   |succ j=>have:=ih j;simp only[List.take_succ_cons,List.sum_cons];omega
def OwR(t:Tr)(_:List Value)(v:Value)(W:World):Prop:=∃u:TreeV,v=u.val t/\IsTree W u t
theorem OwR.st{t:Tr}{l:List Value}{v:Value}{W W':World}(h:OwR t l v W)(k:Below W.heap.size W W'):OwR t l v W':=by
 obtain⟨u,h1,h2⟩:=h;exact⟨u,h1,h2.mono k nlr⟩
theorem zk{X W:World}(v:TreeV)(t:Tr)(bd:Bd t)(hJ:Below X.heap.size X W)(h:IsTree W v t):Calls prog 10 #[v.val t] W fun e w'=>∃x,e=.returned x/\Below X.heap.size X w'/\Below W.heap.size W w'/\OwR t [] x w':=by
 refine(fZ v t W bd h).mono ?_;rintro e w'⟨u,B,ks,rfl,-,hc,ha,-,hb⟩;exact⟨_,rfl,hJ.trans (hb.mono hJ.size),hb,u,rfl,⟨hc.nodes,ha⟩⟩
structure LiW (w X:World) (tb nb:Nat) (v:TreeV) (t:Tr) (a:Nat) (ka:Option Addr) (kc:Nat) (fa:Option Addr) (fc:Nat) (ta:Option Addr) (tc:Nat):Prop where
 kn:KnW w X tb v t
 nd:NdC X nb ka kc (t.nd (a:Int))
 nm:Strs X fa fc ((t.nd (a:Int)).kids.map fun k=>(t.nd k).text)
 ty:Strs X ta tc ((t.nd (a:Int)).kids.map (ofK (tysP t t.nodes.length)))
theorem LiW.step{w X X':World}{tb nb:Nat}{v:TreeV}{t:Tr}{a:Nat}{ka:Option Addr}{kc:Nat}{fa:Option Addr}{fc:Nat}{ta:Option Addr}{tc:Nat}(h:LiW w X tb nb v t a ka kc fa fc ta tc)(hb:Below X.heap.size X X'):LiW w X' tb nb v t a ka kc fa fc ta tc:=
 ⟨h.kn.step hb,h.nd.step hb,Row.mono h.nm hb nlr,Row.mono h.ty hb nlr⟩
theorem TK{t:Tr}(bd:Bd t)(hok:InfOk t){r:Nat}(hrn:r<t.nodes.length)(k41:(t.nd (r:Int)).kind=41):∃cs,TM t r cs:=by
 obtain⟨hr,ha⟩:=hok;obtain⟨wf,G⟩:=zi bd hr;have h0:=(zt hr).err;obtain⟨cs,h1,h2,h3,h4⟩:=TF bd hr ha hrn k41;have hc:=qT G h0 nlr hrn k41 rfl;refine⟨cs,h1,?_,hc,fun x hx=>hx.of h3 h4,h4,h3.lo,fun j h h'=>⟨(h2 j h h').lo,fun x hx=>?_⟩,fun j h h' x hx=>?_,fun m hm1 hm6=>⟨fun x hx=>?_,?_⟩⟩
 .have hd:=G.many hrn
  rw[k41]at hd;have:(1:Int)<=((t.nd (r:Int)).kids.length:Int):=by simpa[zC]using hd
  omega
 .refine hx.of (h2 j h h') ?_
  have hs:=h4
  have:∀(l:List Int) (k:Nat) (hk:k<l.length),(∀(i:Nat) (h:i<l.length),1<=l[i])->l[k]<=l.sum:=fun l=>by
   induction l with
   |nil=>intro k hk;exact absurd hk (Nat.not_lt_zero _)
   | cons a l ih=>
     intro k hk hp
     have hn:0<=l.sum:=by
      clear ih hk;have he:∀(i:Nat) (h:i<l.length),1<=l[i]:=fun i h=>hp (i+1) (by simpa using h);clear hp
      induction l with
      |nil=>simp
      | cons b l ih=>
        have hb:=he 0 (by simp);have:=ih fun i h=>he (i+1) (by simpa using h);simp only[List.getElem_cons_zero]at hb;simp only[List.sum_cons];omega
     cases k with
     |zero=>simp only[List.getElem_cons_zero,List.sum_cons];omega
     | succ k=>
       have h0:=hp 0 (by simp);have:=ih k (by simpa using hk) fun i h=>hp (i+1) (by simpa using h);simp only[List.getElem_cons_zero]at h0;simp only[List.getElem_cons_succ,List.sum_cons];omega
  have:=this cs j h' fun i hi=>(h2 i (by omega) hi).lo;omega
 .unfold nS at hx
  rw[hc]at hx;obtain⟨f,hf⟩:=hx
  obtain⟨g,hg⟩:=SX (t:=t) (L:=tysP t t.nodes.length) (b:=t.nodes.length) (field:=(t.nd (t.nd (r:Int)).kids[j]).text) (t.nd (r:Int)).kids cs 0 j h1 (fun i hi hi'=>⟨true,(h2 i hi hi').has⟩) h h' rfl (fun i hi hij e=>by
   have h5:=SU bd hr hrn k41 (List.getElem_mem hi) (List.getElem_mem h) e;have h6:=List.pairwise_iff_getElem.1 (G.kidsAsc hrn) i j hi h hij
   omega)
  have h7:=dF (show f<=f+g by omega) _ _ _ hf;rw[dF (show g<=f+g by omega) _ _ _ hg]at h7;rw[<-Option.some.inj h7,Int.zero_add]
 .have hL:=h3.list hm1 hm6
  have hle:cs.sum*(m:Int)<=48:=by
   have hh:=h3.lo
   calc cs.sum*(m:Int)<=8*(m:Int):=Int.mul_le_mul_of_nonneg_right h4 (by omega)
    _<=48:=by omega
  rw[show min 10000 (cs.sum*(m:Int))=(m:Int)*cs.sum by rw[Int.mul_comm]at *;omega]at hL;rcases hx with⟨h1,_⟩|⟨_,d,o,h2,h3⟩
  .rw[hL.is]at h1;cases h1
  .obtain⟨rfl,rfl⟩:=h2.unique hL.has
   rw[h3,if_pos rfl,if_neg (by rw[Int.mul_comm];omega)]
 .unfold mW
  rw[mX hm1 hm6 h3.is]
section
variable {w w' : World} {t : Tr} {e : Ending}
theorem RetFields.of{s:List UInt8}{q:Nat}(h:RetFields w t s e w')(hok:InfOk t)(hq:recT t t.nodes.length s=some q):∃a c a' c',e=.returned (.tuple #[.slice a (t.nd (q:Int)).kids.length c,.slice a' (t.nd (q:Int)).kids.length c',intV 0])/\Strs w' a c ((t.nd (q:Int)).kids.map fun k=>(t.nd k).text)/\Strs w' a' c' ((t.nd (q:Int)).kids.map (ofK (tysP t t.nodes.length)))/\Below w.heap.size w w':=by
 obtain⟨hb,⟨-,hf⟩|⟨k,er,ha,-⟩⟩:=h
 .unfold SS at hf
  rw[hq]at hf;obtain⟨a,c,a',c',rfl,h1,h2⟩:=hf;exact⟨a,c,a',c',rfl,h1,h2,hb⟩
 .exact(hok.no ha).elim
end
end
end Go.Proofs.YtcdkdiedphhdhaaGreatDoor
