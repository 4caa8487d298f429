/- Part of a proof. -/
import Derived.Test.YtokdgiphdnjeoaaGreatDoorDA01
import Derived.Test.YtokdgiphdnjeoaaGreatDoorQ35
set_option maxRecDepth 100000
set_option maxHeartbeats 8000000
set_option linter.unusedVariables false
set_option linter.unusedSimpArgs false
namespace Go.Proofs.YtokdgiphdnjeoaaGreatDoor
section
open Go.RowKit
theorem OW{f:Nat→Nat}{k:Int}(h:k<0):mvI f k=k:=by unfold mvI;rw[if_pos h]
theorem PI{p:Nat→Bool}{n:Nat}:∀(d k y:Nat),y-k≤d→k≤y→y<n→p y=true→0≤first p n k
 | 0,k,y,h,h1,h2,hp=>by
   obtain rfl:k=y:=by omega
   rw[aE h2 hp];omega
 | d+1,k,y,h,h1,h2,hp=>by
   cases hk:p k with
   |true=>rw[aE (by omega) hk];omega
   | false=>
     have:k≠y:=by rintro rfl;rw[hp]at hk;cases hk
     rw[cI (by omega) hk];exact PI d (k+1) y (by omega) (by omega) h2 hp
theorem QC{t:Tr}{y:Nat}{j:Int}(hy:y<t.nodes.length):cP t.nodes j y=true↔j∈(t.nd y).kids:=by
 unfold cP hasI;rw[kC hy,List.getElem?_eq_getElem hy];simp
section
variable {t u : Tr} {S : List Int} {f : Nat → Nat}
theorem Emb.elts(E:Emb t u S f){a b:Nat}(ha:a<u.nodes.length)(hb:b<u.nodes.length):f a<f b↔a<b:=by
 refine⟨fun h=>?_,fun h=>E.eMono a b h hb⟩;rcases Nat.lt_trichotomy a b with h1|h1|h1
 ·exact h1
 ·subst h1;omega
 ·have:=E.eMono b a h1 ha;omega
theorem Emb.epar(E:Emb t u S f)(G:Good t S){m:Nat}(hm:m<u.nodes.length):parent t (f m:Nat)=mvI f (parent u m):=by
 by_cases hp:0≤parent u m
 ·obtain⟨i,h1,h2,h3⟩:=zF hp
  rw[h1,zL];exact G.parent_of (E.eLt i h2) ((E.ekid hm h2).2 h3)
 ·have h1:parent u m = -1:=by have:=bV u m;omega
  rw[h1,OW (by omega)];by_cases hq:0≤parent t (f m:Nat)
  ·obtain⟨x,g1,g2,g3⟩:=zF hq
   obtain⟨y,g4,rfl⟩:=E.eUp x g2 m hm g3;have g5:=(E.ekid hm g4).1 g3;have g6:=(E.eKidR y g4 _ g5).2;have:=PI (p:=cP u.nodes (m:Int)) (n:=u.nodes.length) (y-(m+1)) (m+1) y nlr (by omega) g4 ((QC g4).2 g5);rw[show m+1=((m:Int)+1).toNat by omega]at this;exact absurd this hp
  ·have:=bV t (f m:Nat)
   omega
theorem Emb.edecl(E:Emb t u S f)(G:Good t S)(wf:WF t){m:Nat}(hm:m<u.nodes.length):zh t (f m:Nat)=zh u m:=by
 unfold zh;have hfm:=E.eLt m hm;rw[←E.eKind m hm,E.epar G hm];by_cases hp:0≤parent u m
 ·obtain⟨i,h1,h2,-⟩:=zF hp
  rw[h1,zL,←E.eKind i h2]
 ·have h1:parent u m = -1:=by have:=bV u m;omega
  have h34:((u.nd m).kind==34)=false:=by
   rw[beq_eq_false_iff_ne];intro h;rw[E.eKind m hm,kC hfm]at h;have:=wf.par _ hfm h;rw[E.epar G hm,h1,OW (by omega)]at this;omega
  rw[h34];simp
theorem Emb.eins(E:Emb t u S f)(G:Good t S){d:Nat}(hd:d<u.nodes.length):∀(k m:Nat),u.nodes.length-m≤k→m<u.nodes.length→inside t (f m:Nat) (f d:Nat)=inside u m d
 |0,m,h,hm=>by omega
 | k+1,m,h,hm=>by
   have hfm:=E.eLt m hm;rw[bE t (f d:Nat) (n:=(f m:Nat)) (by omega),bE u (d:Nat) (n:=(m:Nat)) (by omega)];rw[if_neg (show ¬((f m:Nat):Int)<0 by omega),if_neg (show ¬((m:Nat):Int)<0 by omega)];by_cases e:m=d
   ·subst e
    rw[if_pos rfl,if_pos rfl]
   ·rw[if_neg (show ¬((f m:Nat):Int)=(f d:Nat)from fun h=>e (E.einj hm hd (by omega))),if_neg (show ¬((m:Nat):Int)=(d:Nat) by omega),E.epar G hm]
    by_cases hp:0≤parent u m
    ·have h4:=dX u m hp
     obtain⟨i,h1,h2,-⟩:=zF hp;rw[h1]at h4⊢;rw[zL];exact Emb.eins E G hd k i (by omega) h2
    ·have h1:parent u m = -1:=by have:=bV u m;omega
     rw[h1,OW (by omega),bE t (f d:Nat) (n:=-1) (by omega),bE u (d:Nat) (n:=-1) (by omega),if_pos (by omega),if_pos (by omega)]
theorem Emb.eupw(E:Emb t u S f)(G:Good t S){α β:Type}(g:Int→Int→α→α)(h:Int→Int→β→β)(R:α→β→Prop)(hR:∀(l n:Nat) (a:α) (b:β),l<u.nodes.length→n<u.nodes.length→R a b→R (g l n a) (h (f l:Nat) (f n:Nat) b)) :
 ∀(k l:Nat) (n:Int) (a:α) (b:β),l<u.nodes.length→n<u.nodes.length→u.nodes.length-n.toNat≤k→R a b → -1≤n→R (upw u g l n a).1 (upw t h (f l:Nat) (mvI f n) b).1∧(upw t h (f l:Nat) (mvI f n) b).2=mvI f (upw u g l n a).2∧0≤(upw u g l n a).2∧(upw u g l n a).2<u.nodes.length
 |0,l,n,a,b,hl,hn,hk,hr,h0=>by omega
 | k+1,l,n,a,b,hl,hn,hk,hr,h0=>by
   by_cases hneg:n<0
   ·rw[OW hneg,OX u _ _ _ hn,OX t _ _ _ (by have:=E.eLt l hl;omega),if_pos hneg,if_pos hneg]
    exact⟨hr,(zL f l).symm,by simp,by simp;omega⟩
   ·obtain⟨n,rfl⟩:=Int.eq_ofNat_of_zero_le (show 0≤n by omega)
    have hn':n<u.nodes.length:=by omega
    have hfn:=E.eLt n hn';rw[zL,OX u _ _ _ hn,OX t _ _ _ (by omega),if_neg (by omega),if_neg (by omega),E.epar G hn'];have hb:=zD u (n:=(n:Int)) (by omega);have hg:=bV u n;by_cases hp:0≤parent u n
    ·have h4:=dX u n hp
     exact Emb.eupw E G g h R hR k n _ _ _ hn' hb (by omega) (hR l n a b hl hn' hr) hg
    ·have h1:parent u n = -1:=by omega
     rw[h1,OW (by omega),OX u _ _ _ (by omega),OX t _ _ _ (by omega),if_pos (by omega),if_pos (by omega)];exact⟨hR l n a b hl hn' hr,(zL f n).symm,by simp,by simp;omega⟩
theorem Emb.emv(E:Emb t u S f){x:Int}(h0:0≤x)(h1:x<u.nodes.length){m:Nat}(hm:m<u.nodes.length):(mvI f x==(f m:Int))=(x==(m:Int)):=by
 obtain⟨x,rfl⟩:=Int.eq_ofNat_of_zero_le h0;rw[zL,Bool.eq_iff_iff,beq_iff_eq,beq_iff_eq];refine⟨fun h=>?_,fun h=>?_⟩
 ·have:=E.einj (a:=x) (b:=m) (by omega) hm (by omega)
  rw[this]
 ·have:x=m:=by omega
  rw[this]
theorem PU{K:List Int}{f:Nat→Nat}{n:Nat}(hK:∀k∈K,0≤k∧k<(n:Int))(he:∀x:Int,0≤x→x<n→∀m:Nat,m<n→(mvI f x==(f m:Int))=(x==(m:Int)))(i m:Nat)(hm:m<n):((K.map (mvI f))[i]?==some (f m:Int))=(K[i]?==some (m:Int)):=by
 rw[List.getElem?_map]
 cases h:K[i]? with
 |none=>rfl
 | some k=>
   have hk:=hK k (List.mem_of_getElem? h);exact he k hk.1 hk.2 m hm
theorem Emb.esat(E:Emb t u S f){l n:Nat}(hl:l<u.nodes.length)(hn:n<u.nodes.length):zz (t.nd (f n:Nat)) (f l:Nat) (f n:Nat)=(zz (u.nd n) l n).map (mvI f):=by
 have hK:∀k∈(u.nd n).kids,0≤k∧k<(u.nodes.length:Int):=fun k hk=>by have:=E.eKidR n hn k hk;omega
 have he:=fun(x:Int) h0 h1 (m:Nat) hm=>E.emv (x:=x) h0 h1 (m:=m) hm;unfold zz;rw[←E.eKind n hn,E.eKids n hn,List.length_map,PU hK he 1 l hl,PU hK he _ l hl];split<;>split<;>simp[zL]
theorem Emb.esup(E:Emb t u S f)(G:Good t S){m:Nat}(hm:m<u.nodes.length) :
 (zQ t (f m:Nat)).1=(zQ u m).1.map (mvI f)∧(∀x∈(zQ u m).1,0≤x∧x<(u.nodes.length:Int))∧(zQ t (f m:Nat)).2=mvI f (zQ u m).2∧0≤(zQ u m).2∧(zQ u m).2<u.nodes.length:=by
 unfold zQ;rw[E.epar G hm]
 have:=E.eupw G (fun last n acc=>acc++zz (u.nd n) last n) (fun last n acc=>acc++zz (t.nd n) last n) (fun a b=>b=a.map (mvI f)∧∀x∈a,0≤x∧x<(u.nodes.length:Int)) (fun l n a b hl hn hr=>by
  obtain⟨rfl,h2⟩:=hr;refine⟨by rw[E.esat hl hn,List.map_append],fun x hx=>?_⟩;rcases List.mem_append.1 hx with h|h
  ·exact h2 x h
  ·unfold zz at h
   rcases List.mem_append.1 h with h|h
   ·split at h
    ·simp only[List.mem_singleton]at h;omega
    ·cases h
   ·split at h
    ·rcases List.mem_append.1 h with h|h
     ·have:=E.eKidR n hn x (List.mem_of_mem_take h);omega
     ·simp only[List.mem_singleton]at h;omega
    ·cases h) (u.nodes.length+1) m (parent u m) [] [] hm (zD u (by omega)) (by omega) ⟨rfl,fun x h=>by cases h⟩ (bV u m)
 exact⟨this.1.1,this.1.2,this.2⟩
theorem Emb.epick(E:Emb t u S f){x:Int}(h0:0≤x)(h1:x<u.nodes.length):pickd u f (mvI f x)=true:=by
 obtain⟨x,rfl⟩:=Int.eq_ofNat_of_zero_le h0;rw[zL];exact pickd_iff.2 ⟨x,by omega,rfl⟩
theorem Emb.elast(E:Emb t u S f){x y:Int}(h0:0≤x)(h1:x<u.nodes.length)(g0:0≤y)(g1:y<u.nodes.length):decide (mvI f x<mvI f y)=decide (x<y):=by
 obtain⟨x,rfl⟩:=Int.eq_ofNat_of_zero_le h0;obtain⟨y,rfl⟩:=Int.eq_ofNat_of_zero_le g0;rw[zL,zL];have:=E.elts (a:=x) (b:=y) (by omega) (by omega);simp only[decide_eq_decide];omega
theorem Emb.esight(E:Emb t u S f)(G:Good t S)(wf:WF t){m:Nat}(hm:m<u.nodes.length) :
 (sight t (f m:Nat)).filter (pickd u f)=(sight u m).map (mvI f)∧∀x∈sight u m,0≤x∧x<(u.nodes.length:Int):=by
 obtain⟨h1,h2,h3,h4,h5⟩:=E.esup G hm;unfold sight;refine⟨?_,fun x hx=>?_⟩
 ·rw[List.filter_append,List.map_append,h1,h3]
  congr 1
  ·refine List.filter_eq_self.2 fun x hx=>?_
   obtain⟨y,hy,rfl⟩:=List.mem_map.1 hx;exact E.epick (h2 y hy).1 (h2 y hy).2
  ·rw[List.filter_filter,show(fun a=>pickd u f a&&(decide (a<mvI f (zQ u m).2)&&zh t a))=(fun a=>(decide (a<mvI f (zQ u m).2)&&zh t a)&&pickd u f a)from funext fun a=>Bool.and_comm _ _,←List.filter_filter,←E.eItems,List.filter_map]
   congr 1;refine List.filter_congr fun x hx=>?_;have hr:=E.eItemR x hx;simp only[Function.comp];rw[E.elast hr.1 hr.2 h4 h5];obtain⟨x,rfl⟩:=Int.eq_ofNat_of_zero_le hr.1;rw[zL,E.edecl G wf (by omega)]
 ·rcases List.mem_append.1 hx with h|h
  ·exact h2 x h
  ·exact E.eItemR x (List.mem_filter.1 h).1
theorem PF{α:Type}{p q:α→Bool}:∀{l:List α},(∀x∈l,p x=q x)→l.find? p=l.find? q
 | [],_=>rfl
 | a::l,h=>by
   rw[List.find?_cons,List.find?_cons,h a (by simp),PF fun x hx=>h x (List.mem_cons_of_mem _ hx)]
theorem PD{α:Type}{p r:α→Bool}:∀{l:List α},(∀d,l.find? p=some d→r d=true)→(l.filter r).find? p=l.find? p
 | [],_=>rfl
 | a::l,h=>by
   cases hp:p a with
   | true=>
     have:=h a (by rw[List.find?_cons,hp]);rw[List.filter_cons,if_pos this,List.find?_cons,List.find?_cons,hp]
   | false=>
     have ih:=PD (p:=p) (r:=r) (l:=l) (fun d hd=>h d (by rw[List.find?_cons,hp];exact hd));rw[List.filter_cons,List.find?_cons,hp];split
     ·rw[List.find?_cons,hp];exact ih
     ·exact ih
theorem Emb.enear(E:Emb t u S f)(G:Good t S)(wf:WF t){m:Nat}(hm:m<u.nodes.length)(name:List UInt8)(h:0≤nearest t (f m:Nat) name)(hp:pickd u f (nearest t (f m:Nat) name)=true) :
 nearest t (f m:Nat) name=mvI f (nearest u m name)∧0≤nearest u m name∧nearest u m name<u.nodes.length:=by
 obtain⟨h1,h2⟩:=E.esight G wf hm;unfold nearest at h hp⊢
 cases hf:(sight t (f m:Nat)).find? fun d=>(t.nd d).text==name with
 |none=>rw[hf]at h;simp at h
 | some d=>
   rw[hf,Option.getD_some]at hp;have h3:=PD (p:=fun d=>(t.nd d).text==name) (r:=pickd u f) (l:=sight t (f m:Nat)) (fun e he=>by rw[hf]at he;cases he;exact hp);rw[h1,hf,List.find?_map]at h3
   have h4:(sight u m).find? ((fun d=>(t.nd d).text==name) ∘ mvI f)=(sight u m).find? (fun d=>(u.nd d).text==name):=by
    refine PF fun x hx=>?_;have hr:=h2 x hx;obtain⟨x,rfl⟩:=Int.eq_ofNat_of_zero_le hr.1;simp only[Function.comp];rw[zL,←E.eText x (by omega)]
   rw[h4]at h3
   cases hu:(sight u m).find? fun d=>(u.nd d).text==name with
   |none=>rw[hu]at h3;cases h3
   | some e=>
     rw[hu,Option.map_some,Option.some.injEq]at h3;have hr:=h2 e (List.mem_of_find?_eq_some hu);rw[Option.getD_some,Option.getD_some];exact⟨h3.symm,hr⟩
theorem Emb.emeans(E:Emb t u S f)(G:Good t S)(wf:WF t){m:Nat}(hm:m<u.nodes.length)(h:aV (t.nd (f m:Nat)).kind=true→0≤means t (f m:Nat)∧pickd u f (means t (f m:Nat))=true) :
 means t (f m:Nat)=mvI f (means u m)∧means u m<u.nodes.length∧(aV (u.nd m).kind=true→0≤means u m):=by
 cases hk:aV (t.nd (f m:Nat)).kind with
 | false=>
   rw[fD hk,fD (by rw[E.eKind m hm];exact hk),OW (by omega)];exact⟨rfl,by omega,fun h=>by rw[E.eKind m hm,hk]at h;cases h⟩
 | true=>
   obtain⟨h1,h2⟩:=h hk;have hk2:aV (u.nd m).kind=true:=by rw[E.eKind m hm];exact hk
   unfold means at h1 h2⊢;rw[if_pos hk]at h1 h2⊢;rw[if_pos hk2];split at h1
   ·omega
   ·rename_i hc
    rw[if_neg hc]at h2⊢;obtain⟨g1,g2,g3⟩:=E.enear G wf hm _ h1 h2;rw[←E.eText m hm]at g1 hc;obtain⟨d,hd⟩:=Int.eq_ofNat_of_zero_le (show 0≤nearest u m (t.nd (f m:Nat)).text from g2);rw[←E.eText m hm]at g2 g3 hd;rw[hd]at g1 g2 g3;rw[g1,zL,←E.eKind m hm,←E.eKind d (by omega)]at hc;rw[←E.eText m hm,g1,hd]
    have hc2:¬((decide ((d:Int)<0) || !suits (u.nd m).kind (u.nd d).kind)=true):=by
     intro h;apply hc;simp only[Bool.or_eq_true,decide_eq_true_eq]at h⊢;exact h.imp (fun h=>by omega) id
    rw[if_neg hc2];exact⟨rfl,g3,fun _=>by omega⟩
end
end
section
open Go.RowKit
theorem err_zero{t:Tr}{n:Int}:aQ t n=0↔(aX t n&&zh t n&&aN t n)=false∧((t.nd n).kind==34&&aO t n)=false∧(aV (t.nd n).kind=true→0≤means t n∧((t.nd n).kind==21&&(t.nd (means t n)).n==0&&inside t n (means t n))=false∧((t.nd n).kind==45&&zT t n)=false):=by
 unfold aQ;cases h1:(aX t n&&zh t n&&aN t n)with
 |true=>simp
 | false=>
   cases h2:((t.nd n).kind==34&&aO t n)with
   |true=>simp
   | false=>
     cases h3:aV (t.nd n).kind with
     |false=>simp
     | true=>
       by_cases h4:means t n<0
       ·simp[h4];omega
       ·cases h5:((t.nd n).kind==21&&(t.nd (means t n)).n==0&&inside t n (means t n))with
        |true=>simp[h4]
        | false=>
          cases h6:((t.nd n).kind==45&&zT t n)with
          |true=>simp[h4]
          |false=>simp[h4];omega
section
variable {t u : Tr} {S : List Int} {f : Nat → Nat}
theorem PH{n:Int}{p:Int→Bool}:∀{l:List Int},eH l n p=true→∃x∈l,x<n∧p x=true
 | [],h=>by simp[eH]at h
 | a::l,h=>by
   unfold eH at h;rw[List.takeWhile_cons]at h;split at h
   ·rename_i ha
    rw[List.any_cons,Bool.or_eq_true]at h;rcases h with h|h
    ·exact⟨a,by simp,by simpa using ha,h⟩
    ·obtain⟨x,hx,h1,h2⟩:=PH (n:=n) (p:=p) (l:=l) h
     exact⟨x,List.mem_cons_of_mem _ hx,h1,h2⟩
   ·cases h
theorem Emb.someMap(E:Emb t u S f){p q:Int→Bool}{m:Nat}(hm:m<u.nodes.length):∀(l:List Int),(∀x∈l,0≤x∧x<(u.nodes.length:Int)∧q x=p (mvI f x))→eH (l.map (mvI f)) (f m:Nat) p=eH l m q
 | [],_=>rfl
 | a::l,h=>by
   obtain⟨h0,h1,h2⟩:=h a (by simp);have ih:=Emb.someMap E (p:=p) (q:=q) hm l fun x hx=>h x (List.mem_cons_of_mem _ hx);have hd:=E.elast h0 h1 (y:=(m:Int)) (by omega) (by omega);rw[zL]at hd;unfold eH at ih⊢;rw[List.map_cons,List.takeWhile_cons,List.takeWhile_cons,hd];split
   ·rw[List.any_cons,List.any_cons,ih,h2]
   ·rfl
theorem Emb.einI(E:Emb t u S f){x:Int}(h:x∈u.items):mvI f x∈t.items:=by
 have:=List.mem_map_of_mem (f:=mvI f) h;rw[E.eItems]at this;exact(List.mem_filter.1 this).1
def Shut(t u:Tr)(f:Nat→Nat):Prop:=∀m,m<u.nodes.length→aV (t.nd (f m:Nat)).kind=true→pickd u f (means t (f m:Nat))=true
theorem Emb.emean(E:Emb t u S f)(G:Good t S)(wf:WF t)(hs:Shut t u f)(h0:∀m,m<u.nodes.length→aQ t (f m:Nat)=0){m:Nat}(hm:m<u.nodes.length) :
 means t (f m:Nat)=mvI f (means u m)∧means u m<u.nodes.length∧(aV (u.nd m).kind=true→0≤means u m):=
 E.emeans G wf hm fun hk=>⟨((err_zero.1 (h0 m hm)).2.2 hk).1,hs m hm hk⟩
theorem Emb.eerr(E:Emb t u S f)(G:Good t S)(wf:WF t)(hs:Shut t u f)(h0:∀m,m<u.nodes.length→aQ t (f m:Nat)=0){m:Nat}(hm:m<u.nodes.length):aQ u m=0:=by
 obtain⟨h1,h2,h3⟩:=err_zero.1 (h0 m hm);obtain⟨e1,e2,e3⟩:=E.emean G wf hs h0 hm;have hfm:=E.eLt m hm;rw[E.edecl G wf hm]at h1;refine err_zero.2 ⟨?_,?_,fun hk=>?_⟩
 ·rw[Bool.eq_false_iff]
  intro h;simp only[Bool.and_eq_true]at h;obtain⟨⟨g1,g2⟩,g3⟩:=h
  have k1:aX t (f m:Nat)=true:=by
   unfold aX hasI at g1⊢;have:=E.einI (by simpa using g1);rw[zL]at this;simpa using this
  have k3:aN t (f m:Nat)=true:=by
   obtain⟨x,hx,hlt,hp⟩:=PH g3;have hr:=E.eItemR x hx;obtain⟨x,rfl⟩:=Int.eq_ofNat_of_zero_le hr.1;refine(fR G.itemsAsc).2 ⟨(f x:Nat),by rw[←zL];exact E.einI hx,?_,?_⟩
   ·have:=E.eMono x m (by omega) hm;omega
   ·rw[E.edecl G wf (by omega),←E.eText x (by omega),←E.eText m hm];exact hp
  rw[k1,g2,k3]at h1;cases h1
 ·rw[Bool.eq_false_iff]
  intro h;simp only[Bool.and_eq_true]at h;obtain⟨g1,g2⟩:=h;have g1t:((t.nd (f m:Nat)).kind==34)=true:=by rw[←E.eKind m hm];exact g1
  rw[g1t,Bool.true_and]at h2;have hp:=wf.par _ hfm (by rw[←kC hfm];simpa using g1t);rw[E.epar G hm]at hp;unfold aO at g2 h2;rw[E.epar G hm]at h2
  have hpu:0≤parent u m:=by
   rcases Int.lt_or_le (parent u m) 0 with h|h
   ·rw[OW h]at hp;exact hp
   ·exact h
  obtain⟨i,q1,q2,-⟩:=zF hpu;rw[q1]at g2 h2;rw[zL,E.eKids i q2,E.someMap (q:=fun k=>(u.nd k).kind==34&&(u.nd k).text==(u.nd m).text) hm]at h2
  ·rw[h2]at g2;cases g2
  ·intro x hx
   have hr:=E.eKidR i q2 x hx;obtain⟨x,rfl⟩:=Int.eq_ofNat_of_zero_le hr.1;refine⟨by omega,by omega,?_⟩;rw[zL,E.eKind x (by omega),E.eText x (by omega),E.eText m hm]
 ·have hkt:aV (t.nd (f m:Nat)).kind=true:=by rw[←E.eKind m hm];exact hk
  obtain⟨h4,h5,h6⟩:=h3 hkt;have hd0:=e3 hk;obtain⟨d,hd⟩:=Int.eq_ofNat_of_zero_le hd0;rw[hd]at e1 e2;rw[zL]at e1;have hdu:d<u.nodes.length:=by omega
  refine⟨hd0,?_,?_⟩
  ·rw[hd,E.eKind m hm,E.eNum d hdu,←E.eins G hdu (u.nodes.length) m (by omega) hm,←e1]
   exact h5
  ·rw[Bool.eq_false_iff]
   intro h;simp only[Bool.and_eq_true]at h;obtain⟨g1,g2⟩:=h
   have k3:zT t (f m:Nat)=true:=by
    obtain⟨x,hx,hlt,hp⟩:=PH g2;have hr:=E.eItemR x hx;obtain⟨x,rfl⟩:=Int.eq_ofNat_of_zero_le hr.1;simp only[Bool.and_eq_true,beq_iff_eq]at hp;refine(fR G.itemsAsc).2 ⟨(f x:Nat),by rw[←zL];exact E.einI hx,?_,?_⟩
    ·have:=E.eMono x m (by omega) hm;omega
    ·have hx2:=E.emean G wf hs h0 (m:=x) (by omega)
     simp only[Bool.and_eq_true,beq_iff_eq];exact⟨by rw[←E.eKind x (by omega)];exact hp.1,by rw[hx2.1,hp.2,hd,zL,e1]⟩
   rw[k3,←E.eKind m hm,g1]at h6;cases h6
theorem PT{t:Tr}:∀(k j:Nat),(∀m,j≤m→m<j+k→aQ t (m:Nat)=0)→dV t k j=none
 |0,_,_=>rfl
 | k+1,j,h=>by
   rw[dV,if_neg (by rw[h j (by omega) (by omega)];simp)];exact PT k (j+1) fun m h1 h2=>h m (by omega) (by omega)
theorem Emb.eres(E:Emb t u S f)(G:Good t S)(wf:WF t)(hs:Shut t u f)(h0:∀m,m<u.nodes.length→aQ t (f m:Nat)=0)(hc:zJ u=0) :
 zc u=((List.range u.nodes.length).map (fun k:Nat=>means u (k:Int)),0,0):=by
 unfold zc;rw[hc,if_neg (by simp),PT _ _ fun m _ h2=>E.eerr G wf hs h0 (by omega)]
end
end
end Go.Proofs.YtokdgiphdnjeoaaGreatDoor
