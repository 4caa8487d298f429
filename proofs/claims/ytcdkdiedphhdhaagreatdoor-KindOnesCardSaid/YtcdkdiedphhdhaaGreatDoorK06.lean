/- Part of a proof. -/
import Derived.Test.YtcdkdiedphhdhaaGreatDoorProg
import Derived.WalkKit
import Derived.WalkSpells
import Derived.WalkLawsBesides
import Derived.Handy
import Derived.Lib.Hide
import Derived.Lib.Strings
set_option maxRecDepth 100000
set_option maxHeartbeats 8000000
set_option linter.unusedVariables false
set_option linter.unusedSimpArgs false
namespace Go.RowKit
theorem Hid.o{p:Prop}(h:Hid p):p:=h
end Go.RowKit
namespace Go.Proofs.YtcdkdiedphhdhaaGreatDoor
section
open Go.RowKit
theorem Hd{p:Prop}(h:p):Go.RowKit.Hid p:=h
theorem nlr{n:Nat}:n<=n:=Nat.le_refl n
theorem brf{B:Nat}{w:World}:Below B w w:=Below.refl B w
abbrev strV(l:List UInt8):Value:=.string ⟨l.toArray⟩
def Row(k:Nat)(w:World)(a:Option Addr)(n c:Nat)(xs:List Value):Prop:=
 xs.length=n*k/\n<=c/\(a=none->c=0)/\(n=0\/∃b o,a=some ⟨b,o,none⟩/\b<w.heap.size/\∀i (h:i<xs.length),w.cell? ⟨b,o+i,none⟩=some xs[i])
theorem Row.mono{k:Nat}{w w':World}{a:Option Addr}{n c:Nat}{xs:List Value}{B:Nat}(h:Row k w a n c xs)(hb:Below B w w')(hB:w.heap.size<=B):Row k w' a n c xs:=by
 obtain⟨h1,h2,h3,h4⟩:=h;refine⟨h1,h2,h3,?_⟩;rcases h4 with h4|⟨b,o,e,ha,hc⟩
 .exact .inl h4
 .exact .inr ⟨b,o,e,Nat.lt_of_lt_of_le ha hb.size,fun i hi=>(hb.cell (p:=⟨b,o+i,none⟩) (by show b<B;omega)).trans (hc i hi)⟩
theorem Row.some{k:Nat}{w:World}{a:Option Addr}{n c:Nat}{xs:List Value}(h:Row k w a n c xs)(hn:0<n) :
 ∃b o,a=.some ⟨b,o,none⟩/\b<w.heap.size/\∀i (h:i<xs.length),w.cell? ⟨b,o+i,none⟩=.some xs[i]:=by
 rcases h.2.2.2 with h4|h4
 .omega
 .exact h4
theorem zO{k:IntKind}{a b:Int}(h:a=b):Ending.returned (.int k a)=.returned (.int k b):=by rw[h]
theorem zc{a b:Bool}(h:a=b):Ending.returned (.bool a)=.returned (.bool b):=by rw[h]
@[go_sem] theorem str_index (l:List UInt8) (k:Nat) (h:k<(⟨l.toArray⟩:ByteArray).size):(⟨l.toArray⟩:ByteArray)[k]=l[k]'(by simpa[ByteArray.size]using h):=rfl
@[go_sem] theorem bytes_append (a b:List UInt8):(⟨a.toArray⟩:ByteArray)++⟨b.toArray⟩=⟨(a++b).toArray⟩:=by
 apply ByteArray.ext;simp
theorem Row.made{k:Nat}(w:World)(xs:List Value)(e:TypeId){n c:Nat}(hl:xs.length=n*k)(hn:n<=c) :
 Row k (w.alloc (.cells xs.toArray e)) (Option.some ⟨w.heap.size,0,none⟩) n c xs:=
 ⟨hl,hn,(fun h=>by cases h),.inr ⟨w.heap.size,0,rfl,by simp,fun i hi=>by simp[hi]⟩⟩
theorem aZ{w:World}{B:Nat}{e:TypeId}{k:Nat}{v:Value}{n:Nat}{xs:List Value}(h:w.ownsRow B e k v n xs):∃a c,v=.slice a n c/\Row k w a n c xs:=by
 obtain⟨hl,h⟩:=h;rcases h with⟨rfl,rfl⟩|⟨g,cap,cur,rfl,hb,hg,hc,hd,he,ht⟩
 .exact⟨none,0,rfl,hl,Nat.le_refl _,fun _=>rfl,.inl rfl⟩
 .refine⟨_,_,rfl,hl,hc,(fun h=>by cases h),.inr ⟨g,0,rfl,(Array.getElem?_eq_some_iff.1 hg).1,fun i hi=>?_⟩⟩
  have ha:i<n*k:=hl▸hi;rw[Nat.zero_add,cell_of_row w g i cur e (0,0) hg];have:xs[i]?=cur[i]?:=by rw[<-ht,List.getElem?_take,if_pos ha];simp
  rw[<-this,List.getElem?_eq_getElem hi]
theorem aQ{P:Program}(w:World)(B:Nat)(t ty e:TypeId)(i:TypeInfo)(z:Value)(k bytes:Nat)(ht:P.underlying t=some (.slice e))(hi:P.info? e=some i)(hz:i.zero=some z)
 (hsize:i.size=k)(hby:i.bytes=bytes)(hzs:z.cells.size=k)(hsz:0<k)
 (v:Value)(n:Nat)(xs:List Value)(hown:w.ownsRow B e k v n xs)(ax:Option Addr)(m c:Nat)(news:List Value)(hr:Row k w ax m c news)(h1:∀u∈news,u.oneCell'=true)
 (h63:n+m<=maxLen)(hbytes:(n+m)*bytes<=140737488355328)(hB:B<=w.heap.size) :
 ∃v' w',(Builtin.append_ #[t,t] ty #[v,.slice ax m c]).run P w=.ok v' w'/\w'.ownsRow B e k v' (n+m) (xs++news)/\w.grownBy w' v.ownBlock:=by
 obtain⟨hl,hf,hd,ha⟩:=hr
 cases ax with
 | none=>
   obtain rfl:=hd rfl;obtain rfl:m=0:=by omega
   obtain rfl:news=[]:=List.eq_nil_of_length_eq_zero (by omega);exact⟨v,w,run_append_owned_none w B t ty e i k ht hi v n xs hown,by simpa using hown,⟨rfl,rfl,rfl,Nat.le_refl _,fun _ _ _=>rfl⟩⟩
 | some a=>
   have hb:∀j u,news[j]?=some u->w.cell? (a.add j)=some u:=by
    intro j u hj;have he:j<news.length:=(List.getElem?_eq_some_iff.1 hj).1;rcases ha with h0|⟨b,o,e,_,hc⟩
    .subst h0;omega
    .obtain rfl:=Option.some.inj e
     have hp:(⟨b,o,none⟩:Addr).add j=⟨b,o+j,none⟩:=by unfold Addr.add;split<;>simp_all
     rw[hp,hc j he,<-hj,List.getElem?_eq_getElem he]
   obtain⟨v',w',h1,h2,h3,_⟩:=run_append_own (P:=P) w B t ty e i z k bytes ht hi hz hsize hby hzs hsz v n xs hown a m c news hl hb h1 h63 hbytes hB;exact⟨v',w',h1,h2,h3⟩
theorem NV(l:List (List UInt8)):∀u∈l.map strV,u.oneCell'=true:=by
 intro u hu;obtain⟨c,_,rfl⟩:=List.mem_map.1 hu;rfl
theorem kO{k:Nat}{w:World}{a:Option Addr}{n c:Nat}{xs:List Value}(h:Row k w a n c xs){lo hi m:Nat}(h1:lo<=hi)(h2:hi<=n)(hm:hi<=m)(hmc:m<=c) :
 ∃a' c',sliced a lo hi m k=.slice a' (hi-lo) c'/\Row k w a' (hi-lo) c' ((xs.drop (lo*k)).take ((hi-lo)*k)):=by
 refine⟨_,_,rfl,?_,by omega,?_,?_⟩
 .rw[List.length_take,List.length_drop,h.1,Nat.min_eq_left]
  rw[<-Nat.sub_mul];exact Nat.mul_le_mul_right _ (by omega)
 .intro e
  split at e
  .omega
  .have:=h.2.2.1 (by simpa using e);omega
 .by_cases h0:hi-lo=0
  .exact .inl h0
  .obtain⟨b,o,rfl,hb,hc⟩:=h.some (by omega)
   refine .inr ⟨b,o+lo*k,?_,hb,fun i hi'=>?_⟩
   .rw[if_neg (by omega)]
    simp only[Option.map_some,Addr.add];split
    .simp_all
    .rfl
   .have ha:lo*k+i<xs.length:=by
     rw[List.length_take,List.length_drop]at hi';omega
    rw[Nat.add_assoc,hc (lo*k+i) ha];simp
section
variable {P : Program} {T : TypeId} {k : Nat} {w : World} {a : Option Addr} {n c : Nat} {xs : List Value}
theorem KM(h:Row k w a n c xs)(ht:P.underlying T=some (.slice (P.elem T)))(hk:∀W,(sizeOf (P.elem T)).run P W=.ok k W)(lo:Int)(h0:0<=lo)(h1:lo<=n) :
 ∃ a' c',(∀W:World,(Instr.slice T (.slice a n c) (some (.int .i64 lo)) none none).run P W=.ok (.slice a' (n-lo.toNat) c') W) /\
   Row k w a' (n-lo.toNat) c' (xs.drop (lo.toNat*k)):=by
 have ha:=h.2.1;obtain⟨a',c',e,hr⟩:=kO h (lo:=lo.toNat) (hi:=n) (m:=c) (by omega) (by omega) (by omega) (by omega);refine⟨a',c',fun W=>?_,?_⟩
 .rw[run_slice_l W T a n c ht .i64 lo h0 h1,hk W]
  simp only[Result.andThen];rw[e]
 .rw[List.take_of_length_le (by rw[List.length_drop,h.1,<-Nat.sub_mul];exact Nat.le_refl _)]at hr
  exact hr
theorem KK(h:Row k w a n c xs)(ht:P.underlying T=some (.slice (P.elem T)))(hk:∀W,(sizeOf (P.elem T)).run P W=.ok k W)(hi:Int)(h0:0<=hi)(h1:hi<=n) :
 ∃ a' c',(∀W:World,(Instr.slice T (.slice a n c) none (some (.int .i64 hi)) none).run P W=.ok (.slice a' hi.toNat c') W) /\
   Row k w a' hi.toNat c' (xs.take (hi.toNat*k)):=by
 have ha:=h.2.1;obtain⟨a',c',e,hr⟩:=kO h (lo:=0) (hi:=hi.toNat) (m:=c) (by omega) (by omega) (by omega) (by omega);refine⟨a',c',fun W=>?_,by simpa using hr⟩;rw[run_slice_h W T a n c ht .i64 hi h0 (by omega),hk W];simp only[Result.andThen];rw[e];simp
end
end
end Go.Proofs.YtcdkdiedphhdhaaGreatDoor
