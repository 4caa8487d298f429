/- Part of a proof. -/
import Derived.Test.YtcdkdiedphhdhaaGreatDoorK12
import Derived.Test.YtcdkdiedphhdhaaGreatDoorK15
set_option maxRecDepth 100000
set_option maxHeartbeats 8000000
set_option linter.unusedVariables false
set_option linter.unusedSimpArgs false
open Go.Proofs.Tryz
namespace Go.Proofs.YtcdkdiedphhdhaaGreatDoor
section
open Go.RowKit
theorem uX(s:List UInt8)(w:World)(hs:s.length<=1000000000)(hg:GV w) :
 Calls prog 54 #[strV s] w fun e w'=>e=.returned (.tuple #[.int .u8 (if (tokF s).1 != 0&&(tokF s).2==s then (tokF s).1 else 0),intV (if (tokF s).1 != 0&&(tokF s).2==s then 0 else 4)])/\Below w.heap.size w w':=by
 obtain⟨k,g,hc⟩:∃k g,tokF s=(k,g):=⟨_,_,rfl⟩
 have HK:=Hd hc;have HG:=Hd hg;rw[hc];clear hc hg;simp only
 cases h1:k==0 with
 | true=>
   have h0:k=0:=by simpa using h1
   have hb:(k != 0&&g==s)=false:=by rw[h0];rfl
   rw[hb];clear hb h0;go_enter func54,ntmps54
   go_wp2_with (go_at_call 77;refine(kE s _ hs HG.o).mono ?_;rw[HK.o];rintro e w' ⟨rfl,ha⟩)
   go_ret2
   exact⟨rfl,ha⟩
 | false=>
   cases h2:g != s with
   | true=>
     have hb:(k != 0&&g==s)=false:=by
      have hd:(g==s)=false:=by simpa[bne]using h2
      rw[hd,Bool.and_false]
     have hf:(g==s)=false:=by simpa[bne]using h2
     rw[hb];clear hb;go_enter func54,ntmps54
     go_wp2_with (go_at_call 77;refine(kE s _ hs HG.o).mono ?_;rw[HK.o];rintro e w' ⟨rfl,ha⟩)
     go_ret2
     exact⟨rfl,ha⟩
   | false=>
     have he:g=s:=by simpa using h2
     subst he;have hb:(k != 0&&g==g)=true:=by simpa using h1
     rw[hb];clear hb h2;go_enter func54,ntmps54
     go_wp2_with (go_at_call 77;refine(kE g _ hs HG.o).mono ?_;rw[HK.o];rintro e w' ⟨rfl,ha⟩)
     go_ret2
     exact⟨rfl,ha⟩
theorem bO(s:List UInt8)(w:World)(hs:s.length<=1000000000)(hg:GV w) :
 Calls prog 35 #[strV s] w (zD w (zG s)):=by
 obtain⟨k,g,hd⟩:∃k g,tokF s=(k,g):=⟨_,_,rfl⟩
 have HK:=Hd hd;have hB:zG s=(k==1&&g==s):=by rw[EI,HK.o]
 rw[hB];clear hd hB
 have hc:∀W,GV W->Calls prog 54 #[strV s] W fun e w'=>e=.returned (.tuple #[.int .u8 (if k != 0&&g==s then k else 0),intV (if k != 0&&g==s then 0 else 4)])/\Below W.heap.size W w':=fun W h=>by
  have:=uX s W hs h;rw[HK.o]at this;exact this
 have HC:=Hd hc;have HG:=Hd hg;clear hc hg;obtain⟨b,hb⟩:∃b,(k != 0&&g==s)=b:=⟨_,rfl⟩
 cases b with
 | true=>
   obtain⟨h1,h2⟩:=Bool.and_eq_true _ _▸hb;rw[h2,Bool.and_true];have HB:=Hd hb;clear hb h1 h2;go_enter func35,ntmps35
   go_wp2_with (go_at_call 54;refine(HC.o _ HG.o).mono ?_;rw[HB.o];rintro e w' ⟨rfl,ha⟩)
   go_ret;exact⟨rfl,ha⟩
 | false=>
   have hf:(k==1&&g==s)=false:=by
    cases hg:g==s with
    |false=>simp
    |true=>rw[hg]at hb;simp at hb;subst hb;rfl
   rw[hf];have HB:=Hd hb;clear hb hf;go_enter func35,ntmps35
   go_wp2_with (go_at_call 54;refine(HC.o _ HG.o).mono ?_;rw[HB.o];rintro e w' ⟨rfl,ha⟩)
   go_ret;exact⟨rfl,ha⟩
theorem zw(n lo hi:Int)(w:World):Calls prog 135 #[intV n,intV lo,intV hi] w fun e w'=>e=.returned (.bool (zu n lo hi))/\w=w':=by
 go_enter func135,ntmps135;go_wp2
 all_goals
  go_ret;refine⟨zc ?_,rfl⟩
  (try simp_all[zu])<;>(try omega)
theorem uO(n:Int)(w:World):Calls prog 184 #[.int .u8 n] w fun e w'=>e=.returned (.bool (zl n))/\w=w':=by
 go_enter func184,ntmps184;go_wp2
 all_goals
  go_ret;refine⟨zc ?_,rfl⟩
  (try simp_all[zl])<;>(try omega)
theorem uQ(n:Int)(w:World):Calls prog 188 #[.int .u8 n] w fun e w'=>e=.returned (.bool (cG n))/\w=w':=by
 go_enter func188,ntmps188;go_wp2
 all_goals
  go_ret;refine⟨zc ?_,rfl⟩
  (try simp_all[cG])<;>(try omega)
theorem FK(n:Int)(w:World):Calls prog 156 #[.int .u8 n] w fun e w'=>e=.returned (.bool (cQ n))/\w=w':=by
 go_enter func156,ntmps156;go_wp2
 all_goals
  go_ret;refine⟨zc ?_,rfl⟩
  (try simp_all[cQ])<;>(try omega)
theorem BE(n:Int)(w:World):Calls prog 187 #[.int .u8 n] w fun e w'=>e=.returned (.bool (n==25))/\w=w':=by
 go_enter func187,ntmps187;go_wp2
 all_goals
  go_ret;refine⟨zc ?_,rfl⟩
  (try simp_all[])<;>(try omega)
theorem BC(n:Int)(w:World):Calls prog 189 #[.int .u8 n] w fun e w'=>e=.returned (.bool (n==1))/\w=w':=by
 go_enter func189,ntmps189;go_wp2
 all_goals
  go_ret;refine⟨zc ?_,rfl⟩
  (try simp_all[])<;>(try omega)
theorem rR(n:Int)(w:World):Calls prog 190 #[.int .u8 n] w fun e w'=>e=.returned (.bool (n==34))/\w=w':=by
 go_enter func190,ntmps190;go_wp2
 all_goals
  go_ret;refine⟨zc ?_,rfl⟩
  (try simp_all[])<;>(try omega)
theorem gS(v:TreeV)(t:Tr)(w:World)(bd:Bd t) :
 Calls prog 63 #[v.val t] w (zD w (decide (800<t.nodes.length\/60<t.items.length))):=by
 have hn:=bd.n;have hi:=bd.i;clear bd;unfold TreeV.val;by_cases h1:800<t.nodes.length
 .go_enter func63,ntmps63
  go_wp2;go_ret;exact⟨zc (by simp[h1]),brf.alloc nlr _⟩
 .go_enter func63,ntmps63
  go_wp2;go_ret;refine⟨zc ?_,brf.alloc nlr _⟩;rw[Bool.eq_iff_iff];simp;omega
def PK.F:PK->Nat
 |.expr=>184
 |.kind=>188
 |.param=>190
 |.put=>187
 |.num=>189
def PK.V(p:PK):Value:=.func (.func p.F) #[] #[]
def tQ(p:Part):List Value:=[intV p.1,intV p.2.1,p.2.2.V]
def iX:List Part->List Value
 | []=>[]
 |p::r=>tQ p++iX r
theorem mJ:∀l:List Part,(iX l).length=l.length*3
 | []=>rfl
 |p::r=>by simp[iX,tQ,mJ r];omega
abbrev Parts(w:World)(a:Option Addr)(c:Nat)(l:List Part):Prop:=Row 3 w a l.length c (iX l)
def KA(s:Shape)(a:Option Addr)(c:Nat):Value:=.agg #[.bool s.named,intV s.lo,intV s.hi,.slice a s.parts.length c]
def zJ(w:World)(o:Option Shape)(e:Ending)(w':World):Prop:=
 match o with
 |none=>∃a n c,e=.returned (.tuple #[.agg #[.bool false,intV 0,intV 0,.slice a n c],.bool false])/\Below w.heap.size w w'
 |some s=>∃a c,e=.returned (.tuple #[KA s a c,.bool true])/\Parts w' a c s.parts/\Below w.heap.size w w'
end
end Go.Proofs.YtcdkdiedphhdhaaGreatDoor
