/- Part of a proof. -/
import Derived.Test.YtipjhljnkocioaaGreatDoorP12
import Derived.Test.YtipjhljnkocioaaGreatDoorP15
set_option maxRecDepth 100000
set_option maxHeartbeats 8000000
set_option linter.unusedVariables false
set_option linter.unusedSimpArgs false
open Go.Proofs.Tryz
namespace Go.Proofs.YtipjhljnkocioaaGreatDoor
section
open Go.RowKit
theorem sH(s:List UInt8)(w:World)(hs:s.length≤1000000000)(hg:GV w) :
 Calls prog 103 #[strV s] w fun e w'=>e=.returned (.tuple #[.int .u8 (if (tokF s).1 != 0&&(tokF s).2==s then (tokF s).1 else 0),intV (if (tokF s).1 != 0&&(tokF s).2==s then 0 else 4)])∧Below w.heap.size w w':=by
 obtain⟨k,g,hkg⟩:∃k g,tokF s=(k,g):=⟨_,_,rfl⟩
 have HK:=Hd hkg;have HG:=Hd hg;rw[hkg];clear hkg hg;simp only
 cases h1:k==0 with
 | true=>
   have h0:k=0:=by simpa using h1
   have hb:(k != 0&&g==s)=false:=by rw[h0];rfl
   rw[hb];clear hb h0;go_enter func103,ntmps103
   go_wp2_with (go_at_call 141;refine(jC s _ hs HG.out).mono ?_;rw[HK.out];rintro e w' ⟨rfl,hb'⟩)
   go_ret2
   exact⟨rfl,hb'⟩
 | false=>
   cases h2:g != s with
   | true=>
     have hb:(k != 0&&g==s)=false:=by
      have h2':(g==s)=false:=by simpa[bne]using h2
      rw[h2',Bool.and_false]
     have hb2:(g==s)=false:=by simpa[bne]using h2
     rw[hb];clear hb;go_enter func103,ntmps103
     go_wp2_with (go_at_call 141;refine(jC s _ hs HG.out).mono ?_;rw[HK.out];rintro e w' ⟨rfl,hb'⟩)
     go_ret2
     exact⟨rfl,hb'⟩
   | false=>
     have hgs:g=s:=by simpa using h2
     subst hgs;have hb:(k != 0&&g==g)=true:=by simpa using h1
     rw[hb];clear hb h2;go_enter func103,ntmps103
     go_wp2_with (go_at_call 141;refine(jC g _ hs HG.out).mono ?_;rw[HK.out];rintro e w' ⟨rfl,hb'⟩)
     go_ret2
     exact⟨rfl,hb'⟩
theorem cO(s:List UInt8)(w:World)(hs:s.length≤1000000000)(hg:GV w) :
 Calls prog 71 #[strV s] w (zm w (zT s)):=by
 obtain⟨k,g,hkg⟩:∃k g,tokF s=(k,g):=⟨_,_,rfl⟩
 have HK:=Hd hkg;have hB:zT s=(k==1&&g==s):=by rw[pX,HK.out]
 rw[hB];clear hkg hB
 have hc:∀W,GV W→Calls prog 103 #[strV s] W fun e w'=>e=.returned (.tuple #[.int .u8 (if k != 0&&g==s then k else 0),intV (if k != 0&&g==s then 0 else 4)])∧Below W.heap.size W w':=fun W h=>by
  have:=sH s W hs h;rw[HK.out]at this;exact this
 have HC:=Hd hc;have HG:=Hd hg;clear hc hg;obtain⟨b,hb⟩:∃b,(k != 0&&g==s)=b:=⟨_,rfl⟩
 cases b with
 | true=>
   obtain⟨h1,h2⟩:=Bool.and_eq_true _ _▸hb;rw[h2,Bool.and_true];have HB:=Hd hb;clear hb h1 h2;go_enter func71,ntmps71
   go_wp2_with (go_at_call 103;refine(HC.out _ HG.out).mono ?_;rw[HB.out];rintro e w' ⟨rfl,hb'⟩)
   go_ret;exact⟨rfl,hb'⟩
 | false=>
   have hf:(k==1&&g==s)=false:=by
    cases hg:g==s with
    |false=>simp
    |true=>rw[hg]at hb;simp at hb;subst hb;rfl
   rw[hf];have HB:=Hd hb;clear hb hf;go_enter func71,ntmps71
   go_wp2_with (go_at_call 103;refine(HC.out _ HG.out).mono ?_;rw[HB.out];rintro e w' ⟨rfl,hb'⟩)
   go_ret;exact⟨rfl,hb'⟩
theorem zA(n lo hi:Int)(w:World):Calls prog 81 #[intV n,intV lo,intV hi] w fun e w'=>e=.returned (.bool (zw n lo hi))∧w=w':=by
 go_enter func81,ntmps81;go_wp2
 all_goals
  go_ret;refine⟨za ?_,rfl⟩
  (try simp_all[zw])<;>(try omega)
theorem rW(n:Int)(w:World):Calls prog 186 #[.int .u8 n] w fun e w'=>e=.returned (.bool (zZ n))∧w=w':=by
 go_enter func186,ntmps186;go_wp2
 all_goals
  go_ret;refine⟨za ?_,rfl⟩
  (try simp_all[zZ])<;>(try omega)
theorem rY(n:Int)(w:World):Calls prog 190 #[.int .u8 n] w fun e w'=>e=.returned (.bool (fL n))∧w=w':=by
 go_enter func190,ntmps190;go_wp2
 all_goals
  go_ret;refine⟨za ?_,rfl⟩
  (try simp_all[fL])<;>(try omega)
theorem AC(n:Int)(w:World):Calls prog 114 #[.int .u8 n] w fun e w'=>e=.returned (.bool (dN n))∧w=w':=by
 go_enter func114,ntmps114;go_wp2
 all_goals
  go_ret;refine⟨za ?_,rfl⟩
  (try simp_all[dN])<;>(try omega)
theorem wH(n:Int)(w:World):Calls prog 189 #[.int .u8 n] w fun e w'=>e=.returned (.bool (n==25))∧w=w':=by
 go_enter func189,ntmps189;go_wp2
 all_goals
  go_ret;refine⟨za ?_,rfl⟩
  (try simp_all[])<;>(try omega)
theorem wG(n:Int)(w:World):Calls prog 191 #[.int .u8 n] w fun e w'=>e=.returned (.bool (n==1))∧w=w':=by
 go_enter func191,ntmps191;go_wp2
 all_goals
  go_ret;refine⟨za ?_,rfl⟩
  (try simp_all[])<;>(try omega)
theorem pL(n:Int)(w:World):Calls prog 192 #[.int .u8 n] w fun e w'=>e=.returned (.bool (n==34))∧w=w':=by
 go_enter func192,ntmps192;go_wp2
 all_goals
  go_ret;refine⟨za ?_,rfl⟩
  (try simp_all[])<;>(try omega)
theorem fY(v:TreeV)(t:Tr)(w:World)(bd:Bd t) :
 Calls prog 85 #[v.val t] w (zm w (decide (800<t.nodes.length∨60<t.items.length))):=by
 have hn:=bd.n;have hi:=bd.i;clear bd;unfold TreeV.val;by_cases h1:800<t.nodes.length
 ·go_enter func85,ntmps85
  go_wp2;go_ret;exact⟨za (by simp[h1]),brf.alloc nlr _⟩
 ·go_enter func85,ntmps85
  go_wp2;go_ret;refine⟨za ?_,brf.alloc nlr _⟩;rw[Bool.eq_iff_iff];simp;omega
def PK.F:PK→Nat
 |.expr=>186
 |.kind=>190
 |.param=>192
 |.put=>189
 |.num=>191
def PK.V(p:PK):Value:=.func (.func p.F) #[] #[]
def rB(p:Part):List Value:=[intV p.1,intV p.2.1,p.2.2.V]
def iF:List Part→List Value
 | []=>[]
 |p::r=>rB p++iF r
theorem lB:∀l:List Part,(iF l).length=l.length*3
 | []=>rfl
 |p::r=>by simp[iF,rB,lB r];omega
abbrev Parts(w:World)(a:Option Addr)(c:Nat)(l:List Part):Prop:=Row 3 w a l.length c (iF l)
def DI(s:Shape)(a:Option Addr)(c:Nat):Value:=.agg #[.bool s.named,intV s.lo,intV s.hi,.slice a s.parts.length c]
def zI(w:World)(o:Option Shape)(e:Ending)(w':World):Prop:=
 match o with
 |none=>∃a n c,e=.returned (.tuple #[.agg #[.bool false,intV 0,intV 0,.slice a n c],.bool false])∧Below w.heap.size w w'
 |some s=>∃a c,e=.returned (.tuple #[DI s a c,.bool true])∧Parts w' a c s.parts∧Below w.heap.size w w'
end
end Go.Proofs.YtipjhljnkocioaaGreatDoor
