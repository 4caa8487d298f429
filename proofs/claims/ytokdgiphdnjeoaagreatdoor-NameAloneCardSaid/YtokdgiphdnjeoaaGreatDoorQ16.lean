/- Part of a proof. -/
import Derived.Test.YtokdgiphdnjeoaaGreatDoorQ12
import Derived.Test.YtokdgiphdnjeoaaGreatDoorQ15
set_option maxRecDepth 100000
set_option maxHeartbeats 8000000
set_option linter.unusedVariables false
set_option linter.unusedSimpArgs false
open Go.Proofs.Tryz
namespace Go.Proofs.YtokdgiphdnjeoaaGreatDoor
section
open Go.RowKit
theorem tU(s:List UInt8)(w:World)(hs:s.length≤1000000000)(hg:GV w) :
 Calls prog 134 #[strV s] w fun e w'=>e=.returned (.tuple #[.int .u8 (if (tokF s).1 != 0&&(tokF s).2==s then (tokF s).1 else 0),intV (if (tokF s).1 != 0&&(tokF s).2==s then 0 else 4)])∧Below w.heap.size w w':=by
 obtain⟨k,g,hkg⟩:∃k g,tokF s=(k,g):=⟨_,_,rfl⟩
 have HK:=Hd hkg;have HG:=Hd hg;rw[hkg];clear hkg hg;simp only
 cases h1:k==0 with
 | true=>
   have h0:k=0:=by simpa using h1
   have hb:(k != 0&&g==s)=false:=by rw[h0];rfl
   rw[hb];clear hb h0;go_enter func134,ntmps134
   go_wp2_with (go_at_call 174;refine(jS s _ hs HG.out).mono ?_;rw[HK.out];rintro e w' ⟨rfl,hb'⟩)
   go_ret2
   exact⟨rfl,hb'⟩
 | false=>
   cases h2:g != s with
   | true=>
     have hb:(k != 0&&g==s)=false:=by
      have h2':(g==s)=false:=by simpa[bne]using h2
      rw[h2',Bool.and_false]
     have hb2:(g==s)=false:=by simpa[bne]using h2
     rw[hb];clear hb;go_enter func134,ntmps134
     go_wp2_with (go_at_call 174;refine(jS s _ hs HG.out).mono ?_;rw[HK.out];rintro e w' ⟨rfl,hb'⟩)
     go_ret2
     exact⟨rfl,hb'⟩
   | false=>
     have hgs:g=s:=by simpa using h2
     subst hgs;have hb:(k != 0&&g==g)=true:=by simpa using h1
     rw[hb];clear hb h2;go_enter func134,ntmps134
     go_wp2_with (go_at_call 174;refine(jS g _ hs HG.out).mono ?_;rw[HK.out];rintro e w' ⟨rfl,hb'⟩)
     go_ret2
     exact⟨rfl,hb'⟩
theorem cO(s:List UInt8)(w:World)(hs:s.length≤1000000000)(hg:GV w) :
 Calls prog 86 #[strV s] w (zq w (zX s)):=by
 obtain⟨k,g,hkg⟩:∃k g,tokF s=(k,g):=⟨_,_,rfl⟩
 have HK:=Hd hkg;have hB:zX s=(k==1&&g==s):=by rw[rC,HK.out]
 rw[hB];clear hkg hB
 have hc:∀W,GV W→Calls prog 134 #[strV s] W fun e w'=>e=.returned (.tuple #[.int .u8 (if k != 0&&g==s then k else 0),intV (if k != 0&&g==s then 0 else 4)])∧Below W.heap.size W w':=fun W h=>by
  have:=tU s W hs h;rw[HK.out]at this;exact this
 have HC:=Hd hc;have HG:=Hd hg;clear hc hg;obtain⟨b,hb⟩:∃b,(k != 0&&g==s)=b:=⟨_,rfl⟩
 cases b with
 | true=>
   obtain⟨h1,h2⟩:=Bool.and_eq_true _ _▸hb;rw[h2,Bool.and_true];have HB:=Hd hb;clear hb h1 h2;go_enter func86,ntmps86
   go_wp2_with (go_at_call 134;refine(HC.out _ HG.out).mono ?_;rw[HB.out];rintro e w' ⟨rfl,hb'⟩)
   go_ret;exact⟨rfl,hb'⟩
 | false=>
   have hf:(k==1&&g==s)=false:=by
    cases hg:g==s with
    |false=>simp
    |true=>rw[hg]at hb;simp at hb;subst hb;rfl
   rw[hf];have HB:=Hd hb;clear hb hf;go_enter func86,ntmps86
   go_wp2_with (go_at_call 134;refine(HC.out _ HG.out).mono ?_;rw[HB.out];rintro e w' ⟨rfl,hb'⟩)
   go_ret;exact⟨rfl,hb'⟩
theorem zu(n lo hi:Int)(w:World):Calls prog 94 #[intV n,intV lo,intV hi] w fun e w'=>e=.returned (.bool (zv n lo hi))∧w=w':=by
 go_enter func94,ntmps94;go_wp2
 all_goals
  go_ret;refine⟨zb ?_,rfl⟩
  (try simp_all[zv])<;>(try omega)
theorem tI(n:Int)(w:World):Calls prog 256 #[.int .u8 n] w fun e w'=>e=.returned (.bool (bB n))∧w=w':=by
 go_enter func256,ntmps256;go_wp2
 all_goals
  go_ret;refine⟨zb ?_,rfl⟩
  (try simp_all[bB])<;>(try omega)
theorem tK(n:Int)(w:World):Calls prog 260 #[.int .u8 n] w fun e w'=>e=.returned (.bool (fT n))∧w=w':=by
 go_enter func260,ntmps260;go_wp2
 all_goals
  go_ret;refine⟨zb ?_,rfl⟩
  (try simp_all[fT])<;>(try omega)
theorem oB(n:Int)(w:World):Calls prog 145 #[.int .u8 n] w fun e w'=>e=.returned (.bool (cH n))∧w=w':=by
 go_enter func145,ntmps145;go_wp2
 all_goals
  go_ret;refine⟨zb ?_,rfl⟩
  (try simp_all[cH])<;>(try omega)
theorem yA(n:Int)(w:World):Calls prog 259 #[.int .u8 n] w fun e w'=>e=.returned (.bool (n==25))∧w=w':=by
 go_enter func259,ntmps259;go_wp2
 all_goals
  go_ret;refine⟨zb ?_,rfl⟩
  (try simp_all[])<;>(try omega)
theorem xZ(n:Int)(w:World):Calls prog 261 #[.int .u8 n] w fun e w'=>e=.returned (.bool (n==1))∧w=w':=by
 go_enter func261,ntmps261;go_wp2
 all_goals
  go_ret;refine⟨zb ?_,rfl⟩
  (try simp_all[])<;>(try omega)
theorem qO(n:Int)(w:World):Calls prog 262 #[.int .u8 n] w fun e w'=>e=.returned (.bool (n==34))∧w=w':=by
 go_enter func262,ntmps262;go_wp2
 all_goals
  go_ret;refine⟨zb ?_,rfl⟩
  (try simp_all[])<;>(try omega)
theorem fF(v:TreeV)(t:Tr)(w:World)(bd:Bd t) :
 Calls prog 98 #[v.val t] w (zq w (decide (800<t.nodes.length∨60<t.items.length))):=by
 have hn:=bd.n;have hi:=bd.i;clear bd;unfold TreeV.val;by_cases h1:800<t.nodes.length
 ·go_enter func98,ntmps98
  go_wp2;go_ret;exact⟨zb (by simp[h1]),brf.alloc nlr _⟩
 ·go_enter func98,ntmps98
  go_wp2;go_ret;refine⟨zb ?_,brf.alloc nlr _⟩;rw[Bool.eq_iff_iff];simp;omega
def PK.F:PK→Nat
 |.expr=>256
 |.kind=>260
 |.param=>262
 |.put=>259
 |.num=>261
def PK.V(p:PK):Value:=.func (.func p.F) #[] #[]
def sN(p:Part):List Value:=[intV p.1,intV p.2.1,p.2.2.V]
def iR:List Part→List Value
 | []=>[]
 |p::r=>sN p++iR r
theorem lV:∀l:List Part,(iR l).length=l.length*3
 | []=>rfl
 |p::r=>by simp[iR,sN,lV r];omega
abbrev Parts(w:World)(a:Option Addr)(c:Nat)(l:List Part):Prop:=Row 3 w a l.length c (iR l)
def FP(s:Shape)(a:Option Addr)(c:Nat):Value:=.agg #[.bool s.named,intV s.lo,intV s.hi,.slice a s.parts.length c]
def zG(w:World)(o:Option Shape)(e:Ending)(w':World):Prop:=
 match o with
 |none=>∃a n c,e=.returned (.tuple #[.agg #[.bool false,intV 0,intV 0,.slice a n c],.bool false])∧Below w.heap.size w w'
 |some s=>∃a c,e=.returned (.tuple #[FP s a c,.bool true])∧Parts w' a c s.parts∧Below w.heap.size w w'
end
end Go.Proofs.YtokdgiphdnjeoaaGreatDoor
