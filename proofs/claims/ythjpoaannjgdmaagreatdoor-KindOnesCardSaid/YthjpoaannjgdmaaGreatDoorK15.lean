/- Part of a proof. -/
import Derived.Test.YthjpoaannjgdmaaGreatDoorK11
import Derived.Test.YthjpoaannjgdmaaGreatDoorK14
set_option maxRecDepth 100000
set_option maxHeartbeats 8000000
set_option linter.unusedVariables false
set_option linter.unusedSimpArgs false
open Go.Proofs.Tryz
namespace Go.Proofs.YthjpoaannjgdmaaGreatDoor
section
open Go.RowKit
theorem vA(s:List UInt8)(w:World)(hs:s.length<=1000000000)(hg:GV w) :
 Calls prog 55 #[strV s] w fun e w'=>e=.returned (.tuple #[.int .u8 (if (tokF s).1 != 0&&(tokF s).2==s then (tokF s).1 else 0),intV (if (tokF s).1 != 0&&(tokF s).2==s then 0 else 4)])/\Below w.heap.size w w':=by
 obtain⟨k,g,hc⟩:∃k g,tokF s=(k,g):=⟨_,_,rfl⟩
 have HK:=Hd hc;have HG:=Hd hg;rw[hc];clear hc hg;simp only
 cases h1:k==0 with
 | true=>
   have h0:k=0:=by simpa using h1
   have hb:(k != 0&&g==s)=false:=by rw[h0];rfl
   rw[hb];clear hb h0;go_enter func55,ntmps55
   go_wp2_with (go_at_call 65;refine(kF s _ hs HG.o).mono ?_;rw[HK.o];rintro e w' ⟨rfl,ha⟩)
   go_ret2
   exact⟨rfl,ha⟩
 | false=>
   cases h2:g != s with
   | true=>
     have hb:(k != 0&&g==s)=false:=by
      have hd:(g==s)=false:=by simpa[bne]using h2
      rw[hd,Bool.and_false]
     have hf:(g==s)=false:=by simpa[bne]using h2
     rw[hb];clear hb;go_enter func55,ntmps55
     go_wp2_with (go_at_call 65;refine(kF s _ hs HG.o).mono ?_;rw[HK.o];rintro e w' ⟨rfl,ha⟩)
     go_ret2
     exact⟨rfl,ha⟩
   | false=>
     have he:g=s:=by simpa using h2
     subst he;have hb:(k != 0&&g==g)=true:=by simpa using h1
     rw[hb];clear hb h2;go_enter func55,ntmps55
     go_wp2_with (go_at_call 65;refine(kF g _ hs HG.o).mono ?_;rw[HK.o];rintro e w' ⟨rfl,ha⟩)
     go_ret2
     exact⟨rfl,ha⟩
theorem cJ(s:List UInt8)(w:World)(hs:s.length<=1000000000)(hg:GV w) :
 Calls prog 36 #[strV s] w (zL w (zI s)):=by
 obtain⟨k,g,hd⟩:∃k g,tokF s=(k,g):=⟨_,_,rfl⟩
 have HK:=Hd hd;have hB:zI s=(k==1&&g==s):=by rw[EL,HK.o]
 rw[hB];clear hd hB
 have hc:∀W,GV W->Calls prog 55 #[strV s] W fun e w'=>e=.returned (.tuple #[.int .u8 (if k != 0&&g==s then k else 0),intV (if k != 0&&g==s then 0 else 4)])/\Below W.heap.size W w':=fun W h=>by
  have:=vA s W hs h;rw[HK.o]at this;exact this
 have HC:=Hd hc;have HG:=Hd hg;clear hc hg;obtain⟨b,hb⟩:∃b,(k != 0&&g==s)=b:=⟨_,rfl⟩
 cases b with
 | true=>
   obtain⟨h1,h2⟩:=Bool.and_eq_true _ _▸hb;rw[h2,Bool.and_true];have HB:=Hd hb;clear hb h1 h2;go_enter func36,ntmps36
   go_wp2_with (go_at_call 55;refine(HC.o _ HG.o).mono ?_;rw[HB.o];rintro e w' ⟨rfl,ha⟩)
   go_ret;exact⟨rfl,ha⟩
 | false=>
   have hf:(k==1&&g==s)=false:=by
    cases hg:g==s with
    |false=>simp
    |true=>rw[hg]at hb;simp at hb;subst hb;rfl
   rw[hf];have HB:=Hd hb;clear hb hf;go_enter func36,ntmps36
   go_wp2_with (go_at_call 55;refine(HC.o _ HG.o).mono ?_;rw[HB.o];rintro e w' ⟨rfl,ha⟩)
   go_ret;exact⟨rfl,ha⟩
theorem zy(n lo hi:Int)(w:World):Calls prog 111 #[intV n,intV lo,intV hi] w fun e w'=>e=.returned (.bool (zv n lo hi))/\w=w':=by
 go_enter func111,ntmps111;go_wp2
 all_goals
  go_ret;refine⟨ze ?_,rfl⟩
  (try simp_all[zv])<;>(try omega)
theorem uR(n:Int)(w:World):Calls prog 182 #[.int .u8 n] w fun e w'=>e=.returned (.bool (zn n))/\w=w':=by
 go_enter func182,ntmps182;go_wp2
 all_goals
  go_ret;refine⟨ze ?_,rfl⟩
  (try simp_all[zn])<;>(try omega)
theorem uT(n:Int)(w:World):Calls prog 186 #[.int .u8 n] w fun e w'=>e=.returned (.bool (cH n))/\w=w':=by
 go_enter func186,ntmps186;go_wp2
 all_goals
  go_ret;refine⟨ze ?_,rfl⟩
  (try simp_all[cH])<;>(try omega)
theorem FN(n:Int)(w:World):Calls prog 151 #[.int .u8 n] w fun e w'=>e=.returned (.bool (cS n))/\w=w':=by
 go_enter func151,ntmps151;go_wp2
 all_goals
  go_ret;refine⟨ze ?_,rfl⟩
  (try simp_all[cS])<;>(try omega)
theorem BE(n:Int)(w:World):Calls prog 185 #[.int .u8 n] w fun e w'=>e=.returned (.bool (n==25))/\w=w':=by
 go_enter func185,ntmps185;go_wp2
 all_goals
  go_ret;refine⟨ze ?_,rfl⟩
  (try simp_all[])<;>(try omega)
theorem BC(n:Int)(w:World):Calls prog 187 #[.int .u8 n] w fun e w'=>e=.returned (.bool (n==1))/\w=w':=by
 go_enter func187,ntmps187;go_wp2
 all_goals
  go_ret;refine⟨ze ?_,rfl⟩
  (try simp_all[])<;>(try omega)
theorem rW(n:Int)(w:World):Calls prog 188 #[.int .u8 n] w fun e w'=>e=.returned (.bool (n==34))/\w=w':=by
 go_enter func188,ntmps188;go_wp2
 all_goals
  go_ret;refine⟨ze ?_,rfl⟩
  (try simp_all[])<;>(try omega)
theorem gS(v:TreeV)(t:Tr)(w:World)(bd:Bd t) :
 Calls prog 44 #[v.val t] w (zL w (decide (800<t.nodes.length\/60<t.items.length))):=by
 have hn:=bd.n;have hi:=bd.i;clear bd;unfold TreeV.val;by_cases h1:800<t.nodes.length
 .go_enter func44,ntmps44
  go_wp2;go_ret;exact⟨ze (by simp[h1]),brf.alloc nlr _⟩
 .go_enter func44,ntmps44
  go_wp2;go_ret;refine⟨ze ?_,brf.alloc nlr _⟩;rw[Bool.eq_iff_iff];simp;omega
def PK.F:PK->Nat
 |.expr=>182
 |.kind=>186
 |.param=>188
 |.put=>185
 |.num=>187
def PK.V(p:PK):Value:=.func (.func p.F) #[] #[]
def tU(p:Part):List Value:=[intV p.1,intV p.2.1,p.2.2.V]
def iV:List Part->List Value
 | []=>[]
 |p::r=>tU p++iV r
theorem mL:∀l:List Part,(iV l).length=l.length*3
 | []=>rfl
 |p::r=>by simp[iV,tU,mL r];omega
abbrev Parts(w:World)(a:Option Addr)(c:Nat)(l:List Part):Prop:=Row 3 w a l.length c (iV l)
def KA(s:Shape)(a:Option Addr)(c:Nat):Value:=.agg #[.bool s.named,intV s.lo,intV s.hi,.slice a s.parts.length c]
def zK(w:World)(o:Option Shape)(e:Ending)(w':World):Prop:=
 match o with
 |none=>∃a n c,e=.returned (.tuple #[.agg #[.bool false,intV 0,intV 0,.slice a n c],.bool false])/\Below w.heap.size w w'
 |some s=>∃a c,e=.returned (.tuple #[KA s a c,.bool true])/\Parts w' a c s.parts/\Below w.heap.size w w'
end
end Go.Proofs.YthjpoaannjgdmaaGreatDoor
