/- Part of a proof. -/
import Derived.Test.YtokdgiphdnjeoaaGreatDoorDA01
import Derived.Test.YtokdgiphdnjeoaaGreatDoorQ10
set_option maxRecDepth 100000
set_option maxHeartbeats 8000000
set_option linter.unusedVariables false
set_option linter.unusedSimpArgs false
open Go.Proofs.Tryz
namespace Go.Proofs.YtokdgiphdnjeoaaGreatDoor
section
open Go Go.RowKit
theorem PP(a:Option Addr)(c:Nat)(l:List Int)(n:Int)(w:World)(hm:l.length≤140737488355328)(h:Ints w a c l) :
 Calls prog 54 #[.slice a l.length c,intV n] w fun e w'=>e=.returned (.bool (hasI l n))∧w=w':=by
 have HR:=Hd h;clear h;go_enter func54,ntmps54;go_wp2
 go_loop [5] (fun i=>∃k:Nat,k≤l.length∧i=.int .i64 k∧Hid (hasI (l.take k) n=false)) (fun i=>l.length-(intOf i).toNat)
 case atStart=>exact⟨0,Nat.zero_le _,rfl,Hd rfl⟩
 case round=>
  obtain⟨k,hk,rfl,HA⟩:=hrel;by_cases hlt:k<l.length
  ·obtain⟨b,o,rfl,hb,hc⟩:=HR.out.at hlt
   have HS:=Hd (PJ (n:=n) hlt);by_cases he:l[k]=n
   ·have he':(l[k]==n)=true:=by simpa using he
    go_wp2;go_ret;have:=QB hlt;rw[he]at this;exact⟨zb this.symm,rfl⟩
   ·have he':(l[k]==n)=false:=by simpa using he
    go_wp2
    go_round
    case rel=>exact⟨k+1,by omega,by go_num,Hd (by rw[HS.out,HA.out];simpa using fun h=>he h.symm)⟩
    case measure=>simp[intOf];omega
  ·go_wp2
   go_ret;refine⟨zb ?_,rfl⟩;have:=HA.out;rw[List.take_of_length_le (by omega)]at this;exact this.symm
theorem PZ(a a':Option Addr)(c c':Nat)(l l':List Int)(w:World)(hm:l.length≤140737488355328)(hm':l'.length≤140737488355328)(h:Ints w a c l)(h':Ints w a' c' l') :
 Calls prog 56 #[.slice a l.length c,.slice a' l'.length c'] w (zq w (l==l')):=by
 have HR:=Hd h;have HR':=Hd h';clear h h';by_cases hl:l.length=l'.length
 ·have HL:=Hd hl
  have hl1:((l.length:Int)==(l'.length:Int))=true:=by simp[hl]
  have hl2:((l.length:Int) != (l'.length:Int))=false:=by simp[hl]
  clear hl;go_enter func56,ntmps56;go_wp2
  go_loopw [5] (fun i wr=>∃k:Nat,k≤l.length∧i=.int .i64 k∧Hid (l.take k=l'.take k)∧Hid (Below w.heap.size w wr)) (fun i _=>l.length-(intOf i).toNat)
  case atStart=>exact⟨0,Nat.zero_le _,rfl,Hd rfl,Hd brf⟩
  case round=>
   obtain⟨k,hk,rfl,HA,HB⟩:=hrel;have HR1:=Hd (Row.mono HR.out HB.out nlr);have HR1':=Hd (Row.mono HR'.out HB.out nlr);by_cases hlt:k<l.length
   ·obtain⟨b,o,rfl,hb,hc⟩:=Ints.at HR1.out hlt
    obtain⟨b',o',rfl,hb',hc'⟩:=Ints.at HR1'.out (i:=k) (by have:=HL.out;omega);have hlt':k<l'.length:=by have:=HL.out;omega
    by_cases he:l[k]=l'[k]
    ·have he1:(l[k] != l'[k])=false:=by simp[he]
     have HS:=Hd (vF HL.out hlt HA.out he);clear he;go_wp2
     go_quiet (fail)
     go_wp2
     go_roundw
     case rel=>exact⟨k+1,by omega,by go_num,HS,Hd (below_drewN HB.out _)⟩
     case measure=>simp[intOf];omega
    ·have he1:(l[k] != l'[k])=true:=by simp[he]
     have HE:=Hd he;clear he;go_wp2
     go_quiet (fail)
     go_wp2;go_ret;exact⟨zb (FO hlt hlt' HE.out).symm,below_drewN HB.out _⟩
   ·go_wp2
    go_ret;refine⟨zb ?_,HB.out⟩;have h1:=HA.out;rw[List.take_of_length_le (by omega),List.take_of_length_le (by have:=HL.out;omega)]at h1;rw[h1];simp
 ·have hl1:((l.length:Int) != (l'.length:Int))=true:=by simp;omega
  have HL:=Hd hl;clear hl;go_enter func56,ntmps56;go_wp2;go_ret;refine⟨zb ?_,brf⟩;symm;rw[beq_eq_false_iff_ne];rintro rfl;exact HL.out rfl
end
end Go.Proofs.YtokdgiphdnjeoaaGreatDoor
