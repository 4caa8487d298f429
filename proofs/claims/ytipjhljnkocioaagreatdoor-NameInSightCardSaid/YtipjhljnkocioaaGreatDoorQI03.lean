/- Part of a proof. -/
import Derived.Test.YtipjhljnkocioaaGreatDoorP10
import Derived.Test.YtipjhljnkocioaaGreatDoorQI02
set_option maxRecDepth 100000
set_option maxHeartbeats 8000000
set_option linter.unusedVariables false
set_option linter.unusedSimpArgs false
open Go.Proofs.Tryz
namespace Go.Proofs.YtipjhljnkocioaaGreatDoor
section
open Go Go.RowKit
theorem MD(a:Option Addr)(c:Nat)(l:List Int)(n:Int)(w:World)(hm:l.length≤140737488355328)(h:Ints w a c l) :
 Calls prog 44 #[.slice a l.length c,intV n] w fun e w'=>e=.returned (.bool (hasI l n))∧w=w':=by
 have HR:=Hd h;clear h;go_enter func44,ntmps44;go_wp2
 go_loop [5] (fun i=>∃k:Nat,k≤l.length∧i=.int .i64 k∧Hid (hasI (l.take k) n=false)) (fun i=>l.length-(intOf i).toNat)
 case atStart=>exact⟨0,Nat.zero_le _,rfl,Hd rfl⟩
 case round=>
  obtain⟨k,hk,rfl,HA⟩:=hrel;by_cases hlt:k<l.length
  ·obtain⟨b,o,rfl,hb,hc⟩:=HR.out.at hlt
   have HS:=Hd (LT (n:=n) hlt);by_cases he:l[k]=n
   ·have he':(l[k]==n)=true:=by simpa using he
    go_wp2;go_ret;have:=ML hlt;rw[he]at this;exact⟨za this.symm,rfl⟩
   ·have he':(l[k]==n)=false:=by simpa using he
    go_wp2
    go_round
    case rel=>exact⟨k+1,by omega,by go_num,Hd (by rw[HS.out,HA.out];simpa using fun h=>he h.symm)⟩
    case measure=>simp[intOf];omega
  ·go_wp2
   go_ret;refine⟨za ?_,rfl⟩;have:=HA.out;rw[List.take_of_length_le (by omega)]at this;exact this.symm
theorem LQ(n d:Int)(w:World) :
 Calls prog 38 #[.int .u8 n,.int .u8 d] w fun e w'=>e=.returned (.bool (oT n d))∧w=w':=by
 go_enter func38,ntmps38;go_wp2
 all_goals
  go_ret;refine⟨za ?_,rfl⟩;simp_all[oT]
theorem LX(n:Int)(w:World) :
 Calls prog 43 #[.int .u8 n] w fun e w'=>e=.returned (.bool (zZ n))∧w=w':=by
 go_enter func43,ntmps43;go_wp2
 all_goals
  go_ret;refine⟨za ?_,rfl⟩
  (try simp_all[zZ])<;>(try omega)
end
end Go.Proofs.YtipjhljnkocioaaGreatDoor
