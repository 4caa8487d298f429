/- Part of a proof. -/
import Derived.Test.YtcdkdiedphhdhaaGreatDoorK17
set_option maxRecDepth 100000
set_option maxHeartbeats 8000000
set_option linter.unusedVariables false
set_option linter.unusedSimpArgs false
open Go.Proofs.Tryz
namespace Go.Proofs.YtcdkdiedphhdhaaGreatDoor
section
open Go.RowKit
theorem FT(d:Nd)(ka:Option Addr)(kc:Nat)(w:World)(hk:d.kind=25):Calls prog 153 #[ndV d ka kc] w (zJ w (some ⟨true,0,0,[(1,1,.expr)]⟩)):=by
 unfold ndV;rw[hk];clear hk;go_enter func153,ntmps153;go_wp2
 go_returns
 exact⟨_,_,rfl,row3 (by simp) (by go_simp) (by go_simp) (by go_simp;rfl),by go_grown⟩
theorem GD(d:Nd)(ka:Option Addr)(kc:Nat)(w:World)(hk:d.kind=43):Calls prog 153 #[ndV d ka kc] w (zJ w (some ⟨true,0,0,[(1,1,.expr)]⟩)):=by
 unfold ndV;rw[hk];clear hk;go_enter func153,ntmps153;go_wp2
 go_returns
 exact⟨_,_,rfl,row3 (by simp) (by go_simp) (by go_simp) (by go_simp;rfl),by go_grown⟩
theorem GE(d:Nd)(ka:Option Addr)(kc:Nat)(w:World)(hk:d.kind=44):Calls prog 153 #[ndV d ka kc] w (zJ w (some ⟨true,0,0,[(1,1,.expr)]⟩)):=by
 unfold ndV;rw[hk];clear hk;go_enter func153,ntmps153;go_wp2
 go_returns
 exact⟨_,_,rfl,row3 (by simp) (by go_simp) (by go_simp) (by go_simp;rfl),by go_grown⟩
theorem FU(d:Nd)(ka:Option Addr)(kc:Nat)(w:World)(hk:d.kind=26):Calls prog 153 #[ndV d ka kc] w (zJ w (some ⟨false,0,0,[(1,801,.expr)]⟩)):=by
 unfold ndV;rw[hk];clear hk;go_enter func153,ntmps153;go_wp2
 go_returns
 exact⟨_,_,rfl,row3 (by simp) (by go_simp) (by go_simp) (by go_simp;rfl),by go_grown⟩
theorem FY(d:Nd)(ka:Option Addr)(kc:Nat)(w:World)(hk:d.kind=33):Calls prog 153 #[ndV d ka kc] w (zJ w (some ⟨false,-9223372036854775808,9223372036854775807,[(1,1,.kind)]⟩)):=by
 unfold ndV;rw[hk];clear hk;go_enter func153,ntmps153;go_wp2
 go_returns
 exact⟨_,_,rfl,row3 (by simp) (by go_simp) (by go_simp) (by go_simp;rfl),by go_grown⟩
theorem FZ(d:Nd)(ka:Option Addr)(kc:Nat)(w:World)(hk:d.kind=34):Calls prog 153 #[ndV d ka kc] w (zJ w (some ⟨true,0,0,[(1,1,.kind)]⟩)):=by
 unfold ndV;rw[hk];clear hk;go_enter func153,ntmps153;go_wp2
 go_returns
 exact⟨_,_,rfl,row3 (by simp) (by go_simp) (by go_simp) (by go_simp;rfl),by go_grown⟩
end
end Go.Proofs.YtcdkdiedphhdhaaGreatDoor
