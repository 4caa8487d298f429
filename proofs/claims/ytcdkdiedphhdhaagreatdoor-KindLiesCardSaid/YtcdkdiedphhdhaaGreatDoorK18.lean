/- Part of a proof. -/
import Derived.Test.YtcdkdiedphhdhaaGreatDoorK17
set_option maxRecDepth 100000
set_option maxHeartbeats 8000000
set_option linter.unusedVariables false
set_option linter.unusedSimpArgs false
open Go.Proofs.Tryz
namespace Go.Proofs.YtcdkdiedphhdhaaGreatDoor
section
open Go.RowKit
theorem LK(d:Nd)(ka:Option Addr)(kc:Nat)(w:World)(hk:d.kind=4):Calls prog 153 #[ndV d ka kc] w (zJ w (some ⟨false,0,0,[(1,1,.expr)]⟩)):=by
 unfold ndV;rw[hk];clear hk;go_enter func153,ntmps153;go_wp2
 go_returns
 exact⟨_,_,rfl,row3 (by simp) (by go_simp) (by go_simp) (by go_simp;rfl),by go_grown⟩
theorem LL(d:Nd)(ka:Option Addr)(kc:Nat)(w:World)(hk:d.kind=5):Calls prog 153 #[ndV d ka kc] w (zJ w (some ⟨false,0,0,[(1,1,.expr)]⟩)):=by
 unfold ndV;rw[hk];clear hk;go_enter func153,ntmps153;go_wp2
 go_returns
 exact⟨_,_,rfl,row3 (by simp) (by go_simp) (by go_simp) (by go_simp;rfl),by go_grown⟩
theorem FN(d:Nd)(ka:Option Addr)(kc:Nat)(w:World)(hk:d.kind=19):Calls prog 153 #[ndV d ka kc] w (zJ w (some ⟨false,0,0,[(3,3,.expr)]⟩)):=by
 unfold ndV;rw[hk];clear hk;go_enter func153,ntmps153;go_wp2
 go_returns
 exact⟨_,_,rfl,row3 (by simp) (by go_simp) (by go_simp) (by go_simp;rfl),by go_grown⟩
theorem FO(d:Nd)(ka:Option Addr)(kc:Nat)(w:World)(hk:d.kind=20):Calls prog 153 #[ndV d ka kc] w (zJ w (some ⟨true,0,0,[(2,2,.expr)]⟩)):=by
 unfold ndV;rw[hk];clear hk;go_enter func153,ntmps153;go_wp2
 go_returns
 exact⟨_,_,rfl,row3 (by simp) (by go_simp) (by go_simp) (by go_simp;rfl),by go_grown⟩
theorem FP(d:Nd)(ka:Option Addr)(kc:Nat)(w:World)(hk:d.kind=21):Calls prog 153 #[ndV d ka kc] w (zJ w (some ⟨true,0,0,[(0,801,.expr)]⟩)):=by
 unfold ndV;rw[hk];clear hk;go_enter func153,ntmps153;go_wp2
 go_returns
 exact⟨_,_,rfl,row3 (by simp) (by go_simp) (by go_simp) (by go_simp;rfl),by go_grown⟩
theorem FQ(d:Nd)(ka:Option Addr)(kc:Nat)(w:World)(hk:d.kind=22):Calls prog 153 #[ndV d ka kc] w (zJ w (some ⟨true,0,0,[(1,1,.expr)]⟩)):=by
 unfold ndV;rw[hk];clear hk;go_enter func153,ntmps153;go_wp2
 go_returns
 exact⟨_,_,rfl,row3 (by simp) (by go_simp) (by go_simp) (by go_simp;rfl),by go_grown⟩
end
end Go.Proofs.YtcdkdiedphhdhaaGreatDoor
