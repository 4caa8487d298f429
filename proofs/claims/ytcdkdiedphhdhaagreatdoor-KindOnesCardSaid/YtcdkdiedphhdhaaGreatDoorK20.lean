/- Part of a proof. -/
import Derived.Test.YtcdkdiedphhdhaaGreatDoorK17
set_option maxRecDepth 100000
set_option maxHeartbeats 8000000
set_option linter.unusedVariables false
set_option linter.unusedSimpArgs false
open Go.Proofs.Tryz
namespace Go.Proofs.YtcdkdiedphhdhaaGreatDoor
section
open Go.RowKit
theorem GA(d:Nd)(ka:Option Addr)(kc:Nat)(w:World)(hk:d.kind=40):Calls prog 153 #[ndV d ka kc] w (zJ w (some ⟨true,0,0,[(2,2,.num)]⟩)):=by
 unfold ndV;rw[hk];clear hk;go_enter func153,ntmps153;go_wp2
 go_returns
 exact⟨_,_,rfl,row3 (by simp) (by go_simp) (by go_simp) (by go_simp;rfl),by go_grown⟩
theorem GB(d:Nd)(ka:Option Addr)(kc:Nat)(w:World)(hk:d.kind=41):Calls prog 153 #[ndV d ka kc] w (zJ w (some ⟨true,0,0,[(1,801,.param)]⟩)):=by
 unfold ndV;rw[hk];clear hk;go_enter func153,ntmps153;go_wp2
 go_returns
 exact⟨_,_,rfl,row3 (by simp) (by go_simp) (by go_simp) (by go_simp;rfl),by go_grown⟩
theorem yB(d:Nd)(ka:Option Addr)(kc:Nat)(w:World)(hk:d.kind=46)(hn:d.n=7):Calls prog 153 #[ndV d ka kc] w (zJ w (some ⟨false,1,8,[]⟩)):=by
 unfold ndV;rw[hk];clear hk;rw[hn];clear hn;go_enter func153,ntmps153;go_wp2
 go_returns
 exact⟨none,0,rfl,⟨rfl,nlr,fun _=>rfl,.inl rfl⟩,by go_grown⟩
theorem yC(d:Nd)(ka:Option Addr)(kc:Nat)(w:World)(hk:d.kind=46)(hn:d.n=8):Calls prog 153 #[ndV d ka kc] w (zJ w (some ⟨false,1,8,[(1,801,.expr)]⟩)):=by
 unfold ndV;rw[hk];clear hk;rw[hn];clear hn;go_enter func153,ntmps153;go_wp2
 go_returns
 exact⟨_,_,rfl,row3 (by simp) (by go_simp) (by go_simp) (by go_simp;rfl),by go_grown⟩
theorem GH(d:Nd)(ka:Option Addr)(kc:Nat)(w:World)(hk:d.kind=46)(h7:d.n≠7)(h8:d.n≠8):Calls prog 153 #[ndV d ka kc] w (zJ w (some ⟨false,1,8,[(1,1,.expr)]⟩)):=by
 unfold ndV;rw[hk];clear hk;have e7:(d.n==7)=false:=by simpa using h7
 have e8:(d.n==8)=false:=by simpa using h8
 clear h7 h8;go_enter func153,ntmps153;go_wp2
 go_returns
 exact⟨_,_,rfl,row3 (by simp) (by go_simp) (by go_simp) (by go_simp;rfl),by go_grown⟩
end
end Go.Proofs.YtcdkdiedphhdhaaGreatDoor
