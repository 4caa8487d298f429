/- Part of a proof. -/
import Derived.Test.YtcdkdiedphhdhaaGreatDoorRows
import Derived.Test.YtcdkdiedphhdhaaGreatDoorK39
import Derived.Test.YtcdkdiedphhdhaaGreatDoorLK01
set_option maxRecDepth 100000
set_option maxHeartbeats 8000000
set_option linter.unusedVariables false
set_option linter.unusedSimpArgs false
open Go.Proofs.Tryz
namespace Go.Proofs.YtcdkdiedphhdhaaGreatDoor
section
open Go Go.ChangeShapes Go.WideShapes Go.ChangeAt Go.RowKit
def TI:String:=String.ofList [Char.ofNat 42] ++ "errors.errorString"
theorem TJ{n:String}(hn:n=TI)(u:TypeId)(h:prog.typeName? 3 u=some n):u=228:=
 typeName_ptr_named (nm := "errors.errorString") (by kernel_rfl) (by kernel_rfl) (by decide) u (h.trans (congrArg some (hn.trans (by decide +kernel))))
theorem SY{W:World}{n en:String}{g:Nat}{text:List UInt8}{r l:List (String×DataW Unit)}(k:Nat)(hp:(l.all fun x=>x.2.handleName?.isNone)=true)(h:laidMetH prog l W)(hd:l.drop k=(n,.iface en (.ptr (.agg [.lit (.string text)])))::r)(he:en=TI)
 (hg:prog.globalNamed n=some g)(ht:(prog.globals[g]?).map (·.type)=some 108):∃tp p,W.var? prog n=some #[.iface tp p]:=by
 rw[MakeChecks.laidMetH_plain _ _ _ hp]at h;have h6:=SQ k l h;rw[hd]at h6;obtain⟨a,s,hv,-⟩:=laid_sentinel h6 hg ht underlying108 (TJ he) underlying228 underlying230 rfl rfl underlying9 (by kernel_rfl) (by kernel_rfl);exact⟨_,_,hv⟩
theorem SV{W:World}{e3 e4:String}{l r3 r4:List (String×DataW Unit)}{x3 x4:List UInt8}(hp:(l.all fun x=>x.2.handleName?.isNone)=true)(h:laidMetH prog l W)(h3:l.drop 3=("strconv.ErrRange",.iface e3 (.ptr (.agg [.lit (.string x3)])))::r3)
 (h4:l.drop 4=("strconv.ErrSyntax",.iface e4 (.ptr (.agg [.lit (.string x4)])))::r4)(he3:e3=TI)(he4:e4=TI)(hd:l.drop 6=[("strings.asciiSpace",Lib.tabData .u8 Lib.asciiSpaceTab)]):GVK W:=
 ⟨TA 6 hp hd h,SY (g:=1) 4 hp h h4 he4 (by kernel_rfl) (by kernel_rfl),SY (g:=2) 3 hp h h3 he3 (by kernel_rfl) (by kernel_rfl)⟩
end
end Go.Proofs.YtcdkdiedphhdhaaGreatDoor
