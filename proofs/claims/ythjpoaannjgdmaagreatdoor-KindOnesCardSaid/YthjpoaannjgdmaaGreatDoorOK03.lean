/- Part of a proof. -/
import Derived.Test.YthjpoaannjgdmaaGreatDoorRows
import Derived.Test.YthjpoaannjgdmaaGreatDoorK35
import Derived.Test.YthjpoaannjgdmaaGreatDoorOK01
set_option maxRecDepth 100000
set_option maxHeartbeats 8000000
set_option linter.unusedVariables false
set_option linter.unusedSimpArgs false
open Go.Proofs.Tryz
namespace Go.Proofs.YthjpoaannjgdmaaGreatDoor
section
open Go Go.ChangeShapes Go.WideShapes Go.ChangeAt Go.RowKit
theorem SZ: "*" ++ "errors.errorString" = "*errors.errorString" := by decide
theorem TX(u:TypeId)(h:prog.typeName? 3 u=some "*errors.errorString"):u=216:=
 typeName_ptr_named (nm := "errors.errorString") (by rw[SZ];kernel_rfl) (by kernel_rfl) (by decide) u (by rw[SZ];exact h)
theorem TA{W:World}{n:String}{g:Nat}{text:List UInt8}{r l:List (String×DataW Unit)}(k:Nat)(hp:(l.all fun x=>x.2.handleName?.isNone)=true)(h:laidMetH prog l W)(hd:l.drop k=(n,.iface "*errors.errorString" (.ptr (.agg [.lit (.string text)])))::r)
 (hg:prog.globalNamed n=some g)(ht:(prog.globals[g]?).map (·.type)=some 97):∃tp p,W.var? prog n=some #[.iface tp p]:=by
 rw[MakeChecks.laidMetH_plain _ _ _ hp]at h;have h6:=ST k l h;rw[hd]at h6;obtain⟨a,s,hv,-⟩:=laid_sentinel h6 hg ht underlying97 TX underlying216 underlying218 rfl rfl underlying9 (by kernel_rfl) (by kernel_rfl);exact⟨_,_,hv⟩
theorem SX{W:World}{l r3 r4:List (String×DataW Unit)}{x3 x4:List UInt8}(hp:(l.all fun x=>x.2.handleName?.isNone)=true)(h:laidMetH prog l W)(h3:l.drop 3=("strconv.ErrRange",.iface "*errors.errorString" (.ptr (.agg [.lit (.string x3)])))::r3)
 (h4:l.drop 4=("strconv.ErrSyntax",.iface "*errors.errorString" (.ptr (.agg [.lit (.string x4)])))::r4)(hd:l.drop 6=[("strings.asciiSpace",Lib.tabData .u8 Lib.asciiSpaceTab)]):GVK W:=
 ⟨TB 6 hp hd h,TA (g:=1) 4 hp h h4 (by kernel_rfl) (by kernel_rfl),TA (g:=2) 3 hp h h3 (by kernel_rfl) (by kernel_rfl)⟩
end
end Go.Proofs.YthjpoaannjgdmaaGreatDoor
