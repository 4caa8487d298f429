/- Part of a proof. -/
import Derived.Test.YtcdkdiedphhdhaaGreatDoorProg
import Derived.Shelf.Small.Wraps
import Derived.Shelf.Strings.LastIndexAll
import Derived.Shelf.Strconv.Itoa3
import Derived.Shelf.Strconv.AtoiAll
import Derived.Shelf.Strconv.ErrVarAll
import Derived.Shelf.LaysM
set_option maxRecDepth 100000
set_option maxHeartbeats 8000000
set_option linter.unusedVariables false
set_option linter.unusedSimpArgs false
open Go.Proofs.Tryz
namespace Go.Proofs
open Go.Shelf
def Tryz.lays103_ren:Go.Shelf.Ren:=⟨fun|103=>46|210=>70|206=>99|n=>n,fun|9=>9|4=>4|24=>104|3=>3|n=>n,fun|n=>n⟩
theorem Tryz.lays103:Go.Proofs.Lays.n103 prog Tryz.lays103_ren:={
 mixed:=by kernel_rfl
 f103:=func46.trans (congrArg some (by kernel_rfl))
 f206:=func99.trans (congrArg some (by kernel_rfl))
 f210:=func70.trans (congrArg some (by kernel_rfl))
 t3:=underlying3
 a3:=isAgg3
 z3:=sizeOf3
 v3:=zeroValue3
 t4:=underlying4
 a4:=isAgg4
 z4:=sizeOf4
 v4:=zeroValue4
 t9:=underlying9
 a9:=isAgg9
 z9:=sizeOf9
 v9:=zeroValue9
 t24:=underlying104
 a24:=isAgg104
 z24:=sizeOf104
 v24:=zeroValue104 }
open Go.RowKit in
theorem Tryz.strings_CutPrefix (s p:ByteArray) (w:World) :
 Calls prog 46 #[.string s,.string p] w fun e w'=>e=.returned (.tuple #[.string ⟨(Lib.trimPrefix s.data.toList p.data.toList).toArray⟩,.bool (Lib.hasPrefix s.data.toList p.data.toList)])/\w'=w:=Any.strings_CutPrefix Tryz.lays103 s p w
def Tryz.lays104_ren:Go.Shelf.Ren:=⟨fun|104=>47|211=>71|207=>100|n=>n,fun|9=>9|4=>4|24=>104|3=>3|n=>n,fun|n=>n⟩
theorem Tryz.lays104:Go.Proofs.Lays.n104 prog Tryz.lays104_ren:={
 mixed:=by kernel_rfl
 f104:=func47.trans (congrArg some (by kernel_rfl))
 f207:=func100.trans (congrArg some (by kernel_rfl))
 f211:=func71.trans (congrArg some (by kernel_rfl))
 t3:=underlying3
 a3:=isAgg3
 z3:=sizeOf3
 v3:=zeroValue3
 t4:=underlying4
 a4:=isAgg4
 z4:=sizeOf4
 v4:=zeroValue4
 t9:=underlying9
 a9:=isAgg9
 z9:=sizeOf9
 v9:=zeroValue9
 t24:=underlying104
 a24:=isAgg104
 z24:=sizeOf104
 v24:=zeroValue104 }
open Go.RowKit in
theorem Tryz.strings_CutSuffix (s p:ByteArray) (w:World) (hs:s.size<=9223372036854775807) :
 Calls prog 47 #[.string s,.string p] w fun e w'=>e=.returned (.tuple #[.string ⟨(Lib.trimSuffix s.data.toList p.data.toList).toArray⟩,.bool (Lib.hasSuffix s.data.toList p.data.toList)])/\w'=w:=Any.strings_CutSuffix Tryz.lays104 s p w hs
def Tryz.lays171_ren:Go.Shelf.Ren:=⟨fun|171=>50|243=>76|246=>107|283=>147|284=>148|285=>149|286=>150|129=>177|317=>176|318=>178|319=>179|320=>180|337=>207|338=>208|n=>n,fun|3=>3|9=>9|2=>2|4=>4|171=>201|0=>0|53=>194|37=>46|5=>5|173=>204|212=>232|51=>158|20=>20|213=>233|46=>172|232=>260|233=>261|n=>n,fun|17=>3|18=>6|19=>7|n=>n⟩
theorem Tryz.lays171:Go.Proofs.Lays.n171 prog Tryz.lays171_ren:={
 mixed:=by kernel_rfl
 f129:=func177.trans (congrArg some (by kernel_rfl))
 f171:=func50.trans (congrArg some (by kernel_rfl))
 f243:=func76.trans (congrArg some (by kernel_rfl))
 f246:=func107.trans (congrArg some (by kernel_rfl))
 f283:=func147.trans (congrArg some (by kernel_rfl))
 f284:=func148.trans (congrArg some (by kernel_rfl))
 f285:=func149.trans (congrArg some (by kernel_rfl))
 f286:=func150.trans (congrArg some (by kernel_rfl))
 f317:=func176.trans (congrArg some (by kernel_rfl))
 f318:=func178.trans (congrArg some (by kernel_rfl))
 f319:=func179.trans (congrArg some (by kernel_rfl))
 f320:=func180.trans (congrArg some (by kernel_rfl))
 f337:=func207.trans (congrArg some (by kernel_rfl))
 f338:=func208.trans (congrArg some (by kernel_rfl))
 t0:=underlying0
 a0:=isAgg0
 z0:=sizeOf0
 v0:=zeroValue0
 t2:=underlying2
 a2:=isAgg2
 z2:=sizeOf2
 v2:=zeroValue2
 t3:=underlying3
 a3:=isAgg3
 z3:=sizeOf3
 v3:=zeroValue3
 t4:=underlying4
 a4:=isAgg4
 z4:=sizeOf4
 v4:=zeroValue4
 t5:=underlying5
 a5:=isAgg5
 z5:=sizeOf5
 v5:=zeroValue5
 t9:=underlying9
 a9:=isAgg9
 z9:=sizeOf9
 v9:=zeroValue9
 t20:=underlying20
 a20:=isAgg20
 z20:=sizeOf20
 v20:=zeroValue20
 t37:=underlying46
 a37:=isAgg46
 z37:=sizeOf46
 v37:=zeroValue46
 t46:=underlying172
 a46:=isAgg172
 z46:=sizeOf172
 v46:=zeroValue172
 t51:=underlying158
 a51:=isAgg158
 z51:=sizeOf158
 v51:=zeroValue158
 t53:=underlying194
 a53:=isAgg194
 z53:=sizeOf194
 v53:=zeroValue194
 t171:=underlying201
 a171:=isAgg201
 z171:=sizeOf201
 v171:=zeroValue201
 t173:=underlying204
 a173:=isAgg204
 z173:=sizeOf204
 v173:=zeroValue204
 t212:=underlying232
 a212:=isAgg232
 z212:=sizeOf232
 v212:=zeroValue232
 t213:=underlying233
 a213:=isAgg233
 z213:=sizeOf233
 t232:=underlying260
 a232:=isAgg260
 z232:=sizeOf260
 v232:=zeroValue260
 t233:=underlying261
 a233:=isAgg261
 z233:=sizeOf261
 v233:=zeroValue261
 g17:=by kernel_rfl
 g18:=by kernel_rfl
 g19:=by kernel_rfl }
open Go.RowKit Go.Sort Go.Lib in
theorem Tryz.strconv_Itoa_small (i:Nat) (hi:i<100) (w:World) :
 Calls prog 50 #[.int .i64 i] w fun e w'=>e=.returned (.string ⟨(Lib.decDigits i).toArray⟩)/\w'=w:=Any.strconv_Itoa_small Tryz.lays171 i hi w
def Tryz.laysC172_ren:Go.Shelf.Ren:=⟨fun|172=>49|244=>74|245=>75|247=>102|279=>103|280=>104|281=>105|282=>106|287=>144|316=>145|171=>50|205=>146|321=>174|322=>175|243=>76|246=>107|283=>147|284=>148|285=>149|286=>150|129=>177|317=>176|318=>178|319=>179|320=>180|337=>207|338=>208|n=>n,fun|9=>9|3=>3|75=>108|76=>109|4=>4|5=>5|167=>161|37=>46|0=>0|85=>162|2=>2|168=>164|53=>194|175=>195|46=>172|210=>199|127=>227|145=>230|143=>228|21=>21|171=>201|173=>204|212=>232|51=>158|20=>20|213=>233|232=>260|233=>261|80=>278|n=>n,fun|15=>1|16=>2|17=>3|18=>6|19=>7|n=>n⟩
theorem Tryz.laysC172:Go.Proofs.LaysC.n172 prog Tryz.laysC172_ren:={
 mixed:=by kernel_rfl
 f129:=func177.trans (congrArg some (by kernel_rfl))
 f171:=func50.trans (congrArg some (by kernel_rfl))
 f172:=func49.trans (congrArg some (by kernel_rfl))
 f205:=func146.trans (congrArg some (by kernel_rfl))
 f243:=func76.trans (congrArg some (by kernel_rfl))
 f244:=func74.trans (congrArg some (by kernel_rfl))
 f245:=func75.trans (congrArg some (by kernel_rfl))
 f246:=func107.trans (congrArg some (by kernel_rfl))
 f247:=func102.trans (congrArg some (by kernel_rfl))
 f279:=func103.trans (congrArg some (by kernel_rfl))
 f280:=func104.trans (congrArg some (by kernel_rfl))
 f281:=func105.trans (congrArg some (by kernel_rfl))
 f282:=func106.trans (congrArg some (by kernel_rfl))
 f283:=func147.trans (congrArg some (by kernel_rfl))
 f284:=func148.trans (congrArg some (by kernel_rfl))
 f285:=func149.trans (congrArg some (by kernel_rfl))
 f286:=func150.trans (congrArg some (by kernel_rfl))
 f287:=func144.trans (congrArg some (by kernel_rfl))
 f316:=func145.trans (congrArg some (by kernel_rfl))
 f317:=func176.trans (congrArg some (by kernel_rfl))
 f318:=func178.trans (congrArg some (by kernel_rfl))
 f319:=func179.trans (congrArg some (by kernel_rfl))
 f320:=func180.trans (congrArg some (by kernel_rfl))
 f321:=func174.trans (congrArg some (by kernel_rfl))
 f322:=func175.trans (congrArg some (by kernel_rfl))
 f337:=func207.trans (congrArg some (by kernel_rfl))
 f338:=func208.trans (congrArg some (by kernel_rfl))
 t0:=underlying0
 a0:=isAgg0
 z0:=sizeOf0
 v0:=zeroValue0
 t2:=underlying2
 a2:=isAgg2
 z2:=sizeOf2
 v2:=zeroValue2
 t3:=underlying3
 a3:=isAgg3
 z3:=sizeOf3
 v3:=zeroValue3
 t4:=underlying4
 a4:=isAgg4
 z4:=sizeOf4
 v4:=zeroValue4
 t5:=underlying5
 a5:=isAgg5
 z5:=sizeOf5
 v5:=zeroValue5
 t9:=underlying9
 a9:=isAgg9
 z9:=sizeOf9
 v9:=zeroValue9
 t20:=underlying20
 a20:=isAgg20
 z20:=sizeOf20
 v20:=zeroValue20
 t21:=underlying21
 a21:=isAgg21
 z21:=sizeOf21
 v21:=zeroValue21
 t37:=underlying46
 a37:=isAgg46
 z37:=sizeOf46
 v37:=zeroValue46
 t46:=underlying172
 a46:=isAgg172
 z46:=sizeOf172
 v46:=zeroValue172
 t51:=underlying158
 a51:=isAgg158
 z51:=sizeOf158
 v51:=zeroValue158
 t53:=underlying194
 a53:=isAgg194
 z53:=sizeOf194
 v53:=zeroValue194
 t75:=underlying108
 a75:=isAgg108
 z75:=sizeOf108
 v75:=zeroValue108
 t76:=underlying109
 a76:=isAgg109
 z76:=sizeOf109
 v76:=zeroValue109
 t85:=underlying162
 a85:=isAgg162
 z85:=sizeOf162
 v85:=zeroValue162
 t127:=underlying227
 a127:=isAgg227
 z127:=sizeOf227
 v127:=zeroValue227
 t143:=underlying228
 a143:=isAgg228
 z143:=sizeOf228
 v143:=zeroValue228
 t145:=underlying230
 a145:=isAgg230
 z145:=sizeOf230
 v145:=zeroValue230
 t167:=underlying161
 a167:=isAgg161
 z167:=sizeOf161
 v167:=zeroValue161
 t168:=underlying164
 a168:=isAgg164
 z168:=sizeOf164
 v168:=zeroValue164
 t171:=underlying201
 a171:=isAgg201
 z171:=sizeOf201
 v171:=zeroValue201
 t173:=underlying204
 a173:=isAgg204
 z173:=sizeOf204
 v173:=zeroValue204
 t175:=underlying195
 a175:=isAgg195
 z175:=sizeOf195
 v175:=zeroValue195
 t210:=underlying199
 a210:=isAgg199
 z210:=sizeOf199
 v210:=zeroValue199
 t212:=underlying232
 a212:=isAgg232
 z212:=sizeOf232
 v212:=zeroValue232
 t213:=underlying233
 a213:=isAgg233
 z213:=sizeOf233
 t232:=underlying260
 a232:=isAgg260
 z232:=sizeOf260
 v232:=zeroValue260
 t233:=underlying261
 a233:=isAgg261
 z233:=sizeOf261
 v233:=zeroValue261
 g15:=by kernel_rfl
 g16:=by kernel_rfl
 g17:=by kernel_rfl
 g18:=by kernel_rfl
 g19:=by kernel_rfl
 t80:=underlying278
 a80:=isAgg278
 z80:=sizeOf278
 v80:=zeroValue278
 i0:=by kernel_rfl
 i2:=by kernel_rfl
 i3:=by kernel_rfl
 i4:=by kernel_rfl
 i5:=by kernel_rfl
 i9:=by kernel_rfl
 i20:=by kernel_rfl
 i21:=by kernel_rfl
 i37:=by kernel_rfl
 i46:=by kernel_rfl
 i51:=by kernel_rfl
 i53:=by kernel_rfl
 i75:=by kernel_rfl
 i76:=by kernel_rfl
 i80:=by kernel_rfl
 i85:=by kernel_rfl
 i127:=by kernel_rfl
 i143:=by kernel_rfl
 i145:=by kernel_rfl
 i167:=by kernel_rfl
 i168:=by kernel_rfl
 i171:=by kernel_rfl
 i173:=by kernel_rfl
 i175:=by kernel_rfl
 i210:=by kernel_rfl
 i212:=by kernel_rfl
 i232:=by kernel_rfl
 i233:=by kernel_rfl
 m15:=by kernel_rfl
 m16:=by kernel_rfl
 m17:=by kernel_rfl
 m18:=by kernel_rfl
 m19:=by kernel_rfl
 c0:=by kernel_rfl
 c2:=by kernel_rfl
 c3:=by kernel_rfl
 c4:=by kernel_rfl
 c5:=by kernel_rfl
 c9:=by kernel_rfl
 c20:=by kernel_rfl
 c21:=by kernel_rfl
 c37:=by kernel_rfl
 c46:=by kernel_rfl
 c51:=by kernel_rfl
 c53:=by kernel_rfl
 c75:=by kernel_rfl
 c76:=by kernel_rfl
 c80:=by kernel_rfl
 c85:=by kernel_rfl
 c127:=by kernel_rfl
 c143:=by kernel_rfl
 c145:=by kernel_rfl
 c167:=by kernel_rfl
 c168:=by kernel_rfl
 c171:=by kernel_rfl
 c173:=by kernel_rfl
 c175:=by kernel_rfl
 c210:=by kernel_rfl
 c212:=by kernel_rfl
 c213:=by kernel_rfl
 c232:=by kernel_rfl
 c233:=by kernel_rfl }
open Go.RowKit in
theorem Tryz.strconv_Atoi_ok (s:ByteArray) (hmax:s.size<=9223372036854775806) (v:Int) (h:Lib.atoiAll s.data.toList=.ok v) (w:World) :
 Calls prog 49 #[.string s] w fun e w'=>e=.returned (.tuple #[.int .i64 v,.nilIface])/\(w'=w\/∃t,w'=Lib.bytesWorld w 5 t):=Any.strconv_Atoi_ok Tryz.laysC172 s hmax v h w
open Go.RowKit in
theorem Tryz.strconv_Atoi_syntax_var (s:ByteArray) (hlim:s.size<=281474976710656) (h1:∀v,Lib.atoiAll s.data.toList ≠ .ok v) (h2:Lib.atoiAll s.data.toList ≠ .range) (tp:TypeId) (p:Value) (w:World) (hvar:w.var? prog "strconv.ErrSyntax" = some #[.iface tp p]) :
 Calls prog 49 #[.string s] w fun e w'=>∃N,e=.returned (.tuple #[.int .i64 0,.iface 164 (.pointer (some ⟨N,0,none⟩))])/\w.heap.size<=N/\w'.heap[N]?=some (.cells #[.string ⟨#[65,116,111,105]⟩,.string s,.iface tp p] 199 (0,0))/\Below w.heap.size w w':=Any.strconv_Atoi_syntax_var Tryz.laysC172 s hlim (by cases e:Lib.atoiAll s.data.toList with|ok v=>exact absurd e (h1 v)|range=>exact absurd e h2|_=>rfl) tp p w hvar
open Go.RowKit in
theorem Tryz.strconv_Atoi_range_var (s:ByteArray) (hlim:s.size<=281474976710656) (h:Lib.atoiAll s.data.toList=.range) (tp:TypeId) (p:Value) (w:World) (hvar:w.var? prog "strconv.ErrRange" = some #[.iface tp p]) :
 Calls prog 49 #[.string s] w fun e w'=>∃N,e=.returned (.tuple #[.int .i64 (Lib.atoiSat s.data.toList),.iface 164 (.pointer (some ⟨N,0,none⟩))])/\w.heap.size<=N/\w'.heap[N]?=some (.cells #[.string ⟨#[65,116,111,105]⟩,.string s,.iface tp p] 199 (0,0))/\Below w.heap.size w w':=Any.strconv_Atoi_range_var Tryz.laysC172 s hlim h tp p w hvar
def Tryz.lays148_ren:Go.Shelf.Ren:=⟨fun|148=>48|222=>72|223=>73|269=>101|n=>n,fun|9=>9|3=>3|4=>4|5=>5|146=>159|51=>158|46=>172|n=>n,fun|n=>n⟩
theorem Tryz.lays148:Go.Proofs.Lays.n148 prog Tryz.lays148_ren:={
 mixed:=by kernel_rfl
 f148:=func48.trans (congrArg some (by kernel_rfl))
 f222:=func72.trans (congrArg some (by kernel_rfl))
 f223:=func73.trans (congrArg some (by kernel_rfl))
 f269:=func101.trans (congrArg some (by kernel_rfl))
 t3:=underlying3
 a3:=isAgg3
 z3:=sizeOf3
 v3:=zeroValue3
 t4:=underlying4
 a4:=isAgg4
 z4:=sizeOf4
 v4:=zeroValue4
 t5:=underlying5
 a5:=isAgg5
 z5:=sizeOf5
 v5:=zeroValue5
 t9:=underlying9
 a9:=isAgg9
 z9:=sizeOf9
 v9:=zeroValue9
 t46:=underlying172
 a46:=isAgg172
 z46:=sizeOf172
 v46:=zeroValue172
 t51:=underlying158
 a51:=isAgg158
 z51:=sizeOf158
 v51:=zeroValue158
 t146:=underlying159
 a146:=isAgg159
 z146:=sizeOf159
 v146:=zeroValue159 }
open Go.RowKit Go.Lib in
theorem Tryz.strings_LastIndex (s sub:ByteArray) (hs:s.size<4611686018427387904) (w:World) :
 Calls prog 48 #[.string s,.string sub] w fun e w'=>e=.returned (.int .i64 (Lib.lastIndex s.data.toList sub.data.toList))/\w'=w:=Any.strings_LastIndex Tryz.lays148 s sub hs w
end Go.Proofs
