/- Part of a proof. -/
import Derived.Test.YthjpoaannjgdmaaGreatDoorProg
import Derived.Shelf.Small.Wraps
import Derived.Shelf.Strings.LastIndexAll
import Derived.Shelf.Strconv.Itoa3
import Derived.Shelf.Strconv.AtoiAll
import Derived.Shelf.Strconv.ErrVarAll
import Derived.Shelf.LaysM
set_option maxRecDepth 100000
set_option maxHeartbeats 8000000
set_option linter.unusedVariables false
set_option linter.unusedSimpArgs false
open Go.Proofs.Tryz
namespace Go.Proofs
open Go.Shelf
def Tryz.lays103_ren:Go.Shelf.Ren:=⟨fun|103=>37|210=>56|206=>85|n=>n,fun|9=>9|4=>4|24=>93|3=>3|n=>n,fun|n=>n⟩
theorem Tryz.lays103:Go.Proofs.Lays.n103 prog Tryz.lays103_ren:={
 mixed:=by kernel_rfl
 f103:=func37.trans (congrArg some (by kernel_rfl))
 f206:=func85.trans (congrArg some (by kernel_rfl))
 f210:=func56.trans (congrArg some (by kernel_rfl))
 t3:=underlying3
 a3:=isAgg3
 z3:=sizeOf3
 v3:=zeroValue3
 t4:=underlying4
 a4:=isAgg4
 z4:=sizeOf4
 v4:=zeroValue4
 t9:=underlying9
 a9:=isAgg9
 z9:=sizeOf9
 v9:=zeroValue9
 t24:=underlying93
 a24:=isAgg93
 z24:=sizeOf93
 v24:=zeroValue93 }
open Go.RowKit in
theorem Tryz.strings_CutPrefix (s p:ByteArray) (w:World) :
 Calls prog 37 #[.string s,.string p] w fun e w'=>e=.returned (.tuple #[.string ⟨(Lib.trimPrefix s.data.toList p.data.toList).toArray⟩,.bool (Lib.hasPrefix s.data.toList p.data.toList)])/\w'=w:=Any.strings_CutPrefix Tryz.lays103 s p w
def Tryz.lays104_ren:Go.Shelf.Ren:=⟨fun|104=>38|211=>57|207=>86|n=>n,fun|9=>9|4=>4|24=>93|3=>3|n=>n,fun|n=>n⟩
theorem Tryz.lays104:Go.Proofs.Lays.n104 prog Tryz.lays104_ren:={
 mixed:=by kernel_rfl
 f104:=func38.trans (congrArg some (by kernel_rfl))
 f207:=func86.trans (congrArg some (by kernel_rfl))
 f211:=func57.trans (congrArg some (by kernel_rfl))
 t3:=underlying3
 a3:=isAgg3
 z3:=sizeOf3
 v3:=zeroValue3
 t4:=underlying4
 a4:=isAgg4
 z4:=sizeOf4
 v4:=zeroValue4
 t9:=underlying9
 a9:=isAgg9
 z9:=sizeOf9
 v9:=zeroValue9
 t24:=underlying93
 a24:=isAgg93
 z24:=sizeOf93
 v24:=zeroValue93 }
open Go.RowKit in
theorem Tryz.strings_CutSuffix (s p:ByteArray) (w:World) (hs:s.size<=9223372036854775807) :
 Calls prog 38 #[.string s,.string p] w fun e w'=>e=.returned (.tuple #[.string ⟨(Lib.trimSuffix s.data.toList p.data.toList).toArray⟩,.bool (Lib.hasSuffix s.data.toList p.data.toList)])/\w'=w:=Any.strings_CutSuffix Tryz.lays104 s p w hs
def Tryz.lays171_ren:Go.Shelf.Ren:=⟨fun|171=>41|243=>62|246=>93|283=>134|284=>135|285=>136|286=>137|129=>165|317=>164|318=>166|319=>167|320=>168|337=>195|338=>196|n=>n,fun|3=>3|9=>9|2=>2|4=>4|171=>189|0=>0|53=>182|37=>46|5=>5|173=>192|212=>220|51=>146|20=>20|213=>221|46=>169|232=>248|233=>249|n=>n,fun|17=>3|18=>6|19=>7|n=>n⟩
theorem Tryz.lays171:Go.Proofs.Lays.n171 prog Tryz.lays171_ren:={
 mixed:=by kernel_rfl
 f129:=func165.trans (congrArg some (by kernel_rfl))
 f171:=func41.trans (congrArg some (by kernel_rfl))
 f243:=func62.trans (congrArg some (by kernel_rfl))
 f246:=func93.trans (congrArg some (by kernel_rfl))
 f283:=func134.trans (congrArg some (by kernel_rfl))
 f284:=func135.trans (congrArg some (by kernel_rfl))
 f285:=func136.trans (congrArg some (by kernel_rfl))
 f286:=func137.trans (congrArg some (by kernel_rfl))
 f317:=func164.trans (congrArg some (by kernel_rfl))
 f318:=func166.trans (congrArg some (by kernel_rfl))
 f319:=func167.trans (congrArg some (by kernel_rfl))
 f320:=func168.trans (congrArg some (by kernel_rfl))
 f337:=func195.trans (congrArg some (by kernel_rfl))
 f338:=func196.trans (congrArg some (by kernel_rfl))
 t0:=underlying0
 a0:=isAgg0
 z0:=sizeOf0
 v0:=zeroValue0
 t2:=underlying2
 a2:=isAgg2
 z2:=sizeOf2
 v2:=zeroValue2
 t3:=underlying3
 a3:=isAgg3
 z3:=sizeOf3
 v3:=zeroValue3
 t4:=underlying4
 a4:=isAgg4
 z4:=sizeOf4
 v4:=zeroValue4
 t5:=underlying5
 a5:=isAgg5
 z5:=sizeOf5
 v5:=zeroValue5
 t9:=underlying9
 a9:=isAgg9
 z9:=sizeOf9
 v9:=zeroValue9
 t20:=underlying20
 a20:=isAgg20
 z20:=sizeOf20
 v20:=zeroValue20
 t37:=underlying46
 a37:=isAgg46
 z37:=sizeOf46
 v37:=zeroValue46
 t46:=underlying169
 a46:=isAgg169
 z46:=sizeOf169
 v46:=zeroValue169
 t51:=underlying146
 a51:=isAgg146
 z51:=sizeOf146
 v51:=zeroValue146
 t53:=underlying182
 a53:=isAgg182
 z53:=sizeOf182
 v53:=zeroValue182
 t171:=underlying189
 a171:=isAgg189
 z171:=sizeOf189
 v171:=zeroValue189
 t173:=underlying192
 a173:=isAgg192
 z173:=sizeOf192
 v173:=zeroValue192
 t212:=underlying220
 a212:=isAgg220
 z212:=sizeOf220
 v212:=zeroValue220
 t213:=underlying221
 a213:=isAgg221
 z213:=sizeOf221
 t232:=underlying248
 a232:=isAgg248
 z232:=sizeOf248
 v232:=zeroValue248
 t233:=underlying249
 a233:=isAgg249
 z233:=sizeOf249
 v233:=zeroValue249
 g17:=by kernel_rfl
 g18:=by kernel_rfl
 g19:=by kernel_rfl }
open Go.RowKit Go.Sort Go.Lib in
theorem Tryz.strconv_Itoa_small (i:Nat) (hi:i<100) (w:World) :
 Calls prog 41 #[.int .i64 i] w fun e w'=>e=.returned (.string ⟨(Lib.decDigits i).toArray⟩)/\w'=w:=Any.strconv_Itoa_small Tryz.lays171 i hi w
def Tryz.laysC172_ren:Go.Shelf.Ren:=⟨fun|172=>40|244=>60|245=>61|247=>88|279=>89|280=>90|281=>91|282=>92|287=>131|316=>132|171=>41|205=>133|321=>162|322=>163|243=>62|246=>93|283=>134|284=>135|285=>136|286=>137|129=>165|317=>164|318=>166|319=>167|320=>168|337=>195|338=>196|n=>n,fun|9=>9|3=>3|75=>97|76=>98|4=>4|5=>5|167=>149|37=>46|0=>0|85=>150|2=>2|168=>152|53=>182|175=>183|46=>169|210=>187|127=>215|145=>218|143=>216|21=>21|171=>189|173=>192|212=>220|51=>146|20=>20|213=>221|232=>248|233=>249|80=>266|n=>n,fun|15=>1|16=>2|17=>3|18=>6|19=>7|n=>n⟩
theorem Tryz.laysC172:Go.Proofs.LaysC.n172 prog Tryz.laysC172_ren:={
 mixed:=by kernel_rfl
 f129:=func165.trans (congrArg some (by kernel_rfl))
 f171:=func41.trans (congrArg some (by kernel_rfl))
 f172:=func40.trans (congrArg some (by kernel_rfl))
 f205:=func133.trans (congrArg some (by kernel_rfl))
 f243:=func62.trans (congrArg some (by kernel_rfl))
 f244:=func60.trans (congrArg some (by kernel_rfl))
 f245:=func61.trans (congrArg some (by kernel_rfl))
 f246:=func93.trans (congrArg some (by kernel_rfl))
 f247:=func88.trans (congrArg some (by kernel_rfl))
 f279:=func89.trans (congrArg some (by kernel_rfl))
 f280:=func90.trans (congrArg some (by kernel_rfl))
 f281:=func91.trans (congrArg some (by kernel_rfl))
 f282:=func92.trans (congrArg some (by kernel_rfl))
 f283:=func134.trans (congrArg some (by kernel_rfl))
 f284:=func135.trans (congrArg some (by kernel_rfl))
 f285:=func136.trans (congrArg some (by kernel_rfl))
 f286:=func137.trans (congrArg some (by kernel_rfl))
 f287:=func131.trans (congrArg some (by kernel_rfl))
 f316:=func132.trans (congrArg some (by kernel_rfl))
 f317:=func164.trans (congrArg some (by kernel_rfl))
 f318:=func166.trans (congrArg some (by kernel_rfl))
 f319:=func167.trans (congrArg some (by kernel_rfl))
 f320:=func168.trans (congrArg some (by kernel_rfl))
 f321:=func162.trans (congrArg some (by kernel_rfl))
 f322:=func163.trans (congrArg some (by kernel_rfl))
 f337:=func195.trans (congrArg some (by kernel_rfl))
 f338:=func196.trans (congrArg some (by kernel_rfl))
 t0:=underlying0
 a0:=isAgg0
 z0:=sizeOf0
 v0:=zeroValue0
 t2:=underlying2
 a2:=isAgg2
 z2:=sizeOf2
 v2:=zeroValue2
 t3:=underlying3
 a3:=isAgg3
 z3:=sizeOf3
 v3:=zeroValue3
 t4:=underlying4
 a4:=isAgg4
 z4:=sizeOf4
 v4:=zeroValue4
 t5:=underlying5
 a5:=isAgg5
 z5:=sizeOf5
 v5:=zeroValue5
 t9:=underlying9
 a9:=isAgg9
 z9:=sizeOf9
 v9:=zeroValue9
 t20:=underlying20
 a20:=isAgg20
 z20:=sizeOf20
 v20:=zeroValue20
 t21:=underlying21
 a21:=isAgg21
 z21:=sizeOf21
 v21:=zeroValue21
 t37:=underlying46
 a37:=isAgg46
 z37:=sizeOf46
 v37:=zeroValue46
 t46:=underlying169
 a46:=isAgg169
 z46:=sizeOf169
 v46:=zeroValue169
 t51:=underlying146
 a51:=isAgg146
 z51:=sizeOf146
 v51:=zeroValue146
 t53:=underlying182
 a53:=isAgg182
 z53:=sizeOf182
 v53:=zeroValue182
 t75:=underlying97
 a75:=isAgg97
 z75:=sizeOf97
 v75:=zeroValue97
 t76:=underlying98
 a76:=isAgg98
 z76:=sizeOf98
 v76:=zeroValue98
 t85:=underlying150
 a85:=isAgg150
 z85:=sizeOf150
 v85:=zeroValue150
 t127:=underlying215
 a127:=isAgg215
 z127:=sizeOf215
 v127:=zeroValue215
 t143:=underlying216
 a143:=isAgg216
 z143:=sizeOf216
 v143:=zeroValue216
 t145:=underlying218
 a145:=isAgg218
 z145:=sizeOf218
 v145:=zeroValue218
 t167:=underlying149
 a167:=isAgg149
 z167:=sizeOf149
 v167:=zeroValue149
 t168:=underlying152
 a168:=isAgg152
 z168:=sizeOf152
 v168:=zeroValue152
 t171:=underlying189
 a171:=isAgg189
 z171:=sizeOf189
 v171:=zeroValue189
 t173:=underlying192
 a173:=isAgg192
 z173:=sizeOf192
 v173:=zeroValue192
 t175:=underlying183
 a175:=isAgg183
 z175:=sizeOf183
 v175:=zeroValue183
 t210:=underlying187
 a210:=isAgg187
 z210:=sizeOf187
 v210:=zeroValue187
 t212:=underlying220
 a212:=isAgg220
 z212:=sizeOf220
 v212:=zeroValue220
 t213:=underlying221
 a213:=isAgg221
 z213:=sizeOf221
 t232:=underlying248
 a232:=isAgg248
 z232:=sizeOf248
 v232:=zeroValue248
 t233:=underlying249
 a233:=isAgg249
 z233:=sizeOf249
 v233:=zeroValue249
 g15:=by kernel_rfl
 g16:=by kernel_rfl
 g17:=by kernel_rfl
 g18:=by kernel_rfl
 g19:=by kernel_rfl
 t80:=underlying266
 a80:=isAgg266
 z80:=sizeOf266
 v80:=zeroValue266
 i0:=by kernel_rfl
 i2:=by kernel_rfl
 i3:=by kernel_rfl
 i4:=by kernel_rfl
 i5:=by kernel_rfl
 i9:=by kernel_rfl
 i20:=by kernel_rfl
 i21:=by kernel_rfl
 i37:=by kernel_rfl
 i46:=by kernel_rfl
 i51:=by kernel_rfl
 i53:=by kernel_rfl
 i75:=by kernel_rfl
 i76:=by kernel_rfl
 i80:=by kernel_rfl
 i85:=by kernel_rfl
 i127:=by kernel_rfl
 i143:=by kernel_rfl
 i145:=by kernel_rfl
 i167:=by kernel_rfl
 i168:=by kernel_rfl
 i171:=by kernel_rfl
 i173:=by kernel_rfl
 i175:=by kernel_rfl
 i210:=by kernel_rfl
 i212:=by kernel_rfl
 i232:=by kernel_rfl
 i233:=by kernel_rfl
 m15:=by kernel_rfl
 m16:=by kernel_rfl
 m17:=by kernel_rfl
 m18:=by kernel_rfl
 m19:=by kernel_rfl
 c0:=by kernel_rfl
 c2:=by kernel_rfl
 c3:=by kernel_rfl
 c4:=by kernel_rfl
 c5:=by kernel_rfl
 c9:=by kernel_rfl
 c20:=by kernel_rfl
 c21:=by kernel_rfl
 c37:=by kernel_rfl
 c46:=by kernel_rfl
 c51:=by kernel_rfl
 c53:=by kernel_rfl
 c75:=by kernel_rfl
 c76:=by kernel_rfl
 c80:=by kernel_rfl
 c85:=by kernel_rfl
 c127:=by kernel_rfl
 c143:=by kernel_rfl
 c145:=by kernel_rfl
 c167:=by kernel_rfl
 c168:=by kernel_rfl
 c171:=by kernel_rfl
 c173:=by kernel_rfl
 c175:=by kernel_rfl
 c210:=by kernel_rfl
 c212:=by kernel_rfl
 c213:=by kernel_rfl
 c232:=by kernel_rfl
 c233:=by kernel_rfl }
open Go.RowKit in
theorem Tryz.strconv_Atoi_ok (s:ByteArray) (hmax:s.size<=9223372036854775806) (v:Int) (h:Lib.atoiAll s.data.toList=.ok v) (w:World) :
 Calls prog 40 #[.string s] w fun e w'=>e=.returned (.tuple #[.int .i64 v,.nilIface])/\(w'=w\/∃t,w'=Lib.bytesWorld w 5 t):=Any.strconv_Atoi_ok Tryz.laysC172 s hmax v h w
open Go.RowKit in
theorem Tryz.strconv_Atoi_syntax_var (s:ByteArray) (hlim:s.size<=281474976710656) (h:Lib.atoiAll s.data.toList = .«syntax») (tp:TypeId) (p:Value) (w:World) (hvar:w.var? prog "strconv.ErrSyntax" = some #[.iface tp p]) :
 Calls prog 40 #[.string s] w fun e w'=>∃N,e=.returned (.tuple #[.int .i64 0,.iface 152 (.pointer (some ⟨N,0,none⟩))])/\w.heap.size<=N/\w'.heap[N]?=some (.cells #[.string ⟨#[65,116,111,105]⟩,.string s,.iface tp p] 187 (0,0))/\Below w.heap.size w w':=Any.strconv_Atoi_syntax_var Tryz.laysC172 s hlim h tp p w hvar
open Go.RowKit in
theorem Tryz.strconv_Atoi_range_var (s:ByteArray) (hlim:s.size<=281474976710656) (h:Lib.atoiAll s.data.toList=.range) (tp:TypeId) (p:Value) (w:World) (hvar:w.var? prog "strconv.ErrRange" = some #[.iface tp p]) :
 Calls prog 40 #[.string s] w fun e w'=>∃N,e=.returned (.tuple #[.int .i64 (Lib.atoiSat s.data.toList),.iface 152 (.pointer (some ⟨N,0,none⟩))])/\w.heap.size<=N/\w'.heap[N]?=some (.cells #[.string ⟨#[65,116,111,105]⟩,.string s,.iface tp p] 187 (0,0))/\Below w.heap.size w w':=Any.strconv_Atoi_range_var Tryz.laysC172 s hlim h tp p w hvar
def Tryz.lays148_ren:Go.Shelf.Ren:=⟨fun|148=>39|222=>58|223=>59|269=>87|n=>n,fun|9=>9|3=>3|4=>4|5=>5|146=>147|51=>146|46=>169|n=>n,fun|n=>n⟩
theorem Tryz.lays148:Go.Proofs.Lays.n148 prog Tryz.lays148_ren:={
 mixed:=by kernel_rfl
 f148:=func39.trans (congrArg some (by kernel_rfl))
 f222:=func58.trans (congrArg some (by kernel_rfl))
 f223:=func59.trans (congrArg some (by kernel_rfl))
 f269:=func87.trans (congrArg some (by kernel_rfl))
 t3:=underlying3
 a3:=isAgg3
 z3:=sizeOf3
 v3:=zeroValue3
 t4:=underlying4
 a4:=isAgg4
 z4:=sizeOf4
 v4:=zeroValue4
 t5:=underlying5
 a5:=isAgg5
 z5:=sizeOf5
 v5:=zeroValue5
 t9:=underlying9
 a9:=isAgg9
 z9:=sizeOf9
 v9:=zeroValue9
 t46:=underlying169
 a46:=isAgg169
 z46:=sizeOf169
 v46:=zeroValue169
 t51:=underlying146
 a51:=isAgg146
 z51:=sizeOf146
 v51:=zeroValue146
 t146:=underlying147
 a146:=isAgg147
 z146:=sizeOf147
 v146:=zeroValue147 }
open Go.RowKit Go.Lib in
theorem Tryz.strings_LastIndex (s sub:ByteArray) (hs:s.size<4611686018427387904) (w:World) :
 Calls prog 39 #[.string s,.string sub] w fun e w'=>e=.returned (.int .i64 (Lib.lastIndex s.data.toList sub.data.toList))/\w'=w:=Any.strings_LastIndex Tryz.lays148 s sub hs w
end Go.Proofs
