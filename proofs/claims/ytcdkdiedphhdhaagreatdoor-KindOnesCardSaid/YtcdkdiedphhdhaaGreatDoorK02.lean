/- Part of a proof. -/
import Derived.Test.YtcdkdiedphhdhaaGreatDoorProg
import Derived.Shelf.Strconv.Atoi
import Derived.Shelf.LaysM
set_option maxRecDepth 100000
set_option maxHeartbeats 8000000
set_option linter.unusedVariables false
set_option linter.unusedSimpArgs false
open Go.Proofs.Tryz
namespace Go.Proofs
open Go.Shelf
def Tryz.lays172_ren:Go.Shelf.Ren:=⟨fun|172=>49|244=>74|245=>75|247=>102|279=>103|280=>104|281=>105|282=>106|287=>144|316=>145|171=>50|205=>146|321=>174|322=>175|243=>76|246=>107|283=>147|284=>148|285=>149|286=>150|129=>177|317=>176|318=>178|319=>179|320=>180|337=>207|338=>208|n=>n,fun|9=>9|3=>3|75=>108|76=>109|4=>4|5=>5|167=>161|37=>46|0=>0|85=>162|2=>2|168=>164|53=>194|175=>195|46=>172|210=>199|127=>227|145=>230|143=>228|21=>21|171=>201|173=>204|212=>232|51=>158|20=>20|213=>233|232=>260|233=>261|80=>278|n=>n,fun|15=>1|16=>2|17=>3|18=>6|19=>7|n=>n⟩
theorem Tryz.lays172:Go.Proofs.Lays.n172 prog Tryz.lays172_ren:={
 mixed:=by kernel_rfl
 f129:=func177.trans (congrArg some (by kernel_rfl))
 f171:=func50.trans (congrArg some (by kernel_rfl))
 f172:=func49.trans (congrArg some (by kernel_rfl))
 f205:=func146.trans (congrArg some (by kernel_rfl))
 f243:=func76.trans (congrArg some (by kernel_rfl))
 f244:=func74.trans (congrArg some (by kernel_rfl))
 f245:=func75.trans (congrArg some (by kernel_rfl))
 f246:=func107.trans (congrArg some (by kernel_rfl))
 f247:=func102.trans (congrArg some (by kernel_rfl))
 f279:=func103.trans (congrArg some (by kernel_rfl))
 f280:=func104.trans (congrArg some (by kernel_rfl))
 f281:=func105.trans (congrArg some (by kernel_rfl))
 f282:=func106.trans (congrArg some (by kernel_rfl))
 f283:=func147.trans (congrArg some (by kernel_rfl))
 f284:=func148.trans (congrArg some (by kernel_rfl))
 f285:=func149.trans (congrArg some (by kernel_rfl))
 f286:=func150.trans (congrArg some (by kernel_rfl))
 f287:=func144.trans (congrArg some (by kernel_rfl))
 f316:=func145.trans (congrArg some (by kernel_rfl))
 f317:=func176.trans (congrArg some (by kernel_rfl))
 f318:=func178.trans (congrArg some (by kernel_rfl))
 f319:=func179.trans (congrArg some (by kernel_rfl))
 f320:=func180.trans (congrArg some (by kernel_rfl))
 f321:=func174.trans (congrArg some (by kernel_rfl))
 f322:=func175.trans (congrArg some (by kernel_rfl))
 f337:=func207.trans (congrArg some (by kernel_rfl))
 f338:=func208.trans (congrArg some (by kernel_rfl))
 t0:=underlying0
 a0:=isAgg0
 z0:=sizeOf0
 v0:=zeroValue0
 t2:=underlying2
 a2:=isAgg2
 z2:=sizeOf2
 v2:=zeroValue2
 t3:=underlying3
 a3:=isAgg3
 z3:=sizeOf3
 v3:=zeroValue3
 t4:=underlying4
 a4:=isAgg4
 z4:=sizeOf4
 v4:=zeroValue4
 t5:=underlying5
 a5:=isAgg5
 z5:=sizeOf5
 v5:=zeroValue5
 t9:=underlying9
 a9:=isAgg9
 z9:=sizeOf9
 v9:=zeroValue9
 t20:=underlying20
 a20:=isAgg20
 z20:=sizeOf20
 v20:=zeroValue20
 t21:=underlying21
 a21:=isAgg21
 z21:=sizeOf21
 v21:=zeroValue21
 t37:=underlying46
 a37:=isAgg46
 z37:=sizeOf46
 v37:=zeroValue46
 t46:=underlying172
 a46:=isAgg172
 z46:=sizeOf172
 v46:=zeroValue172
 t51:=underlying158
 a51:=isAgg158
 z51:=sizeOf158
 v51:=zeroValue158
 t53:=underlying194
 a53:=isAgg194
 z53:=sizeOf194
 v53:=zeroValue194
 t75:=underlying108
 a75:=isAgg108
 z75:=sizeOf108
 v75:=zeroValue108
 t76:=underlying109
 a76:=isAgg109
 z76:=sizeOf109
 v76:=zeroValue109
 t85:=underlying162
 a85:=isAgg162
 z85:=sizeOf162
 v85:=zeroValue162
 t127:=underlying227
 a127:=isAgg227
 z127:=sizeOf227
 v127:=zeroValue227
 t143:=underlying228
 a143:=isAgg228
 z143:=sizeOf228
 v143:=zeroValue228
 t145:=underlying230
 a145:=isAgg230
 z145:=sizeOf230
 v145:=zeroValue230
 t167:=underlying161
 a167:=isAgg161
 z167:=sizeOf161
 v167:=zeroValue161
 t168:=underlying164
 a168:=isAgg164
 z168:=sizeOf164
 v168:=zeroValue164
 t171:=underlying201
 a171:=isAgg201
 z171:=sizeOf201
 v171:=zeroValue201
 t173:=underlying204
 a173:=isAgg204
 z173:=sizeOf204
 v173:=zeroValue204
 t175:=underlying195
 a175:=isAgg195
 z175:=sizeOf195
 v175:=zeroValue195
 t210:=underlying199
 a210:=isAgg199
 z210:=sizeOf199
 v210:=zeroValue199
 t212:=underlying232
 a212:=isAgg232
 z212:=sizeOf232
 v212:=zeroValue232
 t213:=underlying233
 a213:=isAgg233
 z213:=sizeOf233
 t232:=underlying260
 a232:=isAgg260
 z232:=sizeOf260
 v232:=zeroValue260
 t233:=underlying261
 a233:=isAgg261
 z233:=sizeOf261
 v233:=zeroValue261
 g15:=by kernel_rfl
 g16:=by kernel_rfl
 g17:=by kernel_rfl
 g18:=by kernel_rfl
 g19:=by kernel_rfl }
open Go.RowKit in
theorem Tryz.strconv_Atoi (s:ByteArray) (n:Int) (hl:s.size<=18) (h:Lib.atoi s.data.toList=some n) (w:World) :
 Calls prog 49 #[.string s] w fun e w'=>e=.returned (.tuple #[.int .i64 n,.nilIface])/\∃t,w'=Lib.bytesWorld w 5 t:=Any.strconv_Atoi Tryz.lays172 s n hl h w
end Go.Proofs
