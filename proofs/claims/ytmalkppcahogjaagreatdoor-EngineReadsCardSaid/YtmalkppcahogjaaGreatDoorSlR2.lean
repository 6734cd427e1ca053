/- Contracts; no condition but each theorem's own. -/
import Derived.Test.YtmalkppcahogjaaGreatDoorSlR1
import Derived.Ground.Names2Prog
import Derived.Ground.SlgnProg
import Derived.Shelf.LaysC
import Derived.Shelf.LaysM
import Derived.Shelf.Slices.Cells
import Derived.Shelf.Slices.Clone
import Derived.Shelf.Slices.CompactS
import Derived.Shelf.Slices.Delete
import Derived.Shelf.Slices.Empties
import Derived.Shelf.Slices.In.SortNone
import Derived.Shelf.Slices.ReverseS
import Derived.Shelf.SlicesE.Clone
import Derived.Shelf.Small.Bits
import Derived.Shelf.Small.Strs
import Derived.Shelf.Sort.Plain
import Derived.Shelf.Strconv.Atoi
import Derived.Shelf.Strconv.AtoiAll
import Derived.Shelf.Strconv.AtoiErrFast
import Derived.Shelf.Strconv.AtoiFail
import Derived.Shelf.Strconv.AtoiInnerAll
import Derived.Shelf.Strconv.AtoiLong
import Derived.Shelf.Strconv.Clone
import Derived.Shelf.Strconv.ErrVarAll
import Derived.Shelf.Strconv.Itoa0
import Derived.Shelf.Strconv.Itoa1
import Derived.Shelf.Strconv.Itoa2
import Derived.Shelf.Strconv.Itoa3
import Derived.Shelf.Strconv.Lower
import Derived.Shelf.Strconv.ParseInt10
import Derived.Shelf.Strconv.ParseIntEmpty
import Derived.Shelf.Strconv.ParseUint10
import Derived.Shelf.Strconv.ParseUint10Any
import Derived.Shelf.Strconv.ParseUint10Empty
import Derived.Shelf.Strconv.RangeError
import Derived.Shelf.Strconv.SyntaxError
import Derived.Shelf.Strconv.ToError
import Derived.Shelf.Strconv.ToErrorRange
import Derived.Shelf.Strings.Builder1
import Derived.Shelf.Strings.Cut
import Derived.Shelf.Strings.Search1
import Derived.Shelf.Strings.Search2
import Derived.Shelf.Strings.Shaped
set_option linter.unusedVariables false
set_option linter.unusedSimpArgs false
set_option maxHeartbeats 8000000
set_option maxRecDepth 100000
namespace Go.Proofs
open Lib (hid)
open Go.Proofs.Tryz (prog)
open Go.Shelf
def Tryz.lays137_ren:Go.Shelf.Ren:=⟨fun|137=>137|217=>194|266=>276|n=>n,fun|9=>9|5=>5|3=>3|n=>n,fun|n=>n⟩
theorem Tryz.lays137:Go.Proofs.Lays.n137 prog Tryz.lays137_ren:={
 mixed:=by kernel_rfl
 f137:=Tryz.func137.trans (congrArg some (by kernel_rfl))
 f217:=Tryz.func194.trans (congrArg some (by kernel_rfl))
 f266:=Tryz.func276.trans (congrArg some (by kernel_rfl))
 t3:=Tryz.underlying3
 a3:=Tryz.isAgg3
 z3:=Tryz.sizeOf3
 v3:=Tryz.zeroValue3
 t5:=Tryz.underlying5
 a5:=Tryz.isAgg5
 z5:=Tryz.sizeOf5
 v5:=Tryz.zeroValue5
 t9:=Tryz.underlying9
 a9:=Tryz.isAgg9
 z9:=Tryz.sizeOf9
 v9:=Tryz.zeroValue9 }
open Go.RowKit in
theorem Tryz.strings_IndexByte(s:ByteArray)(c:Int)(w:World):
  Calls prog 137 #[.string s,.int .u8 c] w fun e w'=>e=.returned (.int .i64 (Lib.indexByte s.data.toList c.toNat.toUInt8))∧w'=w:=Any.strings_IndexByte Tryz.lays137 s c w
def Tryz.laysM171_ren:Go.Shelf.Ren:=⟨fun|171=>135|243=>193|246=>275|283=>335|284=>336|285=>337|286=>338|129=>359|317=>358|318=>360|319=>361|320=>362|337=>375|338=>376|n=>n,fun|3=>3|9=>9|2=>2|4=>4|171=>317|0=>0|53=>311|37=>157|5=>5|173=>320|212=>341|51=>342|20=>20|213=>343|46=>275|232=>361|233=>362|n=>n,fun|17=>3|18=>4|19=>5|n=>n⟩
theorem Tryz.laysM171:Go.Proofs.LaysM.n171 prog Tryz.laysM171_ren:={
 mixed:=by kernel_rfl
 f129:=Tryz.func359.trans (congrArg some (by kernel_rfl))
 f171:=Tryz.func135.trans (congrArg some (by kernel_rfl))
 f243:=Tryz.func193.trans (congrArg some (by kernel_rfl))
 f246:=Tryz.func275.trans (congrArg some (by kernel_rfl))
 f283:=Tryz.func335.trans (congrArg some (by kernel_rfl))
 f284:=Tryz.func336.trans (congrArg some (by kernel_rfl))
 f285:=Tryz.func337.trans (congrArg some (by kernel_rfl))
 f286:=Tryz.func338.trans (congrArg some (by kernel_rfl))
 f317:=Tryz.func358.trans (congrArg some (by kernel_rfl))
 f318:=Tryz.func360.trans (congrArg some (by kernel_rfl))
 f319:=Tryz.func361.trans (congrArg some (by kernel_rfl))
 f320:=Tryz.func362.trans (congrArg some (by kernel_rfl))
 f337:=Tryz.func375.trans (congrArg some (by kernel_rfl))
 f338:=Tryz.func376.trans (congrArg some (by kernel_rfl))
 t0:=Tryz.underlying0
 a0:=Tryz.isAgg0
 z0:=Tryz.sizeOf0
 v0:=Tryz.zeroValue0
 t2:=Tryz.underlying2
 a2:=Tryz.isAgg2
 z2:=Tryz.sizeOf2
 v2:=Tryz.zeroValue2
 t3:=Tryz.underlying3
 a3:=Tryz.isAgg3
 z3:=Tryz.sizeOf3
 v3:=Tryz.zeroValue3
 t4:=Tryz.underlying4
 a4:=Tryz.isAgg4
 z4:=Tryz.sizeOf4
 v4:=Tryz.zeroValue4
 t5:=Tryz.underlying5
 a5:=Tryz.isAgg5
 z5:=Tryz.sizeOf5
 v5:=Tryz.zeroValue5
 t9:=Tryz.underlying9
 a9:=Tryz.isAgg9
 z9:=Tryz.sizeOf9
 v9:=Tryz.zeroValue9
 t20:=Tryz.underlying20
 a20:=Tryz.isAgg20
 z20:=Tryz.sizeOf20
 v20:=Tryz.zeroValue20
 t37:=Tryz.underlying157
 a37:=Tryz.isAgg157
 z37:=Tryz.sizeOf157
 v37:=Tryz.zeroValue157
 t46:=Tryz.underlying275
 a46:=Tryz.isAgg275
 z46:=Tryz.sizeOf275
 v46:=Tryz.zeroValue275
 t51:=Tryz.underlying342
 a51:=Tryz.isAgg342
 z51:=Tryz.sizeOf342
 v51:=Tryz.zeroValue342
 t53:=Tryz.underlying311
 a53:=Tryz.isAgg311
 z53:=Tryz.sizeOf311
 v53:=Tryz.zeroValue311
 t171:=Tryz.underlying317
 a171:=Tryz.isAgg317
 z171:=Tryz.sizeOf317
 v171:=Tryz.zeroValue317
 t173:=Tryz.underlying320
 a173:=Tryz.isAgg320
 z173:=Tryz.sizeOf320
 v173:=Tryz.zeroValue320
 t212:=Tryz.underlying341
 a212:=Tryz.isAgg341
 z212:=Tryz.sizeOf341
 v212:=Tryz.zeroValue341
 t213:=Tryz.underlying343
 a213:=Tryz.isAgg343
 z213:=Tryz.sizeOf343
 t232:=Tryz.underlying361
 a232:=Tryz.isAgg361
 z232:=Tryz.sizeOf361
 v232:=Tryz.zeroValue361
 t233:=Tryz.underlying362
 a233:=Tryz.isAgg362
 z233:=Tryz.sizeOf362
 v233:=Tryz.zeroValue362
 g17:=by kernel_rfl
 g18:=by kernel_rfl
 g19:=by kernel_rfl
 i0:=by kernel_rfl
 i2:=by kernel_rfl
 i3:=by kernel_rfl
 i4:=by kernel_rfl
 i5:=by kernel_rfl
 i9:=by kernel_rfl
 i20:=by kernel_rfl
 i37:=by kernel_rfl
 i46:=by kernel_rfl
 i51:=by kernel_rfl
 i53:=by kernel_rfl
 i171:=by kernel_rfl
 i173:=by kernel_rfl
 i212:=by kernel_rfl
 i232:=by kernel_rfl
 i233:=by kernel_rfl
 m17:=by kernel_rfl
 m18:=by kernel_rfl
 m19:=by kernel_rfl }
open Go.RowKit Go.Sort Go.Lib in
theorem Tryz.strconv_Itoa(n:Int)(h0:-9223372036854775808≤n)(h1:n≤9223372036854775807)(w:World)(htab:Lib.TabIs prog w "internal/strconv.uint64pow10" .u64 Lib.pow10Tab):
  Calls prog 135 #[.int .i64 n] w fun e w'=>e=.returned (.string ⟨(Lib.itoa n).toArray⟩)∧∃k os,w'=grow (w.drewN k) os:=Any.strconv_Itoa Tryz.laysM171 n h0 h1 w htab
def Tryz.laysC172_ren:Go.Shelf.Ren:=⟨fun|172=>134|244=>191|245=>192|247=>270|279=>271|280=>272|281=>273|282=>274|287=>332|316=>333|171=>135|205=>334|321=>356|322=>357|243=>193|246=>275|283=>335|284=>336|285=>337|286=>338|129=>359|317=>358|318=>360|319=>361|320=>362|337=>375|338=>376|n=>n,fun|9=>9|3=>3|75=>169|76=>170|4=>4|5=>5|167=>264|37=>157|0=>0|85=>265|2=>2|168=>267|53=>311|175=>312|46=>275|210=>315|127=>273|145=>339|143=>337|21=>21|171=>317|173=>320|212=>341|51=>342|20=>20|213=>343|232=>361|233=>362|80=>185|n=>n,fun|15=>1|16=>2|17=>3|18=>4|19=>5|n=>n⟩
theorem Tryz.laysC172:Go.Proofs.LaysC.n172 prog Tryz.laysC172_ren:={
 mixed:=by kernel_rfl
 f129:=Tryz.func359.trans (congrArg some (by kernel_rfl))
 f171:=Tryz.func135.trans (congrArg some (by kernel_rfl))
 f172:=Tryz.func134.trans (congrArg some (by kernel_rfl))
 f205:=Tryz.func334.trans (congrArg some (by kernel_rfl))
 f243:=Tryz.func193.trans (congrArg some (by kernel_rfl))
 f244:=Tryz.func191.trans (congrArg some (by kernel_rfl))
 f245:=Tryz.func192.trans (congrArg some (by kernel_rfl))
 f246:=Tryz.func275.trans (congrArg some (by kernel_rfl))
 f247:=Tryz.func270.trans (congrArg some (by kernel_rfl))
 f279:=Tryz.func271.trans (congrArg some (by kernel_rfl))
 f280:=Tryz.func272.trans (congrArg some (by kernel_rfl))
 f281:=Tryz.func273.trans (congrArg some (by kernel_rfl))
 f282:=Tryz.func274.trans (congrArg some (by kernel_rfl))
 f283:=Tryz.func335.trans (congrArg some (by kernel_rfl))
 f284:=Tryz.func336.trans (congrArg some (by kernel_rfl))
 f285:=Tryz.func337.trans (congrArg some (by kernel_rfl))
 f286:=Tryz.func338.trans (congrArg some (by kernel_rfl))
 f287:=Tryz.func332.trans (congrArg some (by kernel_rfl))
 f316:=Tryz.func333.trans (congrArg some (by kernel_rfl))
 f317:=Tryz.func358.trans (congrArg some (by kernel_rfl))
 f318:=Tryz.func360.trans (congrArg some (by kernel_rfl))
 f319:=Tryz.func361.trans (congrArg some (by kernel_rfl))
 f320:=Tryz.func362.trans (congrArg some (by kernel_rfl))
 f321:=Tryz.func356.trans (congrArg some (by kernel_rfl))
 f322:=Tryz.func357.trans (congrArg some (by kernel_rfl))
 f337:=Tryz.func375.trans (congrArg some (by kernel_rfl))
 f338:=Tryz.func376.trans (congrArg some (by kernel_rfl))
 t0:=Tryz.underlying0
 a0:=Tryz.isAgg0
 z0:=Tryz.sizeOf0
 v0:=Tryz.zeroValue0
 t2:=Tryz.underlying2
 a2:=Tryz.isAgg2
 z2:=Tryz.sizeOf2
 v2:=Tryz.zeroValue2
 t3:=Tryz.underlying3
 a3:=Tryz.isAgg3
 z3:=Tryz.sizeOf3
 v3:=Tryz.zeroValue3
 t4:=Tryz.underlying4
 a4:=Tryz.isAgg4
 z4:=Tryz.sizeOf4
 v4:=Tryz.zeroValue4
 t5:=Tryz.underlying5
 a5:=Tryz.isAgg5
 z5:=Tryz.sizeOf5
 v5:=Tryz.zeroValue5
 t9:=Tryz.underlying9
 a9:=Tryz.isAgg9
 z9:=Tryz.sizeOf9
 v9:=Tryz.zeroValue9
 t20:=Tryz.underlying20
 a20:=Tryz.isAgg20
 z20:=Tryz.sizeOf20
 v20:=Tryz.zeroValue20
 t21:=Tryz.underlying21
 a21:=Tryz.isAgg21
 z21:=Tryz.sizeOf21
 v21:=Tryz.zeroValue21
 t37:=Tryz.underlying157
 a37:=Tryz.isAgg157
 z37:=Tryz.sizeOf157
 v37:=Tryz.zeroValue157
 t46:=Tryz.underlying275
 a46:=Tryz.isAgg275
 z46:=Tryz.sizeOf275
 v46:=Tryz.zeroValue275
 t51:=Tryz.underlying342
 a51:=Tryz.isAgg342
 z51:=Tryz.sizeOf342
 v51:=Tryz.zeroValue342
 t53:=Tryz.underlying311
 a53:=Tryz.isAgg311
 z53:=Tryz.sizeOf311
 v53:=Tryz.zeroValue311
 t75:=Tryz.underlying169
 a75:=Tryz.isAgg169
 z75:=Tryz.sizeOf169
 v75:=Tryz.zeroValue169
 t76:=Tryz.underlying170
 a76:=Tryz.isAgg170
 z76:=Tryz.sizeOf170
 v76:=Tryz.zeroValue170
 t85:=Tryz.underlying265
 a85:=Tryz.isAgg265
 z85:=Tryz.sizeOf265
 v85:=Tryz.zeroValue265
 t127:=Tryz.underlying273
 a127:=Tryz.isAgg273
 z127:=Tryz.sizeOf273
 v127:=Tryz.zeroValue273
 t143:=Tryz.underlying337
 a143:=Tryz.isAgg337
 z143:=Tryz.sizeOf337
 v143:=Tryz.zeroValue337
 t145:=Tryz.underlying339
 a145:=Tryz.isAgg339
 z145:=Tryz.sizeOf339
 v145:=Tryz.zeroValue339
 t167:=Tryz.underlying264
 a167:=Tryz.isAgg264
 z167:=Tryz.sizeOf264
 v167:=Tryz.zeroValue264
 t168:=Tryz.underlying267
 a168:=Tryz.isAgg267
 z168:=Tryz.sizeOf267
 v168:=Tryz.zeroValue267
 t171:=Tryz.underlying317
 a171:=Tryz.isAgg317
 z171:=Tryz.sizeOf317
 v171:=Tryz.zeroValue317
 t173:=Tryz.underlying320
 a173:=Tryz.isAgg320
 z173:=Tryz.sizeOf320
 v173:=Tryz.zeroValue320
 t175:=Tryz.underlying312
 a175:=Tryz.isAgg312
 z175:=Tryz.sizeOf312
 v175:=Tryz.zeroValue312
 t210:=Tryz.underlying315
 a210:=Tryz.isAgg315
 z210:=Tryz.sizeOf315
 v210:=Tryz.zeroValue315
 t212:=Tryz.underlying341
 a212:=Tryz.isAgg341
 z212:=Tryz.sizeOf341
 v212:=Tryz.zeroValue341
 t213:=Tryz.underlying343
 a213:=Tryz.isAgg343
 z213:=Tryz.sizeOf343
 t232:=Tryz.underlying361
 a232:=Tryz.isAgg361
 z232:=Tryz.sizeOf361
 v232:=Tryz.zeroValue361
 t233:=Tryz.underlying362
 a233:=Tryz.isAgg362
 z233:=Tryz.sizeOf362
 v233:=Tryz.zeroValue362
 g15:=by kernel_rfl
 g16:=by kernel_rfl
 g17:=by kernel_rfl
 g18:=by kernel_rfl
 g19:=by kernel_rfl
 t80:=Tryz.underlying185
 a80:=Tryz.isAgg185
 z80:=Tryz.sizeOf185
 v80:=Tryz.zeroValue185
 i0:=by kernel_rfl
 i2:=by kernel_rfl
 i3:=by kernel_rfl
 i4:=by kernel_rfl
 i5:=by kernel_rfl
 i9:=by kernel_rfl
 i20:=by kernel_rfl
 i21:=by kernel_rfl
 i37:=by kernel_rfl
 i46:=by kernel_rfl
 i51:=by kernel_rfl
 i53:=by kernel_rfl
 i75:=by kernel_rfl
 i76:=by kernel_rfl
 i80:=by kernel_rfl
 i85:=by kernel_rfl
 i127:=by kernel_rfl
 i143:=by kernel_rfl
 i145:=by kernel_rfl
 i167:=by kernel_rfl
 i168:=by kernel_rfl
 i171:=by kernel_rfl
 i173:=by kernel_rfl
 i175:=by kernel_rfl
 i210:=by kernel_rfl
 i212:=by kernel_rfl
 i232:=by kernel_rfl
 i233:=by kernel_rfl
 m15:=by kernel_rfl
 m16:=by kernel_rfl
 m17:=by kernel_rfl
 m18:=by kernel_rfl
 m19:=by kernel_rfl
 c0:=by kernel_rfl
 c2:=by kernel_rfl
 c3:=by kernel_rfl
 c4:=by kernel_rfl
 c5:=by kernel_rfl
 c9:=by kernel_rfl
 c20:=by kernel_rfl
 c21:=by kernel_rfl
 c37:=by kernel_rfl
 c46:=by kernel_rfl
 c51:=by kernel_rfl
 c53:=by kernel_rfl
 c75:=by kernel_rfl
 c76:=by kernel_rfl
 c80:=by kernel_rfl
 c85:=by kernel_rfl
 c127:=by kernel_rfl
 c143:=by kernel_rfl
 c145:=by kernel_rfl
 c167:=by kernel_rfl
 c168:=by kernel_rfl
 c171:=by kernel_rfl
 c173:=by kernel_rfl
 c175:=by kernel_rfl
 c210:=by kernel_rfl
 c212:=by kernel_rfl
 c213:=by kernel_rfl
 c232:=by kernel_rfl
 c233:=by kernel_rfl }
open Go.RowKit in
theorem Tryz.strconv_Atoi_ok(s:ByteArray)(hmax:s.size≤9223372036854775806)(v:Int)(h:Lib.atoiAll s.data.toList=.ok v)(w:World):
  Calls prog 134 #[.string s] w fun e w'=>e=.returned (.tuple #[.int .i64 v,.nilIface])∧(w'=w∨∃t,w'=Lib.bytesWorld w 5 t):=Any.strconv_Atoi_ok Tryz.laysC172 s hmax v h w
open Go.RowKit in
theorem Tryz.strconv_Atoi_syntax_var(s:ByteArray)(hlim:s.size≤281474976710656)(h:Lib.atoiAll s.data.toList=Lib.atoiAll [])(tp:TypeId)(p:Value)(w:World)(hvar:w.var? prog "strconv.ErrSyntax" = some #[.iface tp p]):
  Calls prog 134 #[.string s] w fun e w'=>∃N,e=.returned (.tuple #[.int .i64 0,.iface 267 (.pointer (some ⟨N,0,none⟩))])∧w.heap.size≤N∧w'.heap[N]? = some (.cells #[.string ⟨#[65,116,111,105]⟩,.string s,.iface tp p] 315 (0,0))∧Below w.heap.size w w':=Any.strconv_Atoi_syntax_var Tryz.laysC172 s hlim h tp p w hvar
open Go.RowKit in
theorem Tryz.strconv_Atoi_range_var(s:ByteArray)(hlim:s.size≤281474976710656)(h:Lib.atoiAll s.data.toList=.range)(tp:TypeId)(p:Value)(w:World)(hvar:w.var? prog "strconv.ErrRange" = some #[.iface tp p]):
  Calls prog 134 #[.string s] w fun e w'=>∃N,e=.returned (.tuple #[.int .i64 (Lib.atoiSat s.data.toList),.iface 267 (.pointer (some ⟨N,0,none⟩))])∧w.heap.size≤N∧w'.heap[N]? = some (.cells #[.string ⟨#[65,116,111,105]⟩,.string s,.iface tp p] 315 (0,0))∧Below w.heap.size w w':=Any.strconv_Atoi_range_var Tryz.laysC172 s hlim h tp p w hvar
def Tryz.lays190_ren:Go.Shelf.Ren:=⟨fun|190=>346|125=>370|258=>369|128=>391|129=>359|302=>383|303=>384|304=>385|305=>386|306=>387|307=>388|308=>371|309=>389|310=>390|333=>396|329=>397|330=>398|334=>399|335=>400|336=>392|344=>401|n=>n,fun|31=>24|9=>9|3=>3|46=>275|0=>0|51=>342|53=>311|4=>4|183=>354|182=>353|131=>83|5=>5|218=>365|222=>369|228=>371|229=>292|n=>n,fun|n=>n⟩
theorem Tryz.lays190:Go.Proofs.Lays.n190 prog Tryz.lays190_ren:={
 mixed:=by kernel_rfl
 f125:=Tryz.func370.trans (congrArg some (by kernel_rfl))
 f128:=Tryz.func391.trans (congrArg some (by kernel_rfl))
 f129:=Tryz.func359.trans (congrArg some (by kernel_rfl))
 f190:=Tryz.func346.trans (congrArg some (by kernel_rfl))
 f258:=Tryz.func369.trans (congrArg some (by kernel_rfl))
 f302:=Tryz.func383.trans (congrArg some (by kernel_rfl))
 f303:=Tryz.func384.trans (congrArg some (by kernel_rfl))
 f304:=Tryz.func385.trans (congrArg some (by kernel_rfl))
 f305:=Tryz.func386.trans (congrArg some (by kernel_rfl))
 f306:=Tryz.func387.trans (congrArg some (by kernel_rfl))
 f307:=Tryz.func388.trans (congrArg some (by kernel_rfl))
 f308:=Tryz.func371.trans (congrArg some (by kernel_rfl))
 f309:=Tryz.func389.trans (congrArg some (by kernel_rfl))
 f310:=Tryz.func390.trans (congrArg some (by kernel_rfl))
 f329:=Tryz.func397.trans (congrArg some (by kernel_rfl))
 f330:=Tryz.func398.trans (congrArg some (by kernel_rfl))
 f333:=Tryz.func396.trans (congrArg some (by kernel_rfl))
 f334:=Tryz.func399.trans (congrArg some (by kernel_rfl))
 f335:=Tryz.func400.trans (congrArg some (by kernel_rfl))
 f336:=Tryz.func392.trans (congrArg some (by kernel_rfl))
 f344:=Tryz.func401.trans (congrArg some (by kernel_rfl))
 t0:=Tryz.underlying0
 a0:=Tryz.isAgg0
 z0:=Tryz.sizeOf0
 v0:=Tryz.zeroValue0
 t3:=Tryz.underlying3
 a3:=Tryz.isAgg3
 z3:=Tryz.sizeOf3
 v3:=Tryz.zeroValue3
 t4:=Tryz.underlying4
 a4:=Tryz.isAgg4
 z4:=Tryz.sizeOf4
 v4:=Tryz.zeroValue4
 t5:=Tryz.underlying5
 a5:=Tryz.isAgg5
 z5:=Tryz.sizeOf5
 v5:=Tryz.zeroValue5
 t9:=Tryz.underlying9
 a9:=Tryz.isAgg9
 z9:=Tryz.sizeOf9
 v9:=Tryz.zeroValue9
 t31:=Tryz.underlying24
 a31:=Tryz.isAgg24
 z31:=Tryz.sizeOf24
 v31:=Tryz.zeroValue24
 t46:=Tryz.underlying275
 a46:=Tryz.isAgg275
 z46:=Tryz.sizeOf275
 v46:=Tryz.zeroValue275
 t51:=Tryz.underlying342
 a51:=Tryz.isAgg342
 z51:=Tryz.sizeOf342
 v51:=Tryz.zeroValue342
 t53:=Tryz.underlying311
 a53:=Tryz.isAgg311
 z53:=Tryz.sizeOf311
 v53:=Tryz.zeroValue311
 t131:=Tryz.underlying83
 a131:=Tryz.isAgg83
 z131:=Tryz.sizeOf83
 v131:=Tryz.zeroValue83
 t182:=Tryz.underlying353
 a182:=Tryz.isAgg353
 z182:=Tryz.sizeOf353
 v182:=Tryz.zeroValue353
 t183:=Tryz.underlying354
 a183:=Tryz.isAgg354
 z183:=Tryz.sizeOf354
 v183:=Tryz.zeroValue354
 t218:=Tryz.underlying365
 a218:=Tryz.isAgg365
 z218:=Tryz.sizeOf365
 v218:=Tryz.zeroValue365
 t222:=Tryz.underlying369
 a222:=Tryz.isAgg369
 z222:=Tryz.sizeOf369
 v222:=Tryz.zeroValue369
 t228:=Tryz.underlying371
 a228:=Tryz.isAgg371
 z228:=Tryz.sizeOf371
 v228:=Tryz.zeroValue371
 t229:=Tryz.underlying292
 a229:=Tryz.isAgg292
 z229:=Tryz.sizeOf292
 v229:=Tryz.zeroValue292 }
open Go.Sort Go.RowKit in
theorem Tryz.slices_Sort_string(blk off cap:Nat)(ss:List (List UInt8))(w:World)(hH:Holds encStr w blk off ss.toArray)(hblk:blk < w.heap.size)(hsz:ss.length < 4611686018427387904):
  Calls prog 346 #[.slice (some ⟨blk,off,none⟩) ss.length cap] w fun e w'=>
   e=.returned (.tuple #[])∧∃n os,w'=grow (putRow encStr (Sort.ahead w n) blk off (ss.mergeSort fun x y=>decide (x≤y)).toArray) os:=Any.slices_Sort_string Tryz.lays190 blk off cap ss w hH hblk hsz
def Tryz.lays194_ren:Go.Shelf.Ren:=⟨fun|194=>347|n=>n,fun|31=>24|9=>9|3=>3|4=>4|0=>0|n=>n,fun|n=>n⟩
theorem Tryz.lays194:Go.Proofs.Lays.n194 prog Tryz.lays194_ren:={
 mixed:=by kernel_rfl
 f194:=Tryz.func347.trans (congrArg some (by kernel_rfl))
 t0:=Tryz.underlying0
 a0:=Tryz.isAgg0
 z0:=Tryz.sizeOf0
 v0:=Tryz.zeroValue0
 t3:=Tryz.underlying3
 a3:=Tryz.isAgg3
 z3:=Tryz.sizeOf3
 v3:=Tryz.zeroValue3
 t4:=Tryz.underlying4
 a4:=Tryz.isAgg4
 z4:=Tryz.sizeOf4
 v4:=Tryz.zeroValue4
 t9:=Tryz.underlying9
 a9:=Tryz.isAgg9
 z9:=Tryz.sizeOf9
 v9:=Tryz.zeroValue9
 t31:=Tryz.underlying24
 a31:=Tryz.isAgg24
 z31:=Tryz.sizeOf24
 v31:=Tryz.zeroValue24 }
open Go.RowKit Go.Lib Go.Sort in
theorem Tryz.slices_Compact_string(blk off cap:Nat)(zs:List (List UInt8))(w:World)(hH:Holds encStr w blk off zs.toArray)(hsz:zs.length≤9223372036854775807)(hcap:zs.length≤cap):
  Calls prog 347 #[.slice (some ⟨blk,off,none⟩) zs.length cap] w fun e w'=>e=.returned (.slice (some ⟨blk,off,none⟩) (Lib.compact zs).length cap)∧∃q,w'=putRow encStr (Sort.ahead w q) blk off (Lib.compact zs++List.replicate (zs.length - (Lib.compact zs).length) []).toArray:=Any.slices_Compact_string Tryz.lays194 blk off cap zs w hH hsz hcap
open Go.RowKit Go.Lib Go.Sort in
theorem Tryz.slices_Compact_string_empty(a:Option Addr)(cap:Nat)(w:World):
  Calls prog 347 #[.slice a 0 cap] w fun e w'=>e=.returned (.slice a 0 cap)∧w'=w:=Any.slices_Compact_string_empty Tryz.lays194 a cap w
open Go.RowKit Go.Sort in
theorem Tryz.slices_Sort_string_none(p:Option Addr)(cap:Nat)(w:World):
  Calls prog 346 #[.slice p 0 cap] w fun e w'=>e=.returned (.tuple #[])∧w'=w:=Any.slices_Sort_string_none Tryz.lays190 p cap w
end Go.Proofs
namespace Go.Proofs.YtmalkppcahogjaaGreatDoor
open Lib (hid)
open Go.Proofs.Tryz (prog)
open Go.RowKit
theorem zoy(w:World)(k:Nat)(os:Array Obj):Fr [] w (Sort.grow (w.drewN k) os):=
 ⟨rfl,rfl,rfl,by show w.heap.size≤(w.heap++os).size;simp,fun j hj _=>by
  show(w.heap++os)[j]? = w.heap[j]?;rw[Array.getElem?_append_left hj]⟩
theorem zlh(w:World)(e:TypeId)(s:ByteArray):Fr [] w (Lib.bytesWorld w e s):=by
 unfold Lib.bytesWorld;refine⟨rfl,rfl,rfl,by simp[World.freeze],fun j hj _=>?_⟩;have h1:(w.drew.alloc (.cells (Lib.bytesCells w e s) e)).heap[j]? = w.heap[j]? := Below.heap_alloc w.drew _ j hj;have hne:w.heap.size≠j:=by omega
 simpa[World.freeze,Array.getElem?_modify,hne] using h1
structure Vars(w:World):Prop where
 tab:Lib.TabIs prog w "internal/strconv.uint64pow10" .u64 Lib.pow10Tab
 syn:∃tp p,w.var? prog "strconv.ErrSyntax" = some #[.iface tp p]
 rng:∃tp p,w.var? prog "strconv.ErrRange" = some #[.iface tp p]
theorem zli{P:Program}{w w':World}{n:String}{cs:Array Value}(h:w.var? P n=some cs)(hf:Fr [] w w'):w'.var? P n=some cs:=by
 unfold World.var? at h ⊢;cases hg:P.globalNamed n with
 | none=>rw[hg] at h;cases h
 | some g=>
  rw[hg] at h;simp only[Option.bind_some] at h ⊢;cases hb:w.heap[g]? with
  | none=>rw[hb] at h;cases h
  | some o=>
   have hlt:g < w.heap.size:=(Array.getElem?_eq_some_iff.1 hb).1;rw[hf.block g hlt (by simp),hb];rw[hb] at h;exact h
theorem Vars.fr{w w':World}(h:Vars w)(hf:Fr [] w w'):Vars w':=
 ⟨zli h.tab hf,h.syn.imp fun _ ⟨p,hp⟩=>⟨p,zli hp hf⟩,h.rng.imp fun _ ⟨p,hp⟩=>⟨p,zli hp hf⟩⟩
def Tab(w:World):Prop:=Lib.TabIs prog w "internal/strconv.uint64pow10" .u64 Lib.pow10Tab
theorem Tab.fr{w w':World}(h:Tab w)(hf:Fr [] w w'):Tab w':=zli h hf
theorem zdg(n:Int)(w:World)(hv:Tab w)(h:-9223372036854775808≤n∧n≤9223372036854775807):
  Calls prog 135 #[.int .i64 n] w fun e w'=>e=.returned (.string ⟨(Lib.itoa n).toArray⟩)∧Fr [] w w':=
 (Tryz.strconv_Itoa n h.1 h.2 w hv).mono fun e w' ⟨he,k,os,hw⟩=>⟨he,by rw[hw];exact zoy w k os⟩
theorem zfx(n:Int)(w:World)(hv:Vars w)(h:-9223372036854775808≤n∧n≤9223372036854775807):
  Calls prog 135 #[.int .i64 n] w fun e w'=>e=.returned (.string ⟨(Lib.itoa n).toArray⟩)∧Fr [] w w':=
 (Tryz.strconv_Itoa n h.1 h.2 w hv.tab).mono fun e w' ⟨he,k,os,hw⟩=>⟨he,by rw[hw];exact zoy w k os⟩
def zui(s:ByteArray)(w:World)(e:Ending)(w':World):Prop:=∃(n:Int) (v:Value),e=.returned (.tuple #[.int .i64 n,v])∧(-9223372036854775808≤n∧n≤9223372036854775807) ∧
 ((v=.nilIface∧Lib.atoiAll s.data.toList=.ok n)∨((∃t N,v=.iface t (.pointer (some ⟨N,0,none⟩)))∧z2z s.data.toList=none))∧Fr [] w w'
theorem zjz{l:List UInt8}{v:Int}(h:Lib.atoiAll l=.ok v):-9223372036854775808≤v∧v≤9223372036854775807:=by
 unfold Lib.atoiAll at h;split at h
 ·cases h
 ·simp only at h;split at h
  ·cases h
  ·cases h
  ·split at h
   ·cases h
   ·rename_i h1;split at h
    ·cases h
    ·rename_i h2;injection h with h
     subst h;split <;> omega
theorem zmm(s:ByteArray)(w:World)(hv:Vars w)(hs:s.size≤281474976710656):
  Calls prog 134 #[.string s] w (zui s w):=by
 rcases h:Lib.atoiAll s.data.toList with v|_|_
 ·refine(Tryz.strconv_Atoi_ok s (by omega) v h w).mono fun e w' ⟨he,hw⟩=>⟨v,_,he,zjz h,.inl ⟨rfl,h⟩,?_⟩;rcases hw with rfl|⟨t,rfl⟩
  ·exact Fr.refl [] _
  ·exact zlh _ _ _
 ·obtain⟨tp,p,hp⟩:=hv.syn;exact(Tryz.strconv_Atoi_syntax_var s hs h tp p w hp).mono fun e w' ⟨N,he,_,_,hb⟩=>⟨0,_,he,by decide,.inr ⟨⟨_,N,rfl⟩,zm1 (fun v=>by rw[h];exact fun e=>by cases e)⟩,Fr.of_below hb⟩
 ·obtain⟨tp,p,hp⟩:=hv.rng;refine(Tryz.strconv_Atoi_range_var s hs h tp p w hp).mono fun e w' ⟨N,he,_,_,hb⟩=>⟨_,_,he,?_,.inr ⟨⟨_,N,rfl⟩,zm1 (fun v=>by rw[h];exact fun e=>by cases e)⟩,Fr.of_below hb⟩;unfold Lib.atoiSat;split <;> decide
def zja(s:ByteArray)(w:World)(e:Ending)(w':World):Prop:=∃n:Int,e=.returned (.tuple #[.int .i64 n,.bool (z2z s.data.toList).isSome])∧(-9223372036854775808≤n∧n≤9223372036854775807)∧(∀v,z2z s.data.toList=some v→n=v)∧Fr [] w w'
theorem z8s(s:ByteArray)(w:World)(hv:Vars w)(hs:s.size≤281474976710656):
  Calls prog 79 #[.string s] w (zja s w):=by
 have AT:=hid (zmm s w hv hs);have HV:=hid hv;clear hv;go_enter Tryz.func79,Tryz.ntmps79;go_wp2_with fail;refine AT.out.mono ?_;rintro e w1 ⟨n,v,rfl,hn,hc,f1⟩;have IT:=hid (fun(W:World) (hW:Fr [] w1 W)=>zfx n W (HV.out.fr (f1.trans hW)) hn);have II:=hid (fun(W:World)=>z6j n W);have F1:=hid f1;clear f1;rcases hc with⟨rfl,ho⟩|⟨⟨t,N,rfl⟩,hno⟩
 ·have hp:=zh0 ho;have hq:=eqB ⟨(Lib.itoa n).toArray⟩ s;by_cases h1:Lib.itoa n=s.data.toList
  ·have e1:(⟨(Lib.itoa n).toArray⟩:ByteArray)=s:=by rw[h1]
   rw[e1]  at hq IT;have q1:(s.toList==s.toList)=true:=by simp
   by_cases h2:z0i n=true
   ·rw[if_pos ⟨h1,h2⟩] at hp;rw[h2] at II;have HP:=hid hp;clear hp ho hq h1 h2 e1;go_wp2_with fail;refine(IT.out _ (Fr.refl [] _)).mono ?_;rintro e w2 ⟨rfl,f2⟩;go_wp2_with fail;refine(II.out _).mono ?_;rintro e w3 ⟨rfl,h3⟩;subst h3;go_wp2;go_ret2;exact⟨n,by rw[HP.out];rfl,hn,(fun v h=>by rw[HP.out] at h;injection h),F1.out.trans f2⟩
   ·rw[if_neg (fun h=>h2 h.2)] at hp;rw[show z0i n=false by simpa using h2] at II;have HP:=hid hp;clear hp ho hq h1 h2 e1;go_wp2_with fail;refine(IT.out _ (Fr.refl [] _)).mono ?_;rintro e w2 ⟨rfl,f2⟩;go_wp2_with fail;refine(II.out _).mono ?_;rintro e w3 ⟨rfl,h3⟩;subst h3;go_wp2;go_ret2;exact⟨n,by rw[HP.out];rfl,hn,(fun v h=>by rw[HP.out] at h;cases h),F1.out.trans f2⟩
  ·rw[if_neg (fun h=>h1 h.1)] at hp;have HP:=hid hp
   have q1:((⟨(Lib.itoa n).toArray⟩:ByteArray).toList==s.toList)=false:=by
    rw[hq];exact decide_eq_false (fun e=>h1 (by rw[←e]))
   clear hp ho hq h1;generalize (⟨(Lib.itoa n).toArray⟩:ByteArray)=r at *;go_wp2_with fail;refine(IT.out _ (Fr.refl [] _)).mono ?_;rintro e w2 ⟨rfl,f2⟩;go_wp2;go_ret2;exact⟨n,by rw[HP.out];rfl,hn,(fun v h=>by rw[HP.out] at h;cases h),F1.out.trans f2⟩
 ·have HP:=hid hno;clear hno;go_wp2;go_ret2;exact⟨n,by rw[HP.out];rfl,hn,(fun v h=>by rw[HP.out] at h;cases h),F1.out⟩
theorem zu8(g:Nat)(lb:Array Value)(eg:∀args w,(callFunc g args).run prog w=.ok (.enter g args) w)(p:ByteArray→Bool)(D:Nat)(l:List ByteArray)(A:Option Addr)(c B:Nat)(w:World)(hp:zkr g lb p D w)(hl:l.length≤281474976710656)(hB:B≤w.heap.size)
  (hsl:Sl w B 1 (.slice A l.length c) l.length (z04 l)):
  Calls prog 132 #[.slice A l.length c,.func (Fn.func g) #[] lb] w fun e w'=>e=.returned (.bool (l.any p))∧Fr [] w w':=by
 have I:=hid (zmu g lb eg p D l A c B w hp hl hB hsl);have h:=z7l p l;clear hsl hp;generalize z34 p l=r at *;generalize l.any p=b at *;generalize l.length=n at *;cases b
 ·have hr:r < 0:=by simpa using h
  clear h;go_enter Tryz.func132,Tryz.ntmps132;go_wp2_with fail;refine I.out.mono ?_;rintro e w1 ⟨rfl,h1⟩;go_wp2;go_ret;exact⟨by simp <;> omega,h1⟩
 ·have hr:0≤r:=by simpa using h
  clear h;go_enter Tryz.func132,Tryz.ntmps132;go_wp2_with fail;refine I.out.mono ?_;rintro e w1 ⟨rfl,h1⟩;go_wp2;go_ret;exact⟨by simp <;> omega,h1⟩
def z0x(l:List ByteArray):Int:=if l.length=0 then 1 else if 12 < l.length then 2 else if l.any z4h=true then 2 else 0
theorem z3m{l:List ByteArray}(h:z0x l=0):q0e l:=by
 unfold z0x at h;split at h
 ·cases h
 ·split at h
  ·cases h
  ·split at h
   ·cases h
   ·rename_i h1 h2 h3;refine⟨by omega,by omega,fun s hs=>?_⟩;have:=h3;simp only[Bool.not_eq_true,List.any_eq_false] at this;have:=this s hs;unfold z4h at this;simp at this;exact this
theorem znf(s:ByteArray)(w:World):Calls prog 133 (#[.string s]++#[]) w fun e w'=>e=.returned (.bool (z4h s))∧w'=w:=by
 unfold z4h;go_enter Tryz.func133,Tryz.ntmps133;go_wp2;go_ret;exact⟨by simp <;> omega,rfl⟩
theorem z6h(l:List ByteArray)(A:Option Addr)(c B:Nat)(w:World)(hl:l.length≤281474976710656)(hB:B≤w.heap.size)(h:Sl w B 1 (.slice A l.length c) l.length (z04 l)):
  Calls prog 76 #[.slice A l.length c] w fun e w'=>e=.returned (.int .i64 (z0x l))∧Fr [] w w':=by
 have CF:=hid (zu8 133 #[] (z1t Tryz.func133 (by kernel_rfl) rfl) z4h w.heap.size l A c B w (fun W x hW=>(znf x W).mono fun e w' ⟨he,hw⟩=>⟨he,by rw[hw];exact Fr.refl _ _⟩) hl hB h);have EW:z0x l=if l.length=0 then 1 else if 12 < l.length then 2 else if l.any z4h=true then 2 else 0:=rfl
 clear h;by_cases h0:l.length=0
 ·rw[EW,if_pos h0];have q:((l.length:Int)==0)=true:=beq_iff_eq.2 (by omega);clear EW CF;go_enter Tryz.func76,Tryz.ntmps76;go_wp2;go_ret;exact⟨rfl,Fr.refl _ _⟩
 ·have q:((l.length:Int)==0)=false:=beq_eq_false_iff_ne.2 (by omega);rw[EW,if_neg h0];by_cases h12:12 < l.length
  ·rw[if_pos h12];clear EW CF h0;have q2:(l.length:Int) > 12:=by omega
   go_enter Tryz.func76,Tryz.ntmps76;go_wp2;go_ret;exact⟨rfl,Fr.refl _ _⟩
  ·rw[if_neg h12];have q2:¬(l.length:Int) > 12:=by omega
   clear EW h0;generalize l.any z4h=b at *;cases b
   all_goals
    go_enter Tryz.func76,Tryz.ntmps76;go_wp2_with fail;refine CF.out.mono ?_;rintro e w1 ⟨rfl,f1⟩;go_wp2;go_ret;exact⟨rfl,f1⟩
theorem zt8(n:Nat):Lib.itoa (n:Int)=Lib.decDigits n:=by
 unfold Lib.itoa;rw[if_neg (by omega)];simp
theorem zcy{u:Nat}(h:u < 100):(Lib.decDigits u).length≤2:=by
 rcases zxr h with⟨_,e⟩|⟨_,e⟩ <;> rw[e] <;> simp
structure BW(w:World)(l:List UInt8)(wr:World):Prop where
 bld:∃own ds,ze9 218 w.heap.size 0 w.heap.size own ds l wr
 f:Fr [] w wr
theorem ze9.frz{T g off base:Nat}{own:Option Nat}{cs:List Value}{m:List UInt8}{w w1:World}(h:ze9 T g off base own cs m w)(hf:Fr [] w w1):ze9 T g off base own cs m w1:=by
 obtain⟨v,h1,h2,h3⟩:=h.buf;exact⟨h.whole.fr hf (by simp),h.addr,⟨v,h1,z0p h2 hf (by simp),h3⟩,h.base,h.ne,h.lies⟩
theorem BW.start(w:World):BW w [] (w.alloc (.cells #[.pointer none,.slice none 0 0] 218)):=
 ⟨⟨none,[.pointer none,.slice none 0 0],Whole.new w _ _,.inl rfl,⟨_,rfl,World.ownsRow_nil _ _ _ _,rfl⟩,Nat.le_refl _,by decide,by kernel_rfl⟩,(Fr.refl [] w).alloc _⟩
theorem BW.fr{w wr w1:World}{l:List UInt8}(h:BW w l wr)(k:Fr [] wr w1):BW w l w1:=by
 obtain⟨own,ds,hb⟩:=h.bld;exact⟨⟨own,ds,hb.frz k⟩,h.f.trans k⟩
def WrP(w:World)(l:List UInt8)(s:ByteArray)(e:Ending)(w':World):Prop:=e=.returned (.tuple #[.int .i64 s.size,.nilIface])∧BW w (l++s.data.toList) w'
theorem BW.write{w wr:World}{l:List UInt8}(h:BW w l wr)(s:ByteArray)(hl:l.length+s.size≤140737488355328):
  Calls prog 199 #[.pointer (some ⟨w.heap.size,0,none⟩),.string s] wr (WrP w l s):=by
 obtain⟨own,ds,hb⟩:=h.bld;refine(zdo s hb hl h.f.size).mono ?_;rintro e w1 ⟨rfl,hw⟩;have hb2:=Wrote.of_base hb;obtain⟨own',cs',b',l',e',o',f'⟩:=hw;exact⟨rfl,⟨own',cs',b'⟩,h.f.step f' (fun x hx=>.inr (hb2 x hx))⟩
theorem BW.string{w wr:World}{l:List UInt8}(h:BW w l wr)(h0:l≠[]):
  Calls prog 200 #[.pointer (some ⟨w.heap.size,0,none⟩)] wr fun e w'=>e=.returned (.string ⟨l.toArray⟩)∧Fr [] w w':=by
 obtain⟨own,ds,hb⟩:=h.bld;refine(zn6 hb h0).mono ?_;rintro e w1 ⟨rfl,f⟩;exact⟨rfl,h.f.step f (fun x hx=>.inr (Wrote.of_base hb x (List.mem_cons_of_mem _ hx)))⟩
theorem zno(a b c:ByteArray):(a++b++c).data.toList=a.data.toList++b.data.toList++c.data.toList:=by simp
attribute [local go_sem ↓] Go.wp_at_zero Go.wp_at_succ
def z0t(x:Itm):Bool:=x.kind==0&&z6k x
def z02(k:Int)(x:Itm):Int:=if z0t x=true then 0 else if z0e x=0 then (if x.kind=k then 0 else 7) else z0e x
theorem z71(x:Itm)(v:Value)(w:World)(B:Nat)(hs:x.Small)(hB:B≤w.heap.size)(h:z0r w B v x):
  Calls prog 158 #[v] w fun e w'=>e=.returned (.bool (z0t x))∧Fr [] w w':=by
 have Bq:=hid (fun W (hf:Fr [] w W)=>zma x v W B hs (h.fr hf hB (by simp)));obtain⟨A1,c1,A2,c2,A3,c3,rfl,h1,h2,h3⟩:=h;have F0:Fr [] w (w.alloc (.cells #[.int .i64 x.kind,.string x.text,.slice A1 x.list.length c1,.slice A2 x.pairs.length c2,.slice A3 x.scores.length c3] 65)):=(Fr.refl [] w).alloc _;have hE:z0t x=(x.kind==0&&z6k x):=rfl;clear h1 h2 h3 hs;generalize z0t x=r at *;generalize z6k x=b at *;generalize x.list.length=n1 at *;generalize x.pairs.length=n2 at *;generalize x.scores.length=n3 at *;generalize x.kind=k at *;by_cases hk:k=0
 ·subst hk;rw[show((0:Int)==0)=true from rfl,Bool.true_and] at hE;subst hE;go_enter Tryz.func158,Tryz.ntmps158;go_wp2_with fail;refine(Bq.out _ F0).mono ?_;rintro e w1 ⟨rfl,f1⟩;go_wp2;go_ret;exact⟨rfl,F0.trans f1⟩
 ·have q:(k==0)=false:=by simpa using hk
  rw[q,Bool.false_and] at hE;subst hE;clear hk;go_enter Tryz.func158,Tryz.ntmps158;go_wp2;go_ret;exact⟨rfl,F0⟩
theorem zi4(x:Itm)(k:Int)(v:Value)(w:World)(B:Nat)(hs:x.Small)(hB:B≤w.heap.size)(h:z0r w B v x):
  Calls prog 344 #[v,.int .i64 k] w fun e w'=>e=.returned (.int .i64 (z02 k x))∧Fr [] w w':=by
 have NO:=hid (fun W (hf:Fr [] w W)=>z71 x v W B hs (Nat.le_trans hB hf.size) (h.fr hf hB (by simp)));have CK:=hid (fun W (hf:Fr [] w W)=>z6x x v W B hs (Nat.le_trans hB hf.size) (h.fr hf hB (by simp)));obtain⟨A1,c1,A2,c2,A3,c3,rfl,h1,h2,h3⟩:=h;have F0:Fr [] w (w.alloc (.cells #[.int .i64 x.kind,.string x.text,.slice A1 x.list.length c1,.slice A2 x.pairs.length c2,.slice A3 x.scores.length c3] 65)):=(Fr.refl [] w).alloc _;have V0:=hid (show Whole (w.alloc (.cells #[.int .i64 x.kind,.string x.text,.slice A1 x.list.length c1,.slice A2 x.pairs.length c2,.slice A3 x.scores.length c3] 65)) w.heap.size 65 [.int .i64 x.kind,.string x.text,.slice A1 x.list.length c1,.slice A2 x.pairs.length c2,.slice A3 x.scores.length c3] from Whole.new w _ _);have hE:z02 k x=if z0t x=true then 0 else if z0e x=0 then (if x.kind=k then 0 else 7) else z0e x:=rfl
 clear h1 h2 h3 hs;generalize z02 k x=r at *;generalize z0t x=b at *;generalize z0e x=c at *;generalize x.list.length=n1 at *;generalize x.pairs.length=n2 at *;generalize x.scores.length=n3 at *;generalize x.kind=j at *;obtain⟨d0,d1,d2,d3,d4⟩:=five V0.out;cases b
 ·rw[if_neg (by decide)] at hE;by_cases hc:c=0
  ·subst hc;rw[if_pos rfl] at hE;by_cases hj:j=k
   ·subst hj;rw[if_pos rfl] at hE;subst hE;have q:(j != j)=false:=by simp
    go_enter Tryz.func344,Tryz.ntmps344;go_wp2_with fail;refine(NO.out _ F0).mono ?_;rintro e w1 ⟨rfl,f1⟩;have F1:=F0.trans f1;have V1:=hid (V0.out.fr f1 (by simp));clear d0 d1 d2 d3 d4;obtain⟨d0,d1,d2,d3,d4⟩:=five V1.out;go_wp2_with fail;refine(CK.out _ F1).mono ?_;rintro e w2 ⟨rfl,f2⟩;have V2:=hid (V1.out.fr f2 (by simp));clear d0 d1 d2 d3 d4;obtain⟨d0,d1,d2,d3,d4⟩:=five V2.out;go_wp2;go_ret;exact⟨rfl,F1.trans f2⟩
   ·rw[if_neg hj] at hE;subst hE;have q:(j != k)=true:=by simpa using hj
    clear hj;go_enter Tryz.func344,Tryz.ntmps344;go_wp2_with fail;refine(NO.out _ F0).mono ?_;rintro e w1 ⟨rfl,f1⟩;have F1:=F0.trans f1;have V1:=hid (V0.out.fr f1 (by simp));clear d0 d1 d2 d3 d4;obtain⟨d0,d1,d2,d3,d4⟩:=five V1.out;go_wp2_with fail;refine(CK.out _ F1).mono ?_;rintro e w2 ⟨rfl,f2⟩;have V2:=hid (V1.out.fr f2 (by simp));clear d0 d1 d2 d3 d4;obtain⟨d0,d1,d2,d3,d4⟩:=five V2.out;go_wp2;go_ret;exact⟨rfl,F1.trans f2⟩
  ·rw[if_neg hc] at hE;subst hE;have q:(r != 0)=true:=by simpa using hc
   clear hc;go_enter Tryz.func344,Tryz.ntmps344;go_wp2_with fail;refine(NO.out _ F0).mono ?_;rintro e w1 ⟨rfl,f1⟩;have F1:=F0.trans f1;have V1:=hid (V0.out.fr f1 (by simp));clear d0 d1 d2 d3 d4;obtain⟨d0,d1,d2,d3,d4⟩:=five V1.out;go_wp2_with fail;refine(CK.out _ F1).mono ?_;rintro e w2 ⟨rfl,f2⟩;go_wp2;go_ret;exact⟨rfl,F1.trans f2⟩
 ·rw[if_pos rfl] at hE;subst hE;go_enter Tryz.func344,Tryz.ntmps344;go_wp2_with fail;refine(NO.out _ F0).mono ?_;rintro e w1 ⟨rfl,f1⟩;go_wp2;go_ret;exact⟨rfl,F0.trans f1⟩
theorem z7r(x:Itm):z0t x=(x.kind==0&&(x.text.size==0&&many x==0)):=by
 unfold z0t;by_cases hk:x.kind=0
 ·rw[hk];unfold z6k many;rw[hk];generalize x.text.size=a;generalize x.list.length=n1;generalize x.pairs.length=n2;generalize x.scores.length=n3;rw[Bool.eq_iff_iff];simp;omega
 ·have q:(x.kind==0)=false:=by simpa using hk
  rw[q,Bool.false_and,Bool.false_and]
theorem zg5(x:Itm)(v:Value)(w:World)(B:Nat)(hs:x.Small)(hB:B≤w.heap.size)(h:z0r w B v x):
  Calls prog 92 #[v] w fun e w'=>e=.returned (.bool (z0t x))∧Fr [] w w':=by
 obtain⟨A1,c1,A2,c2,A3,c3,rfl,h1,h2,h3⟩:=h;have F0:Fr [] w (w.alloc (.cells #[.int .i64 x.kind,.string x.text,.slice A1 x.list.length c1,.slice A2 x.pairs.length c2,.slice A3 x.scores.length c3] 65)):=(Fr.refl [] w).alloc _;have hE:=z7r x;rw[show(many x==0)=(x.list.length+x.pairs.length+x.scores.length==0) from rfl] at hE;have s1:=hs.list;have s2:=hs.pairs;have s3:=hs.scores;clear h1 h2 h3 hs;generalize z0t x=r at *;generalize x.list.length=n1 at *;generalize x.pairs.length=n2 at *;generalize x.scores.length=n3 at *;generalize x.text=t at *;generalize x.kind=k at *;by_cases hk:k=0
 ·subst hk;by_cases ht:t.size=0
  ·obtain rfl:=nilOf ht;by_cases hm:n1+n2+n3=0
   ·obtain rfl:n1=0:=by omega
    obtain rfl:n2=0:=by omega
    obtain rfl:n3=0:=by omega
    obtain rfl:r=true:=hE;clear hm ht;go_enter Tryz.func92,Tryz.ntmps92;go_wp2;go_ret;exact⟨rfl,F0⟩
   ·have hr:r=false:=by rw[hE];simp;omega
    subst hr;have q:((n1:Int)+(n2:Int)+(n3:Int)==0)=false:=by simp;omega
    have q2:¬((n1:Int)+(n2:Int)+(n3:Int)=0):=by omega
    clear hE hm ht;go_enter Tryz.func92,Tryz.ntmps92;go_wp2;go_ret;exact⟨rfl,F0⟩
  ·obtain⟨yT1,yT2⟩:=neNil ht;have yT3:(t.toList==[])=false:=by simpa using yT1
   have hr:r=false:=by rw[hE,beq_eq_false_iff_ne.2 ht];rfl
   subst hr;clear hE ht;go_enter Tryz.func92,Tryz.ntmps92;go_wp2;go_ret;exact⟨rfl,F0⟩
 ·have q:(k==0)=false:=by simpa using hk
  rw[q,Bool.false_and] at hE;subst hE;clear hk;go_enter Tryz.func92,Tryz.ntmps92;go_wp2;go_ret;exact⟨rfl,F0⟩
theorem z42{w wr:World}{o:Nat}(h:Fr [] w wr)(ho:w.heap.size≤o)(a b c d e:Value):Fr [] w (zt1 wr o a b c d e):=
 ((((h.setCell (p:=⟨o,0,none⟩) (.inr ho) _).setCell (p:=⟨o,1,none⟩) (.inr ho) _).setCell (p:=⟨o,2,none⟩) (.inr ho) _).setCell (p:=⟨o,3,none⟩) (.inr ho) _).setCell (p:=⟨o,4,none⟩) (.inr ho) _
def zfi(l:List ByteArray):Itm:=⟨2,⟨#[]⟩,l,[],[]⟩
def z13(l:List ByteArray):Int:=if l.length=0 then 1 else if l.any z4h=true then 2 else 0
end Go.Proofs.YtmalkppcahogjaaGreatDoor
namespace Go.Proofs.YtmalkppcahogjaaGreatDoor
open Lib (hid)
open Go.Proofs.Tryz (prog)
structure AsOk(k:Int)(x:Itm):Prop where
 kind:x.kind=0∨x.kind=k
 le24:many x≤24
 text:x.text.size≤60
 texts:∀s∈x.list,s.size≤60
 fields:∀p∈x.pairs,p.1.size≤60∧p.2.size≤60
 members:∀p∈x.scores,z0i p.1=true∧p.2.size≤60
 bare:z6k x=true
 none:x.kind=0→many x=0
 some:x.kind≠0→z0e x=0
theorem z1j{k:Int}{x:Itm}(h:z02 k x=0):AsOk k x:=by
 unfold z02 at h;by_cases hn:z0t x=true
 ·unfold z0t at hn;rw[Bool.and_eq_true] at hn;obtain⟨h1,h2⟩:=hn;have hk:x.kind=0:=by simpa using h1
  have hb:=h2;unfold z6k at hb;rw[hk] at hb;simp at hb;obtain⟨⟨⟨e1,e2⟩,e3⟩,e4⟩:=hb;have e2:x.list=[]:=by simpa using e2
  have e3:x.pairs=[]:=by simpa using e3
  have e4:x.scores=[]:=by simpa using e4
  have e1:x.text.size=0:=by
   first|exact e1|(rw[e1];rfl)
  exact⟨.inl hk,by unfold many;rw[e2,e3,e4];simp,by omega,by rw[e2];simp,by rw[e3];simp,by rw[e4];simp,h2,fun _=>by unfold many;rw[e2,e3,e4];simp,fun hn=>absurd hk hn⟩
 ·rw[if_neg hn] at h;by_cases hc:z0e x=0
  ·rw[if_pos hc] at h;have r:=z4x hc;by_cases hk:x.kind=k
   ·exact⟨.inr hk,r.many,r.text,r.texts,r.fields,r.members,r.bare,fun h0=>by have:=r.kind;omega,fun _=>hc⟩
   ·rw[if_neg hk] at h;cases h
  ·rw[if_neg hc] at h;exact absurd h hc
def z5u(n:Nat)(f t:Int):Nat:=
 let f':=if f < 0 then max 0 (f+n) else f
 let t':=min (if t < 0 then t+n else t) ((n:Int) - 1)
 if f' > t' then 0 else f'.toNat
def z5q(n:Nat)(f t:Int):Nat:=
 let f':=if f < 0 then max 0 (f+n) else f
 let t':=min (if t < 0 then t+n else t) ((n:Int) - 1)
 if f' > t' then 0 else (t'+1).toNat
theorem z5s(n:Nat)(f t:Int):z5u n f t≤z5q n f t∧z5q n f t≤n:=by
 unfold z5u z5q;simp only;by_cases h:(if f < 0 then max 0 (f+n) else f) > min (if t < 0 then t+n else t) ((n:Int) - 1)
 ·rw[if_pos h,if_pos h];omega
 ·rw[if_neg h,if_neg h];have:0≤(if f < 0 then max 0 (f+(n:Int)) else f):=by split <;> omega
  omega
def z25{α:Type}(l:List α)(f t:Int):List α:=(l.take (z5q l.length f t)).drop (z5u l.length f t)
def z14(x:Itm)(l:List ByteArray):Int:=if z02 2 x≠0 then z02 2 x else if z13 l≠0 then z13 l else if 24 < x.list.length+l.length then 2 else 0
def z7c(x:Itm)(left:Bool)(l:List ByteArray):List ByteArray:=if left then l.reverse++x.list else x.list++l
def z1r(x:Itm):Int:=if z02 2 x≠0 then z02 2 x else if x.kind=0 then 5 else 0
def zt3(x:Itm)(left:Bool):List ByteArray:=if left then x.list.drop 1 else x.list.take (x.list.length - 1)
def zzm(x:Itm)(left:Bool):ByteArray:=x.list.getD (if left then 0 else x.list.length - 1) ⟨#[]⟩
def zo0(x:Itm)(s:ByteArray):List ByteArray:=x.list.filter fun y=>!decide (y=s)
def ofL(l:List ByteArray):Itm:=if l.length=0 then z2p 0 else zfi l
def z8w(x:Itm)(left:Bool)(l:List ByteArray):Itm:=if z14 x l=0 then ofL (z7c x left l) else z2p 0
def zc3(x:Itm)(left:Bool)(l:List ByteArray):Int:=if z14 x l=0 then (z7c x left l).length else 0
def zei(x:Itm)(left:Bool):Itm:=if z1r x=0 then ofL (zt3 x left) else z2p 0
def zt5(x:Itm)(left:Bool):ByteArray:=if z1r x=0 then zzm x left else ⟨#[]⟩
def zot(x:Itm)(s:ByteArray):Itm:=if z02 2 x=0 then ofL (zo0 x s) else z2p 0
def zw6(x:Itm)(s:ByteArray):Int:=if z02 2 x=0 then (x.list.length:Int) - (zo0 x s).length else 0
theorem z67{l:List ByteArray}(h:z13 l=0):∀s∈l,s.size≤60:=by
 unfold z13 at h;by_cases h0:l.length=0
 ·rw[if_pos h0] at h;cases h
 ·rw[if_neg h0] at h;by_cases h1:l.any z4h=true
  ·rw[if_pos h1] at h;cases h
  ·intro s hs;rw[Bool.not_eq_true,List.any_eq_false] at h1;have:=h1 s hs;unfold z4h at this;simpa using this
theorem zgh{x:Itm}{left:Bool}{l:List ByteArray}{s:ByteArray}(h:s∈z7c x left l):s∈x.list∨s∈l:=by
 unfold z7c at h;cases left
 ·simpa using h
 ·simpa[or_comm] using h
theorem z43(x:Itm)(left:Bool)(l:List ByteArray):(z7c x left l).length=x.list.length+l.length:=by
 unfold z7c;cases left
 ·simp
 ·simp;omega
theorem z2e{α:Type}(l:List α)(f t:Int):(z25 l f t).length=z5q l.length f t - z5u l.length f t:=by
 unfold z25;have:=z5s l.length f t;rw[List.length_drop,List.length_take];omega
theorem z6o{α:Type}{l:List α}{f t:Int}{s:α}(h:s∈z25 l f t):s∈l:=List.mem_of_mem_take (List.mem_of_mem_drop h)
end Go.Proofs.YtmalkppcahogjaaGreatDoor
namespace Go.Proofs.YtmalkppcahogjaaGreatDoor
open Lib (hid)
open Go.Proofs.Tryz (prog)
open Go.RowKit
theorem tup2{a b c d:Int}(h1:a=b)(h2:c=d):Ending.returned (.tuple #[.int .i64 a,.int .i64 c])=.returned (.tuple #[.int .i64 b,.int .i64 d]):=by rw[h1,h2]
theorem zzg(a b:Int)(h:0≤a):((if a > b then 0 else a.toNat:Nat):Int)=if a > b then 0 else a:=by split <;> omega
theorem q01(a b:Int)(h:0≤a):((if a > b then 0 else (b+1).toNat:Nat):Int)=if a > b then 0 else b+1:=by split <;> omega
theorem zfw(n:Nat)(f t:Int)(w:World)(hn:n≤281474976710656)(hf:-9223372036854775808≤f∧f≤9223372036854775807)(ht:-9223372036854775808≤t∧t≤9223372036854775807):
  Calls prog 296 #[.int .i64 n,.int .i64 f,.int .i64 t] w fun e w'=>e=.returned (.tuple #[.int .i64 (z5u n f t:Nat),.int .i64 (z5q n f t:Nat)])∧w=w':=by
 have SA:=hid (show(z5u n f t:Int)=if (if f < 0 then max 0 (f+n) else f) > min (if t < 0 then t+n else t) ((n:Int) - 1) then 0 else (if f < 0 then max 0 (f+n) else f) from zzg _ _ (by split <;> omega));have SB:=hid (show(z5q n f t:Int)=if (if f < 0 then max 0 (f+n) else f) > min (if t < 0 then t+n else t) ((n:Int) - 1) then 0 else min (if t < 0 then t+n else t) ((n:Int) - 1)+1 from q01 _ _ (by split <;> omega));obtain⟨hf1,hf2⟩:=hf;obtain⟨ht1,ht2⟩:=ht;by_cases h1:f < 0 <;> by_cases h2:t < 0
 all_goals
  go_enter Tryz.func296,Tryz.ntmps296;go_wp2
  all_goals
   go_ret2;refine⟨tup2 ?_ ?_,rfl⟩
   ·rw[SA.out]
    (repeat' split) <;> omega
   ·rw[SB.out]
    (repeat' split) <;> omega
structure BX(w:World)(cs:List Value)(wr:World):Prop where
 b:Whole wr w.heap.size 65 cs
 f:Fr [] w wr
theorem BX.new(w:World)(a b c d e:Value):BX w [a,b,c,d,e] (w.alloc (.cells #[a,b,c,d,e] 65)):=⟨Whole.new w _ _,(Fr.refl [] w).alloc _⟩
theorem BX.go{w wr w1:World}{cs:List Value}(h:BX w cs wr)(k:Fr [] wr w1):BX w cs w1:=⟨h.b.fr k (by simp),h.f.trans k⟩
structure BO(w:World)(n:Nat)(cs:List Value)(wr:World):Prop where
 b:Whole wr w.heap.size 65 cs
 o:Whole wr (w.heap.size+n) 65 [.int .i64 0,.string ⟨#[]⟩,.slice none 0 0,.slice none 0 0,.slice none 0 0]
 f:Fr [] w wr
theorem BO.new(w:World)(a b c d e:Value):BO w 1 [a,b,c,d,e] ((w.alloc (.cells #[a,b,c,d,e] 65)).alloc (.cells #[.int .i64 0,.string ⟨#[]⟩,.slice none 0 0,.slice none 0 0,.slice none 0 0] 65)):=
 ⟨(Whole.new w _ _).alloc _,by
  have:=Whole.new (w.alloc (.cells #[a,b,c,d,e] 65)) 65 [.int .i64 0,.string ⟨#[]⟩,.slice none 0 0,.slice none 0 0,.slice none 0 0];simpa using this,((Fr.refl [] w).alloc _).alloc _⟩
theorem BO.new2(w:World)(a b c d e s:Value):BO w 2 [a,b,c,d,e] (((w.alloc (.cells #[a,b,c,d,e] 65)).alloc (.cells #[s] 9)).alloc (.cells #[.int .i64 0,.string ⟨#[]⟩,.slice none 0 0,.slice none 0 0,.slice none 0 0] 65)):=
 ⟨((Whole.new w _ _).alloc _).alloc _,by
  have:=Whole.new ((w.alloc (.cells #[a,b,c,d,e] 65)).alloc (.cells #[s] 9)) 65 [.int .i64 0,.string ⟨#[]⟩,.slice none 0 0,.slice none 0 0,.slice none 0 0];simpa using this,(((Fr.refl [] w).alloc _).alloc _).alloc _⟩
theorem BO.newL(w:World)(a b c d e s:Value):BO w 2 [a,b,c,d,e] (((w.alloc (.cells #[a,b,c,d,e] 65)).alloc (.cells #[s] 24)).alloc (.cells #[.int .i64 0,.string ⟨#[]⟩,.slice none 0 0,.slice none 0 0,.slice none 0 0] 65)):=
 ⟨((Whole.new w _ _).alloc _).alloc _,by
  have:=Whole.new ((w.alloc (.cells #[a,b,c,d,e] 65)).alloc (.cells #[s] 24)) 65 [.int .i64 0,.string ⟨#[]⟩,.slice none 0 0,.slice none 0 0,.slice none 0 0];simpa using this,(((Fr.refl [] w).alloc _).alloc _).alloc _⟩
theorem BO.go{w wr w1:World}{n:Nat}{cs:List Value}(h:BO w n cs wr)(k:Fr [] wr w1):BO w n cs w1:=⟨h.b.fr k (by simp),h.o.fr k (by simp),h.f.trans k⟩
theorem BO.step{w wr w1:World}{n:Nat}{cs:List Value}{S:List Nat}(h:BO w n cs wr)(k:Fr S wr w1)(hS:∀g,g∈S→w.heap.size+n < g):BO w n cs w1:=
 ⟨h.b.fr k (fun hm=>by have:=hS _ hm;omega),h.o.fr k (fun hm=>by have:=hS _ hm;omega),h.f.step k (fun g hg=>.inr (by have:=hS g hg;omega))⟩
theorem BO.alloc{w wr:World}{n:Nat}{cs:List Value}(h:BO w n cs wr)(o:Obj):BO w n cs (wr.alloc o):=h.go ((Fr.refl [] wr).alloc o)
theorem BO.end5{w wr:World}{n:Nat}{cs:List Value}(h:BO w n cs wr)(a b c d e:Value):Fr [] w (zt1 wr (w.heap.size+n) a b c d e):=z42 h.f (by omega) _ _ _ _ _
theorem BO.lt{w wr:World}{n:Nat}{cs:List Value}(h:BO w n cs wr):w.heap.size+n < wr.heap.size:=h.o.lt
theorem z0q.form{w:World}{base:Nat}{v:Value}{x:Itm}(h:z0q w base v x):∃A1 c1 A2 c2 A3 c3,v=.agg #[.int .i64 x.kind,.string x.text,.slice A1 x.list.length c1,.slice A2 x.pairs.length c2,.slice A3 x.scores.length c3]:=by
 obtain⟨v1,v2,v3,rfl,o1,o2,o3⟩:=h;obtain⟨A1,c1,rfl⟩:=z7k (z0s o1);obtain⟨A2,c2,rfl⟩:=z7k (z0s o2);obtain⟨A3,c3,rfl⟩:=z7k (z0s o3);exact⟨A1,c1,A2,c2,A3,c3,rfl⟩
theorem z0r.form{w:World}{B:Nat}{v:Value}{x:Itm}(h:z0r w B v x):∃A1 c1 A2 c2 A3 c3,v=.agg #[.int .i64 x.kind,.string x.text,.slice A1 x.list.length c1,.slice A2 x.pairs.length c2,.slice A3 x.scores.length c3]:=by
 obtain⟨A1,c1,A2,c2,A3,c3,rfl,_⟩:=h;exact⟨A1,c1,A2,c2,A3,c3,rfl⟩
theorem z0w{w:World}{base e size n:Nat}{v:Value}{xs:List Value}(h:w.ownsRow base e size v n xs){p:Addr}(hp:p.block < base)(u:Value):(w.setCell p u).ownsRow base e size v n xs:=
 z22 u h (fun he=>by have:=(h.lt _ he).1;omega)
theorem z4y{w:World}{base e size n o:Nat}{v:Value}{xs:List Value}(h:w.ownsRow base e size v n xs)(ho:o < base)(a b c d f:Value):(zt1 w o a b c d f).ownsRow base e size v n xs:=
 z0w (p:=⟨o,4,none⟩) (z0w (p:=⟨o,3,none⟩) (z0w (p:=⟨o,2,none⟩) (z0w (p:=⟨o,1,none⟩) (z0w (p:=⟨o,0,none⟩) h ho _) ho _) ho _) ho _) ho _
theorem z1n{w:World}{base o:Nat}{v:Value}{x:Itm}(h:z0q w base v x)(ho:o < base)(a b c d e:Value):z0q (zt1 w o a b c d e) base v x:=by
 obtain⟨v1,v2,v3,rfl,o1,o2,o3⟩:=h;exact⟨_,_,_,rfl,z4y o1 ho _ _ _ _ _,z4y o2 ho _ _ _ _ _,z4y o3 ho _ _ _ _ _⟩
theorem z0q.go{w w':World}{base:Nat}{v:Value}{x:Itm}(h:z0q w base v x)(hf:Fr [] w w'):z0q w' base v x:=by
 obtain⟨v1,v2,v3,rfl,o1,o2,o3⟩:=h;exact⟨_,_,_,rfl,z0p o1 hf (by simp),z0p o2 hf (by simp),z0p o3 hf (by simp)⟩
theorem z0q.less{w:World}{base base':Nat}{v:Value}{x:Itm}(h:z0q w base v x)(hb:base'≤base):z0q w base' v x:=by
 obtain⟨v1,v2,v3,rfl,o1,o2,o3⟩:=h;exact⟨_,_,_,rfl,z16 o1 hb,z16 o2 hb,z16 o3 hb⟩
section
variable {w0 wr w1:World} {bl:List (Nat×List Value)} {its:List (Value×Itm)} {rs:List (Nat×Value×Nat×List Value)}
theorem zn8{w:World}{g:Nat}{a b c d e a' b' c' d' e':Value}(h:Whole w g 65 [a,b,c,d,e]):Whole (zt1 w g a' b' c' d' e') g 65 [a',b',c',d',e']:=
 ((((h.set_ 0 a').set_ 1 b').set_ 2 c').set_ 3 d').set_ 4 e'
end
def z4d(k code:Int)(y:Itm)(w:World)(e:Ending)(w':World):Prop:=∃u,e=.returned (.tuple #[u,.int .i64 k,.int .i64 code])∧z0q w' w.heap.size u y∧Fr [] w w'
def OwnI(base:Nat)(x:Itm)(w:World)(e:Ending)(w':World):Prop:=∃u,e=.returned u∧z0q w' base u x∧Fr [] w w'
def zw9(s:ByteArray)(code:Int)(w:World)(e:Ending)(w':World):Prop:=e=.returned (.tuple #[.string s,.int .i64 code])∧Fr [] w w'
theorem addS(a b:ByteArray)(hs:a.size+b.size≤9223372036854775807)(W:World):(Op.stringOp .add a b).run prog W=.ok (.string (a++b)) W:=
 run_string_add_sum W a b hs
def z45(s:ByteArray):Itm:=⟨1,s,[],[],[]⟩
theorem z0q.text(w:World)(base:Nat)(s:ByteArray):z0q w base (.agg #[.int .i64 1,.string s,.slice none 0 0,.slice none 0 0,.slice none 0 0]) (z45 s):=
 ⟨_,_,_,rfl,World.ownsRow_nil _ _ _ _,⟨rfl,.inl ⟨rfl,rfl⟩⟩,⟨rfl,.inl ⟨rfl,rfl⟩⟩⟩
theorem z8n{s:ByteArray}(h:s.size≤281474976710656):(z45 s).Small:=
 ⟨⟨by show -9223372036854775808≤(1:Int);omega,by show(1:Int)≤9223372036854775807;omega⟩,h,by show(0:Nat)≤_;omega,by show(0:Nat)≤_;omega,by show(0:Nat)≤_;omega,fun s hs=>absurd hs (by simp[z45]),fun s hs=>absurd hs (by simp[z45]),fun s hs=>absurd hs (by simp[z45])⟩
def z3a(x:Itm)(s:ByteArray):Int:=if z02 1 x≠0 then z02 1 x else if 60 < x.text.size+s.size then 2 else 0
def apY(x:Itm)(s:ByteArray):Itm:=if z3a x s=0 then z45 (x.text++s) else z2p 0
def apN(x:Itm)(s:ByteArray):Int:=if z3a x s=0 then ((x.text.size+s.size:Nat):Int) else 0
def lnN(x:Itm):Int:=if z02 1 x=0 then (x.text.size:Int) else 0
def rgS(x:Itm)(f t:Int):ByteArray:=if z02 1 x=0 then x.text.extract (z5u x.text.size f t) (z5q x.text.size f t) else ⟨#[]⟩
def q0q(n code:Int)(w:World)(e:Ending)(w':World):Prop:=e=.returned (.tuple #[.int .i64 n,.int .i64 code])∧Fr [] w w'
theorem zfk(s:ByteArray)(f t:Int):(s.extract (z5u s.size f t) (z5q s.size f t)).data.toList=z25 s.data.toList f t:=by
 have:=z5s s.size f t;have e:s.data.toList.length=s.size:=by simp
 unfold z25;rw[e];simp only[ByteArray.data_extract,Array.toList_extract,List.extract_eq_take_drop];rw[List.take_drop];congr 2;omega
theorem z84(x:Itm)(v:Value)(w:World)(B:Nat)(hs:x.Small)(hB:B≤w.heap.size)(h:z0r w B v x):
  Calls prog 295 #[v] w fun e w'=>e=.returned (.int .i64 (z02 1 x))∧Fr [] w w':=by
 have M:=hid (fun W (hf:Fr [] w W)=>zi4 x 1 v W B hs (Nat.le_trans hB hf.size) (h.fr hf hB (by simp)));obtain⟨A1,c1,A2,c2,A3,c3,rfl,h1,h2,h3⟩:=h;have F1:Fr [] w (w.alloc (.cells #[.int .i64 x.kind,.string x.text,.slice A1 x.list.length c1,.slice A2 x.pairs.length c2,.slice A3 x.scores.length c3] 65)):=(Fr.refl [] w).alloc _;go_enter Tryz.func295,Tryz.ntmps295;go_wp2_with fail;refine(M.out _ F1).mono ?_;rintro e w1 ⟨rfl,f1⟩;go_wp2;go_ret;exact⟨rfl,F1.trans f1⟩
theorem zgb(s:ByteArray)(w:World):
  Calls prog 234 #[.string s] w fun e w'=>e=.returned (.agg #[.int .i64 1,.string s,.slice none 0 0,.slice none 0 0,.slice none 0 0])∧Fr [] w w':=by
 have F1:Fr [] w (w.alloc (.cells #[.int .i64 0,.string ⟨#[]⟩,.slice none 0 0,.slice none 0 0,.slice none 0 0] 65)):=(Fr.refl [] w).alloc _;have R2:=hid (show Whole (w.alloc (.cells #[.int .i64 0,.string ⟨#[]⟩,.slice none 0 0,.slice none 0 0,.slice none 0 0] 65)) w.heap.size 65 [.int .i64 0,.string ⟨#[]⟩,.slice none 0 0,.slice none 0 0,.slice none 0 0] from Whole.new w _ _);obtain⟨a0,a1,a2,a3,a4⟩:=five R2.out;obtain⟨b0,b2,b3,b4,b5⟩:=z12 R2.out;go_enter Tryz.func234,Tryz.ntmps234;go_wp2;refine bodyPost_ret (v:=.agg #[.int .i64 1,.string s,.slice none 0 0,.slice none 0 0,.slice none 0 0]) (by simp[results,Tryz.results234,go_sem,a0,a1,a2,a3,a4]) rfl ?_;exact⟨rfl,(Fr.refl [] w).alloc _⟩
theorem zl5(x:Itm)(v:Value)(s:ByteArray)(w:World)(B:Nat)(hs:x.Small)(hB:B≤w.heap.size)(h:z0r w B v x)(hq:s.size≤281474976710656):
  Calls prog 235 #[v,.string s] w (z4d (apN x s) (z3a x s) (apY x s) w):=by
 have RD:=hid (fun W (hf:Fr [] w W)=>z84 x v W B hs (Nat.le_trans hB hf.size) (h.fr hf hB (by simp)));obtain⟨A1,c1,A2,c2,A3,c3,rfl,h1,h2,h3⟩:=h;have D0:=hid (BO.new w (.int .i64 x.kind) (.string x.text) (.slice A1 x.list.length c1) (.slice A2 x.pairs.length c2) (.slice A3 x.scores.length c3));obtain⟨d0,d1,d2,d3,d4⟩:=five D0.out.b;have hz:=hs.text;clear h1 h2 h3 hs;have EC:=hid (show z3a x s=if z02 1 x≠0 then z02 1 x else if 60 < x.text.size+s.size then 2 else 0 from rfl);have EY:=hid (show apY x s=if z3a x s=0 then z45 (x.text++s) else z2p 0 from rfl);have EN:=hid (show apN x s=if z3a x s=0 then ((x.text.size+s.size:Nat):Int) else 0 from rfl);have AD:=hid (addS x.text s (by omega));have SZ:=hid (show(x.text++s).size=x.text.size+s.size from by simp);by_cases ha:z02 1 x=0
 ·rw[ha] at RD;by_cases hc:60 < x.text.size+s.size
  ·have E:=hid (show z3a x s=2 from by rw[EC.out,if_neg (by simpa using ha),if_pos hc]);have e1:apY x s=z2p 0:=by rw[EY.out,E.out];rfl
   have e2:apN x s=0:=by rw[EN.out,E.out];rfl
   rw[e1,e2,E.out];have q:(x.text.size:Int)+(s.size:Int) > 60:=by omega
   clear e1 e2 E EC EY EN ha hc;go_enter Tryz.func235,Tryz.ntmps235;go_wp2_with fail;refine(RD.out _ D0.out.f).mono ?_;rintro e w1 ⟨rfl,f1⟩;have D1:=hid (D0.out.go f1);clear d0 d1 d2 d3 d4;obtain⟨d0,d1,d2,d3,d4⟩:=five D1.out.b;obtain⟨a0,a1,a2,a3,a4⟩:=five D1.out.o;obtain⟨b0,b2,b3,b4,b5⟩:=z12 D1.out.o;go_wp2;refine bodyPost_ret (v:=.tuple #[.agg #[.int .i64 0,.string ⟨#[]⟩,.slice none 0 0,.slice none 0 0,.slice none 0 0],.int .i64 0,.int .i64 2]) (by simp[results,Tryz.results235,go_sem,a0,a1,a2,a3,a4]) rfl ?_;exact⟨_,rfl,z0q.nothing _ _,D1.out.end5 _ _ _ _ _⟩
  ·have E:=hid (show z3a x s=0 from by rw[EC.out,if_neg (by simpa using ha),if_neg hc]);have e1:apY x s=z45 (x.text++s):=by rw[EY.out,E.out];rfl
   have e2:apN x s=((x.text.size+s.size:Nat):Int):=by rw[EN.out,E.out];rfl
   rw[e1,e2,E.out];have q:¬((x.text.size:Int)+(s.size:Int) > 60):=by omega
   have ADo:=AD.out;have SZo:=SZ.out;clear e1 e2 E EC EY EN ha hc AD SZ;go_enter Tryz.func235,Tryz.ntmps235;go_wp2_with fail;refine(RD.out _ D0.out.f).mono ?_;rintro e w1 ⟨rfl,f1⟩;have D1:=hid (D0.out.go f1);clear d0 d1 d2 d3 d4;obtain⟨d0,d1,d2,d3,d4⟩:=five D1.out.b;generalize x.text++s=y at *;go_wp2_with fail;refine(zgb y _).mono ?_;rintro e w2 ⟨rfl,f2⟩;have D2:=hid ((D1.out.go f2).alloc (.cells #[.int .i64 1,.string y,.slice none 0 0,.slice none 0 0,.slice none 0 0] 65));have V2:=hid (Whole.new w2 65 [.int .i64 1,.string y,.slice none 0 0,.slice none 0 0,.slice none 0 0]);clear d0 d1 d2 d3 d4;obtain⟨d0,d1,d2,d3,d4⟩:=five V2.out;obtain⟨a0,a1,a2,a3,a4⟩:=five D2.out.o;obtain⟨b0,b2,b3,b4,b5⟩:=z12 D2.out.o;have hz2:=(D1.out.go f2).lt;have n0:¬(w.heap.size+1=w2.heap.size):=by omega
   have n1:¬(w2.heap.size=w.heap.size+1):=by omega
   clear hz2;go_wp2_with fail;go_region_held3 (fun wx=>wx.cell? ⟨w2.heap.size,0,none⟩=some (.int .i64 1)∧wx.cell? ⟨w2.heap.size,1,none⟩=some (.string y)∧wx.cell? ⟨w2.heap.size,2,none⟩=some (.slice none 0 0)∧wx.cell? ⟨w2.heap.size,3,none⟩=some (.slice none 0 0)∧wx.cell? ⟨w2.heap.size,4,none⟩=some (.slice none 0 0)) (go_keep) (first|fail)
   go_wp2;refine bodyPost_ret (v:=.tuple #[.agg #[.int .i64 1,.string y,.slice none 0 0,.slice none 0 0,.slice none 0 0],.int .i64 ((x.text.size:Int)+(s.size:Int)),.int .i64 0]) (by simp[results,Tryz.results235,go_sem,a0,a1,a2,a3,a4,SZo]) rfl ?_;exact⟨_,rfl,z0q.text _ _ _,(D2.out.end5 _ _ _ _ _).drew⟩
 ·have E:=hid (show z3a x s=z02 1 x from by rw[EC.out,if_pos ha]);have e1:apY x s=z2p 0:=by rw[EY.out,E.out,if_neg ha]
  have e2:apN x s=0:=by rw[EN.out,E.out,if_neg ha]
  rw[e1,e2,E.out];have q:(z02 1 x != 0)=true:=by simpa using ha
  have q':(z02 1 x==0)=false:=by simpa using ha
  clear e1 e2 E EC EY EN ha;generalize z02 1 x=r at *;go_enter Tryz.func235,Tryz.ntmps235;go_wp2_with fail;refine(RD.out _ D0.out.f).mono ?_;rintro e w1 ⟨rfl,f1⟩;have D1:=hid (D0.out.go f1);clear d0 d1 d2 d3 d4;obtain⟨d0,d1,d2,d3,d4⟩:=five D1.out.b;obtain⟨a0,a1,a2,a3,a4⟩:=five D1.out.o;obtain⟨b0,b2,b3,b4,b5⟩:=z12 D1.out.o;go_wp2;refine bodyPost_ret (v:=.tuple #[.agg #[.int .i64 0,.string ⟨#[]⟩,.slice none 0 0,.slice none 0 0,.slice none 0 0],.int .i64 0,.int .i64 r]) (by simp[results,Tryz.results235,go_sem,a0,a1,a2,a3,a4]) rfl ?_;exact⟨_,rfl,z0q.nothing _ _,D1.out.end5 _ _ _ _ _⟩
theorem zvm(x:Itm)(v:Value)(w:World)(B:Nat)(hs:x.Small)(hB:B≤w.heap.size)(h:z0r w B v x):
  Calls prog 238 #[v] w (q0q (lnN x) (z02 1 x) w):=by
 have RD:=hid (fun W (hf:Fr [] w W)=>z84 x v W B hs (Nat.le_trans hB hf.size) (h.fr hf hB (by simp)));obtain⟨A1,c1,A2,c2,A3,c3,rfl,h1,h2,h3⟩:=h;have D0:=hid (BX.new w (.int .i64 x.kind) (.string x.text) (.slice A1 x.list.length c1) (.slice A2 x.pairs.length c2) (.slice A3 x.scores.length c3));obtain⟨d0,d1,d2,d3,d4⟩:=five D0.out.b;have hz:=hs.text;clear h1 h2 h3 hs;have EN:=hid (show lnN x=if z02 1 x=0 then (x.text.size:Int) else 0 from rfl);by_cases ha:z02 1 x=0
 ·rw[if_pos ha] at EN;rw[ha] at RD;rw[EN.out,ha];clear EN ha;go_enter Tryz.func238,Tryz.ntmps238;go_wp2_with fail;refine(RD.out _ D0.out.f).mono ?_;rintro e w1 ⟨rfl,f1⟩;have D1:=hid (D0.out.go f1);clear d0 d1 d2 d3 d4;obtain⟨d0,d1,d2,d3,d4⟩:=five D1.out.b;go_wp2;go_ret2;exact⟨rfl,D1.out.f⟩
 ·rw[if_neg ha] at EN;rw[EN.out];have q:(z02 1 x != 0)=true:=by simpa using ha
  clear EN ha;generalize z02 1 x=r at *;go_enter Tryz.func238,Tryz.ntmps238;go_wp2_with fail;refine(RD.out _ D0.out.f).mono ?_;rintro e w1 ⟨rfl,f1⟩;have D1:=hid (D0.out.go f1);clear d0 d1 d2 d3 d4;obtain⟨d0,d1,d2,d3,d4⟩:=five D1.out.b;go_wp2;go_ret2;exact⟨rfl,D1.out.f⟩
theorem zex(x:Itm)(v:Value)(f t:Int)(w:World)(B:Nat)(hs:x.Small)(hB:B≤w.heap.size)(h:z0r w B v x)(hf:-9223372036854775808≤f∧f≤9223372036854775807)(ht:-9223372036854775808≤t∧t≤9223372036854775807):
  Calls prog 230 #[v,.int .i64 f,.int .i64 t] w (zw9 (rgS x f t) (z02 1 x) w):=by
 have RD:=hid (fun W (hf:Fr [] w W)=>z84 x v W B hs (Nat.le_trans hB hf.size) (h.fr hf hB (by simp)));obtain⟨A1,c1,A2,c2,A3,c3,rfl,h1,h2,h3⟩:=h;have D0:=hid (BX.new w (.int .i64 x.kind) (.string x.text) (.slice A1 x.list.length c1) (.slice A2 x.pairs.length c2) (.slice A3 x.scores.length c3));obtain⟨d0,d1,d2,d3,d4⟩:=five D0.out.b;have hz:=hs.text;clear h1 h2 h3 hs;have EN:=hid (show rgS x f t=if z02 1 x=0 then x.text.extract (z5u x.text.size f t) (z5q x.text.size f t) else ⟨#[]⟩ from rfl);have SP:=hid (fun W=>zfw x.text.size f t W hz hf ht);obtain⟨l1,l2⟩:=z5s x.text.size f t;clear hf ht;by_cases ha:z02 1 x=0
 ·rw[if_pos ha] at EN;rw[ha] at RD;rw[EN.out,ha];clear EN ha;generalize z5u x.text.size f t=a at *;generalize z5q x.text.size f t=b at *;go_enter Tryz.func230,Tryz.ntmps230;go_wp2_with fail;refine(RD.out _ D0.out.f).mono ?_;rintro e w1 ⟨rfl,f1⟩;have D1:=hid (D0.out.go f1);clear d0 d1 d2 d3 d4;obtain⟨d0,d1,d2,d3,d4⟩:=five D1.out.b;go_wp2_with fail;refine(SP.out _).mono ?_;rintro e w2 ⟨rfl,rfl⟩;go_wp2;go_ret2;exact⟨rfl,D1.out.f⟩
 ·rw[if_neg ha] at EN;rw[EN.out];have q:(z02 1 x != 0)=true:=by simpa using ha
  clear EN ha SP l1 l2;generalize z02 1 x=r at *;go_enter Tryz.func230,Tryz.ntmps230;go_wp2_with fail;refine(RD.out _ D0.out.f).mono ?_;rintro e w1 ⟨rfl,f1⟩;have D1:=hid (D0.out.go f1);clear d0 d1 d2 d3 d4;obtain⟨d0,d1,d2,d3,d4⟩:=five D1.out.b;go_wp2;go_ret2;exact⟨rfl,D1.out.f⟩
attribute [local go_sem] z1k
def z5k(x:Itm):Int:=if x.kind=0 then 0 else (z2z x.text.data.toList).getD 0
def z3j(x:Itm)(n:Int):Int:=if z02 1 x≠0 then z02 1 x else if x.kind≠0∧z2z x.text.data.toList=none then 1 else if z0i n=true∧z0i (z5k x+n)=true then 0 else 3
def adY(x:Itm)(n:Int):Itm:=if z3j x n=0 then z45 ⟨(Lib.itoa (z5k x+n)).toArray⟩ else z2p 0
def adN(x:Itm)(n:Int):Int:=if z3j x n=0 then z5k x+n else 0
theorem q09{x:Itm}{n c:Int}(h:z3j x n=c)(hc:c≠0):adY x n=z2p 0∧adN x n=0:=by
 have h0:z3j x n≠0:=by rw[h];exact hc
 exact⟨by unfold adY;rw[if_neg h0],by unfold adN;rw[if_neg h0]⟩
theorem q0v{x:Itm}{n s:Int}(h:z3j x n=0)(hs:z5k x+n=s):adY x n=z45 ⟨(Lib.itoa s).toArray⟩∧adN x n=s:=by
 rw[←hs];exact⟨by unfold adY;rw[if_pos h],by unfold adN;rw[if_pos h]⟩
theorem z4f{n:Int}(h:z0i n=true):-999999999≤n∧n≤999999999:=by
 unfold z0i at h;simpa using h
theorem zkc{l:List UInt8}{v:Int}(h:z2z l=some v):-999999999≤v∧v≤999999999:=z4f (z4u.1 h).1
theorem z4g{n:Int}{b:Bool}(h:z0i n=b)(w:World):Calls prog 136 #[.int .i64 n] w fun e w'=>e=.returned (.bool b)∧w=w':=
 (z6j n w).mono fun e w' ⟨he,hw⟩=>⟨by rw[he,h],hw.symm⟩
theorem zw0(x:Itm)(v:Value)(n:Int)(w:World)(B:Nat)(hs:x.Small)(hB:B≤w.heap.size)(h:z0r w B v x)(hn:-9223372036854775808≤n∧n≤9223372036854775807)(hw:Vars w):
  Calls prog 239 #[v,.int .i64 n] w (z4d (adN x n) (z3j x n) (adY x n) w):=by
 have RD:=hid (fun W (hf:Fr [] w W)=>z84 x v W B hs (Nat.le_trans hB hf.size) (h.fr hf hB (by simp)));obtain⟨A1,c1,A2,c2,A3,c3,rfl,h1,h2,h3⟩:=h;have D0:=hid (BO.new w (.int .i64 x.kind) (.string x.text) (.slice A1 x.list.length c1) (.slice A2 x.pairs.length c2) (.slice A3 x.scores.length c3));obtain⟨d0,d1,d2,d3,d4⟩:=five D0.out.b;have hz:=hs.text;clear h1 h2 h3 hs;have TI:=hid (fun W (hf:Fr [] w W)=>z8s x.text W (hw.fr hf) hz);have IA:=hid (fun W (hf:Fr [] w W) s hs=>zfx s W (hw.fr hf) hs);clear hw;have AK:=hid (fun(h:z02 1 x=0)=>(z1j h).kind);have EC:=hid (show z3j x n=if z02 1 x≠0 then z02 1 x else if x.kind≠0∧z2z x.text.data.toList=none then 1 else if z0i n=true∧z0i (z5k x+n)=true then 0 else 3 from rfl);have EW:=hid (show z5k x=if x.kind=0 then 0 else (z2z x.text.data.toList).getD 0 from rfl);have YES:=hid (fun s=>@q0v x n s);have NO:=hid (fun c=>@q09 x n c);by_cases ha:z02 1 x=0
 ·rw[ha] at RD;have EC2:=hid (EC.out.trans (if_neg (by simpa using ha)));have hk:=AK.out ha;clear EC AK ha;by_cases h0:x.kind=0
  ·have EW2:=hid (EW.out.trans (if_pos h0));have EC3:=hid (EC2.out.trans (if_neg (fun h=>h.1 h0)));clear EW EC2 TI hk;have k0:(x.kind != 0)=false:=by simpa using h0
   have k1:(x.kind==1)=false:=by rw[h0];rfl
   clear h0;by_cases hi:z0i n=true
   ·have e0:z5k x+n=n:=by rw[EW2.out];omega
    have E:=EC3.out.trans (if_pos ⟨hi,by rw[e0];exact hi⟩);obtain⟨e1,e2⟩:=YES.out n E e0;rw[e1,e2,E];obtain⟨b1,b2⟩:=z4f hi;have hj:=hi;have IN:=hid (fun W=>z4g (show z0i n=true from hi) W);have IS:=hid (fun W=>z4g (show z0i (n)=true from hj) W);have IA2:=hid (fun W hf=>IA.out W hf (n) (by omega));clear IA;have IA:=IA2;clear IA2;generalize (⟨(Lib.itoa (n)).toArray⟩:ByteArray)=y at *;clear e0 E e1 e2 EC3 EW2 YES NO hi hj;go_enter Tryz.func239,Tryz.ntmps239;go_wp2_with fail;refine(RD.out _ D0.out.f).mono ?_;rintro e w1 ⟨rfl,f1⟩;have D1:=hid (D0.out.go f1);clear d0 d1 d2 d3 d4;obtain⟨d0,d1,d2,d3,d4⟩:=five D1.out.b;go_wp2_with fail;refine(IN.out _).mono ?_;rintro e w9 ⟨rfl,rfl⟩;go_wp2_with fail;refine(IS.out _).mono ?_;rintro e w9 ⟨rfl,rfl⟩;go_wp2_with fail;refine(IA.out _ D1.out.f).mono ?_;rintro e w2 ⟨rfl,f2⟩;have D2:=hid (D1.out.go f2);clear d0 d1 d2 d3 d4;obtain⟨d0,d1,d2,d3,d4⟩:=five D2.out.b;go_wp2_with fail;refine(zgb y _).mono ?_;rintro e w3 ⟨rfl,f3⟩;have D3:=hid (D2.out.go f3);clear d0 d1 d2 d3 d4;obtain⟨d0,d1,d2,d3,d4⟩:=five D3.out.b;obtain⟨a0,a1,a2,a3,a4⟩:=five D3.out.o;obtain⟨b0,b2,b3,b4,b5⟩:=z12 D3.out.o;go_wp2;refine bodyPost_ret (v:=.tuple #[.agg #[.int .i64 1,.string y,.slice none 0 0,.slice none 0 0,.slice none 0 0],.int .i64 (n),.int .i64 0]) (by simp[results,Tryz.results239,go_sem,a0,a1,a2,a3,a4]) rfl ?_;exact⟨_,rfl,z0q.text _ _ _,D3.out.end5 _ _ _ _ _⟩
   ·have E:=EC3.out.trans (if_neg (fun h=>hi h.1));obtain⟨e1,e2⟩:=NO.out 3 E (by decide);rw[e1,e2,E];have IN:=hid (fun W=>z4g (show z0i n=false from by simpa using hi) W);clear E e1 e2 EC3 EW2 YES NO hi IA;go_enter Tryz.func239,Tryz.ntmps239;go_wp2_with fail;refine(RD.out _ D0.out.f).mono ?_;rintro e w1 ⟨rfl,f1⟩;have D1:=hid (D0.out.go f1);clear d0 d1 d2 d3 d4;obtain⟨d0,d1,d2,d3,d4⟩:=five D1.out.b;go_wp2_with fail;refine(IN.out _).mono ?_;rintro e w9 ⟨rfl,rfl⟩;obtain⟨a0,a1,a2,a3,a4⟩:=five D1.out.o;obtain⟨b0,b2,b3,b4,b5⟩:=z12 D1.out.o;go_wp2;refine bodyPost_ret (v:=.tuple #[.agg #[.int .i64 0,.string ⟨#[]⟩,.slice none 0 0,.slice none 0 0,.slice none 0 0],.int .i64 0,.int .i64 3]) (by simp[results,Tryz.results239,go_sem,a0,a1,a2,a3,a4]) rfl ?_;exact⟨_,rfl,z0q.nothing _ _,D1.out.end5 _ _ _ _ _⟩
  ·obtain hk1:x.kind=1:=by omega
   have EW2:=hid (EW.out.trans (if_neg h0));clear EW;have k0:(x.kind != 0)=true:=by simpa using h0
   have k1:(x.kind==1)=true:=by rw[hk1];rfl
   cases hL:z2z x.text.data.toList with
   | none=>
    have E:=EC2.out.trans (if_pos ⟨h0,hL⟩);obtain⟨e1,e2⟩:=NO.out 1 E (by decide);rw[e1,e2,E];have TN:=hid (fun W hf=>(TI.out W hf).mono (fun e w' ⟨m,he,hm,hv,hr⟩=>(show ∃m:Int,e=Ending.returned (.tuple #[.int .i64 m,.bool false])∧Fr [] W w' from⟨m,by rw[he,hL];rfl,hr⟩)));clear TI IA;clear E e1 e2 EC2 EW2 YES NO hL h0 hk hk1;go_enter Tryz.func239,Tryz.ntmps239;go_wp2_with fail;refine(RD.out _ D0.out.f).mono ?_;rintro e w1 ⟨rfl,f1⟩;have D1:=hid (D0.out.go f1);clear d0 d1 d2 d3 d4;obtain⟨d0,d1,d2,d3,d4⟩:=five D1.out.b;go_wp2_with fail;refine(TN.out _ D1.out.f).mono ?_;rintro e w2 ⟨m,rfl,f2⟩;have D2:=hid (D1.out.go f2);clear d0 d1 d2 d3 d4;obtain⟨d0,d1,d2,d3,d4⟩:=five D2.out.b;obtain⟨a0,a1,a2,a3,a4⟩:=five D2.out.o;obtain⟨b0,b2,b3,b4,b5⟩:=z12 D2.out.o;go_wp2;refine bodyPost_ret (v:=.tuple #[.agg #[.int .i64 0,.string ⟨#[]⟩,.slice none 0 0,.slice none 0 0,.slice none 0 0],.int .i64 0,.int .i64 1]) (by simp[results,Tryz.results239,go_sem,a0,a1,a2,a3,a4]) rfl ?_;exact⟨_,rfl,z0q.nothing _ _,D2.out.end5 _ _ _ _ _⟩
   | some u=>
    have EC3:=hid (EC2.out.trans (if_neg (fun h=>by rw[hL] at h;cases h.2)));obtain⟨u1,u2⟩:=zkc hL;have e0:z5k x+n=u+n:=by rw[EW2.out,hL];rfl
    have TN:=hid (fun W hf=>(TI.out W hf).mono (fun e w' ⟨m,he,hm,hv,hr⟩=>(show e=Ending.returned (.tuple #[.int .i64 u,.bool true])∧Fr [] W w' from⟨by rw[he,hL,hv u hL];rfl,hr⟩)));clear TI;clear EC2 hL h0 hk hk1;by_cases hi:z0i n=true
    ·obtain⟨b1,b2⟩:=z4f hi;by_cases hj:z0i (u+n)=true
     ·have E:=EC3.out.trans (if_pos ⟨hi,by rw[e0];exact hj⟩);obtain⟨e1,e2⟩:=YES.out (u+n) E e0;rw[e1,e2,E];obtain⟨b3,b4⟩:=z4f hj;have IN:=hid (fun W=>z4g (show z0i n=true from hi) W);have IS:=hid (fun W=>z4g (show z0i (u+n)=true from hj) W);have IA2:=hid (fun W hf=>IA.out W hf (u+n) (by omega));clear IA;have IA:=IA2;clear IA2;generalize (⟨(Lib.itoa (u+n)).toArray⟩:ByteArray)=y at *;clear e0 E e1 e2 EC3 EW2 YES NO hi hj;go_enter Tryz.func239,Tryz.ntmps239;go_wp2_with fail;refine(RD.out _ D0.out.f).mono ?_;rintro e w1 ⟨rfl,f1⟩;have D1:=hid (D0.out.go f1);clear d0 d1 d2 d3 d4;obtain⟨d0,d1,d2,d3,d4⟩:=five D1.out.b;go_wp2_with fail;refine(TN.out _ D1.out.f).mono ?_;rintro e w2 ⟨rfl,f2⟩;have D2:=hid (D1.out.go f2);clear d0 d1 d2 d3 d4;obtain⟨d0,d1,d2,d3,d4⟩:=five D2.out.b;go_wp2_with fail;refine(IN.out _).mono ?_;rintro e w9 ⟨rfl,rfl⟩;go_wp2_with fail;refine(IS.out _).mono ?_;rintro e w9 ⟨rfl,rfl⟩;go_wp2_with fail;refine(IA.out _ D2.out.f).mono ?_;rintro e w3 ⟨rfl,f3⟩;have D3:=hid (D2.out.go f3);clear d0 d1 d2 d3 d4;obtain⟨d0,d1,d2,d3,d4⟩:=five D3.out.b;go_wp2_with fail;refine(zgb y _).mono ?_;rintro e w4 ⟨rfl,f4⟩;have D4:=hid (D3.out.go f4);clear d0 d1 d2 d3 d4;obtain⟨d0,d1,d2,d3,d4⟩:=five D4.out.b;obtain⟨a0,a1,a2,a3,a4⟩:=five D4.out.o;obtain⟨b0,b2,b3,b4,b5⟩:=z12 D4.out.o;go_wp2;refine bodyPost_ret (v:=.tuple #[.agg #[.int .i64 1,.string y,.slice none 0 0,.slice none 0 0,.slice none 0 0],.int .i64 (u+n),.int .i64 0]) (by simp[results,Tryz.results239,go_sem,a0,a1,a2,a3,a4]) rfl ?_;exact⟨_,rfl,z0q.text _ _ _,D4.out.end5 _ _ _ _ _⟩
     ·have E:=EC3.out.trans (if_neg (fun h=>hj (by rw[←e0];exact h.2)));obtain⟨e1,e2⟩:=NO.out 3 E (by decide);rw[e1,e2,E];have IN:=hid (fun W=>z4g (show z0i n=true from hi) W);have IS:=hid (fun W=>z4g (show z0i (u+n)=false from by simpa using hj) W);clear e0 E e1 e2 EC3 EW2 YES NO hi hj IA;go_enter Tryz.func239,Tryz.ntmps239;go_wp2_with fail;refine(RD.out _ D0.out.f).mono ?_;rintro e w1 ⟨rfl,f1⟩;have D1:=hid (D0.out.go f1);clear d0 d1 d2 d3 d4;obtain⟨d0,d1,d2,d3,d4⟩:=five D1.out.b;go_wp2_with fail;refine(TN.out _ D1.out.f).mono ?_;rintro e w2 ⟨rfl,f2⟩;have D2:=hid (D1.out.go f2);clear d0 d1 d2 d3 d4;obtain⟨d0,d1,d2,d3,d4⟩:=five D2.out.b;go_wp2_with fail;refine(IN.out _).mono ?_;rintro e w9 ⟨rfl,rfl⟩;go_wp2_with fail;refine(IS.out _).mono ?_;rintro e w9 ⟨rfl,rfl⟩;obtain⟨a0,a1,a2,a3,a4⟩:=five D2.out.o;obtain⟨b0,b2,b3,b4,b5⟩:=z12 D2.out.o;go_wp2;refine bodyPost_ret (v:=.tuple #[.agg #[.int .i64 0,.string ⟨#[]⟩,.slice none 0 0,.slice none 0 0,.slice none 0 0],.int .i64 0,.int .i64 3]) (by simp[results,Tryz.results239,go_sem,a0,a1,a2,a3,a4]) rfl ?_;exact⟨_,rfl,z0q.nothing _ _,D2.out.end5 _ _ _ _ _⟩
    ·have E:=EC3.out.trans (if_neg (fun h=>hi h.1));obtain⟨e1,e2⟩:=NO.out 3 E (by decide);rw[e1,e2,E];have IN:=hid (fun W=>z4g (show z0i n=false from by simpa using hi) W);clear e0 E e1 e2 EC3 EW2 YES NO hi IA;go_enter Tryz.func239,Tryz.ntmps239;go_wp2_with fail;refine(RD.out _ D0.out.f).mono ?_;rintro e w1 ⟨rfl,f1⟩;have D1:=hid (D0.out.go f1);clear d0 d1 d2 d3 d4;obtain⟨d0,d1,d2,d3,d4⟩:=five D1.out.b;go_wp2_with fail;refine(TN.out _ D1.out.f).mono ?_;rintro e w2 ⟨rfl,f2⟩;have D2:=hid (D1.out.go f2);clear d0 d1 d2 d3 d4;obtain⟨d0,d1,d2,d3,d4⟩:=five D2.out.b;go_wp2_with fail;refine(IN.out _).mono ?_;rintro e w9 ⟨rfl,rfl⟩;obtain⟨a0,a1,a2,a3,a4⟩:=five D2.out.o;obtain⟨b0,b2,b3,b4,b5⟩:=z12 D2.out.o;go_wp2;refine bodyPost_ret (v:=.tuple #[.agg #[.int .i64 0,.string ⟨#[]⟩,.slice none 0 0,.slice none 0 0,.slice none 0 0],.int .i64 0,.int .i64 3]) (by simp[results,Tryz.results239,go_sem,a0,a1,a2,a3,a4]) rfl ?_;exact⟨_,rfl,z0q.nothing _ _,D2.out.end5 _ _ _ _ _⟩
 ·have E:=EC.out.trans (if_pos ha);obtain⟨e1,e2⟩:=NO.out _ E ha;rw[e1,e2,E];have q:(z02 1 x != 0)=true:=by simpa using ha
  have q':(z02 1 x==0)=false:=by simpa using ha
  clear E e1 e2 EC EW YES NO AK ha TI IA;generalize z02 1 x=r at *;go_enter Tryz.func239,Tryz.ntmps239;go_wp2_with fail;refine(RD.out _ D0.out.f).mono ?_;rintro e w1 ⟨rfl,f1⟩;have D1:=hid (D0.out.go f1);clear d0 d1 d2 d3 d4;obtain⟨d0,d1,d2,d3,d4⟩:=five D1.out.b;obtain⟨a0,a1,a2,a3,a4⟩:=five D1.out.o;obtain⟨b0,b2,b3,b4,b5⟩:=z12 D1.out.o;go_wp2;refine bodyPost_ret (v:=.tuple #[.agg #[.int .i64 0,.string ⟨#[]⟩,.slice none 0 0,.slice none 0 0,.slice none 0 0],.int .i64 0,.int .i64 r]) (by simp[results,Tryz.results239,go_sem,a0,a1,a2,a3,a4]) rfl ?_;exact⟨_,rfl,z0q.nothing _ _,D1.out.end5 _ _ _ _ _⟩
end Go.Proofs.YtmalkppcahogjaaGreatDoor
