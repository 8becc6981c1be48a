/- Lemmas for CardConsoleResults. No condition. -/
import Derived.Shelf.Strings.OnBuilder
import Derived.Shelf.Small.Bits
import Derived.Shelf.Strings.BuilderK
import Derived.Shelf.Strconv.Itoa3
import Derived.Shelf.Strings.Shaped
import Derived.Shelf.Sort.Plain
import Derived.Shelf.Strings.Prefix
import Derived.Shelf.Strings.SplitShaped
import Derived.Shelf.Unicode.DecodeSlow
import Derived.Shelf.Slices.Turned
import Derived.Shelf.Slices.Clone
import Derived.Shelf.Slices.Cells
import Derived.Shelf.Slices.In.SortNone
import Derived.Shelf.Slices.Empties
import Derived.Shelf.Slices.Empties2
import Derived.Test.YtkdbkjjacgigiaaGreatDoorProg
set_option maxRecDepth 100000
set_option maxHeartbeats 64000000
namespace Go.Proofs.YtkdbkjjacgigiaaGreatDoor
section
open Go.Shelf
set_option maxRecDepth 100000
def xA:Go.Shelf.Ren:=⟨fun|156=>269|165=>341|166=>36|169=>37|240=>94|241=>364|276=>152|277=>383|n=>n,fun|31=>52|9=>9|3=>3|4=>4|0=>0|20=>20|72=>57|76=>62|70=>55|37=>22|75=>61|127=>99|164=>129|5=>5|80=>64|n=>n,fun|n=>n⟩
theorem FE:Go.Proofs.Lays.n156 Tryz.prog xA:={
 mixed:=by kernel_rfl
 f156:=Tryz.func269.trans (congrArg some (by kernel_rfl))
 f165:=Tryz.func341.trans (congrArg some (by kernel_rfl))
 f166:=Tryz.func36.trans (congrArg some (by kernel_rfl))
 f169:=Tryz.func37.trans (congrArg some (by kernel_rfl))
 f240:=Tryz.func94.trans (congrArg some (by kernel_rfl))
 f241:=Tryz.func364.trans (congrArg some (by kernel_rfl))
 f276:=Tryz.func152.trans (congrArg some (by kernel_rfl))
 f277:=Tryz.func383.trans (congrArg some (by kernel_rfl))
 t0:=Tryz.underlying0
 a0:=Tryz.isAgg0
 z0:=Tryz.sizeOf0
 v0:=Tryz.zeroValue0
 t3:=Tryz.underlying3
 a3:=Tryz.isAgg3
 z3:=Tryz.sizeOf3
 v3:=Tryz.zeroValue3
 t4:=Tryz.underlying4
 a4:=Tryz.isAgg4
 z4:=Tryz.sizeOf4
 v4:=Tryz.zeroValue4
 t9:=Tryz.underlying9
 a9:=Tryz.isAgg9
 z9:=Tryz.sizeOf9
 v9:=Tryz.zeroValue9
 t20:=Tryz.underlying20
 a20:=Tryz.isAgg20
 z20:=Tryz.sizeOf20
 v20:=Tryz.zeroValue20
 t31:=Tryz.underlying52
 a31:=Tryz.isAgg52
 z31:=Tryz.sizeOf52
 v31:=Tryz.zeroValue52
 t37:=Tryz.underlying22
 a37:=Tryz.isAgg22
 z37:=Tryz.sizeOf22
 v37:=Tryz.zeroValue22
 t70:=Tryz.underlying55
 a70:=Tryz.isAgg55
 z70:=Tryz.sizeOf55
 v70:=Tryz.zeroValue55
 t72:=Tryz.underlying57
 a72:=Tryz.isAgg57
 z72:=Tryz.sizeOf57
 v72:=Tryz.zeroValue57
 t75:=Tryz.underlying61
 a75:=Tryz.isAgg61
 z75:=Tryz.sizeOf61
 v75:=Tryz.zeroValue61
 t76:=Tryz.underlying62
 a76:=Tryz.isAgg62
 z76:=Tryz.sizeOf62
 v76:=Tryz.zeroValue62
 t127:=Tryz.underlying99
 a127:=Tryz.isAgg99
 z127:=Tryz.sizeOf99
 v127:=Tryz.zeroValue99
 t164:=Tryz.underlying129
 a164:=Tryz.isAgg129
 z164:=Tryz.sizeOf129
 v164:=Tryz.zeroValue129 }
theorem qX:Builder.Extra Tryz.prog xA:={
 sizeBuilder:=by kernel_rfl
 liesBuilder:=by kernel_rfl
 t5:=Tryz.underlying5
 a5:=Tryz.isAgg5
 z5:=Tryz.sizeOf5
 v5:=Tryz.zeroValue5
 infoByte:=by kernel_rfl
 cellsByte:=by kernel_rfl
 sizeByte:=by kernel_rfl
 neB5:=by decide }
open Go.RowKit in
theorem O2(K o c:Nat)(F:List ByteArray)(D:ByteArray)(w:World)(z:∀(j:Nat) x,F[j]?=some x->w.cell? ⟨K,o+j,none⟩=some (.string x))(M:K<w.heap.size)(N:F.length<=140737488355328)(I:F.length<=c)(J:(Lib.join (F.map (·.data.toList)) D.data.toList).length<=140737488355328):
 Calls Tryz.prog 269 #[.slice (some ⟨K,o,none⟩) F.length c,.string D] w fun e w'=>e=.returned (.string ⟨(Lib.join (F.map (·.data.toList)) D.data.toList).toArray⟩)/\Below w.heap.size w w':=Any.strings_Join FE qX K o c F D w z M N I J
open Go.RowKit in
theorem FG(a:Option Addr)(c:Nat)(z:ByteArray)(w:World):
 Calls Tryz.prog 269 #[.slice a 0 c,.string z] w fun e w'=>e=.returned (.string ⟨#[]⟩)/\w'=w:=Any.strings_Join_none FE qX a c z w
def OZ:Go.Shelf.Ren:=⟨fun|171=>217|243=>298|246=>350|283=>370|284=>371|285=>372|286=>373|129=>174|317=>386|318=>387|319=>388|320=>389|337=>395|338=>396|n=>n,fun|3=>3|9=>9|2=>2|4=>4|171=>209|0=>0|53=>141|37=>22|5=>5|173=>211|212=>223|51=>139|20=>20|213=>224|46=>117|232=>233|233=>234|n=>n,fun|17=>3|18=>4|19=>5|n=>n⟩
theorem aaM:Go.Proofs.LaysM.n171 Tryz.prog OZ:={
 mixed:=by kernel_rfl
 f129:=Tryz.func174.trans (congrArg some (by kernel_rfl))
 f171:=Tryz.func217.trans (congrArg some (by kernel_rfl))
 f243:=Tryz.func298.trans (congrArg some (by kernel_rfl))
 f246:=Tryz.func350.trans (congrArg some (by kernel_rfl))
 f283:=Tryz.func370.trans (congrArg some (by kernel_rfl))
 f284:=Tryz.func371.trans (congrArg some (by kernel_rfl))
 f285:=Tryz.func372.trans (congrArg some (by kernel_rfl))
 f286:=Tryz.func373.trans (congrArg some (by kernel_rfl))
 f317:=Tryz.func386.trans (congrArg some (by kernel_rfl))
 f318:=Tryz.func387.trans (congrArg some (by kernel_rfl))
 f319:=Tryz.func388.trans (congrArg some (by kernel_rfl))
 f320:=Tryz.func389.trans (congrArg some (by kernel_rfl))
 f337:=Tryz.func395.trans (congrArg some (by kernel_rfl))
 f338:=Tryz.func396.trans (congrArg some (by kernel_rfl))
 t0:=Tryz.underlying0
 a0:=Tryz.isAgg0
 z0:=Tryz.sizeOf0
 v0:=Tryz.zeroValue0
 t2:=Tryz.underlying2
 a2:=Tryz.isAgg2
 z2:=Tryz.sizeOf2
 v2:=Tryz.zeroValue2
 t3:=Tryz.underlying3
 a3:=Tryz.isAgg3
 z3:=Tryz.sizeOf3
 v3:=Tryz.zeroValue3
 t4:=Tryz.underlying4
 a4:=Tryz.isAgg4
 z4:=Tryz.sizeOf4
 v4:=Tryz.zeroValue4
 t5:=Tryz.underlying5
 a5:=Tryz.isAgg5
 z5:=Tryz.sizeOf5
 v5:=Tryz.zeroValue5
 t9:=Tryz.underlying9
 a9:=Tryz.isAgg9
 z9:=Tryz.sizeOf9
 v9:=Tryz.zeroValue9
 t20:=Tryz.underlying20
 a20:=Tryz.isAgg20
 z20:=Tryz.sizeOf20
 v20:=Tryz.zeroValue20
 t37:=Tryz.underlying22
 a37:=Tryz.isAgg22
 z37:=Tryz.sizeOf22
 v37:=Tryz.zeroValue22
 t46:=Tryz.underlying117
 a46:=Tryz.isAgg117
 z46:=Tryz.sizeOf117
 v46:=Tryz.zeroValue117
 t51:=Tryz.underlying139
 a51:=Tryz.isAgg139
 z51:=Tryz.sizeOf139
 v51:=Tryz.zeroValue139
 t53:=Tryz.underlying141
 a53:=Tryz.isAgg141
 z53:=Tryz.sizeOf141
 v53:=Tryz.zeroValue141
 t171:=Tryz.underlying209
 a171:=Tryz.isAgg209
 z171:=Tryz.sizeOf209
 v171:=Tryz.zeroValue209
 t173:=Tryz.underlying211
 a173:=Tryz.isAgg211
 z173:=Tryz.sizeOf211
 v173:=Tryz.zeroValue211
 t212:=Tryz.underlying223
 a212:=Tryz.isAgg223
 z212:=Tryz.sizeOf223
 v212:=Tryz.zeroValue223
 t213:=Tryz.underlying224
 a213:=Tryz.isAgg224
 z213:=Tryz.sizeOf224
 t232:=Tryz.underlying233
 a232:=Tryz.isAgg233
 z232:=Tryz.sizeOf233
 v232:=Tryz.zeroValue233
 t233:=Tryz.underlying234
 a233:=Tryz.isAgg234
 z233:=Tryz.sizeOf234
 v233:=Tryz.zeroValue234
 g17:=by kernel_rfl
 g18:=by kernel_rfl
 g19:=by kernel_rfl
 i0:=by kernel_rfl
 i2:=by kernel_rfl
 i3:=by kernel_rfl
 i4:=by kernel_rfl
 i5:=by kernel_rfl
 i9:=by kernel_rfl
 i20:=by kernel_rfl
 i37:=by kernel_rfl
 i46:=by kernel_rfl
 i51:=by kernel_rfl
 i53:=by kernel_rfl
 i171:=by kernel_rfl
 i173:=by kernel_rfl
 i212:=by kernel_rfl
 i232:=by kernel_rfl
 i233:=by kernel_rfl
 m17:=by kernel_rfl
 m18:=by kernel_rfl
 m19:=by kernel_rfl }
open Go.RowKit Go.Sort Go.Lib in
theorem O0(n:Int)(D:-9223372036854775808<=n)(h1:n<=9223372036854775807)(w:World)(z:Lib.TabIs Tryz.prog w "internal/strconv.uint64pow10" .u64 Lib.pow10Tab):
 Calls Tryz.prog 217 #[.int .i64 n] w fun e w'=>e=.returned (.string ⟨(Lib.itoa n).toArray⟩)/\∃k os,w'=grow (w.drewN k) os:=Any.strconv_Itoa aaM n D h1 w z
def QY:Go.Shelf.Ren:=⟨fun|110=>285|109=>346|n=>n,fun|31=>52|9=>9|4=>4|3=>3|0=>0|n=>n,fun|n=>n⟩
theorem aeB:Go.Proofs.Lays.n110 Tryz.prog QY:={
 mixed:=by kernel_rfl
 f109:=Tryz.func346.trans (congrArg some (by kernel_rfl))
 f110:=Tryz.func285.trans (congrArg some (by kernel_rfl))
 t0:=Tryz.underlying0
 a0:=Tryz.isAgg0
 z0:=Tryz.sizeOf0
 v0:=Tryz.zeroValue0
 t3:=Tryz.underlying3
 a3:=Tryz.isAgg3
 z3:=Tryz.sizeOf3
 v3:=Tryz.zeroValue3
 t4:=Tryz.underlying4
 a4:=Tryz.isAgg4
 z4:=Tryz.sizeOf4
 v4:=Tryz.zeroValue4
 t9:=Tryz.underlying9
 a9:=Tryz.isAgg9
 z9:=Tryz.sizeOf9
 v9:=Tryz.zeroValue9
 t31:=Tryz.underlying52
 a31:=Tryz.isAgg52
 z31:=Tryz.sizeOf52
 v31:=Tryz.zeroValue52 }
open Go.Lib in
theorem sC(b z n c:Nat)(F:List ByteArray)(x:ByteArray)(w:World)(I:n<=F.length)(D:n<=9223372036854775807)(hc:∀j,j<F.length->w.cell? ⟨b,z+j,none⟩=some (.string (F.getD j ByteArray.empty))):
 Calls Tryz.prog 285 #[.slice (some ⟨b,z,none⟩) n c,.string x] w fun e w'=>e=.returned (.bool (Lib.containsS (F.take n) x))/\w'=w:=Any.slices_Contains_string aeB b z n c F x w I D hc
def Q8:Go.Shelf.Ren:=⟨fun|189=>324|125=>131|257=>362|128=>173|129=>174|294=>375|295=>376|296=>377|297=>378|298=>379|299=>380|216=>368|300=>381|301=>382|328=>390|329=>391|330=>392|331=>393|332=>394|215=>385|343=>397|n=>n,fun|28=>25|3=>3|46=>117|0=>0|51=>139|53=>141|4=>4|183=>217|182=>216|131=>47|5=>5|9=>9|218=>225|222=>229|228=>231|229=>154|n=>n,fun|n=>n⟩
theorem OX:Go.Proofs.Lays.n189 Tryz.prog Q8:={
 mixed:=by kernel_rfl
 f125:=Tryz.func131.trans (congrArg some (by kernel_rfl))
 f128:=Tryz.func173.trans (congrArg some (by kernel_rfl))
 f129:=Tryz.func174.trans (congrArg some (by kernel_rfl))
 f189:=Tryz.func324.trans (congrArg some (by kernel_rfl))
 f215:=Tryz.func385.trans (congrArg some (by kernel_rfl))
 f216:=Tryz.func368.trans (congrArg some (by kernel_rfl))
 f257:=Tryz.func362.trans (congrArg some (by kernel_rfl))
 f294:=Tryz.func375.trans (congrArg some (by kernel_rfl))
 f295:=Tryz.func376.trans (congrArg some (by kernel_rfl))
 f296:=Tryz.func377.trans (congrArg some (by kernel_rfl))
 f297:=Tryz.func378.trans (congrArg some (by kernel_rfl))
 f298:=Tryz.func379.trans (congrArg some (by kernel_rfl))
 f299:=Tryz.func380.trans (congrArg some (by kernel_rfl))
 f300:=Tryz.func381.trans (congrArg some (by kernel_rfl))
 f301:=Tryz.func382.trans (congrArg some (by kernel_rfl))
 f328:=Tryz.func390.trans (congrArg some (by kernel_rfl))
 f329:=Tryz.func391.trans (congrArg some (by kernel_rfl))
 f330:=Tryz.func392.trans (congrArg some (by kernel_rfl))
 f331:=Tryz.func393.trans (congrArg some (by kernel_rfl))
 f332:=Tryz.func394.trans (congrArg some (by kernel_rfl))
 f343:=Tryz.func397.trans (congrArg some (by kernel_rfl))
 t0:=Tryz.underlying0
 a0:=Tryz.isAgg0
 z0:=Tryz.sizeOf0
 v0:=Tryz.zeroValue0
 t3:=Tryz.underlying3
 a3:=Tryz.isAgg3
 z3:=Tryz.sizeOf3
 v3:=Tryz.zeroValue3
 t4:=Tryz.underlying4
 a4:=Tryz.isAgg4
 z4:=Tryz.sizeOf4
 v4:=Tryz.zeroValue4
 t5:=Tryz.underlying5
 a5:=Tryz.isAgg5
 z5:=Tryz.sizeOf5
 v5:=Tryz.zeroValue5
 t9:=Tryz.underlying9
 a9:=Tryz.isAgg9
 z9:=Tryz.sizeOf9
 v9:=Tryz.zeroValue9
 t28:=Tryz.underlying25
 a28:=Tryz.isAgg25
 z28:=Tryz.sizeOf25
 v28:=Tryz.zeroValue25
 t46:=Tryz.underlying117
 a46:=Tryz.isAgg117
 z46:=Tryz.sizeOf117
 v46:=Tryz.zeroValue117
 t51:=Tryz.underlying139
 a51:=Tryz.isAgg139
 z51:=Tryz.sizeOf139
 v51:=Tryz.zeroValue139
 t53:=Tryz.underlying141
 a53:=Tryz.isAgg141
 z53:=Tryz.sizeOf141
 v53:=Tryz.zeroValue141
 t131:=Tryz.underlying47
 a131:=Tryz.isAgg47
 z131:=Tryz.sizeOf47
 v131:=Tryz.zeroValue47
 t182:=Tryz.underlying216
 a182:=Tryz.isAgg216
 z182:=Tryz.sizeOf216
 v182:=Tryz.zeroValue216
 t183:=Tryz.underlying217
 a183:=Tryz.isAgg217
 z183:=Tryz.sizeOf217
 v183:=Tryz.zeroValue217
 t218:=Tryz.underlying225
 a218:=Tryz.isAgg225
 z218:=Tryz.sizeOf225
 v218:=Tryz.zeroValue225
 t222:=Tryz.underlying229
 a222:=Tryz.isAgg229
 z222:=Tryz.sizeOf229
 v222:=Tryz.zeroValue229
 t228:=Tryz.underlying231
 a228:=Tryz.isAgg231
 z228:=Tryz.sizeOf231
 v228:=Tryz.zeroValue231
 t229:=Tryz.underlying154
 a229:=Tryz.isAgg154
 z229:=Tryz.sizeOf154
 v229:=Tryz.zeroValue154 }
open Go.Sort Go.RowKit in
theorem I9(z D cap:Nat)(I:List Int)(w:World)(K:Holds (Value.int .i64) w z D I.toArray)(F:z<w.heap.size)(J:I.length<4611686018427387904):
 Calls Tryz.prog 324 #[.slice (some ⟨z,D,none⟩) I.length cap] w fun e w'=>
  e=.returned (.tuple #[])/\∃n os,w'=grow (putRow (Value.int .i64) (Sort.ahead w n) z D (I.mergeSort fun x y=>decide (x<=y)).toArray) os:=Any.slices_Sort_int OX z D cap I w K F J
open Go.RowKit Go.Sort in
theorem BC(p:Option Addr)(cap:Nat)(w:World):
 Calls Tryz.prog 324 #[.slice p 0 cap] w fun e w'=>e=.returned (.tuple #[])/\w'=w:=Any.slices_Sort_int_none OX p cap w
def MX:Go.Shelf.Ren:=⟨fun|20=>326|n=>n,fun|22=>25|3=>3|4=>4|0=>0|n=>n,fun|n=>n⟩
theorem I8:Go.Proofs.Lays2.n20 Tryz.prog MX:={
 mixed:=by kernel_rfl
 f20:=Tryz.func326.trans (congrArg some (by kernel_rfl))
 t0:=Tryz.underlying0
 a0:=Tryz.isAgg0
 z0:=Tryz.sizeOf0
 v0:=Tryz.zeroValue0
 t3:=Tryz.underlying3
 a3:=Tryz.isAgg3
 z3:=Tryz.sizeOf3
 v3:=Tryz.zeroValue3
 t4:=Tryz.underlying4
 a4:=Tryz.isAgg4
 z4:=Tryz.sizeOf4
 v4:=Tryz.zeroValue4
 t22:=Tryz.underlying25
 a22:=Tryz.isAgg25
 z22:=Tryz.sizeOf25
 v22:=Tryz.zeroValue25
 i3:=by kernel_rfl }
open Go.RowKit Go.Lib Go.Sort in
theorem DH(z D cap:Nat)(F:List Int)(w:World)(K:Holds (Value.int .i64) w z D F.toArray)(J:F.length<=9223372036854775807)(I:F.length<=cap):
 Calls Tryz.prog 326 #[.slice (some ⟨z,D,none⟩) F.length cap] w fun e w'=>e=.returned (.slice (some ⟨z,D,none⟩) (Lib.compact F).length cap)/\∃q,w'=putRow (Value.int .i64) (Sort.ahead w q) z D (Lib.compact F++List.replicate (F.length-(Lib.compact F).length) 0).toArray:=Any.slices_Compact_int I8 z D cap F w K J I
open Go.RowKit Go.Lib Go.Sort in
theorem yH(a:Option Addr)(cap:Nat)(w:World):
 Calls Tryz.prog 326 #[.slice a 0 cap] w fun e w'=>e=.returned (.slice a 0 cap)/\w'=w:=Any.slices_Compact_int_empty I8 a cap w
def OY:Go.Shelf.Ren:=⟨fun|146=>33|221=>86|268=>127|138=>128|143=>129|195=>169|197=>170|218=>171|219=>172|260=>254|217=>255|225=>256|224=>257|267=>258|266=>335|314=>336|n=>n,fun|9=>9|31=>52|3=>3|4=>4|0=>0|105=>135|21=>21|5=>5|46=>117|119=>190|139=>193|138=>192|146=>194|51=>139|n=>n,fun|1=>0|3=>1|4=>2|n=>n⟩
theorem aaL:Go.Proofs.LaysM.n146 Tryz.prog OY:={
 mixed:=by kernel_rfl
 f138:=Tryz.func128.trans (congrArg some (by kernel_rfl))
 f143:=Tryz.func129.trans (congrArg some (by kernel_rfl))
 f146:=Tryz.func33.trans (congrArg some (by kernel_rfl))
 f195:=Tryz.func169.trans (congrArg some (by kernel_rfl))
 f197:=Tryz.func170.trans (congrArg some (by kernel_rfl))
 f217:=Tryz.func255.trans (congrArg some (by kernel_rfl))
 f218:=Tryz.func171.trans (congrArg some (by kernel_rfl))
 f219:=Tryz.func172.trans (congrArg some (by kernel_rfl))
 f221:=Tryz.func86.trans (congrArg some (by kernel_rfl))
 f224:=Tryz.func257.trans (congrArg some (by kernel_rfl))
 f225:=Tryz.func256.trans (congrArg some (by kernel_rfl))
 f260:=Tryz.func254.trans (congrArg some (by kernel_rfl))
 f266:=Tryz.func335.trans (congrArg some (by kernel_rfl))
 f267:=Tryz.func258.trans (congrArg some (by kernel_rfl))
 f268:=Tryz.func127.trans (congrArg some (by kernel_rfl))
 f314:=Tryz.func336.trans (congrArg some (by kernel_rfl))
 t0:=Tryz.underlying0
 a0:=Tryz.isAgg0
 z0:=Tryz.sizeOf0
 v0:=Tryz.zeroValue0
 t3:=Tryz.underlying3
 a3:=Tryz.isAgg3
 z3:=Tryz.sizeOf3
 v3:=Tryz.zeroValue3
 t4:=Tryz.underlying4
 a4:=Tryz.isAgg4
 z4:=Tryz.sizeOf4
 v4:=Tryz.zeroValue4
 t5:=Tryz.underlying5
 a5:=Tryz.isAgg5
 z5:=Tryz.sizeOf5
 v5:=Tryz.zeroValue5
 t9:=Tryz.underlying9
 a9:=Tryz.isAgg9
 z9:=Tryz.sizeOf9
 v9:=Tryz.zeroValue9
 t21:=Tryz.underlying21
 a21:=Tryz.isAgg21
 z21:=Tryz.sizeOf21
 v21:=Tryz.zeroValue21
 t31:=Tryz.underlying52
 a31:=Tryz.isAgg52
 z31:=Tryz.sizeOf52
 v31:=Tryz.zeroValue52
 t46:=Tryz.underlying117
 a46:=Tryz.isAgg117
 z46:=Tryz.sizeOf117
 v46:=Tryz.zeroValue117
 t51:=Tryz.underlying139
 a51:=Tryz.isAgg139
 z51:=Tryz.sizeOf139
 v51:=Tryz.zeroValue139
 t105:=Tryz.underlying135
 a105:=Tryz.isAgg135
 z105:=Tryz.sizeOf135
 v105:=Tryz.zeroValue135
 t119:=Tryz.underlying190
 a119:=Tryz.isAgg190
 z119:=Tryz.sizeOf190
 t138:=Tryz.underlying192
 a138:=Tryz.isAgg192
 z138:=Tryz.sizeOf192
 v138:=Tryz.zeroValue192
 t139:=Tryz.underlying193
 a139:=Tryz.isAgg193
 z139:=Tryz.sizeOf193
 v139:=Tryz.zeroValue193
 t146:=Tryz.underlying194
 a146:=Tryz.isAgg194
 z146:=Tryz.sizeOf194
 v146:=Tryz.zeroValue194
 g1:=by kernel_rfl
 g3:=by kernel_rfl
 g4:=by kernel_rfl
 i0:=by kernel_rfl
 i3:=by kernel_rfl
 i4:=by kernel_rfl
 i5:=by kernel_rfl
 i9:=by kernel_rfl
 i21:=by kernel_rfl
 i31:=by kernel_rfl
 i46:=by kernel_rfl
 i51:=by kernel_rfl
 i105:=by kernel_rfl
 i138:=by kernel_rfl
 i139:=by kernel_rfl
 i146:=by kernel_rfl
 m1:=by kernel_rfl
 s1_3:=fun w h=>Go.Proofs.cell_of_shapedOpen_int (zero:=#[.int .i64 0]) (t:=3) h (of_decide_eq_true (by kernel_rfl)) (by kernel_rfl) rfl (by kernel_rfl) (by kernel_rfl) Tryz.underlying3
 m3:=by kernel_rfl
 m4:=by kernel_rfl }
open Go.RowKit Go.Lib in
def Q7:Go.Shelf.Ren:=⟨fun|146=>33|221=>86|268=>127|138=>128|143=>129|195=>169|197=>170|218=>171|219=>172|260=>254|217=>255|225=>256|224=>257|267=>258|266=>335|314=>336|n=>n,fun|9=>9|31=>52|3=>3|4=>4|0=>0|105=>135|21=>21|5=>5|46=>117|119=>190|139=>193|138=>192|146=>194|51=>139|n=>n,fun|1=>0|3=>1|4=>2|n=>n⟩
theorem aeC:Go.Proofs.Lays.n146 Tryz.prog Q7:={
 mixed:=by kernel_rfl
 f138:=Tryz.func128.trans (congrArg some (by kernel_rfl))
 f143:=Tryz.func129.trans (congrArg some (by kernel_rfl))
 f146:=Tryz.func33.trans (congrArg some (by kernel_rfl))
 f195:=Tryz.func169.trans (congrArg some (by kernel_rfl))
 f197:=Tryz.func170.trans (congrArg some (by kernel_rfl))
 f217:=Tryz.func255.trans (congrArg some (by kernel_rfl))
 f218:=Tryz.func171.trans (congrArg some (by kernel_rfl))
 f219:=Tryz.func172.trans (congrArg some (by kernel_rfl))
 f221:=Tryz.func86.trans (congrArg some (by kernel_rfl))
 f224:=Tryz.func257.trans (congrArg some (by kernel_rfl))
 f225:=Tryz.func256.trans (congrArg some (by kernel_rfl))
 f260:=Tryz.func254.trans (congrArg some (by kernel_rfl))
 f266:=Tryz.func335.trans (congrArg some (by kernel_rfl))
 f267:=Tryz.func258.trans (congrArg some (by kernel_rfl))
 f268:=Tryz.func127.trans (congrArg some (by kernel_rfl))
 f314:=Tryz.func336.trans (congrArg some (by kernel_rfl))
 t0:=Tryz.underlying0
 a0:=Tryz.isAgg0
 z0:=Tryz.sizeOf0
 v0:=Tryz.zeroValue0
 t3:=Tryz.underlying3
 a3:=Tryz.isAgg3
 z3:=Tryz.sizeOf3
 v3:=Tryz.zeroValue3
 t4:=Tryz.underlying4
 a4:=Tryz.isAgg4
 z4:=Tryz.sizeOf4
 v4:=Tryz.zeroValue4
 t5:=Tryz.underlying5
 a5:=Tryz.isAgg5
 z5:=Tryz.sizeOf5
 v5:=Tryz.zeroValue5
 t9:=Tryz.underlying9
 a9:=Tryz.isAgg9
 z9:=Tryz.sizeOf9
 v9:=Tryz.zeroValue9
 t21:=Tryz.underlying21
 a21:=Tryz.isAgg21
 z21:=Tryz.sizeOf21
 v21:=Tryz.zeroValue21
 t31:=Tryz.underlying52
 a31:=Tryz.isAgg52
 z31:=Tryz.sizeOf52
 v31:=Tryz.zeroValue52
 t46:=Tryz.underlying117
 a46:=Tryz.isAgg117
 z46:=Tryz.sizeOf117
 v46:=Tryz.zeroValue117
 t51:=Tryz.underlying139
 a51:=Tryz.isAgg139
 z51:=Tryz.sizeOf139
 v51:=Tryz.zeroValue139
 t105:=Tryz.underlying135
 a105:=Tryz.isAgg135
 z105:=Tryz.sizeOf135
 v105:=Tryz.zeroValue135
 t119:=Tryz.underlying190
 a119:=Tryz.isAgg190
 z119:=Tryz.sizeOf190
 t138:=Tryz.underlying192
 a138:=Tryz.isAgg192
 z138:=Tryz.sizeOf192
 v138:=Tryz.zeroValue192
 t139:=Tryz.underlying193
 a139:=Tryz.isAgg193
 z139:=Tryz.sizeOf193
 v139:=Tryz.zeroValue193
 t146:=Tryz.underlying194
 a146:=Tryz.isAgg194
 z146:=Tryz.sizeOf194
 v146:=Tryz.zeroValue194
 g1:=by kernel_rfl
 g3:=by kernel_rfl
 g4:=by kernel_rfl }
open Go.RowKit Go.Lib in
theorem MY(s z:ByteArray)(m:Int)(w:World)(D:s.size<4294967281)(hm:w.cell? ⟨0,0,none⟩=some (.int .i64 m))(h1:1<=z.size):
 Calls Tryz.prog 33 #[.string s,.string z] w fun e w'=>
  e=.returned (.slice (some ⟨w.heap.size,0,none⟩) (Lib.countB s z+1) (Lib.countB s z+1))/\w'=w.alloc (.cells ((Lib.splitB z 0 (Lib.countB s z) s).map Value.string).toArray 9):=Any.strings_Split aeC (by kernel_rfl) s z m w D hm h1
def QW:Go.Shelf.Ren:=⟨fun|101=>142|208=>216|206=>297|n=>n,fun|9=>9|4=>4|3=>3|n=>n,fun|n=>n⟩
theorem ad9:Go.Proofs.Lays.n101 Tryz.prog QW:={
 mixed:=by kernel_rfl
 f101:=Tryz.func142.trans (congrArg some (by kernel_rfl))
 f206:=Tryz.func297.trans (congrArg some (by kernel_rfl))
 f208:=Tryz.func216.trans (congrArg some (by kernel_rfl))
 t3:=Tryz.underlying3
 a3:=Tryz.isAgg3
 z3:=Tryz.sizeOf3
 v3:=Tryz.zeroValue3
 t4:=Tryz.underlying4
 a4:=Tryz.isAgg4
 z4:=Tryz.sizeOf4
 v4:=Tryz.zeroValue4
 t9:=Tryz.underlying9
 a9:=Tryz.isAgg9
 z9:=Tryz.sizeOf9
 v9:=Tryz.zeroValue9 }
open Go.RowKit Go.Lib in
theorem DJ(s p:ByteArray)(w:World):
 Calls Tryz.prog 142 #[.string s,.string p] w fun e w'=>e=.returned (.string ⟨(Lib.trimPrefix s.data.toList p.data.toList).toArray⟩)/\w'=w:=Any.strings_TrimPrefix ad9 s p w
def QX:Go.Shelf.Ren:=⟨fun|102=>34|209=>87|207=>130|n=>n,fun|9=>9|4=>4|3=>3|n=>n,fun|n=>n⟩
theorem aeA:Go.Proofs.Lays.n102 Tryz.prog QX:={
 mixed:=by kernel_rfl
 f102:=Tryz.func34.trans (congrArg some (by kernel_rfl))
 f207:=Tryz.func130.trans (congrArg some (by kernel_rfl))
 f209:=Tryz.func87.trans (congrArg some (by kernel_rfl))
 t3:=Tryz.underlying3
 a3:=Tryz.isAgg3
 z3:=Tryz.sizeOf3
 v3:=Tryz.zeroValue3
 t4:=Tryz.underlying4
 a4:=Tryz.isAgg4
 z4:=Tryz.sizeOf4
 v4:=Tryz.zeroValue4
 t9:=Tryz.underlying9
 a9:=Tryz.isAgg9
 z9:=Tryz.sizeOf9
 v9:=Tryz.zeroValue9 }
open Go.RowKit Go.Lib in
theorem DK(s p:ByteArray)(w:World)(z:s.size<=9223372036854775807):
 Calls Tryz.prog 34 #[.string s,.string p] w fun e w'=>e=.returned (.string ⟨(Lib.trimSuffix s.data.toList p.data.toList).toArray⟩)/\w'=w:=Any.strings_TrimSuffix aeA s p w z
def DG:Go.Shelf.Ren:=⟨fun|169=>37|n=>n,fun|70=>55|9=>9|0=>0|72=>57|37=>22|127=>99|3=>3|5=>5|n=>n,fun|n=>n⟩
theorem aeD:Go.Proofs.Lays.n169 Tryz.prog DG:={
 mixed:=by kernel_rfl
 f169:=Tryz.func37.trans (congrArg some (by kernel_rfl))
 t0:=Tryz.underlying0
 a0:=Tryz.isAgg0
 z0:=Tryz.sizeOf0
 v0:=Tryz.zeroValue0
 t3:=Tryz.underlying3
 a3:=Tryz.isAgg3
 z3:=Tryz.sizeOf3
 v3:=Tryz.zeroValue3
 t9:=Tryz.underlying9
 a9:=Tryz.isAgg9
 z9:=Tryz.sizeOf9
 v9:=Tryz.zeroValue9
 t37:=Tryz.underlying22
 a37:=Tryz.isAgg22
 z37:=Tryz.sizeOf22
 v37:=Tryz.zeroValue22
 t70:=Tryz.underlying55
 a70:=Tryz.isAgg55
 z70:=Tryz.sizeOf55
 v70:=Tryz.zeroValue55
 t72:=Tryz.underlying57
 a72:=Tryz.isAgg57
 z72:=Tryz.sizeOf57
 v72:=Tryz.zeroValue57
 t127:=Tryz.underlying99
 a127:=Tryz.isAgg99
 z127:=Tryz.sizeOf99
 v127:=Tryz.zeroValue99 }
theorem FD:Builder.Extra Tryz.prog DG:={
 sizeBuilder:=by kernel_rfl
 liesBuilder:=by kernel_rfl
 t5:=Tryz.underlying5
 a5:=Tryz.isAgg5
 z5:=Tryz.sizeOf5
 v5:=Tryz.zeroValue5
 infoByte:=by kernel_rfl
 cellsByte:=by kernel_rfl
 sizeByte:=by kernel_rfl
 neB5:=by decide }
open Go.RowKit in
theorem DF(B b:Nat)(l:List UInt8)(w:World)(h:Lib.IsBuilder 57 5 B b (Lib.byteCells l) w)(z:B<=w.heap.size):
 Calls Tryz.prog 37 #[.pointer (some ⟨b,0,none⟩)] w fun e w'=>e=.returned (.string ⟨l.toArray⟩)/\Below B w w':=Any.Builder_String_any aeD FD B b l w h z
end
end Go.Proofs.YtkdbkjjacgigiaaGreatDoor
