/- Lemmas for CardRunConsole. No condition. -/
import Derived.Test.YtkdbkjjacgigiaaGreatDoorR01
import Derived.Shelf.Strings.OnBuilder
import Derived.Shelf.Small.Bits
import Derived.Shelf.Strings.BuilderK
import Derived.Shelf.Strconv.Itoa3
import Derived.Shelf.Strings.Shaped
import Derived.Shelf.Sort.Plain
import Derived.Shelf.Strings.Prefix
import Derived.Shelf.Strings.SplitShaped
import Derived.Shelf.Unicode.DecodeSlow
import Derived.Shelf.Slices.Turned
import Derived.Shelf.Slices.Clone
import Derived.Shelf.Slices.Cells
import Derived.Shelf.Slices.In.SortNone
import Derived.Shelf.Slices.Empties
import Derived.Shelf.Slices.Empties2
set_option maxRecDepth 100000
set_option maxHeartbeats 64000000
namespace Go.Proofs.YtkdbkjjacgigiaaGreatDoor
section
open Go.Shelf Go.Proofs.Tryz
theorem gS{α:Type}{a b:α}(h:a=b:=by kernel_rfl):some a=some b:=congrArg some h
set_option maxRecDepth 100000
def AA:Go.Shelf.Ren:=⟨fun|156=>269|165=>341|166=>36|169=>37|240=>94|241=>364|276=>152|277=>383|n=>n,fun|31=>52|9=>9|3=>3|4=>4|0=>0|20=>20|72=>57|76=>62|70=>55|37=>22|75=>61|127=>99|164=>129|5=>5|80=>64|n=>n,fun|n=>n⟩
theorem JS:Go.Proofs.Lays.n156 Tryz.prog AA:={
 mixed:=by kernel_rfl
 f156:=func269.trans gS
 f165:=func341.trans gS
 f166:=func36.trans gS
 f169:=func37.trans gS
 f240:=func94.trans gS
 f241:=func364.trans gS
 f276:=func152.trans gS
 f277:=func383.trans gS
 t0:=underlying0
 a0:=isAgg0
 z0:=sizeOf0
 v0:=zeroValue0
 t3:=underlying3
 a3:=isAgg3
 z3:=sizeOf3
 v3:=zeroValue3
 t4:=underlying4
 a4:=isAgg4
 z4:=sizeOf4
 v4:=zeroValue4
 t9:=underlying9
 a9:=isAgg9
 z9:=sizeOf9
 v9:=zeroValue9
 t20:=underlying20
 a20:=isAgg20
 z20:=sizeOf20
 v20:=zeroValue20
 t31:=underlying52
 a31:=isAgg52
 z31:=sizeOf52
 v31:=zeroValue52
 t37:=underlying22
 a37:=isAgg22
 z37:=sizeOf22
 v37:=zeroValue22
 t70:=underlying55
 a70:=isAgg55
 z70:=sizeOf55
 v70:=zeroValue55
 t72:=underlying57
 a72:=isAgg57
 z72:=sizeOf57
 v72:=zeroValue57
 t75:=underlying61
 a75:=isAgg61
 z75:=sizeOf61
 v75:=zeroValue61
 t76:=underlying62
 a76:=isAgg62
 z76:=sizeOf62
 v76:=zeroValue62
 t127:=underlying99
 a127:=isAgg99
 z127:=sizeOf99
 v127:=zeroValue99
 t164:=underlying129
 a164:=isAgg129
 z164:=sizeOf129
 v164:=zeroValue129 }
theorem uE:Builder.Extra Tryz.prog AA:={
 sizeBuilder:=by kernel_rfl
 liesBuilder:=by kernel_rfl
 t5:=underlying5
 a5:=isAgg5
 z5:=sizeOf5
 v5:=zeroValue5
 infoByte:=by kernel_rfl
 cellsByte:=by kernel_rfl
 sizeByte:=by kernel_rfl
 neB5:=by decide }
open Go.RowKit in
theorem RP(K o c:Nat)(F:List ByteArray)(D:ByteArray)(w:World)(z:∀(j:Nat) x,F[j]?=some x->w.cell? ⟨K,o+j,none⟩=some (.string x))(M:K<w.heap.size)(N:F.length<=140737488355328)(I:F.length<=c)(J:(Lib.join (F.map (·.data.toList)) D.data.toList).length<=140737488355328):
 Calls Tryz.prog 269 #[.slice (some ⟨K,o,none⟩) F.length c,.string D] w fun e w'=>e=.returned (.string ⟨(Lib.join (F.map (·.data.toList)) D.data.toList).toArray⟩)/\Below w.heap.size w w':=Any.strings_Join JS uE K o c F D w z M N I J
open Go.RowKit in
theorem JT(a:Option Addr)(c:Nat)(z:ByteArray)(w:World):
 Calls Tryz.prog 269 #[.slice a 0 c,.string z] w fun e w'=>e=.returned (.string ⟨#[]⟩)/\w'=w:=Any.strings_Join_none JS uE a c z w
def RN:Go.Shelf.Ren:=⟨fun|171=>217|243=>298|246=>350|283=>370|284=>371|285=>372|286=>373|129=>174|317=>386|318=>387|319=>388|320=>389|337=>395|338=>396|n=>n,fun|3=>3|9=>9|2=>2|4=>4|171=>209|0=>0|53=>141|37=>22|5=>5|173=>211|212=>223|51=>139|20=>20|213=>224|46=>117|232=>233|233=>234|n=>n,fun|17=>3|18=>4|19=>5|n=>n⟩
theorem acZ:Go.Proofs.LaysM.n171 Tryz.prog RN:={
 mixed:=by kernel_rfl
 f129:=func174.trans gS
 f171:=func217.trans gS
 f243:=func298.trans gS
 f246:=func350.trans gS
 f283:=func370.trans gS
 f284:=func371.trans gS
 f285:=func372.trans gS
 f286:=func373.trans gS
 f317:=func386.trans gS
 f318:=func387.trans gS
 f319:=func388.trans gS
 f320:=func389.trans gS
 f337:=func395.trans gS
 f338:=func396.trans gS
 t0:=underlying0
 a0:=isAgg0
 z0:=sizeOf0
 v0:=zeroValue0
 t2:=underlying2
 a2:=isAgg2
 z2:=sizeOf2
 v2:=zeroValue2
 t3:=underlying3
 a3:=isAgg3
 z3:=sizeOf3
 v3:=zeroValue3
 t4:=underlying4
 a4:=isAgg4
 z4:=sizeOf4
 v4:=zeroValue4
 t5:=underlying5
 a5:=isAgg5
 z5:=sizeOf5
 v5:=zeroValue5
 t9:=underlying9
 a9:=isAgg9
 z9:=sizeOf9
 v9:=zeroValue9
 t20:=underlying20
 a20:=isAgg20
 z20:=sizeOf20
 v20:=zeroValue20
 t37:=underlying22
 a37:=isAgg22
 z37:=sizeOf22
 v37:=zeroValue22
 t46:=underlying117
 a46:=isAgg117
 z46:=sizeOf117
 v46:=zeroValue117
 t51:=underlying139
 a51:=isAgg139
 z51:=sizeOf139
 v51:=zeroValue139
 t53:=underlying141
 a53:=isAgg141
 z53:=sizeOf141
 v53:=zeroValue141
 t171:=underlying209
 a171:=isAgg209
 z171:=sizeOf209
 v171:=zeroValue209
 t173:=underlying211
 a173:=isAgg211
 z173:=sizeOf211
 v173:=zeroValue211
 t212:=underlying223
 a212:=isAgg223
 z212:=sizeOf223
 v212:=zeroValue223
 t213:=underlying224
 a213:=isAgg224
 z213:=sizeOf224
 t232:=underlying233
 a232:=isAgg233
 z232:=sizeOf233
 v232:=zeroValue233
 t233:=underlying234
 a233:=isAgg234
 z233:=sizeOf234
 v233:=zeroValue234
 g17:=by kernel_rfl
 g18:=by kernel_rfl
 g19:=by kernel_rfl
 i0:=by kernel_rfl
 i2:=by kernel_rfl
 i3:=by kernel_rfl
 i4:=by kernel_rfl
 i5:=by kernel_rfl
 i9:=by kernel_rfl
 i20:=by kernel_rfl
 i37:=by kernel_rfl
 i46:=by kernel_rfl
 i51:=by kernel_rfl
 i53:=by kernel_rfl
 i171:=by kernel_rfl
 i173:=by kernel_rfl
 i212:=by kernel_rfl
 i232:=by kernel_rfl
 i233:=by kernel_rfl
 m17:=by kernel_rfl
 m18:=by kernel_rfl
 m19:=by kernel_rfl }
open Go.RowKit Go.Sort Go.Lib in
theorem RO(n:Int)(D:-9223372036854775808<=n)(h1:n<=9223372036854775807)(w:World)(z:Lib.TabIs Tryz.prog w "internal/strconv.uint64pow10" .u64 Lib.pow10Tab):
 Calls Tryz.prog 217 #[.int .i64 n] w fun e w'=>e=.returned (.string ⟨(Lib.itoa n).toArray⟩)/\∃k os,w'=grow (w.drewN k) os:=Any.strconv_Itoa acZ n D h1 w z
def T7:Go.Shelf.Ren:=⟨fun|110=>285|109=>346|n=>n,fun|31=>52|9=>9|4=>4|3=>3|0=>0|n=>n,fun|n=>n⟩
theorem agF:Go.Proofs.Lays.n110 Tryz.prog T7:={
 mixed:=by kernel_rfl
 f109:=func346.trans gS
 f110:=func285.trans gS
 t0:=underlying0
 a0:=isAgg0
 z0:=sizeOf0
 v0:=zeroValue0
 t3:=underlying3
 a3:=isAgg3
 z3:=sizeOf3
 v3:=zeroValue3
 t4:=underlying4
 a4:=isAgg4
 z4:=sizeOf4
 v4:=zeroValue4
 t9:=underlying9
 a9:=isAgg9
 z9:=sizeOf9
 v9:=zeroValue9
 t31:=underlying52
 a31:=isAgg52
 z31:=sizeOf52
 v31:=zeroValue52 }
open Go.Lib in
theorem uZ(b z n c:Nat)(F:List ByteArray)(x:ByteArray)(w:World)(I:n<=F.length)(D:n<=9223372036854775807)(hc:∀j,j<F.length->w.cell? ⟨b,z+j,none⟩=some (.string (F.getD j ByteArray.empty))):
 Calls Tryz.prog 285 #[.slice (some ⟨b,z,none⟩) n c,.string x] w fun e w'=>e=.returned (.bool (Lib.containsS (F.take n) x))/\w'=w:=Any.slices_Contains_string agF b z n c F x w I D hc
def UA:Go.Shelf.Ren:=⟨fun|189=>324|125=>131|257=>362|128=>173|129=>174|294=>375|295=>376|296=>377|297=>378|298=>379|299=>380|216=>368|300=>381|301=>382|328=>390|329=>391|330=>392|331=>393|332=>394|215=>385|343=>397|n=>n,fun|28=>25|3=>3|46=>117|0=>0|51=>139|53=>141|4=>4|183=>217|182=>216|131=>47|5=>5|9=>9|218=>225|222=>229|228=>231|229=>154|n=>n,fun|n=>n⟩
theorem RL:Go.Proofs.Lays.n189 Tryz.prog UA:={
 mixed:=by kernel_rfl
 f125:=func131.trans gS
 f128:=func173.trans gS
 f129:=func174.trans gS
 f189:=func324.trans gS
 f215:=func385.trans gS
 f216:=func368.trans gS
 f257:=func362.trans gS
 f294:=func375.trans gS
 f295:=func376.trans gS
 f296:=func377.trans gS
 f297:=func378.trans gS
 f298:=func379.trans gS
 f299:=func380.trans gS
 f300:=func381.trans gS
 f301:=func382.trans gS
 f328:=func390.trans gS
 f329:=func391.trans gS
 f330:=func392.trans gS
 f331:=func393.trans gS
 f332:=func394.trans gS
 f343:=func397.trans gS
 t0:=underlying0
 a0:=isAgg0
 z0:=sizeOf0
 v0:=zeroValue0
 t3:=underlying3
 a3:=isAgg3
 z3:=sizeOf3
 v3:=zeroValue3
 t4:=underlying4
 a4:=isAgg4
 z4:=sizeOf4
 v4:=zeroValue4
 t5:=underlying5
 a5:=isAgg5
 z5:=sizeOf5
 v5:=zeroValue5
 t9:=underlying9
 a9:=isAgg9
 z9:=sizeOf9
 v9:=zeroValue9
 t28:=underlying25
 a28:=isAgg25
 z28:=sizeOf25
 v28:=zeroValue25
 t46:=underlying117
 a46:=isAgg117
 z46:=sizeOf117
 v46:=zeroValue117
 t51:=underlying139
 a51:=isAgg139
 z51:=sizeOf139
 v51:=zeroValue139
 t53:=underlying141
 a53:=isAgg141
 z53:=sizeOf141
 v53:=zeroValue141
 t131:=underlying47
 a131:=isAgg47
 z131:=sizeOf47
 v131:=zeroValue47
 t182:=underlying216
 a182:=isAgg216
 z182:=sizeOf216
 v182:=zeroValue216
 t183:=underlying217
 a183:=isAgg217
 z183:=sizeOf217
 v183:=zeroValue217
 t218:=underlying225
 a218:=isAgg225
 z218:=sizeOf225
 v218:=zeroValue225
 t222:=underlying229
 a222:=isAgg229
 z222:=sizeOf229
 v222:=zeroValue229
 t228:=underlying231
 a228:=isAgg231
 z228:=sizeOf231
 v228:=zeroValue231
 t229:=underlying154
 a229:=isAgg154
 z229:=sizeOf154
 v229:=zeroValue154 }
open Go.Sort Go.RowKit in
theorem MD(z D cap:Nat)(I:List Int)(w:World)(K:Holds (Value.int .i64) w z D I.toArray)(F:z<w.heap.size)(J:I.length<4611686018427387904):
 Calls Tryz.prog 324 #[.slice (some ⟨z,D,none⟩) I.length cap] w fun e w'=>
  e=.returned (.tuple #[])/\∃n os,w'=grow (putRow (Value.int .i64) (Sort.ahead w n) z D (I.mergeSort fun x y=>decide (x<=y)).toArray) os:=Any.slices_Sort_int RL z D cap I w K F J
open Go.RowKit Go.Sort in
theorem DY(p:Option Addr)(cap:Nat)(w:World):
 Calls Tryz.prog 324 #[.slice p 0 cap] w fun e w'=>e=.returned (.tuple #[])/\w'=w:=Any.slices_Sort_int_none RL p cap w
def PJ:Go.Shelf.Ren:=⟨fun|20=>326|n=>n,fun|22=>25|3=>3|4=>4|0=>0|n=>n,fun|n=>n⟩
theorem MC:Go.Proofs.Lays2.n20 Tryz.prog PJ:={
 mixed:=by kernel_rfl
 f20:=func326.trans gS
 t0:=underlying0
 a0:=isAgg0
 z0:=sizeOf0
 v0:=zeroValue0
 t3:=underlying3
 a3:=isAgg3
 z3:=sizeOf3
 v3:=zeroValue3
 t4:=underlying4
 a4:=isAgg4
 z4:=sizeOf4
 v4:=zeroValue4
 t22:=underlying25
 a22:=isAgg25
 z22:=sizeOf25
 v22:=zeroValue25
 i3:=by kernel_rfl }
open Go.RowKit Go.Lib Go.Sort in
theorem G8(z D cap:Nat)(F:List Int)(w:World)(K:Holds (Value.int .i64) w z D F.toArray)(J:F.length<=9223372036854775807)(I:F.length<=cap):
 Calls Tryz.prog 326 #[.slice (some ⟨z,D,none⟩) F.length cap] w fun e w'=>e=.returned (.slice (some ⟨z,D,none⟩) (Lib.compact F).length cap)/\∃q,w'=putRow (Value.int .i64) (Sort.ahead w q) z D (Lib.compact F++List.replicate (F.length-(Lib.compact F).length) 0).toArray:=Any.slices_Compact_int MC z D cap F w K J I
open Go.RowKit Go.Lib Go.Sort in
theorem BJ(a:Option Addr)(cap:Nat)(w:World):
 Calls Tryz.prog 326 #[.slice a 0 cap] w fun e w'=>e=.returned (.slice a 0 cap)/\w'=w:=Any.slices_Compact_int_empty MC a cap w
def RM:Go.Shelf.Ren:=⟨fun|146=>33|221=>86|268=>127|138=>128|143=>129|195=>169|197=>170|218=>171|219=>172|260=>254|217=>255|225=>256|224=>257|267=>258|266=>335|314=>336|n=>n,fun|9=>9|31=>52|3=>3|4=>4|0=>0|105=>135|21=>21|5=>5|46=>117|119=>190|139=>193|138=>192|146=>194|51=>139|n=>n,fun|1=>0|3=>1|4=>2|n=>n⟩
theorem acY:Go.Proofs.LaysM.n146 Tryz.prog RM:={
 mixed:=by kernel_rfl
 f138:=func128.trans gS
 f143:=func129.trans gS
 f146:=func33.trans gS
 f195:=func169.trans gS
 f197:=func170.trans gS
 f217:=func255.trans gS
 f218:=func171.trans gS
 f219:=func172.trans gS
 f221:=func86.trans gS
 f224:=func257.trans gS
 f225:=func256.trans gS
 f260:=func254.trans gS
 f266:=func335.trans gS
 f267:=func258.trans gS
 f268:=func127.trans gS
 f314:=func336.trans gS
 t0:=underlying0
 a0:=isAgg0
 z0:=sizeOf0
 v0:=zeroValue0
 t3:=underlying3
 a3:=isAgg3
 z3:=sizeOf3
 v3:=zeroValue3
 t4:=underlying4
 a4:=isAgg4
 z4:=sizeOf4
 v4:=zeroValue4
 t5:=underlying5
 a5:=isAgg5
 z5:=sizeOf5
 v5:=zeroValue5
 t9:=underlying9
 a9:=isAgg9
 z9:=sizeOf9
 v9:=zeroValue9
 t21:=underlying21
 a21:=isAgg21
 z21:=sizeOf21
 v21:=zeroValue21
 t31:=underlying52
 a31:=isAgg52
 z31:=sizeOf52
 v31:=zeroValue52
 t46:=underlying117
 a46:=isAgg117
 z46:=sizeOf117
 v46:=zeroValue117
 t51:=underlying139
 a51:=isAgg139
 z51:=sizeOf139
 v51:=zeroValue139
 t105:=underlying135
 a105:=isAgg135
 z105:=sizeOf135
 v105:=zeroValue135
 t119:=underlying190
 a119:=isAgg190
 z119:=sizeOf190
 t138:=underlying192
 a138:=isAgg192
 z138:=sizeOf192
 v138:=zeroValue192
 t139:=underlying193
 a139:=isAgg193
 z139:=sizeOf193
 v139:=zeroValue193
 t146:=underlying194
 a146:=isAgg194
 z146:=sizeOf194
 v146:=zeroValue194
 g1:=by kernel_rfl
 g3:=by kernel_rfl
 g4:=by kernel_rfl
 i0:=by kernel_rfl
 i3:=by kernel_rfl
 i4:=by kernel_rfl
 i5:=by kernel_rfl
 i9:=by kernel_rfl
 i21:=by kernel_rfl
 i31:=by kernel_rfl
 i46:=by kernel_rfl
 i51:=by kernel_rfl
 i105:=by kernel_rfl
 i138:=by kernel_rfl
 i139:=by kernel_rfl
 i146:=by kernel_rfl
 m1:=by kernel_rfl
 s1_3:=fun w h=>Go.Proofs.cell_of_shapedOpen_int (zero:=#[.int .i64 0]) (t:=3) h (of_decide_eq_true (by kernel_rfl)) (by kernel_rfl) rfl (by kernel_rfl) (by kernel_rfl) underlying3
 m3:=by kernel_rfl
 m4:=by kernel_rfl }
open Go.RowKit Go.Lib in
def T9:Go.Shelf.Ren:=⟨fun|146=>33|221=>86|268=>127|138=>128|143=>129|195=>169|197=>170|218=>171|219=>172|260=>254|217=>255|225=>256|224=>257|267=>258|266=>335|314=>336|n=>n,fun|9=>9|31=>52|3=>3|4=>4|0=>0|105=>135|21=>21|5=>5|46=>117|119=>190|139=>193|138=>192|146=>194|51=>139|n=>n,fun|1=>0|3=>1|4=>2|n=>n⟩
theorem agG:Go.Proofs.Lays.n146 Tryz.prog T9:={
 mixed:=by kernel_rfl
 f138:=func128.trans gS
 f143:=func129.trans gS
 f146:=func33.trans gS
 f195:=func169.trans gS
 f197:=func170.trans gS
 f217:=func255.trans gS
 f218:=func171.trans gS
 f219:=func172.trans gS
 f221:=func86.trans gS
 f224:=func257.trans gS
 f225:=func256.trans gS
 f260:=func254.trans gS
 f266:=func335.trans gS
 f267:=func258.trans gS
 f268:=func127.trans gS
 f314:=func336.trans gS
 t0:=underlying0
 a0:=isAgg0
 z0:=sizeOf0
 v0:=zeroValue0
 t3:=underlying3
 a3:=isAgg3
 z3:=sizeOf3
 v3:=zeroValue3
 t4:=underlying4
 a4:=isAgg4
 z4:=sizeOf4
 v4:=zeroValue4
 t5:=underlying5
 a5:=isAgg5
 z5:=sizeOf5
 v5:=zeroValue5
 t9:=underlying9
 a9:=isAgg9
 z9:=sizeOf9
 v9:=zeroValue9
 t21:=underlying21
 a21:=isAgg21
 z21:=sizeOf21
 v21:=zeroValue21
 t31:=underlying52
 a31:=isAgg52
 z31:=sizeOf52
 v31:=zeroValue52
 t46:=underlying117
 a46:=isAgg117
 z46:=sizeOf117
 v46:=zeroValue117
 t51:=underlying139
 a51:=isAgg139
 z51:=sizeOf139
 v51:=zeroValue139
 t105:=underlying135
 a105:=isAgg135
 z105:=sizeOf135
 v105:=zeroValue135
 t119:=underlying190
 a119:=isAgg190
 z119:=sizeOf190
 t138:=underlying192
 a138:=isAgg192
 z138:=sizeOf192
 v138:=zeroValue192
 t139:=underlying193
 a139:=isAgg193
 z139:=sizeOf193
 v139:=zeroValue193
 t146:=underlying194
 a146:=isAgg194
 z146:=sizeOf194
 v146:=zeroValue194
 g1:=by kernel_rfl
 g3:=by kernel_rfl
 g4:=by kernel_rfl }
open Go.RowKit Go.Lib in
theorem PK(s z:ByteArray)(m:Int)(w:World)(D:s.size<4294967281)(hm:w.cell? ⟨0,0,none⟩=some (.int .i64 m))(h1:1<=z.size):
 Calls Tryz.prog 33 #[.string s,.string z] w fun e w'=>
  e=.returned (.slice (some ⟨w.heap.size,0,none⟩) (Lib.countB s z+1) (Lib.countB s z+1))/\w'=w.alloc (.cells ((Lib.splitB z 0 (Lib.countB s z) s).map Value.string).toArray 9):=Any.strings_Split agG (by kernel_rfl) s z m w D hm h1
def T5:Go.Shelf.Ren:=⟨fun|101=>142|208=>216|206=>297|n=>n,fun|9=>9|4=>4|3=>3|n=>n,fun|n=>n⟩
theorem agD:Go.Proofs.Lays.n101 Tryz.prog T5:={
 mixed:=by kernel_rfl
 f101:=func142.trans gS
 f206:=func297.trans gS
 f208:=func216.trans gS
 t3:=underlying3
 a3:=isAgg3
 z3:=sizeOf3
 v3:=zeroValue3
 t4:=underlying4
 a4:=isAgg4
 z4:=sizeOf4
 v4:=zeroValue4
 t9:=underlying9
 a9:=isAgg9
 z9:=sizeOf9
 v9:=zeroValue9 }
open Go.RowKit Go.Lib in
theorem H6(s p:ByteArray)(w:World):
 Calls Tryz.prog 142 #[.string s,.string p] w fun e w'=>e=.returned (.string ⟨(Lib.trimPrefix s.data.toList p.data.toList).toArray⟩)/\w'=w:=Any.strings_TrimPrefix agD s p w
def T6:Go.Shelf.Ren:=⟨fun|102=>34|209=>87|207=>130|n=>n,fun|9=>9|4=>4|3=>3|n=>n,fun|n=>n⟩
theorem agE:Go.Proofs.Lays.n102 Tryz.prog T6:={
 mixed:=by kernel_rfl
 f102:=func34.trans gS
 f207:=func130.trans gS
 f209:=func87.trans gS
 t3:=underlying3
 a3:=isAgg3
 z3:=sizeOf3
 v3:=zeroValue3
 t4:=underlying4
 a4:=isAgg4
 z4:=sizeOf4
 v4:=zeroValue4
 t9:=underlying9
 a9:=isAgg9
 z9:=sizeOf9
 v9:=zeroValue9 }
open Go.RowKit Go.Lib in
theorem H7(s p:ByteArray)(w:World)(z:s.size<=9223372036854775807):
 Calls Tryz.prog 34 #[.string s,.string p] w fun e w'=>e=.returned (.string ⟨(Lib.trimSuffix s.data.toList p.data.toList).toArray⟩)/\w'=w:=Any.strings_TrimSuffix agE s p w z
def G6:Go.Shelf.Ren:=⟨fun|169=>37|n=>n,fun|70=>55|9=>9|0=>0|72=>57|37=>22|127=>99|3=>3|5=>5|n=>n,fun|n=>n⟩
theorem agH:Go.Proofs.Lays.n169 Tryz.prog G6:={
 mixed:=by kernel_rfl
 f169:=func37.trans gS
 t0:=underlying0
 a0:=isAgg0
 z0:=sizeOf0
 v0:=zeroValue0
 t3:=underlying3
 a3:=isAgg3
 z3:=sizeOf3
 v3:=zeroValue3
 t9:=underlying9
 a9:=isAgg9
 z9:=sizeOf9
 v9:=zeroValue9
 t37:=underlying22
 a37:=isAgg22
 z37:=sizeOf22
 v37:=zeroValue22
 t70:=underlying55
 a70:=isAgg55
 z70:=sizeOf55
 v70:=zeroValue55
 t72:=underlying57
 a72:=isAgg57
 z72:=sizeOf57
 v72:=zeroValue57
 t127:=underlying99
 a127:=isAgg99
 z127:=sizeOf99
 v127:=zeroValue99 }
theorem JR:Builder.Extra Tryz.prog G6:={
 sizeBuilder:=by kernel_rfl
 liesBuilder:=by kernel_rfl
 t5:=underlying5
 a5:=isAgg5
 z5:=sizeOf5
 v5:=zeroValue5
 infoByte:=by kernel_rfl
 cellsByte:=by kernel_rfl
 sizeByte:=by kernel_rfl
 neB5:=by decide }
open Go.RowKit in
theorem GZ(B b:Nat)(l:List UInt8)(w:World)(h:Lib.IsBuilder 57 5 B b (Lib.byteCells l) w)(z:B<=w.heap.size):
 Calls Tryz.prog 37 #[.pointer (some ⟨b,0,none⟩)] w fun e w'=>e=.returned (.string ⟨l.toArray⟩)/\Below B w w':=Any.Builder_String_any agH JR B b l w h z
end
section
open Go.RowKit Go.G5 Go.Proofs.Tryz
theorem UM(B b:Nat)(D:List Value)(s:aB)(w:World)(h:Lib.IsBuilder 57 5 B b D w)(z:D.length+s.size<=140737488355328)(F:B<=w.heap.size):
  Calls prog 36 #[aP (some ⟨b,0,none⟩),aR s] w fun e w'=>e=aQ (aS #[s.size,.nilIface])/\(Lib.BuilderAt 57 5 B b (aP (some ⟨b,0,none⟩)) (D++Lib.strCells s) w'/\Below B w w'):=
 Any.Builder_WriteString (ρ:=AA) { JS with } uE B b D s w h z F
theorem E4{T e:TypeId}{B b:Nat}{p:Value}{I:List Value}{w w':World}(h:Lib.BuilderAt T e B b p I w)(hb:Below w w w'):Lib.BuilderAt T e B b p I w':=by
 obtain⟨hB,v,h2,h3,h4⟩:=h;have hlt:b<w.heap.size:=by
  by_cases K:b<w.heap.size
  .exact K
  .rw[Array.getElem?_eq_none aA]at h2;cases h2
 refine⟨hB,v,?_,?_,h4⟩
 .rw[hb.block b hlt];exact h2
 .obtain⟨z,h1⟩:=h3;refine⟨z,?_⟩;exact ZU
theorem SB{T e:TypeId}{B b:Nat}{z:List Value}{w w':World}(h:Lib.IsBuilder T e B b z w)(hb:Below w w w'):Lib.IsBuilder T e B b z w':=
 h.elim (fun x=>.inl (E4 x hb)) (fun x=>.inr (E4 x hb))
def lA(w:World):Prop:=Lib.TabIs prog w "internal/strconv.uint64pow10" .u64 Lib.pow10Tab
theorem alW:(prog.globalNamed "internal/strconv.uint64pow10").isSome=true:=bM
theorem lA.keep{w w':World}(h:lA w)(hb:Below w w w'):lA w':=by
 obtain⟨g,z⟩:=Option.isSome_iff_exists.1 alW;exact Go.Joins.var_stays z h hb aU
theorem aeL(w:World)(k:Nat)(os:Array Obj):Below w w (Sort.grow (w.drewN k) os):=by
 refine⟨rfl,rfl,rfl,?_,fun b hb=>?_⟩
 .show w.heap.size<=(w.heap++os).size;simp
 .show(w.heap++os)[b]?=w.heap[b]?;rw[Array.getElem?_append_left hb]
theorem C9(n:Int)(z:fM n)(w:World)(D:lA w):
  aH 143 #[n] w (aR (dB n)):=by
 go_enter func143,ntmps143;go_wp2_with (go_at_call 217;refine aV (RO n z.1 z.2 _ D) ?_;rintro w' ⟨k,os,rfl⟩);go_ret;exact⟨rfl,aeL w k os⟩
def uW(s:ByteArray):ByteArray:=J6 (if zH s then s.data.toList.tail else s.data.toList)
theorem aoR(s:aB):Lib.trimPrefix s.data.toList (⟨#[45]⟩:aB).data.toList=(uW s).data.toList:=by
 unfold uW zH;rw[tY];show Lib.trimPrefix s.data.toList [45]=_
 cases h:s.data.toList with
 |nil=>rfl
 |cons b l=>
  by_cases hb:b=45
  .subst hb;rfl
  .have e:((b::l).headD 0==45)=false:=by simpa using hb
   have e2:([45]:List UInt8).isPrefixOf (b::l)=false:=by simp[List.isPrefixOf];exact fun h=>hb h.symm
   rw[e];unfold Lib.trimPrefix;rw[if_neg (by show ¬([45]:List UInt8).isPrefixOf (b::l)=true;rw[e2];simp)]
   rfl
theorem adZ(s:aB):lS (uW s).data.toList=lS s.data.toList:=by
 unfold uW;rw[tY]
 cases h:zH s with
 |false=>rfl
 |true=>
  unfold zH at h
  cases hl:s.data.toList with
  |nil=>rfl
  |cons b l=>
   rw[hl]at h;have:b=45:=by simpa using h
   subst this;exact(agS l).symm
theorem aoQ(s:aB):(uW s).size<=s.size/\((uW s).size=s.size↔zH s=false):=by
 unfold uW
 cases h:zH s with
 |false=>rw[Lib.size_eq,tY,Lib.size_eq];simp
 |true=>
  unfold zH at h;rw[Lib.size_eq,tY,Lib.size_eq]
  cases hl:s.data.toList with
  |nil=>rw[hl]at h;simp at h
  |cons b l=>simp
theorem LW{s:aB}(h:pB s=true):1<=(uW s).size/\(uW s).size<=9/\∀b∈(uW s).data.toList,mD b=true:=by
 obtain⟨h1,h2,h3⟩:=af3 h;obtain⟨n,I⟩:=aW (pN s);rw[<-I]at h1 h2 h3;have hd:(uW s).data.toList=Lib.decDigits n.natAbs:=by
  unfold uW zH;rw[tY,<-h1,aiM];by_cases F:n<0
  .rw[if_pos F];rfl
  .rw[if_neg F];have:=am8 n.natAbs;rw[if_neg (by simpa using this)]
 have D:=C4 n.natAbs;have z:=uI 9 n.natAbs aA bZ;rw[Lib.size_eq,hd];refine⟨?_,z,(adI _).1⟩
 cases J:Lib.decDigits n.natAbs with
 |nil=>exact absurd J D
 |cons b l=>simp
theorem arE{s:aB}(h:9<(uW s).size):pB s=false:=by
 cases z:pB s with
 |false=>rfl
 |true=>have:=(LW z).2.1;omega
theorem arF{s:aB}(h:(uW s).size=0):pB s=false:=by
 cases z:pB s with
 |false=>rfl
 |true=>have:=(LW z).1;omega
theorem atJ{s:aB}(b:UInt8)(hb:b∈(uW s).data.toList)(h:mD b=false):pB s=false:=by
 cases z:pB s with
 |false=>rfl
 |true=>have:=(LW z).2.2 b hb;rw[h]at this;cases this
theorem FJ(l:List UInt8):lQ l<=l.length:=List.countP_le_length
theorem atL{s:aB}(h:(uW s).size<=9):pB s=decide (dB (pN s)=s)/\-999999999<=pN s/\pN s<=999999999:=by
 have h1:=FJ (uW s).data.toList;rw[Lib.size_eq]at h;have h2:=CW (uW s).data.toList 9 aA;rw[adZ]at h2;have h3:-999999999<=pN s/\pN s<=999999999:=by
  unfold pN
  split<;>omega
 refine⟨?_,h3⟩;unfold pB;rw[bH h3.1,bH h3.2];simp
theorem RX(s:aB)(k:Nat)(h:k<s.size):s.data.toList.take (k+1)=s.data.toList.take k++[s[k]]:=by
 rw[cH (by simpa using h)];rfl
theorem amV(s:aB)(k:Nat)(h:k<s.size):s[k]∈s.data.toList:=by
 have:s.data.toList[k]'(by simpa using h)∈s.data.toList:=aX _;exact this
theorem dR(a b:aB):(a.toList==b.toList)=decide (a=b):=by
 rw[Bool.eq_iff_iff,beq_iff_eq,decide_eq_true_iff];constructor
 .intro h;refine fQ ?_;rw[Lib.toList_data,Lib.toList_data]at h;exact h
 .intro h;rw[h]
theorem ajD{p:Prop}(h:p:=by
  have f5:=aT O;clear O he;go_wp2_with fail;rw[<-f5.out];refine aV (f4.out _ hp) ?_;intro w2 b2;by_cases ht:T=s
  .have F:pB s=true:=by rw[b7.out,bH ht]
   have g8:(T.toList==s.toList)=true:=by rw[dR,bH ht]
   have z:=aT F;clear F ht;go_wp2;go_ret2;exact⟨gH (by rw[DP z.out,HM.out]) z.out.symm,b2⟩
  .have F:pB s=false:=by rw[b7.out,bG ht]
   have g8:(T.toList==s.toList)=false:=by rw[dR,bG ht]
   have z:=aT F;clear F ht;go_wp2;go_ret2;exact⟨gH (wE z.out).symm z.out.symm,b2⟩):p:=h
theorem JJ(s:aB)(w:World)(_:s.size<=9223372036854775807)(hp:lA w):
  aH 91 #[aR s] w (aS #[(pV s),aG (pB s)]):=by
 have b5:=aoR s;have a1:=aoQ s;have R:=adZ s;have J:=arE (s:=s);have K:=arF (s:=s);have M:=atJ (s:=s);have N:=atL (s:=s);obtain⟨D,hD⟩:=aW (uW s);rw[<-hD]at b5 a1 R J K M N;have b4:=fun W:World=>H6 s ⟨#[45]⟩ W;have c7:(⟨(Lib.trimPrefix s.data.toList (⟨#[45]⟩:aB).data.toList).toArray⟩:aB)=D:=by rw[b5]
 simp only[c7]at b4;have h7:=a1.1;have b1:=aT b4;have c5:=aT a1;have c6:=aT R;have a9:=aT J;have b0:=aT K;have a6:=aT M;have b8:=aT N;clear b5 a1 R J K M N hD b4 c7;by_cases h0:D.size=0
 .have F:=b0.out h0;have e0:(D.size:Int)<1:=aA;have z:=aT F;clear F h0;go_enter func91,ntmps91;go_wp2_with fail;refine aV (b1.out _) ?_;rintro w1 rfl;go_wp2;go_ret2;exact⟨gH (wE z.out).symm z.out.symm,bJ _ _⟩
 have e0:¬(D.size:Int)<1:=aA;by_cases h9:9<D.size
 .have F:=a9.out h9;have e4:(9:Int)<(D.size:Int):=aA;have z:=aT F;clear F h0 h9;go_enter func91,ntmps91;go_wp2_with fail;refine aV (b1.out _) ?_;rintro w1 rfl;go_wp2;go_ret2;exact⟨gH (wE z.out).symm z.out.symm,bJ _ _⟩
 have e4:¬(9:Int)<(D.size:Int):=aA;have e5:D.size<=9:=aA;clear h0 h9;go_enter func91,ntmps91;go_wp2_with fail;refine aV (b1.out _) ?_;rintro w1 rfl;go_wp2_with fail;clear e0 e4;go_loop [5,6] (fun nv iv=>∃k:Nat,k<=D.size/\iv=aO k/\nv=aO (lS (D.data.toList.take k):Int)) (fun _ iv=>D.size-(intOf iv).toNat)
 .exact⟨0,aZ _,rfl,rfl⟩
 obtain⟨k,hk,rfl,rfl⟩:=hrel;have b6:=CW (D.data.toList.take k) 9 (dC (FJ _) (by rw[List.length_take];omega));by_cases hlt:k<D.size
 .have e7:(k:Int)<(D.size:Int):=aA;have e9:=RX D k hlt;have a8:=amV D k hlt;have Z:=MK (D.data.toList.take k) D[k];rw[<-e9]at Z;have f2:=CW (D.data.toList.take k) 8 (dC (FJ _) (by rw[List.length_take];omega));obtain⟨v,hv⟩:=aW (lS (D.data.toList.take k));rw[<-hv]at Z b6 f2 |-;have a7:=aT a8;have f7:=aT Z;have g0:=D[k].toNat_lt;clear e9 a8 Z hv;by_cases c8:D[k].toNat<48
  .have I:mD D[k]=false:=by unfold mD;simp;omega
   have F:=a6.out _ a7.out I;have z:=aT F;have c9:(D[k].toNat:Int)<48:=aA;clear F I;go_wp2;go_ret2;exact⟨gH (wE z.out).symm z.out.symm,bJ _ _⟩
  .by_cases d0:57<D[k].toNat
   .have I:mD D[k]=false:=by unfold mD;simp;omega
    have F:=a6.out _ a7.out I;have z:=aT F;have c9:¬(D[k].toNat:Int)<48:=aA;have g2:(57:Int)<(D[k].toNat:Int):=aA;clear F I c8 d0;go_wp2;go_ret2;exact⟨gH (wE z.out).symm z.out.symm,bJ _ _⟩
   .have I:mD D[k]=true:=by unfold mD;simp;omega
    have e8:(lS (D.data.toList.take (k+1)):Int)=(v:Int)*10+((D[k].toNat:Int)-48):=by rw[f7.out];unfold rQ;rw[if_pos I];omega
    have f6:=aT e8;have c9:¬(D[k].toNat:Int)<48:=aA;have g2:¬(57:Int)<(D[k].toNat:Int):=aA;clear e8 I c8 d0;go_wp2;go_round
    .exact⟨k+1,aA,cD,by rw[f6.out]⟩
    exact aY
 .have e7:¬(k:Int)<(D.size:Int):=aA
  have e6:D.data.toList.take k=D.data.toList:=List.take_of_length_le (by rw[<-Lib.size_eq];omega);rw[e6,c6.out]at b6 |-;obtain⟨S,g6,g7⟩:=b8.out e5;have Y:pN s=if D.size=s.size then (lS s.data.toList:Int) else -(lS s.data.toList:Int):=by
   unfold pN;by_cases h:D.size=s.size
   .rw[if_pos h,if_neg (by rw[c5.out.2.1 h];simp)]
   .rw[if_neg h]
    cases hg:zH s with
    |true=>rw[if_pos rfl]
    |false=>exact absurd (c5.out.2.2 hg) h
  obtain⟨v,hv⟩:=aW (lS s.data.toList);rw[<-hv]at Y b6 |-;obtain⟨m,hm⟩:=aW (pN s);have b3:=fun W (h:lA W)=>C9 m ⟨aA,aA⟩ W h;obtain⟨T,hT⟩:=aW (dB m);rw[<-hm]at Y S g6 g7;simp only[<-hT]at b3;rw[<-hT]at S;have f4:=aT b3;have HM:=aT hm;have b7:=aT S;have b9:=aT Y;clear e6 hv hm hT b3 S Y;by_cases he:D.size=s.size
  .have g5:((D.size:Int) != (s.size:Int))=false:=by rw[bne_eq_false_iff_eq];omega
   have O:=b9.out;rw[if_pos he]at O;exact ajD
  .have g5:((D.size:Int) != (s.size:Int))=true:=by rw[bne_iff_ne];omega
   have O:=b9.out;rw[if_neg he]at O;exact ajD
theorem aeV(l:List UInt8):lQ (45::l)=lQ l:=by unfold lQ;rfl
theorem arG(s:aB):lQ s.data.toList=lQ (uW s).data.toList:=by
 unfold uW;rw[tY]
 cases h:zH s with
 |false=>rfl
 |true=>
  unfold zH at h
  cases hl:s.data.toList with
  |nil=>rfl
  |cons b l=>
   rw[hl]at h;have:b=45:=by simpa using h
   subst this;exact aeV l
theorem atK{s:aB}(h:9<lQ s.data.toList):pB s=false:=by
 cases z:pB s with
 |false=>rfl
 |true=>have h1:=(LW z).2.1;rw[arG]at h;have h2:=FJ (uW s).data.toList;rw[Lib.size_eq]at h1;omega
theorem atM{s:aB}(h:10<s.size):pB s=false:=by
 cases z:pB s with
 |false=>rfl
 |true=>
  have h1:=(LW z).2.1;have h2:s.size<=(uW s).size+1:=by
   unfold uW;rw[Lib.size_eq,Lib.size_eq,tY]
   split
   .simp;omega
   .omega
  omega
theorem arD{s:aB}(h:lQ s.data.toList<=9):pB s=decide (dB (pN s)=s)/\-999999999<=pN s/\pN s<=999999999:=by
 have h2:=CW s.data.toList 9 h;have h3:-999999999<=pN s/\pN s<=999999999:=by
  unfold pN
  split<;>omega
 refine⟨?_,h3⟩;unfold pB;rw[bH h3.1,bH h3.2];simp
theorem aoS{s:aB}(h:s.size=0):zH s=false:=by
 unfold zH;rw[Lib.size_eq]at h;rw[eS h];rfl
theorem atN{s:aB}(h:0<s.size):zH s=((s[0].toNat:Int)==45):=by
 unfold zH;have e:s.data.toList.headD 0=s[0]:=by
  have h2:0<s.data.toList.length:=by rw[<-Lib.size_eq];exact h
  rw[List.headD_eq_head?_getD,List.head?_eq_getElem?,cG h2];rfl
 rw[e,Bool.eq_iff_iff,beq_iff_eq,beq_iff_eq];constructor
 .intro h;rw[h];rfl
 .intro h;have h2:s[0].toNat=45:=aA;have:s[0]=UInt8.ofNat s[0].toNat:=bF;rw[this,h2];rfl
theorem ajC{p:Prop}(h:p:=by
  have h6:=a1.symm;have b6:=aT I;clear I hg a1;go_wp2_with fail;rw[<-b6.out];refine aV (e5.out _) ?_;intro w2 b2;by_cases ht:T=s
  .have D:pB s=true:=by rw[R.out,bH ht]
   have d0:(T.toList==s.toList)=true:=by rw[dR,bH ht]
   have z:=aT D;clear D ht;go_wp2;go_ret2;exact⟨gH (by rw[DP z.out,HM.out]) z.out.symm,b2⟩
  .have D:pB s=false:=by rw[R.out,bG ht]
   have d0:(T.toList==s.toList)=false:=by rw[dR,bG ht]
   have z:=aT D;clear D ht;go_wp2;go_ret2;exact⟨gH (wE z.out).symm z.out.symm,b2⟩):p:=h
theorem TC{p:Prop}(h:p:=by
  go_wp2;go_round
  .exact⟨j+1,aA,aA,cD,by rw[b8.out],by rw[b9.out]⟩
  exact aY):p:=h
theorem JK(s:aB)(w:World)(_:s.size<=9223372036854775807):
  aH 121 #[aR s] w (aS #[(pV s),aG (pB s)]):=by
 have a8:=atK (s:=s);have b4:=atM (s:=s);have a9:=arD (s:=s);have e4:=aT a8;have a7:=aT b4;have e6:=aT a9;clear a8 b4 a9;go_enter func121,ntmps121;go_wp2_with fail;go_loop [4,5,6] (fun nv kv iv=>∃j:Nat,j<=s.size/\j<=11/\iv=aO j/\nv=aO (lS (s.data.toList.take j):Int)/\kv=aO (lQ (s.data.toList.take j):Int)) (fun _ _ iv=>11-(intOf iv).toNat)
 .exact⟨0,aZ _,aA,rfl,rfl,rfl⟩
 obtain⟨j,hj,h5,rfl,rfl,rfl⟩:=hrel;have hcl:lQ (s.data.toList.take j)<=j:=dC (FJ _) (by rw[List.length_take];omega);have O:=CW (s.data.toList.take j) 11 aA;by_cases hlt:j<s.size
 .have f6:(j:Int)<(s.size:Int):=aA;by_cases h7:j<11
  .have f2:(j:Int)<11:=aA;have e0:=CW (s.data.toList.take j) 10 aA;have f7:=RX s j hlt;have a6:=MK (s.data.toList.take j) s[j];have S:=ahL (s.data.toList.take j) s[j];rw[<-f7]at a6 S;obtain⟨v,N⟩:=aW (lS (s.data.toList.take j));obtain⟨q,M⟩:=aW (lQ (s.data.toList.take j));rw[<-N]at a6 O e0 |-;rw[<-M]at S hcl |-;have c5:=aT a6;have b5:=aT S;have g2:=s[j].toNat_lt;clear f7 a6 S N M;by_cases c7:48<=s[j].toNat
   .by_cases f5:s[j].toNat<=57
    .have F:mD s[j]=true:=by unfold mD;simp;omega
     have J:(lS (s.data.toList.take (j+1)):Int)=(v:Int)*10+((s[j].toNat:Int)-48):=by rw[c5.out];unfold rQ;rw[if_pos F];omega
     have K:(lQ (s.data.toList.take (j+1)):Int)=(q:Int)+1:=by rw[b5.out,if_pos F];omega
     have b8:=aT J;have b9:=aT K;have f4:(48:Int)<=(s[j].toNat:Int):=aA;have g4:(s[j].toNat:Int)<=57:=aA;clear J K F c7 f5;exact TC
    .have F:mD s[j]=false:=by unfold mD;simp;omega
     have J:lS (s.data.toList.take (j+1))=v:=by rw[c5.out];unfold rQ;rw[if_neg (by rw[F];simp)]
     have K:lQ (s.data.toList.take (j+1))=q:=by rw[b5.out,if_neg (by rw[F];simp)];omega
     have b8:=aT J;have b9:=aT K;have f4:(48:Int)<=(s[j].toNat:Int):=aA;have g4:¬(s[j].toNat:Int)<=57:=aA;clear J K F c7 f5;exact TC
   .have F:mD s[j]=false:=by unfold mD;simp;omega
    have J:lS (s.data.toList.take (j+1))=v:=by rw[c5.out];unfold rQ;rw[if_neg (by rw[F];simp)]
    have K:lQ (s.data.toList.take (j+1))=q:=by rw[b5.out,if_neg (by rw[F];simp)];omega
    have b8:=aT J;have b9:=aT K;have f4:¬(48:Int)<=(s[j].toNat:Int):=aA;clear J K F c7;exact TC
  .have f2:¬(j:Int)<11:=aA;have D:=a7.out aA;have z:=aT D;have e9:(10:Int)<(s.size:Int):=aA;have h0:(0:Int)<(s.size:Int):=aA;obtain⟨v,N⟩:=aW (lS (s.data.toList.take j));obtain⟨q,M⟩:=aW (lQ (s.data.toList.take j));rw[<-N]at O |-;rw[<-M]at hcl |-;clear N M D;go_wp2
   all_goals (go_ret2;exact⟨gH (wE z.out).symm z.out.symm,bJ _ _⟩)
 .have f6:¬(j:Int)<(s.size:Int):=aA;have c9:s.data.toList.take j=s.data.toList:=List.take_of_length_le (by rw[<-Lib.size_eq];omega);rw[c9]at O hcl |-;by_cases e9:10<s.size
  .have D:=a7.out e9;have z:=aT D;have f0:(10:Int)<(s.size:Int):=aA;have h0:(0:Int)<(s.size:Int):=aA;obtain⟨v,N⟩:=aW (lS s.data.toList);obtain⟨q,M⟩:=aW (lQ s.data.toList);rw[<-N]at O |-;rw[<-M]at hcl |-;clear N M D c9;go_wp2
   all_goals (go_ret2;exact⟨gH (wE z.out).symm z.out.symm,bJ _ _⟩)
  .have f0:¬(10:Int)<(s.size:Int):=aA;clear c9;by_cases h9:9<lQ s.data.toList
   .have D:=e4.out h9;have z:=aT D;obtain⟨v,N⟩:=aW (lS s.data.toList);obtain⟨q,M⟩:=aW (lQ s.data.toList);rw[<-N]at O |-;rw[<-M]at hcl h9 |-;have f9:(9:Int)<(q:Int):=aA;clear N M D h9;by_cases h0:0<s.size
    .have c6:(0:Int)<(s.size:Int):=aA;go_wp2
     all_goals (go_ret2;exact⟨gH (wE z.out).symm z.out.symm,bJ _ _⟩)
    .have c6:¬(0:Int)<(s.size:Int):=aA;go_wp2
     all_goals (go_ret2;exact⟨gH (wE z.out).symm z.out.symm,bJ _ _⟩)
   .obtain⟨Y,g5,g6⟩:=e6.out aA;have Z:pN s=if zH s then -(lS s.data.toList:Int) else (lS s.data.toList:Int):=rfl;have b1:=aoS (s:=s);have b3:=atN (s:=s);obtain⟨v,N⟩:=aW (lS s.data.toList);obtain⟨q,M⟩:=aW (lQ s.data.toList);rw[<-N]at Z O |-;rw[<-M]at hcl h9 |-;have f9:¬(9:Int)<(q:Int):=aA;obtain⟨m,hm⟩:=aW (pN s);have c8:=fun W=>iL m ⟨aA,aA⟩ W;obtain⟨T,hT⟩:=aW (dB m);rw[<-hm]at Z Y g5 g6;simp only[<-hT]at c8;rw[<-hT]at Y;have e5:=aT c8;have HM:=aT hm;have R:=aT Y;have b7:=aT Z;have e8:=aT b3;have e7:=aT b1;clear N M hm hT c8 Y Z b1 b3 h9;by_cases h0:0<s.size
    .have c6:(0:Int)<(s.size:Int):=aA;have a1:=e8.out h0
     cases hg:zH s with
     |true=>rw[hg]at a1;have I:=b7.out;rw[hg,if_pos rfl]at I;exact ajC
     |false=>rw[hg]at a1;have I:=b7.out;rw[hg,if_neg bF]at I;exact ajC
    .have c6:¬(0:Int)<(s.size:Int):=aA;have hg:=e7.out aA
     cases hi:true with
     |false=>cases hi
     |true=>
      have I:=b7.out;rw[hg,if_neg bF]at I;have b6:=aT I;clear I hg hi;go_wp2_with fail;rw[<-b6.out];refine aV (e5.out _) ?_;intro w2 b2;by_cases ht:T=s
      .have D:pB s=true:=by rw[R.out,bH ht]
       have d0:(T.toList==s.toList)=true:=by rw[dR,bH ht]
       have z:=aT D;clear D ht;go_wp2;go_ret2;exact⟨gH (by rw[DP z.out,HM.out]) z.out.symm,b2⟩
      .have D:pB s=false:=by rw[R.out,bG ht]
       have d0:(T.toList==s.toList)=false:=by rw[dR,bG ht]
       have z:=aT D;clear D ht;go_wp2;go_ret2;exact⟨gH (wE z.out).symm z.out.symm,b2⟩
