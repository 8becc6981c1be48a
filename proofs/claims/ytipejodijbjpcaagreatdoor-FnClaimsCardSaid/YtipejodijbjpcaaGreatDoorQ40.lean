/- Lemmas for CardClaims, part 40 of 52. No condition. -/
import Derived.Test.YtipejodijbjpcaaGreatDoorQ02
import Derived.Test.YtipejodijbjpcaaGreatDoorQ04
import Derived.Test.YtipejodijbjpcaaGreatDoorQ05
import Derived.Shelf.Strings.Builder1
import Derived.Shelf.Strings.Builder2
import Derived.Shelf.Strings.OnBuilder
import Derived.Shelf.Small.Bits
import Derived.Shelf.Strconv.Itoa0
import Derived.Shelf.Strconv.Itoa1
import Derived.Shelf.LaysM
import Derived.Shelf.Strconv.Itoa2
import Derived.Shelf.Strconv.Itoa3
import Derived.Shelf.Strings.Search1
import Derived.Shelf.Strings.Search2
import Derived.Shelf.Strings.Search3
import Derived.Shelf.Strings.Count
import Derived.Shelf.Strings.Shaped
import Derived.Shelf.Sort.Plain
import Derived.Shelf.Strings.Prefix
import Derived.Shelf.Strings.Split
import Derived.Shelf.Strings.SplitShaped
import Derived.Shelf.Unicode.DecodeSlow
import Derived.Shelf.Slices.Turned
import Derived.Shelf.Slices.Equal
import Derived.Ground.Names2Prog
import Derived.Shelf.Slices.Clone
import Derived.Shelf.Slices.CompactI
import Derived.Shelf.Slices.SearchI
import Derived.Shelf.Slices.Cells
import Derived.Shelf.Slices.In.SortNone
import Derived.Shelf.Slices.Empties
import Derived.Shelf.Slices.Empties2
import Derived.Test.YtipejodijbjpcaaGreatDoorProg
import Derived.Lib.SmallJoins
import Derived.LaidMore
import Derived.Stop.LaidErr
import Derived.Stop.Joined
import Derived.MakeChecks
import Derived.Laws.AppendOwn
import Derived.OwnWalk
set_option maxRecDepth 100000
set_option maxHeartbeats 64000000
namespace Go.Proofs.YtipejodijbjpcaaGreatDoor
section
open Go.Shelf
set_option maxRecDepth 100000
def tF:Go.Shelf.Ren:=⟨fun|156=>146|165=>258|166=>259|169=>260|240=>322|241=>323|276=>356|277=>357|n=>n,fun|31=>94|9=>9|3=>3|4=>4|0=>0|20=>20|72=>171|76=>175|70=>169|37=>58|75=>174|127=>206|164=>224|5=>5|80=>100|n=>n,fun|n=>n⟩
theorem zT:Go.Proofs.Lays.n156 Tryz.prog tF:={
 mixed:=by kernel_rfl
 f156:=Tryz.func146.trans (congrArg some (by kernel_rfl))
 f165:=Tryz.func258.trans (congrArg some (by kernel_rfl))
 f166:=Tryz.func259.trans (congrArg some (by kernel_rfl))
 f169:=Tryz.func260.trans (congrArg some (by kernel_rfl))
 f240:=Tryz.func322.trans (congrArg some (by kernel_rfl))
 f241:=Tryz.func323.trans (congrArg some (by kernel_rfl))
 f276:=Tryz.func356.trans (congrArg some (by kernel_rfl))
 f277:=Tryz.func357.trans (congrArg some (by kernel_rfl))
 t0:=Tryz.underlying0
 a0:=Tryz.isAgg0
 z0:=Tryz.sizeOf0
 v0:=Tryz.zeroValue0
 t3:=Tryz.underlying3
 a3:=Tryz.isAgg3
 z3:=Tryz.sizeOf3
 v3:=Tryz.zeroValue3
 t4:=Tryz.underlying4
 a4:=Tryz.isAgg4
 z4:=Tryz.sizeOf4
 v4:=Tryz.zeroValue4
 t9:=Tryz.underlying9
 a9:=Tryz.isAgg9
 z9:=Tryz.sizeOf9
 v9:=Tryz.zeroValue9
 t20:=Tryz.underlying20
 a20:=Tryz.isAgg20
 z20:=Tryz.sizeOf20
 v20:=Tryz.zeroValue20
 t31:=Tryz.underlying94
 a31:=Tryz.isAgg94
 z31:=Tryz.sizeOf94
 v31:=Tryz.zeroValue94
 t37:=Tryz.underlying58
 a37:=Tryz.isAgg58
 z37:=Tryz.sizeOf58
 v37:=Tryz.zeroValue58
 t70:=Tryz.underlying169
 a70:=Tryz.isAgg169
 z70:=Tryz.sizeOf169
 v70:=Tryz.zeroValue169
 t72:=Tryz.underlying171
 a72:=Tryz.isAgg171
 z72:=Tryz.sizeOf171
 v72:=Tryz.zeroValue171
 t75:=Tryz.underlying174
 a75:=Tryz.isAgg174
 z75:=Tryz.sizeOf174
 v75:=Tryz.zeroValue174
 t76:=Tryz.underlying175
 a76:=Tryz.isAgg175
 z76:=Tryz.sizeOf175
 v76:=Tryz.zeroValue175
 t127:=Tryz.underlying206
 a127:=Tryz.isAgg206
 z127:=Tryz.sizeOf206
 v127:=Tryz.zeroValue206
 t164:=Tryz.underlying224
 a164:=Tryz.isAgg224
 z164:=Tryz.sizeOf224
 v164:=Tryz.zeroValue224 }
theorem oH:Builder.Extra Tryz.prog tF:={
 sizeBuilder:=by kernel_rfl
 liesBuilder:=by kernel_rfl
 t5:=Tryz.underlying5
 a5:=Tryz.isAgg5
 z5:=Tryz.sizeOf5
 v5:=Tryz.zeroValue5
 infoByte:=by kernel_rfl
 cellsByte:=by kernel_rfl
 sizeByte:=by kernel_rfl
 neB5:=by decide }
open Go.RowKit in
theorem AA(K o c:Nat)(D:List ByteArray)(A:ByteArray)(w:World)(z:∀(j:Nat) x,D[j]?=some x->w.cell? ⟨K,o+j,none⟩=some (.string x))(L:K<w.heap.size)(M:D.length<=140737488355328)(F:D.length<=c)(I:(Lib.join (D.map (·.data.toList)) A.data.toList).length<=140737488355328):
 Calls Tryz.prog 146 #[.slice (some ⟨K,o,none⟩) D.length c,.string A] w fun e w'=>e=.returned (.string ⟨(Lib.join (D.map (·.data.toList)) A.data.toList).toArray⟩)/\Below w.heap.size w w':=Any.strings_Join zT oH K o c D A w z L M F I
open Go.RowKit in
theorem uH(a:Option Addr)(c:Nat)(o:ByteArray)(w:World):
 Calls Tryz.prog 146 #[.slice a 0 c,.string o] w fun e w'=>e=.returned (.string ⟨#[]⟩)/\w'=w:=Any.strings_Join_none zT oH a c o w
def A4:Go.Shelf.Ren:=⟨fun|171=>302|243=>346|246=>373|283=>390|284=>391|285=>392|286=>393|129=>241|317=>398|318=>399|319=>400|320=>401|337=>403|338=>404|n=>n,fun|3=>3|9=>9|2=>2|4=>4|171=>243|0=>0|53=>163|37=>58|5=>5|173=>245|212=>256|51=>161|20=>20|213=>257|46=>105|232=>258|233=>259|n=>n,fun|17=>3|18=>4|19=>5|n=>n⟩
theorem LJ:Go.Proofs.LaysM.n171 Tryz.prog A4:={
 mixed:=by kernel_rfl
 f129:=Tryz.func241.trans (congrArg some (by kernel_rfl))
 f171:=Tryz.func302.trans (congrArg some (by kernel_rfl))
 f243:=Tryz.func346.trans (congrArg some (by kernel_rfl))
 f246:=Tryz.func373.trans (congrArg some (by kernel_rfl))
 f283:=Tryz.func390.trans (congrArg some (by kernel_rfl))
 f284:=Tryz.func391.trans (congrArg some (by kernel_rfl))
 f285:=Tryz.func392.trans (congrArg some (by kernel_rfl))
 f286:=Tryz.func393.trans (congrArg some (by kernel_rfl))
 f317:=Tryz.func398.trans (congrArg some (by kernel_rfl))
 f318:=Tryz.func399.trans (congrArg some (by kernel_rfl))
 f319:=Tryz.func400.trans (congrArg some (by kernel_rfl))
 f320:=Tryz.func401.trans (congrArg some (by kernel_rfl))
 f337:=Tryz.func403.trans (congrArg some (by kernel_rfl))
 f338:=Tryz.func404.trans (congrArg some (by kernel_rfl))
 t0:=Tryz.underlying0
 a0:=Tryz.isAgg0
 z0:=Tryz.sizeOf0
 v0:=Tryz.zeroValue0
 t2:=Tryz.underlying2
 a2:=Tryz.isAgg2
 z2:=Tryz.sizeOf2
 v2:=Tryz.zeroValue2
 t3:=Tryz.underlying3
 a3:=Tryz.isAgg3
 z3:=Tryz.sizeOf3
 v3:=Tryz.zeroValue3
 t4:=Tryz.underlying4
 a4:=Tryz.isAgg4
 z4:=Tryz.sizeOf4
 v4:=Tryz.zeroValue4
 t5:=Tryz.underlying5
 a5:=Tryz.isAgg5
 z5:=Tryz.sizeOf5
 v5:=Tryz.zeroValue5
 t9:=Tryz.underlying9
 a9:=Tryz.isAgg9
 z9:=Tryz.sizeOf9
 v9:=Tryz.zeroValue9
 t20:=Tryz.underlying20
 a20:=Tryz.isAgg20
 z20:=Tryz.sizeOf20
 v20:=Tryz.zeroValue20
 t37:=Tryz.underlying58
 a37:=Tryz.isAgg58
 z37:=Tryz.sizeOf58
 v37:=Tryz.zeroValue58
 t46:=Tryz.underlying105
 a46:=Tryz.isAgg105
 z46:=Tryz.sizeOf105
 v46:=Tryz.zeroValue105
 t51:=Tryz.underlying161
 a51:=Tryz.isAgg161
 z51:=Tryz.sizeOf161
 v51:=Tryz.zeroValue161
 t53:=Tryz.underlying163
 a53:=Tryz.isAgg163
 z53:=Tryz.sizeOf163
 v53:=Tryz.zeroValue163
 t171:=Tryz.underlying243
 a171:=Tryz.isAgg243
 z171:=Tryz.sizeOf243
 v171:=Tryz.zeroValue243
 t173:=Tryz.underlying245
 a173:=Tryz.isAgg245
 z173:=Tryz.sizeOf245
 v173:=Tryz.zeroValue245
 t212:=Tryz.underlying256
 a212:=Tryz.isAgg256
 z212:=Tryz.sizeOf256
 v212:=Tryz.zeroValue256
 t213:=Tryz.underlying257
 a213:=Tryz.isAgg257
 z213:=Tryz.sizeOf257
 t232:=Tryz.underlying258
 a232:=Tryz.isAgg258
 z232:=Tryz.sizeOf258
 v232:=Tryz.zeroValue258
 t233:=Tryz.underlying259
 a233:=Tryz.isAgg259
 z233:=Tryz.sizeOf259
 v233:=Tryz.zeroValue259
 g17:=by kernel_rfl
 g18:=by kernel_rfl
 g19:=by kernel_rfl
 i0:=by kernel_rfl
 i2:=by kernel_rfl
 i3:=by kernel_rfl
 i4:=by kernel_rfl
 i5:=by kernel_rfl
 i9:=by kernel_rfl
 i20:=by kernel_rfl
 i37:=by kernel_rfl
 i46:=by kernel_rfl
 i51:=by kernel_rfl
 i53:=by kernel_rfl
 i171:=by kernel_rfl
 i173:=by kernel_rfl
 i212:=by kernel_rfl
 i232:=by kernel_rfl
 i233:=by kernel_rfl
 m17:=by kernel_rfl
 m18:=by kernel_rfl
 m19:=by kernel_rfl }
open Go.RowKit Go.Sort Go.Lib in
theorem A2(n:Int)(z:-9223372036854775808<=n)(h1:n<=9223372036854775807)(w:World)(o:Lib.TabIs Tryz.prog w "internal/strconv.uint64pow10" .u64 Lib.pow10Tab):
 Calls Tryz.prog 302 #[.int .i64 n] w fun e w'=>e=.returned (.string ⟨(Lib.itoa n).toArray⟩)/\∃k os,w'=grow (w.drewN k) os:=Any.strconv_Itoa LJ n z h1 w o
def BL:Go.Shelf.Ren:=⟨fun|110=>209|109=>303|n=>n,fun|31=>94|9=>9|4=>4|3=>3|0=>0|n=>n,fun|n=>n⟩
theorem OT:Go.Proofs.Lays.n110 Tryz.prog BL:={
 mixed:=by kernel_rfl
 f109:=Tryz.func303.trans (congrArg some (by kernel_rfl))
 f110:=Tryz.func209.trans (congrArg some (by kernel_rfl))
 t0:=Tryz.underlying0
 a0:=Tryz.isAgg0
 z0:=Tryz.sizeOf0
 v0:=Tryz.zeroValue0
 t3:=Tryz.underlying3
 a3:=Tryz.isAgg3
 z3:=Tryz.sizeOf3
 v3:=Tryz.zeroValue3
 t4:=Tryz.underlying4
 a4:=Tryz.isAgg4
 z4:=Tryz.sizeOf4
 v4:=Tryz.zeroValue4
 t9:=Tryz.underlying9
 a9:=Tryz.isAgg9
 z9:=Tryz.sizeOf9
 v9:=Tryz.zeroValue9
 t31:=Tryz.underlying94
 a31:=Tryz.isAgg94
 z31:=Tryz.sizeOf94
 v31:=Tryz.zeroValue94 }
open Go.Lib in
theorem lH(b o n c:Nat)(A:List ByteArray)(x:ByteArray)(w:World)(F:n<=A.length)(z:n<=9223372036854775807)(D:∀j,j<A.length->w.cell? ⟨b,o+j,none⟩=some (.string (A.getD j ByteArray.empty))):
 Calls Tryz.prog 209 #[.slice (some ⟨b,o,none⟩) n c,.string x] w fun e w'=>e=.returned (.bool (Lib.containsS (A.take n) x))/\w'=w:=Any.slices_Contains_string OT b o n c A x w F z D
def BE:Go.Shelf.Ren:=⟨fun|189=>263|125=>110|257=>324|128=>240|129=>241|294=>358|295=>359|296=>360|297=>361|298=>362|299=>363|216=>347|300=>364|301=>365|328=>382|329=>383|330=>384|331=>385|332=>386|215=>374|343=>396|n=>n,fun|28=>22|3=>3|46=>105|0=>0|51=>161|53=>163|4=>4|183=>229|182=>228|131=>44|5=>5|9=>9|218=>235|222=>239|228=>253|229=>92|n=>n,fun|n=>n⟩
theorem AC:Go.Proofs.Lays.n189 Tryz.prog BE:={
 mixed:=by kernel_rfl
 f125:=Tryz.func110.trans (congrArg some (by kernel_rfl))
 f128:=Tryz.func240.trans (congrArg some (by kernel_rfl))
 f129:=Tryz.func241.trans (congrArg some (by kernel_rfl))
 f189:=Tryz.func263.trans (congrArg some (by kernel_rfl))
 f215:=Tryz.func374.trans (congrArg some (by kernel_rfl))
 f216:=Tryz.func347.trans (congrArg some (by kernel_rfl))
 f257:=Tryz.func324.trans (congrArg some (by kernel_rfl))
 f294:=Tryz.func358.trans (congrArg some (by kernel_rfl))
 f295:=Tryz.func359.trans (congrArg some (by kernel_rfl))
 f296:=Tryz.func360.trans (congrArg some (by kernel_rfl))
 f297:=Tryz.func361.trans (congrArg some (by kernel_rfl))
 f298:=Tryz.func362.trans (congrArg some (by kernel_rfl))
 f299:=Tryz.func363.trans (congrArg some (by kernel_rfl))
 f300:=Tryz.func364.trans (congrArg some (by kernel_rfl))
 f301:=Tryz.func365.trans (congrArg some (by kernel_rfl))
 f328:=Tryz.func382.trans (congrArg some (by kernel_rfl))
 f329:=Tryz.func383.trans (congrArg some (by kernel_rfl))
 f330:=Tryz.func384.trans (congrArg some (by kernel_rfl))
 f331:=Tryz.func385.trans (congrArg some (by kernel_rfl))
 f332:=Tryz.func386.trans (congrArg some (by kernel_rfl))
 f343:=Tryz.func396.trans (congrArg some (by kernel_rfl))
 t0:=Tryz.underlying0
 a0:=Tryz.isAgg0
 z0:=Tryz.sizeOf0
 v0:=Tryz.zeroValue0
 t3:=Tryz.underlying3
 a3:=Tryz.isAgg3
 z3:=Tryz.sizeOf3
 v3:=Tryz.zeroValue3
 t4:=Tryz.underlying4
 a4:=Tryz.isAgg4
 z4:=Tryz.sizeOf4
 v4:=Tryz.zeroValue4
 t5:=Tryz.underlying5
 a5:=Tryz.isAgg5
 z5:=Tryz.sizeOf5
 v5:=Tryz.zeroValue5
 t9:=Tryz.underlying9
 a9:=Tryz.isAgg9
 z9:=Tryz.sizeOf9
 v9:=Tryz.zeroValue9
 t28:=Tryz.underlying22
 a28:=Tryz.isAgg22
 z28:=Tryz.sizeOf22
 v28:=Tryz.zeroValue22
 t46:=Tryz.underlying105
 a46:=Tryz.isAgg105
 z46:=Tryz.sizeOf105
 v46:=Tryz.zeroValue105
 t51:=Tryz.underlying161
 a51:=Tryz.isAgg161
 z51:=Tryz.sizeOf161
 v51:=Tryz.zeroValue161
 t53:=Tryz.underlying163
 a53:=Tryz.isAgg163
 z53:=Tryz.sizeOf163
 v53:=Tryz.zeroValue163
 t131:=Tryz.underlying44
 a131:=Tryz.isAgg44
 z131:=Tryz.sizeOf44
 v131:=Tryz.zeroValue44
 t182:=Tryz.underlying228
 a182:=Tryz.isAgg228
 z182:=Tryz.sizeOf228
 v182:=Tryz.zeroValue228
 t183:=Tryz.underlying229
 a183:=Tryz.isAgg229
 z183:=Tryz.sizeOf229
 v183:=Tryz.zeroValue229
 t218:=Tryz.underlying235
 a218:=Tryz.isAgg235
 z218:=Tryz.sizeOf235
 v218:=Tryz.zeroValue235
 t222:=Tryz.underlying239
 a222:=Tryz.isAgg239
 z222:=Tryz.sizeOf239
 v222:=Tryz.zeroValue239
 t228:=Tryz.underlying253
 a228:=Tryz.isAgg253
 z228:=Tryz.sizeOf253
 v228:=Tryz.zeroValue253
 t229:=Tryz.underlying92
 a229:=Tryz.isAgg92
 z229:=Tryz.sizeOf92
 v229:=Tryz.zeroValue92 }
open Go.Sort Go.RowKit in
theorem vV(o z cap:Nat)(D:List Int)(w:World)(I:Holds (Value.int .i64) w o z D.toArray)(A:o<w.heap.size)(F:D.length<4611686018427387904):
 Calls Tryz.prog 263 #[.slice (some ⟨o,z,none⟩) D.length cap] w fun e w'=>
  e=.returned (.tuple #[])/\∃n os,w'=grow (putRow (Value.int .i64) (Sort.ahead w n) o z (D.mergeSort fun x y=>decide (x<=y)).toArray) os:=Any.slices_Sort_int AC o z cap D w I A F
open Go.RowKit Go.Sort in
theorem rV(p:Option Addr)(cap:Nat)(w:World):
 Calls Tryz.prog 263 #[.slice p 0 cap] w fun e w'=>e=.returned (.tuple #[])/\w'=w:=Any.slices_Sort_int_none AC p cap w
def zM:Go.Shelf.Ren:=⟨fun|20=>265|n=>n,fun|22=>22|3=>3|4=>4|0=>0|n=>n,fun|n=>n⟩
theorem uZ:Go.Proofs.Lays2.n20 Tryz.prog zM:={
 mixed:=by kernel_rfl
 f20:=Tryz.func265.trans (congrArg some (by kernel_rfl))
 t0:=Tryz.underlying0
 a0:=Tryz.isAgg0
 z0:=Tryz.sizeOf0
 v0:=Tryz.zeroValue0
 t3:=Tryz.underlying3
 a3:=Tryz.isAgg3
 z3:=Tryz.sizeOf3
 v3:=Tryz.zeroValue3
 t4:=Tryz.underlying4
 a4:=Tryz.isAgg4
 z4:=Tryz.sizeOf4
 v4:=Tryz.zeroValue4
 t22:=Tryz.underlying22
 a22:=Tryz.isAgg22
 z22:=Tryz.sizeOf22
 v22:=Tryz.zeroValue22
 i3:=by kernel_rfl }
open Go.RowKit Go.Lib Go.Sort in
theorem tM(o z cap:Nat)(A:List Int)(w:World)(I:Holds (Value.int .i64) w o z A.toArray)(F:A.length<=9223372036854775807)(D:A.length<=cap):
 Calls Tryz.prog 265 #[.slice (some ⟨o,z,none⟩) A.length cap] w fun e w'=>e=.returned (.slice (some ⟨o,z,none⟩) (Lib.compact A).length cap)/\∃q,w'=putRow (Value.int .i64) (Sort.ahead w q) o z (Lib.compact A++List.replicate (A.length-(Lib.compact A).length) 0).toArray:=Any.slices_Compact_int uZ o z cap A w I F D
open Go.RowKit Go.Lib Go.Sort in
theorem pU(a:Option Addr)(cap:Nat)(w:World):
 Calls Tryz.prog 265 #[.slice a 0 cap] w fun e w'=>e=.returned (.slice a 0 cap)/\w'=w:=Any.slices_Compact_int_empty uZ a cap w
open Go.RowKit Go.Lib in
open Go.RowKit Go.Lib in
open Go.RowKit Go.Lib in
end
section
open Go.RowKit Go.G5
def sE(w:World):Prop:=Lib.TabIs Tryz.prog w "internal/strconv.uint64pow10" .u64 Lib.pow10Tab
theorem P1:(Tryz.prog.globalNamed "internal/strconv.uint64pow10").isSome=true:=by kernel_rfl
theorem sE.keep{w w':World}(h:sE w)(hb:Below w.heap.size w w'):sE w':=by
 obtain⟨g,o⟩:=Option.isSome_iff_exists.1 P1;exact Go.Joins.var_stays o h hb (Nat.le_refl _)
theorem NM(w:World)(k:Nat)(os:Array Obj):Below w.heap.size w (Sort.grow (w.drewN k) os):=by
 refine⟨rfl,rfl,rfl,?_,fun b hb=>?_⟩
 ·show w.heap.size<=(w.heap++os).size
  simp
 ·show(w.heap++os)[b]?=w.heap[b]?
  rw[Array.getElem?_append_left hb]
theorem IZ(n:Int)(o:bA n)(w:World)(z:sE w):
  Calls Tryz.prog 206 #[.int .i64 n] w fun e w'=>e=.returned (.string (cE n))/\Below w.heap.size w w':=by
 go_enter Tryz.func206,Tryz.ntmps206;go_wp2_with (go_at_call 302;refine(A2 n o.1 o.2 _ z).mono ?_;rintro e w' ⟨rfl,k,os,rfl⟩);go_ret;exact⟨rfl,NM w k os⟩
end
section
open Go.ChangeShapes Go.WideShapes Go.ChangeAt Go.RowKit Go.G5
set_option maxRecDepth 100000
theorem ER{f:FuncId}{A:Func}{s:ChangeSpec}(D:List (String×DataW Unit))(os:Os)(started:os.Started)(H:Type)(enc:TypeId×Value->H)
  (a6:Tryz.prog.funcs[f]?=some A) (L:Tryz.prog.inits.idxOf? f=none) (hv:s.vars=[]) (Q:A.resultTypes=#[4])
  (M:(A.params.toList.all fun t=>Tryz.prog.readableRec t&&decide (t<Tryz.prog.types.size))=true)
  (z:∀I:List (DataW H),I.length=A.params.size->s.fn H I={ results:=[.lit (.bool true)],args:=I,vars:=[] })
  (witness:∃(w:World) (o:Tape) (i:Input),w.os=os/\(w.forCall o i).Shaped Tryz.prog/\i.vars=[]/\Input.okWide Tryz.prog (w.forCall o i) .any w.heap.size f i /\
   ((s.pre enc Tryz.prog A [] false (w.forCall o i).memory i.args/\laidMetH Tryz.prog D (w.forCall o i).memory)/\sizedMet enc Tryz.prog A (OpenSpec.ofChange s) false (w.forCall o i).memory i.args)/\({}:Assume).holds Tryz.prog (lone (Frame.enter Tryz.prog f i.args .normal) [] (w.forCall o i)))
  (F:∀(W:World) (base:Nat) (args:Array Value) (I:List (DataW H)) (p:List MemPlace),(∀(j:Nat) t v,A.params[j]?=some t->args[j]?=some v->Value.okWide Tryz.prog W .any base t v) ->
   DataW.TrodAll enc Tryz.prog W 0 (fun _=>true) true A.params.toList args.toList I p->laidMetH Tryz.prog D W->Calls Tryz.prog f args W fun e W'=>e=.returned (.bool true)/\Below W.heap.size W W'):
  ReturnsInHanded {} Tryz.checked os f .any (fun w args=>(s.pre enc Tryz.prog A [] false w args/\laidMetH Tryz.prog D w)/\sizedMet enc Tryz.prog A (OpenSpec.ofChange s) false w args) (s.post enc Tryz.prog A false true false false):=by
 refine returnsInHanded_of_change_and (C:=Tryz.checked) (X:=fun w _=>laidMetH Tryz.prog D w) (fun _ _ _ hh h=>h.of_heap hh) own started L a6 witness ?_;intro W base args I gs before N Z a7 _ hL _;have R:∀(j:Nat) t v,A.params[j]?=some t->args[j]?=some v->Value.okWide Tryz.prog W .any base t v:=N;have O:=Z.lt;have a1:=Z;obtain⟨p,q,U,Y,rfl,b1,b4⟩:=Z;have S:DataW.TrodAll enc Tryz.prog W 0 (fun _=>true) true A.params.toList args.toList I p:=U;rw[hv]at Y;obtain⟨rfl,rfl⟩:=trodVars_none Y;refine(F W base args I p R S hL).mono fun e W' ⟨he,hb⟩=>?_;have K:I.length=A.params.size:=by
  have:=xD S;simpa using this
 refine⟨_,he,I,[],p++[],[],p,[],a1,?_,?_,?_,hb.frame _,fun h=>by cases h⟩
 ·rw[List.append_nil,z I K,Q]
  exact trodAll_mk1 (shut_bool Tryz.underlying4 true)
 ·rw[List.append_nil,z I K]
  exact uU UD hb M S fun x hx=>by simpa using O x (by simp[hx])
 ·rw[List.append_nil,z I K,hv]
  exact Y
theorem I4{W:World}{a b:String×DataW Unit}(h:laidMet Tryz.prog [a,b,("internal/strconv.uint64pow10",Lib.tabData .u64 Lib.pow10Tab)] W):sE W:=
 Lib.tabIs_of_head (g:=3) (t:=256) (e:=163) (n:=20) (by kernel_rfl) (by kernel_rfl) (by kernel_rfl) (by kernel_rfl) (by kernel_rfl) (by kernel_rfl) (laidMet.tail (laidMet.tail h))
end
section
open Go.RowKit Go.G5
end
end Go.Proofs.YtipejodijbjpcaaGreatDoor
section
namespace Go.G5
open Go Go.RowKit
structure StrElem (P:Program) (E:TypeId):Prop where
 info:(P.info? E).map (fun i=>(i.zero,i.size,i.bytes))=some (some (.string ByteArray.empty),1,16)
theorem StrElem.get{P:Program}{E:TypeId}(h:StrElem P E):∃i,P.info? E=some i/\i.zero=some (.string ByteArray.empty)/\i.size=1/\i.bytes=16:=info_parts h.info
def cW(E:TypeId)(B:Nat)(w:World)(v:Value)(o:List ByteArray):Prop:=w.ownsRow B E 1 v o.length (o.map Value.string)
theorem cW.nil(E:TypeId)(B:Nat)(w:World):cW E B w (.slice none 0 0) []:=World.ownsRow_nil _ _ _ _
theorem cW.below{E:TypeId}{B B':Nat}{w w':World}{v:Value}{l:List ByteArray}(h:cW E B w v l)(hb:Below B' w w')(F:w.heap.size<=B'):cW E B w' v l:=by
 obtain⟨D,h1⟩:=h;refine⟨D,?_⟩
 rcases h1 with h1|⟨g,cap,o,rfl,z,A,r⟩
 ·exact .inl h1
 ·exact .inr ⟨g,cap,o,rfl,z,by rw[hb.block g (by have:=(Array.getElem?_eq_some_iff.1 A).1;omega)];exact A,r⟩
theorem cW.keep{E:TypeId}{B:Nat}{W o:World}{v:Value}{l:List ByteArray}(h:cW E B W v l)(hb:Below W.heap.size W o):cW E B o v l:=h.below hb (Nat.le_refl _)
theorem cW.alloc{E:TypeId}{B:Nat}{w:World}{v:Value}{l:List ByteArray}(h:cW E B w v l)(o:Obj):cW E B (w.alloc o) v l:=h.keep (aM w o)
theorem cW.drewN{E:TypeId}{B:Nat}{w:World}{v:Value}{l:List ByteArray}(h:cW E B w v l)(n:Nat):cW E B (w.drewN n) v l:=h.keep ((Below.refl w.heap.size w).drewN' n)
theorem cW.mono{E:TypeId}{B B':Nat}{w:World}{v:Value}{l:List ByteArray}(h:cW E B w v l)(D:B'<=B):cW E B' w v l:=by
 obtain⟨z,h1⟩:=h;refine⟨z,?_⟩
 rcases h1 with h1|⟨g,cap,o,rfl,A,r⟩
 ·exact .inl h1
 ·exact .inr ⟨g,cap,o,rfl,by omega,r⟩
theorem cW.lt{E:TypeId}{B:Nat}{w:World}{v:Value}{l:List ByteArray}(h:cW E B w v l):∀k,v.ownBlock=some k->B<=k/\k<w.heap.size:=World.ownsRow.lt h
theorem cW.grown{E:TypeId}{B:Nat}{w w':World}{row:Option Nat}{v:Value}{l:List ByteArray}(h:cW E B w v l)(z:w.grownBy w' row)(o:v.ownBlock=none∨v.ownBlock≠row):cW E B w' v l:=World.ownsRow.kept h z o
theorem cW.lit{E:TypeId}{B:Nat}(w:World)(o:List ByteArray)(n:Nat)(D:n=o.length)(A:n<=maxLen)(z:B<=w.heap.size):cW E B (w.alloc (.cells (o.map Value.string).toArray E)) (.slice (some ⟨w.heap.size,0,none⟩) n n) o:=by
 subst D;have this:(w.alloc (.cells (o.map Value.string).toArray E)).ownsRow B E 1 (.slice (some ⟨w.heap.size,0,none⟩) o.length o.length) o.length (o.map Value.string).toArray.toList:=World.ownsRow_lit w _ o.length z A (by simp);simpa[cW]using this
theorem cW.at{E:TypeId}{B:Nat}{w:World}{v:Value}{o:List ByteArray}(h:cW E B w v o):(∃a c,v=.slice a 0 c/\o=[])∨∃g c,v=.slice (some ⟨g,0,none⟩) o.length c/\o.length<=c/\g<w.heap.size/\∀(j:Nat) x,o[j]?=some x->w.cell? ⟨g,0+j,none⟩=some (.string x):=by
 have h2:=h;obtain⟨K,h1⟩:=h
 rcases h1 with⟨rfl,z⟩|⟨g,cap,D,rfl,L,I,z,N,F,ht⟩
 ·exact .inl ⟨none,0,rfl,List.eq_nil_of_length_eq_zero z⟩
 ·refine .inr ⟨g,cap,rfl,z,(Array.getElem?_eq_some_iff.1 I).1,fun j x A=>?_⟩
  have M:j<o.length:=(List.getElem?_eq_some_iff.1 A).1;rw[Nat.zero_add,World.ownsRow.cellAt h2 j (by omega)];simp[A]
theorem cW.shape3{E:TypeId}{B:Nat}{w:World}{v:Value}{o:List ByteArray}(h:cW E B w v o):∃a n c,v=.slice a n c:=by
 rcases h.at with⟨a,c,rfl,_⟩|⟨g,c,rfl,_⟩
 ·exact⟨_,_,_,rfl⟩
 ·exact⟨_,_,_,rfl⟩
theorem oY{P:Program}{w:World}{K:Array Oper}{rest:List Oper}{o:Oper}{a:Act}{Q:Exit->Act->World->Prop}(M:o.guard=none)(s x:Operand)(t:TypeId)
  (ho:o.op=.call { callee:=.builtin .append,args:=#[s,x],argTypes:=#[t,t] })
  (E:TypeId) (ht:P.underlying t=some (.slice E)) (U:StrElem P E) (B:Nat) (v:Value) (l A:List ByteArray) (b m c:Nat) (hs:a.eval s=v) (hx:a.eval x=.slice (some ⟨b,0,none⟩) m c) (hm:m=A.length)
  (hy:∀(j:Nat) y,A[j]?=some y->w.cell? ⟨b,0+j,none⟩=some (.string y))
  (I:cW E B w v l) (O:l.length+A.length<1000000) (S:B<=w.heap.size)
  (h:∀L w',cW E B w' L (l++A)->w.grownBy w' v.ownBlock->wpList P K Q rest (a.put o.dst L) w'):wpList P K Q (o::rest) a w:=by
 obtain⟨i,Z,hz,h1,R⟩:=U.get;subst hm;refine wpList_append_own w M s x t ho B E i (.string ByteArray.empty) 1 16 ht Z hz h1 R rfl (by decide) v l.length (l.map Value.string) hs I ⟨b,0,none⟩ A.length c (A.map Value.string) hx (by simp) ?_ ?_ ?_ ?_ S ?_
 ·intro j u D
  rw[List.getElem?_map]at D
  cases N:A[j]? with
  |none=>rw[N]at D;cases D
  |some y=>
   rw[N]at D
   cases D
   have:=hy j y N;have e:(⟨b,0,none⟩:Addr).add j=⟨b,0+j,none⟩:=by
    unfold Addr.add
    by_cases F:j=0
    ·subst F;simp
    ·simp[F]
   rw[e];exact this
 ·intro u hu
  obtain⟨y,_,rfl⟩:=List.mem_map.1 hu
  rfl
 ·unfold maxLen;omega
 ·omega
 ·intro L w' z Y _
  refine h L w' ?_ Y;simpa[cW]using z
theorem F9{P:Program}{w:World}{z:Array Oper}{rest:List Oper}{o:Oper}{a:Act}{Q:Exit->Act->World->Prop}(M:o.guard=none)(x c:Operand)(t:TypeId)(A:o.op=Op.makeSlice t x c)
  (E:TypeId) (ht:P.underlying t=some (.slice E)) (I:StrElem P E) (n:Nat) (C:Int) (O:a.eval x=.int .i64 0) (L:a.eval c=.int .i64 C) (F:C=(n:Int)) (S:n<=1000000)
  (K:∀w',cW E w.heap.size w' (.slice (some ⟨w.heap.size,0,none⟩) 0 n) []->w.grownBy w' none->wpList P z Q rest (a.put o.dst (.slice (some ⟨w.heap.size,0,none⟩) 0 n)) w'):wpList P z Q (o::rest) a w:=by
 obtain⟨i,N,R,h1,D⟩:=I.get;exact wpList_make_own w M x c t A w.heap.size E i (.string ByteArray.empty) 1 ht N R h1 .i64 .i64 C n O L F (by rw[D];omega) (by unfold maxLen;omega) (Nat.le_refl _) K
end Go.G5
namespace Go.Proofs.YtipejodijbjpcaaGreatDoor
open Go.RowKit Go.G5
theorem wN:StrElem Tryz.prog 9:=⟨by kernel_rfl⟩
theorem yY(B:Nat)(w:World)(v:Value)(A:List ByteArray)(o:ByteArray)(h:cW 9 B w v A)(D:(cF o A).size<=100000000)(K:A.length<=1000000):
  Calls Tryz.prog 146 #[v,.string o] w fun e w'=>e=.returned (.string (cF o A))/\Below w.heap.size w w':=by
 rcases h.at with⟨a,c,rfl,rfl⟩|⟨g,c,rfl,F,I,z⟩
 ·refine(uH a c o w).mono ?_
  rintro e w' ⟨rfl,rfl⟩;exact⟨rfl,Below.refl _ _⟩
 ·refine(AA g 0 c A o w z I (by omega) F ?_).mono ?_
  ·rw[oJ]at D
   have:(cF o A).data.toList=Lib.join (A.map (·.data.toList)) o.data.toList:=rfl;rw[<-this];omega
  ·rintro e w' ⟨rfl,hb⟩
   exact⟨rfl,hb⟩
end Go.Proofs.YtipejodijbjpcaaGreatDoor
end
namespace Go.Proofs.YtipejodijbjpcaaGreatDoor
section
open Go.RowKit Go.G5
def eO:ByteArray:=⟨#[44]⟩
theorem mI(l:List Int)(h:∀x∈l,bA x):(cF eO (l.map cE)).size<=l.length*22:=by
 have:=uI eO 21 (l.map cE) (fun x o=>by
  obtain⟨y,z,rfl⟩:=List.mem_map.1 o;exact mC y (h y z))
 rw[List.length_map]at this;exact this
theorem qA(l:List Int)(v:Value)(w:World)(hv:aD w v l)(hl:l.length<=1000)(hp:sE w):
  Calls Tryz.prog 115 #[v] w fun e w'=>e=.returned (.string (cF eO (l.map cE)))/\Below w.heap.size w w':=by
 have D:=hv.inR;have e0:=mI l D;obtain⟨a,b,e5,c,rfl,N,M,hc,hb⟩:=hv.view Tryz.prog 22 3 Tryz.underlying22 aG;have HC:=Lib.hid hc;have U:=Lib.hid D;have Y:=Lib.hid M;clear hc D M N;go_enter Tryz.func115,Tryz.ntmps115;go_wp2_with (at_make;refine F9 rfl _ _ _ rfl 9 Tryz.underlying94 wN l.length _ rfl rfl rfl (by omega) ?_;intro w2 z hg);have b2:Below w.heap.size w w2:=(Below.refl _ _).grown hg (Nat.le_refl _) (by simp);go_loopw [3,11] (fun ov iv wr=>∃(k:Nat) (p:Option Addr) (n L:Nat),k<=l.length/\iv=.int .i64 k/\ov=.slice p n L/\cW 9 w.heap.size wr (.slice p n L) ((l.take k).map cE)/\Below w.heap.size w wr) (fun _ iv _=>l.length-(intOf iv).toNat)
 case atStart=>exact⟨0,_,_,_,Nat.zero_le _,rfl,rfl,z,b2⟩
 case round=>
  obtain⟨k,p,n,L,hk,rfl,rfl,F,B⟩:=hrel;obtain⟨wz,rfl⟩:∃q:World,q=wr:=⟨_,rfl⟩;have R:=hp.keep B;clear z b2 hg
  by_cases hlt:k<l.length
  ·have O:(k:Int)<(l.length:Int):=by omega
   have A:=aK HC.out hb B (Nat.le_refl _);have a6:=A k hlt;have c8:=fun W=>Y.out W k hlt;have I:(l.take (k+1)).map cE=(l.take k).map cE++[cE l[k]]:=by
    rw[List.take_succ_eq_append_getElem hlt,List.map_append];rfl
   have S:=U.out l[k] (List.getElem_mem hlt);have o:((l.take k).map cE).length=k:=by simp;omega
   obtain⟨x,hx⟩:∃x,x=l[k]:=⟨_,rfl⟩;rw[<-hx]at a6 I S;have a1:=Lib.hid I;have Z:=Lib.hid o;clear hx A I o;have hF:=Lib.hid (IZ x S wz R);go_wp2_with fail;refine hF.out.mono ?_;rintro e w3 ⟨rfl,K⟩;have F:=F.keep K;have B:=B.after K B.size;have zB:=B.size;clear K hF;go_wp2_with (at_builtin;refine oY rfl _ _ _ rfl 9 Tryz.underlying94 wN w.heap.size (.slice p n L) ((l.take k).map cE) [cE x] w3.heap.size 1 1 rfl rfl rfl (fun j y hy=>by match j,hy with|0,hy=>(cases hy;exact aT _ _ _ _ _ rfl)) (F.alloc _) (by rw[Z.out];simp;omega) (by simp;omega) ?_;intro v7 w7 o7 g7;obtain⟨p7,i7,q7,rfl⟩:=o7.shape3);have rr:=F.lt;have B7:=(B.alloc zB (.cells #[.string (cE x)] 9)).grown g7 (by simp;omega) (fun q hq=>(rr _ hq).1);go_roundw
   case rel=>exact⟨k+1,p7,i7,q7,by omega,by go_num,rfl,by rw[a1.out];exact o7,B7⟩
   case measure=>simp[intOf];omega
  ·have o:k=l.length:=by omega
   have Q:cW 9 w.heap.size wz (.slice p n L) (l.map cE):=by
    rw[o,List.take_length]at F;exact F
   have O:¬(k:Int)<(l.length:Int):=by omega
   have HJ:=Lib.hid (yY w.heap.size wz _ (l.map cE) eO Q (by omega) (by rw[List.length_map];omega));clear o F Q R;go_wp2_with fail;refine HJ.out.mono ?_;rintro e w3 ⟨rfl,K⟩;go_wp2;go_ret;exact⟨rfl,B.after K B.size⟩
end
section
open Go.RowKit Go.G5
def pE:ByteArray:=⟨#[110,111,110,101]⟩
theorem sI(l:List Int)(k:Nat)(h:∀x∈l,bA x)(A:l.length<=1000)(z:k<=l.length):(cF eO ((l.take k).map cE)).size<=22000:=by
 have h1:=mI (l.take k) (fun x o=>h x (List.mem_of_mem_take o));rw[List.length_take]at h1;have:min k l.length=k:=by omega
 rw[this]at h1;omega
theorem sO(l:List Int)(k:Nat)(o:k<l.length):cF eO ((l.take (k+1)).map cE)=if k=0 then cE l[k] else cF eO ((l.take k).map cE)++eO++cE l[k]:=by
 have h:=AE eO (l.map cE) k (by rw[List.length_map];exact o);rw[List.getElem_map,<-List.map_take,<-List.map_take]at h;exact h
theorem qH(l:List Int):(cF eO (l.map cE)=ByteArray.empty)=(l=[]):=by
 refine propext ⟨fun h=>?_,fun h=>by subst h;rfl⟩
 cases l with
 |nil=>rfl
 |cons x l=>exact absurd h (H9 eO (cE x) (l.map cE) (I6 x))
theorem mA(b:ByteArray):(b.toList==[])=decide (b=ByteArray.empty):=by
 rw[Lib.toList_data]
 by_cases h:b=ByteArray.empty
 ·subst h;rfl
 ·rw[decide_eq_false h]
  cases hb:b.data.toList with
  |nil=>exact absurd (kI (by rw[hb];rfl)) h
  |cons x r=>rfl
end
end Go.Proofs.YtipejodijbjpcaaGreatDoor
