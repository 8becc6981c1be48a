/- Lemmas for CardReports. No condition. -/
import Derived.Test.YtcpoomdoodlkjaaGreatDoorQ06
import Derived.Shelf.Strings.OnBuilder
import Derived.Shelf.Small.Bits
import Derived.Shelf.Strconv.Itoa3
import Derived.Shelf.Sort.Plain
import Derived.Shelf.Slices.Turned
import Derived.Shelf.Slices.Clone
import Derived.Shelf.Slices.Cells
import Derived.Shelf.Slices.In.SortNone
import Derived.Shelf.Slices.Empties
import Derived.Shelf.Slices.Empties2
import Derived.Shelf.SlicesE.Clone
import Derived.LaidMore
import Derived.Stop.LaidErr
import Derived.Stop.Joined
set_option maxRecDepth 100000
set_option maxHeartbeats 64000000
namespace Go.Proofs.YtcpoomdoodlkjaaGreatDoor
section
open Go.Shelf
set_option maxRecDepth 100000
def AL:Go.Shelf.Ren:=⟨fun|156=>173|165=>266|166=>267|169=>268|240=>299|241=>300|276=>313|277=>314|n=>n,fun|31=>44|9=>9|3=>3|4=>4|0=>0|20=>20|72=>161|76=>165|70=>159|37=>22|75=>164|127=>182|164=>188|5=>5|80=>51|n=>n,fun|n=>n⟩
theorem KJ:Go.Proofs.Lays.n156 Tryz.prog AL:={
 mixed:=by kernel_rfl
 f156:=Tryz.func173.trans (congrArg some (by kernel_rfl))
 f165:=Tryz.func266.trans (congrArg some (by kernel_rfl))
 f166:=Tryz.func267.trans (congrArg some (by kernel_rfl))
 f169:=Tryz.func268.trans (congrArg some (by kernel_rfl))
 f240:=Tryz.func299.trans (congrArg some (by kernel_rfl))
 f241:=Tryz.func300.trans (congrArg some (by kernel_rfl))
 f276:=Tryz.func313.trans (congrArg some (by kernel_rfl))
 f277:=Tryz.func314.trans (congrArg some (by kernel_rfl))
 t0:=Tryz.underlying0
 a0:=Tryz.isAgg0
 z0:=Tryz.sizeOf0
 v0:=Tryz.zeroValue0
 t3:=Tryz.underlying3
 a3:=Tryz.isAgg3
 z3:=Tryz.sizeOf3
 v3:=Tryz.zeroValue3
 t4:=Tryz.underlying4
 a4:=Tryz.isAgg4
 z4:=Tryz.sizeOf4
 v4:=Tryz.zeroValue4
 t9:=Tryz.underlying9
 a9:=Tryz.isAgg9
 z9:=Tryz.sizeOf9
 v9:=Tryz.zeroValue9
 t20:=Tryz.underlying20
 a20:=Tryz.isAgg20
 z20:=Tryz.sizeOf20
 v20:=Tryz.zeroValue20
 t31:=Tryz.underlying44
 a31:=Tryz.isAgg44
 z31:=Tryz.sizeOf44
 v31:=Tryz.zeroValue44
 t37:=Tryz.underlying22
 a37:=Tryz.isAgg22
 z37:=Tryz.sizeOf22
 v37:=Tryz.zeroValue22
 t70:=Tryz.underlying159
 a70:=Tryz.isAgg159
 z70:=Tryz.sizeOf159
 v70:=Tryz.zeroValue159
 t72:=Tryz.underlying161
 a72:=Tryz.isAgg161
 z72:=Tryz.sizeOf161
 v72:=Tryz.zeroValue161
 t75:=Tryz.underlying164
 a75:=Tryz.isAgg164
 z75:=Tryz.sizeOf164
 v75:=Tryz.zeroValue164
 t76:=Tryz.underlying165
 a76:=Tryz.isAgg165
 z76:=Tryz.sizeOf165
 v76:=Tryz.zeroValue165
 t127:=Tryz.underlying182
 a127:=Tryz.isAgg182
 z127:=Tryz.sizeOf182
 v127:=Tryz.zeroValue182
 t164:=Tryz.underlying188
 a164:=Tryz.isAgg188
 z164:=Tryz.sizeOf188
 v164:=Tryz.zeroValue188 }
theorem uW:Builder.Extra Tryz.prog AL:={
 sizeBuilder:=by kernel_rfl
 liesBuilder:=by kernel_rfl
 t5:=Tryz.underlying5
 a5:=Tryz.isAgg5
 z5:=Tryz.sizeOf5
 v5:=Tryz.zeroValue5
 infoByte:=by kernel_rfl
 cellsByte:=by kernel_rfl
 sizeByte:=by kernel_rfl
 neB5:=by decide }
open Go.RowKit in
theorem KR(K o c:Nat)(F:List ByteArray)(D:ByteArray)(w:World)(z:∀(j:Nat) x,F[j]?=some x->w.cell? ⟨K,o+j,none⟩=some (.string x))(M:K<w.heap.size)(N:F.length<=140737488355328)(I:F.length<=c)(J:(Lib.join (F.map (·.data.toList)) D.data.toList).length<=140737488355328):
 Calls Tryz.prog 173 #[.slice (some ⟨K,o,none⟩) F.length c,.string D] w fun e w'=>e=.returned (.string ⟨(Lib.join (F.map (·.data.toList)) D.data.toList).toArray⟩)/\Below w.heap.size w w':=Any.strings_Join KJ uW K o c F D w z M N I J
open Go.RowKit in
theorem BP(a:Option Addr)(c:Nat)(z:ByteArray)(w:World):
 Calls Tryz.prog 173 #[.slice a 0 c,.string z] w fun e w'=>e=.returned (.string ⟨#[]⟩)/\w'=w:=Any.strings_Join_none KJ uW a c z w
def KP:Go.Shelf.Ren:=⟨fun|171=>258|243=>296|246=>312|283=>319|284=>320|285=>321|286=>322|129=>332|317=>333|318=>334|319=>335|320=>336|337=>342|338=>343|n=>n,fun|3=>3|9=>9|2=>2|4=>4|171=>192|0=>0|53=>181|37=>22|5=>5|173=>194|212=>203|51=>179|20=>20|213=>204|46=>102|232=>213|233=>214|n=>n,fun|17=>1|18=>2|19=>3|n=>n⟩
theorem V8:Go.Proofs.LaysM.n171 Tryz.prog KP:={
 mixed:=by kernel_rfl
 f129:=Tryz.func332.trans (congrArg some (by kernel_rfl))
 f171:=Tryz.func258.trans (congrArg some (by kernel_rfl))
 f243:=Tryz.func296.trans (congrArg some (by kernel_rfl))
 f246:=Tryz.func312.trans (congrArg some (by kernel_rfl))
 f283:=Tryz.func319.trans (congrArg some (by kernel_rfl))
 f284:=Tryz.func320.trans (congrArg some (by kernel_rfl))
 f285:=Tryz.func321.trans (congrArg some (by kernel_rfl))
 f286:=Tryz.func322.trans (congrArg some (by kernel_rfl))
 f317:=Tryz.func333.trans (congrArg some (by kernel_rfl))
 f318:=Tryz.func334.trans (congrArg some (by kernel_rfl))
 f319:=Tryz.func335.trans (congrArg some (by kernel_rfl))
 f320:=Tryz.func336.trans (congrArg some (by kernel_rfl))
 f337:=Tryz.func342.trans (congrArg some (by kernel_rfl))
 f338:=Tryz.func343.trans (congrArg some (by kernel_rfl))
 t0:=Tryz.underlying0
 a0:=Tryz.isAgg0
 z0:=Tryz.sizeOf0
 v0:=Tryz.zeroValue0
 t2:=Tryz.underlying2
 a2:=Tryz.isAgg2
 z2:=Tryz.sizeOf2
 v2:=Tryz.zeroValue2
 t3:=Tryz.underlying3
 a3:=Tryz.isAgg3
 z3:=Tryz.sizeOf3
 v3:=Tryz.zeroValue3
 t4:=Tryz.underlying4
 a4:=Tryz.isAgg4
 z4:=Tryz.sizeOf4
 v4:=Tryz.zeroValue4
 t5:=Tryz.underlying5
 a5:=Tryz.isAgg5
 z5:=Tryz.sizeOf5
 v5:=Tryz.zeroValue5
 t9:=Tryz.underlying9
 a9:=Tryz.isAgg9
 z9:=Tryz.sizeOf9
 v9:=Tryz.zeroValue9
 t20:=Tryz.underlying20
 a20:=Tryz.isAgg20
 z20:=Tryz.sizeOf20
 v20:=Tryz.zeroValue20
 t37:=Tryz.underlying22
 a37:=Tryz.isAgg22
 z37:=Tryz.sizeOf22
 v37:=Tryz.zeroValue22
 t46:=Tryz.underlying102
 a46:=Tryz.isAgg102
 z46:=Tryz.sizeOf102
 v46:=Tryz.zeroValue102
 t51:=Tryz.underlying179
 a51:=Tryz.isAgg179
 z51:=Tryz.sizeOf179
 v51:=Tryz.zeroValue179
 t53:=Tryz.underlying181
 a53:=Tryz.isAgg181
 z53:=Tryz.sizeOf181
 v53:=Tryz.zeroValue181
 t171:=Tryz.underlying192
 a171:=Tryz.isAgg192
 z171:=Tryz.sizeOf192
 v171:=Tryz.zeroValue192
 t173:=Tryz.underlying194
 a173:=Tryz.isAgg194
 z173:=Tryz.sizeOf194
 v173:=Tryz.zeroValue194
 t212:=Tryz.underlying203
 a212:=Tryz.isAgg203
 z212:=Tryz.sizeOf203
 v212:=Tryz.zeroValue203
 t213:=Tryz.underlying204
 a213:=Tryz.isAgg204
 z213:=Tryz.sizeOf204
 t232:=Tryz.underlying213
 a232:=Tryz.isAgg213
 z232:=Tryz.sizeOf213
 v232:=Tryz.zeroValue213
 t233:=Tryz.underlying214
 a233:=Tryz.isAgg214
 z233:=Tryz.sizeOf214
 v233:=Tryz.zeroValue214
 g17:=by kernel_rfl
 g18:=by kernel_rfl
 g19:=by kernel_rfl
 i0:=by kernel_rfl
 i2:=by kernel_rfl
 i3:=by kernel_rfl
 i4:=by kernel_rfl
 i5:=by kernel_rfl
 i9:=by kernel_rfl
 i20:=by kernel_rfl
 i37:=by kernel_rfl
 i46:=by kernel_rfl
 i51:=by kernel_rfl
 i53:=by kernel_rfl
 i171:=by kernel_rfl
 i173:=by kernel_rfl
 i212:=by kernel_rfl
 i232:=by kernel_rfl
 i233:=by kernel_rfl
 m17:=by kernel_rfl
 m18:=by kernel_rfl
 m19:=by kernel_rfl }
open Go.RowKit Go.Sort Go.Lib in
theorem KQ(n:Int)(D:-9223372036854775808<=n)(h1:n<=9223372036854775807)(w:World)(z:Lib.TabIs Tryz.prog w "internal/strconv.uint64pow10" .u64 Lib.pow10Tab):
 Calls Tryz.prog 258 #[.int .i64 n] w fun e w'=>e=.returned (.string ⟨(Lib.itoa n).toArray⟩)/\∃k os,w'=grow (w.drewN k) os:=Any.strconv_Itoa V8 n D h1 w z
def NF:Go.Shelf.Ren:=⟨fun|189=>309|125=>318|257=>317|128=>331|129=>332|294=>323|295=>324|296=>325|297=>326|298=>327|299=>328|216=>306|300=>329|301=>330|328=>337|329=>338|330=>339|331=>340|332=>341|215=>316|343=>344|n=>n,fun|28=>24|3=>3|46=>102|0=>0|51=>179|53=>181|4=>4|183=>198|182=>197|131=>42|5=>5|9=>9|218=>205|222=>209|228=>211|229=>69|n=>n,fun|n=>n⟩
theorem KM:Go.Proofs.Lays.n189 Tryz.prog NF:={
 mixed:=by kernel_rfl
 f125:=Tryz.func318.trans (congrArg some (by kernel_rfl))
 f128:=Tryz.func331.trans (congrArg some (by kernel_rfl))
 f129:=Tryz.func332.trans (congrArg some (by kernel_rfl))
 f189:=Tryz.func309.trans (congrArg some (by kernel_rfl))
 f215:=Tryz.func316.trans (congrArg some (by kernel_rfl))
 f216:=Tryz.func306.trans (congrArg some (by kernel_rfl))
 f257:=Tryz.func317.trans (congrArg some (by kernel_rfl))
 f294:=Tryz.func323.trans (congrArg some (by kernel_rfl))
 f295:=Tryz.func324.trans (congrArg some (by kernel_rfl))
 f296:=Tryz.func325.trans (congrArg some (by kernel_rfl))
 f297:=Tryz.func326.trans (congrArg some (by kernel_rfl))
 f298:=Tryz.func327.trans (congrArg some (by kernel_rfl))
 f299:=Tryz.func328.trans (congrArg some (by kernel_rfl))
 f300:=Tryz.func329.trans (congrArg some (by kernel_rfl))
 f301:=Tryz.func330.trans (congrArg some (by kernel_rfl))
 f328:=Tryz.func337.trans (congrArg some (by kernel_rfl))
 f329:=Tryz.func338.trans (congrArg some (by kernel_rfl))
 f330:=Tryz.func339.trans (congrArg some (by kernel_rfl))
 f331:=Tryz.func340.trans (congrArg some (by kernel_rfl))
 f332:=Tryz.func341.trans (congrArg some (by kernel_rfl))
 f343:=Tryz.func344.trans (congrArg some (by kernel_rfl))
 t0:=Tryz.underlying0
 a0:=Tryz.isAgg0
 z0:=Tryz.sizeOf0
 v0:=Tryz.zeroValue0
 t3:=Tryz.underlying3
 a3:=Tryz.isAgg3
 z3:=Tryz.sizeOf3
 v3:=Tryz.zeroValue3
 t4:=Tryz.underlying4
 a4:=Tryz.isAgg4
 z4:=Tryz.sizeOf4
 v4:=Tryz.zeroValue4
 t5:=Tryz.underlying5
 a5:=Tryz.isAgg5
 z5:=Tryz.sizeOf5
 v5:=Tryz.zeroValue5
 t9:=Tryz.underlying9
 a9:=Tryz.isAgg9
 z9:=Tryz.sizeOf9
 v9:=Tryz.zeroValue9
 t28:=Tryz.underlying24
 a28:=Tryz.isAgg24
 z28:=Tryz.sizeOf24
 v28:=Tryz.zeroValue24
 t46:=Tryz.underlying102
 a46:=Tryz.isAgg102
 z46:=Tryz.sizeOf102
 v46:=Tryz.zeroValue102
 t51:=Tryz.underlying179
 a51:=Tryz.isAgg179
 z51:=Tryz.sizeOf179
 v51:=Tryz.zeroValue179
 t53:=Tryz.underlying181
 a53:=Tryz.isAgg181
 z53:=Tryz.sizeOf181
 v53:=Tryz.zeroValue181
 t131:=Tryz.underlying42
 a131:=Tryz.isAgg42
 z131:=Tryz.sizeOf42
 v131:=Tryz.zeroValue42
 t182:=Tryz.underlying197
 a182:=Tryz.isAgg197
 z182:=Tryz.sizeOf197
 v182:=Tryz.zeroValue197
 t183:=Tryz.underlying198
 a183:=Tryz.isAgg198
 z183:=Tryz.sizeOf198
 v183:=Tryz.zeroValue198
 t218:=Tryz.underlying205
 a218:=Tryz.isAgg205
 z218:=Tryz.sizeOf205
 v218:=Tryz.zeroValue205
 t222:=Tryz.underlying209
 a222:=Tryz.isAgg209
 z222:=Tryz.sizeOf209
 v222:=Tryz.zeroValue209
 t228:=Tryz.underlying211
 a228:=Tryz.isAgg211
 z228:=Tryz.sizeOf211
 v228:=Tryz.zeroValue211
 t229:=Tryz.underlying69
 a229:=Tryz.isAgg69
 z229:=Tryz.sizeOf69
 v229:=Tryz.zeroValue69 }
open Go.Sort Go.RowKit in
theorem DW(z D cap:Nat)(I:List Int)(w:World)(K:Holds (Value.int .i64) w z D I.toArray)(F:z<w.heap.size)(J:I.length<4611686018427387904):
 Calls Tryz.prog 309 #[.slice (some ⟨z,D,none⟩) I.length cap] w fun e w'=>
  e=.returned (.tuple #[])/\∃n os,w'=grow (putRow (Value.int .i64) (Sort.ahead w n) z D (I.mergeSort fun x y=>decide (x<=y)).toArray) os:=Any.slices_Sort_int KM z D cap I w K F J
open Go.RowKit Go.Sort in
theorem yH(p:Option Addr)(cap:Nat)(w:World):
 Calls Tryz.prog 309 #[.slice p 0 cap] w fun e w'=>e=.returned (.tuple #[])/\w'=w:=Any.slices_Sort_int_none KM p cap w
def IF:Go.Shelf.Ren:=⟨fun|20=>311|n=>n,fun|22=>24|3=>3|4=>4|0=>0|n=>n,fun|n=>n⟩
theorem DV:Go.Proofs.Lays2.n20 Tryz.prog IF:={
 mixed:=by kernel_rfl
 f20:=Tryz.func311.trans (congrArg some (by kernel_rfl))
 t0:=Tryz.underlying0
 a0:=Tryz.isAgg0
 z0:=Tryz.sizeOf0
 v0:=Tryz.zeroValue0
 t3:=Tryz.underlying3
 a3:=Tryz.isAgg3
 z3:=Tryz.sizeOf3
 v3:=Tryz.zeroValue3
 t4:=Tryz.underlying4
 a4:=Tryz.isAgg4
 z4:=Tryz.sizeOf4
 v4:=Tryz.zeroValue4
 t22:=Tryz.underlying24
 a22:=Tryz.isAgg24
 z22:=Tryz.sizeOf24
 v22:=Tryz.zeroValue24
 i3:=by kernel_rfl }
open Go.RowKit Go.Lib Go.Sort in
theorem AM(z D cap:Nat)(F:List Int)(w:World)(K:Holds (Value.int .i64) w z D F.toArray)(J:F.length<=9223372036854775807)(I:F.length<=cap):
 Calls Tryz.prog 311 #[.slice (some ⟨z,D,none⟩) F.length cap] w fun e w'=>e=.returned (.slice (some ⟨z,D,none⟩) (Lib.compact F).length cap)/\∃q,w'=putRow (Value.int .i64) (Sort.ahead w q) z D (Lib.compact F++List.replicate (F.length-(Lib.compact F).length) 0).toArray:=Any.slices_Compact_int DV z D cap F w K J I
open Go.RowKit Go.Lib Go.Sort in
theorem wD(a:Option Addr)(cap:Nat)(w:World):
 Calls Tryz.prog 311 #[.slice a 0 cap] w fun e w'=>e=.returned (.slice a 0 cap)/\w'=w:=Any.slices_Compact_int_empty DV a cap w
end
section
open Go.RowKit Go.G5 Go.Proofs.Tryz
def sV(w:World):Prop:=Lib.TabIs prog w "internal/strconv.uint64pow10" .u64 Lib.pow10Tab
theorem acM:(prog.globalNamed "internal/strconv.uint64pow10").isSome=true:=aT
theorem sV.keep{w w':World}(h:sV w)(hb:Below w w w'):sV w':=by
 obtain⟨g,z⟩:=Option.isSome_iff_exists.1 acM;exact Go.Joins.var_stays z h hb aO
theorem XX(w:World)(k:Nat)(os:Array Obj):Below w w (Sort.grow (w.drewN k) os):=by
 refine⟨rfl,rfl,rfl,?_,fun b hb=>?_⟩
 ·show w.heap.size<=(w.heap++os).size;simp
 ·show(w.heap++os)[b]?=w.heap[b]?;rw[Array.getElem?_append_left hb]
theorem GL(n:Int)(z:dD n)(w:World)(D:sV w):
  Calls prog 164 #[n] w fun e w'=>e=.returned (.string (bQ n))/\Below w w w':=by
 go_enter func164,ntmps164;go_wp2_with (go_at_call 258;refine(KQ n z.1 z.2 _ D).mono ?_;rintro e w' ⟨rfl,k,os,rfl⟩);go_ret;exact⟨rfl,XX w k os⟩
end
section
open Go.Proofs.Tryz
open Go.ChangeShapes Go.WideShapes Go.ChangeAt Go.RowKit Go.G5
set_option maxRecDepth 100000
theorem QB{f:FuncId}{F:Func}{s:ChangeSpec}(I:List (String×DataW Unit))(os:Os)(started:os.Started)(H:Type)(enc:TypeId×Value->H)
  (b0:prog.funcs[f]?=some F) (N:prog.inits.idxOf? f=none) (hv:s.vars=[]) (Y:F.resultTypes=#[4])
  (O:(F.params.toList.all fun t=>prog.readableRec t&&decide (t<prog.types.size))=true)
  (D:∀K:List (DataW H),K.length=F.params.size->s.fn H K={ results:=[.lit (.bool true)],args:=K,vars:=[] })
  (witness:∃(w:World) (z:Tape) (i:Input),w.os=os/\(w.forCall z i).Shaped prog/\i.vars=[]/\Input.okWide prog (w.forCall z i) .any w.heap.size f i /\
   ((s.pre enc prog F [] false (w.forCall z i).memory i.args/\laidMetH prog I (w.forCall z i).memory)/\sizedMet enc prog F (OpenSpec.ofChange s) false (w.forCall z i).memory i.args)/\({}:Assume).holds prog (lone (Frame.enter prog f i.args .normal) [] (w.forCall z i)))
  (J:∀(W:World) (base:Nat) (args:Array Value) (K:List (DataW H)) (p:List MemPlace),(∀(j:Nat) t v,F.params[j]?=some t->args[j]?=some v->Value.okWide prog W .any base t v) ->
   DataW.TrodAll enc prog W 0 (fun _=>true) true F.params.toList args.toList K p->laidMetH prog I W->Calls prog f args W fun e W'=>e=.returned (.bool true)/\Below W W W'):
  ReturnsInHanded {} Tryz.checked os f .any (fun w args=>(s.pre enc prog F [] false w args/\laidMetH prog I w)/\sizedMet enc prog F (OpenSpec.ofChange s) false w args) (s.post enc prog F false true false false):=by
 refine returnsInHanded_of_change_and (C:=Tryz.checked) (X:=fun w _=>laidMetH prog I w) (fun _ _ _ hh h=>h.of_heap hh) own started N b0 witness ?_;intro W base args K gs before R hW b1 _ hL _;have Z:∀(j:Nat) t v,F.params[j]?=some t->args[j]?=some v->Value.okWide prog W .any base t v:=R;have S:=hW.lt;have a9:=hW;obtain⟨p,q,a6,hV,rfl,b6,b8⟩:=hW;have hA:DataW.TrodAll enc prog W 0 (fun _=>true) true F.params.toList args.toList K p:=a6;rw[hv]at hV;obtain⟨rfl,rfl⟩:=trodVars_none hV;refine(J W base args K p Z hA hL).mono fun e W' ⟨he,hb⟩=>?_;have M:K.length=F.params.size:=by have:=FY hA;simpa using this
 refine⟨_,he,K,[],p++[],[],p,[],a9,?_,?_,?_,hb.frame _,fun h=>by cases h⟩
 ·rw[List.append_nil,D K M,Y];exact trodAll_mk1 (shut_bool underlying4 true)
 ·rw[List.append_nil,D K M];exact CE agK hb O hA fun x hx=>by simpa using S x (by simp[hx])
 ·rw[List.append_nil,D K M,hv];exact hV
theorem TR{W:World}{a b:String×DataW Unit}(h:laidMet prog [a,b,("internal/strconv.uint64pow10",Lib.tabData .u64 Lib.pow10Tab)] W):sV W:=
 Lib.tabIs_of_head (g:=1) (t:=203) (e:=181) (n:=20) aT aT aT aT aT aT (laidMet.tail (laidMet.tail h))
end
section
open Go.RowKit Go.G5 Go.Proofs.Tryz
end
end Go.Proofs.YtcpoomdoodlkjaaGreatDoor
section
namespace Go.G5
open Go Go.RowKit
structure StrElem (P:Program) (E:TypeId):Prop where
 info:(P.info? E).map (fun i=>(i.zero,i.size,i.bytes))=some (some (.string ByteArray.empty),1,16)
theorem StrElem.get{P:Program}{E:TypeId}(h:StrElem P E):∃i,P.info? E=some i/\i.zero=some (.string ByteArray.empty)/\i.size=1/\i.bytes=16:=info_parts h.info
def eI(E:TypeId)(B:Nat)(w:World)(v:Value)(z:List ByteArray):Prop:=w.ownsRow B E 1 v z.length (z.map Value.string)
theorem eI.nil(E:TypeId)(B:Nat)(w:World):eI E B w (aI none 0 0) []:=World.ownsRow_nil _ _ _ _
theorem eI.below{E:TypeId}{B B':Nat}{w w':World}{v:Value}{l:List ByteArray}(h:eI E B w v l)(hb:Below B' w w')(hB:w.heap.size<=B'):eI E B w' v l:=by
 obtain⟨I,h1⟩:=h;refine⟨I,?_⟩;rcases h1 with h1|⟨g,cap,z,rfl,D,F,r⟩
 ·exact .inl h1
 ·exact .inr ⟨g,cap,z,rfl,D,by rw[hb.block g (by have:=(Array.getElem?_eq_some_iff.1 F).1;omega)];exact F,r⟩
theorem eI.keep{E:TypeId}{B:Nat}{W w1:World}{v:Value}{l:List ByteArray}(h:eI E B W v l)(hb:Below W W w1):eI E B w1 v l:=h.below hb aO
theorem eI.alloc{E:TypeId}{B:Nat}{w:World}{v:Value}{l:List ByteArray}(h:eI E B w v l)(o:Obj):eI E B (w.alloc o) v l:=h.keep (bF w o)
theorem eI.drewN{E:TypeId}{B:Nat}{w:World}{v:Value}{l:List ByteArray}(h:eI E B w v l)(n:Nat):eI E B (w.drewN n) v l:=h.keep ((Below.refl w.heap.size w).drewN' n)
theorem eI.mono{E:TypeId}{B B':Nat}{w:World}{v:Value}{l:List ByteArray}(h:eI E B w v l)(hB:B'<=B):eI E B' w v l:=by
 obtain⟨D,h1⟩:=h;refine⟨D,?_⟩;rcases h1 with h1|⟨g,cap,z,rfl,F,r⟩
 ·exact .inl h1
 ·exact .inr ⟨g,cap,z,rfl,by omega,r⟩
theorem eI.lt{E:TypeId}{B:Nat}{w:World}{v:Value}{l:List ByteArray}(h:eI E B w v l):∀k,v.ownBlock=some k->B<=k/\k<w.heap.size:=World.ownsRow.lt h
theorem eI.grown{E:TypeId}{B:Nat}{w w':World}{row:Option Nat}{v:Value}{l:List ByteArray}(h:eI E B w v l)(D:w.grownBy w' row)(z:v.ownBlock=none∨v.ownBlock≠row):eI E B w' v l:=World.ownsRow.kept h D z
theorem eI.lit{E:TypeId}{B:Nat}(w:World)(z:List ByteArray)(n:Nat)(D:n=z.length)(hl:n<=maxLen)(hB:B<=w.heap.size):eI E B (w.alloc (.cells (z.map Value.string).toArray E)) (aI (some ⟨w,0,none⟩) n n) z:=by
 subst D;have this:(w.alloc (.cells (z.map Value.string).toArray E)).ownsRow B E 1 (aI (some ⟨w,0,none⟩) z.length z.length) z.length (z.map Value.string).toArray.toList:=World.ownsRow_lit w _ z.length hB hl (by simp);simpa[eI]using this
theorem eI.at{E:TypeId}{B:Nat}{w:World}{v:Value}{z:List ByteArray}(h:eI E B w v z):(∃a c,v=aI a 0 c/\z=[])∨∃g c,v=aI (some ⟨g,0,none⟩) z.length c/\z.length<=c/\g<w.heap.size/\∀(j:Nat) x,z[j]?=some x->w.cell? ⟨g,0+j,none⟩=some (.string x):=by
 have h2:=h;obtain⟨M,h1⟩:=h;rcases h1 with⟨rfl,D⟩|⟨g,cap,I,rfl,hB,K,D,hm,J,ht⟩
 ·exact .inl ⟨none,0,rfl,List.eq_nil_of_length_eq_zero D⟩
 ·refine .inr ⟨g,cap,rfl,D,(Array.getElem?_eq_some_iff.1 K).1,fun j x F=>?_⟩;have N:j<z.length:=(List.getElem?_eq_some_iff.1 F).1;rw[Nat.zero_add,World.ownsRow.cellAt h2 j aK];simp[F]
theorem eI.shape3{E:TypeId}{B:Nat}{w:World}{v:Value}{z:List ByteArray}(h:eI E B w v z):∃a n c,v=aI a n c:=by
 rcases h.at with⟨a,c,rfl,_⟩|⟨g,c,rfl,_⟩
 ·exact⟨_,_,_,rfl⟩
 ·exact⟨_,_,_,rfl⟩
theorem AR{P:Program}{w:World}{ops:Array Oper}{rest:List Oper}{o:Oper}{a:Act}{Q:Exit->Act->World->Prop}(M:o.guard=none)(s x:Operand)(t:TypeId)
  (ho:o.op=.call { callee:=.builtin .append,args:=#[s,x],argTypes:=#[t,t] })
  (E:TypeId) (ht:P.underlying t=some (.slice E)) (S:StrElem P E) (B:Nat) (v:Value) (l D:List ByteArray) (b m c:Nat) (hs:a.eval s=v) (hx:a.eval x=aI (some ⟨b,0,none⟩) m c) (hm:m=D.length)
  (hy:∀(j:Nat) y,D[j]?=some y->w.cell? ⟨b,0+j,none⟩=some (.string y))
  (J:eI E B w v l) (O:l.length+D.length<1000000) (hB:B<=w.heap.size)
  (h:∀K w',eI E B w' K (l++D)->w.grownBy w' v.ownBlock->wpList P ops Q rest (a.put o.dst K) w'):wpList P ops Q (o::rest) a w:=by
 obtain⟨i,Z,hz,h1,R⟩:=S.get;subst hm;refine wpList_append_own w M s x t ho B E i (.string ByteArray.empty) 1 16 ht Z hz h1 R rfl aY v l.length (l.map Value.string) hs J ⟨b,0,none⟩ D.length c (D.map Value.string) hx (by simp) ?_ ?_ ?_ ?_ hB ?_
 ·intro j u F;rw[List.getElem?_map]at F
  cases N:D[j]? with
  |none=>rw[N]at F;cases F
  |some y=>
   rw[N]at F
   cases F
   have:=hy j y N;have e:(⟨b,0,none⟩:Addr).add j=⟨b,0+j,none⟩:=by
    unfold Addr.add;by_cases I:j=0
    ·subst I;simp
    ·simp[I]
   rw[e];exact this
 ·intro u hu;obtain⟨y,_,rfl⟩:=List.mem_map.1 hu
  rfl
 ·unfold maxLen;omega
 ·omega
 ·intro K w' z Y _;refine h K w' ?_ Y;simpa[eI]using z
theorem UO{P:Program}{w:World}{ops:Array Oper}{rest:List Oper}{o:Oper}{a:Act}{Q:Exit->Act->World->Prop}(J:o.guard=none)(x c:Operand)(t:TypeId)(z:o.op=Op.makeSlice t x c)
  (E:TypeId) (ht:P.underlying t=some (.slice E)) (F:StrElem P E) (n:Nat) (C:Int) (hl:a.eval x=aM 0) (hc:a.eval c=aM C) (hC:C=(n:Int)) (N:n<=1000000)
  (I:∀w',eI E w.heap.size w' (aI (some ⟨w,0,none⟩) 0 n) []->w.grownBy w' none->wpList P ops Q rest (a.put o.dst (aI (some ⟨w,0,none⟩) 0 n)) w'):wpList P ops Q (o::rest) a w:=by
 obtain⟨i,K,M,h1,D⟩:=F.get;exact wpList_make_own w J x c t z w.heap.size E i (.string ByteArray.empty) 1 ht K M h1 .i64 .i64 C n hl hc hC (by rw[D];omega) (by unfold maxLen;omega) aO I
end Go.G5
namespace Go.Proofs.YtcpoomdoodlkjaaGreatDoor
open Go.RowKit Go.G5 Go.Proofs.Tryz
theorem E1:StrElem prog 9:=⟨by kernel_rfl⟩
theorem GU(B:Nat)(w:World)(v:Value)(F:List ByteArray)(z:ByteArray)(h:eI 9 B w v F)(I:(cK z F).size<=100000000)(K:F.length<=1000000):
  Calls prog 173 #[v,.string z] w fun e w'=>e=.returned (.string (cK z F))/\Below w w w':=by
 rcases h.at with⟨a,c,rfl,rfl⟩|⟨g,c,rfl,hc,J,D⟩
 ·refine(BP a c z w).mono ?_;rintro e w' ⟨rfl,rfl⟩;exact⟨rfl,Below.refl _ _⟩
 ·refine(KR g 0 c F z w D J aK hc ?_).mono ?_
  ·rw[xE]at I;have:(cK z F).data.toList=Lib.join (F.map (·.data.toList)) z.data.toList:=rfl;rw[<-this];omega
  ·rintro e w' ⟨rfl,hb⟩;exact⟨rfl,hb⟩
end Go.Proofs.YtcpoomdoodlkjaaGreatDoor
end
