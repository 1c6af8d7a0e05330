import Derived.Test.YtkndcebhjcfphaaGreatDoorZ0
import Derived.Shelf.Strings.OnBuilder
import Derived.Shelf.Strconv.Itoa4
namespace Go.Proofs.YtkndcebhjcfphaaGreatDoor
open Go.RowKit Go.Proofs.Tryz
set_option maxRecDepth 100000
set_option maxHeartbeats 4000000
set_option linter.all false
section
open Go.Shelf
def Mq:Go.Shelf.Ren:=⟨fun|156=>197|165=>246|166=>247|169=>248|240=>295|241=>296|276=>330|277=>331|n=>n,fun|31=>22|9=>9|3=>3|4=>4|0=>0|20=>20|72=>236|76=>238|70=>234|37=>40|75=>162|127=>284|164=>320|5=>5|80=>153|n=>n,fun|n=>n⟩
theorem cA:Go.Proofs.Lays.n156 prog Mq:= {
 mixed:=We51ceQ
 f156:=func197.trans (AN some We51ceQ)
 f165:=func246.trans (AN some We51ceQ)
 f166:=func247.trans (AN some We51ceQ)
 f169:=func248.trans (AN some We51ceQ)
 f240:=func295.trans (AN some We51ceQ)
 f241:=func296.trans (AN some We51ceQ)
 f276:=func330.trans (AN some We51ceQ)
 f277:=func331.trans (AN some We51ceQ)
 t0:=underlying0
 a0:=Tryz.isAgg0
 z0:=Tryz.sizeOf0
 v0:=Tryz.zeroValue0
 t3:=underlying3
 a3:=Tryz.isAgg3
 z3:=Tryz.sizeOf3
 v3:=Tryz.zeroValue3
 t4:=underlying4
 a4:=Tryz.isAgg4
 z4:=Tryz.sizeOf4
 v4:=Tryz.zeroValue4
 t9:=underlying9
 a9:=Tryz.isAgg9
 z9:=Tryz.sizeOf9
 v9:=Tryz.zeroValue9
 t20:=underlying20
 a20:=Tryz.isAgg20
 z20:=Tryz.sizeOf20
 v20:=Tryz.zeroValue20
 t31:=underlying22
 a31:=Tryz.isAgg22
 z31:=Tryz.sizeOf22
 v31:=Tryz.zeroValue22
 t37:=underlying40
 a37:=Tryz.isAgg40
 z37:=Tryz.sizeOf40
 v37:=Tryz.zeroValue40
 t70:=underlying234
 a70:=Tryz.isAgg234
 z70:=Tryz.sizeOf234
 v70:=Tryz.zeroValue234
 t72:=underlying236
 a72:=Tryz.isAgg236
 z72:=Tryz.sizeOf236
 v72:=Tryz.zeroValue236
 t75:=underlying162
 a75:=Tryz.isAgg162
 z75:=Tryz.sizeOf162
 v75:=Tryz.zeroValue162
 t76:=underlying238
 a76:=Tryz.isAgg238
 z76:=Tryz.sizeOf238
 v76:=Tryz.zeroValue238
 t127:=underlying284
 a127:=Tryz.isAgg284
 z127:=Tryz.sizeOf284
 v127:=Tryz.zeroValue284
 t164:=underlying320
 a164:=Tryz.isAgg320
 z164:=Tryz.sizeOf320
 v164:=Tryz.zeroValue320}
theorem JS:Builder.Extra prog Mq:= {
 sizeBuilder:=We51ceQ
 liesBuilder:=We51ceQ
 t5:=underlying5
 a5:=Tryz.isAgg5
 z5:=Tryz.sizeOf5
 v5:=Tryz.zeroValue5
 infoByte:=We51ceQ
 cellsByte:=We51ceQ
 sizeByte:=We51ceQ
 neB5:=by decide}
open Go.RowKit in
theorem Lq (g o c:Nat) (xs:List ByteArray) (b:ByteArray) (w:World) (a: ∀(j:Nat) x,xs[j]? =some x->w.cell? ⟨g,o+j,none⟩=some (.string x)) (i:g<w) (k:xs.length<=140737488355328) (d:xs.length<=c) (f:(Lib.join (xs.map (·.data.toList)) b.data.toList).length<=140737488355328):
  Calls prog 197 #[.slice (some ⟨g,o,none⟩) xs.length c,.string b] w λe l=>e=.returned (.string ⟨(Lib.join (xs.map (·.data.toList)) b.data.toList).toArray⟩)∧Below w w l:=Any.strings_Join cA JS g o c xs b w a i k d f
def RT:Go.Shelf.Ren:=⟨fun|173=>176|246=>223|283=>273|284=>274|285=>275|286=>276|129=>312|317=>311|318=>313|319=>314|320=>315|337=>336|338=>337|n=>n,fun|2=>2|3=>3|9=>9|4=>4|171=>265|0=>0|53=>243|37=>40|5=>5|173=>268|212=>302|51=>289|20=>20|213=>303|46=>241|232=>337|233=>338|n=>n,fun|17=>5|18=>6|19=>7|n=>n⟩
theorem ZH:Go.Proofs.LaysM.n173 prog RT:= {
 mixed:=We51ceQ
 f129:=func312.trans (AN some We51ceQ)
 f173:=func176.trans (AN some We51ceQ)
 f246:=func223.trans (AN some We51ceQ)
 f283:=func273.trans (AN some We51ceQ)
 f284:=func274.trans (AN some We51ceQ)
 f285:=func275.trans (AN some We51ceQ)
 f286:=func276.trans (AN some We51ceQ)
 f317:=func311.trans (AN some We51ceQ)
 f318:=func313.trans (AN some We51ceQ)
 f319:=func314.trans (AN some We51ceQ)
 f320:=func315.trans (AN some We51ceQ)
 f337:=func336.trans (AN some We51ceQ)
 f338:=func337.trans (AN some We51ceQ)
 t0:=underlying0
 a0:=Tryz.isAgg0
 z0:=Tryz.sizeOf0
 v0:=Tryz.zeroValue0
 t2:=underlying2
 a2:=Tryz.isAgg2
 z2:=Tryz.sizeOf2
 v2:=Tryz.zeroValue2
 t3:=underlying3
 a3:=Tryz.isAgg3
 z3:=Tryz.sizeOf3
 v3:=Tryz.zeroValue3
 t4:=underlying4
 a4:=Tryz.isAgg4
 z4:=Tryz.sizeOf4
 v4:=Tryz.zeroValue4
 t5:=underlying5
 a5:=Tryz.isAgg5
 z5:=Tryz.sizeOf5
 v5:=Tryz.zeroValue5
 t9:=underlying9
 a9:=Tryz.isAgg9
 z9:=Tryz.sizeOf9
 v9:=Tryz.zeroValue9
 t20:=underlying20
 a20:=Tryz.isAgg20
 z20:=Tryz.sizeOf20
 v20:=Tryz.zeroValue20
 t37:=underlying40
 a37:=Tryz.isAgg40
 z37:=Tryz.sizeOf40
 v37:=Tryz.zeroValue40
 t46:=underlying241
 a46:=Tryz.isAgg241
 z46:=Tryz.sizeOf241
 v46:=Tryz.zeroValue241
 t51:=underlying289
 a51:=Tryz.isAgg289
 z51:=Tryz.sizeOf289
 v51:=Tryz.zeroValue289
 t53:=underlying243
 a53:=Tryz.isAgg243
 z53:=Tryz.sizeOf243
 v53:=Tryz.zeroValue243
 t171:=underlying265
 a171:=Tryz.isAgg265
 z171:=Tryz.sizeOf265
 v171:=Tryz.zeroValue265
 t173:=underlying268
 a173:=Tryz.isAgg268
 z173:=Tryz.sizeOf268
 v173:=Tryz.zeroValue268
 t212:=underlying302
 a212:=Tryz.isAgg302
 z212:=Tryz.sizeOf302
 v212:=Tryz.zeroValue302
 t213:=underlying303
 a213:=Tryz.isAgg303
 z213:=Tryz.sizeOf303
 t232:=underlying337
 a232:=Tryz.isAgg337
 z232:=Tryz.sizeOf337
 v232:=Tryz.zeroValue337
 t233:=underlying338
 a233:=Tryz.isAgg338
 z233:=Tryz.sizeOf338
 v233:=Tryz.zeroValue338
 g17:=We51ceQ
 g18:=We51ceQ
 g19:=We51ceQ
 i0:=We51ceQ
 i2:=We51ceQ
 i3:=We51ceQ
 i4:=We51ceQ
 i5:=We51ceQ
 i9:=We51ceQ
 i20:=We51ceQ
 i37:=We51ceQ
 i46:=We51ceQ
 i51:=We51ceQ
 i53:=We51ceQ
 i171:=We51ceQ
 i173:=We51ceQ
 i212:=We51ceQ
 i232:=We51ceQ
 i233:=We51ceQ
 m17:=We51ceQ
 m18:=We51ceQ
 m19:=by kernel_rfl}
open Go.RowKit Go.Sort Go.Lib in
theorem IF (n:Int) (b: -9223372036854775808<=n) (c:n<=9223372036854775807) (w:World) (a:Lib.TabIs prog w "internal/strconv.uint64pow10" .u64 Lib.pow10Tab):
  Calls prog 176 (Zii n 10) w λe f=>e=.returned (.string ⟨(Lib.itoa n).toArray⟩)∧ ∃k d,f=grow (w.drewN k) d:=Any.strconv_FormatInt_10 ZH n b c w a
end
