/- Texts, plainly. The library's contracts at this dump: what they lean on. Names on both sides. The marks as texts. Rows that come in: szRow, toRow, eqRow. Numerals on both sides. The texts of forms on both sides. Lists of texts that a call builds by append, and the laws' helpers over them: equal, mark, held. -/
import Derived.Lib.ItoaLen
import Derived.Lib.AppendIntMem
import Derived.Lib.Strings
import Derived.Laws.Concat
import Derived.Laws.BytesArg
import Derived.Test.YtobkcnmlmmhpoaaGreatDoorNum
import Derived.Shelf.Strings.Builder1
import Derived.Shelf.Strings.Builder2
import Derived.Shelf.Strings.OnBuilder
import Derived.Shelf.Strings.BuilderF
import Derived.Shelf.Strings.BuilderK
import Derived.Shelf.Utf8.RuneCount
import Derived.Shelf.Strconv.Atoi
import Derived.Shelf.Strconv.Itoa0
import Derived.Shelf.Strconv.Itoa1
import Derived.Shelf.LaysM
import Derived.Shelf.Strconv.Itoa2
import Derived.Shelf.Strconv.Itoa3
import Derived.Shelf.Strconv.AtoiErrFast
import Derived.Shelf.Strconv.ParseIntEmpty
import Derived.Shelf.Strconv.AtoiFail
import Derived.Shelf.Strconv.Clone
import Derived.Shelf.Strconv.SyntaxError
import Derived.Shelf.LaysC
import Derived.Shelf.Strconv.ToError
import Derived.Shelf.Strconv.Lower
import Derived.Shelf.Strconv.ParseUint10
import Derived.Shelf.Strconv.ParseUint10Empty
import Derived.Shelf.Strconv.ParseUint10Any
import Derived.Shelf.Strconv.ParseInt10
import Derived.Shelf.Strconv.AtoiLong
import Derived.Shelf.Strconv.AtoiInnerAll
import Derived.Shelf.Strconv.RangeError
import Derived.Shelf.Strconv.ToErrorRange
import Derived.Shelf.Strconv.AtoiAll
import Derived.Shelf.Strconv.ErrVarAll
import Derived.Shelf.Strings.Search1
import Derived.Shelf.Strings.Search2
import Derived.Shelf.Strings.Search3
import Derived.Shelf.Strings.Count
import Derived.Shelf.Strings.Shaped
import Derived.Shelf.Strings.Split
import Derived.Shelf.Strings.SplitShaped
import Derived.Shelf.Unicode.Decode
import Derived.Shelf.Strings.RuneCount
import Derived.Shelf.Strings.Explode
import Derived.Shelf.Unicode.DecodeSlow
import Derived.Shelf.Unicode.DecodeAny
import Derived.Shelf.Strings.FieldsFuncAny
import Derived.Test.YtobkcnmlmmhpoaaGreatDoorProg
import Derived.Test.YtobkcnmlmmhpoaaGreatDoorConv
import Derived.Test.YtobkcnmlmmhpoaaGreatDoorRule
import Derived.Test.YtobkcnmlmmhpoaaGreatDoorOwn
import Derived.Test.YtobkcnmlmmhpoaaGreatDoorRwo
import Derived.Test.YtobkcnmlmmhpoaaGreatDoorGreat
import Derived.Test.YtobkcnmlmmhpoaaGreatDoorRows
import Derived.Deep.AppendLies
import Derived.Deep.OwnRows
import Derived.Deep.Draws
import Derived.Deep.QuietTactic
import Derived.BigQuiet
namespace Go.Proofs.YtobkcnmlmmhpoaaGreatDoor
open Go.RowKit
set_option linter.unusedVariables false
set_option linter.unusedSimpArgs false

def tx (l:List UInt8):ByteArray:=⟨l.toArray⟩
theorem tx_app (a b:List UInt8):tx a++tx b=tx (a++b):=ByteArray.mk_append_mk a b
theorem tx_size (a:List UInt8):(tx a).size=a.length:=by simp [tx,ByteArray.size]
theorem tx_of (s:ByteArray):tx s.data.toList=s:=Lib.mk_data s
theorem tx_list (a:List UInt8):(tx a).data.toList=a:=by simp [tx]
theorem vtx (a b:List UInt8):Value.string (tx a++tx b)=Value.string (tx (a++b)):=congrArg Value.string (tx_app a b)
theorem itoa_len {x:Int} (h:I64 x):(Lib.itoa x).length≤21:=Lib.itoa_length_le x h.1 h.2
def dgb (d:Nat):UInt8:=UInt8.ofNat (48+d)
theorem dg_small {u:Nat} (h:u<10):Lib.decDigits u= [dgb u]:=by rw[Lib.decDigits,dif_pos h];rfl
theorem dg_next {u q d:Nat} (h: ¬u<10) (hq:u / 10=q) (hd:u%10=d):Lib.decDigits u=Lib.decDigits q++ [dgb d]:=by
 rw[Lib.decDigits,dif_neg h,hq,hd];rfl
theorem itoa_pos {x:Int} (h:0≤x):Lib.itoa x=Lib.decDigits x.toNat:=by rw[Lib.itoa,if_neg Vn]
theorem itoa_neg' {x:Int} (h:x<0):Lib.itoa x=45 :: Lib.decDigits x.natAbs:=by rw[Lib.itoa,if_pos h]
end Go.Proofs.YtobkcnmlmmhpoaaGreatDoor
namespace Go.Proofs
open Go.Shelf
def Tryz.lays156_ren:Go.Shelf.Ren:=⟨fun|156=>62|165=>87|166=>88|169=>89|240=>116|241=>117|276=>146|277=>147|n=>n,fun|31=>67|9=>9|3=>3|4=>4|0=>0|20=>20|72=>102|76=>90|70=>100|37=>22|75=>89|127=>120|164=>153|5=>5|80=>104|n=>n,fun|n=>n⟩
theorem Tryz.lays156:Go.Proofs.Lays.n156 Tryz.prog Tryz.lays156_ren:= {
 mixed:=by kernel_rfl
 f156:=Tryz.func62.trans (congrArg some (by kernel_rfl))
 f165:=Tryz.func87.trans (congrArg some (by kernel_rfl))
 f166:=Tryz.func88.trans (congrArg some (by kernel_rfl))
 f169:=Tryz.func89.trans (congrArg some (by kernel_rfl))
 f240:=Tryz.func116.trans (congrArg some (by kernel_rfl))
 f241:=Tryz.func117.trans (congrArg some (by kernel_rfl))
 f276:=Tryz.func146.trans (congrArg some (by kernel_rfl))
 f277:=Tryz.func147.trans (congrArg some (by kernel_rfl))
 t0:=Tryz.underlying0
 a0:=Tryz.isAgg0
 z0:=Tryz.sizeOf0
 v0:=Tryz.zeroValue0
 t3:=Tryz.underlying3
 a3:=Tryz.isAgg3
 z3:=Tryz.sizeOf3
 v3:=Tryz.zeroValue3
 t4:=Tryz.underlying4
 a4:=Tryz.isAgg4
 z4:=Tryz.sizeOf4
 v4:=Tryz.zeroValue4
 t9:=Tryz.underlying9
 a9:=Tryz.isAgg9
 z9:=Tryz.sizeOf9
 v9:=Tryz.zeroValue9
 t20:=Tryz.underlying20
 a20:=Tryz.isAgg20
 z20:=Tryz.sizeOf20
 v20:=Tryz.zeroValue20
 t31:=Tryz.underlying67
 a31:=Tryz.isAgg67
 z31:=Tryz.sizeOf67
 v31:=Tryz.zeroValue67
 t37:=Tryz.underlying22
 a37:=Tryz.isAgg22
 z37:=Tryz.sizeOf22
 v37:=Tryz.zeroValue22
 t70:=Tryz.underlying100
 a70:=Tryz.isAgg100
 z70:=Tryz.sizeOf100
 v70:=Tryz.zeroValue100
 t72:=Tryz.underlying102
 a72:=Tryz.isAgg102
 z72:=Tryz.sizeOf102
 v72:=Tryz.zeroValue102
 t75:=Tryz.underlying89
 a75:=Tryz.isAgg89
 z75:=Tryz.sizeOf89
 v75:=Tryz.zeroValue89
 t76:=Tryz.underlying90
 a76:=Tryz.isAgg90
 z76:=Tryz.sizeOf90
 v76:=Tryz.zeroValue90
 t127:=Tryz.underlying120
 a127:=Tryz.isAgg120
 z127:=Tryz.sizeOf120
 v127:=Tryz.zeroValue120
 t164:=Tryz.underlying153
 a164:=Tryz.isAgg153
 z164:=Tryz.sizeOf153
 v164:=Tryz.zeroValue153 }
theorem Tryz.Builder_Extra_156:Builder.Extra Tryz.prog Tryz.lays156_ren:= {
 sizeBuilder:=by kernel_rfl
 liesBuilder:=by kernel_rfl
 t5:=Tryz.underlying5
 a5:=Tryz.isAgg5
 z5:=Tryz.sizeOf5
 v5:=Tryz.zeroValue5
 infoByte:=by kernel_rfl
 cellsByte:=by kernel_rfl
 sizeByte:=by kernel_rfl
 neB5:=by decide }
def Tryz.laysM171_ren:Go.Shelf.Ren:=⟨fun|171=>61|243=>86|246=>115|283=>142|284=>143|285=>144|286=>145|129=>173|317=>172|318=>174|319=>175|320=>176|337=>190|338=>191|n=>n,fun|3=>3|9=>9|2=>2|4=>4|171=>148|0=>0|53=>47|37=>22|5=>5|173=>151|212=>174|51=>175|20=>20|213=>176|46=>112|232=>198|233=>199|n=>n,fun|17=>3|18=>6|19=>7|n=>n⟩
theorem Tryz.laysM171:Go.Proofs.LaysM.n171 Tryz.prog Tryz.laysM171_ren:= {
 mixed:=by kernel_rfl
 f129:=Tryz.func173.trans (congrArg some (by kernel_rfl))
 f171:=Tryz.func61.trans (congrArg some (by kernel_rfl))
 f243:=Tryz.func86.trans (congrArg some (by kernel_rfl))
 f246:=Tryz.func115.trans (congrArg some (by kernel_rfl))
 f283:=Tryz.func142.trans (congrArg some (by kernel_rfl))
 f284:=Tryz.func143.trans (congrArg some (by kernel_rfl))
 f285:=Tryz.func144.trans (congrArg some (by kernel_rfl))
 f286:=Tryz.func145.trans (congrArg some (by kernel_rfl))
 f317:=Tryz.func172.trans (congrArg some (by kernel_rfl))
 f318:=Tryz.func174.trans (congrArg some (by kernel_rfl))
 f319:=Tryz.func175.trans (congrArg some (by kernel_rfl))
 f320:=Tryz.func176.trans (congrArg some (by kernel_rfl))
 f337:=Tryz.func190.trans (congrArg some (by kernel_rfl))
 f338:=Tryz.func191.trans (congrArg some (by kernel_rfl))
 t0:=Tryz.underlying0
 a0:=Tryz.isAgg0
 z0:=Tryz.sizeOf0
 v0:=Tryz.zeroValue0
 t2:=Tryz.underlying2
 a2:=Tryz.isAgg2
 z2:=Tryz.sizeOf2
 v2:=Tryz.zeroValue2
 t3:=Tryz.underlying3
 a3:=Tryz.isAgg3
 z3:=Tryz.sizeOf3
 v3:=Tryz.zeroValue3
 t4:=Tryz.underlying4
 a4:=Tryz.isAgg4
 z4:=Tryz.sizeOf4
 v4:=Tryz.zeroValue4
 t5:=Tryz.underlying5
 a5:=Tryz.isAgg5
 z5:=Tryz.sizeOf5
 v5:=Tryz.zeroValue5
 t9:=Tryz.underlying9
 a9:=Tryz.isAgg9
 z9:=Tryz.sizeOf9
 v9:=Tryz.zeroValue9
 t20:=Tryz.underlying20
 a20:=Tryz.isAgg20
 z20:=Tryz.sizeOf20
 v20:=Tryz.zeroValue20
 t37:=Tryz.underlying22
 a37:=Tryz.isAgg22
 z37:=Tryz.sizeOf22
 v37:=Tryz.zeroValue22
 t46:=Tryz.underlying112
 a46:=Tryz.isAgg112
 z46:=Tryz.sizeOf112
 v46:=Tryz.zeroValue112
 t51:=Tryz.underlying175
 a51:=Tryz.isAgg175
 z51:=Tryz.sizeOf175
 v51:=Tryz.zeroValue175
 t53:=Tryz.underlying47
 a53:=Tryz.isAgg47
 z53:=Tryz.sizeOf47
 v53:=Tryz.zeroValue47
 t171:=Tryz.underlying148
 a171:=Tryz.isAgg148
 z171:=Tryz.sizeOf148
 v171:=Tryz.zeroValue148
 t173:=Tryz.underlying151
 a173:=Tryz.isAgg151
 z173:=Tryz.sizeOf151
 v173:=Tryz.zeroValue151
 t212:=Tryz.underlying174
 a212:=Tryz.isAgg174
 z212:=Tryz.sizeOf174
 v212:=Tryz.zeroValue174
 t213:=Tryz.underlying176
 a213:=Tryz.isAgg176
 z213:=Tryz.sizeOf176
 t232:=Tryz.underlying198
 a232:=Tryz.isAgg198
 z232:=Tryz.sizeOf198
 v232:=Tryz.zeroValue198
 t233:=Tryz.underlying199
 a233:=Tryz.isAgg199
 z233:=Tryz.sizeOf199
 v233:=Tryz.zeroValue199
 g17:=by kernel_rfl
 g18:=by kernel_rfl
 g19:=by kernel_rfl
 i0:=by kernel_rfl
 i2:=by kernel_rfl
 i3:=by kernel_rfl
 i4:=by kernel_rfl
 i5:=by kernel_rfl
 i9:=by kernel_rfl
 i20:=by kernel_rfl
 i37:=by kernel_rfl
 i46:=by kernel_rfl
 i51:=by kernel_rfl
 i53:=by kernel_rfl
 i171:=by kernel_rfl
 i173:=by kernel_rfl
 i212:=by kernel_rfl
 i232:=by kernel_rfl
 i233:=by kernel_rfl
 m17:=by kernel_rfl
 m18:=by kernel_rfl
 m19:=by kernel_rfl }
def Tryz.laysC172_ren:Go.Shelf.Ren:=⟨fun|172=>66|244=>93|245=>94|247=>122|279=>123|280=>124|281=>125|282=>126|287=>153|316=>154|171=>61|205=>155|321=>179|322=>180|243=>86|246=>115|283=>142|284=>143|285=>144|286=>145|129=>173|317=>172|318=>174|319=>175|320=>176|337=>190|338=>191|n=>n,fun|9=>9|3=>3|75=>89|76=>90|4=>4|5=>5|167=>125|37=>22|0=>0|85=>126|2=>2|168=>128|53=>47|175=>156|46=>112|210=>160|127=>120|145=>188|143=>186|21=>21|171=>148|173=>151|212=>174|51=>175|20=>20|213=>176|232=>198|233=>199|80=>104|n=>n,fun|15=>1|16=>2|17=>3|18=>6|19=>7|n=>n⟩
theorem Tryz.laysC172:Go.Proofs.LaysC.n172 Tryz.prog Tryz.laysC172_ren:= {
 mixed:=by kernel_rfl
 f129:=Tryz.func173.trans (congrArg some (by kernel_rfl))
 f171:=Tryz.func61.trans (congrArg some (by kernel_rfl))
 f172:=Tryz.func66.trans (congrArg some (by kernel_rfl))
 f205:=Tryz.func155.trans (congrArg some (by kernel_rfl))
 f243:=Tryz.func86.trans (congrArg some (by kernel_rfl))
 f244:=Tryz.func93.trans (congrArg some (by kernel_rfl))
 f245:=Tryz.func94.trans (congrArg some (by kernel_rfl))
 f246:=Tryz.func115.trans (congrArg some (by kernel_rfl))
 f247:=Tryz.func122.trans (congrArg some (by kernel_rfl))
 f279:=Tryz.func123.trans (congrArg some (by kernel_rfl))
 f280:=Tryz.func124.trans (congrArg some (by kernel_rfl))
 f281:=Tryz.func125.trans (congrArg some (by kernel_rfl))
 f282:=Tryz.func126.trans (congrArg some (by kernel_rfl))
 f283:=Tryz.func142.trans (congrArg some (by kernel_rfl))
 f284:=Tryz.func143.trans (congrArg some (by kernel_rfl))
 f285:=Tryz.func144.trans (congrArg some (by kernel_rfl))
 f286:=Tryz.func145.trans (congrArg some (by kernel_rfl))
 f287:=Tryz.func153.trans (congrArg some (by kernel_rfl))
 f316:=Tryz.func154.trans (congrArg some (by kernel_rfl))
 f317:=Tryz.func172.trans (congrArg some (by kernel_rfl))
 f318:=Tryz.func174.trans (congrArg some (by kernel_rfl))
 f319:=Tryz.func175.trans (congrArg some (by kernel_rfl))
 f320:=Tryz.func176.trans (congrArg some (by kernel_rfl))
 f321:=Tryz.func179.trans (congrArg some (by kernel_rfl))
 f322:=Tryz.func180.trans (congrArg some (by kernel_rfl))
 f337:=Tryz.func190.trans (congrArg some (by kernel_rfl))
 f338:=Tryz.func191.trans (congrArg some (by kernel_rfl))
 t0:=Tryz.underlying0
 a0:=Tryz.isAgg0
 z0:=Tryz.sizeOf0
 v0:=Tryz.zeroValue0
 t2:=Tryz.underlying2
 a2:=Tryz.isAgg2
 z2:=Tryz.sizeOf2
 v2:=Tryz.zeroValue2
 t3:=Tryz.underlying3
 a3:=Tryz.isAgg3
 z3:=Tryz.sizeOf3
 v3:=Tryz.zeroValue3
 t4:=Tryz.underlying4
 a4:=Tryz.isAgg4
 z4:=Tryz.sizeOf4
 v4:=Tryz.zeroValue4
 t5:=Tryz.underlying5
 a5:=Tryz.isAgg5
 z5:=Tryz.sizeOf5
 v5:=Tryz.zeroValue5
 t9:=Tryz.underlying9
 a9:=Tryz.isAgg9
 z9:=Tryz.sizeOf9
 v9:=Tryz.zeroValue9
 t20:=Tryz.underlying20
 a20:=Tryz.isAgg20
 z20:=Tryz.sizeOf20
 v20:=Tryz.zeroValue20
 t21:=Tryz.underlying21
 a21:=Tryz.isAgg21
 z21:=Tryz.sizeOf21
 v21:=Tryz.zeroValue21
 t37:=Tryz.underlying22
 a37:=Tryz.isAgg22
 z37:=Tryz.sizeOf22
 v37:=Tryz.zeroValue22
 t46:=Tryz.underlying112
 a46:=Tryz.isAgg112
 z46:=Tryz.sizeOf112
 v46:=Tryz.zeroValue112
 t51:=Tryz.underlying175
 a51:=Tryz.isAgg175
 z51:=Tryz.sizeOf175
 v51:=Tryz.zeroValue175
 t53:=Tryz.underlying47
 a53:=Tryz.isAgg47
 z53:=Tryz.sizeOf47
 v53:=Tryz.zeroValue47
 t75:=Tryz.underlying89
 a75:=Tryz.isAgg89
 z75:=Tryz.sizeOf89
 v75:=Tryz.zeroValue89
 t76:=Tryz.underlying90
 a76:=Tryz.isAgg90
 z76:=Tryz.sizeOf90
 v76:=Tryz.zeroValue90
 t85:=Tryz.underlying126
 a85:=Tryz.isAgg126
 z85:=Tryz.sizeOf126
 v85:=Tryz.zeroValue126
 t127:=Tryz.underlying120
 a127:=Tryz.isAgg120
 z127:=Tryz.sizeOf120
 v127:=Tryz.zeroValue120
 t143:=Tryz.underlying186
 a143:=Tryz.isAgg186
 z143:=Tryz.sizeOf186
 v143:=Tryz.zeroValue186
 t145:=Tryz.underlying188
 a145:=Tryz.isAgg188
 z145:=Tryz.sizeOf188
 v145:=Tryz.zeroValue188
 t167:=Tryz.underlying125
 a167:=Tryz.isAgg125
 z167:=Tryz.sizeOf125
 v167:=Tryz.zeroValue125
 t168:=Tryz.underlying128
 a168:=Tryz.isAgg128
 z168:=Tryz.sizeOf128
 v168:=Tryz.zeroValue128
 t171:=Tryz.underlying148
 a171:=Tryz.isAgg148
 z171:=Tryz.sizeOf148
 v171:=Tryz.zeroValue148
 t173:=Tryz.underlying151
 a173:=Tryz.isAgg151
 z173:=Tryz.sizeOf151
 v173:=Tryz.zeroValue151
 t175:=Tryz.underlying156
 a175:=Tryz.isAgg156
 z175:=Tryz.sizeOf156
 v175:=Tryz.zeroValue156
 t210:=Tryz.underlying160
 a210:=Tryz.isAgg160
 z210:=Tryz.sizeOf160
 v210:=Tryz.zeroValue160
 t212:=Tryz.underlying174
 a212:=Tryz.isAgg174
 z212:=Tryz.sizeOf174
 v212:=Tryz.zeroValue174
 t213:=Tryz.underlying176
 a213:=Tryz.isAgg176
 z213:=Tryz.sizeOf176
 t232:=Tryz.underlying198
 a232:=Tryz.isAgg198
 z232:=Tryz.sizeOf198
 v232:=Tryz.zeroValue198
 t233:=Tryz.underlying199
 a233:=Tryz.isAgg199
 z233:=Tryz.sizeOf199
 v233:=Tryz.zeroValue199
 g15:=by kernel_rfl
 g16:=by kernel_rfl
 g17:=by kernel_rfl
 g18:=by kernel_rfl
 g19:=by kernel_rfl
 t80:=Tryz.underlying104
 a80:=Tryz.isAgg104
 z80:=Tryz.sizeOf104
 v80:=Tryz.zeroValue104
 i0:=by kernel_rfl
 i2:=by kernel_rfl
 i3:=by kernel_rfl
 i4:=by kernel_rfl
 i5:=by kernel_rfl
 i9:=by kernel_rfl
 i20:=by kernel_rfl
 i21:=by kernel_rfl
 i37:=by kernel_rfl
 i46:=by kernel_rfl
 i51:=by kernel_rfl
 i53:=by kernel_rfl
 i75:=by kernel_rfl
 i76:=by kernel_rfl
 i80:=by kernel_rfl
 i85:=by kernel_rfl
 i127:=by kernel_rfl
 i143:=by kernel_rfl
 i145:=by kernel_rfl
 i167:=by kernel_rfl
 i168:=by kernel_rfl
 i171:=by kernel_rfl
 i173:=by kernel_rfl
 i175:=by kernel_rfl
 i210:=by kernel_rfl
 i212:=by kernel_rfl
 i232:=by kernel_rfl
 i233:=by kernel_rfl
 m15:=by kernel_rfl
 m16:=by kernel_rfl
 m17:=by kernel_rfl
 m18:=by kernel_rfl
 m19:=by kernel_rfl
 c0:=by kernel_rfl
 c2:=by kernel_rfl
 c3:=by kernel_rfl
 c4:=by kernel_rfl
 c5:=by kernel_rfl
 c9:=by kernel_rfl
 c20:=by kernel_rfl
 c21:=by kernel_rfl
 c37:=by kernel_rfl
 c46:=by kernel_rfl
 c51:=by kernel_rfl
 c53:=by kernel_rfl
 c75:=by kernel_rfl
 c76:=by kernel_rfl
 c80:=by kernel_rfl
 c85:=by kernel_rfl
 c127:=by kernel_rfl
 c143:=by kernel_rfl
 c145:=by kernel_rfl
 c167:=by kernel_rfl
 c168:=by kernel_rfl
 c171:=by kernel_rfl
 c173:=by kernel_rfl
 c175:=by kernel_rfl
 c210:=by kernel_rfl
 c212:=by kernel_rfl
 c213:=by kernel_rfl
 c232:=by kernel_rfl
 c233:=by kernel_rfl }
def Tryz.lays146_ren:Go.Shelf.Ren:=⟨fun|146=>39|221=>63|268=>90|138=>91|143=>92|195=>118|197=>119|218=>120|219=>121|260=>148|217=>149|225=>150|224=>151|267=>152|266=>177|314=>178|n=>n,fun|9=>9|31=>67|3=>3|4=>4|0=>0|105=>122|21=>21|5=>5|46=>112|119=>178|139=>181|138=>180|146=>182|51=>175|n=>n,fun|1=>0|3=>4|4=>5|n=>n⟩
theorem Tryz.lays146:Go.Proofs.Lays.n146 Tryz.prog Tryz.lays146_ren:= {
 mixed:=by kernel_rfl
 f138:=Tryz.func91.trans (congrArg some (by kernel_rfl))
 f143:=Tryz.func92.trans (congrArg some (by kernel_rfl))
 f146:=Tryz.func39.trans (congrArg some (by kernel_rfl))
 f195:=Tryz.func118.trans (congrArg some (by kernel_rfl))
 f197:=Tryz.func119.trans (congrArg some (by kernel_rfl))
 f217:=Tryz.func149.trans (congrArg some (by kernel_rfl))
 f218:=Tryz.func120.trans (congrArg some (by kernel_rfl))
 f219:=Tryz.func121.trans (congrArg some (by kernel_rfl))
 f221:=Tryz.func63.trans (congrArg some (by kernel_rfl))
 f224:=Tryz.func151.trans (congrArg some (by kernel_rfl))
 f225:=Tryz.func150.trans (congrArg some (by kernel_rfl))
 f260:=Tryz.func148.trans (congrArg some (by kernel_rfl))
 f266:=Tryz.func177.trans (congrArg some (by kernel_rfl))
 f267:=Tryz.func152.trans (congrArg some (by kernel_rfl))
 f268:=Tryz.func90.trans (congrArg some (by kernel_rfl))
 f314:=Tryz.func178.trans (congrArg some (by kernel_rfl))
 t0:=Tryz.underlying0
 a0:=Tryz.isAgg0
 z0:=Tryz.sizeOf0
 v0:=Tryz.zeroValue0
 t3:=Tryz.underlying3
 a3:=Tryz.isAgg3
 z3:=Tryz.sizeOf3
 v3:=Tryz.zeroValue3
 t4:=Tryz.underlying4
 a4:=Tryz.isAgg4
 z4:=Tryz.sizeOf4
 v4:=Tryz.zeroValue4
 t5:=Tryz.underlying5
 a5:=Tryz.isAgg5
 z5:=Tryz.sizeOf5
 v5:=Tryz.zeroValue5
 t9:=Tryz.underlying9
 a9:=Tryz.isAgg9
 z9:=Tryz.sizeOf9
 v9:=Tryz.zeroValue9
 t21:=Tryz.underlying21
 a21:=Tryz.isAgg21
 z21:=Tryz.sizeOf21
 v21:=Tryz.zeroValue21
 t31:=Tryz.underlying67
 a31:=Tryz.isAgg67
 z31:=Tryz.sizeOf67
 v31:=Tryz.zeroValue67
 t46:=Tryz.underlying112
 a46:=Tryz.isAgg112
 z46:=Tryz.sizeOf112
 v46:=Tryz.zeroValue112
 t51:=Tryz.underlying175
 a51:=Tryz.isAgg175
 z51:=Tryz.sizeOf175
 v51:=Tryz.zeroValue175
 t105:=Tryz.underlying122
 a105:=Tryz.isAgg122
 z105:=Tryz.sizeOf122
 v105:=Tryz.zeroValue122
 t119:=Tryz.underlying178
 a119:=Tryz.isAgg178
 z119:=Tryz.sizeOf178
 t138:=Tryz.underlying180
 a138:=Tryz.isAgg180
 z138:=Tryz.sizeOf180
 v138:=Tryz.zeroValue180
 t139:=Tryz.underlying181
 a139:=Tryz.isAgg181
 z139:=Tryz.sizeOf181
 v139:=Tryz.zeroValue181
 t146:=Tryz.underlying182
 a146:=Tryz.isAgg182
 z146:=Tryz.sizeOf182
 v146:=Tryz.zeroValue182
 g1:=by kernel_rfl
 g3:=by kernel_rfl
 g4:=by kernel_rfl }
def Tryz.lays229_ren:Go.Shelf.Ren:=⟨fun|229=>64|n=>n,fun|9=>9|40=>87|31=>67|152=>107|3=>3|0=>0|4=>4|21=>21|154=>109|n=>n,fun|n=>n⟩
theorem Tryz.lays229:Go.Proofs.Lays.n229 Tryz.prog Tryz.lays229_ren:= {
 mixed:=by kernel_rfl
 f229:=Tryz.func64.trans (congrArg some (by kernel_rfl))
 t0:=Tryz.underlying0
 a0:=Tryz.isAgg0
 z0:=Tryz.sizeOf0
 v0:=Tryz.zeroValue0
 t3:=Tryz.underlying3
 a3:=Tryz.isAgg3
 z3:=Tryz.sizeOf3
 v3:=Tryz.zeroValue3
 t4:=Tryz.underlying4
 a4:=Tryz.isAgg4
 z4:=Tryz.sizeOf4
 v4:=Tryz.zeroValue4
 t9:=Tryz.underlying9
 a9:=Tryz.isAgg9
 z9:=Tryz.sizeOf9
 v9:=Tryz.zeroValue9
 t21:=Tryz.underlying21
 a21:=Tryz.isAgg21
 z21:=Tryz.sizeOf21
 v21:=Tryz.zeroValue21
 t31:=Tryz.underlying67
 a31:=Tryz.isAgg67
 z31:=Tryz.sizeOf67
 v31:=Tryz.zeroValue67
 t40:=Tryz.underlying87
 a40:=Tryz.isAgg87
 z40:=Tryz.sizeOf87
 v40:=Tryz.zeroValue87
 t152:=Tryz.underlying107
 a152:=Tryz.isAgg107
 z152:=Tryz.sizeOf107
 v152:=Tryz.zeroValue107
 t154:=Tryz.underlying109
 a154:=Tryz.isAgg109
 z154:=Tryz.sizeOf109
 v154:=Tryz.zeroValue109 }
end Go.Proofs
namespace Go.Proofs.YtobkcnmlmmhpoaaGreatDoor
open Go.RowKit
set_option linter.unusedVariables false
set_option linter.unusedSimpArgs false
attribute [local go_sem] q2 q3 q4 q5 q6 q7 q8 q9 q10 q11 q12

end Go.Proofs.YtobkcnmlmmhpoaaGreatDoor
namespace Go.Proofs.YtobkcnmlmmhpoaaGreatDoor
open Go.RowKit
set_option linter.unusedVariables false
set_option linter.unusedSimpArgs false
attribute [local go_sem] q2 q3 q4 q5 q6 q7 q8 q9 q10 q11 q12

end Go.Proofs.YtobkcnmlmmhpoaaGreatDoor
namespace Go.Proofs.YtobkcnmlmmhpoaaGreatDoor
open Go.RowKit
set_option linter.unusedVariables false
set_option linter.unusedSimpArgs false
attribute [local go_sem] q2 q3 q4 q5 q6 q7 q8 q9 q10 q11 q12

def RowP (r:RowV) (n:Nat) (z:Nat→Int) (w:World) (v:Value):Prop:= ∃g:Nat,v=rwv r (.slice (some ⟨g,0,none⟩) n n)∧RowI w g n z∧g<w.heap.size
theorem RowI.set {w:World} {g n b o:Nat} {z:Nat→Int} {u:Value} (h:RowI w g n z) (hb:b≠g):RowI (w.setCell ⟨b,o,none⟩ u) g n z:=World.rowIs.of_block h (Below.heap_setCell _ _ _ _ (fun e=>hb e.symm))
theorem RowP.st {r:RowV} {n:Nat} {z:Nat→Int} :StB (RowP r n z):=fun W w' v hb ⟨g,h1,h2,h3⟩=>⟨g,h1,h2.below hb,Nat.lt_of_lt_of_le h3 hb.size⟩
end Go.Proofs.YtobkcnmlmmhpoaaGreatDoor
namespace Go.Proofs.YtobkcnmlmmhpoaaGreatDoor
open Go.RowKit
set_option linter.unusedVariables false
set_option linter.unusedSimpArgs false
attribute [local go_sem] q2 q3 q4 q5 q6 q7 q8 q9 q10 q11 q12

def powName:String:= "internal/strconv.uint64pow10"
def Tab (w:World):Prop:=Lib.TabIs Tryz.prog w powName .u64 Lib.pow10Tab
theorem Tab.below {w w':World} (h:Tab w) (hb:Below w.heap.size w w'):Tab w':=Lib.tabBelow_of_tabIs h w' hb
theorem itoa_a (x:Int) (w:World) (h0:I64 x) (ht:Tab w):
  Calls Tryz.prog 61 #[.int .i64 x] w fun e w'=>e= .returned (.string (tx (Lib.itoa x)))∧Below w.heap.size w w':=by
 refine (Any.strconv_Itoa Tryz.laysM171 x h0.1 h0.2 w ht).mono ?_
 rintro e w' ⟨rfl,k,os,rfl⟩
 exact ⟨rfl,Lib.below_grow _ w (Nat.le_refl _) k os⟩
theorem itoa_e (x:Int) (l:List UInt8) (w:World) (h0:I64 x) (hl:Lib.itoa x=l) (ht:Tab w):
  Calls Tryz.prog 61 #[.int .i64 x] w fun e w'=>e= .returned (.string (tx l))∧Below w.heap.size w w':=by
 subst hl;exact itoa_a x w h0 ht

def OneB (x:Int) (w:World) (v:Value):Prop:= ∃g:Nat,v= .slice (some ⟨g,0,none⟩) 1 1∧w.cell? ⟨g,0,none⟩=some (.int .u8 x)
theorem OneB.st {x:Int} :StB (OneB x):=fun W w' v hb ⟨g,h1,h2⟩=>⟨g,h1,cell_call hb h2⟩
end Go.Proofs.YtobkcnmlmmhpoaaGreatDoor
namespace Go.Proofs.YtobkcnmlmmhpoaaGreatDoor
open Go.RowKit
set_option linter.unusedVariables false
set_option linter.unusedSimpArgs false
attribute [local go_sem] q2 q3 q4 q5 q6 q7 q8 q9 q10 q11 q12

end Go.Proofs.YtobkcnmlmmhpoaaGreatDoor
namespace Go.Proofs.YtobkcnmlmmhpoaaGreatDoor
open Go.RowKit
set_option linter.unusedVariables false
set_option linter.unusedSimpArgs false
attribute [local go_sem] q2 q3 q4 q5 q6 q7 q8 q9 q10 q11 q12

theorem Tryz.infoStr':(Tryz.prog.info? 9).map (fun i=>(i.zero,i.size,i.bytes))=some (some (.string ⟨#[]⟩),1,16):=by kernel_rfl

def SL (w:World) (lo:Nat) (v:Value) (zs:List ByteArray):Prop:=w.ownsRow lo 9 1 v zs.length (zs.map Value.string)
theorem SL.nil (w:World) (lo:Nat):SL w lo (.slice none 0 0) []:=World.ownsRow_nil _ _ _ _
theorem SL.made (w:World) (lo:Nat) (h:lo≤w.heap.size):SL (w.alloc (.cells #[] 9)) lo (.slice (some ⟨w.heap.size,0,none⟩) 0 0) []:=
 World.ownsRow_made w #[] 0 h VA rfl
theorem SL.alloc {w:World} {lo:Nat} {v:Value} {zs:List ByteArray} (h:SL w lo v zs) (o:Obj):SL (w.alloc o) lo v zs:=World.ownsRow.alloc h o
theorem SL.kept {w w':World} {lo:Nat} {v:Value} {zs:List ByteArray} {row:Option Nat} (h:SL w lo v zs) (hg:w.grownBy w' row) (hne:v.ownBlock=none∨v.ownBlock≠row):SL w' lo v zs:=World.ownsRow.kept h hg hne
theorem SL.lt {w:World} {lo:Nat} {v:Value} {zs:List ByteArray} (h:SL w lo v zs): ∀k,v.ownBlock=some k→lo≤k∧k<w.heap.size:=World.ownsRow.lt h
theorem SL.below {w w':World} {lo:Nat} {v:Value} {zs:List ByteArray} (h:SL w lo v zs) (hb:Below w.heap.size w w'):SL w' lo v zs:=
 h.kept (row:=none) ⟨hb.os,hb.tape,hb.output,hb.size,fun k hk _=>hb.block k hk⟩ (by cases v.ownBlock<;>simp)
def StrsAt (w:World) (lo hi:Nat) (a:Option Addr) (n:Nat) (f:Nat→ByteArray):Prop:=
 n=0∨ ∃g cap F,a=some ⟨g,0,none⟩∧lo≤g∧g<hi∧n≤cap∧w.rowIs g 9 cap F∧ ∀i,i<n→F i= .string (f i)
theorem StrsAt.keep {w w':World} {lo hi:Nat} {a:Option Addr} {n:Nat} {f:Nat→ByteArray} (h:StrsAt w lo hi a n f) (hk: ∀k,lo≤k→k<hi→w'.heap[k]? =w.heap[k]?):StrsAt w' lo hi a n f:=by
 rcases h with h|⟨g,cap,F,ha,h1,h2,h3,h4,h5⟩
 ·exact .inl h
 ·exact .inr ⟨g,cap,F,ha,h1,h2,h3,h4.of_block (hk g h1 h2),h5⟩
theorem StrsAt.below {w w':World} {lo hi B:Nat} {a:Option Addr} {n:Nat} {f:Nat→ByteArray} (h:StrsAt w lo hi a n f) (hb:Below B w w') (hB:hi≤B):StrsAt w' lo hi a n f:=
 h.keep fun k _ h2=>hb.block k Vn
theorem SL.strs {w:World} {lo:Nat} {a:Option Addr} {n c:Nat} {zs:List ByteArray} (h:SL w lo (.slice a n c) zs):n=zs.length∧StrsAt w lo w.heap.size a zs.length (fun i=>zs.getD i ⟨#[]⟩):=by
 rcases h.2 with ⟨h1,h2⟩|⟨g,cap,cur,h1,h2,h3,h4,h5,h6,h7⟩
 ·simp only[Value.slice.injEq] at h1
  exact ⟨Vn,.inl h2⟩
 ·simp only[Value.slice.injEq] at h1
  obtain ⟨rfl,rfl,rfl⟩:=h1
  refine ⟨rfl,.inr ⟨g,c,fun i=>cur.getD i undef,rfl,h2,(Array.getElem?_eq_some_iff.1 h3).1,h4,⟨cur,h3,Vn,fun i hi=> ?_⟩,fun i hi=> ?_⟩⟩
  ·rw [Array.getElem?_eq_getElem Vn];simp [Array.getD,show i<cur.size from by omega]
  ·have e:cur.toList[i]? =(zs.map Value.string)[i]? :=by
    rw[←h7,List.getElem?_take,if_pos Vn]
   rw[List.getElem?_map,List.getElem?_eq_getElem hi] at e
   simp only[Option.map_some] at e
   have hi2:i<cur.size:=by omega
   rw[Array.getElem?_toList,Array.getElem?_eq_getElem hi2] at e
   have e2:cur[i]=Value.string zs[i]:=by simpa using e
   have e3:zs.getD i ⟨#[]⟩=zs[i]:=by rw[List.getD_eq_getElem?_getD,List.getElem?_eq_getElem hi];rfl
   show cur.getD i undef= .string (zs.getD i ⟨#[]⟩)
   rw[e3,←e2]
   simp [Array.getD,hi2]

theorem app_str (w:World) {ops:Array Oper} {rest:List Oper} {o:Oper} {a:Act} {Q:Exit→Act→World→Prop} (hgd:o.guard=none) (s x:Operand)
  (ho:o.op= .call { callee:= .builtin .append,args:= #[s,x],argTypes:= #[67,67] })
  (lo:Nat) (v:Value) (zs:List ByteArray) (z:ByteArray) (B:Nat) (hs:a.eval s=v) (hx:a.eval x= .slice (some ⟨B,0,none⟩) 1 1)
  (hown:SL w lo v zs) (hB:w.cell? ⟨B,0,none⟩=some (.string z)) (hlen:zs.length≤1000000000) (hlo:lo≤w.heap.size)
  (h: ∀g cap w',SL w' lo (.slice (some ⟨g,0,none⟩) (zs.length+1) cap) (zs++ [z])→w.grownBy w' v.ownBlock→(v.ownBlock=some g∨g=w.heap.size)→g<w'.heap.size→
   wpList Tryz.prog ops Q rest (a.put o.dst (.slice (some ⟨g,0,none⟩) (zs.length+1) cap)) w'):wpList Tryz.prog ops Q (o :: rest) a w:=by
 obtain ⟨i0,hi,hz0,hz1,hz2⟩:=info_parts Tryz.infoStr'
 refine wpList_append_lies w hgd s x 67 ho lo 9 i0 (.string ⟨#[]⟩) 1 16 Tryz.underlying67 hi hz0 hz1 hz2 rfl VA v zs.length _ hs hown ⟨B,0,none⟩ 1 1 [.string z] hx rfl ?_ (by simp [Value.oneCell']) VA VK Vn hlo _ rfl ?_
 ·intro j u hu
  match j with
  |0=>simp at hu;subst hu;simpa [Addr.add] using hB
  |j+1=>simp at hu
 ·intro g cap w' h1 h2 h3 h4
  refine h g cap w' ?_ h2 h3 h4
  unfold SL
  rw[List.map_append,List.length_append]
  exact h1

end Go.Proofs.YtobkcnmlmmhpoaaGreatDoor
