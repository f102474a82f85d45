import Derived.Shelf.Strings.Builder1
import Derived.Shelf.Small.Bits
import Derived.Shelf.Small.Strs
import Derived.Shelf.Small.Wraps
import Derived.Shelf.Strings.BuilderF
import Derived.Shelf.Strings.BuilderK
import Derived.Shelf.Strconv.Atoi
import Derived.Shelf.Strconv.Itoa0
import Derived.Shelf.Strconv.Itoa1
import Derived.Shelf.LaysM
import Derived.Shelf.Strconv.Itoa2
import Derived.Shelf.Strconv.Itoa3
import Derived.Shelf.Strconv.AtoiErrFast
import Derived.Shelf.Strconv.ParseIntEmpty
import Derived.Shelf.Strconv.AtoiFail
import Derived.Shelf.Strconv.Clone
import Derived.Shelf.Strconv.SyntaxError
import Derived.Shelf.LaysC
import Derived.Shelf.Strconv.ToError
import Derived.Shelf.Strconv.Lower
import Derived.Shelf.Strconv.ParseUint10
import Derived.Shelf.Strconv.ParseUint10Empty
import Derived.Shelf.Strconv.ParseUint10Any
import Derived.Shelf.Strconv.ParseInt10
import Derived.Shelf.Strconv.AtoiLong
import Derived.Shelf.Strconv.AtoiInnerAll
import Derived.Shelf.Strconv.RangeError
import Derived.Shelf.Strconv.ToErrorRange
import Derived.Shelf.Strconv.AtoiAll
import Derived.Shelf.Strconv.ErrVarAll
import Derived.Shelf.Strings.Search1
import Derived.Shelf.Strings.Prefix
import Derived.Shelf.Bits.Mul64
import Derived.Shelf.Slices.Turned
import Derived.Ground.Names2Prog
import Derived.Shelf.Slices.Clone
import Derived.Test.YtcidfldeiklcjaaGreatDoorProg
namespace Go.Proofs
open Go.Shelf
open Go.Proofs.Tryz
def Tryz.lays169_ren:Go.Shelf.Ren:=⟨fun|169=>180|n=>n,fun|70=>211|9=>9|0=>0|72=>213|37=>144|127=>241|3=>3|5=>5|n=>n,fun|n=>n⟩
theorem Tryz.lays169:Go.Proofs.Lays.n169 prog Tryz.lays169_ren:={
 mixed:=by kernel_rfl
 f169:=func180.trans (congrArg some (by kernel_rfl))
 t0:=underlying0
 a0:=isAgg0
 z0:=sizeOf0
 v0:=zeroValue0
 t3:=underlying3
 a3:=isAgg3
 z3:=sizeOf3
 v3:=zeroValue3
 t9:=underlying9
 a9:=isAgg9
 z9:=sizeOf9
 v9:=zeroValue9
 t37:=underlying144
 a37:=isAgg144
 z37:=sizeOf144
 v37:=zeroValue144
 t70:=underlying211
 a70:=isAgg211
 z70:=sizeOf211
 v70:=zeroValue211
 t72:=underlying213
 a72:=isAgg213
 z72:=sizeOf213
 v72:=zeroValue213
 t127:=underlying241
 a127:=isAgg241
 z127:=sizeOf241
 v127:=zeroValue241 }
theorem Tryz.Builder_Extra_169:Builder.Extra prog Tryz.lays169_ren:={
 sizeBuilder:=by kernel_rfl
 liesBuilder:=by kernel_rfl
 t5:=underlying5
 a5:=isAgg5
 z5:=sizeOf5
 v5:=zeroValue5
 infoByte:=by kernel_rfl
 cellsByte:=by kernel_rfl
 sizeByte:=by kernel_rfl
 neB5:=by decide }
open Go.RowKit in
open Go.RowKit in
open Go.RowKit in
theorem Tryz.Builder_String_any(B b:Nat)(l:List UInt8)(w:World)(h:Lib.IsBuilder 213 5 B b (Lib.byteCells l) w)(hBw:B<=w.heap.size) :
  Calls prog 180 #[.pointer (some ⟨b,0,none⟩)] w fun e w'=>e=.returned (.string ⟨l.toArray⟩)/\Below B w w':=Any.Builder_String_any Tryz.lays169 Tryz.Builder_Extra_169 B b l w h hBw
def Tryz.lays125_ren:Go.Shelf.Ren:=⟨fun|125=>73|128=>116|129=>117|n=>n,fun|46=>109|3=>3|51=>145|53=>148|4=>4|5=>5|9=>9|n=>n,fun|n=>n⟩
theorem Tryz.lays125:Go.Proofs.Lays.n125 prog Tryz.lays125_ren:={
 mixed:=by kernel_rfl
 f125:=func73.trans (congrArg some (by kernel_rfl))
 f128:=func116.trans (congrArg some (by kernel_rfl))
 f129:=func117.trans (congrArg some (by kernel_rfl))
 t3:=underlying3
 a3:=isAgg3
 z3:=sizeOf3
 v3:=zeroValue3
 t4:=underlying4
 a4:=isAgg4
 z4:=sizeOf4
 v4:=zeroValue4
 t5:=underlying5
 a5:=isAgg5
 z5:=sizeOf5
 v5:=zeroValue5
 t9:=underlying9
 a9:=isAgg9
 z9:=sizeOf9
 v9:=zeroValue9
 t46:=underlying109
 a46:=isAgg109
 z46:=sizeOf109
 v46:=zeroValue109
 t51:=underlying145
 a51:=isAgg145
 z51:=sizeOf145
 v51:=zeroValue145
 t53:=underlying148
 a53:=isAgg148
 z53:=sizeOf148
 v53:=zeroValue148 }
theorem Tryz.bits_Len(x:Int)(w:World)(h0:0<=x)(h1:x<=18446744073709551615) :
  Calls prog 73 #[.int .u64 x] w fun e w'=>e=.returned (.int .i64 (Lib.bitLen x.toNat))/\w'=w:=Any.bits_Len Tryz.lays125 x w h0 h1
def Tryz.lays134_ren:Go.Shelf.Ren:=⟨fun|134=>237|129=>117|n=>n,fun|53=>148|3=>3|4=>4|46=>109|5=>5|9=>9|n=>n,fun|n=>n⟩
theorem Tryz.lays134:Go.Proofs.Lays.n134 prog Tryz.lays134_ren:={
 mixed:=by kernel_rfl
 f129:=func117.trans (congrArg some (by kernel_rfl))
 f134:=func237.trans (congrArg some (by kernel_rfl))
 t3:=underlying3
 a3:=isAgg3
 z3:=sizeOf3
 v3:=zeroValue3
 t4:=underlying4
 a4:=isAgg4
 z4:=sizeOf4
 v4:=zeroValue4
 t5:=underlying5
 a5:=isAgg5
 z5:=sizeOf5
 v5:=zeroValue5
 t9:=underlying9
 a9:=isAgg9
 z9:=sizeOf9
 v9:=zeroValue9
 t46:=underlying109
 a46:=isAgg109
 z46:=sizeOf109
 v46:=zeroValue109
 t53:=underlying148
 a53:=isAgg148
 z53:=sizeOf148
 v53:=zeroValue148 }
theorem Tryz.bits_LeadingZeros64(x:Int)(w:World)(h0:0<=x)(h1:x<=18446744073709551615) :
  Calls prog 237 #[.int .u64 x] w fun e w'=>e=.returned (.int .i64 (64 - (Lib.bitLen x.toNat:Int)))/\w'=w:=Any.bits_LeadingZeros64 Tryz.lays134 x w h0 h1
def Tryz.lays137_ren:Go.Shelf.Ren:=⟨fun|137=>209|217=>228|266=>243|n=>n,fun|9=>9|5=>5|3=>3|n=>n,fun|n=>n⟩
theorem Tryz.lays137:Go.Proofs.Lays.n137 prog Tryz.lays137_ren:={
 mixed:=by kernel_rfl
 f137:=func209.trans (congrArg some (by kernel_rfl))
 f217:=func228.trans (congrArg some (by kernel_rfl))
 f266:=func243.trans (congrArg some (by kernel_rfl))
 t3:=underlying3
 a3:=isAgg3
 z3:=sizeOf3
 v3:=zeroValue3
 t5:=underlying5
 a5:=isAgg5
 z5:=sizeOf5
 v5:=zeroValue5
 t9:=underlying9
 a9:=isAgg9
 z9:=sizeOf9
 v9:=zeroValue9 }
open Go.RowKit in
theorem Tryz.strings_IndexByte(s:ByteArray)(c:Int)(w:World) :
  Calls prog 209 #[.string s,.int .u8 c] w fun e w'=>e=.returned (.int .i64 (Lib.indexByte s.data.toList c.toNat.toUInt8))/\w'=w:=Any.strings_IndexByte Tryz.lays137 s c w
open Go.RowKit in
def Tryz.lays103_ren:Go.Shelf.Ren:=⟨fun|103=>211|210=>231|206=>249|n=>n,fun|9=>9|4=>4|24=>238|3=>3|n=>n,fun|n=>n⟩
theorem Tryz.lays103:Go.Proofs.Lays.n103 prog Tryz.lays103_ren:={
 mixed:=by kernel_rfl
 f103:=func211.trans (congrArg some (by kernel_rfl))
 f206:=func249.trans (congrArg some (by kernel_rfl))
 f210:=func231.trans (congrArg some (by kernel_rfl))
 t3:=underlying3
 a3:=isAgg3
 z3:=sizeOf3
 v3:=zeroValue3
 t4:=underlying4
 a4:=isAgg4
 z4:=sizeOf4
 v4:=zeroValue4
 t9:=underlying9
 a9:=isAgg9
 z9:=sizeOf9
 v9:=zeroValue9
 t24:=underlying238
 a24:=isAgg238
 z24:=sizeOf238
 v24:=zeroValue238 }
open Go.RowKit in
theorem Tryz.strings_CutPrefix(s p:ByteArray)(w:World) :
  Calls prog 211 #[.string s,.string p] w fun e w'=>e=.returned (.tuple #[.string ⟨(Lib.trimPrefix s.data.toList p.data.toList).toArray⟩,.bool (Lib.hasPrefix s.data.toList p.data.toList)])/\w'=w:=Any.strings_CutPrefix Tryz.lays103 s p w
def Tryz.lays215_ren:Go.Shelf.Ren:=⟨fun|215=>118|n=>n,fun|3=>3|4=>4|n=>n,fun|n=>n⟩
open Go.RowKit in
def Tryz.lays122_ren:Go.Shelf.Ren:=⟨fun|122=>75|215=>118|n=>n,fun|3=>3|4=>4|n=>n,fun|n=>n⟩
theorem Tryz.lays122:Go.Proofs.Lays.n122 prog Tryz.lays122_ren:={
 mixed:=by kernel_rfl
 f122:=func75.trans (congrArg some (by kernel_rfl))
 f215:=func118.trans (congrArg some (by kernel_rfl))
 t3:=underlying3
 a3:=isAgg3
 z3:=sizeOf3
 v3:=zeroValue3
 t4:=underlying4
 a4:=isAgg4
 z4:=sizeOf4
 v4:=zeroValue4 }
open Go.RowKit in
theorem Tryz.cmp_Compare_int(x y:Int)(w:World) :
  Calls prog 75 #[.int .i64 x,.int .i64 y] w fun e w'=>e=.returned (.int .i64 (Lib.compareInt x y))/\w'=w:=Any.cmp_Compare_int Tryz.lays122 x y w
open Go.RowKit in
open Go.RowKit in
open Go.RowKit in
open Go.RowKit in
open Go.RowKit in
open Go.RowKit in
open Go.RowKit in
def Tryz.lays172_ren:Go.Shelf.Ren:=⟨fun|172=>210|244=>229|245=>230|247=>244|279=>245|280=>246|281=>247|282=>248|287=>257|316=>258|171=>139|205=>259|321=>261|322=>262|243=>181|246=>214|283=>233|284=>234|285=>235|286=>236|129=>117|317=>250|318=>251|319=>252|320=>253|337=>260|338=>216|n=>n,fun|9=>9|3=>3|75=>215|76=>216|4=>4|5=>5|167=>261|37=>144|0=>0|85=>262|2=>2|168=>264|53=>148|175=>272|46=>109|210=>275|127=>241|145=>280|143=>278|21=>21|171=>251|173=>253|212=>269|51=>145|20=>20|213=>270|232=>281|233=>255|80=>168|n=>n,fun|15=>5|16=>6|17=>3|18=>7|19=>2|n=>n⟩
open Go.RowKit in
open Go.Lib in
open Go.Lib in
open Go.Lib in
open Go.Lib in
open Go.RowKit Go.Sort Go.Lib in
def Tryz.laysM246_ren:Go.Shelf.Ren:=⟨fun|246=>214|283=>233|284=>234|285=>235|286=>236|129=>117|317=>250|318=>251|319=>252|320=>253|337=>260|338=>216|n=>n,fun|2=>2|3=>3|9=>9|4=>4|171=>251|0=>0|53=>148|37=>144|5=>5|173=>253|212=>269|51=>145|20=>20|213=>270|46=>109|232=>281|233=>255|n=>n,fun|17=>3|18=>7|19=>2|n=>n⟩
open Go.RowKit Go.Sort Go.Lib in
open Go.RowKit Go.Sort Go.Lib in
def Tryz.laysM243_ren:Go.Shelf.Ren:=⟨fun|243=>181|246=>214|283=>233|284=>234|285=>235|286=>236|129=>117|317=>250|318=>251|319=>252|320=>253|337=>260|338=>216|n=>n,fun|3=>3|9=>9|2=>2|4=>4|171=>251|0=>0|53=>148|37=>144|5=>5|173=>253|212=>269|51=>145|20=>20|213=>270|46=>109|232=>281|233=>255|n=>n,fun|17=>3|18=>7|19=>2|n=>n⟩
open Go.RowKit Go.Sort Go.Lib in
open Go.RowKit Go.Sort Go.Lib in
def Tryz.laysM171_ren:Go.Shelf.Ren:=⟨fun|171=>139|243=>181|246=>214|283=>233|284=>234|285=>235|286=>236|129=>117|317=>250|318=>251|319=>252|320=>253|337=>260|338=>216|n=>n,fun|3=>3|9=>9|2=>2|4=>4|171=>251|0=>0|53=>148|37=>144|5=>5|173=>253|212=>269|51=>145|20=>20|213=>270|46=>109|232=>281|233=>255|n=>n,fun|17=>3|18=>7|19=>2|n=>n⟩
theorem Tryz.laysM171:Go.Proofs.LaysM.n171 prog Tryz.laysM171_ren:={
 mixed:=by kernel_rfl
 f129:=func117.trans (congrArg some (by kernel_rfl))
 f171:=func139.trans (congrArg some (by kernel_rfl))
 f243:=func181.trans (congrArg some (by kernel_rfl))
 f246:=func214.trans (congrArg some (by kernel_rfl))
 f283:=func233.trans (congrArg some (by kernel_rfl))
 f284:=func234.trans (congrArg some (by kernel_rfl))
 f285:=func235.trans (congrArg some (by kernel_rfl))
 f286:=func236.trans (congrArg some (by kernel_rfl))
 f317:=func250.trans (congrArg some (by kernel_rfl))
 f318:=func251.trans (congrArg some (by kernel_rfl))
 f319:=func252.trans (congrArg some (by kernel_rfl))
 f320:=func253.trans (congrArg some (by kernel_rfl))
 f337:=func260.trans (congrArg some (by kernel_rfl))
 f338:=func216.trans (congrArg some (by kernel_rfl))
 t0:=underlying0
 a0:=isAgg0
 z0:=sizeOf0
 v0:=zeroValue0
 t2:=underlying2
 a2:=isAgg2
 z2:=sizeOf2
 v2:=zeroValue2
 t3:=underlying3
 a3:=isAgg3
 z3:=sizeOf3
 v3:=zeroValue3
 t4:=underlying4
 a4:=isAgg4
 z4:=sizeOf4
 v4:=zeroValue4
 t5:=underlying5
 a5:=isAgg5
 z5:=sizeOf5
 v5:=zeroValue5
 t9:=underlying9
 a9:=isAgg9
 z9:=sizeOf9
 v9:=zeroValue9
 t20:=underlying20
 a20:=isAgg20
 z20:=sizeOf20
 v20:=zeroValue20
 t37:=underlying144
 a37:=isAgg144
 z37:=sizeOf144
 v37:=zeroValue144
 t46:=underlying109
 a46:=isAgg109
 z46:=sizeOf109
 v46:=zeroValue109
 t51:=underlying145
 a51:=isAgg145
 z51:=sizeOf145
 v51:=zeroValue145
 t53:=underlying148
 a53:=isAgg148
 z53:=sizeOf148
 v53:=zeroValue148
 t171:=underlying251
 a171:=isAgg251
 z171:=sizeOf251
 v171:=zeroValue251
 t173:=underlying253
 a173:=isAgg253
 z173:=sizeOf253
 v173:=zeroValue253
 t212:=underlying269
 a212:=isAgg269
 z212:=sizeOf269
 v212:=zeroValue269
 t213:=underlying270
 a213:=isAgg270
 z213:=sizeOf270
 t232:=underlying281
 a232:=isAgg281
 z232:=sizeOf281
 v232:=zeroValue281
 t233:=underlying255
 a233:=isAgg255
 z233:=sizeOf255
 v233:=zeroValue255
 g17:=by kernel_rfl
 g18:=by kernel_rfl
 g19:=by kernel_rfl
 i0:=by kernel_rfl
 i2:=by kernel_rfl
 i3:=by kernel_rfl
 i4:=by kernel_rfl
 i5:=by kernel_rfl
 i9:=by kernel_rfl
 i20:=by kernel_rfl
 i37:=by kernel_rfl
 i46:=by kernel_rfl
 i51:=by kernel_rfl
 i53:=by kernel_rfl
 i171:=by kernel_rfl
 i173:=by kernel_rfl
 i212:=by kernel_rfl
 i232:=by kernel_rfl
 i233:=by kernel_rfl
 m17:=by kernel_rfl
 m18:=by kernel_rfl
 m19:=by kernel_rfl }
open Go.RowKit Go.Sort Go.Lib in
theorem Tryz.strconv_Itoa (n : Int) (h0 : -9223372036854775808 ≤ n) (h1 : n ≤ 9223372036854775807) (w : World) (htab : Lib.TabIs prog w "internal/strconv.uint64pow10" .u64 Lib.pow10Tab) :
  Calls prog 139 #[.int .i64 n] w fun e w'=>e=.returned (.string ⟨(Lib.itoa n).toArray⟩)/\∃k os,w'=grow (w.drewN k) os:=Any.strconv_Itoa Tryz.laysM171 n h0 h1 w htab
open Go.RowKit Go.Sort Go.Lib in
open Go.RowKit in
open Go.RowKit in
open Go.RowKit in
open Go.RowKit in
open Go.RowKit in
open Go.RowKit in
open Go.RowKit in
open Go.RowKit in
open Go.RowKit in
open Go.RowKit in
open Go.RowKit in
open Go.RowKit in
open Go.RowKit in
open Go.RowKit in
open Go.RowKit in
open Go.RowKit in
def Tryz.laysC172_ren:Go.Shelf.Ren:=⟨fun|172=>210|244=>229|245=>230|247=>244|279=>245|280=>246|281=>247|282=>248|287=>257|316=>258|171=>139|205=>259|321=>261|322=>262|243=>181|246=>214|283=>233|284=>234|285=>235|286=>236|129=>117|317=>250|318=>251|319=>252|320=>253|337=>260|338=>216|n=>n,fun|9=>9|3=>3|75=>215|76=>216|4=>4|5=>5|167=>261|37=>144|0=>0|85=>262|2=>2|168=>264|53=>148|175=>272|46=>109|210=>275|127=>241|145=>280|143=>278|21=>21|171=>251|173=>253|212=>269|51=>145|20=>20|213=>270|232=>281|233=>255|80=>168|n=>n,fun|15=>5|16=>6|17=>3|18=>7|19=>2|n=>n⟩
theorem Tryz.laysC172:Go.Proofs.LaysC.n172 prog Tryz.laysC172_ren:={
 mixed:=by kernel_rfl
 f129:=func117.trans (congrArg some (by kernel_rfl))
 f171:=func139.trans (congrArg some (by kernel_rfl))
 f172:=func210.trans (congrArg some (by kernel_rfl))
 f205:=func259.trans (congrArg some (by kernel_rfl))
 f243:=func181.trans (congrArg some (by kernel_rfl))
 f244:=func229.trans (congrArg some (by kernel_rfl))
 f245:=func230.trans (congrArg some (by kernel_rfl))
 f246:=func214.trans (congrArg some (by kernel_rfl))
 f247:=func244.trans (congrArg some (by kernel_rfl))
 f279:=func245.trans (congrArg some (by kernel_rfl))
 f280:=func246.trans (congrArg some (by kernel_rfl))
 f281:=func247.trans (congrArg some (by kernel_rfl))
 f282:=func248.trans (congrArg some (by kernel_rfl))
 f283:=func233.trans (congrArg some (by kernel_rfl))
 f284:=func234.trans (congrArg some (by kernel_rfl))
 f285:=func235.trans (congrArg some (by kernel_rfl))
 f286:=func236.trans (congrArg some (by kernel_rfl))
 f287:=func257.trans (congrArg some (by kernel_rfl))
 f316:=func258.trans (congrArg some (by kernel_rfl))
 f317:=func250.trans (congrArg some (by kernel_rfl))
 f318:=func251.trans (congrArg some (by kernel_rfl))
 f319:=func252.trans (congrArg some (by kernel_rfl))
 f320:=func253.trans (congrArg some (by kernel_rfl))
 f321:=func261.trans (congrArg some (by kernel_rfl))
 f322:=func262.trans (congrArg some (by kernel_rfl))
 f337:=func260.trans (congrArg some (by kernel_rfl))
 f338:=func216.trans (congrArg some (by kernel_rfl))
 t0:=underlying0
 a0:=isAgg0
 z0:=sizeOf0
 v0:=zeroValue0
 t2:=underlying2
 a2:=isAgg2
 z2:=sizeOf2
 v2:=zeroValue2
 t3:=underlying3
 a3:=isAgg3
 z3:=sizeOf3
 v3:=zeroValue3
 t4:=underlying4
 a4:=isAgg4
 z4:=sizeOf4
 v4:=zeroValue4
 t5:=underlying5
 a5:=isAgg5
 z5:=sizeOf5
 v5:=zeroValue5
 t9:=underlying9
 a9:=isAgg9
 z9:=sizeOf9
 v9:=zeroValue9
 t20:=underlying20
 a20:=isAgg20
 z20:=sizeOf20
 v20:=zeroValue20
 t21:=underlying21
 a21:=isAgg21
 z21:=sizeOf21
 v21:=zeroValue21
 t37:=underlying144
 a37:=isAgg144
 z37:=sizeOf144
 v37:=zeroValue144
 t46:=underlying109
 a46:=isAgg109
 z46:=sizeOf109
 v46:=zeroValue109
 t51:=underlying145
 a51:=isAgg145
 z51:=sizeOf145
 v51:=zeroValue145
 t53:=underlying148
 a53:=isAgg148
 z53:=sizeOf148
 v53:=zeroValue148
 t75:=underlying215
 a75:=isAgg215
 z75:=sizeOf215
 v75:=zeroValue215
 t76:=underlying216
 a76:=isAgg216
 z76:=sizeOf216
 v76:=zeroValue216
 t85:=underlying262
 a85:=isAgg262
 z85:=sizeOf262
 v85:=zeroValue262
 t127:=underlying241
 a127:=isAgg241
 z127:=sizeOf241
 v127:=zeroValue241
 t143:=underlying278
 a143:=isAgg278
 z143:=sizeOf278
 v143:=zeroValue278
 t145:=underlying280
 a145:=isAgg280
 z145:=sizeOf280
 v145:=zeroValue280
 t167:=underlying261
 a167:=isAgg261
 z167:=sizeOf261
 v167:=zeroValue261
 t168:=underlying264
 a168:=isAgg264
 z168:=sizeOf264
 v168:=zeroValue264
 t171:=underlying251
 a171:=isAgg251
 z171:=sizeOf251
 v171:=zeroValue251
 t173:=underlying253
 a173:=isAgg253
 z173:=sizeOf253
 v173:=zeroValue253
 t175:=underlying272
 a175:=isAgg272
 z175:=sizeOf272
 v175:=zeroValue272
 t210:=underlying275
 a210:=isAgg275
 z210:=sizeOf275
 v210:=zeroValue275
 t212:=underlying269
 a212:=isAgg269
 z212:=sizeOf269
 v212:=zeroValue269
 t213:=underlying270
 a213:=isAgg270
 z213:=sizeOf270
 t232:=underlying281
 a232:=isAgg281
 z232:=sizeOf281
 v232:=zeroValue281
 t233:=underlying255
 a233:=isAgg255
 z233:=sizeOf255
 v233:=zeroValue255
 g15:=by kernel_rfl
 g16:=by kernel_rfl
 g17:=by kernel_rfl
 g18:=by kernel_rfl
 g19:=by kernel_rfl
 t80:=underlying168
 a80:=isAgg168
 z80:=sizeOf168
 v80:=zeroValue168
 i0:=by kernel_rfl
 i2:=by kernel_rfl
 i3:=by kernel_rfl
 i4:=by kernel_rfl
 i5:=by kernel_rfl
 i9:=by kernel_rfl
 i20:=by kernel_rfl
 i21:=by kernel_rfl
 i37:=by kernel_rfl
 i46:=by kernel_rfl
 i51:=by kernel_rfl
 i53:=by kernel_rfl
 i75:=by kernel_rfl
 i76:=by kernel_rfl
 i80:=by kernel_rfl
 i85:=by kernel_rfl
 i127:=by kernel_rfl
 i143:=by kernel_rfl
 i145:=by kernel_rfl
 i167:=by kernel_rfl
 i168:=by kernel_rfl
 i171:=by kernel_rfl
 i173:=by kernel_rfl
 i175:=by kernel_rfl
 i210:=by kernel_rfl
 i212:=by kernel_rfl
 i232:=by kernel_rfl
 i233:=by kernel_rfl
 m15:=by kernel_rfl
 m16:=by kernel_rfl
 m17:=by kernel_rfl
 m18:=by kernel_rfl
 m19:=by kernel_rfl
 c0:=by kernel_rfl
 c2:=by kernel_rfl
 c3:=by kernel_rfl
 c4:=by kernel_rfl
 c5:=by kernel_rfl
 c9:=by kernel_rfl
 c20:=by kernel_rfl
 c21:=by kernel_rfl
 c37:=by kernel_rfl
 c46:=by kernel_rfl
 c51:=by kernel_rfl
 c53:=by kernel_rfl
 c75:=by kernel_rfl
 c76:=by kernel_rfl
 c80:=by kernel_rfl
 c85:=by kernel_rfl
 c127:=by kernel_rfl
 c143:=by kernel_rfl
 c145:=by kernel_rfl
 c167:=by kernel_rfl
 c168:=by kernel_rfl
 c171:=by kernel_rfl
 c173:=by kernel_rfl
 c175:=by kernel_rfl
 c210:=by kernel_rfl
 c212:=by kernel_rfl
 c213:=by kernel_rfl
 c232:=by kernel_rfl
 c233:=by kernel_rfl }
open Go.RowKit in
theorem Tryz.strconv_Atoi_ok(s:ByteArray)(hmax:s.size<=9223372036854775806)(v:Int)(h:Lib.atoiAll s.data.toList=.ok v)(w:World) :
  Calls prog 210 #[.string s] w fun e w'=>e=.returned (.tuple #[.int .i64 v,.nilIface])/\(w'=w\/∃t,w'=Lib.bytesWorld w 5 t):=Any.strconv_Atoi_ok Tryz.laysC172 s hmax v h w
open Go.RowKit in
open Go.RowKit in
open Go.RowKit in
theorem Tryz.strconv_Atoi_syntax_var (s : ByteArray) (hlim : s.size ≤ 281474976710656) (h : Lib.atoiAll s.data.toList = .syntax) (tp : TypeId) (p : Value) (w : World) (hvar : w.var? prog "strconv.ErrSyntax" = some #[.iface tp p]) :
  Calls prog 210 #[.string s] w fun e w'=>∃N,e=.returned (.tuple #[.int .i64 0,.iface 264 (.pointer (some ⟨N,0,none⟩))])/\w.heap.size<=N/\w'.heap[N]?=some (.cells #[.string ⟨#[65,116,111,105]⟩,.string s,.iface tp p] 275 (0,0))/\Below w.heap.size w w':=Any.strconv_Atoi_syntax_var Tryz.laysC172 s hlim h tp p w hvar
open Go.RowKit in
theorem Tryz.strconv_Atoi_range_var (s : ByteArray) (hlim : s.size ≤ 281474976710656) (h : Lib.atoiAll s.data.toList = .range) (tp : TypeId) (p : Value) (w : World) (hvar : w.var? prog "strconv.ErrRange" = some #[.iface tp p]) :
  Calls prog 210 #[.string s] w fun e w'=>∃N,e=.returned (.tuple #[.int .i64 (Lib.atoiSat s.data.toList),.iface 264 (.pointer (some ⟨N,0,none⟩))])/\w.heap.size<=N/\w'.heap[N]?=some (.cells #[.string ⟨#[65,116,111,105]⟩,.string s,.iface tp p] 275 (0,0))/\Below w.heap.size w w':=Any.strconv_Atoi_range_var Tryz.laysC172 s hlim h tp p w hvar
open Go.RowKit Go.Lib in
open Go.RowKit Go.Lib in
def Tryz.lays264_ren:Go.Shelf.Ren:=⟨fun|264=>106|n=>n,fun|53=>148|46=>109|n=>n,fun|n=>n⟩
theorem Tryz.lays264:Go.Proofs.Lays.n264 prog Tryz.lays264_ren:={
 mixed:=by kernel_rfl
 f264:=func106.trans (congrArg some (by kernel_rfl))
 t46:=underlying109
 a46:=isAgg109
 z46:=sizeOf109
 v46:=zeroValue109
 t53:=underlying148
 a53:=isAgg148
 z53:=sizeOf148
 v53:=zeroValue148 }
open Go.RowKit Go.Lib in
theorem Tryz.bits_Mul64(x y:Nat)(hx:x < 18446744073709551616)(hy:y < 18446744073709551616)(w:World) :
  Calls prog 106 #[.int .u64 x,.int .u64 y] w fun e w'=>e=.returned (.tuple #[.int .u64 ((x*y / 18446744073709551616:Nat):Int),.int .u64 ((x*y % 18446744073709551616:Nat):Int)])/\w'=w:=Any.bits_Mul64 Tryz.lays264 x y hx hy w
def Tryz.lays212_ren:Go.Shelf.Ren:=⟨fun|212=>68|263=>105|264=>106|n=>n,fun|46=>109|51=>145|146=>146|53=>148|148=>149|n=>n,fun|n=>n⟩
theorem Tryz.lays212:Go.Proofs.Lays.n212 prog Tryz.lays212_ren:={
 mixed:=by kernel_rfl
 f212:=func68.trans (congrArg some (by kernel_rfl))
 f263:=func105.trans (congrArg some (by kernel_rfl))
 f264:=func106.trans (congrArg some (by kernel_rfl))
 t46:=underlying109
 a46:=isAgg109
 z46:=sizeOf109
 v46:=zeroValue109
 t51:=underlying145
 a51:=isAgg145
 z51:=sizeOf145
 v51:=zeroValue145
 t53:=underlying148
 a53:=isAgg148
 z53:=sizeOf148
 v53:=zeroValue148
 t146:=underlying146
 a146:=isAgg146
 z146:=sizeOf146
 v146:=zeroValue146
 t148:=underlying149
 a148:=isAgg149
 z148:=sizeOf149
 v148:=zeroValue149 }
open Go.RowKit Go.Lib in
theorem Tryz.bits_Mul(x y:Nat)(hx:x < 18446744073709551616)(hy:y < 18446744073709551616)(w:World) :
  Calls prog 68 #[.int .u64 x,.int .u64 y] w fun e w'=>e=.returned (.tuple #[.int .u64 ((x*y / 18446744073709551616:Nat):Int),.int .u64 ((x*y % 18446744073709551616:Nat):Int)])/\w'=w:=Any.bits_Mul Tryz.lays212 x y hx hy w
open Go.Lib in
open Go.Lib in
def Tryz.lays107_ren:Go.Shelf.Ren:=⟨fun|107=>38|108=>69|n=>n,fun|28=>24|3=>3|4=>4|0=>0|n=>n,fun|n=>n⟩
theorem Tryz.lays107:Go.Proofs.Lays.n107 prog Tryz.lays107_ren:={
 mixed:=by kernel_rfl
 f107:=func38.trans (congrArg some (by kernel_rfl))
 f108:=func69.trans (congrArg some (by kernel_rfl))
 t0:=underlying0
 a0:=isAgg0
 z0:=sizeOf0
 v0:=zeroValue0
 t3:=underlying3
 a3:=isAgg3
 z3:=sizeOf3
 v3:=zeroValue3
 t4:=underlying4
 a4:=isAgg4
 z4:=sizeOf4
 v4:=zeroValue4
 t28:=underlying24
 a28:=isAgg24
 z28:=sizeOf24
 v28:=zeroValue24 }
open Go.Lib in
theorem Tryz.slices_Contains_int(b off n c:Nat)(zs:List Int)(x:Int)(w:World)(hz:n<=zs.length)(hbig:n<=9223372036854775807)(hc:∀j,j < zs.length->w.cell? ⟨b,off+j,none⟩=some (.int .i64 (zs.getD j 0))) :
  Calls prog 38 #[.slice (some ⟨b,off,none⟩) n c,.int .i64 x] w fun e w'=>e=.returned (.bool ((zs.take n).contains x))/\w'=w:=Any.slices_Contains_int Tryz.lays107 b off n c zs x w hz hbig hc
open Go.Lib in
def Tryz.laysNm215_ren:Go.Shelf.Ren:=⟨fun|15=>54|n=>n,fun|22=>24|3=>3|4=>4|n=>n,fun|n=>n⟩
theorem Tryz.laysNm215:Go.Proofs.Lays2.n15 prog Tryz.laysNm215_ren:={
 mixed:=by kernel_rfl
 f15:=func54.trans (congrArg some (by kernel_rfl))
 t3:=underlying3
 a3:=isAgg3
 z3:=sizeOf3
 v3:=zeroValue3
 t4:=underlying4
 a4:=isAgg4
 z4:=sizeOf4
 v4:=zeroValue4
 t22:=underlying24
 a22:=isAgg24
 z22:=sizeOf24
 v22:=zeroValue24
 i3:=by kernel_rfl }
open Go.RowKit Go.Lib in
theorem Tryz.slices_Clone_int(b off n c:Nat)(zs:List Int)(w:World)(hz:n<=zs.length)(hbig:n*8<=140737488355328)(hc:∀j,j < zs.length->w.cell? ⟨b,off+j,none⟩=some (.int .i64 (zs.getD j 0))) :
  Calls prog 54 #[.slice (some ⟨b,off,none⟩) n c] w fun e w'=>∃v',e=.returned v'/\w'.ownsRow w.heap.size 3 1 v' n ((zs.take n).map (Value.int .i64))/\v'≠.slice none 0 0/\Below w.heap.size w w':=Any.slices_Clone_int Tryz.laysNm215 b off n c zs w hz hbig hc
open Go.RowKit Go.Lib in
theorem Tryz.slices_Clone_int_nil(n c:Nat)(w:World) :
  Calls prog 54 #[.slice none n c] w fun e w'=>e=.returned (.slice none 0 0)/\w'=w:=Any.slices_Clone_int_nil Tryz.laysNm215 n c w
open Go.RowKit Go.Lib in
theorem Tryz.slices_Clone_int_zero(a:Addr)(c:Nat)(w:World) :
  Calls prog 54 #[.slice (some a) 0 c] w fun e w'=>∃v',e=.returned v'/\w'.ownsRow w.heap.size 3 1 v' 0 []/\v'≠.slice none 0 0/\Below w.heap.size w w':=Any.slices_Clone_int_zero Tryz.laysNm215 a c w
end Go.Proofs
