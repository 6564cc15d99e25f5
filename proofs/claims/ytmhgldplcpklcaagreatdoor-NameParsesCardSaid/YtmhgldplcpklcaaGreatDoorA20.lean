/- any value's DN and any DN's value are the document's: the law by that interpreter (part 20): what the program's functions answer, or plain laws of it; no conditions. -/
import Derived.Shelf.Unicode.ValidAny
import Derived.Shelf.Strings.Builder1
import Derived.Shelf.Strings.Builder2
import Derived.Shelf.Strings.OnBuilder
import Derived.Shelf.Small.Utf8
import Derived.Shelf.Small.Strs
import Derived.Shelf.Strings.BuilderF
import Derived.Shelf.Strings.BuilderK
import Derived.Shelf.Utf8.RuneCount
import Derived.Shelf.Strings.Builder2Cap
import Derived.Shelf.Strconv.Atoi
import Derived.Shelf.Strconv.Itoa0
import Derived.Shelf.Strconv.Itoa1
import Derived.Shelf.LaysM
import Derived.Shelf.Strconv.Itoa2
import Derived.Shelf.Strconv.Itoa3
import Derived.Shelf.Strconv.AtoiErrFast
import Derived.Shelf.Strconv.ParseIntEmpty
import Derived.Shelf.Strconv.AtoiFail
import Derived.Shelf.Strconv.Clone
import Derived.Shelf.Strconv.SyntaxError
import Derived.Shelf.LaysC
import Derived.Shelf.Strconv.ToError
import Derived.Shelf.Strconv.AtoiErr
import Derived.Shelf.Strconv.ErrVar
import Derived.Shelf.Strconv.Lower
import Derived.Shelf.Strconv.ParseUint10
import Derived.Shelf.Strconv.ParseUint10Empty
import Derived.Shelf.Strconv.ParseUint10Any
import Derived.Shelf.Strconv.ParseInt10
import Derived.Shelf.Strconv.AtoiLong
import Derived.Shelf.Strconv.AtoiInnerAll
import Derived.Shelf.Strconv.RangeError
import Derived.Shelf.Strconv.ToErrorRange
import Derived.Shelf.Strconv.AtoiAll
import Derived.Shelf.Strconv.ErrVarAll
import Derived.Shelf.Strconv.ParseUintEmpty
import Derived.Shelf.Strconv.ParseUint10b64
import Derived.Shelf.Strconv.ParseUint10b32
import Derived.Shelf.Strconv.ParseUint10b16
import Derived.Shelf.Strconv.ParseUint10b8
import Derived.Shelf.Strconv.ParseUint10At
import Derived.Shelf.Strconv.ParseInt10At64
import Derived.Shelf.Strconv.ParseInt10At32
import Derived.Shelf.Strconv.ParseInt10At16
import Derived.Shelf.Strconv.ParseInt10At8
import Derived.Shelf.Strconv.ParseInt10All
import Derived.Shelf.Strings.Search1
import Derived.Shelf.Strings.Search2
import Derived.Shelf.Strings.Search3
import Derived.Shelf.Strings.Cut
import Derived.Shelf.Strings.Count
import Derived.Shelf.Strings.Shaped
import Derived.Shelf.GgClosure.StringsIndexFunc
import Derived.Shelf.Strings.Prefix
import Derived.Shelf.Strings.Split
import Derived.Shelf.Strings.SplitShaped
import Derived.Shelf.Unicode.Decode
import Derived.Shelf.Strings.Runes
import Derived.Shelf.Strings.RuneCount
import Derived.Shelf.Strings.IndexAny
import Derived.Shelf.Strings.AsciiSet
import Derived.Shelf.Strings.IndexAnyAll
import Derived.Shelf.Strings.Explode
import Derived.Shelf.Unicode.DecodeSlow
import Derived.Shelf.Unicode.DecodeAny
import Derived.Shelf.Strings.BuilderCap
import Derived.Shelf.Bytes.SlIndexAt
import Derived.Shelf.Bytes.SlSearch0
import Derived.Ground.SlbNamesProg
import Derived.Shelf.Bytes.SlJoin
import Derived.Shelf.Bytes.Small
import Derived.Shelf.Bytes.IndexByte
import Derived.Test.YtmhgldplcpklcaaGreatDoorProg
set_option linter.all false
namespace Go.Proofs
open Go.Shelf
def Tryz.lays156_ren:Go.Shelf.Ren:=⟨fun| 156=>35| 165=>57| 166=>58| 169=>59| 240=>81| 241=>82| 276=>111| 277=>99|n=>n,fun| 31=>76| 9=>9| 3=>3| 4=>4| 0=>0| 20=>20| 72=>104| 76=>84| 70=>102| 37=>22| 75=>83| 127=>131| 164=>156| 5=>5| 80=>106|n=>n,fun|n=>n⟩
theorem Tryz.lays156:Go.Proofs.Lays.n156 Tryz.prog Tryz.lays156_ren:= {
  mixed:=by kernel_rfl
  f156:=Tryz.func35.trans (congrArg some (by kernel_rfl))
  f165:=Tryz.func57.trans (congrArg some (by kernel_rfl))
  f166:=Tryz.func58.trans (congrArg some (by kernel_rfl))
  f169:=Tryz.func59.trans (congrArg some (by kernel_rfl))
  f240:=Tryz.func81.trans (congrArg some (by kernel_rfl))
  f241:=Tryz.func82.trans (congrArg some (by kernel_rfl))
  f276:=Tryz.func111.trans (congrArg some (by kernel_rfl))
  f277:=Tryz.func99.trans (congrArg some (by kernel_rfl))
  t0:=Tryz.underlying0
  a0:=Tryz.isAgg0
  z0:=Tryz.sizeOf0
  v0:=Tryz.zeroValue0
  t3:=Tryz.underlying3
  a3:=Tryz.isAgg3
  z3:=Tryz.sizeOf3
  v3:=Tryz.zeroValue3
  t4:=Tryz.underlying4
  a4:=Tryz.isAgg4
  z4:=Tryz.sizeOf4
  v4:=Tryz.zeroValue4
  t9:=Tryz.underlying9
  a9:=Tryz.isAgg9
  z9:=Tryz.sizeOf9
  v9:=Tryz.zeroValue9
  t20:=Tryz.underlying20
  a20:=Tryz.isAgg20
  z20:=Tryz.sizeOf20
  v20:=Tryz.zeroValue20
  t31:=Tryz.underlying76
  a31:=Tryz.isAgg76
  z31:=Tryz.sizeOf76
  v31:=Tryz.zeroValue76
  t37:=Tryz.underlying22
  a37:=Tryz.isAgg22
  z37:=Tryz.sizeOf22
  v37:=Tryz.zeroValue22
  t70:=Tryz.underlying102
  a70:=Tryz.isAgg102
  z70:=Tryz.sizeOf102
  v70:=Tryz.zeroValue102
  t72:=Tryz.underlying104
  a72:=Tryz.isAgg104
  z72:=Tryz.sizeOf104
  v72:=Tryz.zeroValue104
  t75:=Tryz.underlying83
  a75:=Tryz.isAgg83
  z75:=Tryz.sizeOf83
  v75:=Tryz.zeroValue83
  t76:=Tryz.underlying84
  a76:=Tryz.isAgg84
  z76:=Tryz.sizeOf84
  v76:=Tryz.zeroValue84
  t127:=Tryz.underlying131
  a127:=Tryz.isAgg131
  z127:=Tryz.sizeOf131
  v127:=Tryz.zeroValue131
  t164:=Tryz.underlying156
  a164:=Tryz.isAgg156
  z164:=Tryz.sizeOf156
  v164:=Tryz.zeroValue156 }
theorem Tryz.Builder_Extra_156:Builder.Extra Tryz.prog Tryz.lays156_ren:= {
  sizeBuilder:=by kernel_rfl
  liesBuilder:=by kernel_rfl
  t5:=Tryz.underlying5
  a5:=Tryz.isAgg5
  z5:=Tryz.sizeOf5
  v5:=Tryz.zeroValue5
  infoByte:=by kernel_rfl
  cellsByte:=by kernel_rfl
  sizeByte:=by kernel_rfl
  neB5:=by decide }
open Go.RowKit in
theorem Tryz.strings_Join_none (a:Option Addr) (c:Nat) (sep:ByteArray) (w:World):
  Calls Tryz.prog 35 #[.slice a 0 c,.string sep] w fun e w'=>e= .returned (.string ⟨#[]⟩)∧w'=w:=Any.strings_Join_none Tryz.lays156 Tryz.Builder_Extra_156 a c sep w
open Go.RowKit in
theorem Tryz.strings_Join (bk o c:Nat) (xs:List ByteArray) (sep:ByteArray) (w:World) (hcells:∀(j:Nat) x,xs[j]? = some x→w.cell? ⟨bk,o+j,none⟩=some (.string x)) (hbk:bk<w.heap.size) (hN:xs.length≤140737488355328) (hcap:xs.length≤c) (hlen:(Lib.join (xs.map (·.data.toList)) sep.data.toList).length≤140737488355328):
  Calls Tryz.prog 35 #[.slice (some ⟨bk,o,none⟩) xs.length c,.string sep] w fun e w'=>e= .returned (.string ⟨(Lib.join (xs.map (·.data.toList)) sep.data.toList).toArray⟩)∧Below w.heap.size w w':=Any.strings_Join Tryz.lays156 Tryz.Builder_Extra_156 bk o c xs sep w hcells hbk hN hcap hlen
def Tryz.laysM171_ren:Go.Shelf.Ren:=⟨fun| 171=>34| 243=>56| 246=>80| 283=>107| 284=>108| 285=>109| 286=>110| 129=>138| 317=>137| 318=>139| 319=>140| 320=>141| 337=>151| 338=>152|n=>n,fun| 3=>3| 9=>9| 2=>2| 4=>4| 171=>151| 0=>0| 53=>148| 37=>22| 5=>5| 173=>154| 212=>170| 51=>171| 20=>20| 213=>172| 46=>77| 232=>188| 233=>189|n=>n,fun| 17=>5| 18=>6| 19=>7|n=>n⟩
theorem Tryz.laysM171:Go.Proofs.LaysM.n171 Tryz.prog Tryz.laysM171_ren:= {
  mixed:=by kernel_rfl
  f129:=Tryz.func138.trans (congrArg some (by kernel_rfl))
  f171:=Tryz.func34.trans (congrArg some (by kernel_rfl))
  f243:=Tryz.func56.trans (congrArg some (by kernel_rfl))
  f246:=Tryz.func80.trans (congrArg some (by kernel_rfl))
  f283:=Tryz.func107.trans (congrArg some (by kernel_rfl))
  f284:=Tryz.func108.trans (congrArg some (by kernel_rfl))
  f285:=Tryz.func109.trans (congrArg some (by kernel_rfl))
  f286:=Tryz.func110.trans (congrArg some (by kernel_rfl))
  f317:=Tryz.func137.trans (congrArg some (by kernel_rfl))
  f318:=Tryz.func139.trans (congrArg some (by kernel_rfl))
  f319:=Tryz.func140.trans (congrArg some (by kernel_rfl))
  f320:=Tryz.func141.trans (congrArg some (by kernel_rfl))
  f337:=Tryz.func151.trans (congrArg some (by kernel_rfl))
  f338:=Tryz.func152.trans (congrArg some (by kernel_rfl))
  t0:=Tryz.underlying0
  a0:=Tryz.isAgg0
  z0:=Tryz.sizeOf0
  v0:=Tryz.zeroValue0
  t2:=Tryz.underlying2
  a2:=Tryz.isAgg2
  z2:=Tryz.sizeOf2
  v2:=Tryz.zeroValue2
  t3:=Tryz.underlying3
  a3:=Tryz.isAgg3
  z3:=Tryz.sizeOf3
  v3:=Tryz.zeroValue3
  t4:=Tryz.underlying4
  a4:=Tryz.isAgg4
  z4:=Tryz.sizeOf4
  v4:=Tryz.zeroValue4
  t5:=Tryz.underlying5
  a5:=Tryz.isAgg5
  z5:=Tryz.sizeOf5
  v5:=Tryz.zeroValue5
  t9:=Tryz.underlying9
  a9:=Tryz.isAgg9
  z9:=Tryz.sizeOf9
  v9:=Tryz.zeroValue9
  t20:=Tryz.underlying20
  a20:=Tryz.isAgg20
  z20:=Tryz.sizeOf20
  v20:=Tryz.zeroValue20
  t37:=Tryz.underlying22
  a37:=Tryz.isAgg22
  z37:=Tryz.sizeOf22
  v37:=Tryz.zeroValue22
  t46:=Tryz.underlying77
  a46:=Tryz.isAgg77
  z46:=Tryz.sizeOf77
  v46:=Tryz.zeroValue77
  t51:=Tryz.underlying171
  a51:=Tryz.isAgg171
  z51:=Tryz.sizeOf171
  v51:=Tryz.zeroValue171
  t53:=Tryz.underlying148
  a53:=Tryz.isAgg148
  z53:=Tryz.sizeOf148
  v53:=Tryz.zeroValue148
  t171:=Tryz.underlying151
  a171:=Tryz.isAgg151
  z171:=Tryz.sizeOf151
  v171:=Tryz.zeroValue151
  t173:=Tryz.underlying154
  a173:=Tryz.isAgg154
  z173:=Tryz.sizeOf154
  v173:=Tryz.zeroValue154
  t212:=Tryz.underlying170
  a212:=Tryz.isAgg170
  z212:=Tryz.sizeOf170
  v212:=Tryz.zeroValue170
  t213:=Tryz.underlying172
  a213:=Tryz.isAgg172
  z213:=Tryz.sizeOf172
  t232:=Tryz.underlying188
  a232:=Tryz.isAgg188
  z232:=Tryz.sizeOf188
  v232:=Tryz.zeroValue188
  t233:=Tryz.underlying189
  a233:=Tryz.isAgg189
  z233:=Tryz.sizeOf189
  v233:=Tryz.zeroValue189
  g17:=by kernel_rfl
  g18:=by kernel_rfl
  g19:=by kernel_rfl
  i0:=by kernel_rfl
  i2:=by kernel_rfl
  i3:=by kernel_rfl
  i4:=by kernel_rfl
  i5:=by kernel_rfl
  i9:=by kernel_rfl
  i20:=by kernel_rfl
  i37:=by kernel_rfl
  i46:=by kernel_rfl
  i51:=by kernel_rfl
  i53:=by kernel_rfl
  i171:=by kernel_rfl
  i173:=by kernel_rfl
  i212:=by kernel_rfl
  i232:=by kernel_rfl
  i233:=by kernel_rfl
  m17:=by kernel_rfl
  m18:=by kernel_rfl
  m19:=by kernel_rfl }
open Go.RowKit Go.Sort Go.Lib in
theorem Tryz.strconv_Itoa (n:Int) (h0: -9223372036854775808≤n) (h1:n≤9223372036854775807) (w:World) (htab:Lib.TabIs Tryz.prog w "internal/strconv.uint64pow10" .u64 Lib.pow10Tab):
  Calls Tryz.prog 34 #[.int .i64 n] w fun e w'=>e= .returned (.string ⟨(Lib.itoa n).toArray⟩)∧∃k os,w'=grow (w.drewN k) os:=Any.strconv_Itoa Tryz.laysM171 n h0 h1 w htab
def Tryz.laysC172_ren:Go.Shelf.Ren:=⟨fun| 172=>36| 244=>60| 245=>61| 247=>83| 279=>84| 280=>85| 281=>86| 282=>87| 287=>112| 316=>113| 171=>34| 205=>114| 321=>142| 322=>143| 243=>56| 246=>80| 283=>107| 284=>108| 285=>109| 286=>110| 129=>138| 317=>137| 318=>139| 319=>140| 320=>141| 337=>151| 338=>152|n=>n,fun| 9=>9| 3=>3| 75=>83| 76=>84| 4=>4| 5=>5| 167=>132| 37=>22| 0=>0| 85=>133| 2=>2| 168=>135| 53=>148| 175=>158| 46=>77| 210=>161| 127=>131| 145=>177| 143=>175| 21=>21| 171=>151| 173=>154| 212=>170| 51=>171| 20=>20| 213=>172| 232=>188| 233=>189| 80=>106|n=>n,fun| 15=>2| 16=>3| 17=>5| 18=>6| 19=>7|n=>n⟩
theorem Tryz.laysC172:Go.Proofs.LaysC.n172 Tryz.prog Tryz.laysC172_ren:= {
  mixed:=by kernel_rfl
  f129:=Tryz.func138.trans (congrArg some (by kernel_rfl))
  f171:=Tryz.func34.trans (congrArg some (by kernel_rfl))
  f172:=Tryz.func36.trans (congrArg some (by kernel_rfl))
  f205:=Tryz.func114.trans (congrArg some (by kernel_rfl))
  f243:=Tryz.func56.trans (congrArg some (by kernel_rfl))
  f244:=Tryz.func60.trans (congrArg some (by kernel_rfl))
  f245:=Tryz.func61.trans (congrArg some (by kernel_rfl))
  f246:=Tryz.func80.trans (congrArg some (by kernel_rfl))
  f247:=Tryz.func83.trans (congrArg some (by kernel_rfl))
  f279:=Tryz.func84.trans (congrArg some (by kernel_rfl))
  f280:=Tryz.func85.trans (congrArg some (by kernel_rfl))
  f281:=Tryz.func86.trans (congrArg some (by kernel_rfl))
  f282:=Tryz.func87.trans (congrArg some (by kernel_rfl))
  f283:=Tryz.func107.trans (congrArg some (by kernel_rfl))
  f284:=Tryz.func108.trans (congrArg some (by kernel_rfl))
  f285:=Tryz.func109.trans (congrArg some (by kernel_rfl))
  f286:=Tryz.func110.trans (congrArg some (by kernel_rfl))
  f287:=Tryz.func112.trans (congrArg some (by kernel_rfl))
  f316:=Tryz.func113.trans (congrArg some (by kernel_rfl))
  f317:=Tryz.func137.trans (congrArg some (by kernel_rfl))
  f318:=Tryz.func139.trans (congrArg some (by kernel_rfl))
  f319:=Tryz.func140.trans (congrArg some (by kernel_rfl))
  f320:=Tryz.func141.trans (congrArg some (by kernel_rfl))
  f321:=Tryz.func142.trans (congrArg some (by kernel_rfl))
  f322:=Tryz.func143.trans (congrArg some (by kernel_rfl))
  f337:=Tryz.func151.trans (congrArg some (by kernel_rfl))
  f338:=Tryz.func152.trans (congrArg some (by kernel_rfl))
  t0:=Tryz.underlying0
  a0:=Tryz.isAgg0
  z0:=Tryz.sizeOf0
  v0:=Tryz.zeroValue0
  t2:=Tryz.underlying2
  a2:=Tryz.isAgg2
  z2:=Tryz.sizeOf2
  v2:=Tryz.zeroValue2
  t3:=Tryz.underlying3
  a3:=Tryz.isAgg3
  z3:=Tryz.sizeOf3
  v3:=Tryz.zeroValue3
  t4:=Tryz.underlying4
  a4:=Tryz.isAgg4
  z4:=Tryz.sizeOf4
  v4:=Tryz.zeroValue4
  t5:=Tryz.underlying5
  a5:=Tryz.isAgg5
  z5:=Tryz.sizeOf5
  v5:=Tryz.zeroValue5
  t9:=Tryz.underlying9
  a9:=Tryz.isAgg9
  z9:=Tryz.sizeOf9
  v9:=Tryz.zeroValue9
  t20:=Tryz.underlying20
  a20:=Tryz.isAgg20
  z20:=Tryz.sizeOf20
  v20:=Tryz.zeroValue20
  t21:=Tryz.underlying21
  a21:=Tryz.isAgg21
  z21:=Tryz.sizeOf21
  v21:=Tryz.zeroValue21
  t37:=Tryz.underlying22
  a37:=Tryz.isAgg22
  z37:=Tryz.sizeOf22
  v37:=Tryz.zeroValue22
  t46:=Tryz.underlying77
  a46:=Tryz.isAgg77
  z46:=Tryz.sizeOf77
  v46:=Tryz.zeroValue77
  t51:=Tryz.underlying171
  a51:=Tryz.isAgg171
  z51:=Tryz.sizeOf171
  v51:=Tryz.zeroValue171
  t53:=Tryz.underlying148
  a53:=Tryz.isAgg148
  z53:=Tryz.sizeOf148
  v53:=Tryz.zeroValue148
  t75:=Tryz.underlying83
  a75:=Tryz.isAgg83
  z75:=Tryz.sizeOf83
  v75:=Tryz.zeroValue83
  t76:=Tryz.underlying84
  a76:=Tryz.isAgg84
  z76:=Tryz.sizeOf84
  v76:=Tryz.zeroValue84
  t85:=Tryz.underlying133
  a85:=Tryz.isAgg133
  z85:=Tryz.sizeOf133
  v85:=Tryz.zeroValue133
  t127:=Tryz.underlying131
  a127:=Tryz.isAgg131
  z127:=Tryz.sizeOf131
  v127:=Tryz.zeroValue131
  t143:=Tryz.underlying175
  a143:=Tryz.isAgg175
  z143:=Tryz.sizeOf175
  v143:=Tryz.zeroValue175
  t145:=Tryz.underlying177
  a145:=Tryz.isAgg177
  z145:=Tryz.sizeOf177
  v145:=Tryz.zeroValue177
  t167:=Tryz.underlying132
  a167:=Tryz.isAgg132
  z167:=Tryz.sizeOf132
  v167:=Tryz.zeroValue132
  t168:=Tryz.underlying135
  a168:=Tryz.isAgg135
  z168:=Tryz.sizeOf135
  v168:=Tryz.zeroValue135
  t171:=Tryz.underlying151
  a171:=Tryz.isAgg151
  z171:=Tryz.sizeOf151
  v171:=Tryz.zeroValue151
  t173:=Tryz.underlying154
  a173:=Tryz.isAgg154
  z173:=Tryz.sizeOf154
  v173:=Tryz.zeroValue154
  t175:=Tryz.underlying158
  a175:=Tryz.isAgg158
  z175:=Tryz.sizeOf158
  v175:=Tryz.zeroValue158
  t210:=Tryz.underlying161
  a210:=Tryz.isAgg161
  z210:=Tryz.sizeOf161
  v210:=Tryz.zeroValue161
  t212:=Tryz.underlying170
  a212:=Tryz.isAgg170
  z212:=Tryz.sizeOf170
  v212:=Tryz.zeroValue170
  t213:=Tryz.underlying172
  a213:=Tryz.isAgg172
  z213:=Tryz.sizeOf172
  t232:=Tryz.underlying188
  a232:=Tryz.isAgg188
  z232:=Tryz.sizeOf188
  v232:=Tryz.zeroValue188
  t233:=Tryz.underlying189
  a233:=Tryz.isAgg189
  z233:=Tryz.sizeOf189
  v233:=Tryz.zeroValue189
  g15:=by kernel_rfl
  g16:=by kernel_rfl
  g17:=by kernel_rfl
  g18:=by kernel_rfl
  g19:=by kernel_rfl
  t80:=Tryz.underlying106
  a80:=Tryz.isAgg106
  z80:=Tryz.sizeOf106
  v80:=Tryz.zeroValue106
  i0:=by kernel_rfl
  i2:=by kernel_rfl
  i3:=by kernel_rfl
  i4:=by kernel_rfl
  i5:=by kernel_rfl
  i9:=by kernel_rfl
  i20:=by kernel_rfl
  i21:=by kernel_rfl
  i37:=by kernel_rfl
  i46:=by kernel_rfl
  i51:=by kernel_rfl
  i53:=by kernel_rfl
  i75:=by kernel_rfl
  i76:=by kernel_rfl
  i80:=by kernel_rfl
  i85:=by kernel_rfl
  i127:=by kernel_rfl
  i143:=by kernel_rfl
  i145:=by kernel_rfl
  i167:=by kernel_rfl
  i168:=by kernel_rfl
  i171:=by kernel_rfl
  i173:=by kernel_rfl
  i175:=by kernel_rfl
  i210:=by kernel_rfl
  i212:=by kernel_rfl
  i232:=by kernel_rfl
  i233:=by kernel_rfl
  m15:=by kernel_rfl
  m16:=by kernel_rfl
  m17:=by kernel_rfl
  m18:=by kernel_rfl
  m19:=by kernel_rfl
  c0:=by kernel_rfl
  c2:=by kernel_rfl
  c3:=by kernel_rfl
  c4:=by kernel_rfl
  c5:=by kernel_rfl
  c9:=by kernel_rfl
  c20:=by kernel_rfl
  c21:=by kernel_rfl
  c37:=by kernel_rfl
  c46:=by kernel_rfl
  c51:=by kernel_rfl
  c53:=by kernel_rfl
  c75:=by kernel_rfl
  c76:=by kernel_rfl
  c80:=by kernel_rfl
  c85:=by kernel_rfl
  c127:=by kernel_rfl
  c143:=by kernel_rfl
  c145:=by kernel_rfl
  c167:=by kernel_rfl
  c168:=by kernel_rfl
  c171:=by kernel_rfl
  c173:=by kernel_rfl
  c175:=by kernel_rfl
  c210:=by kernel_rfl
  c212:=by kernel_rfl
  c213:=by kernel_rfl
  c232:=by kernel_rfl
  c233:=by kernel_rfl }
open Go.RowKit in
theorem Tryz.strconv_Atoi_ok (s:ByteArray) (hmax:s.size≤9223372036854775806) (v:Int) (h:Lib.atoiAll s.data.toList= .ok v) (w:World):
  Calls Tryz.prog 36 #[.string s] w fun e w'=>e= .returned (.tuple #[.int .i64 v,.nilIface])∧(w'=w∨∃t,w'=Lib.bytesWorld w 5 t):=Any.strconv_Atoi_ok Tryz.laysC172 s hmax v h w
open Go.RowKit in
theorem Tryz.strconv_Atoi_syntax (s:ByteArray) (hlim:s.size≤281474976710656) (h:Lib.atoiAll s.data.toList=Lib.atoiAll []) (ev:Value) (w:World) (hv:w.cell? ⟨2,0,none⟩=some ev) (hev:ev= .nilIface∨∃te pe,ev= .iface te pe):
  Calls Tryz.prog 36 #[.string s] w fun e w'=>∃N,e= .returned (.tuple #[.int .i64 (0),.iface 135 (.pointer (some ⟨N,0,none⟩))])∧w.heap.size≤N∧w'.heap[N]? = some (.cells #[.string ⟨#[65,116,111,105]⟩,.string s,ev] 161 (0,0))∧Below w.heap.size w w':=Any.strconv_Atoi_syntax Tryz.laysC172 s hlim h ev w hv hev
open Go.RowKit in
theorem Tryz.strconv_Atoi_range (s:ByteArray) (hlim:s.size≤281474976710656) (h:Lib.atoiAll s.data.toList= .range) (ev:Value) (w:World) (hv:w.cell? ⟨3,0,none⟩=some ev) (hev:ev= .nilIface∨∃te pe,ev= .iface te pe):
  Calls Tryz.prog 36 #[.string s] w fun e w'=>∃N,e= .returned (.tuple #[.int .i64 (Lib.atoiSat s.data.toList),.iface 135 (.pointer (some ⟨N,0,none⟩))])∧w.heap.size≤N∧w'.heap[N]? = some (.cells #[.string ⟨#[65,116,111,105]⟩,.string s,ev] 161 (0,0))∧Below w.heap.size w w':=Any.strconv_Atoi_range Tryz.laysC172 s hlim h ev w hv hev
def Tryz.lays146_ren:Go.Shelf.Ren:=⟨fun| 146=>53| 221=>79| 268=>104| 138=>105| 143=>106| 195=>134| 197=>135| 218=>136| 219=>92| 260=>150| 217=>116| 225=>96| 224=>95| 267=>117| 266=>144| 314=>145|n=>n,fun| 9=>9| 31=>76| 3=>3| 4=>4| 0=>0| 105=>167| 21=>21| 5=>5| 46=>77| 119=>122| 139=>125| 138=>124| 146=>178| 51=>171|n=>n,fun| 1=>4| 3=>0| 4=>1|n=>n⟩
theorem Tryz.lays146:Go.Proofs.Lays.n146 Tryz.prog Tryz.lays146_ren:= {
  mixed:=by kernel_rfl
  f138:=Tryz.func105.trans (congrArg some (by kernel_rfl))
  f143:=Tryz.func106.trans (congrArg some (by kernel_rfl))
  f146:=Tryz.func53.trans (congrArg some (by kernel_rfl))
  f195:=Tryz.func134.trans (congrArg some (by kernel_rfl))
  f197:=Tryz.func135.trans (congrArg some (by kernel_rfl))
  f217:=Tryz.func116.trans (congrArg some (by kernel_rfl))
  f218:=Tryz.func136.trans (congrArg some (by kernel_rfl))
  f219:=Tryz.func92.trans (congrArg some (by kernel_rfl))
  f221:=Tryz.func79.trans (congrArg some (by kernel_rfl))
  f224:=Tryz.func95.trans (congrArg some (by kernel_rfl))
  f225:=Tryz.func96.trans (congrArg some (by kernel_rfl))
  f260:=Tryz.func150.trans (congrArg some (by kernel_rfl))
  f266:=Tryz.func144.trans (congrArg some (by kernel_rfl))
  f267:=Tryz.func117.trans (congrArg some (by kernel_rfl))
  f268:=Tryz.func104.trans (congrArg some (by kernel_rfl))
  f314:=Tryz.func145.trans (congrArg some (by kernel_rfl))
  t0:=Tryz.underlying0
  a0:=Tryz.isAgg0
  z0:=Tryz.sizeOf0
  v0:=Tryz.zeroValue0
  t3:=Tryz.underlying3
  a3:=Tryz.isAgg3
  z3:=Tryz.sizeOf3
  v3:=Tryz.zeroValue3
  t4:=Tryz.underlying4
  a4:=Tryz.isAgg4
  z4:=Tryz.sizeOf4
  v4:=Tryz.zeroValue4
  t5:=Tryz.underlying5
  a5:=Tryz.isAgg5
  z5:=Tryz.sizeOf5
  v5:=Tryz.zeroValue5
  t9:=Tryz.underlying9
  a9:=Tryz.isAgg9
  z9:=Tryz.sizeOf9
  v9:=Tryz.zeroValue9
  t21:=Tryz.underlying21
  a21:=Tryz.isAgg21
  z21:=Tryz.sizeOf21
  v21:=Tryz.zeroValue21
  t31:=Tryz.underlying76
  a31:=Tryz.isAgg76
  z31:=Tryz.sizeOf76
  v31:=Tryz.zeroValue76
  t46:=Tryz.underlying77
  a46:=Tryz.isAgg77
  z46:=Tryz.sizeOf77
  v46:=Tryz.zeroValue77
  t51:=Tryz.underlying171
  a51:=Tryz.isAgg171
  z51:=Tryz.sizeOf171
  v51:=Tryz.zeroValue171
  t105:=Tryz.underlying167
  a105:=Tryz.isAgg167
  z105:=Tryz.sizeOf167
  v105:=Tryz.zeroValue167
  t119:=Tryz.underlying122
  a119:=Tryz.isAgg122
  z119:=Tryz.sizeOf122
  t138:=Tryz.underlying124
  a138:=Tryz.isAgg124
  z138:=Tryz.sizeOf124
  v138:=Tryz.zeroValue124
  t139:=Tryz.underlying125
  a139:=Tryz.isAgg125
  z139:=Tryz.sizeOf125
  v139:=Tryz.zeroValue125
  t146:=Tryz.underlying178
  a146:=Tryz.isAgg178
  z146:=Tryz.sizeOf178
  v146:=Tryz.zeroValue178
  g1:=by kernel_rfl
  g3:=by kernel_rfl
  g4:=by kernel_rfl }
open Go.RowKit Go.Lib in
theorem Tryz.strings_Split (s sep:ByteArray) (m:Int) (w:World) (hs:s.size<4294967281) (hm:w.cell? ⟨4,0,none⟩=some (.int .i64 m)) (h1:1≤sep.size):
  Calls Tryz.prog 53 #[.string s,.string sep] w fun e w'=>
   e= .returned (.slice (some ⟨w.heap.size,0,none⟩) (Lib.countB s sep+1) (Lib.countB s sep+1))∧w'=w.alloc (.cells ((Lib.splitB sep 0 (Lib.countB s sep) s).map Value.string).toArray 9):=Any.strings_Split Tryz.lays146 (by kernel_rfl) s sep m w hs hm h1
def Tryz.lays187_ren:Go.Shelf.Ren:=⟨fun| 187=>76| 255=>100|n=>n,fun| 37=>22| 5=>5| 3=>3|n=>n,fun|n=>n⟩
theorem Tryz.lays187:Go.Proofs.Lays.n187 Tryz.prog Tryz.lays187_ren:= {
  mixed:=by kernel_rfl
  f187:=Tryz.func76.trans (congrArg some (by kernel_rfl))
  f255:=Tryz.func100.trans (congrArg some (by kernel_rfl))
  t3:=Tryz.underlying3
  a3:=Tryz.isAgg3
  z3:=Tryz.sizeOf3
  v3:=Tryz.zeroValue3
  t5:=Tryz.underlying5
  a5:=Tryz.isAgg5
  z5:=Tryz.sizeOf5
  v5:=Tryz.zeroValue5
  t37:=Tryz.underlying22
  a37:=Tryz.isAgg22
  z37:=Tryz.sizeOf22
  v37:=Tryz.zeroValue22 }
open Go.RowKit Go.Lib in
theorem Tryz.bytes_IndexByte_at (a:Addr) (n c:Nat) (xs:List Int) (cv:Int) (w:World) (hx:xs.length=n) (hc:∀i,i<n→w.cell? (a.add i)=some (.int .u8 (xs.getD i 0))):
  Calls Tryz.prog 76 #[.slice (some a) n c,.int .u8 cv] w fun e w'=>e= .returned (.int .i64 (Lib.indexByte (Lib.bytesOf xs) cv.toNat.toUInt8))∧w'=w:=Any.bytes_IndexByte_at Tryz.lays187 a n c xs cv w hx hc
def Tryz.laysSlJ14_ren:Go.Shelf.Ren:=⟨fun| 14=>74| 15=>99|n=>n,fun| 26=>118| 22=>22| 3=>3| 4=>4| 0=>0| 9=>9| 20=>20| 5=>5|n=>n,fun|n=>n⟩
theorem Tryz.laysSlJ14:Go.Proofs.SlLaysJ.n14 Tryz.prog Tryz.laysSlJ14_ren:= {
  mixed:=by kernel_rfl
  f14:=Tryz.func74.trans (congrArg some (by kernel_rfl))
  f15:=Tryz.func99.trans (congrArg some (by kernel_rfl))
  t0:=Tryz.underlying0
  a0:=Tryz.isAgg0
  z0:=Tryz.sizeOf0
  v0:=Tryz.zeroValue0
  t3:=Tryz.underlying3
  a3:=Tryz.isAgg3
  z3:=Tryz.sizeOf3
  v3:=Tryz.zeroValue3
  t4:=Tryz.underlying4
  a4:=Tryz.isAgg4
  z4:=Tryz.sizeOf4
  v4:=Tryz.zeroValue4
  t9:=Tryz.underlying9
  a9:=Tryz.isAgg9
  z9:=Tryz.sizeOf9
  v9:=Tryz.zeroValue9
  t20:=Tryz.underlying20
  a20:=Tryz.isAgg20
  z20:=Tryz.sizeOf20
  v20:=Tryz.zeroValue20
  t22:=Tryz.underlying22
  a22:=Tryz.isAgg22
  z22:=Tryz.sizeOf22
  v22:=Tryz.zeroValue22
  t26:=Tryz.underlying118
  a26:=Tryz.isAgg118
  z26:=Tryz.sizeOf118
  v26:=Tryz.zeroValue118
  t5:=Tryz.underlying5
  z5:=Tryz.sizeOf5
  i5:=by kernel_rfl }
open Go.RowKit Go.Lib in
theorem Tryz.bytes_Join_many (b o n c:Nat) (vs:List Value) (ls:List (List UInt8)) (sv:Value) (sep:List UInt8) (w:World) (hn:ls.length=n) (h2:2≤n) (hP:Lib.PartsAt w ⟨b,o,none⟩ vs ls) (hcap:n≤c) (hS:Lib.HoldsBytes w sv sep) (hn47:n≤140737488355328) (hlen:Lib.lens ls+sep.length*(n-1)≤140737488355328):
  Calls Tryz.prog 74 #[.slice (some ⟨b,o,none⟩) n c,sv] w fun e w'=>∃v',e= .returned v'∧Lib.FreshBytes w.heap.size w' v' (Lib.join ls sep)∧Below w.heap.size w w':=Any.bytes_Join_many Tryz.laysSlJ14 b o n c vs ls sv sep w hn h2 hP hcap hS hn47 hlen
open Go.RowKit Go.Lib in
theorem Tryz.bytes_Join_none (p:Option Addr) (c:Nat) (sv:Value) (w:World):
  Calls Tryz.prog 74 #[.slice p 0 c,sv] w fun e w'=>e= .returned (.slice (some ⟨w.heap.size,0,none⟩) 0 0)∧w'=w.alloc (.cells #[] 5):=Any.bytes_Join_none Tryz.laysSlJ14 p c sv w
open Go.RowKit Go.Lib in
theorem Tryz.bytes_Join_one (b o c:Nat) (ad0:Addr) (c0:Nat) (l0:List UInt8) (sv:Value) (w:World) (hcell:w.cell? ⟨b,o,none⟩=some (.slice (some ad0) l0.length c0)) (hc:∀(i:Nat) x,l0[i]? = some x→w.cell? (ad0.add i)=some (.int .u8 (x.toNat:Int))) (h0:0<l0.length) (hs:l0.length≤140737488355328):
  Calls Tryz.prog 74 #[.slice (some ⟨b,o,none⟩) 1 c,sv] w fun e w'=>∃v',e= .returned v'∧Lib.FreshBytes w.heap.size w' v' l0∧Below w.heap.size w w':=Any.bytes_Join_one Tryz.laysSlJ14 b o c ad0 c0 l0 sv w hcell hc h0 hs
open Go.RowKit Go.Lib in
theorem Tryz.bytes_Join_one_empty (b o c:Nat) (p0:Option Addr) (c0:Nat) (sv:Value) (w:World) (hcell:w.cell? ⟨b,o,none⟩=some (.slice p0 0 c0)):
  Calls Tryz.prog 74 #[.slice (some ⟨b,o,none⟩) 1 c,sv] w fun e w'=>e= .returned (.slice none 0 0)∧w'=w:=Any.bytes_Join_one_empty Tryz.laysSlJ14 b o c p0 c0 sv w hcell
def Tryz.laysValid_ren:Go.Shelf.Ren:=⟨fun| 196=>47| 259=>75|n=>n,fun| 9=>9| 4=>4| 3=>3| 5=>5| 12=>12| 119=>122| 0=>0| 46=>77| 139=>125| 138=>124| 53=>148|n=>n,fun| 3=>0| 4=>1|n=>n⟩
theorem Tryz.laysValid:Go.Proofs.Lays.n196 Tryz.prog Tryz.laysValid_ren:= {
  mixed:=by kernel_rfl
  f196:=Tryz.func47.trans (congrArg some (by kernel_rfl))
  f259:=Tryz.func75.trans (congrArg some (by kernel_rfl))
  t0:=Tryz.underlying0
  a0:=Tryz.isAgg0
  z0:=Tryz.sizeOf0
  v0:=Tryz.zeroValue0
  t3:=Tryz.underlying3
  a3:=Tryz.isAgg3
  z3:=Tryz.sizeOf3
  v3:=Tryz.zeroValue3
  t4:=Tryz.underlying4
  a4:=Tryz.isAgg4
  z4:=Tryz.sizeOf4
  v4:=Tryz.zeroValue4
  t5:=Tryz.underlying5
  a5:=Tryz.isAgg5
  z5:=Tryz.sizeOf5
  v5:=Tryz.zeroValue5
  t9:=Tryz.underlying9
  a9:=Tryz.isAgg9
  z9:=Tryz.sizeOf9
  v9:=Tryz.zeroValue9
  t12:=Tryz.underlying12
  a12:=Tryz.isAgg12
  z12:=Tryz.sizeOf12
  v12:=Tryz.zeroValue12
  t46:=Tryz.underlying77
  a46:=Tryz.isAgg77
  z46:=Tryz.sizeOf77
  v46:=Tryz.zeroValue77
  t53:=Tryz.underlying148
  a53:=Tryz.isAgg148
  z53:=Tryz.sizeOf148
  v53:=Tryz.zeroValue148
  t119:=Tryz.underlying122
  a119:=Tryz.isAgg122
  z119:=Tryz.sizeOf122
  t138:=Tryz.underlying124
  a138:=Tryz.isAgg124
  z138:=Tryz.sizeOf124
  v138:=Tryz.zeroValue124
  t139:=Tryz.underlying125
  a139:=Tryz.isAgg125
  z139:=Tryz.sizeOf125
  v139:=Tryz.zeroValue125
  g3:=by kernel_rfl
  g4:=by kernel_rfl }
end Go.Proofs
