/- a certificate's law by that interpreter (part 13): what the program's functions answer, or plain laws of it; no conditions. -/
import Derived.Shelf.Unicode.ValidAny
import Derived.Shelf.Strings.Builder1
import Derived.Shelf.Strings.Builder2
import Derived.Shelf.Strings.OnBuilder
import Derived.Shelf.Small.Bits
import Derived.Shelf.Strings.BuilderF
import Derived.Shelf.Strings.BuilderK
import Derived.Shelf.Utf8.RuneCount
import Derived.Shelf.Strings.Builder2Cap
import Derived.Shelf.Strconv.Atoi
import Derived.Shelf.Strconv.Itoa0
import Derived.Shelf.Strconv.Itoa1
import Derived.Shelf.LaysM
import Derived.Shelf.Strconv.Itoa2
import Derived.Shelf.Strconv.Itoa3
import Derived.Shelf.Strconv.AtoiErrFast
import Derived.Shelf.Strconv.ParseIntEmpty
import Derived.Shelf.Strconv.AtoiFail
import Derived.Shelf.Strconv.Clone
import Derived.Shelf.Strconv.SyntaxError
import Derived.Shelf.LaysC
import Derived.Shelf.Strconv.ToError
import Derived.Shelf.Strconv.AtoiErr
import Derived.Shelf.Strconv.ErrVar
import Derived.Shelf.Strconv.Lower
import Derived.Shelf.Strconv.ParseUint10
import Derived.Shelf.Strconv.ParseUint10Empty
import Derived.Shelf.Strconv.ParseUint10Any
import Derived.Shelf.Strconv.ParseInt10
import Derived.Shelf.Strconv.AtoiLong
import Derived.Shelf.Strconv.AtoiInnerAll
import Derived.Shelf.Strconv.RangeError
import Derived.Shelf.Strconv.ToErrorRange
import Derived.Shelf.Strconv.AtoiAll
import Derived.Shelf.Strconv.ErrVarAll
import Derived.Shelf.Strconv.ParseUintEmpty
import Derived.Shelf.Strconv.ParseUint10b64
import Derived.Shelf.Strconv.ParseUint10b32
import Derived.Shelf.Strconv.ParseUint10b16
import Derived.Shelf.Strconv.ParseUint10b8
import Derived.Shelf.Strconv.ParseUint10At
import Derived.Shelf.Strconv.ParseInt10At64
import Derived.Shelf.Strconv.ParseInt10At32
import Derived.Shelf.Strconv.ParseInt10At16
import Derived.Shelf.Strconv.ParseInt10At8
import Derived.Shelf.Strconv.ParseInt10All
import Derived.Shelf.Strings.Search1
import Derived.Shelf.Strings.Search2
import Derived.Shelf.Strings.Search3
import Derived.Shelf.Strings.Count
import Derived.Shelf.Strings.Shaped
import Derived.Shelf.GgClosure.StringsIndexFunc
import Derived.Ground.GgwProg
import Derived.Shelf.GgClosure.StringsIndexFuncTop
import Derived.Shelf.GgClosure.StringsRunes
import Derived.Shelf.Strings.Prefix
import Derived.Shelf.Strings.Split
import Derived.Shelf.Strings.SplitShaped
import Derived.Shelf.Unicode.Decode
import Derived.Shelf.Strings.RuneCount
import Derived.Shelf.Strings.Explode
import Derived.Shelf.Bits.Mul64
import Derived.Shelf.Strings.Repeat
import Derived.Shelf.Unicode.DecodeSlow
import Derived.Shelf.Unicode.DecodeAny
import Derived.Shelf.Strings.FuncGrows
import Derived.Shelf.Strings.BuilderCap
import Derived.Shelf.Bytes.SlIndexAt
import Derived.Shelf.Bytes.SlSearch0
import Derived.Ground.SlbNamesProg
import Derived.Shelf.Bytes.SlJoin
import Derived.Shelf.Bytes.SlEqualAll
import Derived.Shelf.Bytes.Small
import Derived.Shelf.Bytes.IndexByte
import Derived.Test.YtgiobgojobegfaaGreatDoorProg
set_option linter.all false
namespace Go.Proofs
open Go.Shelf
def Tryz.laysValid_ren:Go.Shelf.Ren:=⟨fun| 196=>147| 259=>170|n=>n,fun| 9=>9| 4=>4| 3=>3| 5=>5| 12=>12| 119=>258| 0=>0| 46=>156| 139=>261| 138=>260| 53=>278|n=>n,fun| 3=>0| 4=>1|n=>n⟩
theorem Tryz.laysValid:Go.Proofs.Lays.n196 Tryz.prog Tryz.laysValid_ren:= {
  mixed:=by kernel_rfl
  f196:=Tryz.func147.trans (congrArg some (by kernel_rfl))
  f259:=Tryz.func170.trans (congrArg some (by kernel_rfl))
  t0:=Tryz.underlying0
  a0:=Tryz.isAgg0
  z0:=Tryz.sizeOf0
  v0:=Tryz.zeroValue0
  t3:=Tryz.underlying3
  a3:=Tryz.isAgg3
  z3:=Tryz.sizeOf3
  v3:=Tryz.zeroValue3
  t4:=Tryz.underlying4
  a4:=Tryz.isAgg4
  z4:=Tryz.sizeOf4
  v4:=Tryz.zeroValue4
  t5:=Tryz.underlying5
  a5:=Tryz.isAgg5
  z5:=Tryz.sizeOf5
  v5:=Tryz.zeroValue5
  t9:=Tryz.underlying9
  a9:=Tryz.isAgg9
  z9:=Tryz.sizeOf9
  v9:=Tryz.zeroValue9
  t12:=Tryz.underlying12
  a12:=Tryz.isAgg12
  z12:=Tryz.sizeOf12
  v12:=Tryz.zeroValue12
  t46:=Tryz.underlying156
  a46:=Tryz.isAgg156
  z46:=Tryz.sizeOf156
  v46:=Tryz.zeroValue156
  t53:=Tryz.underlying278
  a53:=Tryz.isAgg278
  z53:=Tryz.sizeOf278
  v53:=Tryz.zeroValue278
  t119:=Tryz.underlying258
  a119:=Tryz.isAgg258
  z119:=Tryz.sizeOf258
  t138:=Tryz.underlying260
  a138:=Tryz.isAgg260
  z138:=Tryz.sizeOf260
  v138:=Tryz.zeroValue260
  t139:=Tryz.underlying261
  a139:=Tryz.isAgg261
  z139:=Tryz.sizeOf261
  v139:=Tryz.zeroValue261
  g3:=by kernel_rfl
  g4:=by kernel_rfl }
def Tryz.lays156_ren:Go.Shelf.Ren:=⟨fun| 156=>117| 165=>152| 166=>153| 169=>154| 240=>178| 241=>179| 276=>210| 277=>183|n=>n,fun| 31=>55| 9=>9| 3=>3| 4=>4| 0=>0| 20=>20| 72=>240| 76=>206| 70=>238| 37=>24| 75=>205| 127=>270| 164=>290| 5=>5| 80=>241|n=>n,fun|n=>n⟩
theorem Tryz.lays156:Go.Proofs.Lays.n156 Tryz.prog Tryz.lays156_ren:= {
  mixed:=by kernel_rfl
  f156:=Tryz.func117.trans (congrArg some (by kernel_rfl))
  f165:=Tryz.func152.trans (congrArg some (by kernel_rfl))
  f166:=Tryz.func153.trans (congrArg some (by kernel_rfl))
  f169:=Tryz.func154.trans (congrArg some (by kernel_rfl))
  f240:=Tryz.func178.trans (congrArg some (by kernel_rfl))
  f241:=Tryz.func179.trans (congrArg some (by kernel_rfl))
  f276:=Tryz.func210.trans (congrArg some (by kernel_rfl))
  f277:=Tryz.func183.trans (congrArg some (by kernel_rfl))
  t0:=Tryz.underlying0
  a0:=Tryz.isAgg0
  z0:=Tryz.sizeOf0
  v0:=Tryz.zeroValue0
  t3:=Tryz.underlying3
  a3:=Tryz.isAgg3
  z3:=Tryz.sizeOf3
  v3:=Tryz.zeroValue3
  t4:=Tryz.underlying4
  a4:=Tryz.isAgg4
  z4:=Tryz.sizeOf4
  v4:=Tryz.zeroValue4
  t9:=Tryz.underlying9
  a9:=Tryz.isAgg9
  z9:=Tryz.sizeOf9
  v9:=Tryz.zeroValue9
  t20:=Tryz.underlying20
  a20:=Tryz.isAgg20
  z20:=Tryz.sizeOf20
  v20:=Tryz.zeroValue20
  t31:=Tryz.underlying55
  a31:=Tryz.isAgg55
  z31:=Tryz.sizeOf55
  v31:=Tryz.zeroValue55
  t37:=Tryz.underlying24
  a37:=Tryz.isAgg24
  z37:=Tryz.sizeOf24
  v37:=Tryz.zeroValue24
  t70:=Tryz.underlying238
  a70:=Tryz.isAgg238
  z70:=Tryz.sizeOf238
  v70:=Tryz.zeroValue238
  t72:=Tryz.underlying240
  a72:=Tryz.isAgg240
  z72:=Tryz.sizeOf240
  v72:=Tryz.zeroValue240
  t75:=Tryz.underlying205
  a75:=Tryz.isAgg205
  z75:=Tryz.sizeOf205
  v75:=Tryz.zeroValue205
  t76:=Tryz.underlying206
  a76:=Tryz.isAgg206
  z76:=Tryz.sizeOf206
  v76:=Tryz.zeroValue206
  t127:=Tryz.underlying270
  a127:=Tryz.isAgg270
  z127:=Tryz.sizeOf270
  v127:=Tryz.zeroValue270
  t164:=Tryz.underlying290
  a164:=Tryz.isAgg290
  z164:=Tryz.sizeOf290
  v164:=Tryz.zeroValue290 }
theorem Tryz.Builder_Extra_156:Builder.Extra Tryz.prog Tryz.lays156_ren:= {
  sizeBuilder:=by kernel_rfl
  liesBuilder:=by kernel_rfl
  t5:=Tryz.underlying5
  a5:=Tryz.isAgg5
  z5:=Tryz.sizeOf5
  v5:=Tryz.zeroValue5
  infoByte:=by kernel_rfl
  cellsByte:=by kernel_rfl
  sizeByte:=by kernel_rfl
  neB5:=by decide }
open Go.RowKit in
theorem Tryz.strings_Join_none (a:Option Addr) (c:Nat) (sep:ByteArray) (w:World):
 Calls Tryz.prog 117 #[.slice a 0 c,.string sep] w fun e w'=>e= .returned (.string ⟨#[]⟩)∧w'=w:=Any.strings_Join_none Tryz.lays156 Tryz.Builder_Extra_156 a c sep w
open Go.RowKit in
theorem Tryz.strings_Join (bk o c:Nat) (xs:List ByteArray) (sep:ByteArray) (w:World) (hcells:∀(j:Nat) x,xs[j]? = some x→w.cell? ⟨bk,o+j,none⟩=some (.string x)) (hbk:bk<w.heap.size) (hN:xs.length≤140737488355328) (hcap:xs.length≤c) (hlen:(Lib.join (xs.map (·.data.toList)) sep.data.toList).length≤140737488355328):
 Calls Tryz.prog 117 #[.slice (some ⟨bk,o,none⟩) xs.length c,.string sep] w fun e w'=>e= .returned (.string ⟨(Lib.join (xs.map (·.data.toList)) sep.data.toList).toArray⟩)∧Below w.heap.size w w':=Any.strings_Join Tryz.lays156 Tryz.Builder_Extra_156 bk o c xs sep w hcells hbk hN hcap hlen
def Tryz.laysM171_ren:Go.Shelf.Ren:=⟨fun| 171=>116| 243=>151| 246=>177| 283=>206| 284=>207| 285=>208| 286=>209| 129=>222| 317=>221| 318=>223| 319=>224| 320=>225| 337=>231| 338=>232|n=>n,fun| 3=>3| 9=>9| 2=>2| 4=>4| 171=>285| 0=>0| 53=>278| 37=>24| 5=>5| 173=>288| 212=>304| 51=>305| 20=>20| 213=>306| 46=>156| 232=>311| 233=>312|n=>n,fun| 17=>5| 18=>6| 19=>7|n=>n⟩
theorem Tryz.laysM171:Go.Proofs.LaysM.n171 Tryz.prog Tryz.laysM171_ren:= {
  mixed:=by kernel_rfl
  f129:=Tryz.func222.trans (congrArg some (by kernel_rfl))
  f171:=Tryz.func116.trans (congrArg some (by kernel_rfl))
  f243:=Tryz.func151.trans (congrArg some (by kernel_rfl))
  f246:=Tryz.func177.trans (congrArg some (by kernel_rfl))
  f283:=Tryz.func206.trans (congrArg some (by kernel_rfl))
  f284:=Tryz.func207.trans (congrArg some (by kernel_rfl))
  f285:=Tryz.func208.trans (congrArg some (by kernel_rfl))
  f286:=Tryz.func209.trans (congrArg some (by kernel_rfl))
  f317:=Tryz.func221.trans (congrArg some (by kernel_rfl))
  f318:=Tryz.func223.trans (congrArg some (by kernel_rfl))
  f319:=Tryz.func224.trans (congrArg some (by kernel_rfl))
  f320:=Tryz.func225.trans (congrArg some (by kernel_rfl))
  f337:=Tryz.func231.trans (congrArg some (by kernel_rfl))
  f338:=Tryz.func232.trans (congrArg some (by kernel_rfl))
  t0:=Tryz.underlying0
  a0:=Tryz.isAgg0
  z0:=Tryz.sizeOf0
  v0:=Tryz.zeroValue0
  t2:=Tryz.underlying2
  a2:=Tryz.isAgg2
  z2:=Tryz.sizeOf2
  v2:=Tryz.zeroValue2
  t3:=Tryz.underlying3
  a3:=Tryz.isAgg3
  z3:=Tryz.sizeOf3
  v3:=Tryz.zeroValue3
  t4:=Tryz.underlying4
  a4:=Tryz.isAgg4
  z4:=Tryz.sizeOf4
  v4:=Tryz.zeroValue4
  t5:=Tryz.underlying5
  a5:=Tryz.isAgg5
  z5:=Tryz.sizeOf5
  v5:=Tryz.zeroValue5
  t9:=Tryz.underlying9
  a9:=Tryz.isAgg9
  z9:=Tryz.sizeOf9
  v9:=Tryz.zeroValue9
  t20:=Tryz.underlying20
  a20:=Tryz.isAgg20
  z20:=Tryz.sizeOf20
  v20:=Tryz.zeroValue20
  t37:=Tryz.underlying24
  a37:=Tryz.isAgg24
  z37:=Tryz.sizeOf24
  v37:=Tryz.zeroValue24
  t46:=Tryz.underlying156
  a46:=Tryz.isAgg156
  z46:=Tryz.sizeOf156
  v46:=Tryz.zeroValue156
  t51:=Tryz.underlying305
  a51:=Tryz.isAgg305
  z51:=Tryz.sizeOf305
  v51:=Tryz.zeroValue305
  t53:=Tryz.underlying278
  a53:=Tryz.isAgg278
  z53:=Tryz.sizeOf278
  v53:=Tryz.zeroValue278
  t171:=Tryz.underlying285
  a171:=Tryz.isAgg285
  z171:=Tryz.sizeOf285
  v171:=Tryz.zeroValue285
  t173:=Tryz.underlying288
  a173:=Tryz.isAgg288
  z173:=Tryz.sizeOf288
  v173:=Tryz.zeroValue288
  t212:=Tryz.underlying304
  a212:=Tryz.isAgg304
  z212:=Tryz.sizeOf304
  v212:=Tryz.zeroValue304
  t213:=Tryz.underlying306
  a213:=Tryz.isAgg306
  z213:=Tryz.sizeOf306
  t232:=Tryz.underlying311
  a232:=Tryz.isAgg311
  z232:=Tryz.sizeOf311
  v232:=Tryz.zeroValue311
  t233:=Tryz.underlying312
  a233:=Tryz.isAgg312
  z233:=Tryz.sizeOf312
  v233:=Tryz.zeroValue312
  g17:=by kernel_rfl
  g18:=by kernel_rfl
  g19:=by kernel_rfl
  i0:=by kernel_rfl
  i2:=by kernel_rfl
  i3:=by kernel_rfl
  i4:=by kernel_rfl
  i5:=by kernel_rfl
  i9:=by kernel_rfl
  i20:=by kernel_rfl
  i37:=by kernel_rfl
  i46:=by kernel_rfl
  i51:=by kernel_rfl
  i53:=by kernel_rfl
  i171:=by kernel_rfl
  i173:=by kernel_rfl
  i212:=by kernel_rfl
  i232:=by kernel_rfl
  i233:=by kernel_rfl
  m17:=by kernel_rfl
  m18:=by kernel_rfl
  m19:=by kernel_rfl }
open Go.RowKit Go.Sort Go.Lib in
theorem Tryz.strconv_Itoa (n:Int) (h0: -9223372036854775808≤n) (h1:n≤9223372036854775807) (w:World) (htab:Lib.TabIs Tryz.prog w "internal/strconv.uint64pow10" .u64 Lib.pow10Tab):
 Calls Tryz.prog 116 #[.int .i64 n] w fun e w'=>e= .returned (.string ⟨(Lib.itoa n).toArray⟩)∧∃k os,w'=grow (w.drewN k) os:=Any.strconv_Itoa Tryz.laysM171 n h0 h1 w htab
def Tryz.laysC172_ren:Go.Shelf.Ren:=⟨fun| 172=>114| 244=>149| 245=>150| 247=>172| 279=>173| 280=>174| 281=>175| 282=>176| 287=>203| 316=>204| 171=>116| 205=>205| 321=>219| 322=>220| 243=>151| 246=>177| 283=>206| 284=>207| 285=>208| 286=>209| 129=>222| 317=>221| 318=>223| 319=>224| 320=>225| 337=>231| 338=>232|n=>n,fun| 9=>9| 3=>3| 75=>205| 76=>206| 4=>4| 5=>5| 167=>263| 37=>24| 0=>0| 85=>264| 2=>2| 168=>266| 53=>278| 175=>279| 46=>156| 210=>283| 127=>270| 145=>301| 143=>299| 21=>21| 171=>285| 173=>288| 212=>304| 51=>305| 20=>20| 213=>306| 232=>311| 233=>312| 80=>241|n=>n,fun| 15=>2| 16=>3| 17=>5| 18=>6| 19=>7|n=>n⟩
theorem Tryz.laysC172:Go.Proofs.LaysC.n172 Tryz.prog Tryz.laysC172_ren:= {
  mixed:=by kernel_rfl
  f129:=Tryz.func222.trans (congrArg some (by kernel_rfl))
  f171:=Tryz.func116.trans (congrArg some (by kernel_rfl))
  f172:=Tryz.func114.trans (congrArg some (by kernel_rfl))
  f205:=Tryz.func205.trans (congrArg some (by kernel_rfl))
  f243:=Tryz.func151.trans (congrArg some (by kernel_rfl))
  f244:=Tryz.func149.trans (congrArg some (by kernel_rfl))
  f245:=Tryz.func150.trans (congrArg some (by kernel_rfl))
  f246:=Tryz.func177.trans (congrArg some (by kernel_rfl))
  f247:=Tryz.func172.trans (congrArg some (by kernel_rfl))
  f279:=Tryz.func173.trans (congrArg some (by kernel_rfl))
  f280:=Tryz.func174.trans (congrArg some (by kernel_rfl))
  f281:=Tryz.func175.trans (congrArg some (by kernel_rfl))
  f282:=Tryz.func176.trans (congrArg some (by kernel_rfl))
  f283:=Tryz.func206.trans (congrArg some (by kernel_rfl))
  f284:=Tryz.func207.trans (congrArg some (by kernel_rfl))
  f285:=Tryz.func208.trans (congrArg some (by kernel_rfl))
  f286:=Tryz.func209.trans (congrArg some (by kernel_rfl))
  f287:=Tryz.func203.trans (congrArg some (by kernel_rfl))
  f316:=Tryz.func204.trans (congrArg some (by kernel_rfl))
  f317:=Tryz.func221.trans (congrArg some (by kernel_rfl))
  f318:=Tryz.func223.trans (congrArg some (by kernel_rfl))
  f319:=Tryz.func224.trans (congrArg some (by kernel_rfl))
  f320:=Tryz.func225.trans (congrArg some (by kernel_rfl))
  f321:=Tryz.func219.trans (congrArg some (by kernel_rfl))
  f322:=Tryz.func220.trans (congrArg some (by kernel_rfl))
  f337:=Tryz.func231.trans (congrArg some (by kernel_rfl))
  f338:=Tryz.func232.trans (congrArg some (by kernel_rfl))
  t0:=Tryz.underlying0
  a0:=Tryz.isAgg0
  z0:=Tryz.sizeOf0
  v0:=Tryz.zeroValue0
  t2:=Tryz.underlying2
  a2:=Tryz.isAgg2
  z2:=Tryz.sizeOf2
  v2:=Tryz.zeroValue2
  t3:=Tryz.underlying3
  a3:=Tryz.isAgg3
  z3:=Tryz.sizeOf3
  v3:=Tryz.zeroValue3
  t4:=Tryz.underlying4
  a4:=Tryz.isAgg4
  z4:=Tryz.sizeOf4
  v4:=Tryz.zeroValue4
  t5:=Tryz.underlying5
  a5:=Tryz.isAgg5
  z5:=Tryz.sizeOf5
  v5:=Tryz.zeroValue5
  t9:=Tryz.underlying9
  a9:=Tryz.isAgg9
  z9:=Tryz.sizeOf9
  v9:=Tryz.zeroValue9
  t20:=Tryz.underlying20
  a20:=Tryz.isAgg20
  z20:=Tryz.sizeOf20
  v20:=Tryz.zeroValue20
  t21:=Tryz.underlying21
  a21:=Tryz.isAgg21
  z21:=Tryz.sizeOf21
  v21:=Tryz.zeroValue21
  t37:=Tryz.underlying24
  a37:=Tryz.isAgg24
  z37:=Tryz.sizeOf24
  v37:=Tryz.zeroValue24
  t46:=Tryz.underlying156
  a46:=Tryz.isAgg156
  z46:=Tryz.sizeOf156
  v46:=Tryz.zeroValue156
  t51:=Tryz.underlying305
  a51:=Tryz.isAgg305
  z51:=Tryz.sizeOf305
  v51:=Tryz.zeroValue305
  t53:=Tryz.underlying278
  a53:=Tryz.isAgg278
  z53:=Tryz.sizeOf278
  v53:=Tryz.zeroValue278
  t75:=Tryz.underlying205
  a75:=Tryz.isAgg205
  z75:=Tryz.sizeOf205
  v75:=Tryz.zeroValue205
  t76:=Tryz.underlying206
  a76:=Tryz.isAgg206
  z76:=Tryz.sizeOf206
  v76:=Tryz.zeroValue206
  t85:=Tryz.underlying264
  a85:=Tryz.isAgg264
  z85:=Tryz.sizeOf264
  v85:=Tryz.zeroValue264
  t127:=Tryz.underlying270
  a127:=Tryz.isAgg270
  z127:=Tryz.sizeOf270
  v127:=Tryz.zeroValue270
  t143:=Tryz.underlying299
  a143:=Tryz.isAgg299
  z143:=Tryz.sizeOf299
  v143:=Tryz.zeroValue299
  t145:=Tryz.underlying301
  a145:=Tryz.isAgg301
  z145:=Tryz.sizeOf301
  v145:=Tryz.zeroValue301
  t167:=Tryz.underlying263
  a167:=Tryz.isAgg263
  z167:=Tryz.sizeOf263
  v167:=Tryz.zeroValue263
  t168:=Tryz.underlying266
  a168:=Tryz.isAgg266
  z168:=Tryz.sizeOf266
  v168:=Tryz.zeroValue266
  t171:=Tryz.underlying285
  a171:=Tryz.isAgg285
  z171:=Tryz.sizeOf285
  v171:=Tryz.zeroValue285
  t173:=Tryz.underlying288
  a173:=Tryz.isAgg288
  z173:=Tryz.sizeOf288
  v173:=Tryz.zeroValue288
  t175:=Tryz.underlying279
  a175:=Tryz.isAgg279
  z175:=Tryz.sizeOf279
  v175:=Tryz.zeroValue279
  t210:=Tryz.underlying283
  a210:=Tryz.isAgg283
  z210:=Tryz.sizeOf283
  v210:=Tryz.zeroValue283
  t212:=Tryz.underlying304
  a212:=Tryz.isAgg304
  z212:=Tryz.sizeOf304
  v212:=Tryz.zeroValue304
  t213:=Tryz.underlying306
  a213:=Tryz.isAgg306
  z213:=Tryz.sizeOf306
  t232:=Tryz.underlying311
  a232:=Tryz.isAgg311
  z232:=Tryz.sizeOf311
  v232:=Tryz.zeroValue311
  t233:=Tryz.underlying312
  a233:=Tryz.isAgg312
  z233:=Tryz.sizeOf312
  v233:=Tryz.zeroValue312
  g15:=by kernel_rfl
  g16:=by kernel_rfl
  g17:=by kernel_rfl
  g18:=by kernel_rfl
  g19:=by kernel_rfl
  t80:=Tryz.underlying241
  a80:=Tryz.isAgg241
  z80:=Tryz.sizeOf241
  v80:=Tryz.zeroValue241
  i0:=by kernel_rfl
  i2:=by kernel_rfl
  i3:=by kernel_rfl
  i4:=by kernel_rfl
  i5:=by kernel_rfl
  i9:=by kernel_rfl
  i20:=by kernel_rfl
  i21:=by kernel_rfl
  i37:=by kernel_rfl
  i46:=by kernel_rfl
  i51:=by kernel_rfl
  i53:=by kernel_rfl
  i75:=by kernel_rfl
  i76:=by kernel_rfl
  i80:=by kernel_rfl
  i85:=by kernel_rfl
  i127:=by kernel_rfl
  i143:=by kernel_rfl
  i145:=by kernel_rfl
  i167:=by kernel_rfl
  i168:=by kernel_rfl
  i171:=by kernel_rfl
  i173:=by kernel_rfl
  i175:=by kernel_rfl
  i210:=by kernel_rfl
  i212:=by kernel_rfl
  i232:=by kernel_rfl
  i233:=by kernel_rfl
  m15:=by kernel_rfl
  m16:=by kernel_rfl
  m17:=by kernel_rfl
  m18:=by kernel_rfl
  m19:=by kernel_rfl
  c0:=by kernel_rfl
  c2:=by kernel_rfl
  c3:=by kernel_rfl
  c4:=by kernel_rfl
  c5:=by kernel_rfl
  c9:=by kernel_rfl
  c20:=by kernel_rfl
  c21:=by kernel_rfl
  c37:=by kernel_rfl
  c46:=by kernel_rfl
  c51:=by kernel_rfl
  c53:=by kernel_rfl
  c75:=by kernel_rfl
  c76:=by kernel_rfl
  c80:=by kernel_rfl
  c85:=by kernel_rfl
  c127:=by kernel_rfl
  c143:=by kernel_rfl
  c145:=by kernel_rfl
  c167:=by kernel_rfl
  c168:=by kernel_rfl
  c171:=by kernel_rfl
  c173:=by kernel_rfl
  c175:=by kernel_rfl
  c210:=by kernel_rfl
  c212:=by kernel_rfl
  c213:=by kernel_rfl
  c232:=by kernel_rfl
  c233:=by kernel_rfl }
open Go.RowKit in
theorem Tryz.strconv_Atoi_ok (s:ByteArray) (hmax:s.size≤9223372036854775806) (v:Int) (h:Lib.atoiAll s.data.toList= .ok v) (w:World):
 Calls Tryz.prog 114 #[.string s] w fun e w'=>e= .returned (.tuple #[.int .i64 v,.nilIface])∧(w'=w∨∃t,w'=Lib.bytesWorld w 5 t):=Any.strconv_Atoi_ok Tryz.laysC172 s hmax v h w
open Go.RowKit in
theorem Tryz.strconv_Atoi_syntax (s:ByteArray) (hlim:s.size≤281474976710656) (h:Lib.atoiAll s.data.toList=Lib.atoiAll []) (ev:Value) (w:World) (hv:w.cell? ⟨2,0,none⟩=some ev) (hev:ev= .nilIface∨∃te pe,ev= .iface te pe):
 Calls Tryz.prog 114 #[.string s] w fun e w'=>∃N,e= .returned (.tuple #[.int .i64 (0),.iface 266 (.pointer (some ⟨N,0,none⟩))])∧w.heap.size≤N∧w'.heap[N]? = some (.cells #[.string ⟨#[65,116,111,105]⟩,.string s,ev] 283 (0,0))∧Below w.heap.size w w':=Any.strconv_Atoi_syntax Tryz.laysC172 s hlim h ev w hv hev
open Go.RowKit in
theorem Tryz.strconv_Atoi_range (s:ByteArray) (hlim:s.size≤281474976710656) (h:Lib.atoiAll s.data.toList= .range) (ev:Value) (w:World) (hv:w.cell? ⟨3,0,none⟩=some ev) (hev:ev= .nilIface∨∃te pe,ev= .iface te pe):
 Calls Tryz.prog 114 #[.string s] w fun e w'=>∃N,e= .returned (.tuple #[.int .i64 (Lib.atoiSat s.data.toList),.iface 266 (.pointer (some ⟨N,0,none⟩))])∧w.heap.size≤N∧w'.heap[N]? = some (.cells #[.string ⟨#[65,116,111,105]⟩,.string s,ev] 283 (0,0))∧Below w.heap.size w w':=Any.strconv_Atoi_range Tryz.laysC172 s hlim h ev w hv hev
def Tryz.lays146_ren:Go.Shelf.Ren:=⟨fun| 146=>143| 221=>167| 268=>184| 138=>185| 143=>186| 195=>212| 197=>213| 218=>214| 219=>215| 260=>226| 217=>227| 225=>228| 224=>229| 267=>230| 266=>233| 314=>234|n=>n,fun| 9=>9| 31=>55| 3=>3| 4=>4| 0=>0| 105=>293| 21=>21| 5=>5| 46=>156| 119=>258| 139=>261| 138=>260| 146=>309| 51=>305|n=>n,fun| 1=>4| 3=>0| 4=>1|n=>n⟩
theorem Tryz.lays146:Go.Proofs.Lays.n146 Tryz.prog Tryz.lays146_ren:= {
  mixed:=by kernel_rfl
  f138:=Tryz.func185.trans (congrArg some (by kernel_rfl))
  f143:=Tryz.func186.trans (congrArg some (by kernel_rfl))
  f146:=Tryz.func143.trans (congrArg some (by kernel_rfl))
  f195:=Tryz.func212.trans (congrArg some (by kernel_rfl))
  f197:=Tryz.func213.trans (congrArg some (by kernel_rfl))
  f217:=Tryz.func227.trans (congrArg some (by kernel_rfl))
  f218:=Tryz.func214.trans (congrArg some (by kernel_rfl))
  f219:=Tryz.func215.trans (congrArg some (by kernel_rfl))
  f221:=Tryz.func167.trans (congrArg some (by kernel_rfl))
  f224:=Tryz.func229.trans (congrArg some (by kernel_rfl))
  f225:=Tryz.func228.trans (congrArg some (by kernel_rfl))
  f260:=Tryz.func226.trans (congrArg some (by kernel_rfl))
  f266:=Tryz.func233.trans (congrArg some (by kernel_rfl))
  f267:=Tryz.func230.trans (congrArg some (by kernel_rfl))
  f268:=Tryz.func184.trans (congrArg some (by kernel_rfl))
  f314:=Tryz.func234.trans (congrArg some (by kernel_rfl))
  t0:=Tryz.underlying0
  a0:=Tryz.isAgg0
  z0:=Tryz.sizeOf0
  v0:=Tryz.zeroValue0
  t3:=Tryz.underlying3
  a3:=Tryz.isAgg3
  z3:=Tryz.sizeOf3
  v3:=Tryz.zeroValue3
  t4:=Tryz.underlying4
  a4:=Tryz.isAgg4
  z4:=Tryz.sizeOf4
  v4:=Tryz.zeroValue4
  t5:=Tryz.underlying5
  a5:=Tryz.isAgg5
  z5:=Tryz.sizeOf5
  v5:=Tryz.zeroValue5
  t9:=Tryz.underlying9
  a9:=Tryz.isAgg9
  z9:=Tryz.sizeOf9
  v9:=Tryz.zeroValue9
  t21:=Tryz.underlying21
  a21:=Tryz.isAgg21
  z21:=Tryz.sizeOf21
  v21:=Tryz.zeroValue21
  t31:=Tryz.underlying55
  a31:=Tryz.isAgg55
  z31:=Tryz.sizeOf55
  v31:=Tryz.zeroValue55
  t46:=Tryz.underlying156
  a46:=Tryz.isAgg156
  z46:=Tryz.sizeOf156
  v46:=Tryz.zeroValue156
  t51:=Tryz.underlying305
  a51:=Tryz.isAgg305
  z51:=Tryz.sizeOf305
  v51:=Tryz.zeroValue305
  t105:=Tryz.underlying293
  a105:=Tryz.isAgg293
  z105:=Tryz.sizeOf293
  v105:=Tryz.zeroValue293
  t119:=Tryz.underlying258
  a119:=Tryz.isAgg258
  z119:=Tryz.sizeOf258
  t138:=Tryz.underlying260
  a138:=Tryz.isAgg260
  z138:=Tryz.sizeOf260
  v138:=Tryz.zeroValue260
  t139:=Tryz.underlying261
  a139:=Tryz.isAgg261
  z139:=Tryz.sizeOf261
  v139:=Tryz.zeroValue261
  t146:=Tryz.underlying309
  a146:=Tryz.isAgg309
  z146:=Tryz.sizeOf309
  v146:=Tryz.zeroValue309
  g1:=by kernel_rfl
  g3:=by kernel_rfl
  g4:=by kernel_rfl }
open Go.RowKit Go.Lib in
theorem Tryz.strings_Split (s sep:ByteArray) (m:Int) (w:World) (hs:s.size<4294967281) (hm:w.cell? ⟨4,0,none⟩=some (.int .i64 m)) (h1:1≤sep.size):
 Calls Tryz.prog 143 #[.string s,.string sep] w fun e w'=>
  e= .returned (.slice (some ⟨w.heap.size,0,none⟩) (Lib.countB s sep+1) (Lib.countB s sep+1))∧w'=w.alloc (.cells ((Lib.splitB sep 0 (Lib.countB s sep) s).map Value.string).toArray 9):=Any.strings_Split Tryz.lays146 (by kernel_rfl) s sep m w hs hm h1
def Tryz.lays105_ren:Go.Shelf.Ren:=⟨fun| 105=>273| 212=>274| 99=>275| 165=>152| 166=>153| 170=>276| 169=>154| 263=>277| 264=>278| 206=>279| 240=>178| 241=>179| 276=>210| 277=>183|n=>n,fun| 9=>9| 3=>3| 4=>4| 20=>20| 0=>0| 46=>156| 109=>342| 5=>5| 72=>240| 76=>206| 51=>305| 146=>309| 53=>278| 148=>346| 70=>238| 37=>24| 75=>205| 127=>270| 164=>290| 80=>241|n=>n,fun|n=>n⟩
theorem Tryz.lays105:Go.Proofs.Lays.n105 Tryz.prog Tryz.lays105_ren:= {
  mixed:=by kernel_rfl
  f99:=Tryz.func275.trans (congrArg some (by kernel_rfl))
  f105:=Tryz.func273.trans (congrArg some (by kernel_rfl))
  f165:=Tryz.func152.trans (congrArg some (by kernel_rfl))
  f166:=Tryz.func153.trans (congrArg some (by kernel_rfl))
  f169:=Tryz.func154.trans (congrArg some (by kernel_rfl))
  f170:=Tryz.func276.trans (congrArg some (by kernel_rfl))
  f206:=Tryz.func279.trans (congrArg some (by kernel_rfl))
  f212:=Tryz.func274.trans (congrArg some (by kernel_rfl))
  f240:=Tryz.func178.trans (congrArg some (by kernel_rfl))
  f241:=Tryz.func179.trans (congrArg some (by kernel_rfl))
  f263:=Tryz.func277.trans (congrArg some (by kernel_rfl))
  f264:=Tryz.func278.trans (congrArg some (by kernel_rfl))
  f276:=Tryz.func210.trans (congrArg some (by kernel_rfl))
  f277:=Tryz.func183.trans (congrArg some (by kernel_rfl))
  t0:=Tryz.underlying0
  a0:=Tryz.isAgg0
  z0:=Tryz.sizeOf0
  v0:=Tryz.zeroValue0
  t3:=Tryz.underlying3
  a3:=Tryz.isAgg3
  z3:=Tryz.sizeOf3
  v3:=Tryz.zeroValue3
  t4:=Tryz.underlying4
  a4:=Tryz.isAgg4
  z4:=Tryz.sizeOf4
  v4:=Tryz.zeroValue4
  t5:=Tryz.underlying5
  a5:=Tryz.isAgg5
  z5:=Tryz.sizeOf5
  v5:=Tryz.zeroValue5
  t9:=Tryz.underlying9
  a9:=Tryz.isAgg9
  z9:=Tryz.sizeOf9
  v9:=Tryz.zeroValue9
  t20:=Tryz.underlying20
  a20:=Tryz.isAgg20
  z20:=Tryz.sizeOf20
  v20:=Tryz.zeroValue20
  t37:=Tryz.underlying24
  a37:=Tryz.isAgg24
  z37:=Tryz.sizeOf24
  v37:=Tryz.zeroValue24
  t46:=Tryz.underlying156
  a46:=Tryz.isAgg156
  z46:=Tryz.sizeOf156
  v46:=Tryz.zeroValue156
  t51:=Tryz.underlying305
  a51:=Tryz.isAgg305
  z51:=Tryz.sizeOf305
  v51:=Tryz.zeroValue305
  t53:=Tryz.underlying278
  a53:=Tryz.isAgg278
  z53:=Tryz.sizeOf278
  v53:=Tryz.zeroValue278
  t70:=Tryz.underlying238
  a70:=Tryz.isAgg238
  z70:=Tryz.sizeOf238
  v70:=Tryz.zeroValue238
  t72:=Tryz.underlying240
  a72:=Tryz.isAgg240
  z72:=Tryz.sizeOf240
  v72:=Tryz.zeroValue240
  t75:=Tryz.underlying205
  a75:=Tryz.isAgg205
  z75:=Tryz.sizeOf205
  v75:=Tryz.zeroValue205
  t76:=Tryz.underlying206
  a76:=Tryz.isAgg206
  z76:=Tryz.sizeOf206
  v76:=Tryz.zeroValue206
  t109:=Tryz.underlying342
  a109:=Tryz.isAgg342
  z109:=Tryz.sizeOf342
  v109:=Tryz.zeroValue342
  t127:=Tryz.underlying270
  a127:=Tryz.isAgg270
  z127:=Tryz.sizeOf270
  v127:=Tryz.zeroValue270
  t146:=Tryz.underlying309
  a146:=Tryz.isAgg309
  z146:=Tryz.sizeOf309
  v146:=Tryz.zeroValue309
  t148:=Tryz.underlying346
  a148:=Tryz.isAgg346
  z148:=Tryz.sizeOf346
  v148:=Tryz.zeroValue346
  t164:=Tryz.underlying290
  a164:=Tryz.isAgg290
  z164:=Tryz.sizeOf290
  v164:=Tryz.zeroValue290 }
theorem Tryz.Builder_Extra_105:Builder.Extra Tryz.prog Tryz.lays105_ren:= {
  sizeBuilder:=by kernel_rfl
  liesBuilder:=by kernel_rfl
  t5:=Tryz.underlying5
  a5:=Tryz.isAgg5
  z5:=Tryz.sizeOf5
  v5:=Tryz.zeroValue5
  infoByte:=by kernel_rfl
  cellsByte:=by kernel_rfl
  sizeByte:=by kernel_rfl
  neB5:=by decide }
open Go.RowKit Go.Lib in
theorem Tryz.strings_Repeat (s:ByteArray) (c:Nat) (w:World) (hc:c≤9223372036854775807) (hlen:s.size*c≤140737488355328):
 Calls Tryz.prog 273 #[.string s,.int .i64 c] w fun e w'=>e= .returned (.string ⟨(Lib.repeatL s.data.toList c).toArray⟩)∧Below w.heap.size w w':=Any.strings_Repeat Tryz.lays105 Tryz.Builder_Extra_105 s c w hc hlen
def Tryz.lays187_ren:Go.Shelf.Ren:=⟨fun| 187=>171| 255=>202|n=>n,fun| 37=>24| 5=>5| 3=>3|n=>n,fun|n=>n⟩
theorem Tryz.lays187:Go.Proofs.Lays.n187 Tryz.prog Tryz.lays187_ren:= {
  mixed:=by kernel_rfl
  f187:=Tryz.func171.trans (congrArg some (by kernel_rfl))
  f255:=Tryz.func202.trans (congrArg some (by kernel_rfl))
  t3:=Tryz.underlying3
  a3:=Tryz.isAgg3
  z3:=Tryz.sizeOf3
  v3:=Tryz.zeroValue3
  t5:=Tryz.underlying5
  a5:=Tryz.isAgg5
  z5:=Tryz.sizeOf5
  v5:=Tryz.zeroValue5
  t37:=Tryz.underlying24
  a37:=Tryz.isAgg24
  z37:=Tryz.sizeOf24
  v37:=Tryz.zeroValue24 }
open Go.RowKit Go.Lib in
theorem Tryz.bytes_IndexByte_at (a:Addr) (n c:Nat) (xs:List Int) (cv:Int) (w:World) (hx:xs.length=n) (hc:∀i,i<n→w.cell? (a.add i)=some (.int .u8 (xs.getD i 0))):
 Calls Tryz.prog 171 #[.slice (some a) n c,.int .u8 cv] w fun e w'=>e= .returned (.int .i64 (Lib.indexByte (Lib.bytesOf xs) cv.toNat.toUInt8))∧w'=w:=Any.bytes_IndexByte_at Tryz.lays187 a n c xs cv w hx hc
def Tryz.laysSlJ14_ren:Go.Shelf.Ren:=⟨fun| 14=>166| 15=>183|n=>n,fun| 26=>234| 22=>24| 3=>3| 4=>4| 0=>0| 9=>9| 20=>20| 5=>5|n=>n,fun|n=>n⟩
theorem Tryz.laysSlJ14:Go.Proofs.SlLaysJ.n14 Tryz.prog Tryz.laysSlJ14_ren:= {
  mixed:=by kernel_rfl
  f14:=Tryz.func166.trans (congrArg some (by kernel_rfl))
  f15:=Tryz.func183.trans (congrArg some (by kernel_rfl))
  t0:=Tryz.underlying0
  a0:=Tryz.isAgg0
  z0:=Tryz.sizeOf0
  v0:=Tryz.zeroValue0
  t3:=Tryz.underlying3
  a3:=Tryz.isAgg3
  z3:=Tryz.sizeOf3
  v3:=Tryz.zeroValue3
  t4:=Tryz.underlying4
  a4:=Tryz.isAgg4
  z4:=Tryz.sizeOf4
  v4:=Tryz.zeroValue4
  t9:=Tryz.underlying9
  a9:=Tryz.isAgg9
  z9:=Tryz.sizeOf9
  v9:=Tryz.zeroValue9
  t20:=Tryz.underlying20
  a20:=Tryz.isAgg20
  z20:=Tryz.sizeOf20
  v20:=Tryz.zeroValue20
  t22:=Tryz.underlying24
  a22:=Tryz.isAgg24
  z22:=Tryz.sizeOf24
  v22:=Tryz.zeroValue24
  t26:=Tryz.underlying234
  a26:=Tryz.isAgg234
  z26:=Tryz.sizeOf234
  v26:=Tryz.zeroValue234
  t5:=Tryz.underlying5
  z5:=Tryz.sizeOf5
  i5:=by kernel_rfl }
open Go.RowKit Go.Lib in
theorem Tryz.bytes_Join_many (b o n c:Nat) (vs:List Value) (ls:List (List UInt8)) (sv:Value) (sep:List UInt8) (w:World) (hn:ls.length=n) (h2:2≤n) (hP:Lib.PartsAt w ⟨b,o,none⟩ vs ls) (hcap:n≤c) (hS:Lib.HoldsBytes w sv sep) (hn47:n≤140737488355328) (hlen:Lib.lens ls+sep.length*(n-1)≤140737488355328):
 Calls Tryz.prog 166 #[.slice (some ⟨b,o,none⟩) n c,sv] w fun e w'=>∃v',e= .returned v'∧Lib.FreshBytes w.heap.size w' v' (Lib.join ls sep)∧Below w.heap.size w w':=Any.bytes_Join_many Tryz.laysSlJ14 b o n c vs ls sv sep w hn h2 hP hcap hS hn47 hlen
open Go.RowKit Go.Lib in
theorem Tryz.bytes_Join_none (p:Option Addr) (c:Nat) (sv:Value) (w:World):
 Calls Tryz.prog 166 #[.slice p 0 c,sv] w fun e w'=>e= .returned (.slice (some ⟨w.heap.size,0,none⟩) 0 0)∧w'=w.alloc (.cells #[] 5):=Any.bytes_Join_none Tryz.laysSlJ14 p c sv w
open Go.RowKit Go.Lib in
theorem Tryz.bytes_Join_one (b o c:Nat) (ad0:Addr) (c0:Nat) (l0:List UInt8) (sv:Value) (w:World) (hcell:w.cell? ⟨b,o,none⟩=some (.slice (some ad0) l0.length c0)) (hc:∀(i:Nat) x,l0[i]? = some x→w.cell? (ad0.add i)=some (.int .u8 (x.toNat:Int))) (h0:0<l0.length) (hs:l0.length≤140737488355328):
 Calls Tryz.prog 166 #[.slice (some ⟨b,o,none⟩) 1 c,sv] w fun e w'=>∃v',e= .returned v'∧Lib.FreshBytes w.heap.size w' v' l0∧Below w.heap.size w w':=Any.bytes_Join_one Tryz.laysSlJ14 b o c ad0 c0 l0 sv w hcell hc h0 hs
open Go.RowKit Go.Lib in
theorem Tryz.bytes_Join_one_empty (b o c:Nat) (p0:Option Addr) (c0:Nat) (sv:Value) (w:World) (hcell:w.cell? ⟨b,o,none⟩=some (.slice p0 0 c0)):
 Calls Tryz.prog 166 #[.slice (some ⟨b,o,none⟩) 1 c,sv] w fun e w'=>e= .returned (.slice none 0 0)∧w'=w:=Any.bytes_Join_one_empty Tryz.laysSlJ14 b o c p0 c0 sv w hcell
end Go.Proofs
