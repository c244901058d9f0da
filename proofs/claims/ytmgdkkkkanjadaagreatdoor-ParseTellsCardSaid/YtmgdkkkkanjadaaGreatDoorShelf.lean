/-
  DERIVED: THE SHELF's CONTRACTS AT THIS DUMP,IN PLAIN WORDS (tools/lay-plain.mjs out of 'TryzShelf.lean',which tools/lay-shelf.mjs wrote): THE SAME DECLARATIONS UNDER THE SAME NAMES: 'import','namespace','open','def','theorem' AND NOTHING ELSE: no command of the shelf's: FOR A HAND-IN. Each laying: the table of numbers ('.._ren') and one theorem,a field a fact of the dump's own or the kernel's comparison;each contract: ONE APPLICATION.
-/
import Derived.Shelf.Strings.Trim
import Derived.Shelf.Small.Utf8
import Derived.Shelf.Small.Strs
import Derived.Shelf.Utf8.RuneCount
import Derived.Shelf.Strconv.Atoi
import Derived.Shelf.Strconv.Itoa0
import Derived.Shelf.Strconv.Itoa1
import Derived.Shelf.LaysM
import Derived.Shelf.Strconv.Itoa2
import Derived.Shelf.Strconv.Itoa3
import Derived.Shelf.Strconv.AtoiErrFast
import Derived.Shelf.Strconv.ParseIntEmpty
import Derived.Shelf.Strconv.AtoiFail
import Derived.Shelf.Strconv.Clone
import Derived.Shelf.Strconv.SyntaxError
import Derived.Shelf.LaysC
import Derived.Shelf.Strconv.ToError
import Derived.Shelf.Strconv.Lower
import Derived.Shelf.Strconv.ParseUint10
import Derived.Shelf.Strconv.ParseUint10Empty
import Derived.Shelf.Strconv.ParseUint10Any
import Derived.Shelf.Strconv.ParseInt10
import Derived.Shelf.Strconv.AtoiLong
import Derived.Shelf.Strconv.AtoiInnerAll
import Derived.Shelf.Strconv.RangeError
import Derived.Shelf.Strconv.ToErrorRange
import Derived.Shelf.Strconv.AtoiAll
import Derived.Shelf.Strconv.ErrVarAll
import Derived.Shelf.Strconv.ParseUintEmpty
import Derived.Shelf.Strconv.ParseUint10b64
import Derived.Shelf.Strconv.ParseUint10b32
import Derived.Shelf.Strconv.ParseUint10b16
import Derived.Shelf.Strconv.ParseUint10b8
import Derived.Shelf.Strings.Search1
import Derived.Shelf.Strings.Prefix
import Derived.Shelf.Unicode.Props
import Derived.Shelf.Unicode.PropsLaid
import Derived.Shelf.Unicode.Decode
import Derived.Shelf.Strings.Runes
import Derived.Shelf.Strings.RuneCount
import Derived.Shelf.Strings.AsciiSet
import Derived.Shelf.Unicode.DecodeSlow
import Derived.Shelf.Unicode.DecodeAny
import Derived.Shelf.Unicode.Is16White
import Derived.Shelf.Unicode.IsSpaceAny
import Derived.Shelf.Unicode.DecodeLast
import Derived.Shelf.Unicode.Is16WhiteD
import Derived.Shelf.Unicode.IsSpaceAnyD
import Derived.Shelf.Unicode.Is16Any
import Derived.Shelf.Unicode.Is32Any
import Derived.Shelf.Unicode.ExclAny
import Derived.Shelf.Unicode.PredsAny
import Derived.Shelf.Unicode.PredsPay
import Derived.Ground.SlgfProg
import Derived.Shelf.SlicesE.IndexFunc
import Derived.Test.YtmgdkkkkanjadaaGreatDoorProg
namespace Go.Proofs
open Go.Shelf
def Tryz.lays161_ren : Go.Shelf.Ren:=⟨fun | 161=>115 | 231=>129 | 227=>126 | 233=>130 | 235=>131 | 228=>140 | 197=>80 | 151=>99 | 260=>108 | 152=>116 | 137=>132 | 119=>133 | 224=>134 | 225=>135 | 217=>142 | 266=>147 | n=>n,fun | 9=>9 | 4=>4 | 3=>3 | 5=>5 | 117=>157 | 116=>156 | 0=>0 | 124=>160 | 105=>112 | 21=>21 | 119=>126 | 46=>139 | 139=>142 | 138=>141 | n=>n,fun | 3=>2 | 4=>3 | n=>n⟩
theorem Tryz.lays161 : Go.Proofs.Lays.n161 Tryz.prog Tryz.lays161_ren:={
  mixed:=by kernel_rfl
  f119:=Tryz.func133.trans (congrArg some (by kernel_rfl))
  f137:=Tryz.func132.trans (congrArg some (by kernel_rfl))
  f151:=Tryz.func99.trans (congrArg some (by kernel_rfl))
  f152:=Tryz.func116.trans (congrArg some (by kernel_rfl))
  f161:=Tryz.func115.trans (congrArg some (by kernel_rfl))
  f197:=Tryz.func80.trans (congrArg some (by kernel_rfl))
  f217:=Tryz.func142.trans (congrArg some (by kernel_rfl))
  f224:=Tryz.func134.trans (congrArg some (by kernel_rfl))
  f225:=Tryz.func135.trans (congrArg some (by kernel_rfl))
  f227:=Tryz.func126.trans (congrArg some (by kernel_rfl))
  f228:=Tryz.func140.trans (congrArg some (by kernel_rfl))
  f231:=Tryz.func129.trans (congrArg some (by kernel_rfl))
  f233:=Tryz.func130.trans (congrArg some (by kernel_rfl))
  f235:=Tryz.func131.trans (congrArg some (by kernel_rfl))
  f260:=Tryz.func108.trans (congrArg some (by kernel_rfl))
  f266:=Tryz.func147.trans (congrArg some (by kernel_rfl))
  t0:=Tryz.underlying0
  a0:=Tryz.isAgg0
  z0:=Tryz.sizeOf0
  v0:=Tryz.zeroValue0
  t3:=Tryz.underlying3
  a3:=Tryz.isAgg3
  z3:=Tryz.sizeOf3
  v3:=Tryz.zeroValue3
  t4:=Tryz.underlying4
  a4:=Tryz.isAgg4
  z4:=Tryz.sizeOf4
  v4:=Tryz.zeroValue4
  t5:=Tryz.underlying5
  a5:=Tryz.isAgg5
  z5:=Tryz.sizeOf5
  v5:=Tryz.zeroValue5
  t9:=Tryz.underlying9
  a9:=Tryz.isAgg9
  z9:=Tryz.sizeOf9
  v9:=Tryz.zeroValue9
  t21:=Tryz.underlying21
  a21:=Tryz.isAgg21
  z21:=Tryz.sizeOf21
  v21:=Tryz.zeroValue21
  t46:=Tryz.underlying139
  a46:=Tryz.isAgg139
  z46:=Tryz.sizeOf139
  v46:=Tryz.zeroValue139
  t105:=Tryz.underlying112
  a105:=Tryz.isAgg112
  z105:=Tryz.sizeOf112
  v105:=Tryz.zeroValue112
  t116:=Tryz.underlying156
  a116:=Tryz.isAgg156
  z116:=Tryz.sizeOf156
  t117:=Tryz.underlying157
  a117:=Tryz.isAgg157
  z117:=Tryz.sizeOf157
  v117:=Tryz.zeroValue157
  t119:=Tryz.underlying126
  a119:=Tryz.isAgg126
  z119:=Tryz.sizeOf126
  t124:=Tryz.underlying160
  a124:=Tryz.isAgg160
  z124:=Tryz.sizeOf160
  v124:=Tryz.zeroValue160
  t138:=Tryz.underlying141
  a138:=Tryz.isAgg141
  z138:=Tryz.sizeOf141
  v138:=Tryz.zeroValue141
  t139:=Tryz.underlying142
  a139:=Tryz.isAgg142
  z139:=Tryz.sizeOf142
  v139:=Tryz.zeroValue142
  g3:=by kernel_rfl
  g4:=by kernel_rfl }
def Tryz.lays162_ren : Go.Shelf.Ren:=⟨fun | 162=>114 | 232=>125 | 227=>126 | 234=>127 | 236=>128 | 228=>140 | 271=>141 | 151=>99 | 120=>146 | 197=>80 | 152=>116 | 260=>108 | 137=>132 | 119=>133 | 224=>134 | 225=>135 | 217=>142 | 266=>147 | n=>n,fun | 9=>9 | 4=>4 | 3=>3 | 5=>5 | 117=>157 | 116=>156 | 0=>0 | 124=>160 | 21=>21 | 105=>112 | 46=>139 | 119=>126 | 139=>142 | 138=>141 | n=>n,fun | 3=>2 | 4=>3 | n=>n⟩
theorem Tryz.lays162 : Go.Proofs.Lays.n162 Tryz.prog Tryz.lays162_ren:={
  mixed:=by kernel_rfl
  f119:=Tryz.func133.trans (congrArg some (by kernel_rfl))
  f120:=Tryz.func146.trans (congrArg some (by kernel_rfl))
  f137:=Tryz.func132.trans (congrArg some (by kernel_rfl))
  f151:=Tryz.func99.trans (congrArg some (by kernel_rfl))
  f152:=Tryz.func116.trans (congrArg some (by kernel_rfl))
  f162:=Tryz.func114.trans (congrArg some (by kernel_rfl))
  f197:=Tryz.func80.trans (congrArg some (by kernel_rfl))
  f217:=Tryz.func142.trans (congrArg some (by kernel_rfl))
  f224:=Tryz.func134.trans (congrArg some (by kernel_rfl))
  f225:=Tryz.func135.trans (congrArg some (by kernel_rfl))
  f227:=Tryz.func126.trans (congrArg some (by kernel_rfl))
  f228:=Tryz.func140.trans (congrArg some (by kernel_rfl))
  f232:=Tryz.func125.trans (congrArg some (by kernel_rfl))
  f234:=Tryz.func127.trans (congrArg some (by kernel_rfl))
  f236:=Tryz.func128.trans (congrArg some (by kernel_rfl))
  f260:=Tryz.func108.trans (congrArg some (by kernel_rfl))
  f266:=Tryz.func147.trans (congrArg some (by kernel_rfl))
  f271:=Tryz.func141.trans (congrArg some (by kernel_rfl))
  t0:=Tryz.underlying0
  a0:=Tryz.isAgg0
  z0:=Tryz.sizeOf0
  v0:=Tryz.zeroValue0
  t3:=Tryz.underlying3
  a3:=Tryz.isAgg3
  z3:=Tryz.sizeOf3
  v3:=Tryz.zeroValue3
  t4:=Tryz.underlying4
  a4:=Tryz.isAgg4
  z4:=Tryz.sizeOf4
  v4:=Tryz.zeroValue4
  t5:=Tryz.underlying5
  a5:=Tryz.isAgg5
  z5:=Tryz.sizeOf5
  v5:=Tryz.zeroValue5
  t9:=Tryz.underlying9
  a9:=Tryz.isAgg9
  z9:=Tryz.sizeOf9
  v9:=Tryz.zeroValue9
  t21:=Tryz.underlying21
  a21:=Tryz.isAgg21
  z21:=Tryz.sizeOf21
  v21:=Tryz.zeroValue21
  t46:=Tryz.underlying139
  a46:=Tryz.isAgg139
  z46:=Tryz.sizeOf139
  v46:=Tryz.zeroValue139
  t105:=Tryz.underlying112
  a105:=Tryz.isAgg112
  z105:=Tryz.sizeOf112
  v105:=Tryz.zeroValue112
  t116:=Tryz.underlying156
  a116:=Tryz.isAgg156
  z116:=Tryz.sizeOf156
  t117:=Tryz.underlying157
  a117:=Tryz.isAgg157
  z117:=Tryz.sizeOf157
  v117:=Tryz.zeroValue157
  t119:=Tryz.underlying126
  a119:=Tryz.isAgg126
  z119:=Tryz.sizeOf126
  t124:=Tryz.underlying160
  a124:=Tryz.isAgg160
  z124:=Tryz.sizeOf160
  v124:=Tryz.zeroValue160
  t138:=Tryz.underlying141
  a138:=Tryz.isAgg141
  z138:=Tryz.sizeOf141
  v138:=Tryz.zeroValue141
  t139:=Tryz.underlying142
  a139:=Tryz.isAgg142
  z139:=Tryz.sizeOf142
  v139:=Tryz.zeroValue142
  g3:=by kernel_rfl
  g4:=by kernel_rfl }
def Tryz.lays119_ren : Go.Shelf.Ren:=⟨fun | 119=>133 | n=>n,fun | 21=>21 | 4=>4 | n=>n,fun | n=>n⟩
theorem Tryz.lays119 : Go.Proofs.Lays.n119 Tryz.prog Tryz.lays119_ren:={
  mixed:=by kernel_rfl
  f119:=Tryz.func133.trans (congrArg some (by kernel_rfl))
  t4:=Tryz.underlying4
  a4:=Tryz.isAgg4
  z4:=Tryz.sizeOf4
  v4:=Tryz.zeroValue4
  t21:=Tryz.underlying21
  a21:=Tryz.isAgg21
  z21:=Tryz.sizeOf21
  v21:=Tryz.zeroValue21 }
theorem Tryz.utf8_ValidRune (r : Int) (w : World) :
    Calls Tryz.prog 133 #[.int .i32 r] w fun e w' => e = .returned (.bool (Lib.validRune r)) ∧ w' = w:=Any.utf8_ValidRune Tryz.lays119 r w
def Tryz.lays137_ren : Go.Shelf.Ren:=⟨fun | 137=>132 | 217=>142 | 266=>147 | n=>n,fun | 9=>9 | 5=>5 | 3=>3 | n=>n,fun | n=>n⟩
theorem Tryz.lays137 : Go.Proofs.Lays.n137 Tryz.prog Tryz.lays137_ren:={
  mixed:=by kernel_rfl
  f137:=Tryz.func132.trans (congrArg some (by kernel_rfl))
  f217:=Tryz.func142.trans (congrArg some (by kernel_rfl))
  f266:=Tryz.func147.trans (congrArg some (by kernel_rfl))
  t3:=Tryz.underlying3
  a3:=Tryz.isAgg3
  z3:=Tryz.sizeOf3
  v3:=Tryz.zeroValue3
  t5:=Tryz.underlying5
  a5:=Tryz.isAgg5
  z5:=Tryz.sizeOf5
  v5:=Tryz.zeroValue5
  t9:=Tryz.underlying9
  a9:=Tryz.isAgg9
  z9:=Tryz.sizeOf9
  v9:=Tryz.zeroValue9 }
open Go.RowKit in
theorem Tryz.strings_IndexByte (s : ByteArray) (c : Int) (w : World) :
    Calls Tryz.prog 132 #[.string s,.int .u8 c] w fun e w' => e = .returned (.int .i64 (Lib.indexByte s.data.toList c.toNat.toUInt8)) ∧ w' = w:=Any.strings_IndexByte Tryz.lays137 s c w
def Tryz.lays195_ren : Go.Shelf.Ren:=⟨fun | 195=>96 | n=>n,fun | 9=>9 | 3=>3 | 0=>0 | 4=>4 | n=>n,fun | n=>n⟩
theorem Tryz.lays195 : Go.Proofs.Lays.n195 Tryz.prog Tryz.lays195_ren:={
  mixed:=by kernel_rfl
  f195:=Tryz.func96.trans (congrArg some (by kernel_rfl))
  t0:=Tryz.underlying0
  a0:=Tryz.isAgg0
  z0:=Tryz.sizeOf0
  v0:=Tryz.zeroValue0
  t3:=Tryz.underlying3
  a3:=Tryz.isAgg3
  z3:=Tryz.sizeOf3
  v3:=Tryz.zeroValue3
  t4:=Tryz.underlying4
  a4:=Tryz.isAgg4
  z4:=Tryz.sizeOf4
  v4:=Tryz.zeroValue4
  t9:=Tryz.underlying9
  a9:=Tryz.isAgg9
  z9:=Tryz.sizeOf9
  v9:=Tryz.zeroValue9 }
open Go.RowKit in
theorem Tryz.utf8_RuneCountInString (s : ByteArray) (w : World) (hs : s.size < 9223372036854775807) :
    Calls Tryz.prog 96 #[.string s] w fun e w' => e = .returned (.int .i64 (Lib.runeCount s)) ∧ ∃ pos,w' = w.iter s pos:=Any.utf8_RuneCountInString Tryz.lays195 s w hs
def Tryz.lays172_ren : Go.Shelf.Ren:=⟨fun | 172=>69 | 244=>100 | 245=>101 | 247=>117 | 279=>118 | 280=>119 | 281=>120 | 282=>121 | 287=>136 | 316=>137 | 171=>139 | 205=>138 | 321=>143 | 322=>144 | 243=>145 | 246=>148 | 283=>149 | 284=>150 | 285=>151 | 286=>152 | 129=>154 | 317=>153 | 318=>155 | 319=>156 | 320=>157 | 337=>158 | 338=>159 | n=>n,fun | 9=>9 | 3=>3 | 75=>101 | 76=>102 | 4=>4 | 5=>5 | 167=>132 | 37=>133 | 0=>0 | 85=>134 | 2=>2 | 168=>136 | 53=>164 | 175=>165 | 46=>139 | 210=>169 | 127=>176 | 145=>179 | 143=>177 | 21=>21 | 171=>181 | 173=>184 | 212=>187 | 51=>125 | 20=>20 | 213=>188 | 232=>192 | 233=>193 | 80=>89 | n=>n,fun | 15=>4 | 16=>5 | 17=>7 | 18=>8 | 19=>9 | n=>n⟩
theorem Tryz.lays172 : Go.Proofs.Lays.n172 Tryz.prog Tryz.lays172_ren:={
  mixed:=by kernel_rfl
  f129:=Tryz.func154.trans (congrArg some (by kernel_rfl))
  f171:=Tryz.func139.trans (congrArg some (by kernel_rfl))
  f172:=Tryz.func69.trans (congrArg some (by kernel_rfl))
  f205:=Tryz.func138.trans (congrArg some (by kernel_rfl))
  f243:=Tryz.func145.trans (congrArg some (by kernel_rfl))
  f244:=Tryz.func100.trans (congrArg some (by kernel_rfl))
  f245:=Tryz.func101.trans (congrArg some (by kernel_rfl))
  f246:=Tryz.func148.trans (congrArg some (by kernel_rfl))
  f247:=Tryz.func117.trans (congrArg some (by kernel_rfl))
  f279:=Tryz.func118.trans (congrArg some (by kernel_rfl))
  f280:=Tryz.func119.trans (congrArg some (by kernel_rfl))
  f281:=Tryz.func120.trans (congrArg some (by kernel_rfl))
  f282:=Tryz.func121.trans (congrArg some (by kernel_rfl))
  f283:=Tryz.func149.trans (congrArg some (by kernel_rfl))
  f284:=Tryz.func150.trans (congrArg some (by kernel_rfl))
  f285:=Tryz.func151.trans (congrArg some (by kernel_rfl))
  f286:=Tryz.func152.trans (congrArg some (by kernel_rfl))
  f287:=Tryz.func136.trans (congrArg some (by kernel_rfl))
  f316:=Tryz.func137.trans (congrArg some (by kernel_rfl))
  f317:=Tryz.func153.trans (congrArg some (by kernel_rfl))
  f318:=Tryz.func155.trans (congrArg some (by kernel_rfl))
  f319:=Tryz.func156.trans (congrArg some (by kernel_rfl))
  f320:=Tryz.func157.trans (congrArg some (by kernel_rfl))
  f321:=Tryz.func143.trans (congrArg some (by kernel_rfl))
  f322:=Tryz.func144.trans (congrArg some (by kernel_rfl))
  f337:=Tryz.func158.trans (congrArg some (by kernel_rfl))
  f338:=Tryz.func159.trans (congrArg some (by kernel_rfl))
  t0:=Tryz.underlying0
  a0:=Tryz.isAgg0
  z0:=Tryz.sizeOf0
  v0:=Tryz.zeroValue0
  t2:=Tryz.underlying2
  a2:=Tryz.isAgg2
  z2:=Tryz.sizeOf2
  v2:=Tryz.zeroValue2
  t3:=Tryz.underlying3
  a3:=Tryz.isAgg3
  z3:=Tryz.sizeOf3
  v3:=Tryz.zeroValue3
  t4:=Tryz.underlying4
  a4:=Tryz.isAgg4
  z4:=Tryz.sizeOf4
  v4:=Tryz.zeroValue4
  t5:=Tryz.underlying5
  a5:=Tryz.isAgg5
  z5:=Tryz.sizeOf5
  v5:=Tryz.zeroValue5
  t9:=Tryz.underlying9
  a9:=Tryz.isAgg9
  z9:=Tryz.sizeOf9
  v9:=Tryz.zeroValue9
  t20:=Tryz.underlying20
  a20:=Tryz.isAgg20
  z20:=Tryz.sizeOf20
  v20:=Tryz.zeroValue20
  t21:=Tryz.underlying21
  a21:=Tryz.isAgg21
  z21:=Tryz.sizeOf21
  v21:=Tryz.zeroValue21
  t37:=Tryz.underlying133
  a37:=Tryz.isAgg133
  z37:=Tryz.sizeOf133
  v37:=Tryz.zeroValue133
  t46:=Tryz.underlying139
  a46:=Tryz.isAgg139
  z46:=Tryz.sizeOf139
  v46:=Tryz.zeroValue139
  t51:=Tryz.underlying125
  a51:=Tryz.isAgg125
  z51:=Tryz.sizeOf125
  v51:=Tryz.zeroValue125
  t53:=Tryz.underlying164
  a53:=Tryz.isAgg164
  z53:=Tryz.sizeOf164
  v53:=Tryz.zeroValue164
  t75:=Tryz.underlying101
  a75:=Tryz.isAgg101
  z75:=Tryz.sizeOf101
  v75:=Tryz.zeroValue101
  t76:=Tryz.underlying102
  a76:=Tryz.isAgg102
  z76:=Tryz.sizeOf102
  v76:=Tryz.zeroValue102
  t85:=Tryz.underlying134
  a85:=Tryz.isAgg134
  z85:=Tryz.sizeOf134
  v85:=Tryz.zeroValue134
  t127:=Tryz.underlying176
  a127:=Tryz.isAgg176
  z127:=Tryz.sizeOf176
  v127:=Tryz.zeroValue176
  t143:=Tryz.underlying177
  a143:=Tryz.isAgg177
  z143:=Tryz.sizeOf177
  v143:=Tryz.zeroValue177
  t145:=Tryz.underlying179
  a145:=Tryz.isAgg179
  z145:=Tryz.sizeOf179
  v145:=Tryz.zeroValue179
  t167:=Tryz.underlying132
  a167:=Tryz.isAgg132
  z167:=Tryz.sizeOf132
  v167:=Tryz.zeroValue132
  t168:=Tryz.underlying136
  a168:=Tryz.isAgg136
  z168:=Tryz.sizeOf136
  v168:=Tryz.zeroValue136
  t171:=Tryz.underlying181
  a171:=Tryz.isAgg181
  z171:=Tryz.sizeOf181
  v171:=Tryz.zeroValue181
  t173:=Tryz.underlying184
  a173:=Tryz.isAgg184
  z173:=Tryz.sizeOf184
  v173:=Tryz.zeroValue184
  t175:=Tryz.underlying165
  a175:=Tryz.isAgg165
  z175:=Tryz.sizeOf165
  v175:=Tryz.zeroValue165
  t210:=Tryz.underlying169
  a210:=Tryz.isAgg169
  z210:=Tryz.sizeOf169
  v210:=Tryz.zeroValue169
  t212:=Tryz.underlying187
  a212:=Tryz.isAgg187
  z212:=Tryz.sizeOf187
  v212:=Tryz.zeroValue187
  t213:=Tryz.underlying188
  a213:=Tryz.isAgg188
  z213:=Tryz.sizeOf188
  t232:=Tryz.underlying192
  a232:=Tryz.isAgg192
  z232:=Tryz.sizeOf192
  v232:=Tryz.zeroValue192
  t233:=Tryz.underlying193
  a233:=Tryz.isAgg193
  z233:=Tryz.sizeOf193
  v233:=Tryz.zeroValue193
  g15:=by kernel_rfl
  g16:=by kernel_rfl
  g17:=by kernel_rfl
  g18:=by kernel_rfl
  g19:=by kernel_rfl }
open Go.RowKit in
theorem Tryz.strconv_Atoi (s : ByteArray) (n : Int) (hl : s.size ≤ 18) (h : Lib.atoi s.data.toList = some n) (w : World) :
    Calls Tryz.prog 69 #[.string s] w fun e w' => e = .returned (.tuple #[.int .i64 n,.nilIface]) ∧ ∃ t,w' = Lib.bytesWorld w 5 t:=Any.strconv_Atoi Tryz.lays172 s n hl h w
def Tryz.laysC172_ren : Go.Shelf.Ren:=⟨fun | 172=>69 | 244=>100 | 245=>101 | 247=>117 | 279=>118 | 280=>119 | 281=>120 | 282=>121 | 287=>136 | 316=>137 | 171=>139 | 205=>138 | 321=>143 | 322=>144 | 243=>145 | 246=>148 | 283=>149 | 284=>150 | 285=>151 | 286=>152 | 129=>154 | 317=>153 | 318=>155 | 319=>156 | 320=>157 | 337=>158 | 338=>159 | n=>n,fun | 9=>9 | 3=>3 | 75=>101 | 76=>102 | 4=>4 | 5=>5 | 167=>132 | 37=>133 | 0=>0 | 85=>134 | 2=>2 | 168=>136 | 53=>164 | 175=>165 | 46=>139 | 210=>169 | 127=>176 | 145=>179 | 143=>177 | 21=>21 | 171=>181 | 173=>184 | 212=>187 | 51=>125 | 20=>20 | 213=>188 | 232=>192 | 233=>193 | 80=>89 | n=>n,fun | 15=>4 | 16=>5 | 17=>7 | 18=>8 | 19=>9 | n=>n⟩
theorem Tryz.laysC172 : Go.Proofs.LaysC.n172 Tryz.prog Tryz.laysC172_ren:={
  mixed:=by kernel_rfl
  f129:=Tryz.func154.trans (congrArg some (by kernel_rfl))
  f171:=Tryz.func139.trans (congrArg some (by kernel_rfl))
  f172:=Tryz.func69.trans (congrArg some (by kernel_rfl))
  f205:=Tryz.func138.trans (congrArg some (by kernel_rfl))
  f243:=Tryz.func145.trans (congrArg some (by kernel_rfl))
  f244:=Tryz.func100.trans (congrArg some (by kernel_rfl))
  f245:=Tryz.func101.trans (congrArg some (by kernel_rfl))
  f246:=Tryz.func148.trans (congrArg some (by kernel_rfl))
  f247:=Tryz.func117.trans (congrArg some (by kernel_rfl))
  f279:=Tryz.func118.trans (congrArg some (by kernel_rfl))
  f280:=Tryz.func119.trans (congrArg some (by kernel_rfl))
  f281:=Tryz.func120.trans (congrArg some (by kernel_rfl))
  f282:=Tryz.func121.trans (congrArg some (by kernel_rfl))
  f283:=Tryz.func149.trans (congrArg some (by kernel_rfl))
  f284:=Tryz.func150.trans (congrArg some (by kernel_rfl))
  f285:=Tryz.func151.trans (congrArg some (by kernel_rfl))
  f286:=Tryz.func152.trans (congrArg some (by kernel_rfl))
  f287:=Tryz.func136.trans (congrArg some (by kernel_rfl))
  f316:=Tryz.func137.trans (congrArg some (by kernel_rfl))
  f317:=Tryz.func153.trans (congrArg some (by kernel_rfl))
  f318:=Tryz.func155.trans (congrArg some (by kernel_rfl))
  f319:=Tryz.func156.trans (congrArg some (by kernel_rfl))
  f320:=Tryz.func157.trans (congrArg some (by kernel_rfl))
  f321:=Tryz.func143.trans (congrArg some (by kernel_rfl))
  f322:=Tryz.func144.trans (congrArg some (by kernel_rfl))
  f337:=Tryz.func158.trans (congrArg some (by kernel_rfl))
  f338:=Tryz.func159.trans (congrArg some (by kernel_rfl))
  t0:=Tryz.underlying0
  a0:=Tryz.isAgg0
  z0:=Tryz.sizeOf0
  v0:=Tryz.zeroValue0
  t2:=Tryz.underlying2
  a2:=Tryz.isAgg2
  z2:=Tryz.sizeOf2
  v2:=Tryz.zeroValue2
  t3:=Tryz.underlying3
  a3:=Tryz.isAgg3
  z3:=Tryz.sizeOf3
  v3:=Tryz.zeroValue3
  t4:=Tryz.underlying4
  a4:=Tryz.isAgg4
  z4:=Tryz.sizeOf4
  v4:=Tryz.zeroValue4
  t5:=Tryz.underlying5
  a5:=Tryz.isAgg5
  z5:=Tryz.sizeOf5
  v5:=Tryz.zeroValue5
  t9:=Tryz.underlying9
  a9:=Tryz.isAgg9
  z9:=Tryz.sizeOf9
  v9:=Tryz.zeroValue9
  t20:=Tryz.underlying20
  a20:=Tryz.isAgg20
  z20:=Tryz.sizeOf20
  v20:=Tryz.zeroValue20
  t21:=Tryz.underlying21
  a21:=Tryz.isAgg21
  z21:=Tryz.sizeOf21
  v21:=Tryz.zeroValue21
  t37:=Tryz.underlying133
  a37:=Tryz.isAgg133
  z37:=Tryz.sizeOf133
  v37:=Tryz.zeroValue133
  t46:=Tryz.underlying139
  a46:=Tryz.isAgg139
  z46:=Tryz.sizeOf139
  v46:=Tryz.zeroValue139
  t51:=Tryz.underlying125
  a51:=Tryz.isAgg125
  z51:=Tryz.sizeOf125
  v51:=Tryz.zeroValue125
  t53:=Tryz.underlying164
  a53:=Tryz.isAgg164
  z53:=Tryz.sizeOf164
  v53:=Tryz.zeroValue164
  t75:=Tryz.underlying101
  a75:=Tryz.isAgg101
  z75:=Tryz.sizeOf101
  v75:=Tryz.zeroValue101
  t76:=Tryz.underlying102
  a76:=Tryz.isAgg102
  z76:=Tryz.sizeOf102
  v76:=Tryz.zeroValue102
  t85:=Tryz.underlying134
  a85:=Tryz.isAgg134
  z85:=Tryz.sizeOf134
  v85:=Tryz.zeroValue134
  t127:=Tryz.underlying176
  a127:=Tryz.isAgg176
  z127:=Tryz.sizeOf176
  v127:=Tryz.zeroValue176
  t143:=Tryz.underlying177
  a143:=Tryz.isAgg177
  z143:=Tryz.sizeOf177
  v143:=Tryz.zeroValue177
  t145:=Tryz.underlying179
  a145:=Tryz.isAgg179
  z145:=Tryz.sizeOf179
  v145:=Tryz.zeroValue179
  t167:=Tryz.underlying132
  a167:=Tryz.isAgg132
  z167:=Tryz.sizeOf132
  v167:=Tryz.zeroValue132
  t168:=Tryz.underlying136
  a168:=Tryz.isAgg136
  z168:=Tryz.sizeOf136
  v168:=Tryz.zeroValue136
  t171:=Tryz.underlying181
  a171:=Tryz.isAgg181
  z171:=Tryz.sizeOf181
  v171:=Tryz.zeroValue181
  t173:=Tryz.underlying184
  a173:=Tryz.isAgg184
  z173:=Tryz.sizeOf184
  v173:=Tryz.zeroValue184
  t175:=Tryz.underlying165
  a175:=Tryz.isAgg165
  z175:=Tryz.sizeOf165
  v175:=Tryz.zeroValue165
  t210:=Tryz.underlying169
  a210:=Tryz.isAgg169
  z210:=Tryz.sizeOf169
  v210:=Tryz.zeroValue169
  t212:=Tryz.underlying187
  a212:=Tryz.isAgg187
  z212:=Tryz.sizeOf187
  v212:=Tryz.zeroValue187
  t213:=Tryz.underlying188
  a213:=Tryz.isAgg188
  z213:=Tryz.sizeOf188
  t232:=Tryz.underlying192
  a232:=Tryz.isAgg192
  z232:=Tryz.sizeOf192
  v232:=Tryz.zeroValue192
  t233:=Tryz.underlying193
  a233:=Tryz.isAgg193
  z233:=Tryz.sizeOf193
  v233:=Tryz.zeroValue193
  g15:=by kernel_rfl
  g16:=by kernel_rfl
  g17:=by kernel_rfl
  g18:=by kernel_rfl
  g19:=by kernel_rfl
  t80:=Tryz.underlying89
  a80:=Tryz.isAgg89
  z80:=Tryz.sizeOf89
  v80:=Tryz.zeroValue89
  i0:=by kernel_rfl
  i2:=by kernel_rfl
  i3:=by kernel_rfl
  i4:=by kernel_rfl
  i5:=by kernel_rfl
  i9:=by kernel_rfl
  i20:=by kernel_rfl
  i21:=by kernel_rfl
  i37:=by kernel_rfl
  i46:=by kernel_rfl
  i51:=by kernel_rfl
  i53:=by kernel_rfl
  i75:=by kernel_rfl
  i76:=by kernel_rfl
  i80:=by kernel_rfl
  i85:=by kernel_rfl
  i127:=by kernel_rfl
  i143:=by kernel_rfl
  i145:=by kernel_rfl
  i167:=by kernel_rfl
  i168:=by kernel_rfl
  i171:=by kernel_rfl
  i173:=by kernel_rfl
  i175:=by kernel_rfl
  i210:=by kernel_rfl
  i212:=by kernel_rfl
  i232:=by kernel_rfl
  i233:=by kernel_rfl
  m15:=by kernel_rfl
  m16:=by kernel_rfl
  m17:=by kernel_rfl
  m18:=by kernel_rfl
  m19:=by kernel_rfl
  c0:=by kernel_rfl
  c2:=by kernel_rfl
  c3:=by kernel_rfl
  c4:=by kernel_rfl
  c5:=by kernel_rfl
  c9:=by kernel_rfl
  c20:=by kernel_rfl
  c21:=by kernel_rfl
  c37:=by kernel_rfl
  c46:=by kernel_rfl
  c51:=by kernel_rfl
  c53:=by kernel_rfl
  c75:=by kernel_rfl
  c76:=by kernel_rfl
  c80:=by kernel_rfl
  c85:=by kernel_rfl
  c127:=by kernel_rfl
  c143:=by kernel_rfl
  c145:=by kernel_rfl
  c167:=by kernel_rfl
  c168:=by kernel_rfl
  c171:=by kernel_rfl
  c173:=by kernel_rfl
  c175:=by kernel_rfl
  c210:=by kernel_rfl
  c212:=by kernel_rfl
  c213:=by kernel_rfl
  c232:=by kernel_rfl
  c233:=by kernel_rfl }
open Go.RowKit in
theorem Tryz.strconv_Atoi_ok (s : ByteArray) (hmax : s.size ≤ 9223372036854775806) (v : Int) (h : Lib.atoiAll s.data.toList = .ok v) (w : World) :
    Calls Tryz.prog 69 #[.string s] w fun e w' => e = .returned (.tuple #[.int .i64 v,.nilIface]) ∧ (w' = w ∨ ∃ t,w' = Lib.bytesWorld w 5 t):=Any.strconv_Atoi_ok Tryz.laysC172 s hmax v h w
open Go.RowKit in
theorem Tryz.strconv_Atoi_range_var (s : ByteArray) (hlim : s.size ≤ 281474976710656) (h : Lib.atoiAll s.data.toList = .range) (tp : TypeId) (p : Value) (w : World) (hvar : w.var? Tryz.prog "strconv.ErrRange" = some #[.iface tp p]) :
    Calls Tryz.prog 69 #[.string s] w fun e w' => ∃ N,e = .returned (.tuple #[.int .i64 (Lib.atoiSat s.data.toList),.iface 136 (.pointer (some ⟨N,0,none⟩))]) ∧ w.heap.size ≤ N ∧ w'.heap[N]? = some (.cells #[.string ⟨#[65,116,111,105]⟩,.string s,.iface tp p] 169 (0,0)) ∧ Below w.heap.size w w':=Any.strconv_Atoi_range_var Tryz.laysC172 s hlim h tp p w hvar
def Tryz.lays99_ren : Go.Shelf.Ren:=⟨fun | 99=>94 | 206=>112 | n=>n,fun | 9=>9 | 4=>4 | 3=>3 | n=>n,fun | n=>n⟩
theorem Tryz.lays99 : Go.Proofs.Lays.n99 Tryz.prog Tryz.lays99_ren:={
  mixed:=by kernel_rfl
  f99:=Tryz.func94.trans (congrArg some (by kernel_rfl))
  f206:=Tryz.func112.trans (congrArg some (by kernel_rfl))
  t3:=Tryz.underlying3
  a3:=Tryz.isAgg3
  z3:=Tryz.sizeOf3
  v3:=Tryz.zeroValue3
  t4:=Tryz.underlying4
  a4:=Tryz.isAgg4
  z4:=Tryz.sizeOf4
  v4:=Tryz.zeroValue4
  t9:=Tryz.underlying9
  a9:=Tryz.isAgg9
  z9:=Tryz.sizeOf9
  v9:=Tryz.zeroValue9 }
open Go.RowKit Go.Lib in
theorem Tryz.strings_HasPrefix (s p : ByteArray) (w : World) :
    Calls Tryz.prog 94 #[.string s,.string p] w fun e w' => e = .returned (.bool (Lib.hasPrefix s.data.toList p.data.toList)) ∧ w' = w:=Any.strings_HasPrefix Tryz.lays99 s p w
def Tryz.lays200_ren : Go.Shelf.Ren:=⟨fun | 200=>87 | 261=>110 | 311=>122 | 312=>123 | n=>n,fun | 21=>21 | 4=>4 | 51=>125 | 5=>5 | 119=>126 | 0=>0 | 141=>128 | 196=>146 | 193=>143 | 3=>3 | 198=>149 | 49=>147 | 194=>144 | 201=>152 | 226=>172 | 46=>139 | 227=>173 | n=>n,fun | 7=>0 | 8=>1 | n=>n⟩
theorem Tryz.lays200 : Go.Proofs.Lays.n200 Tryz.prog Tryz.lays200_ren:={
  mixed:=by kernel_rfl
  f200:=Tryz.func87.trans (congrArg some (by kernel_rfl))
  f261:=Tryz.func110.trans (congrArg some (by kernel_rfl))
  f311:=Tryz.func122.trans (congrArg some (by kernel_rfl))
  f312:=Tryz.func123.trans (congrArg some (by kernel_rfl))
  t0:=Tryz.underlying0
  a0:=Tryz.isAgg0
  z0:=Tryz.sizeOf0
  v0:=Tryz.zeroValue0
  t3:=Tryz.underlying3
  a3:=Tryz.isAgg3
  z3:=Tryz.sizeOf3
  v3:=Tryz.zeroValue3
  t4:=Tryz.underlying4
  a4:=Tryz.isAgg4
  z4:=Tryz.sizeOf4
  v4:=Tryz.zeroValue4
  t5:=Tryz.underlying5
  a5:=Tryz.isAgg5
  z5:=Tryz.sizeOf5
  v5:=Tryz.zeroValue5
  t21:=Tryz.underlying21
  a21:=Tryz.isAgg21
  z21:=Tryz.sizeOf21
  v21:=Tryz.zeroValue21
  t46:=Tryz.underlying139
  a46:=Tryz.isAgg139
  z46:=Tryz.sizeOf139
  v46:=Tryz.zeroValue139
  t49:=Tryz.underlying147
  a49:=Tryz.isAgg147
  z49:=Tryz.sizeOf147
  v49:=Tryz.zeroValue147
  t51:=Tryz.underlying125
  a51:=Tryz.isAgg125
  z51:=Tryz.sizeOf125
  v51:=Tryz.zeroValue125
  t119:=Tryz.underlying126
  a119:=Tryz.isAgg126
  z119:=Tryz.sizeOf126
  t141:=Tryz.underlying128
  a141:=Tryz.isAgg128
  z141:=Tryz.sizeOf128
  v141:=Tryz.zeroValue128
  t193:=Tryz.underlying143
  a193:=Tryz.isAgg143
  z193:=Tryz.sizeOf143
  v193:=Tryz.zeroValue143
  t194:=Tryz.underlying144
  a194:=Tryz.isAgg144
  z194:=Tryz.sizeOf144
  v194:=Tryz.zeroValue144
  t196:=Tryz.underlying146
  a196:=Tryz.isAgg146
  z196:=Tryz.sizeOf146
  v196:=Tryz.zeroValue146
  t198:=Tryz.underlying149
  a198:=Tryz.isAgg149
  z198:=Tryz.sizeOf149
  v198:=Tryz.zeroValue149
  t201:=Tryz.underlying152
  a201:=Tryz.isAgg152
  z201:=Tryz.sizeOf152
  v201:=Tryz.zeroValue152
  t226:=Tryz.underlying172
  a226:=Tryz.isAgg172
  z226:=Tryz.sizeOf172
  v226:=Tryz.zeroValue172
  t227:=Tryz.underlying173
  a227:=Tryz.isAgg173
  z227:=Tryz.sizeOf173
  v227:=Tryz.zeroValue173
  g7:=by kernel_rfl
  g8:=by kernel_rfl }
open Go.RowKit Go.Lib in
theorem Tryz.unicode_IsLetter (c : Nat) (w : World) (hc : c < 256) (htab : Lib.TabIs Tryz.prog w "unicode.properties" .u8 Lib.propertiesTab) :
    Calls Tryz.prog 87 #[.int .i32 c] w fun e w' => e = .returned (.bool (Lib.isLetterL c)) ∧ w' = w:=Any.unicode_IsLetter Tryz.lays200 (by kernel_rfl) c w hc htab
def Tryz.lays197_ren : Go.Shelf.Ren:=⟨fun | 197=>80 | 260=>108 | n=>n,fun | 9=>9 | 21=>21 | 3=>3 | 4=>4 | 5=>5 | 105=>112 | 119=>126 | 0=>0 | 46=>139 | 139=>142 | 138=>141 | n=>n,fun | 3=>2 | 4=>3 | n=>n⟩
theorem Tryz.lays197 : Go.Proofs.Lays.n197 Tryz.prog Tryz.lays197_ren:={
  mixed:=by kernel_rfl
  f197:=Tryz.func80.trans (congrArg some (by kernel_rfl))
  f260:=Tryz.func108.trans (congrArg some (by kernel_rfl))
  t0:=Tryz.underlying0
  a0:=Tryz.isAgg0
  z0:=Tryz.sizeOf0
  v0:=Tryz.zeroValue0
  t3:=Tryz.underlying3
  a3:=Tryz.isAgg3
  z3:=Tryz.sizeOf3
  v3:=Tryz.zeroValue3
  t4:=Tryz.underlying4
  a4:=Tryz.isAgg4
  z4:=Tryz.sizeOf4
  v4:=Tryz.zeroValue4
  t5:=Tryz.underlying5
  a5:=Tryz.isAgg5
  z5:=Tryz.sizeOf5
  v5:=Tryz.zeroValue5
  t9:=Tryz.underlying9
  a9:=Tryz.isAgg9
  z9:=Tryz.sizeOf9
  v9:=Tryz.zeroValue9
  t21:=Tryz.underlying21
  a21:=Tryz.isAgg21
  z21:=Tryz.sizeOf21
  v21:=Tryz.zeroValue21
  t46:=Tryz.underlying139
  a46:=Tryz.isAgg139
  z46:=Tryz.sizeOf139
  v46:=Tryz.zeroValue139
  t105:=Tryz.underlying112
  a105:=Tryz.isAgg112
  z105:=Tryz.sizeOf112
  v105:=Tryz.zeroValue112
  t119:=Tryz.underlying126
  a119:=Tryz.isAgg126
  z119:=Tryz.sizeOf126
  t138:=Tryz.underlying141
  a138:=Tryz.isAgg141
  z138:=Tryz.sizeOf141
  v138:=Tryz.zeroValue141
  t139:=Tryz.underlying142
  a139:=Tryz.isAgg142
  z139:=Tryz.sizeOf142
  v139:=Tryz.zeroValue142
  g3:=by kernel_rfl
  g4:=by kernel_rfl }
def Tryz.lays151_ren : Go.Shelf.Ren:=⟨fun | 151=>99 | 152=>116 | 137=>132 | 119=>133 | 224=>134 | 225=>135 | 217=>142 | 266=>147 | n=>n,fun | 9=>9 | 21=>21 | 4=>4 | 3=>3 | 5=>5 | 0=>0 | 46=>139 | n=>n,fun | n=>n⟩
theorem Tryz.lays151 : Go.Proofs.Lays.n151 Tryz.prog Tryz.lays151_ren:={
  mixed:=by kernel_rfl
  f119:=Tryz.func133.trans (congrArg some (by kernel_rfl))
  f137:=Tryz.func132.trans (congrArg some (by kernel_rfl))
  f151:=Tryz.func99.trans (congrArg some (by kernel_rfl))
  f152:=Tryz.func116.trans (congrArg some (by kernel_rfl))
  f217:=Tryz.func142.trans (congrArg some (by kernel_rfl))
  f224:=Tryz.func134.trans (congrArg some (by kernel_rfl))
  f225:=Tryz.func135.trans (congrArg some (by kernel_rfl))
  f266:=Tryz.func147.trans (congrArg some (by kernel_rfl))
  t0:=Tryz.underlying0
  a0:=Tryz.isAgg0
  z0:=Tryz.sizeOf0
  v0:=Tryz.zeroValue0
  t3:=Tryz.underlying3
  a3:=Tryz.isAgg3
  z3:=Tryz.sizeOf3
  v3:=Tryz.zeroValue3
  t4:=Tryz.underlying4
  a4:=Tryz.isAgg4
  z4:=Tryz.sizeOf4
  v4:=Tryz.zeroValue4
  t5:=Tryz.underlying5
  a5:=Tryz.isAgg5
  z5:=Tryz.sizeOf5
  v5:=Tryz.zeroValue5
  t9:=Tryz.underlying9
  a9:=Tryz.isAgg9
  z9:=Tryz.sizeOf9
  v9:=Tryz.zeroValue9
  t21:=Tryz.underlying21
  a21:=Tryz.isAgg21
  z21:=Tryz.sizeOf21
  v21:=Tryz.zeroValue21
  t46:=Tryz.underlying139
  a46:=Tryz.isAgg139
  z46:=Tryz.sizeOf139
  v46:=Tryz.zeroValue139 }
open Go.RowKit Go.Lib in
theorem Tryz.strings_ContainsRune_ascii (s : ByteArray) (r : Int) (w : World) (h0 : 0 ≤ r) (h1 : r < 128) :
    Calls Tryz.prog 99 #[.string s,.int .i32 r] w fun e w' => e = .returned (.bool (decide (0 ≤ Lib.indexByte s.data.toList r.toNat.toUInt8))) ∧ w' = w:=Any.strings_ContainsRune_ascii Tryz.lays151 s r w h0 h1
open Go.RowKit Go.Lib in
theorem Tryz.utf8_DecodeRuneInString (s : ByteArray) (w : World) (hT : Lib.Utf8Tabs 2 3 w) :
    Calls Tryz.prog 80 #[.string s] w fun e w' => e = .returned (.tuple #[.int .i32 (Lib.decodeGo s).1,.int .i64 (Lib.decodeGo s).2]) ∧ Below w.heap.size w w':=Any.utf8_DecodeRuneInString Tryz.lays197 s w hT
open Go.RowKit Go.Lib in
theorem Tryz.unicode_IsLetter_all (r : Int) (w : World) (hlo : -2147483648 ≤ r) (hhi : r ≤ 2147483647) (htab : Lib.TabIs Tryz.prog w "unicode.properties" .u8 Lib.propertiesTab) (hV : RVar 1 letterT w) :
    Calls Tryz.prog 87 #[.int .i32 r] w fun e w' => e = .returned (.bool (isLetterU r)) ∧ Below w.heap.size w w':=Any.unicode_IsLetter_all Tryz.lays200 (by kernel_rfl) r w hlo hhi htab hV
end Go.Proofs
