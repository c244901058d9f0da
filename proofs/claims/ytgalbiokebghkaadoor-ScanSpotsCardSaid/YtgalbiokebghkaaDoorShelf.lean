/-
  DERIVED: THE SHELF's CONTRACTS AT THIS DUMP,IN PLAIN WORDS (tools/lay-plain.mjs out of 'TrydShelf.lean',which tools/lay-shelf.mjs wrote): THE SAME DECLARATIONS UNDER THE SAME NAMES: 'import','namespace','open','def','theorem' AND NOTHING ELSE: no command of the shelf's: FOR A HAND-IN. Each laying: the table of numbers ('.._ren') and one theorem,a field a fact of the dump's own or the kernel's comparison;each contract: ONE APPLICATION.
-/
import Derived.Shelf.Strings.Builder1
import Derived.Shelf.Strings.Builder2
import Derived.Shelf.Strings.OnBuilder
import Derived.Shelf.Strings.Trim
import Derived.Shelf.Small.Utf8
import Derived.Shelf.Small.Strs
import Derived.Shelf.Strconv.Atoi
import Derived.Shelf.Strconv.Itoa0
import Derived.Shelf.Strconv.Itoa1
import Derived.Shelf.LaysM
import Derived.Shelf.Strconv.Itoa2
import Derived.Shelf.Strconv.Itoa3
import Derived.Shelf.Strconv.AtoiErrFast
import Derived.Shelf.Strconv.ParseIntEmpty
import Derived.Shelf.Strconv.AtoiFail
import Derived.Shelf.Strconv.Clone
import Derived.Shelf.Strconv.SyntaxError
import Derived.Shelf.LaysC
import Derived.Shelf.Strconv.ToError
import Derived.Shelf.Strconv.Lower
import Derived.Shelf.Strconv.ParseUint10
import Derived.Shelf.Strconv.ParseUint10Empty
import Derived.Shelf.Strconv.ParseUint10Any
import Derived.Shelf.Strconv.ParseInt10
import Derived.Shelf.Strconv.AtoiLong
import Derived.Shelf.Strconv.AtoiInnerAll
import Derived.Shelf.Strconv.RangeError
import Derived.Shelf.Strconv.ToErrorRange
import Derived.Shelf.Strconv.AtoiAll
import Derived.Shelf.Strconv.ErrVarAll
import Derived.Shelf.Strings.Search1
import Derived.Shelf.Strings.Prefix
import Derived.Shelf.Strings.Fields
import Derived.Shelf.Unicode.Latin
import Derived.Shelf.Unicode.Props
import Derived.Shelf.Strings.Runes
import Derived.Shelf.Strings.RuneCount
import Derived.Shelf.Strings.AsciiSet
import Derived.Shelf.Unicode.DecodeSlow
import Derived.Shelf.Unicode.DecodeAny
import Derived.Shelf.Unicode.Is16White
import Derived.Shelf.Unicode.IsSpaceAny
import Derived.Shelf.Unicode.DecodeLast
import Derived.Shelf.Unicode.Is16WhiteD
import Derived.Shelf.Unicode.IsSpaceAnyD
import Derived.Shelf.Strings.FieldsAny
import Derived.Shelf.Strings.FieldsFuncAny
import Derived.Shelf.Unicode.Is16Any
import Derived.Shelf.Unicode.Is32Any
import Derived.Shelf.Unicode.ExclAny
import Derived.Shelf.Unicode.PredsAny
import Derived.Shelf.Unicode.PredsPay
import Derived.Ground.SlgfProg
import Derived.Shelf.SlicesE.IndexFunc
import Derived.Test.YtgalbiokebghkaaDoorProg
namespace Go.Proofs
set_option linter.unusedVariables false
set_option linter.unusedSimpArgs false
open Go.Shelf
def Tryd.lays161_ren : Go.Shelf.Ren:=⟨fun | 161 => 71 | 231 => 89 | 227 => 77 | 233 => 90 | 235 => 91 | 228 => 96 | 197 => 34 | 151 => 56 | 260 => 57 | 152 => 72 | 137 => 92 | 119 => 93 | 224 => 94 | 225 => 95 | 217 => 105 | 266 => 109 | n => n,fun | 9 => 9 | 4 => 4 | 3 => 3 | 5 => 5 | 117 => 120 | 116 => 119 | 0 => 0 | 124 => 123 | 105 => 68 | 21 => 21 | 119 => 80 | 46 => 102 | 139 => 105 | 138 => 104 | n => n,fun | 3 => 4 | 4 => 5 | n => n⟩
theorem Tryd.lays161 : Go.Proofs.Lays.n161 Tryd.prog Tryd.lays161_ren:={
  mixed:=by kernel_rfl
  f119:=Tryd.func93.trans (congrArg some (by kernel_rfl))
  f137:=Tryd.func92.trans (congrArg some (by kernel_rfl))
  f151:=Tryd.func56.trans (congrArg some (by kernel_rfl))
  f152:=Tryd.func72.trans (congrArg some (by kernel_rfl))
  f161:=Tryd.func71.trans (congrArg some (by kernel_rfl))
  f197:=Tryd.func34.trans (congrArg some (by kernel_rfl))
  f217:=Tryd.func105.trans (congrArg some (by kernel_rfl))
  f224:=Tryd.func94.trans (congrArg some (by kernel_rfl))
  f225:=Tryd.func95.trans (congrArg some (by kernel_rfl))
  f227:=Tryd.func77.trans (congrArg some (by kernel_rfl))
  f228:=Tryd.func96.trans (congrArg some (by kernel_rfl))
  f231:=Tryd.func89.trans (congrArg some (by kernel_rfl))
  f233:=Tryd.func90.trans (congrArg some (by kernel_rfl))
  f235:=Tryd.func91.trans (congrArg some (by kernel_rfl))
  f260:=Tryd.func57.trans (congrArg some (by kernel_rfl))
  f266:=Tryd.func109.trans (congrArg some (by kernel_rfl))
  t0:=Tryd.underlying0
  a0:=Tryd.isAgg0
  z0:=Tryd.sizeOf0
  v0:=Tryd.zeroValue0
  t3:=Tryd.underlying3
  a3:=Tryd.isAgg3
  z3:=Tryd.sizeOf3
  v3:=Tryd.zeroValue3
  t4:=Tryd.underlying4
  a4:=Tryd.isAgg4
  z4:=Tryd.sizeOf4
  v4:=Tryd.zeroValue4
  t5:=Tryd.underlying5
  a5:=Tryd.isAgg5
  z5:=Tryd.sizeOf5
  v5:=Tryd.zeroValue5
  t9:=Tryd.underlying9
  a9:=Tryd.isAgg9
  z9:=Tryd.sizeOf9
  v9:=Tryd.zeroValue9
  t21:=Tryd.underlying21
  a21:=Tryd.isAgg21
  z21:=Tryd.sizeOf21
  v21:=Tryd.zeroValue21
  t46:=Tryd.underlying102
  a46:=Tryd.isAgg102
  z46:=Tryd.sizeOf102
  v46:=Tryd.zeroValue102
  t105:=Tryd.underlying68
  a105:=Tryd.isAgg68
  z105:=Tryd.sizeOf68
  v105:=Tryd.zeroValue68
  t116:=Tryd.underlying119
  a116:=Tryd.isAgg119
  z116:=Tryd.sizeOf119
  t117:=Tryd.underlying120
  a117:=Tryd.isAgg120
  z117:=Tryd.sizeOf120
  v117:=Tryd.zeroValue120
  t119:=Tryd.underlying80
  a119:=Tryd.isAgg80
  z119:=Tryd.sizeOf80
  t124:=Tryd.underlying123
  a124:=Tryd.isAgg123
  z124:=Tryd.sizeOf123
  v124:=Tryd.zeroValue123
  t138:=Tryd.underlying104
  a138:=Tryd.isAgg104
  z138:=Tryd.sizeOf104
  v138:=Tryd.zeroValue104
  t139:=Tryd.underlying105
  a139:=Tryd.isAgg105
  z139:=Tryd.sizeOf105
  v139:=Tryd.zeroValue105
  g3:=by kernel_rfl
  g4:=by kernel_rfl }
def Tryd.lays162_ren : Go.Shelf.Ren:=⟨fun | 162 => 61 | 232 => 76 | 227 => 77 | 234 => 78 | 236 => 79 | 228 => 96 | 271 => 97 | 151 => 56 | 120 => 106 | 197 => 34 | 152 => 72 | 260 => 57 | 137 => 92 | 119 => 93 | 224 => 94 | 225 => 95 | 217 => 105 | 266 => 109 | n => n,fun | 9 => 9 | 4 => 4 | 3 => 3 | 5 => 5 | 117 => 120 | 116 => 119 | 0 => 0 | 124 => 123 | 21 => 21 | 105 => 68 | 46 => 102 | 119 => 80 | 139 => 105 | 138 => 104 | n => n,fun | 3 => 4 | 4 => 5 | n => n⟩
theorem Tryd.lays162 : Go.Proofs.Lays.n162 Tryd.prog Tryd.lays162_ren:={
  mixed:=by kernel_rfl
  f119:=Tryd.func93.trans (congrArg some (by kernel_rfl))
  f120:=Tryd.func106.trans (congrArg some (by kernel_rfl))
  f137:=Tryd.func92.trans (congrArg some (by kernel_rfl))
  f151:=Tryd.func56.trans (congrArg some (by kernel_rfl))
  f152:=Tryd.func72.trans (congrArg some (by kernel_rfl))
  f162:=Tryd.func61.trans (congrArg some (by kernel_rfl))
  f197:=Tryd.func34.trans (congrArg some (by kernel_rfl))
  f217:=Tryd.func105.trans (congrArg some (by kernel_rfl))
  f224:=Tryd.func94.trans (congrArg some (by kernel_rfl))
  f225:=Tryd.func95.trans (congrArg some (by kernel_rfl))
  f227:=Tryd.func77.trans (congrArg some (by kernel_rfl))
  f228:=Tryd.func96.trans (congrArg some (by kernel_rfl))
  f232:=Tryd.func76.trans (congrArg some (by kernel_rfl))
  f234:=Tryd.func78.trans (congrArg some (by kernel_rfl))
  f236:=Tryd.func79.trans (congrArg some (by kernel_rfl))
  f260:=Tryd.func57.trans (congrArg some (by kernel_rfl))
  f266:=Tryd.func109.trans (congrArg some (by kernel_rfl))
  f271:=Tryd.func97.trans (congrArg some (by kernel_rfl))
  t0:=Tryd.underlying0
  a0:=Tryd.isAgg0
  z0:=Tryd.sizeOf0
  v0:=Tryd.zeroValue0
  t3:=Tryd.underlying3
  a3:=Tryd.isAgg3
  z3:=Tryd.sizeOf3
  v3:=Tryd.zeroValue3
  t4:=Tryd.underlying4
  a4:=Tryd.isAgg4
  z4:=Tryd.sizeOf4
  v4:=Tryd.zeroValue4
  t5:=Tryd.underlying5
  a5:=Tryd.isAgg5
  z5:=Tryd.sizeOf5
  v5:=Tryd.zeroValue5
  t9:=Tryd.underlying9
  a9:=Tryd.isAgg9
  z9:=Tryd.sizeOf9
  v9:=Tryd.zeroValue9
  t21:=Tryd.underlying21
  a21:=Tryd.isAgg21
  z21:=Tryd.sizeOf21
  v21:=Tryd.zeroValue21
  t46:=Tryd.underlying102
  a46:=Tryd.isAgg102
  z46:=Tryd.sizeOf102
  v46:=Tryd.zeroValue102
  t105:=Tryd.underlying68
  a105:=Tryd.isAgg68
  z105:=Tryd.sizeOf68
  v105:=Tryd.zeroValue68
  t116:=Tryd.underlying119
  a116:=Tryd.isAgg119
  z116:=Tryd.sizeOf119
  t117:=Tryd.underlying120
  a117:=Tryd.isAgg120
  z117:=Tryd.sizeOf120
  v117:=Tryd.zeroValue120
  t119:=Tryd.underlying80
  a119:=Tryd.isAgg80
  z119:=Tryd.sizeOf80
  t124:=Tryd.underlying123
  a124:=Tryd.isAgg123
  z124:=Tryd.sizeOf123
  v124:=Tryd.zeroValue123
  t138:=Tryd.underlying104
  a138:=Tryd.isAgg104
  z138:=Tryd.sizeOf104
  v138:=Tryd.zeroValue104
  t139:=Tryd.underlying105
  a139:=Tryd.isAgg105
  z139:=Tryd.sizeOf105
  v139:=Tryd.zeroValue105
  g3:=by kernel_rfl
  g4:=by kernel_rfl }
def Tryd.lays119_ren : Go.Shelf.Ren:=⟨fun | 119 => 93 | n => n,fun | 21 => 21 | 4 => 4 | n => n,fun | n => n⟩
theorem Tryd.lays119 : Go.Proofs.Lays.n119 Tryd.prog Tryd.lays119_ren:={
  mixed:=by kernel_rfl
  f119:=Tryd.func93.trans (congrArg some (by kernel_rfl))
  t4:=Tryd.underlying4
  a4:=Tryd.isAgg4
  z4:=Tryd.sizeOf4
  v4:=Tryd.zeroValue4
  t21:=Tryd.underlying21
  a21:=Tryd.isAgg21
  z21:=Tryd.sizeOf21
  v21:=Tryd.zeroValue21 }
/-- utf8.ValidRune: "ValidRune reports whether r can be legally encoded as UTF-8. Code points that are out of range or a surrogate half are illegal.": IT RETURNS 'Lib.validRune r'; the world is as it was. (LAID: no walk: one application.) -/
theorem Tryd.utf8_ValidRune (r : Int) (w : World) :
    Calls Tryd.prog 93 #[.int .i32 r] w fun e w' => e = .returned (.bool (Lib.validRune r)) ∧ w' = w:=Any.utf8_ValidRune Tryd.lays119 r w
def Tryd.lays137_ren : Go.Shelf.Ren:=⟨fun | 137 => 92 | 217 => 105 | 266 => 109 | n => n,fun | 9 => 9 | 5 => 5 | 3 => 3 | n => n,fun | n => n⟩
theorem Tryd.lays137 : Go.Proofs.Lays.n137 Tryd.prog Tryd.lays137_ren:={
  mixed:=by kernel_rfl
  f137:=Tryd.func92.trans (congrArg some (by kernel_rfl))
  f217:=Tryd.func105.trans (congrArg some (by kernel_rfl))
  f266:=Tryd.func109.trans (congrArg some (by kernel_rfl))
  t3:=Tryd.underlying3
  a3:=Tryd.isAgg3
  z3:=Tryd.sizeOf3
  v3:=Tryd.zeroValue3
  t5:=Tryd.underlying5
  a5:=Tryd.isAgg5
  z5:=Tryd.sizeOf5
  v5:=Tryd.zeroValue5
  t9:=Tryd.underlying9
  a9:=Tryd.isAgg9
  z9:=Tryd.sizeOf9
  v9:=Tryd.zeroValue9 }
open Go.RowKit in
/-- strings.IndexByte: "IndexByte returns the index of the first instance of c in s, or -1 if c is not present in s.": IT RETURNS 'Lib.indexByte s c'; the world is as it was. (LAID: no walk: one application.) -/
theorem Tryd.strings_IndexByte (s : ByteArray) (c : Int) (w : World) :
    Calls Tryd.prog 92 #[.string s,.int .u8 c] w fun e w' => e = .returned (.int .i64 (Lib.indexByte s.data.toList c.toNat.toUInt8)) ∧ w' = w:=Any.strings_IndexByte Tryd.lays137 s c w
def Tryd.lays172_ren : Go.Shelf.Ren:=⟨fun | 172 => 29 | 244 => 51 | 245 => 52 | 247 => 65 | 279 => 66 | 280 => 67 | 281 => 68 | 282 => 69 | 287 => 86 | 316 => 87 | 171 => 24 | 205 => 88 | 321 => 103 | 322 => 104 | 243 => 44 | 246 => 62 | 283 => 80 | 284 => 81 | 285 => 82 | 286 => 83 | 129 => 99 | 317 => 98 | 318 => 100 | 319 => 101 | 320 => 102 | 337 => 107 | 338 => 108 | n => n,fun | 9 => 9 | 3 => 3 | 75 => 58 | 76 => 59 | 4 => 4 | 5 => 5 | 167 => 95 | 37 => 46 | 0 => 0 | 85 => 96 | 2 => 2 | 168 => 98 | 53 => 125 | 175 => 133 | 46 => 102 | 210 => 137 | 127 => 91 | 145 => 152 | 143 => 150 | 21 => 21 | 171 => 124 | 173 => 128 | 212 => 146 | 51 => 86 | 20 => 20 | 213 => 147 | 232 => 154 | 233 => 155 | 80 => 78 | n => n,fun | 15 => 6 | 16 => 7 | 17 => 8 | 18 => 10 | 19 => 11 | n => n⟩
theorem Tryd.lays172 : Go.Proofs.Lays.n172 Tryd.prog Tryd.lays172_ren:={
  mixed:=by kernel_rfl
  f129:=Tryd.func99.trans (congrArg some (by kernel_rfl))
  f171:=Tryd.func24.trans (congrArg some (by kernel_rfl))
  f172:=Tryd.func29.trans (congrArg some (by kernel_rfl))
  f205:=Tryd.func88.trans (congrArg some (by kernel_rfl))
  f243:=Tryd.func44.trans (congrArg some (by kernel_rfl))
  f244:=Tryd.func51.trans (congrArg some (by kernel_rfl))
  f245:=Tryd.func52.trans (congrArg some (by kernel_rfl))
  f246:=Tryd.func62.trans (congrArg some (by kernel_rfl))
  f247:=Tryd.func65.trans (congrArg some (by kernel_rfl))
  f279:=Tryd.func66.trans (congrArg some (by kernel_rfl))
  f280:=Tryd.func67.trans (congrArg some (by kernel_rfl))
  f281:=Tryd.func68.trans (congrArg some (by kernel_rfl))
  f282:=Tryd.func69.trans (congrArg some (by kernel_rfl))
  f283:=Tryd.func80.trans (congrArg some (by kernel_rfl))
  f284:=Tryd.func81.trans (congrArg some (by kernel_rfl))
  f285:=Tryd.func82.trans (congrArg some (by kernel_rfl))
  f286:=Tryd.func83.trans (congrArg some (by kernel_rfl))
  f287:=Tryd.func86.trans (congrArg some (by kernel_rfl))
  f316:=Tryd.func87.trans (congrArg some (by kernel_rfl))
  f317:=Tryd.func98.trans (congrArg some (by kernel_rfl))
  f318:=Tryd.func100.trans (congrArg some (by kernel_rfl))
  f319:=Tryd.func101.trans (congrArg some (by kernel_rfl))
  f320:=Tryd.func102.trans (congrArg some (by kernel_rfl))
  f321:=Tryd.func103.trans (congrArg some (by kernel_rfl))
  f322:=Tryd.func104.trans (congrArg some (by kernel_rfl))
  f337:=Tryd.func107.trans (congrArg some (by kernel_rfl))
  f338:=Tryd.func108.trans (congrArg some (by kernel_rfl))
  t0:=Tryd.underlying0
  a0:=Tryd.isAgg0
  z0:=Tryd.sizeOf0
  v0:=Tryd.zeroValue0
  t2:=Tryd.underlying2
  a2:=Tryd.isAgg2
  z2:=Tryd.sizeOf2
  v2:=Tryd.zeroValue2
  t3:=Tryd.underlying3
  a3:=Tryd.isAgg3
  z3:=Tryd.sizeOf3
  v3:=Tryd.zeroValue3
  t4:=Tryd.underlying4
  a4:=Tryd.isAgg4
  z4:=Tryd.sizeOf4
  v4:=Tryd.zeroValue4
  t5:=Tryd.underlying5
  a5:=Tryd.isAgg5
  z5:=Tryd.sizeOf5
  v5:=Tryd.zeroValue5
  t9:=Tryd.underlying9
  a9:=Tryd.isAgg9
  z9:=Tryd.sizeOf9
  v9:=Tryd.zeroValue9
  t20:=Tryd.underlying20
  a20:=Tryd.isAgg20
  z20:=Tryd.sizeOf20
  v20:=Tryd.zeroValue20
  t21:=Tryd.underlying21
  a21:=Tryd.isAgg21
  z21:=Tryd.sizeOf21
  v21:=Tryd.zeroValue21
  t37:=Tryd.underlying46
  a37:=Tryd.isAgg46
  z37:=Tryd.sizeOf46
  v37:=Tryd.zeroValue46
  t46:=Tryd.underlying102
  a46:=Tryd.isAgg102
  z46:=Tryd.sizeOf102
  v46:=Tryd.zeroValue102
  t51:=Tryd.underlying86
  a51:=Tryd.isAgg86
  z51:=Tryd.sizeOf86
  v51:=Tryd.zeroValue86
  t53:=Tryd.underlying125
  a53:=Tryd.isAgg125
  z53:=Tryd.sizeOf125
  v53:=Tryd.zeroValue125
  t75:=Tryd.underlying58
  a75:=Tryd.isAgg58
  z75:=Tryd.sizeOf58
  v75:=Tryd.zeroValue58
  t76:=Tryd.underlying59
  a76:=Tryd.isAgg59
  z76:=Tryd.sizeOf59
  v76:=Tryd.zeroValue59
  t85:=Tryd.underlying96
  a85:=Tryd.isAgg96
  z85:=Tryd.sizeOf96
  v85:=Tryd.zeroValue96
  t127:=Tryd.underlying91
  a127:=Tryd.isAgg91
  z127:=Tryd.sizeOf91
  v127:=Tryd.zeroValue91
  t143:=Tryd.underlying150
  a143:=Tryd.isAgg150
  z143:=Tryd.sizeOf150
  v143:=Tryd.zeroValue150
  t145:=Tryd.underlying152
  a145:=Tryd.isAgg152
  z145:=Tryd.sizeOf152
  v145:=Tryd.zeroValue152
  t167:=Tryd.underlying95
  a167:=Tryd.isAgg95
  z167:=Tryd.sizeOf95
  v167:=Tryd.zeroValue95
  t168:=Tryd.underlying98
  a168:=Tryd.isAgg98
  z168:=Tryd.sizeOf98
  v168:=Tryd.zeroValue98
  t171:=Tryd.underlying124
  a171:=Tryd.isAgg124
  z171:=Tryd.sizeOf124
  v171:=Tryd.zeroValue124
  t173:=Tryd.underlying128
  a173:=Tryd.isAgg128
  z173:=Tryd.sizeOf128
  v173:=Tryd.zeroValue128
  t175:=Tryd.underlying133
  a175:=Tryd.isAgg133
  z175:=Tryd.sizeOf133
  v175:=Tryd.zeroValue133
  t210:=Tryd.underlying137
  a210:=Tryd.isAgg137
  z210:=Tryd.sizeOf137
  v210:=Tryd.zeroValue137
  t212:=Tryd.underlying146
  a212:=Tryd.isAgg146
  z212:=Tryd.sizeOf146
  v212:=Tryd.zeroValue146
  t213:=Tryd.underlying147
  a213:=Tryd.isAgg147
  z213:=Tryd.sizeOf147
  t232:=Tryd.underlying154
  a232:=Tryd.isAgg154
  z232:=Tryd.sizeOf154
  v232:=Tryd.zeroValue154
  t233:=Tryd.underlying155
  a233:=Tryd.isAgg155
  z233:=Tryd.sizeOf155
  v233:=Tryd.zeroValue155
  g15:=by kernel_rfl
  g16:=by kernel_rfl
  g17:=by kernel_rfl
  g18:=by kernel_rfl
  g19:=by kernel_rfl }
open Go.RowKit in
/-- strconv.Atoi: "Atoi is equivalent to ParseInt(s, 10, 0), converted to type int.": AT A DECIMAL NUMERAL OF AT MOST 18 BYTES: its value, and a nil error. The world behind the call: the one new row that the library's '[]byte(s)' lays. (LAID: no walk: one application.) -/
theorem Tryd.strconv_Atoi (s : ByteArray) (n : Int) (hl : s.size ≤ 18) (h : Lib.atoi s.data.toList = some n) (w : World) :
    Calls Tryd.prog 29 #[.string s] w fun e w' => e = .returned (.tuple #[.int .i64 n,.nilIface]) ∧ ∃ t,w' = Lib.bytesWorld w 5 t:=Any.strconv_Atoi Tryd.lays172 s n hl h w
def Tryd.laysC172_ren : Go.Shelf.Ren:=⟨fun | 172 => 29 | 244 => 51 | 245 => 52 | 247 => 65 | 279 => 66 | 280 => 67 | 281 => 68 | 282 => 69 | 287 => 86 | 316 => 87 | 171 => 24 | 205 => 88 | 321 => 103 | 322 => 104 | 243 => 44 | 246 => 62 | 283 => 80 | 284 => 81 | 285 => 82 | 286 => 83 | 129 => 99 | 317 => 98 | 318 => 100 | 319 => 101 | 320 => 102 | 337 => 107 | 338 => 108 | n => n,fun | 9 => 9 | 3 => 3 | 75 => 58 | 76 => 59 | 4 => 4 | 5 => 5 | 167 => 95 | 37 => 46 | 0 => 0 | 85 => 96 | 2 => 2 | 168 => 98 | 53 => 125 | 175 => 133 | 46 => 102 | 210 => 137 | 127 => 91 | 145 => 152 | 143 => 150 | 21 => 21 | 171 => 124 | 173 => 128 | 212 => 146 | 51 => 86 | 20 => 20 | 213 => 147 | 232 => 154 | 233 => 155 | 80 => 78 | n => n,fun | 15 => 6 | 16 => 7 | 17 => 8 | 18 => 10 | 19 => 11 | n => n⟩
theorem Tryd.laysC172 : Go.Proofs.LaysC.n172 Tryd.prog Tryd.laysC172_ren:={
  mixed:=by kernel_rfl
  f129:=Tryd.func99.trans (congrArg some (by kernel_rfl))
  f171:=Tryd.func24.trans (congrArg some (by kernel_rfl))
  f172:=Tryd.func29.trans (congrArg some (by kernel_rfl))
  f205:=Tryd.func88.trans (congrArg some (by kernel_rfl))
  f243:=Tryd.func44.trans (congrArg some (by kernel_rfl))
  f244:=Tryd.func51.trans (congrArg some (by kernel_rfl))
  f245:=Tryd.func52.trans (congrArg some (by kernel_rfl))
  f246:=Tryd.func62.trans (congrArg some (by kernel_rfl))
  f247:=Tryd.func65.trans (congrArg some (by kernel_rfl))
  f279:=Tryd.func66.trans (congrArg some (by kernel_rfl))
  f280:=Tryd.func67.trans (congrArg some (by kernel_rfl))
  f281:=Tryd.func68.trans (congrArg some (by kernel_rfl))
  f282:=Tryd.func69.trans (congrArg some (by kernel_rfl))
  f283:=Tryd.func80.trans (congrArg some (by kernel_rfl))
  f284:=Tryd.func81.trans (congrArg some (by kernel_rfl))
  f285:=Tryd.func82.trans (congrArg some (by kernel_rfl))
  f286:=Tryd.func83.trans (congrArg some (by kernel_rfl))
  f287:=Tryd.func86.trans (congrArg some (by kernel_rfl))
  f316:=Tryd.func87.trans (congrArg some (by kernel_rfl))
  f317:=Tryd.func98.trans (congrArg some (by kernel_rfl))
  f318:=Tryd.func100.trans (congrArg some (by kernel_rfl))
  f319:=Tryd.func101.trans (congrArg some (by kernel_rfl))
  f320:=Tryd.func102.trans (congrArg some (by kernel_rfl))
  f321:=Tryd.func103.trans (congrArg some (by kernel_rfl))
  f322:=Tryd.func104.trans (congrArg some (by kernel_rfl))
  f337:=Tryd.func107.trans (congrArg some (by kernel_rfl))
  f338:=Tryd.func108.trans (congrArg some (by kernel_rfl))
  t0:=Tryd.underlying0
  a0:=Tryd.isAgg0
  z0:=Tryd.sizeOf0
  v0:=Tryd.zeroValue0
  t2:=Tryd.underlying2
  a2:=Tryd.isAgg2
  z2:=Tryd.sizeOf2
  v2:=Tryd.zeroValue2
  t3:=Tryd.underlying3
  a3:=Tryd.isAgg3
  z3:=Tryd.sizeOf3
  v3:=Tryd.zeroValue3
  t4:=Tryd.underlying4
  a4:=Tryd.isAgg4
  z4:=Tryd.sizeOf4
  v4:=Tryd.zeroValue4
  t5:=Tryd.underlying5
  a5:=Tryd.isAgg5
  z5:=Tryd.sizeOf5
  v5:=Tryd.zeroValue5
  t9:=Tryd.underlying9
  a9:=Tryd.isAgg9
  z9:=Tryd.sizeOf9
  v9:=Tryd.zeroValue9
  t20:=Tryd.underlying20
  a20:=Tryd.isAgg20
  z20:=Tryd.sizeOf20
  v20:=Tryd.zeroValue20
  t21:=Tryd.underlying21
  a21:=Tryd.isAgg21
  z21:=Tryd.sizeOf21
  v21:=Tryd.zeroValue21
  t37:=Tryd.underlying46
  a37:=Tryd.isAgg46
  z37:=Tryd.sizeOf46
  v37:=Tryd.zeroValue46
  t46:=Tryd.underlying102
  a46:=Tryd.isAgg102
  z46:=Tryd.sizeOf102
  v46:=Tryd.zeroValue102
  t51:=Tryd.underlying86
  a51:=Tryd.isAgg86
  z51:=Tryd.sizeOf86
  v51:=Tryd.zeroValue86
  t53:=Tryd.underlying125
  a53:=Tryd.isAgg125
  z53:=Tryd.sizeOf125
  v53:=Tryd.zeroValue125
  t75:=Tryd.underlying58
  a75:=Tryd.isAgg58
  z75:=Tryd.sizeOf58
  v75:=Tryd.zeroValue58
  t76:=Tryd.underlying59
  a76:=Tryd.isAgg59
  z76:=Tryd.sizeOf59
  v76:=Tryd.zeroValue59
  t85:=Tryd.underlying96
  a85:=Tryd.isAgg96
  z85:=Tryd.sizeOf96
  v85:=Tryd.zeroValue96
  t127:=Tryd.underlying91
  a127:=Tryd.isAgg91
  z127:=Tryd.sizeOf91
  v127:=Tryd.zeroValue91
  t143:=Tryd.underlying150
  a143:=Tryd.isAgg150
  z143:=Tryd.sizeOf150
  v143:=Tryd.zeroValue150
  t145:=Tryd.underlying152
  a145:=Tryd.isAgg152
  z145:=Tryd.sizeOf152
  v145:=Tryd.zeroValue152
  t167:=Tryd.underlying95
  a167:=Tryd.isAgg95
  z167:=Tryd.sizeOf95
  v167:=Tryd.zeroValue95
  t168:=Tryd.underlying98
  a168:=Tryd.isAgg98
  z168:=Tryd.sizeOf98
  v168:=Tryd.zeroValue98
  t171:=Tryd.underlying124
  a171:=Tryd.isAgg124
  z171:=Tryd.sizeOf124
  v171:=Tryd.zeroValue124
  t173:=Tryd.underlying128
  a173:=Tryd.isAgg128
  z173:=Tryd.sizeOf128
  v173:=Tryd.zeroValue128
  t175:=Tryd.underlying133
  a175:=Tryd.isAgg133
  z175:=Tryd.sizeOf133
  v175:=Tryd.zeroValue133
  t210:=Tryd.underlying137
  a210:=Tryd.isAgg137
  z210:=Tryd.sizeOf137
  v210:=Tryd.zeroValue137
  t212:=Tryd.underlying146
  a212:=Tryd.isAgg146
  z212:=Tryd.sizeOf146
  v212:=Tryd.zeroValue146
  t213:=Tryd.underlying147
  a213:=Tryd.isAgg147
  z213:=Tryd.sizeOf147
  t232:=Tryd.underlying154
  a232:=Tryd.isAgg154
  z232:=Tryd.sizeOf154
  v232:=Tryd.zeroValue154
  t233:=Tryd.underlying155
  a233:=Tryd.isAgg155
  z233:=Tryd.sizeOf155
  v233:=Tryd.zeroValue155
  g15:=by kernel_rfl
  g16:=by kernel_rfl
  g17:=by kernel_rfl
  g18:=by kernel_rfl
  g19:=by kernel_rfl
  t80:=Tryd.underlying78
  a80:=Tryd.isAgg78
  z80:=Tryd.sizeOf78
  v80:=Tryd.zeroValue78
  i0:=by kernel_rfl
  i2:=by kernel_rfl
  i3:=by kernel_rfl
  i4:=by kernel_rfl
  i5:=by kernel_rfl
  i9:=by kernel_rfl
  i20:=by kernel_rfl
  i21:=by kernel_rfl
  i37:=by kernel_rfl
  i46:=by kernel_rfl
  i51:=by kernel_rfl
  i53:=by kernel_rfl
  i75:=by kernel_rfl
  i76:=by kernel_rfl
  i80:=by kernel_rfl
  i85:=by kernel_rfl
  i127:=by kernel_rfl
  i143:=by kernel_rfl
  i145:=by kernel_rfl
  i167:=by kernel_rfl
  i168:=by kernel_rfl
  i171:=by kernel_rfl
  i173:=by kernel_rfl
  i175:=by kernel_rfl
  i210:=by kernel_rfl
  i212:=by kernel_rfl
  i232:=by kernel_rfl
  i233:=by kernel_rfl
  m15:=by kernel_rfl
  m16:=by kernel_rfl
  m17:=by kernel_rfl
  m18:=by kernel_rfl
  m19:=by kernel_rfl
  c0:=by kernel_rfl
  c2:=by kernel_rfl
  c3:=by kernel_rfl
  c4:=by kernel_rfl
  c5:=by kernel_rfl
  c9:=by kernel_rfl
  c20:=by kernel_rfl
  c21:=by kernel_rfl
  c37:=by kernel_rfl
  c46:=by kernel_rfl
  c51:=by kernel_rfl
  c53:=by kernel_rfl
  c75:=by kernel_rfl
  c76:=by kernel_rfl
  c80:=by kernel_rfl
  c85:=by kernel_rfl
  c127:=by kernel_rfl
  c143:=by kernel_rfl
  c145:=by kernel_rfl
  c167:=by kernel_rfl
  c168:=by kernel_rfl
  c171:=by kernel_rfl
  c173:=by kernel_rfl
  c175:=by kernel_rfl
  c210:=by kernel_rfl
  c212:=by kernel_rfl
  c213:=by kernel_rfl
  c232:=by kernel_rfl
  c233:=by kernel_rfl }
open Go.RowKit in
/-- strconv.Atoi, AT EVERY STRING THAT SPELLS AN int ('Lib.atoiAll .. = .ok v'; of whatever length: leading zeros count): v, AND NO ERROR. The world: as it was, or with the one new row that '[]byte(..)' lays. (LAID: no walk: one application.) -/
theorem Tryd.strconv_Atoi_ok (s : ByteArray) (hmax : s.size ≤ 9223372036854775806) (v : Int) (h : Lib.atoiAll s.data.toList = .ok v) (w : World) :
    Calls Tryd.prog 29 #[.string s] w fun e w' => e = .returned (.tuple #[.int .i64 v,.nilIface]) ∧ (w' = w ∨ ∃ t,w' = Lib.bytesWorld w 5 t):=Any.strconv_Atoi_ok Tryd.laysC172 s hmax v h w
open Go.RowKit in
theorem Tryd.strconv_Atoi_range_var (s : ByteArray) (hlim : s.size ≤ 281474976710656) (h : Lib.atoiAll s.data.toList = .range) (tp : TypeId) (p : Value) (w : World) (hvar : w.var? Tryd.prog "strconv.ErrRange" = some #[.iface tp p]) :
    Calls Tryd.prog 29 #[.string s] w fun e w' => ∃ N,e = .returned (.tuple #[.int .i64 (Lib.atoiSat s.data.toList),.iface 98 (.pointer (some ⟨N,0,none⟩))]) ∧ w.heap.size ≤ N ∧ w'.heap[N]? = some (.cells #[.string ⟨#[65,116,111,105]⟩,.string s,.iface tp p] 137 (0,0)) ∧ Below w.heap.size w w':=Any.strconv_Atoi_range_var Tryd.laysC172 s hlim h tp p w hvar
def Tryd.lays99_ren : Go.Shelf.Ren:=⟨fun | 99 => 53 | 206 => 70 | n => n,fun | 9 => 9 | 4 => 4 | 3 => 3 | n => n,fun | n => n⟩
theorem Tryd.lays99 : Go.Proofs.Lays.n99 Tryd.prog Tryd.lays99_ren:={
  mixed:=by kernel_rfl
  f99:=Tryd.func53.trans (congrArg some (by kernel_rfl))
  f206:=Tryd.func70.trans (congrArg some (by kernel_rfl))
  t3:=Tryd.underlying3
  a3:=Tryd.isAgg3
  z3:=Tryd.sizeOf3
  v3:=Tryd.zeroValue3
  t4:=Tryd.underlying4
  a4:=Tryd.isAgg4
  z4:=Tryd.sizeOf4
  v4:=Tryd.zeroValue4
  t9:=Tryd.underlying9
  a9:=Tryd.isAgg9
  z9:=Tryd.sizeOf9
  v9:=Tryd.zeroValue9 }
open Go.RowKit Go.Lib in
/-- strings.HasPrefix: "HasPrefix reports whether the string s begins with prefix.": IT RETURNS 'Lib.hasPrefix s prefix'; the world is as it was. (LAID: no walk: one application.) -/
theorem Tryd.strings_HasPrefix (s p : ByteArray) (w : World) :
    Calls Tryd.prog 53 #[.string s,.string p] w fun e w' => e = .returned (.bool (Lib.hasPrefix s.data.toList p.data.toList)) ∧ w' = w:=Any.strings_HasPrefix Tryd.lays99 s p w
def Tryd.lays200_ren : Go.Shelf.Ren:=⟨fun | 200 => 40 | 261 => 59 | 311 => 73 | 312 => 74 | n => n,fun | 21 => 21 | 4 => 4 | 51 => 86 | 5 => 5 | 119 => 80 | 0 => 0 | 141 => 88 | 196 => 109 | 193 => 106 | 3 => 3 | 198 => 112 | 49 => 110 | 194 => 107 | 201 => 115 | 226 => 142 | 46 => 102 | 227 => 143 | n => n,fun | 7 => 1 | 8 => 2 | n => n⟩
theorem Tryd.lays200 : Go.Proofs.Lays.n200 Tryd.prog Tryd.lays200_ren:={
  mixed:=by kernel_rfl
  f200:=Tryd.func40.trans (congrArg some (by kernel_rfl))
  f261:=Tryd.func59.trans (congrArg some (by kernel_rfl))
  f311:=Tryd.func73.trans (congrArg some (by kernel_rfl))
  f312:=Tryd.func74.trans (congrArg some (by kernel_rfl))
  t0:=Tryd.underlying0
  a0:=Tryd.isAgg0
  z0:=Tryd.sizeOf0
  v0:=Tryd.zeroValue0
  t3:=Tryd.underlying3
  a3:=Tryd.isAgg3
  z3:=Tryd.sizeOf3
  v3:=Tryd.zeroValue3
  t4:=Tryd.underlying4
  a4:=Tryd.isAgg4
  z4:=Tryd.sizeOf4
  v4:=Tryd.zeroValue4
  t5:=Tryd.underlying5
  a5:=Tryd.isAgg5
  z5:=Tryd.sizeOf5
  v5:=Tryd.zeroValue5
  t21:=Tryd.underlying21
  a21:=Tryd.isAgg21
  z21:=Tryd.sizeOf21
  v21:=Tryd.zeroValue21
  t46:=Tryd.underlying102
  a46:=Tryd.isAgg102
  z46:=Tryd.sizeOf102
  v46:=Tryd.zeroValue102
  t49:=Tryd.underlying110
  a49:=Tryd.isAgg110
  z49:=Tryd.sizeOf110
  v49:=Tryd.zeroValue110
  t51:=Tryd.underlying86
  a51:=Tryd.isAgg86
  z51:=Tryd.sizeOf86
  v51:=Tryd.zeroValue86
  t119:=Tryd.underlying80
  a119:=Tryd.isAgg80
  z119:=Tryd.sizeOf80
  t141:=Tryd.underlying88
  a141:=Tryd.isAgg88
  z141:=Tryd.sizeOf88
  v141:=Tryd.zeroValue88
  t193:=Tryd.underlying106
  a193:=Tryd.isAgg106
  z193:=Tryd.sizeOf106
  v193:=Tryd.zeroValue106
  t194:=Tryd.underlying107
  a194:=Tryd.isAgg107
  z194:=Tryd.sizeOf107
  v194:=Tryd.zeroValue107
  t196:=Tryd.underlying109
  a196:=Tryd.isAgg109
  z196:=Tryd.sizeOf109
  v196:=Tryd.zeroValue109
  t198:=Tryd.underlying112
  a198:=Tryd.isAgg112
  z198:=Tryd.sizeOf112
  v198:=Tryd.zeroValue112
  t201:=Tryd.underlying115
  a201:=Tryd.isAgg115
  z201:=Tryd.sizeOf115
  v201:=Tryd.zeroValue115
  t226:=Tryd.underlying142
  a226:=Tryd.isAgg142
  z226:=Tryd.sizeOf142
  v226:=Tryd.zeroValue142
  t227:=Tryd.underlying143
  a227:=Tryd.isAgg143
  z227:=Tryd.sizeOf143
  v227:=Tryd.zeroValue143
  g7:=by kernel_rfl
  g8:=by kernel_rfl }
open Go.RowKit Go.Lib in
theorem Tryd.unicode_IsLetter (c : Nat) (w : World) (hc : c < 256) (htab : Lib.TabIs Tryd.prog w "unicode.properties" .u8 Lib.propertiesTab) :
    Calls Tryd.prog 40 #[.int .i32 c] w fun e w' => e = .returned (.bool (Lib.isLetterL c)) ∧ w' = w:=Any.unicode_IsLetter Tryd.lays200 (by kernel_rfl) c w hc htab
def Tryd.lays151_ren : Go.Shelf.Ren:=⟨fun | 151 => 56 | 152 => 72 | 137 => 92 | 119 => 93 | 224 => 94 | 225 => 95 | 217 => 105 | 266 => 109 | n => n,fun | 9 => 9 | 21 => 21 | 4 => 4 | 3 => 3 | 5 => 5 | 0 => 0 | 46 => 102 | n => n,fun | n => n⟩
theorem Tryd.lays151 : Go.Proofs.Lays.n151 Tryd.prog Tryd.lays151_ren:={
  mixed:=by kernel_rfl
  f119:=Tryd.func93.trans (congrArg some (by kernel_rfl))
  f137:=Tryd.func92.trans (congrArg some (by kernel_rfl))
  f151:=Tryd.func56.trans (congrArg some (by kernel_rfl))
  f152:=Tryd.func72.trans (congrArg some (by kernel_rfl))
  f217:=Tryd.func105.trans (congrArg some (by kernel_rfl))
  f224:=Tryd.func94.trans (congrArg some (by kernel_rfl))
  f225:=Tryd.func95.trans (congrArg some (by kernel_rfl))
  f266:=Tryd.func109.trans (congrArg some (by kernel_rfl))
  t0:=Tryd.underlying0
  a0:=Tryd.isAgg0
  z0:=Tryd.sizeOf0
  v0:=Tryd.zeroValue0
  t3:=Tryd.underlying3
  a3:=Tryd.isAgg3
  z3:=Tryd.sizeOf3
  v3:=Tryd.zeroValue3
  t4:=Tryd.underlying4
  a4:=Tryd.isAgg4
  z4:=Tryd.sizeOf4
  v4:=Tryd.zeroValue4
  t5:=Tryd.underlying5
  a5:=Tryd.isAgg5
  z5:=Tryd.sizeOf5
  v5:=Tryd.zeroValue5
  t9:=Tryd.underlying9
  a9:=Tryd.isAgg9
  z9:=Tryd.sizeOf9
  v9:=Tryd.zeroValue9
  t21:=Tryd.underlying21
  a21:=Tryd.isAgg21
  z21:=Tryd.sizeOf21
  v21:=Tryd.zeroValue21
  t46:=Tryd.underlying102
  a46:=Tryd.isAgg102
  z46:=Tryd.sizeOf102
  v46:=Tryd.zeroValue102 }
open Go.RowKit Go.Lib in
theorem Tryd.strings_ContainsRune_ascii (s : ByteArray) (r : Int) (w : World) (h0 : 0 ≤ r) (h1 : r < 128) :
    Calls Tryd.prog 56 #[.string s,.int .i32 r] w fun e w' => e = .returned (.bool (decide (0 ≤ Lib.indexByte s.data.toList r.toNat.toUInt8))) ∧ w' = w:=Any.strings_ContainsRune_ascii Tryd.lays151 s r w h0 h1
def Tryd.lays195_ren : Go.Shelf.Ren:=⟨fun | 195 => 43 | n => n,fun | 9 => 9 | 3 => 3 | 0 => 0 | 4 => 4 | n => n,fun | n => n⟩
theorem Tryd.lays195 : Go.Proofs.Lays.n195 Tryd.prog Tryd.lays195_ren:={
  mixed:=by kernel_rfl
  f195:=Tryd.func43.trans (congrArg some (by kernel_rfl))
  t0:=Tryd.underlying0
  a0:=Tryd.isAgg0
  z0:=Tryd.sizeOf0
  v0:=Tryd.zeroValue0
  t3:=Tryd.underlying3
  a3:=Tryd.isAgg3
  z3:=Tryd.sizeOf3
  v3:=Tryd.zeroValue3
  t4:=Tryd.underlying4
  a4:=Tryd.isAgg4
  z4:=Tryd.sizeOf4
  v4:=Tryd.zeroValue4
  t9:=Tryd.underlying9
  a9:=Tryd.isAgg9
  z9:=Tryd.sizeOf9
  v9:=Tryd.zeroValue9 }
def Tryd.lays197_ren : Go.Shelf.Ren:=⟨fun | 197 => 34 | 260 => 57 | n => n,fun | 9 => 9 | 21 => 21 | 3 => 3 | 4 => 4 | 5 => 5 | 105 => 68 | 119 => 80 | 0 => 0 | 46 => 102 | 139 => 105 | 138 => 104 | n => n,fun | 3 => 4 | 4 => 5 | n => n⟩
theorem Tryd.lays197 : Go.Proofs.Lays.n197 Tryd.prog Tryd.lays197_ren:={
  mixed:=by kernel_rfl
  f197:=Tryd.func34.trans (congrArg some (by kernel_rfl))
  f260:=Tryd.func57.trans (congrArg some (by kernel_rfl))
  t0:=Tryd.underlying0
  a0:=Tryd.isAgg0
  z0:=Tryd.sizeOf0
  v0:=Tryd.zeroValue0
  t3:=Tryd.underlying3
  a3:=Tryd.isAgg3
  z3:=Tryd.sizeOf3
  v3:=Tryd.zeroValue3
  t4:=Tryd.underlying4
  a4:=Tryd.isAgg4
  z4:=Tryd.sizeOf4
  v4:=Tryd.zeroValue4
  t5:=Tryd.underlying5
  a5:=Tryd.isAgg5
  z5:=Tryd.sizeOf5
  v5:=Tryd.zeroValue5
  t9:=Tryd.underlying9
  a9:=Tryd.isAgg9
  z9:=Tryd.sizeOf9
  v9:=Tryd.zeroValue9
  t21:=Tryd.underlying21
  a21:=Tryd.isAgg21
  z21:=Tryd.sizeOf21
  v21:=Tryd.zeroValue21
  t46:=Tryd.underlying102
  a46:=Tryd.isAgg102
  z46:=Tryd.sizeOf102
  v46:=Tryd.zeroValue102
  t105:=Tryd.underlying68
  a105:=Tryd.isAgg68
  z105:=Tryd.sizeOf68
  v105:=Tryd.zeroValue68
  t119:=Tryd.underlying80
  a119:=Tryd.isAgg80
  z119:=Tryd.sizeOf80
  t138:=Tryd.underlying104
  a138:=Tryd.isAgg104
  z138:=Tryd.sizeOf104
  v138:=Tryd.zeroValue104
  t139:=Tryd.underlying105
  a139:=Tryd.isAgg105
  z139:=Tryd.sizeOf105
  v139:=Tryd.zeroValue105
  g3:=by kernel_rfl
  g4:=by kernel_rfl }
open Go.RowKit Go.Lib in
/-- **unicode/utf8.DecodeRuneInString AT EVERY STRING.** (LAID: no walk: one application.) -/
theorem Tryd.utf8_DecodeRuneInString (s : ByteArray) (w : World) (hT : Lib.Utf8Tabs 4 5 w) :
    Calls Tryd.prog 34 #[.string s] w fun e w' => e = .returned (.tuple #[.int .i32 (Lib.decodeGo s).1,.int .i64 (Lib.decodeGo s).2]) ∧ Below w.heap.size w w':=Any.utf8_DecodeRuneInString Tryd.lays197 s w hT
open Go.RowKit Go.Lib in
/-- unicode.IsLetter(r) AT EVERY int32, the tables as their initialisers lay them: 'Lib.isLetterU r'. (LAID: no walk: one application.) -/
theorem Tryd.unicode_IsLetter_all (r : Int) (w : World) (hlo : -2147483648 ≤ r) (hhi : r ≤ 2147483647) (htab : Lib.TabIs Tryd.prog w "unicode.properties" .u8 Lib.propertiesTab) (hV : RVar 2 letterT w) :
    Calls Tryd.prog 40 #[.int .i32 r] w fun e w' => e = .returned (.bool (isLetterU r)) ∧ Below w.heap.size w w':=Any.unicode_IsLetter_all Tryd.lays200 (by kernel_rfl) r w hlo hhi htab hV
end Go.Proofs
