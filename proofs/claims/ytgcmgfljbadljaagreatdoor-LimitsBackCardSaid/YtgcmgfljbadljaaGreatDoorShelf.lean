/-
  DERIVED: THE SHELF's CONTRACTS AT THIS DUMP,IN PLAIN WORDS (tools/lay-plain.mjs out of 'TryzShelf.lean',which tools/lay-shelf.mjs wrote): THE SAME DECLARATIONS UNDER THE SAME NAMES: 'import','namespace','open','def','theorem' AND NOTHING ELSE: no command of the shelf's: FOR A HAND-IN. Each laying: the table of numbers ('.._ren') and one theorem,a field a fact of the dump's own or the kernel's comparison;each contract: ONE APPLICATION.
-/
import Derived.Shelf.Strings.Builder1
import Derived.Shelf.Strings.Builder2
import Derived.Shelf.Strings.OnBuilder
import Derived.Shelf.Strings.Trim
import Derived.Shelf.Small.Utf8
import Derived.Shelf.Small.Strs
import Derived.Shelf.Strings.BuilderF
import Derived.Shelf.Strings.BuilderK
import Derived.Shelf.Utf8.RuneCount
import Derived.Shelf.Strings.Builder2Cap
import Derived.Shelf.Strconv.Atoi
import Derived.Shelf.Strconv.Itoa0
import Derived.Shelf.Strconv.Itoa1
import Derived.Shelf.LaysM
import Derived.Shelf.Strconv.Itoa2
import Derived.Shelf.Strconv.Itoa3
import Derived.Shelf.Strconv.AtoiErrFast
import Derived.Shelf.Strconv.ParseIntEmpty
import Derived.Shelf.Strconv.AtoiFail
import Derived.Shelf.Strconv.Clone
import Derived.Shelf.Strconv.SyntaxError
import Derived.Shelf.LaysC
import Derived.Shelf.Strconv.ToError
import Derived.Shelf.Strconv.Lower
import Derived.Shelf.Strconv.ParseUint10
import Derived.Shelf.Strconv.ParseUint10Empty
import Derived.Shelf.Strconv.ParseUint10Any
import Derived.Shelf.Strconv.ParseInt10
import Derived.Shelf.Strconv.AtoiLong
import Derived.Shelf.Strconv.AtoiInnerAll
import Derived.Shelf.Strconv.RangeError
import Derived.Shelf.Strconv.ToErrorRange
import Derived.Shelf.Strconv.AtoiAll
import Derived.Shelf.Strconv.ErrVarAll
import Derived.Shelf.Strconv.ParseUintEmpty
import Derived.Shelf.Strconv.ParseUint10b64
import Derived.Shelf.Strconv.ParseUint10b32
import Derived.Shelf.Strconv.ParseUint10b16
import Derived.Shelf.Strconv.ParseUint10b8
import Derived.Shelf.Strings.Search1
import Derived.Shelf.Strings.Prefix
import Derived.Shelf.Unicode.Props
import Derived.Shelf.Unicode.PropsLaid
import Derived.Shelf.Unicode.Decode
import Derived.Shelf.Strings.Runes
import Derived.Shelf.Strings.RuneCount
import Derived.Shelf.Strings.AsciiSet
import Derived.Shelf.Unicode.DecodeSlow
import Derived.Shelf.Unicode.DecodeAny
import Derived.Shelf.Unicode.Is16White
import Derived.Shelf.Unicode.IsSpaceAny
import Derived.Shelf.Unicode.DecodeLast
import Derived.Shelf.Unicode.Is16WhiteD
import Derived.Shelf.Unicode.IsSpaceAnyD
import Derived.Shelf.Unicode.Is16Any
import Derived.Shelf.Unicode.Is32Any
import Derived.Shelf.Unicode.ExclAny
import Derived.Shelf.Unicode.PredsAny
import Derived.Shelf.Unicode.PredsPay
import Derived.Shelf.Slices.Turned
import Derived.Ground.SlgfProg
import Derived.Shelf.SlicesE.IndexFunc
import Derived.Test.YtgcmgfljbadljaaGreatDoorProg
namespace Go.Proofs
open Go.Shelf
def Tryz.lays169_ren : Go.Shelf.Ren:=⟨fun | 169 => 47 | n => n,fun | 70 => 85 | 9 => 9 | 0 => 0 | 72 => 88 | 37 => 86 | 127 => 119 | 3 => 3 | 5 => 5 | n => n,fun | n => n⟩
theorem Tryz.lays169 : Go.Proofs.Lays.n169 Tryz.prog Tryz.lays169_ren:={
  mixed:=by kernel_rfl
  f169:=Tryz.func47.trans (congrArg some (by kernel_rfl))
  t0:=Tryz.underlying0
  a0:=Tryz.isAgg0
  z0:=Tryz.sizeOf0
  v0:=Tryz.zeroValue0
  t3:=Tryz.underlying3
  a3:=Tryz.isAgg3
  z3:=Tryz.sizeOf3
  v3:=Tryz.zeroValue3
  t9:=Tryz.underlying9
  a9:=Tryz.isAgg9
  z9:=Tryz.sizeOf9
  v9:=Tryz.zeroValue9
  t37:=Tryz.underlying86
  a37:=Tryz.isAgg86
  z37:=Tryz.sizeOf86
  v37:=Tryz.zeroValue86
  t70:=Tryz.underlying85
  a70:=Tryz.isAgg85
  z70:=Tryz.sizeOf85
  v70:=Tryz.zeroValue85
  t72:=Tryz.underlying88
  a72:=Tryz.isAgg88
  z72:=Tryz.sizeOf88
  v72:=Tryz.zeroValue88
  t127:=Tryz.underlying119
  a127:=Tryz.isAgg119
  z127:=Tryz.sizeOf119
  v127:=Tryz.zeroValue119 }
theorem Tryz.Builder_Extra_169 : Builder.Extra Tryz.prog Tryz.lays169_ren:={
  sizeBuilder:=by kernel_rfl
  liesBuilder:=by kernel_rfl
  t5:=Tryz.underlying5
  a5:=Tryz.isAgg5
  z5:=Tryz.sizeOf5
  v5:=Tryz.zeroValue5
  infoByte:=by kernel_rfl
  cellsByte:=by kernel_rfl
  sizeByte:=by kernel_rfl
  neB5:=by decide }
def Tryz.lays156_ren : Go.Shelf.Ren:=⟨fun | 156 => 45 | 165 => 74 | 166 => 44 | 169 => 47 | 240 => 73 | 241 => 93 | 276 => 92 | 277 => 111 | n => n,fun | 31 => 89 | 9 => 9 | 3 => 3 | 4 => 4 | 0 => 0 | 20 => 20 | 72 => 88 | 76 => 92 | 70 => 85 | 37 => 86 | 75 => 91 | 127 => 119 | 164 => 134 | 5 => 5 | 80 => 97 | n => n,fun | n => n⟩
theorem Tryz.lays156 : Go.Proofs.Lays.n156 Tryz.prog Tryz.lays156_ren:={
  mixed:=by kernel_rfl
  f156:=Tryz.func45.trans (congrArg some (by kernel_rfl))
  f165:=Tryz.func74.trans (congrArg some (by kernel_rfl))
  f166:=Tryz.func44.trans (congrArg some (by kernel_rfl))
  f169:=Tryz.func47.trans (congrArg some (by kernel_rfl))
  f240:=Tryz.func73.trans (congrArg some (by kernel_rfl))
  f241:=Tryz.func93.trans (congrArg some (by kernel_rfl))
  f276:=Tryz.func92.trans (congrArg some (by kernel_rfl))
  f277:=Tryz.func111.trans (congrArg some (by kernel_rfl))
  t0:=Tryz.underlying0
  a0:=Tryz.isAgg0
  z0:=Tryz.sizeOf0
  v0:=Tryz.zeroValue0
  t3:=Tryz.underlying3
  a3:=Tryz.isAgg3
  z3:=Tryz.sizeOf3
  v3:=Tryz.zeroValue3
  t4:=Tryz.underlying4
  a4:=Tryz.isAgg4
  z4:=Tryz.sizeOf4
  v4:=Tryz.zeroValue4
  t9:=Tryz.underlying9
  a9:=Tryz.isAgg9
  z9:=Tryz.sizeOf9
  v9:=Tryz.zeroValue9
  t20:=Tryz.underlying20
  a20:=Tryz.isAgg20
  z20:=Tryz.sizeOf20
  v20:=Tryz.zeroValue20
  t31:=Tryz.underlying89
  a31:=Tryz.isAgg89
  z31:=Tryz.sizeOf89
  v31:=Tryz.zeroValue89
  t37:=Tryz.underlying86
  a37:=Tryz.isAgg86
  z37:=Tryz.sizeOf86
  v37:=Tryz.zeroValue86
  t70:=Tryz.underlying85
  a70:=Tryz.isAgg85
  z70:=Tryz.sizeOf85
  v70:=Tryz.zeroValue85
  t72:=Tryz.underlying88
  a72:=Tryz.isAgg88
  z72:=Tryz.sizeOf88
  v72:=Tryz.zeroValue88
  t75:=Tryz.underlying91
  a75:=Tryz.isAgg91
  z75:=Tryz.sizeOf91
  v75:=Tryz.zeroValue91
  t76:=Tryz.underlying92
  a76:=Tryz.isAgg92
  z76:=Tryz.sizeOf92
  v76:=Tryz.zeroValue92
  t127:=Tryz.underlying119
  a127:=Tryz.isAgg119
  z127:=Tryz.sizeOf119
  v127:=Tryz.zeroValue119
  t164:=Tryz.underlying134
  a164:=Tryz.isAgg134
  z164:=Tryz.sizeOf134
  v164:=Tryz.zeroValue134 }
theorem Tryz.Builder_Extra_156 : Builder.Extra Tryz.prog Tryz.lays156_ren:={
  sizeBuilder:=by kernel_rfl
  liesBuilder:=by kernel_rfl
  t5:=Tryz.underlying5
  a5:=Tryz.isAgg5
  z5:=Tryz.sizeOf5
  v5:=Tryz.zeroValue5
  infoByte:=by kernel_rfl
  cellsByte:=by kernel_rfl
  sizeByte:=by kernel_rfl
  neB5:=by decide }
open Go.RowKit in
theorem Tryz.strings_Join (bk o c : Nat) (xs : List ByteArray) (sep : ByteArray) (w : World) (hcells : ∀ (j : Nat) x,xs[j]? = some x → w.cell? ⟨bk,o + j,none⟩ = some (.string x)) (hbk : bk < w.heap.size) (hN : xs.length ≤ 140737488355328) (hcap : xs.length ≤ c) (hlen : (Lib.join (xs.map (·.data.toList)) sep.data.toList).length ≤ 140737488355328) :
    Calls Tryz.prog 45 #[.slice (some ⟨bk,o,none⟩) xs.length c,.string sep] w fun e w' => e = .returned (.string ⟨(Lib.join (xs.map (·.data.toList)) sep.data.toList).toArray⟩) ∧ Below w.heap.size w w':=Any.strings_Join Tryz.lays156 Tryz.Builder_Extra_156 bk o c xs sep w hcells hbk hN hcap hlen
def Tryz.lays161_ren : Go.Shelf.Ren:=⟨fun | 161 => 102 | 231 => 118 | 227 => 98 | 233 => 119 | 235 => 120 | 228 => 116 | 197 => 64 | 151 => 85 | 260 => 89 | 152 => 103 | 137 => 121 | 119 => 122 | 224 => 123 | 225 => 124 | 217 => 134 | 266 => 139 | n => n,fun | 9 => 9 | 4 => 4 | 3 => 3 | 5 => 5 | 117 => 141 | 116 => 140 | 0 => 0 | 124 => 144 | 105 => 112 | 21 => 21 | 119 => 131 | 46 => 137 | 139 => 154 | 138 => 153 | n => n,fun | 3 => 2 | 4 => 3 | n => n⟩
theorem Tryz.lays161 : Go.Proofs.Lays.n161 Tryz.prog Tryz.lays161_ren:={
  mixed:=by kernel_rfl
  f119:=Tryz.func122.trans (congrArg some (by kernel_rfl))
  f137:=Tryz.func121.trans (congrArg some (by kernel_rfl))
  f151:=Tryz.func85.trans (congrArg some (by kernel_rfl))
  f152:=Tryz.func103.trans (congrArg some (by kernel_rfl))
  f161:=Tryz.func102.trans (congrArg some (by kernel_rfl))
  f197:=Tryz.func64.trans (congrArg some (by kernel_rfl))
  f217:=Tryz.func134.trans (congrArg some (by kernel_rfl))
  f224:=Tryz.func123.trans (congrArg some (by kernel_rfl))
  f225:=Tryz.func124.trans (congrArg some (by kernel_rfl))
  f227:=Tryz.func98.trans (congrArg some (by kernel_rfl))
  f228:=Tryz.func116.trans (congrArg some (by kernel_rfl))
  f231:=Tryz.func118.trans (congrArg some (by kernel_rfl))
  f233:=Tryz.func119.trans (congrArg some (by kernel_rfl))
  f235:=Tryz.func120.trans (congrArg some (by kernel_rfl))
  f260:=Tryz.func89.trans (congrArg some (by kernel_rfl))
  f266:=Tryz.func139.trans (congrArg some (by kernel_rfl))
  t0:=Tryz.underlying0
  a0:=Tryz.isAgg0
  z0:=Tryz.sizeOf0
  v0:=Tryz.zeroValue0
  t3:=Tryz.underlying3
  a3:=Tryz.isAgg3
  z3:=Tryz.sizeOf3
  v3:=Tryz.zeroValue3
  t4:=Tryz.underlying4
  a4:=Tryz.isAgg4
  z4:=Tryz.sizeOf4
  v4:=Tryz.zeroValue4
  t5:=Tryz.underlying5
  a5:=Tryz.isAgg5
  z5:=Tryz.sizeOf5
  v5:=Tryz.zeroValue5
  t9:=Tryz.underlying9
  a9:=Tryz.isAgg9
  z9:=Tryz.sizeOf9
  v9:=Tryz.zeroValue9
  t21:=Tryz.underlying21
  a21:=Tryz.isAgg21
  z21:=Tryz.sizeOf21
  v21:=Tryz.zeroValue21
  t46:=Tryz.underlying137
  a46:=Tryz.isAgg137
  z46:=Tryz.sizeOf137
  v46:=Tryz.zeroValue137
  t105:=Tryz.underlying112
  a105:=Tryz.isAgg112
  z105:=Tryz.sizeOf112
  v105:=Tryz.zeroValue112
  t116:=Tryz.underlying140
  a116:=Tryz.isAgg140
  z116:=Tryz.sizeOf140
  t117:=Tryz.underlying141
  a117:=Tryz.isAgg141
  z117:=Tryz.sizeOf141
  v117:=Tryz.zeroValue141
  t119:=Tryz.underlying131
  a119:=Tryz.isAgg131
  z119:=Tryz.sizeOf131
  t124:=Tryz.underlying144
  a124:=Tryz.isAgg144
  z124:=Tryz.sizeOf144
  v124:=Tryz.zeroValue144
  t138:=Tryz.underlying153
  a138:=Tryz.isAgg153
  z138:=Tryz.sizeOf153
  v138:=Tryz.zeroValue153
  t139:=Tryz.underlying154
  a139:=Tryz.isAgg154
  z139:=Tryz.sizeOf154
  v139:=Tryz.zeroValue154
  g3:=by kernel_rfl
  g4:=by kernel_rfl }
def Tryz.lays162_ren : Go.Shelf.Ren:=⟨fun | 162 => 81 | 232 => 97 | 227 => 98 | 234 => 99 | 236 => 100 | 228 => 116 | 271 => 117 | 151 => 85 | 120 => 133 | 197 => 64 | 152 => 103 | 260 => 89 | 137 => 121 | 119 => 122 | 224 => 123 | 225 => 124 | 217 => 134 | 266 => 139 | n => n,fun | 9 => 9 | 4 => 4 | 3 => 3 | 5 => 5 | 117 => 141 | 116 => 140 | 0 => 0 | 124 => 144 | 21 => 21 | 105 => 112 | 46 => 137 | 119 => 131 | 139 => 154 | 138 => 153 | n => n,fun | 3 => 2 | 4 => 3 | n => n⟩
theorem Tryz.lays162 : Go.Proofs.Lays.n162 Tryz.prog Tryz.lays162_ren:={
  mixed:=by kernel_rfl
  f119:=Tryz.func122.trans (congrArg some (by kernel_rfl))
  f120:=Tryz.func133.trans (congrArg some (by kernel_rfl))
  f137:=Tryz.func121.trans (congrArg some (by kernel_rfl))
  f151:=Tryz.func85.trans (congrArg some (by kernel_rfl))
  f152:=Tryz.func103.trans (congrArg some (by kernel_rfl))
  f162:=Tryz.func81.trans (congrArg some (by kernel_rfl))
  f197:=Tryz.func64.trans (congrArg some (by kernel_rfl))
  f217:=Tryz.func134.trans (congrArg some (by kernel_rfl))
  f224:=Tryz.func123.trans (congrArg some (by kernel_rfl))
  f225:=Tryz.func124.trans (congrArg some (by kernel_rfl))
  f227:=Tryz.func98.trans (congrArg some (by kernel_rfl))
  f228:=Tryz.func116.trans (congrArg some (by kernel_rfl))
  f232:=Tryz.func97.trans (congrArg some (by kernel_rfl))
  f234:=Tryz.func99.trans (congrArg some (by kernel_rfl))
  f236:=Tryz.func100.trans (congrArg some (by kernel_rfl))
  f260:=Tryz.func89.trans (congrArg some (by kernel_rfl))
  f266:=Tryz.func139.trans (congrArg some (by kernel_rfl))
  f271:=Tryz.func117.trans (congrArg some (by kernel_rfl))
  t0:=Tryz.underlying0
  a0:=Tryz.isAgg0
  z0:=Tryz.sizeOf0
  v0:=Tryz.zeroValue0
  t3:=Tryz.underlying3
  a3:=Tryz.isAgg3
  z3:=Tryz.sizeOf3
  v3:=Tryz.zeroValue3
  t4:=Tryz.underlying4
  a4:=Tryz.isAgg4
  z4:=Tryz.sizeOf4
  v4:=Tryz.zeroValue4
  t5:=Tryz.underlying5
  a5:=Tryz.isAgg5
  z5:=Tryz.sizeOf5
  v5:=Tryz.zeroValue5
  t9:=Tryz.underlying9
  a9:=Tryz.isAgg9
  z9:=Tryz.sizeOf9
  v9:=Tryz.zeroValue9
  t21:=Tryz.underlying21
  a21:=Tryz.isAgg21
  z21:=Tryz.sizeOf21
  v21:=Tryz.zeroValue21
  t46:=Tryz.underlying137
  a46:=Tryz.isAgg137
  z46:=Tryz.sizeOf137
  v46:=Tryz.zeroValue137
  t105:=Tryz.underlying112
  a105:=Tryz.isAgg112
  z105:=Tryz.sizeOf112
  v105:=Tryz.zeroValue112
  t116:=Tryz.underlying140
  a116:=Tryz.isAgg140
  z116:=Tryz.sizeOf140
  t117:=Tryz.underlying141
  a117:=Tryz.isAgg141
  z117:=Tryz.sizeOf141
  v117:=Tryz.zeroValue141
  t119:=Tryz.underlying131
  a119:=Tryz.isAgg131
  z119:=Tryz.sizeOf131
  t124:=Tryz.underlying144
  a124:=Tryz.isAgg144
  z124:=Tryz.sizeOf144
  v124:=Tryz.zeroValue144
  t138:=Tryz.underlying153
  a138:=Tryz.isAgg153
  z138:=Tryz.sizeOf153
  v138:=Tryz.zeroValue153
  t139:=Tryz.underlying154
  a139:=Tryz.isAgg154
  z139:=Tryz.sizeOf154
  v139:=Tryz.zeroValue154
  g3:=by kernel_rfl
  g4:=by kernel_rfl }
def Tryz.lays119_ren : Go.Shelf.Ren:=⟨fun | 119 => 122 | n => n,fun | 21 => 21 | 4 => 4 | n => n,fun | n => n⟩
theorem Tryz.lays119 : Go.Proofs.Lays.n119 Tryz.prog Tryz.lays119_ren:={
  mixed:=by kernel_rfl
  f119:=Tryz.func122.trans (congrArg some (by kernel_rfl))
  t4:=Tryz.underlying4
  a4:=Tryz.isAgg4
  z4:=Tryz.sizeOf4
  v4:=Tryz.zeroValue4
  t21:=Tryz.underlying21
  a21:=Tryz.isAgg21
  z21:=Tryz.sizeOf21
  v21:=Tryz.zeroValue21 }
theorem Tryz.utf8_ValidRune (r : Int) (w : World) :
    Calls Tryz.prog 122 #[.int .i32 r] w fun e w' => e = .returned (.bool (Lib.validRune r)) ∧ w' = w:=Any.utf8_ValidRune Tryz.lays119 r w
def Tryz.lays137_ren : Go.Shelf.Ren:=⟨fun | 137 => 121 | 217 => 134 | 266 => 139 | n => n,fun | 9 => 9 | 5 => 5 | 3 => 3 | n => n,fun | n => n⟩
theorem Tryz.lays137 : Go.Proofs.Lays.n137 Tryz.prog Tryz.lays137_ren:={
  mixed:=by kernel_rfl
  f137:=Tryz.func121.trans (congrArg some (by kernel_rfl))
  f217:=Tryz.func134.trans (congrArg some (by kernel_rfl))
  f266:=Tryz.func139.trans (congrArg some (by kernel_rfl))
  t3:=Tryz.underlying3
  a3:=Tryz.isAgg3
  z3:=Tryz.sizeOf3
  v3:=Tryz.zeroValue3
  t5:=Tryz.underlying5
  a5:=Tryz.isAgg5
  z5:=Tryz.sizeOf5
  v5:=Tryz.zeroValue5
  t9:=Tryz.underlying9
  a9:=Tryz.isAgg9
  z9:=Tryz.sizeOf9
  v9:=Tryz.zeroValue9 }
open Go.RowKit in
theorem Tryz.strings_IndexByte (s : ByteArray) (c : Int) (w : World) :
    Calls Tryz.prog 121 #[.string s,.int .u8 c] w fun e w' => e = .returned (.int .i64 (Lib.indexByte s.data.toList c.toNat.toUInt8)) ∧ w' = w:=Any.strings_IndexByte Tryz.lays137 s c w
open Go.RowKit in
theorem Tryz.Builder_String_any_k (B b : Nat) (l : List UInt8) (w : World) (h : Lib.IsBuilderF 88 5 B b (Lib.byteCells l) w) (hBw : B ≤ w.heap.size) :
    Calls Tryz.prog 47 #[.pointer (some ⟨b,0,none⟩)] w fun e w' => e = .returned (.string ⟨l.toArray⟩) ∧ (Lib.IsBuilderF 88 5 B b (Lib.byteCells l) w' ∧ Below B w w' ∧ Lib.OthersKept 5 (some b) w w'):=Any.Builder_String_any_k Tryz.lays169 Tryz.Builder_Extra_169 B b l w h hBw
def Tryz.lays195_ren : Go.Shelf.Ren:=⟨fun | 195 => 56 | n => n,fun | 9 => 9 | 3 => 3 | 0 => 0 | 4 => 4 | n => n,fun | n => n⟩
theorem Tryz.lays195 : Go.Proofs.Lays.n195 Tryz.prog Tryz.lays195_ren:={
  mixed:=by kernel_rfl
  f195:=Tryz.func56.trans (congrArg some (by kernel_rfl))
  t0:=Tryz.underlying0
  a0:=Tryz.isAgg0
  z0:=Tryz.sizeOf0
  v0:=Tryz.zeroValue0
  t3:=Tryz.underlying3
  a3:=Tryz.isAgg3
  z3:=Tryz.sizeOf3
  v3:=Tryz.zeroValue3
  t4:=Tryz.underlying4
  a4:=Tryz.isAgg4
  z4:=Tryz.sizeOf4
  v4:=Tryz.zeroValue4
  t9:=Tryz.underlying9
  a9:=Tryz.isAgg9
  z9:=Tryz.sizeOf9
  v9:=Tryz.zeroValue9 }
open Go.RowKit in
theorem Tryz.utf8_RuneCountInString (s : ByteArray) (w : World) (hs : s.size < 9223372036854775807) :
    Calls Tryz.prog 56 #[.string s] w fun e w' => e = .returned (.int .i64 (Lib.runeCount s)) ∧ ∃ pos,w' = w.iter s pos:=Any.utf8_RuneCountInString Tryz.lays195 s w hs
def Tryz.lays172_ren : Go.Shelf.Ren:=⟨fun | 172 => 63 | 244 => 87 | 245 => 88 | 247 => 104 | 279 => 105 | 280 => 106 | 281 => 107 | 282 => 108 | 287 => 125 | 316 => 126 | 171 => 46 | 205 => 127 | 321 => 135 | 322 => 136 | 243 => 75 | 246 => 94 | 283 => 112 | 284 => 113 | 285 => 114 | 286 => 115 | 129 => 129 | 317 => 128 | 318 => 130 | 319 => 131 | 320 => 132 | 337 => 137 | 338 => 138 | n => n,fun | 9 => 9 | 3 => 3 | 75 => 91 | 76 => 92 | 4 => 4 | 5 => 5 | 167 => 146 | 37 => 86 | 0 => 0 | 85 => 147 | 2 => 2 | 168 => 149 | 53 => 168 | 175 => 175 | 46 => 137 | 210 => 179 | 127 => 119 | 145 => 190 | 143 => 188 | 21 => 21 | 171 => 167 | 173 => 171 | 212 => 184 | 51 => 130 | 20 => 20 | 213 => 185 | 232 => 192 | 233 => 193 | 80 => 97 | n => n,fun | 15 => 4 | 16 => 5 | 17 => 7 | 18 => 8 | 19 => 9 | n => n⟩
theorem Tryz.lays172 : Go.Proofs.Lays.n172 Tryz.prog Tryz.lays172_ren:={
  mixed:=by kernel_rfl
  f129:=Tryz.func129.trans (congrArg some (by kernel_rfl))
  f171:=Tryz.func46.trans (congrArg some (by kernel_rfl))
  f172:=Tryz.func63.trans (congrArg some (by kernel_rfl))
  f205:=Tryz.func127.trans (congrArg some (by kernel_rfl))
  f243:=Tryz.func75.trans (congrArg some (by kernel_rfl))
  f244:=Tryz.func87.trans (congrArg some (by kernel_rfl))
  f245:=Tryz.func88.trans (congrArg some (by kernel_rfl))
  f246:=Tryz.func94.trans (congrArg some (by kernel_rfl))
  f247:=Tryz.func104.trans (congrArg some (by kernel_rfl))
  f279:=Tryz.func105.trans (congrArg some (by kernel_rfl))
  f280:=Tryz.func106.trans (congrArg some (by kernel_rfl))
  f281:=Tryz.func107.trans (congrArg some (by kernel_rfl))
  f282:=Tryz.func108.trans (congrArg some (by kernel_rfl))
  f283:=Tryz.func112.trans (congrArg some (by kernel_rfl))
  f284:=Tryz.func113.trans (congrArg some (by kernel_rfl))
  f285:=Tryz.func114.trans (congrArg some (by kernel_rfl))
  f286:=Tryz.func115.trans (congrArg some (by kernel_rfl))
  f287:=Tryz.func125.trans (congrArg some (by kernel_rfl))
  f316:=Tryz.func126.trans (congrArg some (by kernel_rfl))
  f317:=Tryz.func128.trans (congrArg some (by kernel_rfl))
  f318:=Tryz.func130.trans (congrArg some (by kernel_rfl))
  f319:=Tryz.func131.trans (congrArg some (by kernel_rfl))
  f320:=Tryz.func132.trans (congrArg some (by kernel_rfl))
  f321:=Tryz.func135.trans (congrArg some (by kernel_rfl))
  f322:=Tryz.func136.trans (congrArg some (by kernel_rfl))
  f337:=Tryz.func137.trans (congrArg some (by kernel_rfl))
  f338:=Tryz.func138.trans (congrArg some (by kernel_rfl))
  t0:=Tryz.underlying0
  a0:=Tryz.isAgg0
  z0:=Tryz.sizeOf0
  v0:=Tryz.zeroValue0
  t2:=Tryz.underlying2
  a2:=Tryz.isAgg2
  z2:=Tryz.sizeOf2
  v2:=Tryz.zeroValue2
  t3:=Tryz.underlying3
  a3:=Tryz.isAgg3
  z3:=Tryz.sizeOf3
  v3:=Tryz.zeroValue3
  t4:=Tryz.underlying4
  a4:=Tryz.isAgg4
  z4:=Tryz.sizeOf4
  v4:=Tryz.zeroValue4
  t5:=Tryz.underlying5
  a5:=Tryz.isAgg5
  z5:=Tryz.sizeOf5
  v5:=Tryz.zeroValue5
  t9:=Tryz.underlying9
  a9:=Tryz.isAgg9
  z9:=Tryz.sizeOf9
  v9:=Tryz.zeroValue9
  t20:=Tryz.underlying20
  a20:=Tryz.isAgg20
  z20:=Tryz.sizeOf20
  v20:=Tryz.zeroValue20
  t21:=Tryz.underlying21
  a21:=Tryz.isAgg21
  z21:=Tryz.sizeOf21
  v21:=Tryz.zeroValue21
  t37:=Tryz.underlying86
  a37:=Tryz.isAgg86
  z37:=Tryz.sizeOf86
  v37:=Tryz.zeroValue86
  t46:=Tryz.underlying137
  a46:=Tryz.isAgg137
  z46:=Tryz.sizeOf137
  v46:=Tryz.zeroValue137
  t51:=Tryz.underlying130
  a51:=Tryz.isAgg130
  z51:=Tryz.sizeOf130
  v51:=Tryz.zeroValue130
  t53:=Tryz.underlying168
  a53:=Tryz.isAgg168
  z53:=Tryz.sizeOf168
  v53:=Tryz.zeroValue168
  t75:=Tryz.underlying91
  a75:=Tryz.isAgg91
  z75:=Tryz.sizeOf91
  v75:=Tryz.zeroValue91
  t76:=Tryz.underlying92
  a76:=Tryz.isAgg92
  z76:=Tryz.sizeOf92
  v76:=Tryz.zeroValue92
  t85:=Tryz.underlying147
  a85:=Tryz.isAgg147
  z85:=Tryz.sizeOf147
  v85:=Tryz.zeroValue147
  t127:=Tryz.underlying119
  a127:=Tryz.isAgg119
  z127:=Tryz.sizeOf119
  v127:=Tryz.zeroValue119
  t143:=Tryz.underlying188
  a143:=Tryz.isAgg188
  z143:=Tryz.sizeOf188
  v143:=Tryz.zeroValue188
  t145:=Tryz.underlying190
  a145:=Tryz.isAgg190
  z145:=Tryz.sizeOf190
  v145:=Tryz.zeroValue190
  t167:=Tryz.underlying146
  a167:=Tryz.isAgg146
  z167:=Tryz.sizeOf146
  v167:=Tryz.zeroValue146
  t168:=Tryz.underlying149
  a168:=Tryz.isAgg149
  z168:=Tryz.sizeOf149
  v168:=Tryz.zeroValue149
  t171:=Tryz.underlying167
  a171:=Tryz.isAgg167
  z171:=Tryz.sizeOf167
  v171:=Tryz.zeroValue167
  t173:=Tryz.underlying171
  a173:=Tryz.isAgg171
  z173:=Tryz.sizeOf171
  v173:=Tryz.zeroValue171
  t175:=Tryz.underlying175
  a175:=Tryz.isAgg175
  z175:=Tryz.sizeOf175
  v175:=Tryz.zeroValue175
  t210:=Tryz.underlying179
  a210:=Tryz.isAgg179
  z210:=Tryz.sizeOf179
  v210:=Tryz.zeroValue179
  t212:=Tryz.underlying184
  a212:=Tryz.isAgg184
  z212:=Tryz.sizeOf184
  v212:=Tryz.zeroValue184
  t213:=Tryz.underlying185
  a213:=Tryz.isAgg185
  z213:=Tryz.sizeOf185
  t232:=Tryz.underlying192
  a232:=Tryz.isAgg192
  z232:=Tryz.sizeOf192
  v232:=Tryz.zeroValue192
  t233:=Tryz.underlying193
  a233:=Tryz.isAgg193
  z233:=Tryz.sizeOf193
  v233:=Tryz.zeroValue193
  g15:=by kernel_rfl
  g16:=by kernel_rfl
  g17:=by kernel_rfl
  g18:=by kernel_rfl
  g19:=by kernel_rfl }
open Go.RowKit in
theorem Tryz.strconv_Atoi (s : ByteArray) (n : Int) (hl : s.size ≤ 18) (h : Lib.atoi s.data.toList = some n) (w : World) :
    Calls Tryz.prog 63 #[.string s] w fun e w' => e = .returned (.tuple #[.int .i64 n,.nilIface]) ∧ ∃ t,w' = Lib.bytesWorld w 5 t:=Any.strconv_Atoi Tryz.lays172 s n hl h w
def Tryz.laysM171_ren : Go.Shelf.Ren:=⟨fun | 171 => 46 | 243 => 75 | 246 => 94 | 283 => 112 | 284 => 113 | 285 => 114 | 286 => 115 | 129 => 129 | 317 => 128 | 318 => 130 | 319 => 131 | 320 => 132 | 337 => 137 | 338 => 138 | n => n,fun | 3 => 3 | 9 => 9 | 2 => 2 | 4 => 4 | 171 => 167 | 0 => 0 | 53 => 168 | 37 => 86 | 5 => 5 | 173 => 171 | 212 => 184 | 51 => 130 | 20 => 20 | 213 => 185 | 46 => 137 | 232 => 192 | 233 => 193 | n => n,fun | 17 => 7 | 18 => 8 | 19 => 9 | n => n⟩
theorem Tryz.laysM171 : Go.Proofs.LaysM.n171 Tryz.prog Tryz.laysM171_ren:={
  mixed:=by kernel_rfl
  f129:=Tryz.func129.trans (congrArg some (by kernel_rfl))
  f171:=Tryz.func46.trans (congrArg some (by kernel_rfl))
  f243:=Tryz.func75.trans (congrArg some (by kernel_rfl))
  f246:=Tryz.func94.trans (congrArg some (by kernel_rfl))
  f283:=Tryz.func112.trans (congrArg some (by kernel_rfl))
  f284:=Tryz.func113.trans (congrArg some (by kernel_rfl))
  f285:=Tryz.func114.trans (congrArg some (by kernel_rfl))
  f286:=Tryz.func115.trans (congrArg some (by kernel_rfl))
  f317:=Tryz.func128.trans (congrArg some (by kernel_rfl))
  f318:=Tryz.func130.trans (congrArg some (by kernel_rfl))
  f319:=Tryz.func131.trans (congrArg some (by kernel_rfl))
  f320:=Tryz.func132.trans (congrArg some (by kernel_rfl))
  f337:=Tryz.func137.trans (congrArg some (by kernel_rfl))
  f338:=Tryz.func138.trans (congrArg some (by kernel_rfl))
  t0:=Tryz.underlying0
  a0:=Tryz.isAgg0
  z0:=Tryz.sizeOf0
  v0:=Tryz.zeroValue0
  t2:=Tryz.underlying2
  a2:=Tryz.isAgg2
  z2:=Tryz.sizeOf2
  v2:=Tryz.zeroValue2
  t3:=Tryz.underlying3
  a3:=Tryz.isAgg3
  z3:=Tryz.sizeOf3
  v3:=Tryz.zeroValue3
  t4:=Tryz.underlying4
  a4:=Tryz.isAgg4
  z4:=Tryz.sizeOf4
  v4:=Tryz.zeroValue4
  t5:=Tryz.underlying5
  a5:=Tryz.isAgg5
  z5:=Tryz.sizeOf5
  v5:=Tryz.zeroValue5
  t9:=Tryz.underlying9
  a9:=Tryz.isAgg9
  z9:=Tryz.sizeOf9
  v9:=Tryz.zeroValue9
  t20:=Tryz.underlying20
  a20:=Tryz.isAgg20
  z20:=Tryz.sizeOf20
  v20:=Tryz.zeroValue20
  t37:=Tryz.underlying86
  a37:=Tryz.isAgg86
  z37:=Tryz.sizeOf86
  v37:=Tryz.zeroValue86
  t46:=Tryz.underlying137
  a46:=Tryz.isAgg137
  z46:=Tryz.sizeOf137
  v46:=Tryz.zeroValue137
  t51:=Tryz.underlying130
  a51:=Tryz.isAgg130
  z51:=Tryz.sizeOf130
  v51:=Tryz.zeroValue130
  t53:=Tryz.underlying168
  a53:=Tryz.isAgg168
  z53:=Tryz.sizeOf168
  v53:=Tryz.zeroValue168
  t171:=Tryz.underlying167
  a171:=Tryz.isAgg167
  z171:=Tryz.sizeOf167
  v171:=Tryz.zeroValue167
  t173:=Tryz.underlying171
  a173:=Tryz.isAgg171
  z173:=Tryz.sizeOf171
  v173:=Tryz.zeroValue171
  t212:=Tryz.underlying184
  a212:=Tryz.isAgg184
  z212:=Tryz.sizeOf184
  v212:=Tryz.zeroValue184
  t213:=Tryz.underlying185
  a213:=Tryz.isAgg185
  z213:=Tryz.sizeOf185
  t232:=Tryz.underlying192
  a232:=Tryz.isAgg192
  z232:=Tryz.sizeOf192
  v232:=Tryz.zeroValue192
  t233:=Tryz.underlying193
  a233:=Tryz.isAgg193
  z233:=Tryz.sizeOf193
  v233:=Tryz.zeroValue193
  g17:=by kernel_rfl
  g18:=by kernel_rfl
  g19:=by kernel_rfl
  i0:=by kernel_rfl
  i2:=by kernel_rfl
  i3:=by kernel_rfl
  i4:=by kernel_rfl
  i5:=by kernel_rfl
  i9:=by kernel_rfl
  i20:=by kernel_rfl
  i37:=by kernel_rfl
  i46:=by kernel_rfl
  i51:=by kernel_rfl
  i53:=by kernel_rfl
  i171:=by kernel_rfl
  i173:=by kernel_rfl
  i212:=by kernel_rfl
  i232:=by kernel_rfl
  i233:=by kernel_rfl
  m17:=by kernel_rfl
  m18:=by kernel_rfl
  m19:=by kernel_rfl }
open Go.RowKit Go.Sort Go.Lib in
theorem Tryz.strconv_Itoa (n : Int) (h0 : -9223372036854775808 ≤ n) (h1 : n ≤ 9223372036854775807) (w : World) (htab : Lib.TabIs Tryz.prog w "internal/strconv.uint64pow10" .u64 Lib.pow10Tab) :
    Calls Tryz.prog 46 #[.int .i64 n] w fun e w' => e = .returned (.string ⟨(Lib.itoa n).toArray⟩) ∧ ∃ k os,w' = grow (w.drewN k) os:=Any.strconv_Itoa Tryz.laysM171 n h0 h1 w htab
def Tryz.laysC172_ren : Go.Shelf.Ren:=⟨fun | 172 => 63 | 244 => 87 | 245 => 88 | 247 => 104 | 279 => 105 | 280 => 106 | 281 => 107 | 282 => 108 | 287 => 125 | 316 => 126 | 171 => 46 | 205 => 127 | 321 => 135 | 322 => 136 | 243 => 75 | 246 => 94 | 283 => 112 | 284 => 113 | 285 => 114 | 286 => 115 | 129 => 129 | 317 => 128 | 318 => 130 | 319 => 131 | 320 => 132 | 337 => 137 | 338 => 138 | n => n,fun | 9 => 9 | 3 => 3 | 75 => 91 | 76 => 92 | 4 => 4 | 5 => 5 | 167 => 146 | 37 => 86 | 0 => 0 | 85 => 147 | 2 => 2 | 168 => 149 | 53 => 168 | 175 => 175 | 46 => 137 | 210 => 179 | 127 => 119 | 145 => 190 | 143 => 188 | 21 => 21 | 171 => 167 | 173 => 171 | 212 => 184 | 51 => 130 | 20 => 20 | 213 => 185 | 232 => 192 | 233 => 193 | 80 => 97 | n => n,fun | 15 => 4 | 16 => 5 | 17 => 7 | 18 => 8 | 19 => 9 | n => n⟩
theorem Tryz.laysC172 : Go.Proofs.LaysC.n172 Tryz.prog Tryz.laysC172_ren:={
  mixed:=by kernel_rfl
  f129:=Tryz.func129.trans (congrArg some (by kernel_rfl))
  f171:=Tryz.func46.trans (congrArg some (by kernel_rfl))
  f172:=Tryz.func63.trans (congrArg some (by kernel_rfl))
  f205:=Tryz.func127.trans (congrArg some (by kernel_rfl))
  f243:=Tryz.func75.trans (congrArg some (by kernel_rfl))
  f244:=Tryz.func87.trans (congrArg some (by kernel_rfl))
  f245:=Tryz.func88.trans (congrArg some (by kernel_rfl))
  f246:=Tryz.func94.trans (congrArg some (by kernel_rfl))
  f247:=Tryz.func104.trans (congrArg some (by kernel_rfl))
  f279:=Tryz.func105.trans (congrArg some (by kernel_rfl))
  f280:=Tryz.func106.trans (congrArg some (by kernel_rfl))
  f281:=Tryz.func107.trans (congrArg some (by kernel_rfl))
  f282:=Tryz.func108.trans (congrArg some (by kernel_rfl))
  f283:=Tryz.func112.trans (congrArg some (by kernel_rfl))
  f284:=Tryz.func113.trans (congrArg some (by kernel_rfl))
  f285:=Tryz.func114.trans (congrArg some (by kernel_rfl))
  f286:=Tryz.func115.trans (congrArg some (by kernel_rfl))
  f287:=Tryz.func125.trans (congrArg some (by kernel_rfl))
  f316:=Tryz.func126.trans (congrArg some (by kernel_rfl))
  f317:=Tryz.func128.trans (congrArg some (by kernel_rfl))
  f318:=Tryz.func130.trans (congrArg some (by kernel_rfl))
  f319:=Tryz.func131.trans (congrArg some (by kernel_rfl))
  f320:=Tryz.func132.trans (congrArg some (by kernel_rfl))
  f321:=Tryz.func135.trans (congrArg some (by kernel_rfl))
  f322:=Tryz.func136.trans (congrArg some (by kernel_rfl))
  f337:=Tryz.func137.trans (congrArg some (by kernel_rfl))
  f338:=Tryz.func138.trans (congrArg some (by kernel_rfl))
  t0:=Tryz.underlying0
  a0:=Tryz.isAgg0
  z0:=Tryz.sizeOf0
  v0:=Tryz.zeroValue0
  t2:=Tryz.underlying2
  a2:=Tryz.isAgg2
  z2:=Tryz.sizeOf2
  v2:=Tryz.zeroValue2
  t3:=Tryz.underlying3
  a3:=Tryz.isAgg3
  z3:=Tryz.sizeOf3
  v3:=Tryz.zeroValue3
  t4:=Tryz.underlying4
  a4:=Tryz.isAgg4
  z4:=Tryz.sizeOf4
  v4:=Tryz.zeroValue4
  t5:=Tryz.underlying5
  a5:=Tryz.isAgg5
  z5:=Tryz.sizeOf5
  v5:=Tryz.zeroValue5
  t9:=Tryz.underlying9
  a9:=Tryz.isAgg9
  z9:=Tryz.sizeOf9
  v9:=Tryz.zeroValue9
  t20:=Tryz.underlying20
  a20:=Tryz.isAgg20
  z20:=Tryz.sizeOf20
  v20:=Tryz.zeroValue20
  t21:=Tryz.underlying21
  a21:=Tryz.isAgg21
  z21:=Tryz.sizeOf21
  v21:=Tryz.zeroValue21
  t37:=Tryz.underlying86
  a37:=Tryz.isAgg86
  z37:=Tryz.sizeOf86
  v37:=Tryz.zeroValue86
  t46:=Tryz.underlying137
  a46:=Tryz.isAgg137
  z46:=Tryz.sizeOf137
  v46:=Tryz.zeroValue137
  t51:=Tryz.underlying130
  a51:=Tryz.isAgg130
  z51:=Tryz.sizeOf130
  v51:=Tryz.zeroValue130
  t53:=Tryz.underlying168
  a53:=Tryz.isAgg168
  z53:=Tryz.sizeOf168
  v53:=Tryz.zeroValue168
  t75:=Tryz.underlying91
  a75:=Tryz.isAgg91
  z75:=Tryz.sizeOf91
  v75:=Tryz.zeroValue91
  t76:=Tryz.underlying92
  a76:=Tryz.isAgg92
  z76:=Tryz.sizeOf92
  v76:=Tryz.zeroValue92
  t85:=Tryz.underlying147
  a85:=Tryz.isAgg147
  z85:=Tryz.sizeOf147
  v85:=Tryz.zeroValue147
  t127:=Tryz.underlying119
  a127:=Tryz.isAgg119
  z127:=Tryz.sizeOf119
  v127:=Tryz.zeroValue119
  t143:=Tryz.underlying188
  a143:=Tryz.isAgg188
  z143:=Tryz.sizeOf188
  v143:=Tryz.zeroValue188
  t145:=Tryz.underlying190
  a145:=Tryz.isAgg190
  z145:=Tryz.sizeOf190
  v145:=Tryz.zeroValue190
  t167:=Tryz.underlying146
  a167:=Tryz.isAgg146
  z167:=Tryz.sizeOf146
  v167:=Tryz.zeroValue146
  t168:=Tryz.underlying149
  a168:=Tryz.isAgg149
  z168:=Tryz.sizeOf149
  v168:=Tryz.zeroValue149
  t171:=Tryz.underlying167
  a171:=Tryz.isAgg167
  z171:=Tryz.sizeOf167
  v171:=Tryz.zeroValue167
  t173:=Tryz.underlying171
  a173:=Tryz.isAgg171
  z173:=Tryz.sizeOf171
  v173:=Tryz.zeroValue171
  t175:=Tryz.underlying175
  a175:=Tryz.isAgg175
  z175:=Tryz.sizeOf175
  v175:=Tryz.zeroValue175
  t210:=Tryz.underlying179
  a210:=Tryz.isAgg179
  z210:=Tryz.sizeOf179
  v210:=Tryz.zeroValue179
  t212:=Tryz.underlying184
  a212:=Tryz.isAgg184
  z212:=Tryz.sizeOf184
  v212:=Tryz.zeroValue184
  t213:=Tryz.underlying185
  a213:=Tryz.isAgg185
  z213:=Tryz.sizeOf185
  t232:=Tryz.underlying192
  a232:=Tryz.isAgg192
  z232:=Tryz.sizeOf192
  v232:=Tryz.zeroValue192
  t233:=Tryz.underlying193
  a233:=Tryz.isAgg193
  z233:=Tryz.sizeOf193
  v233:=Tryz.zeroValue193
  g15:=by kernel_rfl
  g16:=by kernel_rfl
  g17:=by kernel_rfl
  g18:=by kernel_rfl
  g19:=by kernel_rfl
  t80:=Tryz.underlying97
  a80:=Tryz.isAgg97
  z80:=Tryz.sizeOf97
  v80:=Tryz.zeroValue97
  i0:=by kernel_rfl
  i2:=by kernel_rfl
  i3:=by kernel_rfl
  i4:=by kernel_rfl
  i5:=by kernel_rfl
  i9:=by kernel_rfl
  i20:=by kernel_rfl
  i21:=by kernel_rfl
  i37:=by kernel_rfl
  i46:=by kernel_rfl
  i51:=by kernel_rfl
  i53:=by kernel_rfl
  i75:=by kernel_rfl
  i76:=by kernel_rfl
  i80:=by kernel_rfl
  i85:=by kernel_rfl
  i127:=by kernel_rfl
  i143:=by kernel_rfl
  i145:=by kernel_rfl
  i167:=by kernel_rfl
  i168:=by kernel_rfl
  i171:=by kernel_rfl
  i173:=by kernel_rfl
  i175:=by kernel_rfl
  i210:=by kernel_rfl
  i212:=by kernel_rfl
  i232:=by kernel_rfl
  i233:=by kernel_rfl
  m15:=by kernel_rfl
  m16:=by kernel_rfl
  m17:=by kernel_rfl
  m18:=by kernel_rfl
  m19:=by kernel_rfl
  c0:=by kernel_rfl
  c2:=by kernel_rfl
  c3:=by kernel_rfl
  c4:=by kernel_rfl
  c5:=by kernel_rfl
  c9:=by kernel_rfl
  c20:=by kernel_rfl
  c21:=by kernel_rfl
  c37:=by kernel_rfl
  c46:=by kernel_rfl
  c51:=by kernel_rfl
  c53:=by kernel_rfl
  c75:=by kernel_rfl
  c76:=by kernel_rfl
  c80:=by kernel_rfl
  c85:=by kernel_rfl
  c127:=by kernel_rfl
  c143:=by kernel_rfl
  c145:=by kernel_rfl
  c167:=by kernel_rfl
  c168:=by kernel_rfl
  c171:=by kernel_rfl
  c173:=by kernel_rfl
  c175:=by kernel_rfl
  c210:=by kernel_rfl
  c212:=by kernel_rfl
  c213:=by kernel_rfl
  c232:=by kernel_rfl
  c233:=by kernel_rfl }
open Go.RowKit in
theorem Tryz.strconv_Atoi_ok (s : ByteArray) (hmax : s.size ≤ 9223372036854775806) (v : Int) (h : Lib.atoiAll s.data.toList = .ok v) (w : World) :
    Calls Tryz.prog 63 #[.string s] w fun e w' => e = .returned (.tuple #[.int .i64 v,.nilIface]) ∧ (w' = w ∨ ∃ t,w' = Lib.bytesWorld w 5 t):=Any.strconv_Atoi_ok Tryz.laysC172 s hmax v h w
open Go.RowKit in
theorem Tryz.strconv_Atoi_syntax_var (s : ByteArray) (hlim : s.size ≤ 281474976710656) (h : Lib.atoiAll s.data.toList = .«syntax») (tp : TypeId) (p : Value) (w : World) (hvar : w.var? Tryz.prog "strconv.ErrSyntax" = some #[.iface tp p]) :
    Calls Tryz.prog 63 #[.string s] w fun e w' => ∃ N,e = .returned (.tuple #[.int .i64 0,.iface 149 (.pointer (some ⟨N,0,none⟩))]) ∧ w.heap.size ≤ N ∧ w'.heap[N]? = some (.cells #[.string ⟨#[65,116,111,105]⟩,.string s,.iface tp p] 179 (0,0)) ∧ Below w.heap.size w w':=Any.strconv_Atoi_syntax_var Tryz.laysC172 s hlim h tp p w hvar
open Go.RowKit in
theorem Tryz.strconv_Atoi_range_var (s : ByteArray) (hlim : s.size ≤ 281474976710656) (h : Lib.atoiAll s.data.toList = .range) (tp : TypeId) (p : Value) (w : World) (hvar : w.var? Tryz.prog "strconv.ErrRange" = some #[.iface tp p]) :
    Calls Tryz.prog 63 #[.string s] w fun e w' => ∃ N,e = .returned (.tuple #[.int .i64 (Lib.atoiSat s.data.toList),.iface 149 (.pointer (some ⟨N,0,none⟩))]) ∧ w.heap.size ≤ N ∧ w'.heap[N]? = some (.cells #[.string ⟨#[65,116,111,105]⟩,.string s,.iface tp p] 179 (0,0)) ∧ Below w.heap.size w w':=Any.strconv_Atoi_range_var Tryz.laysC172 s hlim h tp p w hvar
def Tryz.lays99_ren : Go.Shelf.Ren:=⟨fun | 99 => 82 | 206 => 101 | n => n,fun | 9 => 9 | 4 => 4 | 3 => 3 | n => n,fun | n => n⟩
theorem Tryz.lays99 : Go.Proofs.Lays.n99 Tryz.prog Tryz.lays99_ren:={
  mixed:=by kernel_rfl
  f99:=Tryz.func82.trans (congrArg some (by kernel_rfl))
  f206:=Tryz.func101.trans (congrArg some (by kernel_rfl))
  t3:=Tryz.underlying3
  a3:=Tryz.isAgg3
  z3:=Tryz.sizeOf3
  v3:=Tryz.zeroValue3
  t4:=Tryz.underlying4
  a4:=Tryz.isAgg4
  z4:=Tryz.sizeOf4
  v4:=Tryz.zeroValue4
  t9:=Tryz.underlying9
  a9:=Tryz.isAgg9
  z9:=Tryz.sizeOf9
  v9:=Tryz.zeroValue9 }
open Go.RowKit Go.Lib in
theorem Tryz.strings_HasPrefix (s p : ByteArray) (w : World) :
    Calls Tryz.prog 82 #[.string s,.string p] w fun e w' => e = .returned (.bool (Lib.hasPrefix s.data.toList p.data.toList)) ∧ w' = w:=Any.strings_HasPrefix Tryz.lays99 s p w
def Tryz.lays200_ren : Go.Shelf.Ren:=⟨fun | 200 => 71 | 261 => 91 | 311 => 109 | 312 => 110 | n => n,fun | 21 => 21 | 4 => 4 | 51 => 130 | 5 => 5 | 119 => 131 | 0 => 0 | 141 => 133 | 196 => 158 | 193 => 155 | 3 => 3 | 198 => 161 | 49 => 159 | 194 => 156 | 201 => 164 | 226 => 181 | 46 => 137 | 227 => 182 | n => n,fun | 7 => 0 | 8 => 1 | n => n⟩
theorem Tryz.lays200 : Go.Proofs.Lays.n200 Tryz.prog Tryz.lays200_ren:={
  mixed:=by kernel_rfl
  f200:=Tryz.func71.trans (congrArg some (by kernel_rfl))
  f261:=Tryz.func91.trans (congrArg some (by kernel_rfl))
  f311:=Tryz.func109.trans (congrArg some (by kernel_rfl))
  f312:=Tryz.func110.trans (congrArg some (by kernel_rfl))
  t0:=Tryz.underlying0
  a0:=Tryz.isAgg0
  z0:=Tryz.sizeOf0
  v0:=Tryz.zeroValue0
  t3:=Tryz.underlying3
  a3:=Tryz.isAgg3
  z3:=Tryz.sizeOf3
  v3:=Tryz.zeroValue3
  t4:=Tryz.underlying4
  a4:=Tryz.isAgg4
  z4:=Tryz.sizeOf4
  v4:=Tryz.zeroValue4
  t5:=Tryz.underlying5
  a5:=Tryz.isAgg5
  z5:=Tryz.sizeOf5
  v5:=Tryz.zeroValue5
  t21:=Tryz.underlying21
  a21:=Tryz.isAgg21
  z21:=Tryz.sizeOf21
  v21:=Tryz.zeroValue21
  t46:=Tryz.underlying137
  a46:=Tryz.isAgg137
  z46:=Tryz.sizeOf137
  v46:=Tryz.zeroValue137
  t49:=Tryz.underlying159
  a49:=Tryz.isAgg159
  z49:=Tryz.sizeOf159
  v49:=Tryz.zeroValue159
  t51:=Tryz.underlying130
  a51:=Tryz.isAgg130
  z51:=Tryz.sizeOf130
  v51:=Tryz.zeroValue130
  t119:=Tryz.underlying131
  a119:=Tryz.isAgg131
  z119:=Tryz.sizeOf131
  t141:=Tryz.underlying133
  a141:=Tryz.isAgg133
  z141:=Tryz.sizeOf133
  v141:=Tryz.zeroValue133
  t193:=Tryz.underlying155
  a193:=Tryz.isAgg155
  z193:=Tryz.sizeOf155
  v193:=Tryz.zeroValue155
  t194:=Tryz.underlying156
  a194:=Tryz.isAgg156
  z194:=Tryz.sizeOf156
  v194:=Tryz.zeroValue156
  t196:=Tryz.underlying158
  a196:=Tryz.isAgg158
  z196:=Tryz.sizeOf158
  v196:=Tryz.zeroValue158
  t198:=Tryz.underlying161
  a198:=Tryz.isAgg161
  z198:=Tryz.sizeOf161
  v198:=Tryz.zeroValue161
  t201:=Tryz.underlying164
  a201:=Tryz.isAgg164
  z201:=Tryz.sizeOf164
  v201:=Tryz.zeroValue164
  t226:=Tryz.underlying181
  a226:=Tryz.isAgg181
  z226:=Tryz.sizeOf181
  v226:=Tryz.zeroValue181
  t227:=Tryz.underlying182
  a227:=Tryz.isAgg182
  z227:=Tryz.sizeOf182
  v227:=Tryz.zeroValue182
  g7:=by kernel_rfl
  g8:=by kernel_rfl }
open Go.RowKit Go.Lib in
theorem Tryz.unicode_IsLetter (c : Nat) (w : World) (hc : c < 256) (htab : Lib.TabIs Tryz.prog w "unicode.properties" .u8 Lib.propertiesTab) :
    Calls Tryz.prog 71 #[.int .i32 c] w fun e w' => e = .returned (.bool (Lib.isLetterL c)) ∧ w' = w:=Any.unicode_IsLetter Tryz.lays200 (by kernel_rfl) c w hc htab
def Tryz.lays197_ren : Go.Shelf.Ren:=⟨fun | 197 => 64 | 260 => 89 | n => n,fun | 9 => 9 | 21 => 21 | 3 => 3 | 4 => 4 | 5 => 5 | 105 => 112 | 119 => 131 | 0 => 0 | 46 => 137 | 139 => 154 | 138 => 153 | n => n,fun | 3 => 2 | 4 => 3 | n => n⟩
theorem Tryz.lays197 : Go.Proofs.Lays.n197 Tryz.prog Tryz.lays197_ren:={
  mixed:=by kernel_rfl
  f197:=Tryz.func64.trans (congrArg some (by kernel_rfl))
  f260:=Tryz.func89.trans (congrArg some (by kernel_rfl))
  t0:=Tryz.underlying0
  a0:=Tryz.isAgg0
  z0:=Tryz.sizeOf0
  v0:=Tryz.zeroValue0
  t3:=Tryz.underlying3
  a3:=Tryz.isAgg3
  z3:=Tryz.sizeOf3
  v3:=Tryz.zeroValue3
  t4:=Tryz.underlying4
  a4:=Tryz.isAgg4
  z4:=Tryz.sizeOf4
  v4:=Tryz.zeroValue4
  t5:=Tryz.underlying5
  a5:=Tryz.isAgg5
  z5:=Tryz.sizeOf5
  v5:=Tryz.zeroValue5
  t9:=Tryz.underlying9
  a9:=Tryz.isAgg9
  z9:=Tryz.sizeOf9
  v9:=Tryz.zeroValue9
  t21:=Tryz.underlying21
  a21:=Tryz.isAgg21
  z21:=Tryz.sizeOf21
  v21:=Tryz.zeroValue21
  t46:=Tryz.underlying137
  a46:=Tryz.isAgg137
  z46:=Tryz.sizeOf137
  v46:=Tryz.zeroValue137
  t105:=Tryz.underlying112
  a105:=Tryz.isAgg112
  z105:=Tryz.sizeOf112
  v105:=Tryz.zeroValue112
  t119:=Tryz.underlying131
  a119:=Tryz.isAgg131
  z119:=Tryz.sizeOf131
  t138:=Tryz.underlying153
  a138:=Tryz.isAgg153
  z138:=Tryz.sizeOf153
  v138:=Tryz.zeroValue153
  t139:=Tryz.underlying154
  a139:=Tryz.isAgg154
  z139:=Tryz.sizeOf154
  v139:=Tryz.zeroValue154
  g3:=by kernel_rfl
  g4:=by kernel_rfl }
def Tryz.lays151_ren : Go.Shelf.Ren:=⟨fun | 151 => 85 | 152 => 103 | 137 => 121 | 119 => 122 | 224 => 123 | 225 => 124 | 217 => 134 | 266 => 139 | n => n,fun | 9 => 9 | 21 => 21 | 4 => 4 | 3 => 3 | 5 => 5 | 0 => 0 | 46 => 137 | n => n,fun | n => n⟩
theorem Tryz.lays151 : Go.Proofs.Lays.n151 Tryz.prog Tryz.lays151_ren:={
  mixed:=by kernel_rfl
  f119:=Tryz.func122.trans (congrArg some (by kernel_rfl))
  f137:=Tryz.func121.trans (congrArg some (by kernel_rfl))
  f151:=Tryz.func85.trans (congrArg some (by kernel_rfl))
  f152:=Tryz.func103.trans (congrArg some (by kernel_rfl))
  f217:=Tryz.func134.trans (congrArg some (by kernel_rfl))
  f224:=Tryz.func123.trans (congrArg some (by kernel_rfl))
  f225:=Tryz.func124.trans (congrArg some (by kernel_rfl))
  f266:=Tryz.func139.trans (congrArg some (by kernel_rfl))
  t0:=Tryz.underlying0
  a0:=Tryz.isAgg0
  z0:=Tryz.sizeOf0
  v0:=Tryz.zeroValue0
  t3:=Tryz.underlying3
  a3:=Tryz.isAgg3
  z3:=Tryz.sizeOf3
  v3:=Tryz.zeroValue3
  t4:=Tryz.underlying4
  a4:=Tryz.isAgg4
  z4:=Tryz.sizeOf4
  v4:=Tryz.zeroValue4
  t5:=Tryz.underlying5
  a5:=Tryz.isAgg5
  z5:=Tryz.sizeOf5
  v5:=Tryz.zeroValue5
  t9:=Tryz.underlying9
  a9:=Tryz.isAgg9
  z9:=Tryz.sizeOf9
  v9:=Tryz.zeroValue9
  t21:=Tryz.underlying21
  a21:=Tryz.isAgg21
  z21:=Tryz.sizeOf21
  v21:=Tryz.zeroValue21
  t46:=Tryz.underlying137
  a46:=Tryz.isAgg137
  z46:=Tryz.sizeOf137
  v46:=Tryz.zeroValue137 }
open Go.RowKit Go.Lib in
theorem Tryz.strings_ContainsRune_ascii (s : ByteArray) (r : Int) (w : World) (h0 : 0 ≤ r) (h1 : r < 128) :
    Calls Tryz.prog 85 #[.string s,.int .i32 r] w fun e w' => e = .returned (.bool (decide (0 ≤ Lib.indexByte s.data.toList r.toNat.toUInt8))) ∧ w' = w:=Any.strings_ContainsRune_ascii Tryz.lays151 s r w h0 h1
open Go.RowKit Go.Lib in
theorem Tryz.utf8_DecodeRuneInString (s : ByteArray) (w : World) (hT : Lib.Utf8Tabs 2 3 w) :
    Calls Tryz.prog 64 #[.string s] w fun e w' => e = .returned (.tuple #[.int .i32 (Lib.decodeGo s).1,.int .i64 (Lib.decodeGo s).2]) ∧ Below w.heap.size w w':=Any.utf8_DecodeRuneInString Tryz.lays197 s w hT
open Go.RowKit Go.Lib in
theorem Tryz.unicode_IsLetter_all (r : Int) (w : World) (hlo : -2147483648 ≤ r) (hhi : r ≤ 2147483647) (htab : Lib.TabIs Tryz.prog w "unicode.properties" .u8 Lib.propertiesTab) (hV : RVar 1 letterT w) :
    Calls Tryz.prog 71 #[.int .i32 r] w fun e w' => e = .returned (.bool (isLetterU r)) ∧ Below w.heap.size w w':=Any.unicode_IsLetter_all Tryz.lays200 (by kernel_rfl) r w hlo hhi htab hV
def Tryz.lays110_ren : Go.Shelf.Ren:=⟨fun | 110 => 61 | 109 => 86 | n => n,fun | 31 => 89 | 9 => 9 | 4 => 4 | 3 => 3 | 0 => 0 | n => n,fun | n => n⟩
theorem Tryz.lays110 : Go.Proofs.Lays.n110 Tryz.prog Tryz.lays110_ren:={
  mixed:=by kernel_rfl
  f109:=Tryz.func86.trans (congrArg some (by kernel_rfl))
  f110:=Tryz.func61.trans (congrArg some (by kernel_rfl))
  t0:=Tryz.underlying0
  a0:=Tryz.isAgg0
  z0:=Tryz.sizeOf0
  v0:=Tryz.zeroValue0
  t3:=Tryz.underlying3
  a3:=Tryz.isAgg3
  z3:=Tryz.sizeOf3
  v3:=Tryz.zeroValue3
  t4:=Tryz.underlying4
  a4:=Tryz.isAgg4
  z4:=Tryz.sizeOf4
  v4:=Tryz.zeroValue4
  t9:=Tryz.underlying9
  a9:=Tryz.isAgg9
  z9:=Tryz.sizeOf9
  v9:=Tryz.zeroValue9
  t31:=Tryz.underlying89
  a31:=Tryz.isAgg89
  z31:=Tryz.sizeOf89
  v31:=Tryz.zeroValue89 }
open Go.Lib in
theorem Tryz.slices_Contains_string (b off n c : Nat) (zs : List ByteArray) (x : ByteArray) (w : World) (hz : n ≤ zs.length) (hbig : n ≤ 9223372036854775807) (hc : ∀ j,j < zs.length → w.cell? ⟨b,off + j,none⟩ = some (.string (zs.getD j ByteArray.empty))) :
    Calls Tryz.prog 61 #[.slice (some ⟨b,off,none⟩) n c,.string x] w fun e w' => e = .returned (.bool (Lib.containsS (zs.take n) x)) ∧ w' = w:=Any.slices_Contains_string Tryz.lays110 b off n c zs x w hz hbig hc
def Tryz.laysSlH8_f54_ren : Go.Shelf.Ren:=⟨fun | 8 => 54 | 6 => 79 | n => n,fun | 22 => 26 | 23 => 3 | 25 => 100 | 4 => 4 | 3 => 3 | 0 => 0 | n => n,fun | n => n⟩
theorem Tryz.laysSlH8_f54 : Go.Proofs.SlLaysH.n8 Tryz.prog Tryz.laysSlH8_f54_ren:={
  mixed:=by kernel_rfl
  f6:=⟨Tryz.f79.name,by decide,Tryz.func79.trans (congrArg some (by kernel_rfl))⟩
  f8:=⟨Tryz.f54.name,by decide,Tryz.func54.trans (congrArg some (by kernel_rfl))⟩
  t0:=Tryz.underlying0
  a0:=Tryz.isAgg0
  z0:=Tryz.sizeOf0
  v0:=Tryz.zeroValue0
  t3:=Tryz.underlying3
  a3:=Tryz.isAgg3
  z3:=Tryz.sizeOf3
  v3:=Tryz.zeroValue3
  t4:=Tryz.underlying4
  a4:=Tryz.isAgg4
  z4:=Tryz.sizeOf4
  v4:=Tryz.zeroValue4
  t22:=Tryz.underlying26
  a22:=Tryz.isAgg26
  z22:=Tryz.sizeOf26
  v22:=Tryz.zeroValue26
  a23:=Tryz.isAgg3
  z23:=Tryz.sizeOf3
  t25:=Tryz.underlying100
  a25:=Tryz.isAgg100
  z25:=Tryz.sizeOf100
  v25:=Tryz.zeroValue100 }
open Go.RowKit Go.Lib in
theorem Tryz.slices_ContainsFunc {α : Type} [Inhabited α] (enc : α → Value) (p : α → Bool) (g : Nat) (lb : Array Value) (eg : ∀ args w,(callFunc g args).run Tryz.prog w = .ok (.enter g args) w) (b off n c : Nat) (zs : List α) (w : World) (hp : PredAt Tryz.prog g lb enc p w) (hz : n ≤ zs.length) (hbig : n ≤ 9223372036854775807) (hc : ∀ j,j < zs.length → w.cell? ⟨b,off + j,none⟩ = some (enc zs[j]!)) :
    Calls Tryz.prog 54 #[.slice (some ⟨b,off,none⟩) n c,.func (.func g) #[] lb] w fun e w' => e = .returned (.bool ((zs.take n).any p)) ∧ ∃ q,w' = w.drewN q:=AnyE.slices_ContainsFunc Tryz.laysSlH8_f54 enc p g lb eg b off n c zs w hp hz hbig hc
open Go.RowKit Go.Lib in
theorem Tryz.slices_ContainsFunc_empty {α : Type} [Inhabited α] (a : Option Addr) (c : Nat) (fv : Value) (w : World) :
    Calls Tryz.prog 54 #[.slice a 0 c,fv] w fun e w' => e = .returned (.bool false) ∧ w' = w:=AnyE.slices_ContainsFunc_empty Tryz.laysSlH8_f54 a c fv w
end Go.Proofs
