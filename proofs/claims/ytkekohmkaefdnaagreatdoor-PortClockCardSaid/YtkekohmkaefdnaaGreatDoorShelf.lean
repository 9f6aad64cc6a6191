import Derived.Shelf.Strings.Builder1
import Derived.Shelf.Strings.Builder2
import Derived.Shelf.Strings.OnBuilder
import Derived.Shelf.Small.Utf8
import Derived.Shelf.Small.Bits
import Derived.Shelf.Small.Strs
import Derived.Shelf.Strings.BuilderF
import Derived.Shelf.Strings.BuilderK
import Derived.Shelf.Strings.Builder2Cap
import Derived.Shelf.Strconv.Itoa0
import Derived.Shelf.LaysM
import Derived.Shelf.Strconv.Clone
import Derived.Shelf.Strings.Search1
import Derived.Shelf.Strings.Search2
import Derived.Shelf.Strings.Search3
import Derived.Shelf.Strings.Count
import Derived.Shelf.Strings.Shaped
import Derived.Shelf.Strings.Split
import Derived.Shelf.Strings.Fields
import Derived.Shelf.Strings.SplitShaped
import Derived.Shelf.Unicode.Latin
import Derived.Shelf.Strings.Runes
import Derived.Shelf.Strings.IndexAny
import Derived.Shelf.Strings.AsciiSet
import Derived.Shelf.Strings.IndexAnyAll
import Derived.Shelf.Bits.Mul64
import Derived.Shelf.Unicode.DecodeSlow
import Derived.Shelf.Unicode.Is16White
import Derived.Shelf.Unicode.IsSpaceAny
import Derived.Shelf.Unicode.Is16WhiteD
import Derived.Shelf.Unicode.IsSpaceAnyD
import Derived.Shelf.Strings.FieldsAny
import Derived.Shelf.Strings.FieldsFuncAny
import Derived.Shelf.Unicode.Is16Any
import Derived.Shelf.Unicode.Is32Any
import Derived.Shelf.Unicode.ExclAny
import Derived.Shelf.Strings.BuilderCap
import Derived.Shelf.Slices.Turned
import Derived.Ground.SlgfProg
import Derived.Shelf.SlicesE.IndexFunc
import Derived.Shelf.SlicesE.DeleteFunc
import Derived.Ground.SlgmProg
import Derived.Shelf.SortM.Plain
import Derived.Shelf.SortM.SortNone
import Derived.Test.YtkekohmkaefdnaaGreatDoorProg
namespace Go.Proofs
open Go.Shelf
def Tryz.lays170_ren : Go.Shelf.Ren:=⟨fun | 170=>228 | n=>n,fun | 70=>239 | 3=>3 | 0=>0 | 72=>241 | 37=>150 | 5=>5 | n=>n,fun | n=>n⟩
theorem Tryz.lays170 : Go.Proofs.Lays.n170 Tryz.prog Tryz.lays170_ren:={
  mixed:=by kernel_rfl
  f170:=Tryz.func228.trans (congrArg some (by kernel_rfl))
  t0:=Tryz.underlying0
  a0:=Tryz.isAgg0
  z0:=Tryz.sizeOf0
  v0:=Tryz.zeroValue0
  t3:=Tryz.underlying3
  a3:=Tryz.isAgg3
  z3:=Tryz.sizeOf3
  v3:=Tryz.zeroValue3
  t37:=Tryz.underlying150
  a37:=Tryz.isAgg150
  z37:=Tryz.sizeOf150
  v37:=Tryz.zeroValue150
  t70:=Tryz.underlying239
  a70:=Tryz.isAgg239
  z70:=Tryz.sizeOf239
  v70:=Tryz.zeroValue239
  t72:=Tryz.underlying241
  a72:=Tryz.isAgg241
  z72:=Tryz.sizeOf241
  v72:=Tryz.zeroValue241 }
def Tryz.lays169_ren : Go.Shelf.Ren:=⟨fun | 169=>159 | n=>n,fun | 70=>239 | 9=>9 | 0=>0 | 72=>241 | 37=>150 | 127=>206 | 3=>3 | 5=>5 | n=>n,fun | n=>n⟩
theorem Tryz.lays169 : Go.Proofs.Lays.n169 Tryz.prog Tryz.lays169_ren:={
  mixed:=by kernel_rfl
  f169:=Tryz.func159.trans (congrArg some (by kernel_rfl))
  t0:=Tryz.underlying0
  a0:=Tryz.isAgg0
  z0:=Tryz.sizeOf0
  v0:=Tryz.zeroValue0
  t3:=Tryz.underlying3
  a3:=Tryz.isAgg3
  z3:=Tryz.sizeOf3
  v3:=Tryz.zeroValue3
  t9:=Tryz.underlying9
  a9:=Tryz.isAgg9
  z9:=Tryz.sizeOf9
  v9:=Tryz.zeroValue9
  t37:=Tryz.underlying150
  a37:=Tryz.isAgg150
  z37:=Tryz.sizeOf150
  v37:=Tryz.zeroValue150
  t70:=Tryz.underlying239
  a70:=Tryz.isAgg239
  z70:=Tryz.sizeOf239
  v70:=Tryz.zeroValue239
  t72:=Tryz.underlying241
  a72:=Tryz.isAgg241
  z72:=Tryz.sizeOf241
  v72:=Tryz.zeroValue241
  t127:=Tryz.underlying206
  a127:=Tryz.isAgg206
  z127:=Tryz.sizeOf206
  v127:=Tryz.zeroValue206 }
theorem Tryz.Builder_Extra_169 : Builder.Extra Tryz.prog Tryz.lays169_ren:={
  sizeBuilder:=by kernel_rfl
  liesBuilder:=by kernel_rfl
  t5:=Tryz.underlying5
  a5:=Tryz.isAgg5
  z5:=Tryz.sizeOf5
  v5:=Tryz.zeroValue5
  infoByte:=by kernel_rfl
  cellsByte:=by kernel_rfl
  sizeByte:=by kernel_rfl
  neB5:=by decide }
def Tryz.lays165_ren : Go.Shelf.Ren:=⟨fun | 165=>216 | 240=>225 | 241=>278 | 276=>284 | 277=>322 | n=>n,fun | 70=>239 | 3=>3 | 0=>0 | 4=>4 | 9=>9 | 20=>20 | 72=>241 | 37=>150 | 164=>336 | 5=>5 | n=>n,fun | n=>n⟩
theorem Tryz.lays165 : Go.Proofs.Lays.n165 Tryz.prog Tryz.lays165_ren:={
  mixed:=by kernel_rfl
  f165:=Tryz.func216.trans (congrArg some (by kernel_rfl))
  f240:=Tryz.func225.trans (congrArg some (by kernel_rfl))
  f241:=Tryz.func278.trans (congrArg some (by kernel_rfl))
  f276:=Tryz.func284.trans (congrArg some (by kernel_rfl))
  f277:=Tryz.func322.trans (congrArg some (by kernel_rfl))
  t0:=Tryz.underlying0
  a0:=Tryz.isAgg0
  z0:=Tryz.sizeOf0
  v0:=Tryz.zeroValue0
  t3:=Tryz.underlying3
  a3:=Tryz.isAgg3
  z3:=Tryz.sizeOf3
  v3:=Tryz.zeroValue3
  t4:=Tryz.underlying4
  a4:=Tryz.isAgg4
  z4:=Tryz.sizeOf4
  v4:=Tryz.zeroValue4
  t9:=Tryz.underlying9
  a9:=Tryz.isAgg9
  z9:=Tryz.sizeOf9
  v9:=Tryz.zeroValue9
  t20:=Tryz.underlying20
  a20:=Tryz.isAgg20
  z20:=Tryz.sizeOf20
  v20:=Tryz.zeroValue20
  t37:=Tryz.underlying150
  a37:=Tryz.isAgg150
  z37:=Tryz.sizeOf150
  v37:=Tryz.zeroValue150
  t70:=Tryz.underlying239
  a70:=Tryz.isAgg239
  z70:=Tryz.sizeOf239
  v70:=Tryz.zeroValue239
  t72:=Tryz.underlying241
  a72:=Tryz.isAgg241
  z72:=Tryz.sizeOf241
  v72:=Tryz.zeroValue241
  t164:=Tryz.underlying336
  a164:=Tryz.isAgg336
  z164:=Tryz.sizeOf336
  v164:=Tryz.zeroValue336 }
theorem Tryz.Builder_Extra_165 : Builder.Extra Tryz.prog Tryz.lays165_ren:={
  sizeBuilder:=by kernel_rfl
  liesBuilder:=by kernel_rfl
  t5:=Tryz.underlying5
  a5:=Tryz.isAgg5
  z5:=Tryz.sizeOf5
  v5:=Tryz.zeroValue5
  infoByte:=by kernel_rfl
  cellsByte:=by kernel_rfl
  sizeByte:=by kernel_rfl
  neB5:=by decide }
open Go.RowKit in
theorem Tryz.Builder_Grow_fresh (B b n : Nat) (w : World) (hB : B ≤ b) (hbk : w.heap[b]? = some (.cells #[.pointer none,.slice none 0 0] 241 (0,0))) (hBw : B ≤ w.heap.size) (hn : n ≤ 281474976710656) :
    Calls Tryz.prog 216 #[.pointer (some ⟨b,0,none⟩),.int .i64 n] w fun e w'=>e=.returned (.tuple #[])∧(Lib.BuilderAt 241 5 B b (.pointer (some ⟨b,0,none⟩)) [] w'∧Below B w w'):=Any.Builder_Grow_fresh Tryz.lays165 Tryz.Builder_Extra_165 B b n w hB hbk hBw hn
def Tryz.lays156_ren : Go.Shelf.Ren:=⟨fun | 156=>145 | 165=>216 | 166=>156 | 169=>159 | 240=>225 | 241=>278 | 276=>284 | 277=>322 | n=>n,fun | 31=>36 | 9=>9 | 3=>3 | 4=>4 | 0=>0 | 20=>20 | 72=>241 | 76=>244 | 70=>239 | 37=>150 | 75=>243 | 127=>206 | 164=>336 | 5=>5 | 80=>247 | n=>n,fun | n=>n⟩
theorem Tryz.lays156 : Go.Proofs.Lays.n156 Tryz.prog Tryz.lays156_ren:={
  mixed:=by kernel_rfl
  f156:=Tryz.func145.trans (congrArg some (by kernel_rfl))
  f165:=Tryz.func216.trans (congrArg some (by kernel_rfl))
  f166:=Tryz.func156.trans (congrArg some (by kernel_rfl))
  f169:=Tryz.func159.trans (congrArg some (by kernel_rfl))
  f240:=Tryz.func225.trans (congrArg some (by kernel_rfl))
  f241:=Tryz.func278.trans (congrArg some (by kernel_rfl))
  f276:=Tryz.func284.trans (congrArg some (by kernel_rfl))
  f277:=Tryz.func322.trans (congrArg some (by kernel_rfl))
  t0:=Tryz.underlying0
  a0:=Tryz.isAgg0
  z0:=Tryz.sizeOf0
  v0:=Tryz.zeroValue0
  t3:=Tryz.underlying3
  a3:=Tryz.isAgg3
  z3:=Tryz.sizeOf3
  v3:=Tryz.zeroValue3
  t4:=Tryz.underlying4
  a4:=Tryz.isAgg4
  z4:=Tryz.sizeOf4
  v4:=Tryz.zeroValue4
  t9:=Tryz.underlying9
  a9:=Tryz.isAgg9
  z9:=Tryz.sizeOf9
  v9:=Tryz.zeroValue9
  t20:=Tryz.underlying20
  a20:=Tryz.isAgg20
  z20:=Tryz.sizeOf20
  v20:=Tryz.zeroValue20
  t31:=Tryz.underlying36
  a31:=Tryz.isAgg36
  z31:=Tryz.sizeOf36
  v31:=Tryz.zeroValue36
  t37:=Tryz.underlying150
  a37:=Tryz.isAgg150
  z37:=Tryz.sizeOf150
  v37:=Tryz.zeroValue150
  t70:=Tryz.underlying239
  a70:=Tryz.isAgg239
  z70:=Tryz.sizeOf239
  v70:=Tryz.zeroValue239
  t72:=Tryz.underlying241
  a72:=Tryz.isAgg241
  z72:=Tryz.sizeOf241
  v72:=Tryz.zeroValue241
  t75:=Tryz.underlying243
  a75:=Tryz.isAgg243
  z75:=Tryz.sizeOf243
  v75:=Tryz.zeroValue243
  t76:=Tryz.underlying244
  a76:=Tryz.isAgg244
  z76:=Tryz.sizeOf244
  v76:=Tryz.zeroValue244
  t127:=Tryz.underlying206
  a127:=Tryz.isAgg206
  z127:=Tryz.sizeOf206
  v127:=Tryz.zeroValue206
  t164:=Tryz.underlying336
  a164:=Tryz.isAgg336
  z164:=Tryz.sizeOf336
  v164:=Tryz.zeroValue336 }
theorem Tryz.Builder_Extra_156 : Builder.Extra Tryz.prog Tryz.lays156_ren:={
  sizeBuilder:=by kernel_rfl
  liesBuilder:=by kernel_rfl
  t5:=Tryz.underlying5
  a5:=Tryz.isAgg5
  z5:=Tryz.sizeOf5
  v5:=Tryz.zeroValue5
  infoByte:=by kernel_rfl
  cellsByte:=by kernel_rfl
  sizeByte:=by kernel_rfl
  neB5:=by decide }
open Go.RowKit in
theorem Tryz.strings_Join (bk o c : Nat) (xs : List ByteArray) (sep : ByteArray) (w : World) (hcells : ∀ (j : Nat) x,xs[j]? = some x→w.cell? ⟨bk,o + j,none⟩=some (.string x)) (hbk : bk < w.heap.size) (hN : xs.length ≤ 140737488355328) (hcap : xs.length ≤ c) (hlen : (Lib.join (xs.map (·.data.toList)) sep.data.toList).length ≤ 140737488355328) :
    Calls Tryz.prog 145 #[.slice (some ⟨bk,o,none⟩) xs.length c,.string sep] w fun e w'=>e=.returned (.string ⟨(Lib.join (xs.map (·.data.toList)) sep.data.toList).toArray⟩)∧Below w.heap.size w w':=Any.strings_Join Tryz.lays156 Tryz.Builder_Extra_156 bk o c xs sep w hcells hbk hN hcap hlen
def Tryz.lays119_ren : Go.Shelf.Ren:=⟨fun | 119=>321 | n=>n,fun | 21=>21 | 4=>4 | n=>n,fun | n=>n⟩
theorem Tryz.lays119 : Go.Proofs.Lays.n119 Tryz.prog Tryz.lays119_ren:={
  mixed:=by kernel_rfl
  f119:=Tryz.func321.trans (congrArg some (by kernel_rfl))
  t4:=Tryz.underlying4
  a4:=Tryz.isAgg4
  z4:=Tryz.sizeOf4
  v4:=Tryz.zeroValue4
  t21:=Tryz.underlying21
  a21:=Tryz.isAgg21
  z21:=Tryz.sizeOf21
  v21:=Tryz.zeroValue21 }
theorem Tryz.utf8_ValidRune (r : Int) (w : World) :
    Calls Tryz.prog 321 #[.int .i32 r] w fun e w'=>e=.returned (.bool (Lib.validRune r))∧w'=w:=Any.utf8_ValidRune Tryz.lays119 r w
def Tryz.lays137_ren : Go.Shelf.Ren:=⟨fun | 137=>320 | 217=>269 | 266=>316 | n=>n,fun | 9=>9 | 5=>5 | 3=>3 | n=>n,fun | n=>n⟩
theorem Tryz.lays137 : Go.Proofs.Lays.n137 Tryz.prog Tryz.lays137_ren:={
  mixed:=by kernel_rfl
  f137:=Tryz.func320.trans (congrArg some (by kernel_rfl))
  f217:=Tryz.func269.trans (congrArg some (by kernel_rfl))
  f266:=Tryz.func316.trans (congrArg some (by kernel_rfl))
  t3:=Tryz.underlying3
  a3:=Tryz.isAgg3
  z3:=Tryz.sizeOf3
  v3:=Tryz.zeroValue3
  t5:=Tryz.underlying5
  a5:=Tryz.isAgg5
  z5:=Tryz.sizeOf5
  v5:=Tryz.zeroValue5
  t9:=Tryz.underlying9
  a9:=Tryz.isAgg9
  z9:=Tryz.sizeOf9
  v9:=Tryz.zeroValue9 }
open Go.RowKit in
theorem Tryz.strings_IndexByte (s : ByteArray) (c : Int) (w : World) :
    Calls Tryz.prog 320 #[.string s,.int .u8 c] w fun e w'=>e=.returned (.int .i64 (Lib.indexByte s.data.toList c.toNat.toUInt8))∧w'=w:=Any.strings_IndexByte Tryz.lays137 s c w
open Go.RowKit in
theorem Tryz.Builder_Len_f (B b : Nat) (bs : List Value) (w : World) (h : Lib.IsBuilderF 241 5 B b bs w) :
    Calls Tryz.prog 228 #[.pointer (some ⟨b,0,none⟩)] w fun e w'=>e=.returned (.int .i64 bs.length)∧w'=w:=Any.Builder_Len_f Tryz.lays170 B b bs w h
open Go.RowKit in
theorem Tryz.Builder_String_any_f (B b : Nat) (l : List UInt8) (w : World) (h : Lib.IsBuilderF 241 5 B b (Lib.byteCells l) w) (hBw : B ≤ w.heap.size) :
    Calls Tryz.prog 159 #[.pointer (some ⟨b,0,none⟩)] w fun e w'=>e=.returned (.string ⟨l.toArray⟩)∧(Lib.IsBuilderF 241 5 B b (Lib.byteCells l) w'∧Below B w w'):=Any.Builder_String_any_f Tryz.lays169 Tryz.Builder_Extra_169 B b l w h hBw
def Tryz.laysM316_ren : Go.Shelf.Ren:=⟨fun | 316=>89 | n=>n,fun | 9=>9 | 3=>3 | 4=>4 | 37=>150 | 0=>0 | 127=>206 | 5=>5 | n=>n,fun | n=>n⟩
theorem Tryz.laysM316 : Go.Proofs.LaysM.n316 Tryz.prog Tryz.laysM316_ren:={
  mixed:=by kernel_rfl
  f316:=Tryz.func89.trans (congrArg some (by kernel_rfl))
  t0:=Tryz.underlying0
  a0:=Tryz.isAgg0
  z0:=Tryz.sizeOf0
  v0:=Tryz.zeroValue0
  t3:=Tryz.underlying3
  a3:=Tryz.isAgg3
  z3:=Tryz.sizeOf3
  v3:=Tryz.zeroValue3
  t4:=Tryz.underlying4
  a4:=Tryz.isAgg4
  z4:=Tryz.sizeOf4
  v4:=Tryz.zeroValue4
  t9:=Tryz.underlying9
  a9:=Tryz.isAgg9
  z9:=Tryz.sizeOf9
  v9:=Tryz.zeroValue9
  t37:=Tryz.underlying150
  a37:=Tryz.isAgg150
  z37:=Tryz.sizeOf150
  v37:=Tryz.zeroValue150
  t127:=Tryz.underlying206
  a127:=Tryz.isAgg206
  z127:=Tryz.sizeOf206
  v127:=Tryz.zeroValue206
  t5:=Tryz.underlying5
  a5:=Tryz.isAgg5
  z5:=Tryz.sizeOf5
  v5:=Tryz.zeroValue5
  i0:=by kernel_rfl
  i3:=by kernel_rfl
  i4:=by kernel_rfl
  i5:=by kernel_rfl
  i9:=by kernel_rfl
  i37:=by kernel_rfl
  i127:=by kernel_rfl }
open Go.RowKit in
theorem Tryz.stringslite_Clone (s : ByteArray) (w : World) (hlim : s.size ≤ 281474976710656) :
    Calls Tryz.prog 89 #[.string s] w fun e w'=>e=.returned (.string s)∧Below w.heap.size w w':=Any.stringslite_Clone Tryz.laysM316 s w hlim
def Tryz.lays221_ren : Go.Shelf.Ren:=⟨fun | 221=>108 | 268=>138 | 138=>139 | 143=>140 | 195=>208 | 197=>209 | 218=>210 | 219=>211 | 260=>268 | 217=>269 | 225=>270 | 224=>271 | 267=>272 | 266=>316 | 314=>317 | n=>n,fun | 9=>9 | 3=>3 | 31=>36 | 4=>4 | 0=>0 | 105=>284 | 21=>21 | 5=>5 | 46=>210 | 119=>287 | 139=>371 | 138=>370 | 146=>340 | 51=>125 | n=>n,fun | 1=>1 | 3=>3 | 4=>4 | n=>n⟩
def Tryz.lays146_ren : Go.Shelf.Ren:=⟨fun | 146=>76 | 221=>108 | 268=>138 | 138=>139 | 143=>140 | 195=>208 | 197=>209 | 218=>210 | 219=>211 | 260=>268 | 217=>269 | 225=>270 | 224=>271 | 267=>272 | 266=>316 | 314=>317 | n=>n,fun | 9=>9 | 31=>36 | 3=>3 | 4=>4 | 0=>0 | 105=>284 | 21=>21 | 5=>5 | 46=>210 | 119=>287 | 139=>371 | 138=>370 | 146=>340 | 51=>125 | n=>n,fun | 1=>1 | 3=>3 | 4=>4 | n=>n⟩
theorem Tryz.lays146 : Go.Proofs.Lays.n146 Tryz.prog Tryz.lays146_ren:={
  mixed:=by kernel_rfl
  f138:=Tryz.func139.trans (congrArg some (by kernel_rfl))
  f143:=Tryz.func140.trans (congrArg some (by kernel_rfl))
  f146:=Tryz.func76.trans (congrArg some (by kernel_rfl))
  f195:=Tryz.func208.trans (congrArg some (by kernel_rfl))
  f197:=Tryz.func209.trans (congrArg some (by kernel_rfl))
  f217:=Tryz.func269.trans (congrArg some (by kernel_rfl))
  f218:=Tryz.func210.trans (congrArg some (by kernel_rfl))
  f219:=Tryz.func211.trans (congrArg some (by kernel_rfl))
  f221:=Tryz.func108.trans (congrArg some (by kernel_rfl))
  f224:=Tryz.func271.trans (congrArg some (by kernel_rfl))
  f225:=Tryz.func270.trans (congrArg some (by kernel_rfl))
  f260:=Tryz.func268.trans (congrArg some (by kernel_rfl))
  f266:=Tryz.func316.trans (congrArg some (by kernel_rfl))
  f267:=Tryz.func272.trans (congrArg some (by kernel_rfl))
  f268:=Tryz.func138.trans (congrArg some (by kernel_rfl))
  f314:=Tryz.func317.trans (congrArg some (by kernel_rfl))
  t0:=Tryz.underlying0
  a0:=Tryz.isAgg0
  z0:=Tryz.sizeOf0
  v0:=Tryz.zeroValue0
  t3:=Tryz.underlying3
  a3:=Tryz.isAgg3
  z3:=Tryz.sizeOf3
  v3:=Tryz.zeroValue3
  t4:=Tryz.underlying4
  a4:=Tryz.isAgg4
  z4:=Tryz.sizeOf4
  v4:=Tryz.zeroValue4
  t5:=Tryz.underlying5
  a5:=Tryz.isAgg5
  z5:=Tryz.sizeOf5
  v5:=Tryz.zeroValue5
  t9:=Tryz.underlying9
  a9:=Tryz.isAgg9
  z9:=Tryz.sizeOf9
  v9:=Tryz.zeroValue9
  t21:=Tryz.underlying21
  a21:=Tryz.isAgg21
  z21:=Tryz.sizeOf21
  v21:=Tryz.zeroValue21
  t31:=Tryz.underlying36
  a31:=Tryz.isAgg36
  z31:=Tryz.sizeOf36
  v31:=Tryz.zeroValue36
  t46:=Tryz.underlying210
  a46:=Tryz.isAgg210
  z46:=Tryz.sizeOf210
  v46:=Tryz.zeroValue210
  t51:=Tryz.underlying125
  a51:=Tryz.isAgg125
  z51:=Tryz.sizeOf125
  v51:=Tryz.zeroValue125
  t105:=Tryz.underlying284
  a105:=Tryz.isAgg284
  z105:=Tryz.sizeOf284
  v105:=Tryz.zeroValue284
  t119:=Tryz.underlying287
  a119:=Tryz.isAgg287
  z119:=Tryz.sizeOf287
  t138:=Tryz.underlying370
  a138:=Tryz.isAgg370
  z138:=Tryz.sizeOf370
  v138:=Tryz.zeroValue370
  t139:=Tryz.underlying371
  a139:=Tryz.isAgg371
  z139:=Tryz.sizeOf371
  v139:=Tryz.zeroValue371
  t146:=Tryz.underlying340
  a146:=Tryz.isAgg340
  z146:=Tryz.sizeOf340
  v146:=Tryz.zeroValue340
  g1:=by kernel_rfl
  g3:=by kernel_rfl
  g4:=by kernel_rfl }
open Go.RowKit Go.Lib in
theorem Tryz.strings_Split (s sep : ByteArray) (m : Int) (w : World) (hs : s.size < 4294967281) (hm : w.cell? ⟨1,0,none⟩=some (.int .i64 m)) (h1 : 1 ≤ sep.size) :
    Calls Tryz.prog 76 #[.string s,.string sep] w fun e w'=>
      e=.returned (.slice (some ⟨w.heap.size,0,none⟩) (Lib.countB s sep + 1) (Lib.countB s sep + 1))∧w'=w.alloc (.cells ((Lib.splitB sep 0 (Lib.countB s sep) s).map Value.string).toArray 9):=Any.strings_Split Tryz.lays146 (by kernel_rfl) s sep m w hs hm h1
def Tryz.lays157_ren : Go.Shelf.Ren:=⟨fun | 157=>142 | 229=>212 | 199=>213 | 261=>273 | 311=>318 | 312=>319 | n=>n,fun | 9=>9 | 31=>36 | 3=>3 | 5=>5 | 4=>4 | 119=>287 | 0=>0 | 40=>289 | 152=>323 | 21=>21 | 154=>325 | 51=>125 | 141=>327 | 196=>376 | 193=>373 | 198=>379 | 49=>377 | 194=>374 | 201=>382 | 226=>415 | 46=>210 | 227=>416 | n=>n,fun | 0=>0 | 6=>2 | n=>n⟩
theorem Tryz.lays157 : Go.Proofs.Lays.n157 Tryz.prog Tryz.lays157_ren:={
  mixed:=by kernel_rfl
  f157:=Tryz.func142.trans (congrArg some (by kernel_rfl))
  f199:=Tryz.func213.trans (congrArg some (by kernel_rfl))
  f229:=Tryz.func212.trans (congrArg some (by kernel_rfl))
  f261:=Tryz.func273.trans (congrArg some (by kernel_rfl))
  f311:=Tryz.func318.trans (congrArg some (by kernel_rfl))
  f312:=Tryz.func319.trans (congrArg some (by kernel_rfl))
  t0:=Tryz.underlying0
  a0:=Tryz.isAgg0
  z0:=Tryz.sizeOf0
  v0:=Tryz.zeroValue0
  t3:=Tryz.underlying3
  a3:=Tryz.isAgg3
  z3:=Tryz.sizeOf3
  v3:=Tryz.zeroValue3
  t4:=Tryz.underlying4
  a4:=Tryz.isAgg4
  z4:=Tryz.sizeOf4
  v4:=Tryz.zeroValue4
  t5:=Tryz.underlying5
  a5:=Tryz.isAgg5
  z5:=Tryz.sizeOf5
  v5:=Tryz.zeroValue5
  t9:=Tryz.underlying9
  a9:=Tryz.isAgg9
  z9:=Tryz.sizeOf9
  v9:=Tryz.zeroValue9
  t21:=Tryz.underlying21
  a21:=Tryz.isAgg21
  z21:=Tryz.sizeOf21
  v21:=Tryz.zeroValue21
  t31:=Tryz.underlying36
  a31:=Tryz.isAgg36
  z31:=Tryz.sizeOf36
  v31:=Tryz.zeroValue36
  t40:=Tryz.underlying289
  a40:=Tryz.isAgg289
  z40:=Tryz.sizeOf289
  v40:=Tryz.zeroValue289
  t46:=Tryz.underlying210
  a46:=Tryz.isAgg210
  z46:=Tryz.sizeOf210
  v46:=Tryz.zeroValue210
  t49:=Tryz.underlying377
  a49:=Tryz.isAgg377
  z49:=Tryz.sizeOf377
  v49:=Tryz.zeroValue377
  t51:=Tryz.underlying125
  a51:=Tryz.isAgg125
  z51:=Tryz.sizeOf125
  v51:=Tryz.zeroValue125
  t119:=Tryz.underlying287
  a119:=Tryz.isAgg287
  z119:=Tryz.sizeOf287
  t141:=Tryz.underlying327
  a141:=Tryz.isAgg327
  z141:=Tryz.sizeOf327
  v141:=Tryz.zeroValue327
  t152:=Tryz.underlying323
  a152:=Tryz.isAgg323
  z152:=Tryz.sizeOf323
  v152:=Tryz.zeroValue323
  t154:=Tryz.underlying325
  a154:=Tryz.isAgg325
  z154:=Tryz.sizeOf325
  v154:=Tryz.zeroValue325
  t193:=Tryz.underlying373
  a193:=Tryz.isAgg373
  z193:=Tryz.sizeOf373
  v193:=Tryz.zeroValue373
  t194:=Tryz.underlying374
  a194:=Tryz.isAgg374
  z194:=Tryz.sizeOf374
  v194:=Tryz.zeroValue374
  t196:=Tryz.underlying376
  a196:=Tryz.isAgg376
  z196:=Tryz.sizeOf376
  v196:=Tryz.zeroValue376
  t198:=Tryz.underlying379
  a198:=Tryz.isAgg379
  z198:=Tryz.sizeOf379
  v198:=Tryz.zeroValue379
  t201:=Tryz.underlying382
  a201:=Tryz.isAgg382
  z201:=Tryz.sizeOf382
  v201:=Tryz.zeroValue382
  t226:=Tryz.underlying415
  a226:=Tryz.isAgg415
  z226:=Tryz.sizeOf415
  v226:=Tryz.zeroValue415
  t227:=Tryz.underlying416
  a227:=Tryz.isAgg416
  z227:=Tryz.sizeOf416
  v227:=Tryz.zeroValue416
  g0:=by kernel_rfl
  g6:=by kernel_rfl }
open Go.RowKit Go.Lib in
theorem Tryz.strings_Fields (s : ByteArray) (w : World) (hs : s.size < 4294967281) (hascii : ∀ (j : Nat) b,s.data.toList[j]? = some b→b.toNat < 128) (htab : Lib.TabIs Tryz.prog w "strings.asciiSpace" .u8 Lib.asciiSpaceTab) :
    Calls Tryz.prog 142 #[.string s] w fun e w'=>
      e=.returned (.slice (some ⟨w.heap.size,0,none⟩) (Lib.fields s.data.toList).length (Lib.fields s.data.toList).length)∧w'=w.alloc (.cells ((Lib.fields s.data.toList).map fun l=>Value.string ⟨l.toArray⟩).toArray 9):=Any.strings_Fields Tryz.lays157 (by kernel_rfl) (by kernel_rfl) s w hs hascii htab
def Tryz.lays152_ren : Go.Shelf.Ren:=⟨fun | 152=>274 | 137=>320 | 119=>321 | 224=>271 | 225=>270 | 217=>269 | 266=>316 | n=>n,fun | 9=>9 | 21=>21 | 3=>3 | 4=>4 | 5=>5 | 0=>0 | 46=>210 | n=>n,fun | n=>n⟩
theorem Tryz.lays152 : Go.Proofs.Lays.n152 Tryz.prog Tryz.lays152_ren:={
  mixed:=by kernel_rfl
  f119:=Tryz.func321.trans (congrArg some (by kernel_rfl))
  f137:=Tryz.func320.trans (congrArg some (by kernel_rfl))
  f152:=Tryz.func274.trans (congrArg some (by kernel_rfl))
  f217:=Tryz.func269.trans (congrArg some (by kernel_rfl))
  f224:=Tryz.func271.trans (congrArg some (by kernel_rfl))
  f225:=Tryz.func270.trans (congrArg some (by kernel_rfl))
  f266:=Tryz.func316.trans (congrArg some (by kernel_rfl))
  t0:=Tryz.underlying0
  a0:=Tryz.isAgg0
  z0:=Tryz.sizeOf0
  v0:=Tryz.zeroValue0
  t3:=Tryz.underlying3
  a3:=Tryz.isAgg3
  z3:=Tryz.sizeOf3
  v3:=Tryz.zeroValue3
  t4:=Tryz.underlying4
  a4:=Tryz.isAgg4
  z4:=Tryz.sizeOf4
  v4:=Tryz.zeroValue4
  t5:=Tryz.underlying5
  a5:=Tryz.isAgg5
  z5:=Tryz.sizeOf5
  v5:=Tryz.zeroValue5
  t9:=Tryz.underlying9
  a9:=Tryz.isAgg9
  z9:=Tryz.sizeOf9
  v9:=Tryz.zeroValue9
  t21:=Tryz.underlying21
  a21:=Tryz.isAgg21
  z21:=Tryz.sizeOf21
  v21:=Tryz.zeroValue21
  t46:=Tryz.underlying210
  a46:=Tryz.isAgg210
  z46:=Tryz.sizeOf210
  v46:=Tryz.zeroValue210 }
open Go.RowKit Go.Lib in
theorem Tryz.strings_IndexRune_ascii (s : ByteArray) (r : Int) (w : World) (h0 : 0 ≤ r) (h1 : r < 128) :
    Calls Tryz.prog 274 #[.string s,.int .i32 r] w fun e w'=>e=.returned (.int .i64 (Lib.indexByte s.data.toList r.toNat.toUInt8))∧w'=w:=Any.strings_IndexRune_ascii Tryz.lays152 s r w h0 h1
def Tryz.lays226_ren : Go.Shelf.Ren:=⟨fun | 226=>275 | n=>n,fun | 3=>3 | 4=>4 | n=>n,fun | n=>n⟩
theorem Tryz.lays226 : Go.Proofs.Lays.n226 Tryz.prog Tryz.lays226_ren:={
  mixed:=by kernel_rfl
  f226:=Tryz.func275.trans (congrArg some (by kernel_rfl))
  t3:=Tryz.underlying3
  a3:=Tryz.isAgg3
  z3:=Tryz.sizeOf3
  v3:=Tryz.zeroValue3
  t4:=Tryz.underlying4
  a4:=Tryz.isAgg4
  z4:=Tryz.sizeOf4
  v4:=Tryz.zeroValue4 }
open Go.RowKit Go.Lib in
theorem Tryz.strings_shouldUseASCIISet (n : Int) (w : World) :
    Calls Tryz.prog 275 #[.int .i64 n] w fun e w'=>e=.returned (.bool (decide (8 < n)))∧w'=w:=Any.strings_shouldUseASCIISet Tryz.lays226 n w
def Tryz.lays227_ren : Go.Shelf.Ren:=⟨fun | 227=>276 | n=>n,fun | 9=>9 | 116=>330 | 4=>4 | 0=>0 | 3=>3 | 5=>5 | n=>n,fun | n=>n⟩
theorem Tryz.lays227 : Go.Proofs.Lays.n227 Tryz.prog Tryz.lays227_ren:={
  mixed:=by kernel_rfl
  f227:=Tryz.func276.trans (congrArg some (by kernel_rfl))
  t0:=Tryz.underlying0
  a0:=Tryz.isAgg0
  z0:=Tryz.sizeOf0
  v0:=Tryz.zeroValue0
  t3:=Tryz.underlying3
  a3:=Tryz.isAgg3
  z3:=Tryz.sizeOf3
  v3:=Tryz.zeroValue3
  t4:=Tryz.underlying4
  a4:=Tryz.isAgg4
  z4:=Tryz.sizeOf4
  v4:=Tryz.zeroValue4
  t5:=Tryz.underlying5
  a5:=Tryz.isAgg5
  z5:=Tryz.sizeOf5
  v5:=Tryz.zeroValue5
  t9:=Tryz.underlying9
  a9:=Tryz.isAgg9
  z9:=Tryz.sizeOf9
  v9:=Tryz.zeroValue9
  t116:=Tryz.underlying330
  a116:=Tryz.isAgg330
  z116:=Tryz.sizeOf330 }
open Go.RowKit Go.Lib in
theorem Tryz.strings_makeASCIISet (hv116 : ∀ w,(zeroValue 330).run Tryz.prog w=.ok (.agg (Array.replicate 256 (.bool false))) w) (chars : ByteArray) (w : World) (hs : chars.size < 4294967281) (hascii : ∀ (j : Nat) b,chars.data.toList[j]? = some b→b.toNat < 128) :
    Calls Tryz.prog 276 #[.string chars] w fun e w'=>e=.returned (.tuple #[.agg (Lib.setCells chars.data.toList),.bool true])∧w'=w.alloc (.cells (Lib.setCells chars.data.toList) 330):=Any.strings_makeASCIISet Tryz.lays227 hv116 (by kernel_rfl) chars w hs hascii
def Tryz.lays228_ren : Go.Shelf.Ren:=⟨fun | 228=>277 | n=>n,fun | 124=>384 | 5=>5 | 4=>4 | 0=>0 | 116=>330 | n=>n,fun | n=>n⟩
theorem Tryz.lays228 : Go.Proofs.Lays.n228 Tryz.prog Tryz.lays228_ren:={
  mixed:=by kernel_rfl
  f228:=Tryz.func277.trans (congrArg some (by kernel_rfl))
  t0:=Tryz.underlying0
  a0:=Tryz.isAgg0
  z0:=Tryz.sizeOf0
  v0:=Tryz.zeroValue0
  t4:=Tryz.underlying4
  a4:=Tryz.isAgg4
  z4:=Tryz.sizeOf4
  v4:=Tryz.zeroValue4
  t5:=Tryz.underlying5
  a5:=Tryz.isAgg5
  z5:=Tryz.sizeOf5
  v5:=Tryz.zeroValue5
  t116:=Tryz.underlying330
  a116:=Tryz.isAgg330
  z116:=Tryz.sizeOf330
  t124:=Tryz.underlying384
  a124:=Tryz.isAgg384
  z124:=Tryz.sizeOf384
  v124:=Tryz.zeroValue384 }
open Go.RowKit Go.Lib in
theorem Tryz.asciiSet_contains (b : Nat) (x : UInt8) (v : Bool) (w : World) (hc : w.cell? ⟨b,x.toNat,none⟩=some (.bool v)) :
    Calls Tryz.prog 277 #[.pointer (some ⟨b,0,none⟩),.int .u8 x.toNat] w fun e w'=>e=.returned (.bool v)∧w'=w:=Any.asciiSet_contains Tryz.lays228 b x v w hc
def Tryz.lays212_ren : Go.Shelf.Ren:=⟨fun | 212=>227 | 263=>286 | 264=>287 | n=>n,fun | 46=>210 | 51=>125 | 146=>340 | 53=>152 | 148=>342 | n=>n,fun | n=>n⟩
theorem Tryz.lays212 : Go.Proofs.Lays.n212 Tryz.prog Tryz.lays212_ren:={
  mixed:=by kernel_rfl
  f212:=Tryz.func227.trans (congrArg some (by kernel_rfl))
  f263:=Tryz.func286.trans (congrArg some (by kernel_rfl))
  f264:=Tryz.func287.trans (congrArg some (by kernel_rfl))
  t46:=Tryz.underlying210
  a46:=Tryz.isAgg210
  z46:=Tryz.sizeOf210
  v46:=Tryz.zeroValue210
  t51:=Tryz.underlying125
  a51:=Tryz.isAgg125
  z51:=Tryz.sizeOf125
  v51:=Tryz.zeroValue125
  t53:=Tryz.underlying152
  a53:=Tryz.isAgg152
  z53:=Tryz.sizeOf152
  v53:=Tryz.zeroValue152
  t146:=Tryz.underlying340
  a146:=Tryz.isAgg340
  z146:=Tryz.sizeOf340
  v146:=Tryz.zeroValue340
  t148:=Tryz.underlying342
  a148:=Tryz.isAgg342
  z148:=Tryz.sizeOf342
  v148:=Tryz.zeroValue342 }
open Go.RowKit Go.Lib in
theorem Tryz.bits_Mul (x y : Nat) (hx : x < 18446744073709551616) (hy : y < 18446744073709551616) (w : World) :
    Calls Tryz.prog 227 #[.int .u64 x,.int .u64 y] w fun e w'=>e=.returned (.tuple #[.int .u64 ((x * y / 18446744073709551616 : Nat) : Int),.int .u64 ((x * y % 18446744073709551616 : Nat) : Int)])∧w'=w:=Any.bits_Mul Tryz.lays212 x y hx hy w
def Tryz.lays109_ren : Go.Shelf.Ren:=⟨fun | 109=>109 | n=>n,fun | 31=>36 | 9=>9 | 3=>3 | 0=>0 | 4=>4 | n=>n,fun | n=>n⟩
theorem Tryz.lays109 : Go.Proofs.Lays.n109 Tryz.prog Tryz.lays109_ren:={
  mixed:=by kernel_rfl
  f109:=Tryz.func109.trans (congrArg some (by kernel_rfl))
  t0:=Tryz.underlying0
  a0:=Tryz.isAgg0
  z0:=Tryz.sizeOf0
  v0:=Tryz.zeroValue0
  t3:=Tryz.underlying3
  a3:=Tryz.isAgg3
  z3:=Tryz.sizeOf3
  v3:=Tryz.zeroValue3
  t4:=Tryz.underlying4
  a4:=Tryz.isAgg4
  z4:=Tryz.sizeOf4
  v4:=Tryz.zeroValue4
  t9:=Tryz.underlying9
  a9:=Tryz.isAgg9
  z9:=Tryz.sizeOf9
  v9:=Tryz.zeroValue9
  t31:=Tryz.underlying36
  a31:=Tryz.isAgg36
  z31:=Tryz.sizeOf36
  v31:=Tryz.zeroValue36 }
open Go.Lib in
theorem Tryz.slices_Index_string (b off n c : Nat) (zs : List ByteArray) (x : ByteArray) (w : World) (hz : n ≤ zs.length) (hbig : n ≤ 9223372036854775807) (hc : ∀ j,j < zs.length→w.cell? ⟨b,off + j,none⟩=some (.string (zs.getD j ByteArray.empty))) :
    Calls Tryz.prog 109 #[.slice (some ⟨b,off,none⟩) n c,.string x] w fun e w'=>e=.returned (.int .i64 (Lib.idxOfS (zs.take n) x))∧w'=w:=Any.slices_Index_string Tryz.lays109 b off n c zs x w hz hbig hc
end Go.Proofs
