import Derived.Test.YtkekohmkaefdnaaGreatDoorShelf
import Derived.Shelf.Strconv.Atoi
import Derived.Shelf.Strconv.Itoa1
import Derived.Shelf.Strconv.Itoa2
import Derived.Shelf.Strconv.Itoa3
import Derived.Shelf.Strconv.AtoiErrFast
import Derived.Shelf.Strconv.ParseIntEmpty
import Derived.Shelf.Strconv.AtoiFail
import Derived.Shelf.Strconv.SyntaxError
import Derived.Shelf.LaysC
import Derived.Shelf.Strconv.ToError
import Derived.Shelf.Strconv.Lower
import Derived.Shelf.Strconv.ParseUint10
import Derived.Shelf.Strconv.ParseUint10Empty
import Derived.Shelf.Strconv.ParseUint10Any
import Derived.Shelf.Strconv.ParseInt10
import Derived.Shelf.Strconv.AtoiLong
import Derived.Shelf.Strconv.AtoiInnerAll
import Derived.Shelf.Strconv.RangeError
import Derived.Shelf.Strconv.ToErrorRange
import Derived.Shelf.Strconv.AtoiAll
import Derived.Shelf.Unicode.DecodeAny
import Derived.Ground.Names2Prog
import Derived.Shelf.Slices.SearchI
import Derived.Test.YtkekohmkaefdnaaGreatDoorPa0
import Derived.Lib.Hide
import Derived.Lib.AppendIntMem
namespace Go.Proofs
def Tryz.lays172_ren : Go.Shelf.Ren:=⟨fun | 172=>282 | 244=>323 | 245=>324 | 247=>350 | 279=>351 | 280=>352 | 281=>353 | 282=>354 | 287=>364 | 316=>89 | 171=>224 | 205=>365 | 321=>374 | 322=>375 | 243=>283 | 246=>325 | 283=>355 | 284=>356 | 285=>357 | 286=>358 | 129=>177 | 317=>366 | 318=>367 | 319=>368 | 320=>369 | 337=>376 | 338=>377 | n=>n,fun | 9=>9 | 3=>3 | 75=>243 | 76=>244 | 4=>4 | 5=>5 | 167=>417 | 37=>150 | 0=>0 | 85=>418 | 2=>2 | 168=>420 | 53=>152 | 175=>431 | 46=>210 | 210=>434 | 127=>206 | 145=>444 | 143=>442 | 21=>21 | 171=>423 | 173=>425 | 212=>437 | 51=>125 | 20=>20 | 213=>438 | 232=>446 | 233=>447 | 80=>247 | n=>n,fun | 15=>5 | 16=>6 | 17=>7 | 18=>8 | 19=>9 | n=>n⟩
def Tryz.laysM246_ren : Go.Shelf.Ren:=⟨fun | 246=>325 | 283=>355 | 284=>356 | 285=>357 | 286=>358 | 129=>177 | 317=>366 | 318=>367 | 319=>368 | 320=>369 | 337=>376 | 338=>377 | n=>n,fun | 2=>2 | 3=>3 | 9=>9 | 4=>4 | 171=>423 | 0=>0 | 53=>152 | 37=>150 | 5=>5 | 173=>425 | 212=>437 | 51=>125 | 20=>20 | 213=>438 | 46=>210 | 232=>446 | 233=>447 | n=>n,fun | 17=>7 | 18=>8 | 19=>9 | n=>n⟩
def Tryz.laysM243_ren : Go.Shelf.Ren:=⟨fun | 243=>283 | 246=>325 | 283=>355 | 284=>356 | 285=>357 | 286=>358 | 129=>177 | 317=>366 | 318=>367 | 319=>368 | 320=>369 | 337=>376 | 338=>377 | n=>n,fun | 3=>3 | 9=>9 | 2=>2 | 4=>4 | 171=>423 | 0=>0 | 53=>152 | 37=>150 | 5=>5 | 173=>425 | 212=>437 | 51=>125 | 20=>20 | 213=>438 | 46=>210 | 232=>446 | 233=>447 | n=>n,fun | 17=>7 | 18=>8 | 19=>9 | n=>n⟩
def Tryz.laysM171_ren : Go.Shelf.Ren:=⟨fun | 171=>224 | 243=>283 | 246=>325 | 283=>355 | 284=>356 | 285=>357 | 286=>358 | 129=>177 | 317=>366 | 318=>367 | 319=>368 | 320=>369 | 337=>376 | 338=>377 | n=>n,fun | 3=>3 | 9=>9 | 2=>2 | 4=>4 | 171=>423 | 0=>0 | 53=>152 | 37=>150 | 5=>5 | 173=>425 | 212=>437 | 51=>125 | 20=>20 | 213=>438 | 46=>210 | 232=>446 | 233=>447 | n=>n,fun | 17=>7 | 18=>8 | 19=>9 | n=>n⟩
theorem Tryz.laysM171 : Go.Proofs.LaysM.n171 Tryz.prog Tryz.laysM171_ren:={
  mixed:=by kernel_rfl
  f129:=Tryz.func177.trans (congrArg some (by kernel_rfl))
  f171:=Tryz.func224.trans (congrArg some (by kernel_rfl))
  f243:=Tryz.func283.trans (congrArg some (by kernel_rfl))
  f246:=Tryz.func325.trans (congrArg some (by kernel_rfl))
  f283:=Tryz.func355.trans (congrArg some (by kernel_rfl))
  f284:=Tryz.func356.trans (congrArg some (by kernel_rfl))
  f285:=Tryz.func357.trans (congrArg some (by kernel_rfl))
  f286:=Tryz.func358.trans (congrArg some (by kernel_rfl))
  f317:=Tryz.func366.trans (congrArg some (by kernel_rfl))
  f318:=Tryz.func367.trans (congrArg some (by kernel_rfl))
  f319:=Tryz.func368.trans (congrArg some (by kernel_rfl))
  f320:=Tryz.func369.trans (congrArg some (by kernel_rfl))
  f337:=Tryz.func376.trans (congrArg some (by kernel_rfl))
  f338:=Tryz.func377.trans (congrArg some (by kernel_rfl))
  t0:=Tryz.underlying0
  a0:=Tryz.isAgg0
  z0:=Tryz.sizeOf0
  v0:=Tryz.zeroValue0
  t2:=Tryz.underlying2
  a2:=Tryz.isAgg2
  z2:=Tryz.sizeOf2
  v2:=Tryz.zeroValue2
  t3:=Tryz.underlying3
  a3:=Tryz.isAgg3
  z3:=Tryz.sizeOf3
  v3:=Tryz.zeroValue3
  t4:=Tryz.underlying4
  a4:=Tryz.isAgg4
  z4:=Tryz.sizeOf4
  v4:=Tryz.zeroValue4
  t5:=Tryz.underlying5
  a5:=Tryz.isAgg5
  z5:=Tryz.sizeOf5
  v5:=Tryz.zeroValue5
  t9:=Tryz.underlying9
  a9:=Tryz.isAgg9
  z9:=Tryz.sizeOf9
  v9:=Tryz.zeroValue9
  t20:=Tryz.underlying20
  a20:=Tryz.isAgg20
  z20:=Tryz.sizeOf20
  v20:=Tryz.zeroValue20
  t37:=Tryz.underlying150
  a37:=Tryz.isAgg150
  z37:=Tryz.sizeOf150
  v37:=Tryz.zeroValue150
  t46:=Tryz.underlying210
  a46:=Tryz.isAgg210
  z46:=Tryz.sizeOf210
  v46:=Tryz.zeroValue210
  t51:=Tryz.underlying125
  a51:=Tryz.isAgg125
  z51:=Tryz.sizeOf125
  v51:=Tryz.zeroValue125
  t53:=Tryz.underlying152
  a53:=Tryz.isAgg152
  z53:=Tryz.sizeOf152
  v53:=Tryz.zeroValue152
  t171:=Tryz.underlying423
  a171:=Tryz.isAgg423
  z171:=Tryz.sizeOf423
  v171:=Tryz.zeroValue423
  t173:=Tryz.underlying425
  a173:=Tryz.isAgg425
  z173:=Tryz.sizeOf425
  v173:=Tryz.zeroValue425
  t212:=Tryz.underlying437
  a212:=Tryz.isAgg437
  z212:=Tryz.sizeOf437
  v212:=Tryz.zeroValue437
  t213:=Tryz.underlying438
  a213:=Tryz.isAgg438
  z213:=Tryz.sizeOf438
  t232:=Tryz.underlying446
  a232:=Tryz.isAgg446
  z232:=Tryz.sizeOf446
  v232:=Tryz.zeroValue446
  t233:=Tryz.underlying447
  a233:=Tryz.isAgg447
  z233:=Tryz.sizeOf447
  v233:=Tryz.zeroValue447
  g17:=by kernel_rfl
  g18:=by kernel_rfl
  g19:=by kernel_rfl
  i0:=by kernel_rfl
  i2:=by kernel_rfl
  i3:=by kernel_rfl
  i4:=by kernel_rfl
  i5:=by kernel_rfl
  i9:=by kernel_rfl
  i20:=by kernel_rfl
  i37:=by kernel_rfl
  i46:=by kernel_rfl
  i51:=by kernel_rfl
  i53:=by kernel_rfl
  i171:=by kernel_rfl
  i173:=by kernel_rfl
  i212:=by kernel_rfl
  i232:=by kernel_rfl
  i233:=by kernel_rfl
  m17:=by kernel_rfl
  m18:=by kernel_rfl
  m19:=by kernel_rfl }
open Go.RowKit Go.Sort Go.Lib in
theorem Tryz.strconv_Itoa (n : Int) (h0 : -9223372036854775808 ≤ n) (h1 : n ≤ 9223372036854775807) (w : World) (htab : Lib.TabIs Tryz.prog w "internal/strconv.uint64pow10" .u64 Lib.pow10Tab) :
    Calls Tryz.prog 224 #[.int .i64 n] w fun e w'=>e=.returned (.string ⟨(Lib.itoa n).toArray⟩)∧∃ k os,w'=grow (w.drewN k) os:=Any.strconv_Itoa Tryz.laysM171 n h0 h1 w htab
def Tryz.laysC172_ren : Go.Shelf.Ren:=⟨fun | 172=>282 | 244=>323 | 245=>324 | 247=>350 | 279=>351 | 280=>352 | 281=>353 | 282=>354 | 287=>364 | 316=>89 | 171=>224 | 205=>365 | 321=>374 | 322=>375 | 243=>283 | 246=>325 | 283=>355 | 284=>356 | 285=>357 | 286=>358 | 129=>177 | 317=>366 | 318=>367 | 319=>368 | 320=>369 | 337=>376 | 338=>377 | n=>n,fun | 9=>9 | 3=>3 | 75=>243 | 76=>244 | 4=>4 | 5=>5 | 167=>417 | 37=>150 | 0=>0 | 85=>418 | 2=>2 | 168=>420 | 53=>152 | 175=>431 | 46=>210 | 210=>434 | 127=>206 | 145=>444 | 143=>442 | 21=>21 | 171=>423 | 173=>425 | 212=>437 | 51=>125 | 20=>20 | 213=>438 | 232=>446 | 233=>447 | 80=>247 | n=>n,fun | 15=>5 | 16=>6 | 17=>7 | 18=>8 | 19=>9 | n=>n⟩
theorem Tryz.laysC172 : Go.Proofs.LaysC.n172 Tryz.prog Tryz.laysC172_ren:={
  mixed:=by kernel_rfl
  f129:=Tryz.func177.trans (congrArg some (by kernel_rfl))
  f171:=Tryz.func224.trans (congrArg some (by kernel_rfl))
  f172:=Tryz.func282.trans (congrArg some (by kernel_rfl))
  f205:=Tryz.func365.trans (congrArg some (by kernel_rfl))
  f243:=Tryz.func283.trans (congrArg some (by kernel_rfl))
  f244:=Tryz.func323.trans (congrArg some (by kernel_rfl))
  f245:=Tryz.func324.trans (congrArg some (by kernel_rfl))
  f246:=Tryz.func325.trans (congrArg some (by kernel_rfl))
  f247:=Tryz.func350.trans (congrArg some (by kernel_rfl))
  f279:=Tryz.func351.trans (congrArg some (by kernel_rfl))
  f280:=Tryz.func352.trans (congrArg some (by kernel_rfl))
  f281:=Tryz.func353.trans (congrArg some (by kernel_rfl))
  f282:=Tryz.func354.trans (congrArg some (by kernel_rfl))
  f283:=Tryz.func355.trans (congrArg some (by kernel_rfl))
  f284:=Tryz.func356.trans (congrArg some (by kernel_rfl))
  f285:=Tryz.func357.trans (congrArg some (by kernel_rfl))
  f286:=Tryz.func358.trans (congrArg some (by kernel_rfl))
  f287:=Tryz.func364.trans (congrArg some (by kernel_rfl))
  f316:=Tryz.func89.trans (congrArg some (by kernel_rfl))
  f317:=Tryz.func366.trans (congrArg some (by kernel_rfl))
  f318:=Tryz.func367.trans (congrArg some (by kernel_rfl))
  f319:=Tryz.func368.trans (congrArg some (by kernel_rfl))
  f320:=Tryz.func369.trans (congrArg some (by kernel_rfl))
  f321:=Tryz.func374.trans (congrArg some (by kernel_rfl))
  f322:=Tryz.func375.trans (congrArg some (by kernel_rfl))
  f337:=Tryz.func376.trans (congrArg some (by kernel_rfl))
  f338:=Tryz.func377.trans (congrArg some (by kernel_rfl))
  t0:=Tryz.underlying0
  a0:=Tryz.isAgg0
  z0:=Tryz.sizeOf0
  v0:=Tryz.zeroValue0
  t2:=Tryz.underlying2
  a2:=Tryz.isAgg2
  z2:=Tryz.sizeOf2
  v2:=Tryz.zeroValue2
  t3:=Tryz.underlying3
  a3:=Tryz.isAgg3
  z3:=Tryz.sizeOf3
  v3:=Tryz.zeroValue3
  t4:=Tryz.underlying4
  a4:=Tryz.isAgg4
  z4:=Tryz.sizeOf4
  v4:=Tryz.zeroValue4
  t5:=Tryz.underlying5
  a5:=Tryz.isAgg5
  z5:=Tryz.sizeOf5
  v5:=Tryz.zeroValue5
  t9:=Tryz.underlying9
  a9:=Tryz.isAgg9
  z9:=Tryz.sizeOf9
  v9:=Tryz.zeroValue9
  t20:=Tryz.underlying20
  a20:=Tryz.isAgg20
  z20:=Tryz.sizeOf20
  v20:=Tryz.zeroValue20
  t21:=Tryz.underlying21
  a21:=Tryz.isAgg21
  z21:=Tryz.sizeOf21
  v21:=Tryz.zeroValue21
  t37:=Tryz.underlying150
  a37:=Tryz.isAgg150
  z37:=Tryz.sizeOf150
  v37:=Tryz.zeroValue150
  t46:=Tryz.underlying210
  a46:=Tryz.isAgg210
  z46:=Tryz.sizeOf210
  v46:=Tryz.zeroValue210
  t51:=Tryz.underlying125
  a51:=Tryz.isAgg125
  z51:=Tryz.sizeOf125
  v51:=Tryz.zeroValue125
  t53:=Tryz.underlying152
  a53:=Tryz.isAgg152
  z53:=Tryz.sizeOf152
  v53:=Tryz.zeroValue152
  t75:=Tryz.underlying243
  a75:=Tryz.isAgg243
  z75:=Tryz.sizeOf243
  v75:=Tryz.zeroValue243
  t76:=Tryz.underlying244
  a76:=Tryz.isAgg244
  z76:=Tryz.sizeOf244
  v76:=Tryz.zeroValue244
  t85:=Tryz.underlying418
  a85:=Tryz.isAgg418
  z85:=Tryz.sizeOf418
  v85:=Tryz.zeroValue418
  t127:=Tryz.underlying206
  a127:=Tryz.isAgg206
  z127:=Tryz.sizeOf206
  v127:=Tryz.zeroValue206
  t143:=Tryz.underlying442
  a143:=Tryz.isAgg442
  z143:=Tryz.sizeOf442
  v143:=Tryz.zeroValue442
  t145:=Tryz.underlying444
  a145:=Tryz.isAgg444
  z145:=Tryz.sizeOf444
  v145:=Tryz.zeroValue444
  t167:=Tryz.underlying417
  a167:=Tryz.isAgg417
  z167:=Tryz.sizeOf417
  v167:=Tryz.zeroValue417
  t168:=Tryz.underlying420
  a168:=Tryz.isAgg420
  z168:=Tryz.sizeOf420
  v168:=Tryz.zeroValue420
  t171:=Tryz.underlying423
  a171:=Tryz.isAgg423
  z171:=Tryz.sizeOf423
  v171:=Tryz.zeroValue423
  t173:=Tryz.underlying425
  a173:=Tryz.isAgg425
  z173:=Tryz.sizeOf425
  v173:=Tryz.zeroValue425
  t175:=Tryz.underlying431
  a175:=Tryz.isAgg431
  z175:=Tryz.sizeOf431
  v175:=Tryz.zeroValue431
  t210:=Tryz.underlying434
  a210:=Tryz.isAgg434
  z210:=Tryz.sizeOf434
  v210:=Tryz.zeroValue434
  t212:=Tryz.underlying437
  a212:=Tryz.isAgg437
  z212:=Tryz.sizeOf437
  v212:=Tryz.zeroValue437
  t213:=Tryz.underlying438
  a213:=Tryz.isAgg438
  z213:=Tryz.sizeOf438
  t232:=Tryz.underlying446
  a232:=Tryz.isAgg446
  z232:=Tryz.sizeOf446
  v232:=Tryz.zeroValue446
  t233:=Tryz.underlying447
  a233:=Tryz.isAgg447
  z233:=Tryz.sizeOf447
  v233:=Tryz.zeroValue447
  g15:=by kernel_rfl
  g16:=by kernel_rfl
  g17:=by kernel_rfl
  g18:=by kernel_rfl
  g19:=by kernel_rfl
  t80:=Tryz.underlying247
  a80:=Tryz.isAgg247
  z80:=Tryz.sizeOf247
  v80:=Tryz.zeroValue247
  i0:=by kernel_rfl
  i2:=by kernel_rfl
  i3:=by kernel_rfl
  i4:=by kernel_rfl
  i5:=by kernel_rfl
  i9:=by kernel_rfl
  i20:=by kernel_rfl
  i21:=by kernel_rfl
  i37:=by kernel_rfl
  i46:=by kernel_rfl
  i51:=by kernel_rfl
  i53:=by kernel_rfl
  i75:=by kernel_rfl
  i76:=by kernel_rfl
  i80:=by kernel_rfl
  i85:=by kernel_rfl
  i127:=by kernel_rfl
  i143:=by kernel_rfl
  i145:=by kernel_rfl
  i167:=by kernel_rfl
  i168:=by kernel_rfl
  i171:=by kernel_rfl
  i173:=by kernel_rfl
  i175:=by kernel_rfl
  i210:=by kernel_rfl
  i212:=by kernel_rfl
  i232:=by kernel_rfl
  i233:=by kernel_rfl
  m15:=by kernel_rfl
  m16:=by kernel_rfl
  m17:=by kernel_rfl
  m18:=by kernel_rfl
  m19:=by kernel_rfl
  c0:=by kernel_rfl
  c2:=by kernel_rfl
  c3:=by kernel_rfl
  c4:=by kernel_rfl
  c5:=by kernel_rfl
  c9:=by kernel_rfl
  c20:=by kernel_rfl
  c21:=by kernel_rfl
  c37:=by kernel_rfl
  c46:=by kernel_rfl
  c51:=by kernel_rfl
  c53:=by kernel_rfl
  c75:=by kernel_rfl
  c76:=by kernel_rfl
  c80:=by kernel_rfl
  c85:=by kernel_rfl
  c127:=by kernel_rfl
  c143:=by kernel_rfl
  c145:=by kernel_rfl
  c167:=by kernel_rfl
  c168:=by kernel_rfl
  c171:=by kernel_rfl
  c173:=by kernel_rfl
  c175:=by kernel_rfl
  c210:=by kernel_rfl
  c212:=by kernel_rfl
  c213:=by kernel_rfl
  c232:=by kernel_rfl
  c233:=by kernel_rfl }
open Go.RowKit in
theorem Tryz.strconv_Atoi_ok (s : ByteArray) (hmax : s.size ≤ 9223372036854775806) (v : Int) (h : Lib.atoiAll s.data.toList=.ok v) (w : World) :
    Calls Tryz.prog 282 #[.string s] w fun e w'=>e=.returned (.tuple #[.int .i64 v,.nilIface])∧(w'=w ∨ ∃ t,w'=Lib.bytesWorld w 5 t):=Any.strconv_Atoi_ok Tryz.laysC172 s hmax v h w
open Go.RowKit in
theorem Tryz.strconv_Atoi_syntax (s : ByteArray) (hlim : s.size ≤ 281474976710656) (h : Lib.atoiAll s.data.toList=.«syntax») (ev : Value) (w : World) (hv : w.cell? ⟨5,0,none⟩=some ev) (hev : ev=.nilIface ∨ ∃ te pe,ev=.iface te pe) :
    Calls Tryz.prog 282 #[.string s] w fun e w'=>∃ N,e=.returned (.tuple #[.int .i64 (0),.iface 420 (.pointer (some ⟨N,0,none⟩))])∧w.heap.size ≤ N∧w'.heap[N]? = some (.cells #[.string ⟨#[65,116,111,105]⟩,.string s,ev] 434 (0,0))∧Below w.heap.size w w':=Any.strconv_Atoi_syntax Tryz.laysC172 s hlim h ev w hv hev
open Go.RowKit in
theorem Tryz.strconv_Atoi_range (s : ByteArray) (hlim : s.size ≤ 281474976710656) (h : Lib.atoiAll s.data.toList=.range) (ev : Value) (w : World) (hv : w.cell? ⟨6,0,none⟩=some ev) (hev : ev=.nilIface ∨ ∃ te pe,ev=.iface te pe) :
    Calls Tryz.prog 282 #[.string s] w fun e w'=>∃ N,e=.returned (.tuple #[.int .i64 (Lib.atoiSat s.data.toList),.iface 420 (.pointer (some ⟨N,0,none⟩))])∧w.heap.size ≤ N∧w'.heap[N]? = some (.cells #[.string ⟨#[65,116,111,105]⟩,.string s,ev] 434 (0,0))∧Below w.heap.size w w':=Any.strconv_Atoi_range Tryz.laysC172 s hlim h ev w hv hev
end Go.Proofs
set_option linter.unusedVariables false
set_option linter.unusedSimpArgs false
namespace Go.Proofs.YtkekohmkaefdnaaGreatDoor
open Go.RowKit Go.Maps Go.Shelf Go.Sort Go.Lib
def ErrV (ev : Value) : Prop:=ev=.nilIface ∨ ∃ te pe,ev=.iface te pe
def LaidN (w : World) : Prop:=Lib.TabIs Tryz.prog w "internal/strconv.uint64pow10" .u64 Lib.pow10Tab∧(∃ ev,w.cell? ⟨5,0,none⟩=some ev∧ErrV ev)∧∃ ev,w.cell? ⟨6,0,none⟩=some ev∧ErrV ev
theorem tab10_below {w w' : World} {B : Nat} (h : Lib.TabIs Tryz.prog w "internal/strconv.uint64pow10" .u64 Lib.pow10Tab) (hB : B=w.heap.size) (hb : Below B w w') : Lib.TabIs Tryz.prog w' "internal/strconv.uint64pow10" .u64 Lib.pow10Tab:=by
  have hg : Tryz.prog.globalNamed "internal/strconv.uint64pow10"=some 7:=by kernel_rfl
  refine var?_below hb hg ?_ h
  have h' : w.var? Tryz.prog "internal/strconv.uint64pow10"=some _:=h
  unfold World.var? at h'
  simp only [hg,Option.bind_some] at h'
  rw [hB]
  by_cases hl : 7 < w.heap.size
  · exact hl
  · rw [Array.getElem?_eq_none (by omega)] at h'
    cases h'
theorem LaidN.below {w w' : World} {B : Nat} (h : LaidN w) (hB : B=w.heap.size) (hb : Below B w w') : LaidN w':=by
  obtain ⟨h1,⟨e1,h2,h3⟩,⟨e2,h4,h5⟩⟩:=h
  exact ⟨tab10_below h1 hB hb,⟨e1,(hb.cell (p:=⟨5,0,none⟩) (by rw [hB];exact World.block_lt_of_cell? w _ h2)).trans h2,h3⟩,⟨e2,(hb.cell (p:=⟨6,0,none⟩) (by rw [hB];exact World.block_lt_of_cell? w _ h4)).trans h4,h5⟩⟩
def numF (s : ByteArray) : Option Int:=
  match Lib.atoiAll s.data.toList with
  | .ok v=>if Lib.itoa v=s.data.toList∧-1000000000000 ≤ v∧v ≤ 1000000000000 then some v else none
  | _=>none
set_option maxHeartbeats 4000000 in
set_option maxRecDepth 100000 in
theorem number_any (s : ByteArray) (w : World) (hL : LaidN w) (hs : s.size ≤ 100000) :
    Calls Tryz.prog 223 #[.string s] w fun e w'=>e=.returned (.tuple #[.int .i64 ((numF s).getD 0),.bool (numF s).isSome])∧Below w.heap.size w w':=by
  cases hat : Lib.atoiAll s.data.toList with
  | «syntax»=>
    have hF : numF s=none:=by unfold numF;rw [hat]
    have HF:=Lib.hid hF
    obtain ⟨_,⟨ev,h2,h3⟩,_⟩:=hL
    have ha:=Tryz.strconv_Atoi_syntax s (by omega) hat ev w h2 h3
    have HH:=Lib.hid hat
    clear hF hat
    go_enter Tryz.func223,Tryz.ntmps223
    go_wp2_with (go_at_call 282;refine ha.mono ?_;rintro e w1 ⟨N,rfl,hN,hN2,hb⟩)
    go_ret2
    rw [HF.out]
    exact ⟨rfl,hb⟩
  | range=>
    have hF : numF s=none:=by unfold numF;rw [hat]
    have HF:=Lib.hid hF
    obtain ⟨_,_,⟨ev,h2,h3⟩⟩:=hL
    have ha:=Tryz.strconv_Atoi_range s (by omega) hat ev w h2 h3
    generalize Lib.atoiSat s.data.toList=sat at ha
    have HH:=Lib.hid hat
    clear hF hat
    go_enter Tryz.func223,Tryz.ntmps223
    go_wp2_with (go_at_call 282;refine ha.mono ?_;rintro e w1 ⟨N,rfl,hN,hN2,hb⟩)
    go_ret2
    rw [HF.out]
    exact ⟨rfl,hb⟩
  | ok v=>
    have hbd:=Lib.atoiAll_bounds hat
    have ha : Calls Tryz.prog 282 #[.string s] w fun e w'=>e=.returned (.tuple #[.int .i64 v,.nilIface])∧Below w.heap.size w w':=(Tryz.strconv_Atoi_ok s (by omega) v hat w).mono (by
      rintro e w' ⟨rfl,rfl | ⟨t,rfl⟩⟩
      · exact ⟨rfl,Below.refl _ _⟩
      · exact ⟨rfl,Lib.bytesWorld_below _ _ _⟩)
    have hi : ∀ W,Below w.heap.size w W→Calls Tryz.prog 224 #[.int .i64 v] W fun e w'=>e=.returned (.string ⟨(Lib.itoa v).toArray⟩)∧Below w.heap.size w w':=fun W hb=>(Tryz.strconv_Itoa v hbd.1 hbd.2 W (hL.below rfl hb).1).mono (by
      rintro e w' ⟨rfl,k,os,rfl⟩
      exact ⟨rfl,hb.trans ((below_grow W.heap.size W (Nat.le_refl _) k os).mono hb.size)⟩)
    by_cases heq : Lib.itoa v=s.data.toList
    · have hs2 : (⟨(Lib.itoa v).toArray⟩ : ByteArray)=s:=by
        rw [heq]
      rw [hs2] at hi
      by_cases hin : -1000000000000 ≤ v∧v ≤ 1000000000000
      · have hF : numF s=some v:=by unfold numF;rw [hat];exact if_pos ⟨heq,hin.1,hin.2⟩
        have HF:=Lib.hid hF
        obtain ⟨hlo,hhi⟩:=hin
        have HH:=Lib.hid hat
        have HE:=Lib.hid heq
        have HL:=Lib.hid hL
        clear hF hat heq hs2 hL hbd
        go_enter Tryz.func223,Tryz.ntmps223
        go_wp2_with (first | (go_at_call 282;refine ha.mono ?_;rintro e w1 ⟨rfl,hb⟩) | (go_at_call 224;refine (hi _ hb).mono ?_;rintro e w2 ⟨rfl,hb2⟩))
        go_ret2
        rw [HF.out]
        exact ⟨rfl,hb2⟩
      · have hF : numF s=none:=by unfold numF;rw [hat];exact if_neg (fun h=>hin h.2)
        have HF:=Lib.hid hF
        have HH:=Lib.hid hat
        have HE:=Lib.hid heq
        have HL:=Lib.hid hL
        clear hF hat heq hs2 hL hbd
        by_cases hlo : v < -1000000000000
        · clear hin
          go_enter Tryz.func223,Tryz.ntmps223
          go_wp2_with (first | (go_at_call 282;refine ha.mono ?_;rintro e w1 ⟨rfl,hb⟩) | (go_at_call 224;refine (hi _ hb).mono ?_;rintro e w2 ⟨rfl,hb2⟩))
          go_ret2
          rw [HF.out]
          exact ⟨rfl,hb2⟩
        · have hhi : 1000000000000 < v:=by omega
          have hlo' : -1000000000000 ≤ v:=by omega
          clear hin hlo
          go_enter Tryz.func223,Tryz.ntmps223
          go_wp2_with (first | (go_at_call 282;refine ha.mono ?_;rintro e w1 ⟨rfl,hb⟩) | (go_at_call 224;refine (hi _ hb).mono ?_;rintro e w2 ⟨rfl,hb2⟩))
          go_ret2
          rw [HF.out]
          exact ⟨rfl,hb2⟩
    · have hF : numF s=none:=by unfold numF;rw [hat];exact if_neg (fun h=>heq h.1)
      have HF:=Lib.hid hF
      have hne : (⟨(Lib.itoa v).toArray⟩ : ByteArray) ≠ s:=fun h=>heq (by rw [← h])
      have hne2 : ((⟨(Lib.itoa v).toArray⟩ : ByteArray).toList == s.toList)=false:=by
        rw [beq_eq_false_iff_ne]
        intro h
        rw [Go.ByteArray.toList_eq,Go.ByteArray.toList_eq] at h
        exact heq (by simpa using h)
      generalize (⟨(Lib.itoa v).toArray⟩ : ByteArray)=t at hi hne hne2
      have hne3 : (t.toList != s.toList)=true:=by rw [bne,hne2];rfl
      have HH:=Lib.hid hat
      have HE:=Lib.hid heq
      have HL:=Lib.hid hL
      clear hF hat heq hL hbd
      go_enter Tryz.func223,Tryz.ntmps223
      go_wp2_with (first | (go_at_call 282;refine ha.mono ?_;rintro e w1 ⟨rfl,hb⟩) | (go_at_call 224;refine (hi _ hb).mono ?_;rintro e w2 ⟨rfl,hb2⟩))
      go_ret2
      rw [HF.out]
      exact ⟨rfl,hb2⟩
end Go.Proofs.YtkekohmkaefdnaaGreatDoor
