/-
  DERIVED: THE SHELF's CONTRACTS AT THIS DUMP, IN PLAIN WORDS (tools/lay-plain.mjs out of 'YtjfhagjpcdjjkabGreatDoorLib0.lean', which tools/lay-shelf.mjs wrote): THE SAME DECLARATIONS UNDER THE SAME NAMES: 'import', 'namespace', 'open', 'def', 'theorem' AND NOTHING ELSE: no command of the shelf's: FOR A HAND-IN. Each laying: the table of numbers ('.._ren') and one theorem, a field a fact of the dump's own or the kernel's comparison; each contract: ONE APPLICATION.
-/
import Derived.Shelf.Strings.Builder1
import Derived.Shelf.Strings.Builder2
import Derived.Shelf.Strings.BuilderF
import Derived.Shelf.LaysM
import Derived.Shelf.Strconv.Itoa3
import Derived.Shelf.Strings.Repeat
import Derived.Ground.Names2Prog
import Derived.Test.YtjfhagjpcdjjkabGreatDoorProg
namespace Go.Proofs
open Go.Shelf
def Tryz.laysM171_ren : Go.Shelf.Ren := ⟨fun | 171 => 235 | 243 => 284 | 246 => 307 | 283 => 319 | 284 => 320 | 285 => 321 | 286 => 322 | 129 => 295 | 317 => 336 | 318 => 337 | 319 => 338 | 320 => 339 | 337 => 357 | 338 => 358 | n => n, fun | 3 => 3 | 9 => 9 | 2 => 2 | 4 => 4 | 171 => 367 | 0 => 0 | 53 => 201 | 37 => 315 | 5 => 5 | 173 => 369 | 212 => 385 | 51 => 138 | 20 => 20 | 213 => 386 | 46 => 300 | 232 => 405 | 233 => 406 | n => n, fun | 17 => 4 | 18 => 5 | 19 => 6 | n => n⟩
theorem Tryz.laysM171 : Go.Proofs.LaysM.n171 Tryz.prog Tryz.laysM171_ren := {
  mixed := by kernel_rfl
  f129 := Tryz.func295.trans (congrArg some (by kernel_rfl))
  f171 := Tryz.func235.trans (congrArg some (by kernel_rfl))
  f243 := Tryz.func284.trans (congrArg some (by kernel_rfl))
  f246 := Tryz.func307.trans (congrArg some (by kernel_rfl))
  f283 := Tryz.func319.trans (congrArg some (by kernel_rfl))
  f284 := Tryz.func320.trans (congrArg some (by kernel_rfl))
  f285 := Tryz.func321.trans (congrArg some (by kernel_rfl))
  f286 := Tryz.func322.trans (congrArg some (by kernel_rfl))
  f317 := Tryz.func336.trans (congrArg some (by kernel_rfl))
  f318 := Tryz.func337.trans (congrArg some (by kernel_rfl))
  f319 := Tryz.func338.trans (congrArg some (by kernel_rfl))
  f320 := Tryz.func339.trans (congrArg some (by kernel_rfl))
  f337 := Tryz.func357.trans (congrArg some (by kernel_rfl))
  f338 := Tryz.func358.trans (congrArg some (by kernel_rfl))
  t0 := Tryz.underlying0
  a0 := Tryz.isAgg0
  z0 := Tryz.sizeOf0
  v0 := Tryz.zeroValue0
  t2 := Tryz.underlying2
  a2 := Tryz.isAgg2
  z2 := Tryz.sizeOf2
  v2 := Tryz.zeroValue2
  t3 := Tryz.underlying3
  a3 := Tryz.isAgg3
  z3 := Tryz.sizeOf3
  v3 := Tryz.zeroValue3
  t4 := Tryz.underlying4
  a4 := Tryz.isAgg4
  z4 := Tryz.sizeOf4
  v4 := Tryz.zeroValue4
  t5 := Tryz.underlying5
  a5 := Tryz.isAgg5
  z5 := Tryz.sizeOf5
  v5 := Tryz.zeroValue5
  t9 := Tryz.underlying9
  a9 := Tryz.isAgg9
  z9 := Tryz.sizeOf9
  v9 := Tryz.zeroValue9
  t20 := Tryz.underlying20
  a20 := Tryz.isAgg20
  z20 := Tryz.sizeOf20
  v20 := Tryz.zeroValue20
  t37 := Tryz.underlying315
  a37 := Tryz.isAgg315
  z37 := Tryz.sizeOf315
  v37 := Tryz.zeroValue315
  t46 := Tryz.underlying300
  a46 := Tryz.isAgg300
  z46 := Tryz.sizeOf300
  v46 := Tryz.zeroValue300
  t51 := Tryz.underlying138
  a51 := Tryz.isAgg138
  z51 := Tryz.sizeOf138
  v51 := Tryz.zeroValue138
  t53 := Tryz.underlying201
  a53 := Tryz.isAgg201
  z53 := Tryz.sizeOf201
  v53 := Tryz.zeroValue201
  t171 := Tryz.underlying367
  a171 := Tryz.isAgg367
  z171 := Tryz.sizeOf367
  v171 := Tryz.zeroValue367
  t173 := Tryz.underlying369
  a173 := Tryz.isAgg369
  z173 := Tryz.sizeOf369
  v173 := Tryz.zeroValue369
  t212 := Tryz.underlying385
  a212 := Tryz.isAgg385
  z212 := Tryz.sizeOf385
  v212 := Tryz.zeroValue385
  t213 := Tryz.underlying386
  a213 := Tryz.isAgg386
  z213 := Tryz.sizeOf386
  t232 := Tryz.underlying405
  a232 := Tryz.isAgg405
  z232 := Tryz.sizeOf405
  v232 := Tryz.zeroValue405
  t233 := Tryz.underlying406
  a233 := Tryz.isAgg406
  z233 := Tryz.sizeOf406
  v233 := Tryz.zeroValue406
  g17 := by kernel_rfl
  g18 := by kernel_rfl
  g19 := by kernel_rfl
  i0 := by kernel_rfl
  i2 := by kernel_rfl
  i3 := by kernel_rfl
  i4 := by kernel_rfl
  i5 := by kernel_rfl
  i9 := by kernel_rfl
  i20 := by kernel_rfl
  i37 := by kernel_rfl
  i46 := by kernel_rfl
  i51 := by kernel_rfl
  i53 := by kernel_rfl
  i171 := by kernel_rfl
  i173 := by kernel_rfl
  i212 := by kernel_rfl
  i232 := by kernel_rfl
  i233 := by kernel_rfl
  m17 := by kernel_rfl
  m18 := by kernel_rfl
  m19 := by kernel_rfl }
open Go.RowKit Go.Sort Go.Lib in
/-- strconv.Itoa: "Itoa is equivalent to FormatInt(int64(i), 10).": i's DECIMAL NUMERAL ('Lib.itoa': a '-' where i is negative, then the digits), FOR EVERY int. The world behind the call: the world before it, new blocks behind the heap (the library's 'var a [24]byte'), draws. (LAID: no walk: one application.) -/
theorem Tryz.strconv_Itoa (n : Int) (h0 : -9223372036854775808 ≤ n) (h1 : n ≤ 9223372036854775807) (w : World) (htab : Lib.TabIs Tryz.prog w "internal/strconv.uint64pow10" .u64 Lib.pow10Tab) :
    Calls Tryz.prog 235 #[.int .i64 n] w fun e w' => e = .returned (.string ⟨(Lib.itoa n).toArray⟩) ∧ ∃ k os, w' = grow (w.drewN k) os := Any.strconv_Itoa Tryz.laysM171 n h0 h1 w htab
def Tryz.lays105_ren : Go.Shelf.Ren := ⟨fun | 105 => 329 | 212 => 348 | 99 => 349 | 165 => 350 | 166 => 287 | 170 => 351 | 169 => 288 | 263 => 362 | 264 => 188 | 206 => 277 | 240 => 308 | 241 => 363 | 276 => 323 | 277 => 366 | n => n, fun | 9 => 9 | 3 => 3 | 4 => 4 | 20 => 20 | 0 => 0 | 46 => 300 | 109 => 393 | 5 => 5 | 72 => 324 | 76 => 212 | 51 => 138 | 146 => 403 | 53 => 201 | 148 => 249 | 70 => 322 | 37 => 315 | 75 => 211 | 127 => 352 | 164 => 371 | 80 => 291 | n => n, fun | n => n⟩
theorem Tryz.lays105 : Go.Proofs.Lays.n105 Tryz.prog Tryz.lays105_ren := {
  mixed := by kernel_rfl
  f99 := Tryz.func349.trans (congrArg some (by kernel_rfl))
  f105 := Tryz.func329.trans (congrArg some (by kernel_rfl))
  f165 := Tryz.func350.trans (congrArg some (by kernel_rfl))
  f166 := Tryz.func287.trans (congrArg some (by kernel_rfl))
  f169 := Tryz.func288.trans (congrArg some (by kernel_rfl))
  f170 := Tryz.func351.trans (congrArg some (by kernel_rfl))
  f206 := Tryz.func277.trans (congrArg some (by kernel_rfl))
  f212 := Tryz.func348.trans (congrArg some (by kernel_rfl))
  f240 := Tryz.func308.trans (congrArg some (by kernel_rfl))
  f241 := Tryz.func363.trans (congrArg some (by kernel_rfl))
  f263 := Tryz.func362.trans (congrArg some (by kernel_rfl))
  f264 := Tryz.func188.trans (congrArg some (by kernel_rfl))
  f276 := Tryz.func323.trans (congrArg some (by kernel_rfl))
  f277 := Tryz.func366.trans (congrArg some (by kernel_rfl))
  t0 := Tryz.underlying0
  a0 := Tryz.isAgg0
  z0 := Tryz.sizeOf0
  v0 := Tryz.zeroValue0
  t3 := Tryz.underlying3
  a3 := Tryz.isAgg3
  z3 := Tryz.sizeOf3
  v3 := Tryz.zeroValue3
  t4 := Tryz.underlying4
  a4 := Tryz.isAgg4
  z4 := Tryz.sizeOf4
  v4 := Tryz.zeroValue4
  t5 := Tryz.underlying5
  a5 := Tryz.isAgg5
  z5 := Tryz.sizeOf5
  v5 := Tryz.zeroValue5
  t9 := Tryz.underlying9
  a9 := Tryz.isAgg9
  z9 := Tryz.sizeOf9
  v9 := Tryz.zeroValue9
  t20 := Tryz.underlying20
  a20 := Tryz.isAgg20
  z20 := Tryz.sizeOf20
  v20 := Tryz.zeroValue20
  t37 := Tryz.underlying315
  a37 := Tryz.isAgg315
  z37 := Tryz.sizeOf315
  v37 := Tryz.zeroValue315
  t46 := Tryz.underlying300
  a46 := Tryz.isAgg300
  z46 := Tryz.sizeOf300
  v46 := Tryz.zeroValue300
  t51 := Tryz.underlying138
  a51 := Tryz.isAgg138
  z51 := Tryz.sizeOf138
  v51 := Tryz.zeroValue138
  t53 := Tryz.underlying201
  a53 := Tryz.isAgg201
  z53 := Tryz.sizeOf201
  v53 := Tryz.zeroValue201
  t70 := Tryz.underlying322
  a70 := Tryz.isAgg322
  z70 := Tryz.sizeOf322
  v70 := Tryz.zeroValue322
  t72 := Tryz.underlying324
  a72 := Tryz.isAgg324
  z72 := Tryz.sizeOf324
  v72 := Tryz.zeroValue324
  t75 := Tryz.underlying211
  a75 := Tryz.isAgg211
  z75 := Tryz.sizeOf211
  v75 := Tryz.zeroValue211
  t76 := Tryz.underlying212
  a76 := Tryz.isAgg212
  z76 := Tryz.sizeOf212
  v76 := Tryz.zeroValue212
  t109 := Tryz.underlying393
  a109 := Tryz.isAgg393
  z109 := Tryz.sizeOf393
  v109 := Tryz.zeroValue393
  t127 := Tryz.underlying352
  a127 := Tryz.isAgg352
  z127 := Tryz.sizeOf352
  v127 := Tryz.zeroValue352
  t146 := Tryz.underlying403
  a146 := Tryz.isAgg403
  z146 := Tryz.sizeOf403
  v146 := Tryz.zeroValue403
  t148 := Tryz.underlying249
  a148 := Tryz.isAgg249
  z148 := Tryz.sizeOf249
  v148 := Tryz.zeroValue249
  t164 := Tryz.underlying371
  a164 := Tryz.isAgg371
  z164 := Tryz.sizeOf371
  v164 := Tryz.zeroValue371 }
theorem Tryz.Builder_Extra_105 : Builder.Extra Tryz.prog Tryz.lays105_ren := {
  sizeBuilder := by kernel_rfl
  liesBuilder := by kernel_rfl
  t5 := Tryz.underlying5
  a5 := Tryz.isAgg5
  z5 := Tryz.sizeOf5
  v5 := Tryz.zeroValue5
  infoByte := by kernel_rfl
  cellsByte := by kernel_rfl
  sizeByte := by kernel_rfl
  neB5 := by decide }
open Go.RowKit Go.Lib in
/-- **strings.Repeat: count ≥ 0, the result within one allocation: count copies of s.** (LAID: no walk: one application.) -/
theorem Tryz.strings_Repeat (s : ByteArray) (c : Nat) (w : World) (hc : c ≤ 9223372036854775807) (hlen : s.size * c ≤ 140737488355328) :
    Calls Tryz.prog 329 #[.string s, .int .i64 c] w fun e w' => e = .returned (.string ⟨(Lib.repeatL s.data.toList c).toArray⟩) ∧ Below w.heap.size w w' := Any.strings_Repeat Tryz.lays105 Tryz.Builder_Extra_105 s c w hc hlen
end Go.Proofs
