/- Texts of one proof, one behind the other: Shelf; Num20b; Num20c; Sam14b; Sam14c; CopyS; Num20d; Num20f; Num20g; Num20e; Num20h; Plain21; Plain30. -/
import Derived.Test.YtlideagcmhlkeaaDoorRF1
import Derived.Shelf.Strings.Builder1
import Derived.Shelf.Strings.Builder2
import Derived.Shelf.Strings.OnBuilder
import Derived.Shelf.Strconv.Itoa0
import Derived.Shelf.Strconv.Itoa1
import Derived.Shelf.LaysM
import Derived.Shelf.Strconv.Itoa2
import Derived.Shelf.Strconv.Itoa3
import Derived.Ground.MpProg
import Derived.Shelf.Pu.ParseUintPublic10
import Derived.Shelf.Pu.ErrVarParseUint
import Derived.Shelf.Strings.Search1
import Derived.Shelf.Strings.Search2
import Derived.Shelf.Strings.Cut
import Derived.Shelf.Strings.Shaped
import Derived.Shelf.GgClosure.StringsIndexFunc
import Derived.Shelf.Strings.Prefix
import Derived.Ground.Names2Prog
import Derived.Shelf.Slices.Clone
import Derived.Ground.SlgnProg
import Derived.Shelf.SlicesE.Equal
import Derived.Shelf.SlicesE.Clone
import Derived.Test.YtlideagcmhlkeaaDoorProg
import Derived.Deep.CutBlock
import Derived.Lib.AtoiErrMem
import Derived.BigQuiet
import Derived.ArgAppend
import Derived.Deep.DeepCutAuto
import Derived.Lib.IndexMore
import Derived.Laws.RangeAny

/-
  DERIVED: THE SHELF's CONTRACTS AT THIS DUMP, IN PLAIN WORDS (tools/lay-plain.mjs out of 'YtlideagcmhlkeaaDoorShelfRaw.lean', which tools/lay-shelf.mjs wrote): THE SAME DECLARATIONS UNDER THE SAME NAMES: 'import', 'namespace', 'open', 'def', 'theorem' AND NOTHING ELSE: no command of the shelf's: FOR A HAND-IN. Each laying: the table of numbers ('.._ren') and one theorem, a field a fact of the dump's own or the kernel's comparison; each contract: ONE APPLICATION.
-/
namespace Go.Proofs
open Go.Shelf
def Tryd.lays156_ren : Go.Shelf.Ren := ⟨fun | 156 => 92 | 165 => 109 | 166 => 100 | 169 => 102 | 240 => 116 | 241 => 121 | 276 => 131 | 277 => 137 | n => n, fun | 31 => 30 | 9 => 9 | 3 => 3 | 4 => 4 | 0 => 0 | 20 => 20 | 72 => 158 | 76 => 162 | 70 => 156 | 37 => 24 | 75 => 161 | 127 => 182 | 164 => 193 | 5 => 5 | 80 => 167 | n => n, fun | n => n⟩
theorem Tryd.lays156 : Go.Proofs.Lays.n156 Tryd.prog Tryd.lays156_ren := {
  mixed := by kernel_rfl
  f156 := Tryd.func92.trans (congrArg some (by kernel_rfl))
  f165 := Tryd.func109.trans (congrArg some (by kernel_rfl))
  f166 := Tryd.func100.trans (congrArg some (by kernel_rfl))
  f169 := Tryd.func102.trans (congrArg some (by kernel_rfl))
  f240 := Tryd.func116.trans (congrArg some (by kernel_rfl))
  f241 := Tryd.func121.trans (congrArg some (by kernel_rfl))
  f276 := Tryd.func131.trans (congrArg some (by kernel_rfl))
  f277 := Tryd.func137.trans (congrArg some (by kernel_rfl))
  t0 := Tryd.underlying0
  a0 := Tryd.isAgg0
  z0 := Tryd.sizeOf0
  v0 := Tryd.zeroValue0
  t3 := Tryd.underlying3
  a3 := Tryd.isAgg3
  z3 := Tryd.sizeOf3
  v3 := Tryd.zeroValue3
  t4 := Tryd.underlying4
  a4 := Tryd.isAgg4
  z4 := Tryd.sizeOf4
  v4 := Tryd.zeroValue4
  t9 := Tryd.underlying9
  a9 := Tryd.isAgg9
  z9 := Tryd.sizeOf9
  v9 := Tryd.zeroValue9
  t20 := Tryd.underlying20
  a20 := Tryd.isAgg20
  z20 := Tryd.sizeOf20
  v20 := Tryd.zeroValue20
  t31 := Tryd.underlying30
  a31 := Tryd.isAgg30
  z31 := Tryd.sizeOf30
  v31 := Tryd.zeroValue30
  t37 := Tryd.underlying24
  a37 := Tryd.isAgg24
  z37 := Tryd.sizeOf24
  v37 := Tryd.zeroValue24
  t70 := Tryd.underlying156
  a70 := Tryd.isAgg156
  z70 := Tryd.sizeOf156
  v70 := Tryd.zeroValue156
  t72 := Tryd.underlying158
  a72 := Tryd.isAgg158
  z72 := Tryd.sizeOf158
  v72 := Tryd.zeroValue158
  t75 := Tryd.underlying161
  a75 := Tryd.isAgg161
  z75 := Tryd.sizeOf161
  v75 := Tryd.zeroValue161
  t76 := Tryd.underlying162
  a76 := Tryd.isAgg162
  z76 := Tryd.sizeOf162
  v76 := Tryd.zeroValue162
  t127 := Tryd.underlying182
  a127 := Tryd.isAgg182
  z127 := Tryd.sizeOf182
  v127 := Tryd.zeroValue182
  t164 := Tryd.underlying193
  a164 := Tryd.isAgg193
  z164 := Tryd.sizeOf193
  v164 := Tryd.zeroValue193 }
theorem Tryd.Builder_Extra_156 : Builder.Extra Tryd.prog Tryd.lays156_ren := {
  sizeBuilder := by kernel_rfl
  liesBuilder := by kernel_rfl
  t5 := Tryd.underlying5
  a5 := Tryd.isAgg5
  z5 := Tryd.sizeOf5
  v5 := Tryd.zeroValue5
  infoByte := by kernel_rfl
  cellsByte := by kernel_rfl
  sizeByte := by kernel_rfl
  neB5 := by decide }
open Go.RowKit in
/-- strings.Join: "Join concatenates the elements of its first argument to create a single string. The separator string sep is placed between elements in the resulting string.": HOWEVER MANY ELEMENTS. Below the heap's end the world is as it was. (LAID: no walk: one application.) -/
theorem Tryd.strings_Join (bk o c : Nat) (xs : List ByteArray) (sep : ByteArray) (w : World) (hcells : ∀ (j : Nat) x, xs[j]? = some x → w.cell? ⟨bk, o + j, none⟩ = some (.string x)) (hbk : bk < w.heap.size) (hN : xs.length ≤ 140737488355328) (hcap : xs.length ≤ c) (hlen : (Lib.join (xs.map (·.data.toList)) sep.data.toList).length ≤ 140737488355328) :
    Calls Tryd.prog 92 #[.slice (some ⟨bk, o, none⟩) xs.length c, .string sep] w fun e w' => e = .returned (.string ⟨(Lib.join (xs.map (·.data.toList)) sep.data.toList).toArray⟩) ∧ Below w.heap.size w w' := Any.strings_Join Tryd.lays156 Tryd.Builder_Extra_156 bk o c xs sep w hcells hbk hN hcap hlen
def Tryd.laysM171_ren : Go.Shelf.Ren := ⟨fun | 171 => 45 | 243 => 81 | 246 => 105 | 283 => 117 | 284 => 118 | 285 => 119 | 286 => 120 | 129 => 133 | 317 => 132 | 318 => 134 | 319 => 135 | 320 => 136 | 337 => 149 | 338 => 150 | n => n, fun | 3 => 3 | 9 => 9 | 2 => 2 | 4 => 4 | 171 => 185 | 0 => 0 | 53 => 178 | 37 => 24 | 5 => 5 | 173 => 188 | 212 => 196 | 51 => 197 | 20 => 20 | 213 => 198 | 46 => 184 | 232 => 215 | 233 => 216 | n => n, fun | 17 => 2 | 18 => 5 | 19 => 6 | n => n⟩
theorem Tryd.laysM171 : Go.Proofs.LaysM.n171 Tryd.prog Tryd.laysM171_ren := {
  mixed := by kernel_rfl
  f129 := Tryd.func133.trans (congrArg some (by kernel_rfl))
  f171 := Tryd.func45.trans (congrArg some (by kernel_rfl))
  f243 := Tryd.func81.trans (congrArg some (by kernel_rfl))
  f246 := Tryd.func105.trans (congrArg some (by kernel_rfl))
  f283 := Tryd.func117.trans (congrArg some (by kernel_rfl))
  f284 := Tryd.func118.trans (congrArg some (by kernel_rfl))
  f285 := Tryd.func119.trans (congrArg some (by kernel_rfl))
  f286 := Tryd.func120.trans (congrArg some (by kernel_rfl))
  f317 := Tryd.func132.trans (congrArg some (by kernel_rfl))
  f318 := Tryd.func134.trans (congrArg some (by kernel_rfl))
  f319 := Tryd.func135.trans (congrArg some (by kernel_rfl))
  f320 := Tryd.func136.trans (congrArg some (by kernel_rfl))
  f337 := Tryd.func149.trans (congrArg some (by kernel_rfl))
  f338 := Tryd.func150.trans (congrArg some (by kernel_rfl))
  t0 := Tryd.underlying0
  a0 := Tryd.isAgg0
  z0 := Tryd.sizeOf0
  v0 := Tryd.zeroValue0
  t2 := Tryd.underlying2
  a2 := Tryd.isAgg2
  z2 := Tryd.sizeOf2
  v2 := Tryd.zeroValue2
  t3 := Tryd.underlying3
  a3 := Tryd.isAgg3
  z3 := Tryd.sizeOf3
  v3 := Tryd.zeroValue3
  t4 := Tryd.underlying4
  a4 := Tryd.isAgg4
  z4 := Tryd.sizeOf4
  v4 := Tryd.zeroValue4
  t5 := Tryd.underlying5
  a5 := Tryd.isAgg5
  z5 := Tryd.sizeOf5
  v5 := Tryd.zeroValue5
  t9 := Tryd.underlying9
  a9 := Tryd.isAgg9
  z9 := Tryd.sizeOf9
  v9 := Tryd.zeroValue9
  t20 := Tryd.underlying20
  a20 := Tryd.isAgg20
  z20 := Tryd.sizeOf20
  v20 := Tryd.zeroValue20
  t37 := Tryd.underlying24
  a37 := Tryd.isAgg24
  z37 := Tryd.sizeOf24
  v37 := Tryd.zeroValue24
  t46 := Tryd.underlying184
  a46 := Tryd.isAgg184
  z46 := Tryd.sizeOf184
  v46 := Tryd.zeroValue184
  t51 := Tryd.underlying197
  a51 := Tryd.isAgg197
  z51 := Tryd.sizeOf197
  v51 := Tryd.zeroValue197
  t53 := Tryd.underlying178
  a53 := Tryd.isAgg178
  z53 := Tryd.sizeOf178
  v53 := Tryd.zeroValue178
  t171 := Tryd.underlying185
  a171 := Tryd.isAgg185
  z171 := Tryd.sizeOf185
  v171 := Tryd.zeroValue185
  t173 := Tryd.underlying188
  a173 := Tryd.isAgg188
  z173 := Tryd.sizeOf188
  v173 := Tryd.zeroValue188
  t212 := Tryd.underlying196
  a212 := Tryd.isAgg196
  z212 := Tryd.sizeOf196
  v212 := Tryd.zeroValue196
  t213 := Tryd.underlying198
  a213 := Tryd.isAgg198
  z213 := Tryd.sizeOf198
  t232 := Tryd.underlying215
  a232 := Tryd.isAgg215
  z232 := Tryd.sizeOf215
  v232 := Tryd.zeroValue215
  t233 := Tryd.underlying216
  a233 := Tryd.isAgg216
  z233 := Tryd.sizeOf216
  v233 := Tryd.zeroValue216
  g17 := by kernel_rfl
  g18 := by kernel_rfl
  g19 := by kernel_rfl
  i0 := by kernel_rfl
  i2 := by kernel_rfl
  i3 := by kernel_rfl
  i4 := by kernel_rfl
  i5 := by kernel_rfl
  i9 := by kernel_rfl
  i20 := by kernel_rfl
  i37 := by kernel_rfl
  i46 := by kernel_rfl
  i51 := by kernel_rfl
  i53 := by kernel_rfl
  i171 := by kernel_rfl
  i173 := by kernel_rfl
  i212 := by kernel_rfl
  i232 := by kernel_rfl
  i233 := by kernel_rfl
  m17 := by kernel_rfl
  m18 := by kernel_rfl
  m19 := by kernel_rfl }
open Go.RowKit Go.Sort Go.Lib in
/-- strconv.Itoa: "Itoa is equivalent to FormatInt(int64(i), 10).": i's DECIMAL NUMERAL ('Lib.itoa': a '-' where i is negative, then the digits), FOR EVERY int. The world behind the call: the world before it, new blocks behind the heap (the library's 'var a [24]byte'), draws. (LAID: no walk: one application.) -/
theorem Tryd.strconv_Itoa (n : Int) (h0 : -9223372036854775808 ≤ n) (h1 : n ≤ 9223372036854775807) (w : World) (htab : Lib.TabIs Tryd.prog w "internal/strconv.uint64pow10" .u64 Lib.pow10Tab) :
    Calls Tryd.prog 45 #[.int .i64 n] w fun e w' => e = .returned (.string ⟨(Lib.itoa n).toArray⟩) ∧ ∃ k os, w' = grow (w.drewN k) os := Any.strconv_Itoa Tryd.laysM171 n h0 h1 w htab
def Tryd.laysPu14_ren : Go.Shelf.Ren := ⟨fun | 14 => 114 | 16 => 128 | 17 => 129 | 19 => 143 | 20 => 144 | 21 => 145 | 22 => 146 | 23 => 147 | 24 => 148 | 25 => 152 | 27 => 45 | 26 => 153 | 28 => 81 | 29 => 105 | 30 => 117 | 31 => 118 | 32 => 119 | 33 => 120 | 35 => 133 | 34 => 132 | 36 => 134 | 37 => 135 | 38 => 136 | 39 => 149 | 40 => 150 | n => n, fun | 9 => 9 | 3 => 3 | 22 => 178 | 24 => 161 | 25 => 179 | 4 => 4 | 34 => 206 | 5 => 5 | 36 => 184 | 37 => 24 | 0 => 0 | 39 => 208 | 21 => 21 | 44 => 213 | 47 => 182 | 50 => 219 | 48 => 217 | 2 => 2 | 52 => 185 | 55 => 188 | 59 => 196 | 60 => 197 | 20 => 20 | 61 => 198 | 65 => 215 | 66 => 216 | 67 => 167 | n => n, fun | 0 => 3 | 1 => 4 | 2 => 2 | 3 => 5 | 4 => 6 | n => n⟩
theorem Tryd.laysPu14 : Go.Proofs.LaysPu.n14 Tryd.prog Tryd.laysPu14_ren := {
  mixed := by kernel_rfl
  f14 := Tryd.func114.trans (congrArg some (by kernel_rfl))
  f16 := Tryd.func128.trans (congrArg some (by kernel_rfl))
  f17 := Tryd.func129.trans (congrArg some (by kernel_rfl))
  f19 := Tryd.func143.trans (congrArg some (by kernel_rfl))
  f20 := Tryd.func144.trans (congrArg some (by kernel_rfl))
  f21 := Tryd.func145.trans (congrArg some (by kernel_rfl))
  f22 := Tryd.func146.trans (congrArg some (by kernel_rfl))
  f23 := Tryd.func147.trans (congrArg some (by kernel_rfl))
  f24 := Tryd.func148.trans (congrArg some (by kernel_rfl))
  f25 := Tryd.func152.trans (congrArg some (by kernel_rfl))
  f26 := Tryd.func153.trans (congrArg some (by kernel_rfl))
  f27 := Tryd.func45.trans (congrArg some (by kernel_rfl))
  f28 := Tryd.func81.trans (congrArg some (by kernel_rfl))
  f29 := Tryd.func105.trans (congrArg some (by kernel_rfl))
  f30 := Tryd.func117.trans (congrArg some (by kernel_rfl))
  f31 := Tryd.func118.trans (congrArg some (by kernel_rfl))
  f32 := Tryd.func119.trans (congrArg some (by kernel_rfl))
  f33 := Tryd.func120.trans (congrArg some (by kernel_rfl))
  f34 := Tryd.func132.trans (congrArg some (by kernel_rfl))
  f35 := Tryd.func133.trans (congrArg some (by kernel_rfl))
  f36 := Tryd.func134.trans (congrArg some (by kernel_rfl))
  f37 := Tryd.func135.trans (congrArg some (by kernel_rfl))
  f38 := Tryd.func136.trans (congrArg some (by kernel_rfl))
  f39 := Tryd.func149.trans (congrArg some (by kernel_rfl))
  f40 := Tryd.func150.trans (congrArg some (by kernel_rfl))
  t0 := Tryd.underlying0
  a0 := Tryd.isAgg0
  z0 := Tryd.sizeOf0
  v0 := Tryd.zeroValue0
  i0 := by kernel_rfl
  t2 := Tryd.underlying2
  a2 := Tryd.isAgg2
  z2 := Tryd.sizeOf2
  v2 := Tryd.zeroValue2
  i2 := by kernel_rfl
  t3 := Tryd.underlying3
  a3 := Tryd.isAgg3
  z3 := Tryd.sizeOf3
  v3 := Tryd.zeroValue3
  i3 := by kernel_rfl
  t4 := Tryd.underlying4
  a4 := Tryd.isAgg4
  z4 := Tryd.sizeOf4
  v4 := Tryd.zeroValue4
  i4 := by kernel_rfl
  t5 := Tryd.underlying5
  a5 := Tryd.isAgg5
  z5 := Tryd.sizeOf5
  v5 := Tryd.zeroValue5
  i5 := by kernel_rfl
  t9 := Tryd.underlying9
  a9 := Tryd.isAgg9
  z9 := Tryd.sizeOf9
  v9 := Tryd.zeroValue9
  i9 := by kernel_rfl
  t20 := Tryd.underlying20
  a20 := Tryd.isAgg20
  z20 := Tryd.sizeOf20
  v20 := Tryd.zeroValue20
  i20 := by kernel_rfl
  t21 := Tryd.underlying21
  a21 := Tryd.isAgg21
  z21 := Tryd.sizeOf21
  v21 := Tryd.zeroValue21
  i21 := by kernel_rfl
  t22 := Tryd.underlying178
  a22 := Tryd.isAgg178
  z22 := Tryd.sizeOf178
  v22 := Tryd.zeroValue178
  i22 := by kernel_rfl
  t24 := Tryd.underlying161
  a24 := Tryd.isAgg161
  z24 := Tryd.sizeOf161
  v24 := Tryd.zeroValue161
  i24 := by kernel_rfl
  t25 := Tryd.underlying179
  a25 := Tryd.isAgg179
  z25 := Tryd.sizeOf179
  v25 := Tryd.zeroValue179
  i25 := by kernel_rfl
  t34 := Tryd.underlying206
  a34 := Tryd.isAgg206
  z34 := Tryd.sizeOf206
  v34 := Tryd.zeroValue206
  i34 := by kernel_rfl
  c34 := by kernel_rfl
  t36 := Tryd.underlying184
  a36 := Tryd.isAgg184
  z36 := Tryd.sizeOf184
  v36 := Tryd.zeroValue184
  i36 := by kernel_rfl
  t37 := Tryd.underlying24
  a37 := Tryd.isAgg24
  z37 := Tryd.sizeOf24
  v37 := Tryd.zeroValue24
  i37 := by kernel_rfl
  t39 := Tryd.underlying208
  a39 := Tryd.isAgg208
  z39 := Tryd.sizeOf208
  v39 := Tryd.zeroValue208
  i39 := by kernel_rfl
  t44 := Tryd.underlying213
  a44 := Tryd.isAgg213
  z44 := Tryd.sizeOf213
  v44 := Tryd.zeroValue213
  i44 := by kernel_rfl
  t47 := Tryd.underlying182
  a47 := Tryd.isAgg182
  z47 := Tryd.sizeOf182
  v47 := Tryd.zeroValue182
  i47 := by kernel_rfl
  t48 := Tryd.underlying217
  a48 := Tryd.isAgg217
  z48 := Tryd.sizeOf217
  v48 := Tryd.zeroValue217
  i48 := by kernel_rfl
  t50 := Tryd.underlying219
  a50 := Tryd.isAgg219
  z50 := Tryd.sizeOf219
  v50 := Tryd.zeroValue219
  i50 := by kernel_rfl
  t52 := Tryd.underlying185
  a52 := Tryd.isAgg185
  z52 := Tryd.sizeOf185
  v52 := Tryd.zeroValue185
  i52 := by kernel_rfl
  t55 := Tryd.underlying188
  a55 := Tryd.isAgg188
  z55 := Tryd.sizeOf188
  v55 := Tryd.zeroValue188
  i55 := by kernel_rfl
  t59 := Tryd.underlying196
  a59 := Tryd.isAgg196
  z59 := Tryd.sizeOf196
  v59 := Tryd.zeroValue196
  i59 := by kernel_rfl
  t60 := Tryd.underlying197
  a60 := Tryd.isAgg197
  z60 := Tryd.sizeOf197
  v60 := Tryd.zeroValue197
  i60 := by kernel_rfl
  t61 := Tryd.underlying198
  a61 := Tryd.isAgg198
  z61 := Tryd.sizeOf198
  t65 := Tryd.underlying215
  a65 := Tryd.isAgg215
  z65 := Tryd.sizeOf215
  v65 := Tryd.zeroValue215
  i65 := by kernel_rfl
  t66 := Tryd.underlying216
  a66 := Tryd.isAgg216
  z66 := Tryd.sizeOf216
  v66 := Tryd.zeroValue216
  i66 := by kernel_rfl
  t67 := Tryd.underlying167
  a67 := Tryd.isAgg167
  z67 := Tryd.sizeOf167
  v67 := Tryd.zeroValue167
  i67 := by kernel_rfl
  g0 := by kernel_rfl
  m0 := by kernel_rfl
  g1 := by kernel_rfl
  m1 := by kernel_rfl
  g2 := by kernel_rfl
  m2 := by kernel_rfl
  g3 := by kernel_rfl
  m3 := by kernel_rfl
  g4 := by kernel_rfl
  m4 := by kernel_rfl }
open Go.RowKit in
/-- strconv.ParseUint(s, 10, 8), AT EVERY STRING THAT SPELLS A uint8 ('Lib.parseUintB 8 s.data.toList = .ok u'): u, AND NO ERROR. (LAID: no walk: one application.) -/
theorem Tryd.strconv_ParseUint_10_at8_ok (s : ByteArray) (hmax : s.size ≤ 9223372036854775806) (u : Nat) (h : Lib.parseUintB 8 s.data.toList = .ok u) (w : World) :
    Calls Tryd.prog 114 #[.string s, .int .i64 10, .int .i64 8] w fun e w' => e = .returned (.tuple #[.int .u64 u, .nilIface]) ∧ (w' = w ∨ w' = Lib.bytesWorld w 5 s) := Any.strconv_ParseUint_10_at8_ok Tryd.laysPu14 s hmax u h w
def Tryd.lays145_ren : Go.Shelf.Ren := ⟨fun | 145 => 66 | 220 => 97 | 219 => 113 | 217 => 124 | 225 => 125 | 224 => 126 | 267 => 127 | 266 => 141 | 314 => 142 | n => n, fun | 9 => 9 | 4 => 4 | 59 => 75 | 3 => 3 | 5 => 5 | 46 => 184 | 146 => 204 | 51 => 197 | n => n, fun | 1 => 1 | n => n⟩
theorem Tryd.lays145 : Go.Proofs.Lays.n145 Tryd.prog Tryd.lays145_ren := {
  mixed := by kernel_rfl
  f145 := Tryd.func66.trans (congrArg some (by kernel_rfl))
  f217 := Tryd.func124.trans (congrArg some (by kernel_rfl))
  f219 := Tryd.func113.trans (congrArg some (by kernel_rfl))
  f220 := Tryd.func97.trans (congrArg some (by kernel_rfl))
  f224 := Tryd.func126.trans (congrArg some (by kernel_rfl))
  f225 := Tryd.func125.trans (congrArg some (by kernel_rfl))
  f266 := Tryd.func141.trans (congrArg some (by kernel_rfl))
  f267 := Tryd.func127.trans (congrArg some (by kernel_rfl))
  f314 := Tryd.func142.trans (congrArg some (by kernel_rfl))
  t3 := Tryd.underlying3
  a3 := Tryd.isAgg3
  z3 := Tryd.sizeOf3
  v3 := Tryd.zeroValue3
  t4 := Tryd.underlying4
  a4 := Tryd.isAgg4
  z4 := Tryd.sizeOf4
  v4 := Tryd.zeroValue4
  t5 := Tryd.underlying5
  a5 := Tryd.isAgg5
  z5 := Tryd.sizeOf5
  v5 := Tryd.zeroValue5
  t9 := Tryd.underlying9
  a9 := Tryd.isAgg9
  z9 := Tryd.sizeOf9
  v9 := Tryd.zeroValue9
  t46 := Tryd.underlying184
  a46 := Tryd.isAgg184
  z46 := Tryd.sizeOf184
  v46 := Tryd.zeroValue184
  t51 := Tryd.underlying197
  a51 := Tryd.isAgg197
  z51 := Tryd.sizeOf197
  v51 := Tryd.zeroValue197
  t59 := Tryd.underlying75
  a59 := Tryd.isAgg75
  z59 := Tryd.sizeOf75
  v59 := Tryd.zeroValue75
  t146 := Tryd.underlying204
  a146 := Tryd.isAgg204
  z146 := Tryd.sizeOf204
  v146 := Tryd.zeroValue204
  g1 := by kernel_rfl }
open Go.RowKit Go.Lib in
/-- strings.Cut: "Cut slices s around the first instance of sep, returning the text before and after sep. The found result reports whether sep appears in s. If sep does not appear in s, cut returns s, "", false.": IT RETURNS 'Lib.cut s sep'; the world is as it was but for the count of draws. (LAID: no walk: one application.) -/
theorem Tryd.strings_Cut (s sep : ByteArray) (m : Int) (w : World) (hs : s.size < 4294967281) (hm : w.cell? ⟨1, 0, none⟩ = some (.int .i64 m)) :
    Calls Tryd.prog 66 #[.string s, .string sep] w fun e w' => e = .returned (.tuple #[.string ⟨(Lib.cut s.data.toList sep.data.toList).1.toArray⟩, .string ⟨(Lib.cut s.data.toList sep.data.toList).2.1.toArray⟩, .bool (Lib.cut s.data.toList sep.data.toList).2.2]) ∧ ∃ n, w' = w.drewN n := Any.strings_Cut Tryd.lays145 s sep m w hs hm
def Tryd.laysM145_ren : Go.Shelf.Ren := ⟨fun | 145 => 66 | 220 => 97 | 219 => 113 | 217 => 124 | 225 => 125 | 224 => 126 | 267 => 127 | 266 => 141 | 314 => 142 | n => n, fun | 9 => 9 | 4 => 4 | 59 => 75 | 3 => 3 | 5 => 5 | 46 => 184 | 146 => 204 | 51 => 197 | n => n, fun | 1 => 1 | n => n⟩
theorem Tryd.laysM145 : Go.Proofs.LaysM.n145 Tryd.prog Tryd.laysM145_ren := {
  mixed := by kernel_rfl
  f145 := Tryd.func66.trans (congrArg some (by kernel_rfl))
  f217 := Tryd.func124.trans (congrArg some (by kernel_rfl))
  f219 := Tryd.func113.trans (congrArg some (by kernel_rfl))
  f220 := Tryd.func97.trans (congrArg some (by kernel_rfl))
  f224 := Tryd.func126.trans (congrArg some (by kernel_rfl))
  f225 := Tryd.func125.trans (congrArg some (by kernel_rfl))
  f266 := Tryd.func141.trans (congrArg some (by kernel_rfl))
  f267 := Tryd.func127.trans (congrArg some (by kernel_rfl))
  f314 := Tryd.func142.trans (congrArg some (by kernel_rfl))
  t3 := Tryd.underlying3
  a3 := Tryd.isAgg3
  z3 := Tryd.sizeOf3
  v3 := Tryd.zeroValue3
  t4 := Tryd.underlying4
  a4 := Tryd.isAgg4
  z4 := Tryd.sizeOf4
  v4 := Tryd.zeroValue4
  t5 := Tryd.underlying5
  a5 := Tryd.isAgg5
  z5 := Tryd.sizeOf5
  v5 := Tryd.zeroValue5
  t9 := Tryd.underlying9
  a9 := Tryd.isAgg9
  z9 := Tryd.sizeOf9
  v9 := Tryd.zeroValue9
  t46 := Tryd.underlying184
  a46 := Tryd.isAgg184
  z46 := Tryd.sizeOf184
  v46 := Tryd.zeroValue184
  t51 := Tryd.underlying197
  a51 := Tryd.isAgg197
  z51 := Tryd.sizeOf197
  v51 := Tryd.zeroValue197
  t59 := Tryd.underlying75
  a59 := Tryd.isAgg75
  z59 := Tryd.sizeOf75
  v59 := Tryd.zeroValue75
  t146 := Tryd.underlying204
  a146 := Tryd.isAgg204
  z146 := Tryd.sizeOf204
  v146 := Tryd.zeroValue204
  g1 := by kernel_rfl
  i3 := by kernel_rfl
  i4 := by kernel_rfl
  i5 := by kernel_rfl
  i9 := by kernel_rfl
  i46 := by kernel_rfl
  i51 := by kernel_rfl
  i59 := by kernel_rfl
  i146 := by kernel_rfl
  m1 := by kernel_rfl
  s1_3 := fun w h => Go.Proofs.cell_of_shapedOpen_int (zero := #[.int .i64 0]) (t := 3) h (of_decide_eq_true (by kernel_rfl)) (by kernel_rfl) rfl (by kernel_rfl) (by kernel_rfl) Tryd.underlying3 }
def Tryd.lays315_ren : Go.Shelf.Ren := ⟨fun | 315 => 106 | n => n, fun | 9 => 9 | 40 => 149 | 4 => 4 | 3 => 3 | 0 => 0 | 21 => 21 | n => n, fun | n => n⟩
theorem Tryd.lays315 : Go.Proofs.Lays.n315 Tryd.prog Tryd.lays315_ren := {
  mixed := by kernel_rfl
  f315 := Tryd.func106.trans (congrArg some (by kernel_rfl))
  t0 := Tryd.underlying0
  a0 := Tryd.isAgg0
  z0 := Tryd.sizeOf0
  v0 := Tryd.zeroValue0
  t3 := Tryd.underlying3
  a3 := Tryd.isAgg3
  z3 := Tryd.sizeOf3
  v3 := Tryd.zeroValue3
  t4 := Tryd.underlying4
  a4 := Tryd.isAgg4
  z4 := Tryd.sizeOf4
  v4 := Tryd.zeroValue4
  t9 := Tryd.underlying9
  a9 := Tryd.isAgg9
  z9 := Tryd.sizeOf9
  v9 := Tryd.zeroValue9
  t21 := Tryd.underlying21
  a21 := Tryd.isAgg21
  z21 := Tryd.sizeOf21
  v21 := Tryd.zeroValue21
  t40 := Tryd.underlying149
  a40 := Tryd.isAgg149
  z40 := Tryd.sizeOf149
  v40 := Tryd.zeroValue149 }
open Go.RowKit Go.Lib in
theorem Tryd.strings_indexFunc (g : Nat) (lb : Array Value) (eg : ∀ args w, (callFunc g args).run Tryd.prog w = .ok (.enter g args) w) (p : Nat → Bool) (truth : Bool) (s : ByteArray) (w : World) (hp : PredAt Tryd.prog g lb encR p w) :
    Calls Tryd.prog 106 #[.string s, .func (.func g) #[] lb, .bool truth] w fun e w' => e = .returned (.int .i64 (Lib.idxFunc p truth s)) ∧ Below w.heap.size w w' := Any.strings_indexFunc Tryd.lays315 g lb eg p truth s w hp
def Tryd.lays99_ren : Go.Shelf.Ren := ⟨fun | 99 => 115 | 206 => 130 | n => n, fun | 9 => 9 | 4 => 4 | 3 => 3 | n => n, fun | n => n⟩
theorem Tryd.lays99 : Go.Proofs.Lays.n99 Tryd.prog Tryd.lays99_ren := {
  mixed := by kernel_rfl
  f99 := Tryd.func115.trans (congrArg some (by kernel_rfl))
  f206 := Tryd.func130.trans (congrArg some (by kernel_rfl))
  t3 := Tryd.underlying3
  a3 := Tryd.isAgg3
  z3 := Tryd.sizeOf3
  v3 := Tryd.zeroValue3
  t4 := Tryd.underlying4
  a4 := Tryd.isAgg4
  z4 := Tryd.sizeOf4
  v4 := Tryd.zeroValue4
  t9 := Tryd.underlying9
  a9 := Tryd.isAgg9
  z9 := Tryd.sizeOf9
  v9 := Tryd.zeroValue9 }
open Go.RowKit Go.Lib in
/-- strings.HasPrefix: "HasPrefix reports whether the string s begins with prefix.": IT RETURNS 'Lib.hasPrefix s prefix'; the world is as it was. (LAID: no walk: one application.) -/
theorem Tryd.strings_HasPrefix (s p : ByteArray) (w : World) :
    Calls Tryd.prog 115 #[.string s, .string p] w fun e w' => e = .returned (.bool (Lib.hasPrefix s.data.toList p.data.toList)) ∧ w' = w := Any.strings_HasPrefix Tryd.lays99 s p w
end Go.Proofs

/- The walks of numeric.Text at every offset, numeric.Parse, and of the reference's Text and Parse (chapter 20). -/
namespace Go.Proofs.YtlideagcmhlkeaaDoor
open Go.RowKit
set_option linter.unusedVariables false

theorem gSyn : Tryd.prog.globalNamed "strconv.ErrSyntax" = some 3 := by kernel_rfl
theorem var_below {P : Program} {B g : Nat} {W W' : World} {n : String} {cs : Array Value} (h : Below B W W') (hg : P.globalNamed n = some g) (hgB : g < B) (hv : W.var? P n = some cs) : W'.var? P n = some cs := by
  unfold World.var? at hv ⊢
  simp only [hg, Option.bind_some] at hv ⊢
  rw [h.block g hgB]
  exact hv
/-- the one variable that chapter 20 reads: the error of a number that is none -/
structure Vars (w : World) : Prop where
  syn : ∃ tp p, w.var? Tryd.prog "strconv.ErrSyntax" = some #[.iface tp p]
  big : 3 < w.heap.size
theorem Vars.below {w w' : World} (h : Vars w) (hb : Below w.heap.size w w') : Vars w' := by
  obtain ⟨tp, p, hs⟩ := h.syn
  exact ⟨⟨tp, p, var_below hb gSyn h.big hs⟩, Nat.lt_of_lt_of_le h.big hb.size⟩

set_option maxRecDepth 100000 in
set_option maxHeartbeats 400000 in
theorem ntext_any (x : Int) (w : World) (h0 : -9223372036854775808 ≤ x) (h1 : x ≤ 9223372036854775807) :
    Calls Tryd.prog 24 #[.int .i64 x] w fun e w' => e = .returned (.string (str (P20.text x))) ∧ Below w.heap.size w w' := by
  by_cases hr : x ≤ -86400 ∨ 86400 ≤ x
  · rw [P20.text_out hr]
    rcases hr with h | h
    · go_enter Tryd.func24, Tryd.ntmps24
      go_wp2_with fail
      go_step3
      go_wp2_with fail
      try rw [Exit.noGoto_ret]
      go_ret
      exact ⟨rfl, Below.refl _ _⟩
    · have h' : ¬ x ≤ -86400 := by omega
      go_enter Tryd.func24, Tryd.ntmps24
      go_wp2_with fail
      go_step3
      go_wp2_with fail
      try rw [Exit.noGoto_ret]
      go_ret
      exact ⟨rfl, Below.refl _ _⟩
  · rw [P20.text_in (by omega) (by omega)]
    by_cases hn : x < 0
    · rw [if_pos hn]; exact ntext_in 45 x x.natAbs w (by omega) (.inr ⟨hn, by omega, rfl⟩)
    · rw [if_neg hn]; exact ntext_in 43 x x.natAbs w (by omega) (.inl ⟨by omega, rfl⟩)

end Go.Proofs.YtlideagcmhlkeaaDoor

/- The walk of numeric.Parse (chapter 20). -/
namespace Go.Proofs.YtlideagcmhlkeaaDoor
open Go.RowKit
set_option linter.unusedVariables false

theorem puint_ok (d : ByteArray) (u : Nat) (w : World) (hd : d.size ≤ 2) (h : Lib.parseUintB 8 (P4.bl d) = .ok u) :
    Calls Tryd.prog 114 #[.string d, .int .i64 10, .int .i64 8] w fun e w' => e = .returned (.tuple #[.int .u64 (u : Int), .nilIface]) ∧ Below w.heap.size w w' := by
  refine (Tryd.strconv_ParseUint_10_at8_ok d (by omega) u h w).mono ?_
  rintro e w' ⟨rfl, hw⟩
  refine ⟨rfl, ?_⟩
  rcases hw with rfl | rfl
  · exact Below.refl _ _
  · exact Lib.bytesWorld_below _ _ _
theorem puint_no (d : ByteArray) (w : World) (hd : d.size ≤ 2) (h : Lib.parseUintB 8 (P4.bl d) = Lib.parseUintB 8 []) (hv : Vars w) :
    Calls Tryd.prog 114 #[.string d, .int .i64 10, .int .i64 8] w fun e w' => (∃ N, e = .returned (.tuple #[.int .u64 0, .iface 208 (.pointer (some ⟨N, 0, none⟩))])) ∧ Below w.heap.size w w' := by
  obtain ⟨tp, p, hs⟩ := hv.syn
  refine (Any.strconv_ParseUint_10_at8_syntax_var Tryd.laysPu14 d (by omega) h tp p w hs).mono ?_
  rintro e w' ⟨N, rfl, _, _, hb⟩
  exact ⟨⟨N, rfl⟩, hb⟩
theorem eq_b (a b : ByteArray) (h : ¬ a = b) : (a.toList == b.toList) = false := by
  rw [beq_eq_false_iff_ne]
  intro q
  rw [ByteArray.toList_eq, ByteArray.toList_eq] at q
  exact h (ByteArray.ext (Array.toList_inj.mp q))
theorem ne_b (a b : ByteArray) (h : ¬ a = b) : (a.toList != b.toList) = true := by rw [bne, eq_b a b h]; rfl
theorem str_ne {l : List UInt8} (h : 0 < l.length) : (str l).toList.isEmpty = false ∧ ¬ (str l).toList = [] := by
  have e : (str l).toList = l := by rw [ByteArray.toList_eq]; rfl
  rw [e]
  cases l with
  | nil => simp at h
  | cons a l => exact ⟨rfl, by simp⟩
theorem s_ne {s : ByteArray} (h : 0 < s.size) : s.toList.isEmpty = false ∧ ¬ s.toList = [] := str_ne (l := P4.bl s) (by rw [P4.bl_len]; exact h)
theorem idx3 (k v : Int) (h : (k = 0 ∧ v = 3600) ∨ (k = 1 ∧ v = 60) ∨ (k = 2 ∧ v = 1)) : ∀ w : World, (Instr.index 114 (.agg #[.int .i64 3600, .int .i64 60, .int .i64 1]) (.int .i64 k)).run Tryd.prog w = .ok (.int .i64 v) w := by
  intro w
  rcases h with ⟨rfl, rfl⟩ | ⟨rfl, rfl⟩ | ⟨rfl, rfl⟩
  · kernel_rfl
  · kernel_rfl
  · kernel_rfl
/-- a part of the string, read -/
theorem part_cases (s : ByteArray) (k : Nat) (j : Nat) (h1 : 1 + 2 * k < s.size) (hj : (j = 3 + 2 * k ∧ 3 + 2 * k ≤ s.size) ∨ (j = s.size ∧ s.size ≤ 3 + 2 * k)) :
    P4.bl (s.extract (1 + 2 * k) j) = ((P4.bl s).drop (1 + 2 * k)).take 2 ∧ (s.extract (1 + 2 * k) j).size ≤ 2 ∧ (P4.bl s).drop (1 + 2 * k) ≠ [] ∧
    ((∃ u : Nat, Lib.parseUintB 8 (P4.bl (s.extract (1 + 2 * k) j)) = .ok u ∧ P20.chunk false (((P4.bl s).drop (1 + 2 * k)).take 2) = some (u : Int) ∧ u ≤ 99) ∨
      (Lib.parseUintB 8 (P4.bl (s.extract (1 + 2 * k) j)) = Lib.parseUintB 8 [] ∧ P20.chunk false (((P4.bl s).drop (1 + 2 * k)).take 2) = none)) := by
  have hl := P4.bl_len s
  have hb := P20.chunk_bl s (1 + 2 * k) j (by omega)
  have hz : (s.extract (1 + 2 * k) j).size = j - (1 + 2 * k) := by rw [ByteArray.size_extract]; omega
  refine ⟨hb, by omega, ?_, ?_⟩
  · intro q
    have := congrArg List.length q
    rw [List.length_drop, List.length_nil] at this
    omega
  · rw [← hb]
    exact P20.uint8_cases _ (by rw [P4.bl_len]; omega)

set_option maxRecDepth 100000 in
set_option maxHeartbeats 8000000 in
theorem nparse_any (s : ByteArray) (w : World) (hs : s.size ≤ 1000000) (hv : Vars w) :
    Calls Tryd.prog 98 #[.string s] w fun e w' => e = .returned (.tuple #[.int .i64 (P20.parse (P4.bl s)).1, .int .i64 (P20.parse (P4.bl s)).2]) ∧ Below w.heap.size w w' := by
  rw [← P20.parse_loose]
  obtain ⟨R, hR⟩ : ∃ R, R = P20.parseB false (P4.bl s) := ⟨_, rfl⟩
  rw [← hR]
  have HR : Hid (P20.fin (P4.bl s) (P20.pv false P20.units 0 ((P4.bl s).drop (1 + 2 * 0))) = R) := Lib.hid hR.symm
  clear hR
  have hsz : (s.size : Int) ≤ 1000000 := by omega
  go_enter Tryd.func98, Tryd.ntmps98
  go_upto_block 0 with (fail)
  go_cut [4] (fun s4 wx => ∃ acc : Int, s4 = .int .i64 acc ∧ 0 ≤ acc ∧ acc ≤ 99 * 3661 ∧ Hid (P20.fin (P4.bl s) (some acc) = R) ∧ Below w.heap.size w wx)
  case first =>
    go_wp2_with fail
    go_loopw [4, 10] (fun s4 i wr => ∃ k acc : Int, (k = 0 ∨ k = 1 ∨ k = 2 ∨ k = 3) ∧ i = .int .i64 k ∧ s4 = .int .i64 acc ∧ 0 ≤ acc ∧ acc ≤ 99 * 3661 ∧ (k = 0 → acc = 0) ∧ (k = 1 → acc ≤ 99 * 3600) ∧ (k = 2 → acc ≤ 99 * 3660) ∧ Hid (P20.fin (P4.bl s) (P20.pv false (P20.units.drop k.toNat) acc ((P4.bl s).drop (1 + 2 * k.toNat))) = R) ∧ Below w.heap.size w wr) (fun _ i _ => 3 - (intOf i).toNat)
    case atStart => exact ⟨0, 0, .inl rfl, rfl, rfl, by omega, by omega, fun _ => rfl, by omega, by omega, HR, Below.refl _ _⟩
    case round =>
      clear HR
      obtain ⟨k, acc, hk, rfl, rfl, ha0, ha1, hk0, hk1, hk2, HR, hb⟩ := hrel
      rcases hk with rfl | rfl | rfl | rfl
      · have hbd : acc ≤ 0 := by have := hk0 rfl; omega
        have hv1 := hv.below hb
        clear hk0 hk1 hk2
        have hix := idx3 0 3600 (by omega)
        by_cases h1 : 1 < s.size
        · have h1i : (1 : Int) < (s.size : Int) := by omega
          obtain ⟨hbl, hD, hne, hcs⟩ := part_cases s 0 ((min 3 (s.size : Int)).toNat) h1 (by omega)
          have HN := Lib.hid hne
          rcases hcs with ⟨u, hu, hc, hu9⟩ | ⟨hu, hc⟩
          · have HG : Hid (P20.fin (P4.bl s) (P20.pv false (P20.units.drop 1) (acc + u * 3600) ((P4.bl s).drop (1 + 2 * 1))) = R) := by
              have q := P20.pv_go false 3600 (P20.units.drop 1) acc _ hne u hc
              rw [List.drop_drop] at q
              exact Lib.hid ((congrArg _ q.symm).trans HR.out)
            have cU : Hid (∀ W, Calls Tryd.prog 114 #[.string (s.extract 1 (min 3 (s.size : Int)).toNat), .int .i64 10, .int .i64 8] W fun e w' => e = .returned (.tuple #[.int .u64 (u : Int), .nilIface]) ∧ Below W.heap.size W w') := fun W => puint_ok _ u W hD hu
            have hui : (u : Int) ≤ 99 := by omega
            clear HR hbl hD hne hu hc hu9 h1 HN
            go_wp2_with fail
            refine (cU.out _).mono ?_
            rintro e w1 ⟨rfl, hc1⟩
            have hb2 := hb.trans (hc1.mono hb.size)
            clear hc1 hb cU
            go_wp2_with fail
            go_roundw
            case rel => exact ⟨1, acc + u * 3600, by omega, by go_num, by go_num, by omega, by omega, by omega, by omega, by omega, HG, hb2⟩
            case measure => simp [intOf]
          · have HG : R = (0, 5) := by
              have q := P20.pv_stop false 3600 (P20.units.drop 1) acc _ hne hc
              exact (HR.out.symm.trans (congrArg _ q)).trans rfl
            have HG' := Lib.hid HG
            have cU : Hid (∀ W, Vars W → Calls Tryd.prog 114 #[.string (s.extract 1 (min 3 (s.size : Int)).toNat), .int .i64 10, .int .i64 8] W fun e w' => (∃ N, e = .returned (.tuple #[.int .u64 0, .iface 208 (.pointer (some ⟨N, 0, none⟩))])) ∧ Below W.heap.size W w') := fun W h => puint_no _ W hD hu h
            clear HR hbl hD hne hu hc h1 HN HG
            go_wp2_with fail
            refine (cU.out _ hv1).mono ?_
            rintro e w1 ⟨⟨N, rfl⟩, hc1⟩
            have hb2 := hb.trans (hc1.mono hb.size)
            clear hc1 hb cU
            go_wp2_with fail
            go_ret2
            exact ⟨by rw [HG'.out]; rfl, hb2⟩
        · have h1i : (s.size : Int) ≤ 1 := by omega
          have HG : Hid (P20.fin (P4.bl s) (some acc) = R) := by
            have q : (P4.bl s).drop (1 + 2 * 0) = [] := List.drop_eq_nil_of_le (by rw [P4.bl_len]; omega)
            have q2 : P20.pv false (P20.units.drop 0) acc ((P4.bl s).drop (1 + 2 * 0)) = some acc := by rw [q]; exact P20.pv_nil _ _ _
            exact Lib.hid ((congrArg _ q2.symm).trans HR.out)
          clear HR h1
          go_wp2_with fail
          go_meet
          exact ⟨acc, rfl, ha0, ha1, HG, hb⟩
      · have hbd : acc ≤ 356400 := by exact hk1 rfl
        have hv1 := hv.below hb
        clear hk0 hk1 hk2
        have hix := idx3 1 60 (by omega)
        by_cases h1 : 3 < s.size
        · have h1i : (3 : Int) < (s.size : Int) := by omega
          obtain ⟨hbl, hD, hne, hcs⟩ := part_cases s 1 ((min 5 (s.size : Int)).toNat) h1 (by omega)
          have HN := Lib.hid hne
          rcases hcs with ⟨u, hu, hc, hu9⟩ | ⟨hu, hc⟩
          · have HG : Hid (P20.fin (P4.bl s) (P20.pv false (P20.units.drop 2) (acc + u * 60) ((P4.bl s).drop (1 + 2 * 2))) = R) := by
              have q := P20.pv_go false 60 (P20.units.drop 2) acc _ hne u hc
              rw [List.drop_drop] at q
              exact Lib.hid ((congrArg _ q.symm).trans HR.out)
            have cU : Hid (∀ W, Calls Tryd.prog 114 #[.string (s.extract 3 (min 5 (s.size : Int)).toNat), .int .i64 10, .int .i64 8] W fun e w' => e = .returned (.tuple #[.int .u64 (u : Int), .nilIface]) ∧ Below W.heap.size W w') := fun W => puint_ok _ u W hD hu
            have hui : (u : Int) ≤ 99 := by omega
            clear HR hbl hD hne hu hc hu9 h1 HN
            go_wp2_with fail
            refine (cU.out _).mono ?_
            rintro e w1 ⟨rfl, hc1⟩
            have hb2 := hb.trans (hc1.mono hb.size)
            clear hc1 hb cU
            go_wp2_with fail
            go_roundw
            case rel => exact ⟨2, acc + u * 60, by omega, by go_num, by go_num, by omega, by omega, by omega, by omega, by omega, HG, hb2⟩
            case measure => simp [intOf]
          · have HG : R = (0, 5) := by
              have q := P20.pv_stop false 60 (P20.units.drop 2) acc _ hne hc
              exact (HR.out.symm.trans (congrArg _ q)).trans rfl
            have HG' := Lib.hid HG
            have cU : Hid (∀ W, Vars W → Calls Tryd.prog 114 #[.string (s.extract 3 (min 5 (s.size : Int)).toNat), .int .i64 10, .int .i64 8] W fun e w' => (∃ N, e = .returned (.tuple #[.int .u64 0, .iface 208 (.pointer (some ⟨N, 0, none⟩))])) ∧ Below W.heap.size W w') := fun W h => puint_no _ W hD hu h
            clear HR hbl hD hne hu hc h1 HN HG
            go_wp2_with fail
            refine (cU.out _ hv1).mono ?_
            rintro e w1 ⟨⟨N, rfl⟩, hc1⟩
            have hb2 := hb.trans (hc1.mono hb.size)
            clear hc1 hb cU
            go_wp2_with fail
            go_ret2
            exact ⟨by rw [HG'.out]; rfl, hb2⟩
        · have h1i : (s.size : Int) ≤ 3 := by omega
          have HG : Hid (P20.fin (P4.bl s) (some acc) = R) := by
            have q : (P4.bl s).drop (1 + 2 * 1) = [] := List.drop_eq_nil_of_le (by rw [P4.bl_len]; omega)
            have q2 : P20.pv false (P20.units.drop 1) acc ((P4.bl s).drop (1 + 2 * 1)) = some acc := by rw [q]; exact P20.pv_nil _ _ _
            exact Lib.hid ((congrArg _ q2.symm).trans HR.out)
          clear HR h1
          go_wp2_with fail
          go_meet
          exact ⟨acc, rfl, ha0, ha1, HG, hb⟩
      · have hbd : acc ≤ 362340 := by exact hk2 rfl
        have hv1 := hv.below hb
        clear hk0 hk1 hk2
        have hix := idx3 2 1 (by omega)
        by_cases h1 : 5 < s.size
        · have h1i : (5 : Int) < (s.size : Int) := by omega
          obtain ⟨hbl, hD, hne, hcs⟩ := part_cases s 2 ((min 7 (s.size : Int)).toNat) h1 (by omega)
          have HN := Lib.hid hne
          rcases hcs with ⟨u, hu, hc, hu9⟩ | ⟨hu, hc⟩
          · have HG : Hid (P20.fin (P4.bl s) (P20.pv false (P20.units.drop 3) (acc + u * 1) ((P4.bl s).drop (1 + 2 * 3))) = R) := by
              have q := P20.pv_go false 1 (P20.units.drop 3) acc _ hne u hc
              rw [List.drop_drop] at q
              exact Lib.hid ((congrArg _ q.symm).trans HR.out)
            have cU : Hid (∀ W, Calls Tryd.prog 114 #[.string (s.extract 5 (min 7 (s.size : Int)).toNat), .int .i64 10, .int .i64 8] W fun e w' => e = .returned (.tuple #[.int .u64 (u : Int), .nilIface]) ∧ Below W.heap.size W w') := fun W => puint_ok _ u W hD hu
            have hui : (u : Int) ≤ 99 := by omega
            clear HR hbl hD hne hu hc hu9 h1 HN
            go_wp2_with fail
            refine (cU.out _).mono ?_
            rintro e w1 ⟨rfl, hc1⟩
            have hb2 := hb.trans (hc1.mono hb.size)
            clear hc1 hb cU
            go_wp2_with fail
            go_roundw
            case rel => exact ⟨3, acc + u * 1, by omega, by go_num, by go_num, by omega, by omega, by omega, by omega, by omega, HG, hb2⟩
            case measure => simp [intOf]
          · have HG : R = (0, 5) := by
              have q := P20.pv_stop false 1 (P20.units.drop 3) acc _ hne hc
              exact (HR.out.symm.trans (congrArg _ q)).trans rfl
            have HG' := Lib.hid HG
            have cU : Hid (∀ W, Vars W → Calls Tryd.prog 114 #[.string (s.extract 5 (min 7 (s.size : Int)).toNat), .int .i64 10, .int .i64 8] W fun e w' => (∃ N, e = .returned (.tuple #[.int .u64 0, .iface 208 (.pointer (some ⟨N, 0, none⟩))])) ∧ Below W.heap.size W w') := fun W h => puint_no _ W hD hu h
            clear HR hbl hD hne hu hc h1 HN HG
            go_wp2_with fail
            refine (cU.out _ hv1).mono ?_
            rintro e w1 ⟨⟨N, rfl⟩, hc1⟩
            have hb2 := hb.trans (hc1.mono hb.size)
            clear hc1 hb cU
            go_wp2_with fail
            go_ret2
            exact ⟨by rw [HG'.out]; rfl, hb2⟩
        · have h1i : (s.size : Int) ≤ 5 := by omega
          have HG : Hid (P20.fin (P4.bl s) (some acc) = R) := by
            have q : (P4.bl s).drop (1 + 2 * 2) = [] := List.drop_eq_nil_of_le (by rw [P4.bl_len]; omega)
            have q2 : P20.pv false (P20.units.drop 2) acc ((P4.bl s).drop (1 + 2 * 2)) = some acc := by rw [q]; exact P20.pv_nil _ _ _
            exact Lib.hid ((congrArg _ q2.symm).trans HR.out)
          clear HR h1
          go_wp2_with fail
          go_meet
          exact ⟨acc, rfl, ha0, ha1, HG, hb⟩
      · have HG : Hid (P20.fin (P4.bl s) (some acc) = R) := Lib.hid HR.out
        clear HR hk0 hk1 hk2
        go_wp2_with fail
        go_meet
        exact ⟨acc, rfl, ha0, ha1, HG, hb⟩
  case rest =>
    obtain ⟨acc, rfl, ha0, ha1, HG, hb⟩ := hcut
    clear HR
    have cH := fun W => Tryd.strings_HasPrefix s ⟨#[45]⟩ W
    by_cases hz : s.size = 0
    · have hP : R = (0, 5) := by
        have : P4.bl s = [] := List.length_eq_zero_iff.mp (by rw [P4.bl_len]; exact hz)
        rw [← HG.out, this]; exact P20.fin_empty _
      have hnil : s.toList = [] := by rw [ByteArray.toList_eq]; exact List.length_eq_zero_iff.mp (by have := P4.bl_len s; rw [← this] at hz; exact hz)
      have HP := Lib.hid hP
      have CH := Lib.hid cH
      clear hP HG hz cH
      generalize Lib.hasPrefix s.data.toList (⟨#[45]⟩ : ByteArray).data.toList = B at CH
      cases B with
      | true =>
        go_wp2_with fail
        refine (CH.out _).mono ?_
        rintro e w1 ⟨rfl, rfl⟩
        go_wp2_with fail
        go_ret2
        exact ⟨by rw [HP.out]; rfl, hb⟩
      | false =>
        go_wp2_with fail
        refine (CH.out _).mono ?_
        rintro e w1 ⟨rfl, rfl⟩
        go_wp2_with fail
        go_ret2
        exact ⟨by rw [HP.out]; rfl, hb⟩
    · obtain ⟨n1, n2⟩ := s_ne (s := s) (by omega)
      have hne : P4.bl s ≠ [] := fun q => hz (by rw [← P4.bl_len, q]; rfl)
      have hm := fun q => P20.sgn_minus (s := P4.bl s) acc q
      have hp := fun q => P20.sgn_plus (s := P4.bl s) acc q
      have CH := Lib.hid cH
      clear hz cH
      generalize hB : Lib.hasPrefix s.data.toList (⟨#[45]⟩ : ByteArray).data.toList = B at CH
      cases B with
      | true =>
        have hy := hm hB
        have cT : Hid (∀ W, Calls Tryd.prog 24 #[.int .i64 (-acc)] W fun e w' => e = .returned (.string (str (P20.text (-acc)))) ∧ Below W.heap.size W w') := fun W => ntext_any (-acc) W (by omega) (by omega)
        by_cases he : P20.text (-acc) = P4.bl s
        · have HP := Lib.hid (HG.out.symm.trans (P20.fin_eq hne hy he))
          have hse : str (P20.text (-acc)) = s := by rw [he]; rfl
          rw [hse] at cT
          clear hm hp hne HG hB hy he hse
          go_wp2_with fail
          refine (CH.out _).mono ?_
          rintro e w1 ⟨rfl, rfl⟩
          go_wp2_with fail
          refine (cT.out _).mono ?_
          rintro e w2 ⟨rfl, hc2⟩
          have hb2 := hb.trans (hc2.mono hb.size)
          clear hc2 hb cT CH
          go_wp2_with fail
          go_ret2
          exact ⟨by rw [HP.out]; rfl, hb2⟩
        · have HP := Lib.hid (HG.out.symm.trans (P20.fin_ne hy he))
          have hse : ¬ str (P20.text (-acc)) = s := fun q => he (by rw [← q]; rfl)
          have e1 := eq_b _ _ hse
          have e2 := ne_b _ _ hse
          clear hm hp hne HG hB hy he hse
          generalize str (P20.text (-acc)) = T at cT e1 e2
          go_wp2_with fail
          refine (CH.out _).mono ?_
          rintro e w1 ⟨rfl, rfl⟩
          go_wp2_with fail
          refine (cT.out _).mono ?_
          rintro e w2 ⟨rfl, hc2⟩
          have hb2 := hb.trans (hc2.mono hb.size)
          clear hc2 hb cT CH
          go_wp2_with fail
          go_ret2
          exact ⟨by rw [HP.out]; rfl, hb2⟩
      | false =>
        have hy := hp hB
        have cT : Hid (∀ W, Calls Tryd.prog 24 #[.int .i64 acc] W fun e w' => e = .returned (.string (str (P20.text acc))) ∧ Below W.heap.size W w') := fun W => ntext_any acc W (by omega) (by omega)
        by_cases he : P20.text acc = P4.bl s
        · have HP := Lib.hid (HG.out.symm.trans (P20.fin_eq hne hy he))
          have hse : str (P20.text acc) = s := by rw [he]; rfl
          rw [hse] at cT
          clear hm hp hne HG hB hy he hse
          go_wp2_with fail
          refine (CH.out _).mono ?_
          rintro e w1 ⟨rfl, rfl⟩
          go_wp2_with fail
          refine (cT.out _).mono ?_
          rintro e w2 ⟨rfl, hc2⟩
          have hb2 := hb.trans (hc2.mono hb.size)
          clear hc2 hb cT CH
          go_wp2_with fail
          go_ret2
          exact ⟨by rw [HP.out]; rfl, hb2⟩
        · have HP := Lib.hid (HG.out.symm.trans (P20.fin_ne hy he))
          have hse : ¬ str (P20.text acc) = s := fun q => he (by rw [← q]; rfl)
          have e1 := eq_b _ _ hse
          have e2 := ne_b _ _ hse
          clear hm hp hne HG hB hy he hse
          generalize str (P20.text acc) = T at cT e1 e2
          go_wp2_with fail
          refine (CH.out _).mono ?_
          rintro e w1 ⟨rfl, rfl⟩
          go_wp2_with fail
          refine (cT.out _).mono ?_
          rintro e w2 ⟨rfl, hc2⟩
          have hb2 := hb.trans (hc2.mono hb.size)
          clear hc2 hb cT CH
          go_wp2_with fail
          go_ret2
          exact ⟨by rw [HP.out]; rfl, hb2⟩
end Go.Proofs.YtlideagcmhlkeaaDoor

/- The walk of zones (the reference of chapter 14). -/
namespace Go.Proofs.YtlideagcmhlkeaaDoor
open Go.RowKit Go.Lib
set_option linter.unusedVariables false
set_option linter.unusedSimpArgs false
attribute [local go_sem high] neq_era neq_rule neq_link

set_option maxRecDepth 100000 in
set_option maxHeartbeats 8000000 in
theorem zones14_any (Z Y : List ZV) (A B : Option Addr) (c d : Nat) (w : World) (hZ : CellsIn 2 ZV.cells w A Z) (hY : CellsIn 2 ZV.cells w B Y) (eZ : ∀ z ∈ Z, CellsIn 13 EV.cells w z.A z.eras) (eY : ∀ z ∈ Y, CellsIn 13 EV.cells w z.A z.eras) (hl : Z.length ≤ 1000) (hm : ∀ z ∈ Z, z.eras.length ≤ 1000) :
    Calls Tryd.prog 56 #[.slice A Z.length c, .slice B Y.length d] w fun e W => ∃ R : Bool, (R = true ↔ zSame14 Z Y) ∧ e = .returned (.bool R) ∧ Below w.heap.size w W := by
  by_cases hlen : Z.length = Y.length
  rotate_left
  · have hbn : ((Z.length : Int) != (Y.length : Int)) = true := by rw [bne_iff_ne]; omega
    have HL := Lib.hid hlen
    clear hZ hY eZ eY hlen hl hm
    go_enter Tryd.func56, Tryd.ntmps56
    go_wp2_with fail
    go_ret
    exact ⟨false, ⟨fun h => (by cases h), fun h => absurd h.1 HL.out⟩, rfl, Below.refl _ _⟩
  have hbn : ((Z.length : Int) != (Y.length : Int)) = false := by rw [bne_eq_false_iff_eq]; omega
  have HL := Lib.hid hlen; have HZ := Lib.hid hZ; have HY := Lib.hid hY; have EZ := Lib.hid eZ; have EY := Lib.hid eY; have HM := Lib.hid hm
  have hl2 : (Z.length : Int) ≤ 1000 := by omega
  have hly : (Y.length : Int) = (Z.length : Int) := by omega
  clear hZ hY eZ eY hlen hm
  go_enter Tryd.func56, Tryd.ntmps56
  go_wp2_with fail
  go_loopw [5] (fun i W => ∃ k : Nat, k ≤ Z.length ∧ i = .int .i64 k ∧ Below w.heap.size w W ∧ Hid (zTo14 Z Y k)) (fun i _ => Z.length - (intOf i).toNat)
  case atStart => exact ⟨0, Nat.zero_le _, rfl, Below.refl _ _, Lib.hid (fun i z y h => by omega)⟩
  case round =>
    obtain ⟨k, hk, rfl, hbw, hto⟩ := hrel
    have HBW := Lib.hid hbw
    clear hbw
    by_cases hlt : k < Z.length
    · obtain ⟨z, hz⟩ : ∃ z, Z[k]? = some z := ⟨_, List.getElem?_eq_getElem hlt⟩
      obtain ⟨y, hy⟩ : ∃ y, Y[k]? = some y := ⟨_, List.getElem?_eq_getElem (by have := HL.out; omega)⟩
      obtain ⟨gz, oz, hzA, hgz, hzt⟩ := (HZ.out.below HBW.out) k z hz
      obtain ⟨gy, oy, hyA, hgy, hyt⟩ := (HY.out.below HBW.out) k y hy
      subst hzA; subst hyA
      have a0 : wr.cell? ⟨gz, oz + k * 2, none⟩ = some (.string z.name) := hzt 0 _ rfl
      have a1 : wr.cell? ⟨gz, oz + k * 2 + 1, none⟩ = some (.slice z.A z.eras.length z.c) := hzt 1 _ rfl
      have b0 : wr.cell? ⟨gy, oy + k * 2, none⟩ = some (.string y.name) := hyt 0 _ rfl
      have b1 : wr.cell? ⟨gy, oy + k * 2 + 1, none⟩ = some (.slice y.A y.eras.length y.c) := hyt 1 _ rfl
      have hki : (k : Int) < (Z.length : Int) := by omega
      have hkj : (k : Int) < (Y.length : Int) := by omega
      have HKZ := Lib.hid hz; have HKY := Lib.hid hy
      have HEZ := Lib.hid (EZ.out z (List.mem_of_getElem? hz)); have HEY := Lib.hid (EY.out y (List.mem_of_getElem? hy))
      have HMZ := Lib.hid (HM.out z (List.mem_of_getElem? hz))
      have HLT := Lib.hid hlt
      clear hzt hyt hz hy
      by_cases hn : z.name = y.name
      rotate_left
      · have bn : (z.name.toList == y.name.toList) = false := eq_b _ _ hn
        have HN := Lib.hid (show ¬ zSame14 Z Y from fun q => hn (q.2 k z y HLT.out HKZ.out HKY.out).1)
        clear hn hto
        go_wp2_with fail
        go_quiet (fail)
        all_goals
          go_wp2_with fail
          go_ret
          exact ⟨false, ⟨fun h => (by cases h), fun h => absurd h HN.out⟩, rfl, below_drewN HBW.out _⟩
      have bn : (z.name.toList == y.name.toList) = true := by rw [hn]; simp
      have HNN := Lib.hid hn
      clear hn
      by_cases he : z.eras.length = y.eras.length
      rotate_left
      · have bl : ((z.eras.length : Int) != (y.eras.length : Int)) = true := by rw [bne_iff_ne]; omega
        have HN := Lib.hid (show ¬ zSame14 Z Y from fun q => he (congrArg List.length (q.2 k z y HLT.out HKZ.out HKY.out).2))
        clear he hto
        go_wp2_with fail
        go_quiet (fail)
        all_goals
          go_wp2_with fail
          go_ret
          exact ⟨false, ⟨fun h => (by cases h), fun h => absurd h HN.out⟩, rfl, below_drewN HBW.out _⟩
      have bl : ((z.eras.length : Int) != (y.eras.length : Int)) = false := by rw [bne_eq_false_iff_eq]; omega
      have HE := Lib.hid he
      have hez : (z.eras.length : Int) ≤ 1000 := by have := HMZ.out; omega
      clear he
      go_wp2_with fail
      go_quiet (fail)
      go_wp2_with fail
      go_loopw [6] (fun i W => ∃ m : Nat, m ≤ z.eras.length ∧ i = .int .i64 m ∧ Below w.heap.size w W ∧ Hid (eTo14 z.eras y.eras m)) (fun i _ => z.eras.length - (intOf i).toNat)
      case atStart => exact ⟨0, Nat.zero_le _, rfl, below_drewN HBW.out _, Lib.hid (fun i h => by omega)⟩
      case round =>
        clear a0 a1 b0 b1 bn bl HBW
        obtain ⟨m, hm, rfl, hbw, hte⟩ := hrel
        have HBW := Lib.hid hbw
        clear hbw
        obtain ⟨gz2, oz2, hzA2, hgz2, hzt⟩ := (HZ.out.below HBW.out) k z HKZ.out
        obtain ⟨gy2, oy2, hyA2, hgy2, hyt⟩ := (HY.out.below HBW.out) k y HKY.out
        injection hzA2 with q; injection q with q1 q2 q3; subst q1; subst q2
        injection hyA2 with q; injection q with q1 q2 q3; subst q1; subst q2
        have a0 : wr.cell? ⟨gz, oz + k * 2, none⟩ = some (.string z.name) := hzt 0 _ rfl
        have a1 : wr.cell? ⟨gz, oz + k * 2 + 1, none⟩ = some (.slice z.A z.eras.length z.c) := hzt 1 _ rfl
        have b0 : wr.cell? ⟨gy, oy + k * 2, none⟩ = some (.string y.name) := hyt 0 _ rfl
        have b1 : wr.cell? ⟨gy, oy + k * 2 + 1, none⟩ = some (.slice y.A y.eras.length y.c) := hyt 1 _ rfl
        clear hzt hyt
        by_cases hml : m < z.eras.length
        · obtain ⟨x, hx⟩ : ∃ x, z.eras[m]? = some x := ⟨_, List.getElem?_eq_getElem hml⟩
          obtain ⟨u, hu⟩ : ∃ u, y.eras[m]? = some u := ⟨_, List.getElem?_eq_getElem (by have := HE.out; omega)⟩
          obtain ⟨ge, oe, heA, hge, xt⟩ := (HEZ.out.below HBW.out) m x hx
          obtain ⟨gf, of', hfA, hgf, ut⟩ := (HEY.out.below HBW.out) m u hu
          rw [heA] at a1
          rw [hfA] at b1
          clear heA hfA
          have x0 : wr.cell? ⟨ge, oe + m * 13, none⟩ = some (.int .i64 x.off) := xt 0 _ rfl
          have x1 : wr.cell? ⟨ge, oe + m * 13 + 1, none⟩ = some (.int .i64 x.kind) := xt 1 _ rfl
          have x2 : wr.cell? ⟨ge, oe + m * 13 + 2, none⟩ = some (.int .i64 x.save) := xt 2 _ rfl
          have x3 : wr.cell? ⟨ge, oe + m * 13 + 3, none⟩ = some (.string x.set) := xt 3 _ rfl
          have x4 : wr.cell? ⟨ge, oe + m * 13 + 4, none⟩ = some (.string x.fmt) := xt 4 _ rfl
          have x5 : wr.cell? ⟨ge, oe + m * 13 + 5, none⟩ = some (.bool x.ui) := xt 5 _ rfl
          have x6 : wr.cell? ⟨ge, oe + m * 13 + 6, none⟩ = some (.int .i64 x.uy) := xt 6 _ rfl
          have x7 : wr.cell? ⟨ge, oe + m * 13 + 7, none⟩ = some (.int .i64 x.um) := xt 7 _ rfl
          have x8 : wr.cell? ⟨ge, oe + m * 13 + 8, none⟩ = some (.int .i64 x.dk) := xt 8 _ rfl
          have x9 : wr.cell? ⟨ge, oe + m * 13 + 9, none⟩ = some (.int .i64 x.dw) := xt 9 _ rfl
          have x10 : wr.cell? ⟨ge, oe + m * 13 + 10, none⟩ = some (.int .i64 x.dd) := xt 10 _ rfl
          have x11 : wr.cell? ⟨ge, oe + m * 13 + 11, none⟩ = some (.int .i64 x.asec) := xt 11 _ rfl
          have x12 : wr.cell? ⟨ge, oe + m * 13 + 12, none⟩ = some (.int .i64 x.ab) := xt 12 _ rfl
          have u0 : wr.cell? ⟨gf, of' + m * 13, none⟩ = some (.int .i64 u.off) := ut 0 _ rfl
          have u1 : wr.cell? ⟨gf, of' + m * 13 + 1, none⟩ = some (.int .i64 u.kind) := ut 1 _ rfl
          have u2 : wr.cell? ⟨gf, of' + m * 13 + 2, none⟩ = some (.int .i64 u.save) := ut 2 _ rfl
          have u3 : wr.cell? ⟨gf, of' + m * 13 + 3, none⟩ = some (.string u.set) := ut 3 _ rfl
          have u4 : wr.cell? ⟨gf, of' + m * 13 + 4, none⟩ = some (.string u.fmt) := ut 4 _ rfl
          have u5 : wr.cell? ⟨gf, of' + m * 13 + 5, none⟩ = some (.bool u.ui) := ut 5 _ rfl
          have u6 : wr.cell? ⟨gf, of' + m * 13 + 6, none⟩ = some (.int .i64 u.uy) := ut 6 _ rfl
          have u7 : wr.cell? ⟨gf, of' + m * 13 + 7, none⟩ = some (.int .i64 u.um) := ut 7 _ rfl
          have u8 : wr.cell? ⟨gf, of' + m * 13 + 8, none⟩ = some (.int .i64 u.dk) := ut 8 _ rfl
          have u9 : wr.cell? ⟨gf, of' + m * 13 + 9, none⟩ = some (.int .i64 u.dw) := ut 9 _ rfl
          have u10 : wr.cell? ⟨gf, of' + m * 13 + 10, none⟩ = some (.int .i64 u.dd) := ut 10 _ rfl
          have u11 : wr.cell? ⟨gf, of' + m * 13 + 11, none⟩ = some (.int .i64 u.asec) := ut 11 _ rfl
          have u12 : wr.cell? ⟨gf, of' + m * 13 + 12, none⟩ = some (.int .i64 u.ab) := ut 12 _ rfl
          have hmi : (m : Int) < (z.eras.length : Int) := by omega
          have hmj : (m : Int) < (y.eras.length : Int) := by have := HE.out; omega
          have HXX := Lib.hid hx; have HUU := Lib.hid hu
          have HML := Lib.hid hml
          clear xt ut hx hu
          by_cases hq : x = u
          · have hd : decide (x.off = u.off ∧ x.kind = u.kind ∧ x.save = u.save ∧ x.set = u.set ∧ x.fmt = u.fmt ∧ x.ui = u.ui ∧ x.uy = u.uy ∧ x.um = u.um ∧ x.dk = u.dk ∧ x.dw = u.dw ∧ x.dd = u.dd ∧ x.asec = u.asec ∧ x.ab = u.ab) = true := by rw [decide_eq_true_eq]; exact (ev_eq x u).1 hq
            have HTE := Lib.hid (eTo14.succ hte.out (HXX.out.trans (by rw [HUU.out, hq])))
            clear hq hte
            go_wp2_with fail
            go_quiet (fail)
            all_goals
              go_wp2_with fail
              go_roundw
              case rel => first | exact ⟨m + 1, by omega, by go_num, below_drewN HBW.out _, HTE⟩ | ((repeat apply Exists.intro); refine ⟨?_, rfl⟩; exact ⟨m + 1, by omega, by go_num, below_drewN HBW.out _, HTE⟩)
              case measure => simp [intOf]; omega
          · have hd : decide (x.off = u.off ∧ x.kind = u.kind ∧ x.save = u.save ∧ x.set = u.set ∧ x.fmt = u.fmt ∧ x.ui = u.ui ∧ x.uy = u.uy ∧ x.um = u.um ∧ x.dk = u.dk ∧ x.dw = u.dw ∧ x.dd = u.dd ∧ x.asec = u.asec ∧ x.ab = u.ab) = false := by rw [decide_eq_false_iff_not]; exact fun q => hq ((ev_eq x u).2 q)
            have HN := Lib.hid (show ¬ zSame14 Z Y from fun q => hq (by
              have e1 := (q.2 k z y HLT.out HKZ.out HKY.out).2
              have h1 := HXX.out
              rw [e1, HUU.out] at h1
              injection h1 with h1
              exact h1.symm))
            clear hq hte
            go_wp2_with fail
            go_quiet (fail)
            all_goals
              go_wp2_with fail
              go_ret
              exact ⟨false, ⟨fun h => (by cases h), fun h => absurd h HN.out⟩, rfl, below_drewN HBW.out _⟩
        · obtain rfl : m = z.eras.length := by omega
          have HTE := Lib.hid (zTo14.succ hto.out HKZ.out HKY.out HNN.out (hte.out.all HE.out))
          clear hto hte
          go_wp2_with fail
          go_roundw
          case rel => first | exact ⟨k + 1, by have := HLT.out; omega, by go_num, HBW.out, HTE⟩ | ((repeat apply Exists.intro); refine ⟨?_, rfl⟩; exact ⟨k + 1, by have := HLT.out; omega, by go_num, HBW.out, HTE⟩)
          case measure => have := HLT.out; simp [intOf]; omega
    · obtain rfl : k = Z.length := by omega
      have HN := Lib.hid (show zSame14 Z Y from ⟨HL.out, hto.out⟩)
      clear hto
      go_wp2_with fail
      go_ret
      exact ⟨true, ⟨fun _ => HN.out, fun _ => rfl⟩, rfl, HBW.out⟩
end Go.Proofs.YtlideagcmhlkeaaDoor

/- Two sources are compared (the reference of chapter 14, Same): the plain law of the answer. -/
namespace Go.Proofs.YtlideagcmhlkeaaDoor
open Go.RowKit Go.Lib
set_option linter.unusedVariables false
set_option linter.unusedSimpArgs false

/-- two sources are the same -/
structure sSame14 (a b : SV) : Prop where
  rules : a.rules = b.rules
  links : a.links = b.links
  shifts : a.shifts = b.shifts
  zones : zSame14 a.zones b.zones
theorem zSame14.refl (Z : List ZV) : zSame14 Z Z := ⟨rfl, fun i z y _ hz hy => by rw [hz] at hy; injection hy with hy; subst hy; exact ⟨rfl, rfl⟩⟩
theorem zSame14.symm {Z Y : List ZV} (h : zSame14 Z Y) : zSame14 Y Z := ⟨h.1.symm, fun i z y hi hz hy => by
  have hi2 : i < Z.length := by rw [h.1]; exact hi
  obtain ⟨q1, q2⟩ := h.2 i y z hi2 hy hz
  exact ⟨q1.symm, q2.symm⟩⟩
theorem zSame14.trans {X Y Z : List ZV} (h : zSame14 X Y) (k : zSame14 Y Z) : zSame14 X Z := ⟨h.1.trans k.1, fun i x z hi hx hz => by
  have hi2 : i < Y.length := by rw [← h.1]; exact hi
  obtain ⟨y, hy⟩ : ∃ y, Y[i]? = some y := ⟨_, List.getElem?_eq_getElem hi2⟩
  obtain ⟨q1, q2⟩ := h.2 i x y hi hx hy
  obtain ⟨r1, r2⟩ := k.2 i y z hi2 hy hz
  exact ⟨q1.trans r1, q2.trans r2⟩⟩
theorem sSame14.rfl' (a : SV) : sSame14 a a := ⟨rfl, rfl, rfl, zSame14.refl _⟩
theorem sSame14.symm {a b : SV} (h : sSame14 a b) : sSame14 b a := ⟨h.rules.symm, h.links.symm, h.shifts.symm, h.zones.symm⟩
theorem sSame14.trans {a b c : SV} (h : sSame14 a b) (k : sSame14 b c) : sSame14 a c := ⟨h.rules.trans k.rules, h.links.trans k.links, h.shifts.trans k.shifts, h.zones.trans k.zones⟩
end Go.Proofs.YtlideagcmhlkeaaDoor

/- Copies of sources that are written to, and eras that are changed one by one. No function of the program. -/
namespace Go.Proofs.YtlideagcmhlkeaaDoor
open Go.RowKit
set_option linter.unusedVariables false

theorem CopyOf.below {W W' : World} {base : Nat} {s t : SV} (h : CopyOf W base s t) (hb : Below W.heap.size W W') : CopyOf W' base s t :=
  ⟨⟨h.rules.1, h.rules.2.below hb⟩, ⟨h.zones.1.below hb, h.zones.2.below hb⟩, ⟨h.links.1, h.links.2.below hb⟩, ⟨h.shifts.1, h.shifts.2.below hb⟩⟩
theorem CopyOf.self {W : World} {base : Nat} {s t : SV} (h : CopyOf W base s t) : CopyOf W base t t :=
  ⟨⟨rfl, h.rules.2⟩, ⟨h.zones.1, ⟨⟨rfl, fun i z y hz hy => by rw [hz] at hy; injection hy with hy; subst hy; exact ⟨rfl, rfl⟩⟩, h.zones.2.eras, h.zones.2.apart⟩⟩, ⟨rfl, h.links.2⟩, ⟨rfl, h.shifts.2⟩⟩
theorem CopyOf.same {W : World} {base : Nat} {s t : SV} (h : CopyOf W base s t) : sSame14 t s :=
  ⟨h.rules.1, h.links.1, h.shifts.1, ⟨h.zones.2.same.1, fun i z y _ hz hy => h.zones.2.same.2 i y z hy hz⟩⟩
/-- the source with another era at a place -/
def SV.setEra (t : SV) (i : Nat) (z : ZV) (k : Nat) (e : EV) : SV := { t with zones := t.zones.set i { z with eras := z.eras.set k e } }
theorem own_setOff {W : World} {base n size B j : Nat} {e : TypeId} {v : Value} {xs : List Value} (h : W.ownsRow base e size v n xs) (hB : v.ownBlock ≠ some B) (u : Value) : (W.setCell ⟨B, j, none⟩ u).ownsRow base e size v n xs := by
  refine ⟨h.1, ?_⟩
  rcases h.2 with q | ⟨g, cap, cur, hv, hb, hh, hr⟩
  · exact .inl q
  · refine .inr ⟨g, cap, cur, hv, hb, (Below.heap_setCell W _ u g (fun e => hB ?_)).trans hh, hr⟩
    rw [hv]
    show some g = some B
    rw [show g = B from e]
theorem zcells_set : ∀ {Z : List ZV} {i : Nat} {z z' : ZV}, Z[i]? = some z → z'.cells = z.cells → (Z.set i z').flatMap ZV.cells = Z.flatMap ZV.cells
  | [], i, z, z', h, _ => by simp at h
  | a :: Z, 0, z, z', h, hc => by
    simp only [List.getElem?_cons_zero, Option.some.injEq] at h
    subst h
    rw [List.set_cons_zero, List.flatMap_cons, List.flatMap_cons, hc]
  | a :: Z, i + 1, z, z', h, hc => by
    simp only [List.getElem?_cons_succ] at h
    rw [List.set_cons_succ, List.flatMap_cons, List.flatMap_cons, zcells_set h hc]
theorem set_from {Z : List ZV} {i a : Nat} {z z' y : ZV} (hz : Z[i]? = some z) (hA : z'.A = z.A) (h : (Z.set i z')[a]? = some y) : ∃ x, Z[a]? = some x ∧ x.A = y.A := by
  by_cases hi : i = a
  · subst hi
    rw [List.getElem?_set_self (List.getElem?_eq_some_iff.1 hz).1] at h
    injection h with h
    subst h
    exact ⟨z, hz, hA.symm⟩
  · rw [List.getElem?_set_ne hi] at h
    exact ⟨y, h, rfl⟩
/-- one cell of an era is stored -/
theorem CopyOf.setCell {W : World} {base : Nat} {t : SV} (h : CopyOf W base t t) {i : Nat} {z : ZV} (hz : t.zones[i]? = some z) {g : Nat} (hA : z.A = some ⟨g, 0, none⟩) {k j : Nat} {x y : EV} (hk : z.eras[k]? = some x) (u : Value) (hj : j < 13) (hy : y.cells = x.cells.set j u) :
    CopyOf (W.setCell ⟨g, k * 13 + j, none⟩ u) base (t.setEra i z k y) (t.setEra i z k y) := by
  have hrow := h.zones.2.eras i z hz
  rw [hA] at hrow
  have hO : (Value.slice (some ⟨g, 0, none⟩) z.eras.length z.c).ownBlock = some g := rfl
  refine ⟨⟨rfl, row_set_other h.rules.2 hrow hO (by decide) u⟩, ⟨?_, ⟨⟨rfl, fun i z y hz hy => by rw [hz] at hy; injection hy with hy; subst hy; exact ⟨rfl, rfl⟩⟩, fun a y' hy' => ?_, fun a b y' z' hab hya hzb g' h1 h2 => ?_⟩⟩, ⟨rfl, row_set_other h.links.2 hrow hO (by decide) u⟩, ⟨rfl, row_set_other h.shifts.2 hrow hO (by decide) u⟩⟩
  · show RowOf _ base 39 2 ZV.cells t.zA t.zc (t.zones.set i _)
    unfold RowOf
    rw [List.length_set, zcells_set hz (by unfold ZV.cells; rw [List.length_set])]
    exact row_set_other h.zones.1 hrow hO (by decide) u
  · show RowOf _ base 47 13 EV.cells y'.A y'.c y'.eras
    have hy'' : (t.zones.set i { z with eras := z.eras.set k y })[a]? = some y' := hy'
    by_cases hi : i = a
    · subst hi
      rw [List.getElem?_set_self (List.getElem?_eq_some_iff.1 hz).1] at hy''
      injection hy'' with hy''
      subst hy''
      show RowOf _ base 47 13 EV.cells z.A z.c (z.eras.set k y)
      rw [hA]
      exact hrow.set_ len_era k j x y u hj hk hy
    · rw [List.getElem?_set_ne hi] at hy''
      have hr := h.zones.2.eras a y' hy''
      refine own_setOff hr (fun q => ?_) u
      have hyA : y'.A = some ⟨g, 0, none⟩ := by
        rcases hr.2 with ⟨q2, _⟩ | ⟨g2, cap, cur, hv, _⟩
        · rw [q2] at q; cases q
        · rw [hv] at q
          have q3 : g2 = g := Option.some.inj q
          subst q3
          injection hv
      rcases Nat.lt_or_gt_of_ne hi with hlt | hgt
      · exact h.zones.2.apart i a z y' hlt hz hy'' g hA hyA
      · exact h.zones.2.apart a i y' z hgt hy'' hz g hyA hA
  · obtain ⟨x1, hx1, e1⟩ := set_from (z' := { z with eras := z.eras.set k y }) hz rfl hya
    obtain ⟨x2, hx2, e2⟩ := set_from (z' := { z with eras := z.eras.set k y }) hz rfl hzb
    exact h.zones.2.apart a b x1 x2 hab hx1 hx2 g' (e1.trans h1) (e2.trans h2)
theorem CopyOf.eraAddr {W : World} {base : Nat} {s t : SV} (h : CopyOf W base s t) {i : Nat} {z : ZV} (hz : t.zones[i]? = some z) (hl : 0 < z.eras.length) : ∃ g, z.A = some ⟨g, 0, none⟩ ∧ base ≤ g ∧ g < W.heap.size := by
  have hr := h.zones.2.eras i z hz
  rcases hr.2 with ⟨_, q⟩ | ⟨g, cap, cur, hv, hb, hh, _⟩
  · omega
  · injection hv with hA
    exact ⟨g, hA, hb, (Array.getElem?_eq_some_iff.1 hh).1⟩
/-- the eras in front of a place are changed, the others stay -/
def part30 (G : EV → EV) (Z Y : List ZV) (i k : Nat) : Prop :=
  Y.length = Z.length ∧ ∀ (a : Nat) (z y : ZV), Z[a]? = some z → Y[a]? = some y → y.name = z.name ∧ y.eras.length = z.eras.length ∧ ∀ (b : Nat) (e : EV), z.eras[b]? = some e → y.eras[b]? = some (if a < i ∨ (a = i ∧ b < k) then G e else e)
theorem part30.step {G : EV → EV} {Z Y : List ZV} {i k : Nat} {z y : ZV} {e : EV} (h : part30 G Z Y i k) (hz : Z[i]? = some z) (hy : Y[i]? = some y) (he : z.eras[k]? = some e) : part30 G Z (Y.set i { y with eras := y.eras.set k (G e) }) i (k + 1) := ⟨by rw [List.length_set]; exact h.1, fun a z' y' hz' hy' => by
  by_cases hi : i = a
  · subst hi
    rw [hz] at hz'
    injection hz' with hz'
    subst hz'
    rw [List.getElem?_set_self (List.getElem?_eq_some_iff.1 hy).1] at hy'
    injection hy' with hy'
    subst hy'
    obtain ⟨h1, h2, h3⟩ := h.2 i z y hz hy
    refine ⟨h1, by show (y.eras.set k (G e)).length = _; rw [List.length_set]; exact h2, fun b x hx => ?_⟩
    show (y.eras.set k (G e))[b]? = _
    by_cases hb : k = b
    · subst hb
      rw [List.getElem?_set_self (by rw [h2]; exact (List.getElem?_eq_some_iff.1 he).1), if_pos (by omega)]
      rw [he] at hx
      injection hx with hx
      rw [hx]
    · rw [List.getElem?_set_ne hb, h3 b x hx]
      by_cases hlt : b < k
      · rw [if_pos (by omega), if_pos (by omega)]
      · rw [if_neg (by omega), if_neg (by omega)]
  · rw [List.getElem?_set_ne hi] at hy'
    obtain ⟨h1, h2, h3⟩ := h.2 a z' y' hz' hy'
    refine ⟨h1, h2, fun b x hx => ?_⟩
    rw [h3 b x hx]
    by_cases hlt : a < i
    · rw [if_pos (by omega), if_pos (by omega)]
    · rw [if_neg (by omega), if_neg (by omega)]⟩
theorem part30.skip {G : EV → EV} {Z Y : List ZV} {i k : Nat} {z : ZV} {e : EV} (h : part30 G Z Y i k) (hz : Z[i]? = some z) (he : z.eras[k]? = some e) (hG : G e = e) : part30 G Z Y i (k + 1) := ⟨h.1, fun a z' y' hz' hy' => by
  obtain ⟨h1, h2, h3⟩ := h.2 a z' y' hz' hy'
  refine ⟨h1, h2, fun b x hx => ?_⟩
  rw [h3 b x hx]
  by_cases hlt : a < i ∨ (a = i ∧ b < k)
  · rw [if_pos hlt, if_pos (by omega)]
  · by_cases hq : a = i ∧ b = k
    · obtain ⟨rfl, rfl⟩ := hq
      rw [hz] at hz'
      injection hz' with hz'
      subst hz'
      rw [he] at hx
      injection hx with hx
      subst hx
      rw [if_neg hlt, if_pos (by omega), hG]
    · rw [if_neg hlt, if_neg (by omega)]⟩
theorem part30.zone {G : EV → EV} {Z Y : List ZV} {i k : Nat} {z : ZV} (h : part30 G Z Y i k) (hz : Z[i]? = some z) (hk : z.eras.length ≤ k) : part30 G Z Y (i + 1) 0 := ⟨h.1, fun a z' y' hz' hy' => by
  obtain ⟨h1, h2, h3⟩ := h.2 a z' y' hz' hy'
  refine ⟨h1, h2, fun b x hx => ?_⟩
  rw [h3 b x hx]
  by_cases hlt : a < i
  · rw [if_pos (by omega), if_pos (by omega)]
  · by_cases hq : a = i
    · subst hq
      rw [hz] at hz'
      injection hz' with hz'
      subst hz'
      have := (List.getElem?_eq_some_iff.1 hx).1
      rw [if_pos (by omega), if_pos (by omega)]
    · rw [if_neg (by omega), if_neg (by omega)]⟩
/-- the era of the written source at the place itself -/
theorem part30.at_ {G : EV → EV} {Z Y : List ZV} {i k : Nat} {z : ZV} {e : EV} (h : part30 G Z Y i k) (hz : Z[i]? = some z) (he : z.eras[k]? = some e) : ∃ y, Y[i]? = some y ∧ y.eras[k]? = some e := by
  have hl := (List.getElem?_eq_some_iff.1 hz).1
  obtain ⟨y, hy⟩ : ∃ y, Y[i]? = some y := ⟨_, List.getElem?_eq_getElem (by rw [h.1]; exact hl)⟩
  refine ⟨y, hy, ?_⟩
  rw [(h.2 i z y hz hy).2.2 k e he, if_neg (by omega)]
def mapE (G : EV → EV) (z : ZV) : ZV := { z with eras := z.eras.map G }
def mapS (G : EV → EV) (s : SV) : SV := { s with zones := s.zones.map (mapE G) }
theorem part30.all {G : EV → EV} {Z Y : List ZV} {i : Nat} (h : part30 G Z Y i 0) (hi : Z.length ≤ i) : zSame14 Y (Z.map (mapE G)) := ⟨by rw [List.length_map]; exact h.1, fun a y z' ha hy hz' => by
  rw [List.getElem?_map] at hz'
  obtain ⟨z, hz, rfl⟩ := Option.map_eq_some_iff.1 hz'
  obtain ⟨h1, h2, h3⟩ := h.2 a z y hz hy
  refine ⟨h1, List.ext_getElem? fun b => ?_⟩
  show _ = (z.eras.map G)[b]?
  rw [List.getElem?_map]
  by_cases hb : b < z.eras.length
  · rw [h3 b _ (List.getElem?_eq_getElem hb), List.getElem?_eq_getElem hb, if_pos (by have := (List.getElem?_eq_some_iff.1 hz).1; omega)]
    rfl
  · rw [List.getElem?_eq_none (by omega), List.getElem?_eq_none (by omega)]
    rfl⟩
end Go.Proofs.YtlideagcmhlkeaaDoor

/- The walks of the reference's two and Parse (chapter 20). -/
namespace Go.Proofs.YtlideagcmhlkeaaDoor
open Go.RowKit
set_option linter.unusedVariables false

end Go.Proofs.YtlideagcmhlkeaaDoor

/- The walks of numeric.sum and of the reference's sum (chapter 20). -/
namespace Go.Proofs.YtlideagcmhlkeaaDoor
open Go.RowKit
set_option linter.unusedVariables false

theorem wrap_hi (n : Int) (h0 : 9223372036854775808 ≤ n) (h1 : n ≤ 18446744073709551615) : wrap64 n = n - 18446744073709551616 := by
  unfold wrap64; omega
theorem wrap_lo (n : Int) (h0 : n < -9223372036854775808) (h1 : -18446744073709551616 ≤ n) : wrap64 n = n + 18446744073709551616 := by
  unfold wrap64; omega
set_option maxHeartbeats 400000 in
theorem sum_fit (a b : Int) (w : World) (a0 : -9223372036854775808 ≤ a) (a1 : a ≤ 9223372036854775807) (b0 : -9223372036854775808 ≤ b) (b1 : b ≤ 9223372036854775807)
    (h0 : -9223372036854775808 ≤ a + b) (h1 : a + b ≤ 9223372036854775807) :
    Calls Tryd.prog 91 #[.int .i64 a, .int .i64 b] w fun e w' => e = .returned (.tuple #[.int .i64 (a + b), .bool true]) ∧ w = w' := by
  by_cases hb : 0 < b
  · have hc : a < a + b := by omega
    go_enter Tryd.func91, Tryd.ntmps91
    go_wp2_with fail
    go_ret2
    exact ⟨rfl, rfl⟩
  · have hc : ¬ a < a + b := by omega
    go_enter Tryd.func91, Tryd.ntmps91
    go_wp2_with fail
    go_ret2
    exact ⟨rfl, rfl⟩
set_option maxHeartbeats 400000 in
theorem sum_lo (a b : Int) (w : World) (a0 : -9223372036854775808 ≤ a) (a1 : a ≤ 9223372036854775807) (b0 : -9223372036854775808 ≤ b) (b1 : b ≤ 9223372036854775807) (h : a + b < -9223372036854775808) :
    Calls Tryd.prog 91 #[.int .i64 a, .int .i64 b] w fun e w' => e = .returned (.tuple #[.int .i64 (a + b + 18446744073709551616), .bool false]) ∧ w = w' := by
  have hw := wrap_lo (a + b) h (by omega)
  have hb : decide (0 < b) = false := decide_eq_false (by omega)
  have hc : a < a + b + 18446744073709551616 := by omega
  have HW := Lib.hid hw
  go_enter Tryd.func91, Tryd.ntmps91
  go_wp2_with fail
  go_ret2
  exact ⟨by rw [← HW.out]; rfl, rfl⟩
set_option maxHeartbeats 400000 in
theorem sum_hi (a b : Int) (w : World) (a0 : -9223372036854775808 ≤ a) (a1 : a ≤ 9223372036854775807) (b0 : -9223372036854775808 ≤ b) (b1 : b ≤ 9223372036854775807) (h : 9223372036854775807 < a + b) :
    Calls Tryd.prog 91 #[.int .i64 a, .int .i64 b] w fun e w' => e = .returned (.tuple #[.int .i64 (a + b - 18446744073709551616), .bool false]) ∧ w = w' := by
  have hw := wrap_hi (a + b) (by omega) (by omega)
  have hb : 0 < b := by omega
  have hc : decide (a < a + b - 18446744073709551616) = false := decide_eq_false (by omega)
  have HW := Lib.hid hw
  go_enter Tryd.func91, Tryd.ntmps91
  go_wp2_with fail
  go_ret2
  exact ⟨by rw [← HW.out]; rfl, rfl⟩
end Go.Proofs.YtlideagcmhlkeaaDoor

/- The walk of numeric.joined (chapter 20). -/
namespace Go.Proofs.YtlideagcmhlkeaaDoor
open Go.RowKit
set_option linter.unusedVariables false

/-- the numbers of offsets, with a slash between two of them, or the error -/
def P20.jFrom (off : Int) (acc : List (List UInt8)) : List Int → List UInt8 × Int
  | [] => (Lib.join acc [47], 0)
  | x :: l => if P20.text (off + x) = [] then ([], 3) else P20.jFrom off (acc ++ [P20.text (off + x)]) l
theorem jFrom_one (off x : Int) : P20.jFrom off [] [x] = P20.one (P20.text (off + x)) := by
  rw [P20.jFrom, P20.jFrom, P20.one]
  by_cases h : P20.text (off + x) = []
  · rw [if_pos h, if_pos h]
  · rw [if_neg h, if_neg h]; simp [Lib.join]
theorem jFrom_two (off x y : Int) : P20.jFrom off [] [x, y] = P20.both (P20.text (off + x)) (P20.text (off + y)) := by
  rw [P20.jFrom, P20.jFrom, P20.jFrom, P20.both]
  by_cases h : P20.text (off + x) = []
  · rw [if_pos h, if_pos (.inl h)]
  · rw [if_neg h]
    by_cases h' : P20.text (off + y) = []
    · rw [if_pos h', if_pos (.inr h')]
    · rw [if_neg h', if_neg (by simp [h, h'])]; simp [Lib.join]
theorem jFrom_step {off : Int} {acc : List (List UInt8)} {L : List Int} {k : Nat} {x : Int} (h : L[k]? = some x) (ht : P20.text (off + x) ≠ []) : P20.jFrom off acc (L.drop k) = P20.jFrom off (acc ++ [P20.text (off + x)]) (L.drop (k + 1)) := by
  have hk := (List.getElem?_eq_some_iff.mp h).1
  rw [List.drop_eq_getElem_cons hk, (List.getElem?_eq_some_iff.mp h).2, P20.jFrom, if_neg ht]
theorem jFrom_bad {off : Int} {acc : List (List UInt8)} {L : List Int} {k : Nat} {x : Int} (h : L[k]? = some x) (ht : P20.text (off + x) = []) : P20.jFrom off acc (L.drop k) = ([], 3) := by
  have hk := (List.getElem?_eq_some_iff.mp h).1
  rw [List.drop_eq_getElem_cons hk, (List.getElem?_eq_some_iff.mp h).2, P20.jFrom, if_pos ht]
theorem text_le (x : Int) : (P20.text x).length ≤ 7 := by have := P20.text_len x; omega
theorem join_len (acc : List (List UInt8)) (h2 : acc.length ≤ 2) (h7 : ∀ t ∈ acc, t.length ≤ 7) : (Lib.join acc [47]).length ≤ 15 := by
  match acc, h2 with
  | [], _ => simp [Lib.join]
  | [a], _ => have := h7 a (by simp); simp [Lib.join]; omega
  | [a, b], _ => have := h7 a (by simp); have := h7 b (by simp); simp [Lib.join]; omega
def svals (acc : List (List UInt8)) : List Value := acc.map fun t => .string (str t)
theorem svals_snoc (acc : List (List UInt8)) (t : List UInt8) : svals (acc ++ [t]) = svals acc ++ [.string (str t)] := List.map_append
theorem infoStr : (Tryd.prog.info? 9).map (fun i => (i.zero, i.size, i.bytes)) = some (some (.string ⟨#[]⟩), 1, 16) := by kernel_rfl
theorem join_any (acc : List (List UInt8)) (B cap : Nat) (W : World) (h2 : acc.length ≤ 2) (h7 : ∀ t ∈ acc, t.length ≤ 7) (hB : B < W.heap.size) (hcap : acc.length ≤ cap) (hc : ∀ k u, (svals acc)[k]? = some u → W.cell? ⟨B, k, none⟩ = some u) :
    Calls Tryd.prog 92 #[.slice (some ⟨B, 0, none⟩) acc.length cap, .string ⟨#[47]⟩] W fun e w' => e = .returned (.string (str (Lib.join acc [47]))) ∧ Below W.heap.size W w' := by
  have hm : (acc.map str).map (fun x => x.data.toList) = acc := by rw [List.map_map]; exact List.map_id _
  have hjl := join_len acc h2 h7
  have q := Tryd.strings_Join B 0 cap (acc.map str) ⟨#[47]⟩ W (fun j x hx => by
    rw [Nat.zero_add]
    rw [List.getElem?_map] at hx
    cases ha : acc[j]? with
    | none => rw [ha] at hx; cases hx
    | some t =>
      rw [ha] at hx
      injection hx with hx
      rw [← hx]
      exact hc j _ (by unfold svals; rw [List.getElem?_map, ha]; rfl)) hB (by rw [List.length_map]; omega) (by rw [List.length_map]; exact hcap) (by rw [hm]; exact Nat.le_trans hjl (by decide))
  rw [hm, List.length_map] at q
  exact q
theorem sum_over_all (a b : Int) (a0 : -9223372036854775808 ≤ a) (a1 : a ≤ 9223372036854775807) (b0 : -9223372036854775808 ≤ b) (b1 : b ≤ 9223372036854775807) (h : a + b < -9223372036854775808 ∨ 9223372036854775807 < a + b) :
    ∃ C : Int, -9223372036854775808 ≤ C ∧ C ≤ 9223372036854775807 ∧ Hid (∀ W, Calls Tryd.prog 91 #[.int .i64 a, .int .i64 b] W fun e w' => e = .returned (.tuple #[.int .i64 C, .bool false]) ∧ W = w') := by
  by_cases h' : a + b < -9223372036854775808
  · refine ⟨a + b + 18446744073709551616, by omega, by omega, fun W => ?_⟩
    exact sum_lo a b W a0 a1 b0 b1 h'
  · refine ⟨a + b - 18446744073709551616, by omega, by omega, fun W => ?_⟩
    exact sum_hi a b W a0 a1 b0 b1 (by omega)
/-- integers in a block -/
def IntsIn (w : World) (B : Nat) (L : List Int) : Prop := B < w.heap.size ∧ ∀ k x, L[k]? = some x → w.cell? ⟨B, k, none⟩ = some (.int .i64 x)
theorem IntsIn.below {w w' : World} {B : Nat} {L : List Int} (h : IntsIn w B L) (hb : Below w.heap.size w w') : IntsIn w' B L :=
  ⟨Nat.lt_of_lt_of_le h.1 hb.size, fun k x hx => (hb.cell (p := ⟨B, k, none⟩) h.1).trans (h.2 k x hx)⟩
theorem IntsIn.alloc {w : World} {B : Nat} {L : List Int} (h : IntsIn w B L) (ob : Obj) : IntsIn (w.alloc ob) B L := h.below ((Below.refl _ _).alloc (Nat.le_refl _) ob)
theorem IntsIn.grown {w w' : World} {base B n size : Nat} {e : TypeId} {v : Value} {xs : List Value} {L : List Int} (h : IntsIn w B L) (ho : w.ownsRow base e size v n xs) (hg : w.grownBy w' v.ownBlock) (hlt : B < base) : IntsIn w' B L :=
  ⟨Nat.lt_of_lt_of_le h.1 hg.size, fun k x hx => by
    rw [← h.2 k x hx]
    exact World.cell?_of_block (hg.block B h.1 fun q => by have := (ho.lt B q.symm).1; omega)⟩

set_option maxRecDepth 100000 in
set_option maxHeartbeats 8000000 in
theorem joined_any (off : Int) (B c : Nat) (L : List Int) (w : World) (o0 : -9223372036854775808 ≤ off) (o1 : off ≤ 9223372036854775807) (hL0 : 0 < L.length) (hL2 : L.length ≤ 2) (hb64 : ∀ x ∈ L, -9223372036854775808 ≤ x ∧ x ≤ 9223372036854775807) (hI : IntsIn w B L) :
    Calls Tryd.prog 54 #[.int .i64 off, .slice (some ⟨B, 0, none⟩) L.length c] w fun e w' => e = .returned (.tuple #[.string (str (P20.jFrom off [] L).1), .int .i64 (P20.jFrom off [] L).2]) ∧ Below w.heap.size w w' := by
  obtain ⟨R, hRR⟩ : ∃ R, R = P20.jFrom off [] L := ⟨_, rfl⟩
  rw [← hRR]
  have HR : Hid (P20.jFrom off [] (L.drop 0) = R) := Lib.hid hRR.symm
  clear hRR
  have hli : (L.length : Int) ≤ 2 := by omega
  have hlp : (0 : Int) < (L.length : Int) := by omega
  have HB64 := Lib.hid hb64
  have HBlt := Lib.hid hI.1
  have hO : w.ownsRow w.heap.size 9 1 (.slice none 0 0) ([] : List (List UInt8)).length (svals []) := ⟨rfl, .inl ⟨rfl, rfl⟩⟩
  clear hb64
  go_enter Tryd.func54, Tryd.ntmps54
  go_wp2_with fail
  go_loopw [6, 14] (fun v i wr => ∃ (k : Nat) (acc : List (List UInt8)), k ≤ L.length ∧ acc.length = k ∧ i = .int .i64 k ∧ wr.ownsRow w.heap.size 9 1 v acc.length (svals acc) ∧ Hid (∀ t ∈ acc, t.length ≤ 7) ∧ Hid (P20.jFrom off acc (L.drop k) = R) ∧ IntsIn wr B L ∧ Below w.heap.size w wr) (fun _ i _ => L.length - (intOf i).toNat)
  case atStart => exact ⟨0, [], Nat.zero_le _, rfl, rfl, hO, fun t ht => by simp at ht, HR, hI, Below.refl _ _⟩
  case round =>
    clear HR hO hI
    obtain ⟨k, acc, hk, hak, rfl, hO, H7, HR, hI, hb⟩ := hrel
    have HAK := Lib.hid hak
    clear hak
    by_cases hlt : k < L.length
    · obtain ⟨x, hx⟩ : ∃ x, L[k]? = some x := ⟨_, List.getElem?_eq_getElem hlt⟩
      have c0 := hI.2 k x hx
      obtain ⟨x0, x1⟩ := HB64.out x (List.mem_of_getElem? hx)
      have hki : (k : Int) < (L.length : Int) := by omega
      by_cases hf : -9223372036854775808 ≤ off + x ∧ off + x ≤ 9223372036854775807
      · obtain ⟨f0, f1⟩ := hf
        have cS : Hid (∀ W, Calls Tryd.prog 91 #[.int .i64 off, .int .i64 x] W fun e w' => e = .returned (.tuple #[.int .i64 (off + x), .bool true]) ∧ W = w') := fun W => sum_fit off x W o0 o1 x0 x1 f0 f1
        have cT : Hid (∀ W, Calls Tryd.prog 24 #[.int .i64 (off + x)] W fun e w' => e = .returned (.string (str (P20.text (off + x)))) ∧ Below W.heap.size W w') := fun W => ntext_any (off + x) W f0 f1
        have hst := fun q => jFrom_step (off := off) (acc := acc) hx q
        have hbd := fun q => jFrom_bad (off := off) (acc := acc) hx q
        have ht7 := text_le (off + x)
        generalize P20.text (off + x) = T at cT hst hbd ht7
        generalize off + x = Y at cS cT f0 f1
        by_cases hT : T = []
        · have HG := Lib.hid (HR.out.symm.trans (hbd hT))
          subst hT
          clear hst hbd hx HR hO
          go_wp2_with fail
          refine (cS.out _).mono ?_
          rintro e w1 ⟨rfl, rfl⟩
          go_wp2_with fail
          refine (cT.out _).mono ?_
          rintro e w2 ⟨rfl, hc2⟩
          have hb2 := hb.trans (hc2.mono hb.size)
          have n1 : (str []).toList = [] := by rw [ByteArray.toList_eq]; rfl
          clear hb hc2
          go_wp2_with fail
          go_ret2
          exact ⟨by rw [HG.out]; rfl, hb2⟩
        · have HG := Lib.hid ((hst hT).symm.trans HR.out)
          have hTl : 0 < T.length := List.length_pos_iff.2 hT
          obtain ⟨n1, n2⟩ := str_ne hTl
          have HAL := Lib.hid (show acc.length ≤ 1 by have := HAK.out; omega)
          have H72 : Hid (∀ t ∈ acc ++ [T], t.length ≤ 7) := fun t ht => by
            rw [List.mem_append] at ht
            rcases ht with ht | ht
            · exact H7.out t ht
            · rw [List.mem_singleton] at ht; rw [ht]; exact ht7
          have HSN := Lib.hid (svals_snoc acc T)
          have HSL := Lib.hid (show (acc ++ [T]).length = acc.length + 1 by simp)
          clear hst hbd hx HR hT
          go_wp2_with fail
          refine (cS.out _).mono ?_
          rintro e w1 ⟨rfl, rfl⟩
          go_wp2_with fail
          refine (cT.out _).mono ?_
          rintro e w2 ⟨rfl, hc2⟩
          have hb2 := hb.trans (hc2.mono hb.size)
          have hNB : Hid (Blk (w2.alloc (.cells #[.string (str T)] 9)) w2.heap.size 9 #[.string (str T)]) := Lib.hid (Blk.new _ _ _)
          have HO := Lib.hid ((own_below hO hc2).alloc (.cells #[.string (str T)] 9))
          have HI := Lib.hid ((hI.below hc2).alloc (.cells #[.string (str T)] 9))
          have HB := Lib.hid (hb2.alloc hb2.size (.cells #[.string (str T)] 9))
          obtain ⟨i0, hi, hz0, hz1, hz2⟩ := info_parts infoStr
          clear hb hc2 hO hI hb2 cS cT c0
          go_wp2_with (at_builtin; refine wpList_append_own _ rfl _ _ 30 rfl w.heap.size 9 i0 (.string ⟨#[]⟩) 1 16 Tryd.underlying30 hi hz0 hz1 hz2 rfl (by decide) _ _ _ rfl HO.out ⟨w2.heap.size, 0, none⟩ 1 1 [.string (str T)] rfl rfl (blk_cells hNB.out) (by simp [Value.oneCell']) (by have := HAL.out; simp only [maxLen]; omega) (by have := HAL.out; omega) HB.out.size ?_)
          intro v1 wa hown hgr hne
          have hb3 := own_grown HB.out HO.out hgr HB.out.size (Nat.le_refl _)
          have hI2 := HI.out.grown HO.out hgr HBlt.out
          rw [← HSN.out, ← HSL.out] at hown
          clear hgr hne HO HI HB hNB HSN
          go_wp2_with fail
          go_roundw
          case rel => exact ⟨k + 1, acc ++ [T], by omega, by rw [HSL.out, HAK.out], by go_num, hown, H72, HG, hI2, hb3⟩
          case measure => simp [intOf]; omega
      · have hT : P20.text (off + x) = [] := P20.text_out (by omega)
        have HG := Lib.hid (HR.out.symm.trans (jFrom_bad (off := off) (acc := acc) hx hT))
        obtain ⟨C, C0, C1, cS0⟩ : ∃ C : Int, -9223372036854775808 ≤ C ∧ C ≤ 9223372036854775807 ∧ Hid (∀ W, Calls Tryd.prog 91 #[.int .i64 off, .int .i64 x] W fun e w' => e = .returned (.tuple #[.int .i64 C, .bool false]) ∧ W = w') := sum_over_all off x o0 o1 x0 x1 (by omega)
        have cT : Hid (∀ W, Calls Tryd.prog 24 #[.int .i64 C] W fun e w' => e = .returned (.string (str (P20.text C))) ∧ Below W.heap.size W w') := fun W => ntext_any C W C0 C1
        generalize P20.text C = T at cT
        clear hx HR hO hT hf
        go_wp2_with fail
        refine (cS0.out _).mono ?_
        rintro e w1 ⟨rfl, rfl⟩
        go_wp2_with fail
        refine (cT.out _).mono ?_
        rintro e w2 ⟨rfl, hc2⟩
        have hb2 := hb.trans (hc2.mono hb.size)
        clear hb hc2
        go_wp2_with fail
        go_ret2
        exact ⟨by rw [HG.out]; rfl, hb2⟩
    · obtain rfl : k = L.length := by omega
      have hki : ¬ (L.length : Int) < (L.length : Int) := by omega
      obtain ⟨B2, cap, rfl, hB0, hB1, hcap, hcs⟩ := own_form hO (by have := HAK.out; omega)
      have HG : Hid (R = (Lib.join acc [47], 0)) := by
        have q := HR.out
        rw [List.drop_length] at q
        exact Lib.hid q.symm
      have cJ : Hid (Calls Tryd.prog 92 #[.slice (some ⟨B2, 0, none⟩) acc.length cap, .string ⟨#[47]⟩] wr fun e w' => e = .returned (.string (str (Lib.join acc [47]))) ∧ Below wr.heap.size wr w') := Lib.hid (join_any acc B2 cap wr (by have := HAK.out; omega) H7.out hB1 hcap hcs)
      clear hO hI hcs HR
      go_wp2_with fail
      refine cJ.out.mono ?_
      rintro e w2 ⟨rfl, hc2⟩
      have hb2 := hb.trans (hc2.mono hb.size)
      clear hb hc2
      go_wp2_with fail
      go_ret2
      exact ⟨by rw [HG.out]; rfl, hb2⟩
end Go.Proofs.YtlideagcmhlkeaaDoor

/- The walks of ruleset.Other and of the reference's Other (chapters 16, 20). -/
namespace Go.Proofs.YtlideagcmhlkeaaDoor
open Go.RowKit
set_option linter.unusedVariables false

def svs (L : List RV) : List Int := L.map (·.save)
theorem svs_drop {L : List RV} {k : Nat} {r : RV} (h : L[k]? = some r) : (svs L).drop k = r.save :: (svs L).drop (k + 1) := by
  have hk : k < (svs L).length := by rw [svs, List.length_map]; exact (List.getElem?_eq_some_iff.mp h).1
  rw [List.drop_eq_getElem_cons hk]
  congr 1
  have := (List.getElem?_eq_some_iff.mp h).2
  simp [svs, this]
theorem of_zero {X : Int} {L : List RV} {k : Nat} {r : RV} (h : L[k]? = some r) (hz : r.save = 0) : P20.otherFrom X ((svs L).drop k) = P20.otherFrom X ((svs L).drop (k + 1)) := by
  rw [svs_drop h, P20.otherFrom, if_pos hz]
theorem of_bad {X : Int} {L : List RV} {k : Nat} {r : RV} (h : L[k]? = some r) (hz : r.save ≠ 0) (hx : X ≠ 0) (hr : r.save ≠ X) : P20.otherFrom X ((svs L).drop k) = (0, false) := by
  rw [svs_drop h, P20.otherFrom, if_neg hz, if_pos ⟨hx, hr⟩]
theorem of_new {X : Int} {L : List RV} {k : Nat} {r : RV} (h : L[k]? = some r) (hz : r.save ≠ 0) (hx : ¬ (X ≠ 0 ∧ r.save ≠ X)) : P20.otherFrom X ((svs L).drop k) = P20.otherFrom r.save ((svs L).drop (k + 1)) := by
  rw [svs_drop h, P20.otherFrom, if_neg hz, if_neg hx]
theorem of_end (X : Int) (L : List RV) : P20.otherFrom X ((svs L).drop L.length) = (X, decide (X ≠ 0)) := by
  rw [List.drop_eq_nil_of_le (by rw [svs, List.length_map]; exact Nat.le_refl _)]; rfl
theorem dne (X : Int) : decide (X ≠ 0) = (X != 0) := by
  rw [Bool.eq_iff_iff]; simp

set_option maxRecDepth 100000 in
set_option maxHeartbeats 4000000 in
theorem other_any (A : Option Addr) (L : List RV) (c : Nat) (w : World) (hl : L.length ≤ 1000000) (hR : RulesIn w A L) :
    Calls Tryd.prog 15 #[.slice A L.length c] w fun e w' => e = .returned (.tuple #[.int .i64 (P20.other (svs L)).1, .bool (P20.other (svs L)).2]) ∧ Below w.heap.size w w' := by
  obtain ⟨R, hRR⟩ : ∃ R, R = P20.other (svs L) := ⟨_, rfl⟩
  rw [← hRR]
  have HR : Hid (P20.otherFrom 0 ((svs L).drop 0) = R) := Lib.hid hRR.symm
  clear hRR
  have hli : (L.length : Int) ≤ 1000000 := by omega
  go_enter Tryd.func15, Tryd.ntmps15
  go_wp2_with fail
  go_loopw [4, 9] (fun x i wr => ∃ (k : Nat) (X : Int), k ≤ L.length ∧ i = .int .i64 k ∧ x = .int .i64 X ∧ Hid (P20.otherFrom X ((svs L).drop k) = R) ∧ RulesIn wr A L ∧ Below w.heap.size w wr) (fun _ i _ => L.length - (intOf i).toNat)
  case atStart => exact ⟨0, 0, Nat.zero_le _, rfl, rfl, HR, hR, Below.refl _ _⟩
  case round =>
    clear HR hR
    obtain ⟨k, X, hk, rfl, rfl, HR, hR, hb⟩ := hrel
    by_cases hlt : k < L.length
    · obtain ⟨r, hr⟩ : ∃ r, L[k]? = some r := ⟨_, List.getElem?_eq_getElem hlt⟩
      obtain ⟨b, o, rfl, hlb, c0, c1, c2, c3, c4, c5, c6, c7, c8, c9, c10⟩ := hR.get k r hr
      have hki : (k : Int) < (L.length : Int) := by omega
      have z0 := fun q => of_zero (X := X) hr q
      have z1 := fun q => of_bad (X := X) hr q
      have z2 := fun q => of_new (X := X) hr q
      obtain ⟨nm, fr, tl, mo, dk, dw, dd, sc, bs, sv, lt⟩ := r
      simp only at c0 c1 c2 c3 c4 c5 c6 c7 c8 c9 c10 z0 z1 z2
      have hR2 := Lib.hid (hR.alloc (.cells #[.string nm, .int .i64 fr, .int .i64 tl, .int .i64 mo, .int .i64 dk, .int .i64 dw, .int .i64 dd, .int .i64 sc, .int .i64 bs, .int .i64 sv, .string lt] 83))
      have hb2 := hb.alloc hb.size (.cells #[.string nm, .int .i64 fr, .int .i64 tl, .int .i64 mo, .int .i64 dk, .int .i64 dw, .int .i64 dd, .int .i64 sc, .int .i64 bs, .int .i64 sv, .string lt] 83)
      by_cases hz : sv = 0
      · have HG := Lib.hid (z0 hz)
        have e1 : (sv == 0) = true := by rw [beq_iff_eq]; exact hz
        have e2 : (sv != 0) = false := by rw [bne_eq_false_iff_eq]; exact hz
        clear z0 z1 z2 hr hR
        clear hz
        go_wp2_with fail
        go_roundw
        case rel => exact ⟨k + 1, X, by omega, by go_num, rfl, Lib.hid (HG.out.symm.trans HR.out), hR2.out, hb2⟩
        case measure => simp [intOf]; omega
      · have e1 : (sv == 0) = false := by rw [beq_eq_false_iff_ne]; exact hz
        have e2 : (sv != 0) = true := by rw [bne_iff_ne]; exact hz
        by_cases hx : X = 0
        · have HG := Lib.hid (z2 hz (fun q => q.1 hx))
          have e3 : (X != 0) = false := by rw [bne_eq_false_iff_eq]; exact hx
          clear z0 z1 z2 hr hR
          clear hz hx
          go_wp2_with fail
          go_roundw
          case rel => exact ⟨k + 1, sv, by omega, by go_num, rfl, Lib.hid (HG.out.symm.trans HR.out), hR2.out, hb2⟩
          case measure => simp [intOf]; omega
        · have e3 : (X != 0) = true := by rw [bne_iff_ne]; exact hx
          by_cases hq : sv = X
          · have HG := Lib.hid (z2 hz (fun q => q.2 hq))
            have e4 : (sv != X) = false := by rw [bne_eq_false_iff_eq]; exact hq
            clear z0 z1 z2 hr hR
            clear hz hx hq
            go_wp2_with fail
            go_roundw
            case rel => exact ⟨k + 1, sv, by omega, by go_num, rfl, Lib.hid (HG.out.symm.trans HR.out), hR2.out, hb2⟩
            case measure => simp [intOf]; omega
          · have HG := Lib.hid (z1 hz hx hq)
            have e4 : (sv != X) = true := by rw [bne_iff_ne]; exact hq
            clear z0 z1 z2 hr hR
            clear hz hx hq
            go_wp2_with fail
            go_ret2
            exact ⟨by rw [← HR.out, HG.out]; rfl, hb2⟩
    · obtain rfl : k = L.length := by omega
      have HG := Lib.hid ((of_end X L).symm.trans HR.out)
      rw [dne] at HG
      have hki : ¬ (L.length : Int) < (L.length : Int) := by omega
      clear HR
      go_wp2_with fail
      go_ret2
      exact ⟨by rw [← HG.out]; rfl, hb⟩
end Go.Proofs.YtlideagcmhlkeaaDoor

/- The walks of numeric.Expansion and of the reference's Expansion (chapter 20). -/
namespace Go.Proofs.YtlideagcmhlkeaaDoor
open Go.RowKit
set_option linter.unusedVariables false

theorem otherFrom_bd : ∀ (l : List Int) (x : Int), (-9223372036854775808 ≤ x ∧ x ≤ 9223372036854775807) → (∀ y ∈ l, -9223372036854775808 ≤ y ∧ y ≤ 9223372036854775807) → -9223372036854775808 ≤ (P20.otherFrom x l).1 ∧ (P20.otherFrom x l).1 ≤ 9223372036854775807
  | [], x, hx, _ => hx
  | r :: l, x, hx, h => by
    rw [P20.otherFrom]
    split
    · exact otherFrom_bd l x hx fun y hy => h y (List.mem_cons_of_mem _ hy)
    · split
      · exact ⟨by decide, by decide⟩
      · exact otherFrom_bd l r (h r (List.mem_cons_self ..)) fun y hy => h y (List.mem_cons_of_mem _ hy)
theorem other_bd (l : List Int) (h : ∀ y ∈ l, -9223372036854775808 ≤ y ∧ y ≤ 9223372036854775807) : -9223372036854775808 ≤ (P20.other l).1 ∧ (P20.other l).1 ≤ 9223372036854775807 := otherFrom_bd l 0 ⟨by decide, by decide⟩ h
/-- the saves are numbers of the machine -/
def SvOk (L : List RV) : Prop := ∀ y ∈ svs L, -9223372036854775808 ≤ y ∧ y ≤ 9223372036854775807
theorem exp_none (off save : Int) (l : List Int) : P20.expansion 0 off save l = P20.jFrom off [] [0] := by rw [jFrom_one, Int.add_zero]; rfl
theorem exp_fixed (off save : Int) (l : List Int) : P20.expansion 1 off save l = P20.jFrom off [] [save] := by rw [jFrom_one]; rfl
theorem exp_is (off save : Int) (l : List Int) (h : (P20.other l).2 = true) : P20.expansion 2 off save l = P20.jFrom off [] [0, (P20.other l).1] := by
  rw [jFrom_two, Int.add_zero]
  show (if (P20.other l).2 = true then _ else _) = _
  rw [if_pos h]
theorem exp_isnt (off save : Int) (l : List Int) (h : (P20.other l).2 = false) : P20.expansion 2 off save l = if l.any (fun r => decide (r ≠ 0)) then ([], 14) else P20.jFrom off [] [0] := by
  rw [jFrom_one, Int.add_zero]
  show (if (P20.other l).2 = true then _ else _) = _
  rw [if_neg (by rw [h]; decide)]
theorem exp_else (kind off save : Int) (l : List Int) (h : kind < 0 ∨ 2 < kind) : P20.expansion kind off save l = ([], 2) := by
  unfold P20.expansion
  rw [if_neg (by omega), if_neg (by omega), if_neg (by omega)]
theorem any_hit {L : List RV} {k : Nat} {r : RV} (h : L[k]? = some r) (hz : r.save ≠ 0) : (svs L).any (fun r => decide (r ≠ 0)) = true := by
  rw [List.any_eq_true]
  exact ⟨r.save, List.mem_map.2 ⟨r, List.mem_of_getElem? h, rfl⟩, decide_eq_true hz⟩
theorem any_no {L : List RV} (h : ∀ j r, j < L.length → L[j]? = some r → r.save = 0) : (svs L).any (fun r => decide (r ≠ 0)) = false := by
  rw [List.any_eq_false]
  intro y hy
  obtain ⟨r, hr, rfl⟩ := List.mem_map.1 hy
  obtain ⟨j, hj⟩ := List.mem_iff_getElem?.1 hr
  have := h j r (List.getElem?_eq_some_iff.mp hj).1 hj
  simpa using this
theorem ints_one {w : World} {B : Nat} {e : TypeId} {x : Int} (h : Blk w B e #[.int .i64 x]) : IntsIn w B [x] := ⟨h.lt, fun k y hy => by
  rw [h.cell k]
  match k, hy with
  | 0, hy => injection hy with hy; rw [← hy]; rfl⟩
theorem ints_two {w : World} {B : Nat} {e : TypeId} {x y : Int} (h : Blk w B e #[.int .i64 x, .int .i64 y]) : IntsIn w B [x, y] := ⟨h.lt, fun k z hz => by
  rw [h.cell k]
  match k, hz with
  | 0, hz => injection hz with hz; rw [← hz]; rfl
  | 1, hz => injection hz with hz; rw [← hz]; rfl⟩

set_option maxRecDepth 100000 in
set_option maxHeartbeats 8000000 in
theorem expansion_any (off kind save : Int) (set fmt : ByteArray) (ui : Bool) (uy um dk dw dd asec ab : Int) (A : Option Addr) (L : List RV) (c : Nat) (w : World) (o64 : -9223372036854775808 ≤ off ∧ off ≤ 9223372036854775807) (s64 : -9223372036854775808 ≤ save ∧ save ≤ 9223372036854775807) (hl : L.length ≤ 1000000) (hsv : SvOk L) (hR : RulesIn w A L) :
    Calls Tryd.prog 18 #[.agg #[.int .i64 off, .int .i64 kind, .int .i64 save, .string set, .string fmt, .bool ui, .int .i64 uy, .int .i64 um, .int .i64 dk, .int .i64 dw, .int .i64 dd, .int .i64 asec, .int .i64 ab], .slice A L.length c] w fun e w' => e = .returned (.tuple #[.string (str (P20.expansion kind off save (svs L)).1), .int .i64 (P20.expansion kind off save (svs L)).2]) ∧ Below w.heap.size w w' := by
  have hE := Blk.new w 47 #[.int .i64 off, .int .i64 kind, .int .i64 save, .string set, .string fmt, .bool ui, .int .i64 uy, .int .i64 um, .int .i64 dk, .int .i64 dw, .int .i64 dd, .int .i64 asec, .int .i64 ab]
  have hb0 : Below w.heap.size w (w.alloc (.cells #[.int .i64 off, .int .i64 kind, .int .i64 save, .string set, .string fmt, .bool ui, .int .i64 uy, .int .i64 um, .int .i64 dk, .int .i64 dw, .int .i64 dd, .int .i64 asec, .int .i64 ab] 47)) := (Below.refl _ _).alloc (Nat.le_refl _) _
  have hR0 := hR.alloc (.cells #[.int .i64 off, .int .i64 kind, .int .i64 save, .string set, .string fmt, .bool ui, .int .i64 uy, .int .i64 um, .int .i64 dk, .int .i64 dw, .int .i64 dd, .int .i64 asec, .int .i64 ab] 47)
  have hli : (L.length : Int) ≤ 1000000 := by omega
  obtain ⟨o0, o1⟩ := o64
  obtain ⟨s0, s1⟩ := s64
  have cJ1 : Hid (∀ (x : Int) (B : Nat) (W : World), (-9223372036854775808 ≤ x ∧ x ≤ 9223372036854775807) → IntsIn W B [x] → Calls Tryd.prog 54 #[.int .i64 off, .slice (some ⟨B, 0, none⟩) 1 1] W fun e w' => e = .returned (.tuple #[.string (str (P20.jFrom off [] [x]).1), .int .i64 (P20.jFrom off [] [x]).2]) ∧ Below W.heap.size W w') := fun x B W hx hI =>
    joined_any off B 1 [x] W o0 o1 (by simp) (by simp) (fun y hy => by rw [List.mem_singleton] at hy; rw [hy]; exact hx) hI
  have cJ2 : Hid (∀ (x y : Int) (B : Nat) (W : World), (-9223372036854775808 ≤ x ∧ x ≤ 9223372036854775807) → (-9223372036854775808 ≤ y ∧ y ≤ 9223372036854775807) → IntsIn W B [x, y] → Calls Tryd.prog 54 #[.int .i64 off, .slice (some ⟨B, 0, none⟩) 2 2] W fun e w' => e = .returned (.tuple #[.string (str (P20.jFrom off [] [x, y]).1), .int .i64 (P20.jFrom off [] [x, y]).2]) ∧ Below W.heap.size W w') := fun x y B W hx hy hI =>
    joined_any off B 2 [x, y] W o0 o1 (by simp) (by simp) (fun z hz => by
      simp only [List.mem_cons, List.not_mem_nil, or_false] at hz
      rcases hz with rfl | rfl
      · exact hx
      · exact hy) hI
  by_cases hk0 : kind = 0
  · subst hk0
    rw [exp_none]
    clear hR hR0
    have hN := ints_one (Blk.newAt (w.alloc (.cells #[.int .i64 off, .int .i64 0, .int .i64 save, .string set, .string fmt, .bool ui, .int .i64 uy, .int .i64 um, .int .i64 dk, .int .i64 dw, .int .i64 dd, .int .i64 asec, .int .i64 ab] 47)) (w.heap.size + 1) (by simp) 2 #[.int .i64 0])
    have hb1 := hb0.alloc hb0.size (.cells #[.int .i64 0] 2)
    have cJ := cJ1.out 0 _ _ ⟨by decide, by decide⟩ hN
    generalize P20.jFrom off [] [0] = R at cJ ⊢
    have CJ := Lib.hid cJ
    clear cJ hN cJ1 cJ2 hE hb0
    go_enter Tryd.func18, Tryd.ntmps18
    go_wp2_with fail
    refine CJ.out.mono ?_
    rintro e w1 ⟨rfl, hc1⟩
    have hb2 := hb1.trans (hc1.mono hb1.size)
    clear CJ hb1 hc1
    go_wp2_with fail
    go_ret2
    exact ⟨rfl, hb2⟩
  by_cases hk1 : kind = 1
  · subst hk1
    rw [exp_fixed]
    clear hR hR0
    have hN := ints_one (Blk.newAt (w.alloc (.cells #[.int .i64 off, .int .i64 1, .int .i64 save, .string set, .string fmt, .bool ui, .int .i64 uy, .int .i64 um, .int .i64 dk, .int .i64 dw, .int .i64 dd, .int .i64 asec, .int .i64 ab] 47)) (w.heap.size + 1) (by simp) 2 #[.int .i64 save])
    have hb1 := hb0.alloc hb0.size (.cells #[.int .i64 save] 2)
    have cJ := cJ1.out save _ _ ⟨s0, s1⟩ hN
    generalize P20.jFrom off [] [save] = R at cJ ⊢
    have CJ := Lib.hid cJ
    clear cJ hN cJ1 cJ2 hE hb0
    go_enter Tryd.func18, Tryd.ntmps18
    go_wp2_with fail
    refine CJ.out.mono ?_
    rintro e w1 ⟨rfl, hc1⟩
    have hb2 := hb1.trans (hc1.mono hb1.size)
    clear CJ hb1 hc1
    go_wp2_with fail
    go_ret2
    exact ⟨rfl, hb2⟩
  by_cases hk2 : kind = 2
  · subst hk2
    have cO : Hid (∀ W, RulesIn W A L → Calls Tryd.prog 15 #[.slice A L.length c] W fun e w' => e = .returned (.tuple #[.int .i64 (P20.other (svs L)).1, .bool (P20.other (svs L)).2]) ∧ Below W.heap.size W w') := fun W h => other_any A L c W hl h
    obtain ⟨x0, x1⟩ := other_bd (svs L) hsv
    have e1 := exp_is off save (svs L)
    have e2 := exp_isnt off save (svs L)
    obtain ⟨X, hX⟩ : ∃ X, X = (P20.other (svs L)).1 := ⟨_, rfl⟩
    rw [← hX] at x0 x1 e1 cO
    clear hX
    generalize (P20.other (svs L)).2 = I at e1 e2 cO
    clear hR
    cases I with
    | true =>
      rw [e1 rfl]
      clear e1 e2
      have cJ3 : Hid (∀ (B : Nat) (W : World), IntsIn W B [0, X] → Calls Tryd.prog 54 #[.int .i64 off, .slice (some ⟨B, 0, none⟩) 2 2] W fun e w' => e = .returned (.tuple #[.string (str (P20.jFrom off [] [0, X]).1), .int .i64 (P20.jFrom off [] [0, X]).2]) ∧ Below W.heap.size W w') := fun B W hI => cJ2.out 0 X B W ⟨by decide, by decide⟩ ⟨x0, x1⟩ hI
      generalize P20.jFrom off [] [0, X] = R at cJ3 ⊢
      go_enter Tryd.func18, Tryd.ntmps18
      go_wp2_with fail
      refine (cO.out _ hR0).mono ?_
      rintro e w1 ⟨rfl, hc1⟩
      have hE1 := hE.below hc1 hE.lt
      have hb1 := hb0.trans (hc1.mono hb0.size)
      have k0 : w1.cell? ⟨w.heap.size, 0, none⟩ = some (.int .i64 off) := (hE1.cell 0).trans rfl
      have hN := ints_two (Blk.new w1 2 #[.int .i64 0, .int .i64 X])
      have hb2 := hb1.alloc hb1.size (.cells #[.int .i64 0, .int .i64 X] 2)
      have cJ := cJ3.out _ _ hN
      have CJ := Lib.hid cJ
      clear cJ hN cJ1 cJ2 cJ3 hE hb0 hE1 hb1 hc1 cO hR0
      go_wp2_with fail
      refine CJ.out.mono ?_
      rintro e w2 ⟨rfl, hc2⟩
      have hb3 := hb2.trans (hc2.mono hb2.size)
      clear CJ hb2 hc2
      go_wp2_with fail
      go_ret2
      exact ⟨rfl, hb3⟩
    | false =>
      obtain ⟨R, hRR⟩ : ∃ R, R = P20.expansion 2 off save (svs L) := ⟨_, rfl⟩
      rw [← hRR]
      have HR := Lib.hid (hRR.trans (e2 rfl))
      clear e1 e2 hRR x0 x1
      go_enter Tryd.func18, Tryd.ntmps18
      go_wp2_with fail
      refine (cO.out _ hR0).mono ?_
      rintro e w1 ⟨rfl, hc1⟩
      have hE1 := hE.below hc1 hE.lt
      have hb1 := hb0.trans (hc1.mono hb0.size)
      have hR1 := hR0.below hc1
      clear hE hb0 hR0 hc1 cO
      go_wp2_with fail
      go_loopw [47] (fun i wr => ∃ k : Nat, k ≤ L.length ∧ i = .int .i64 k ∧ Hid (∀ j r, j < k → L[j]? = some r → r.save = 0) ∧ RulesIn wr A L ∧ Blk wr w.heap.size 47 #[.int .i64 off, .int .i64 2, .int .i64 save, .string set, .string fmt, .bool ui, .int .i64 uy, .int .i64 um, .int .i64 dk, .int .i64 dw, .int .i64 dd, .int .i64 asec, .int .i64 ab] ∧ Below w.heap.size w wr) (fun i _ => L.length - (intOf i).toNat)
      case atStart => exact ⟨0, Nat.zero_le _, rfl, fun j r hj => absurd hj (Nat.not_lt_zero _), hR1, hE1, hb1⟩
      case round =>
        clear hR1 hE1 hb1
        obtain ⟨k, hk, rfl, HN, hR, hE, hb⟩ := hrel
        by_cases hlt : k < L.length
        · obtain ⟨r, hr⟩ : ∃ r, L[k]? = some r := ⟨_, List.getElem?_eq_getElem hlt⟩
          obtain ⟨b, o, rfl, hlb, c0, c1, c2, c3, c4, c5, c6, c7, c8, c9, c10⟩ := hR.get k r hr
          have hki : (k : Int) < (L.length : Int) := by omega
          have z0 := fun q => any_hit hr q
          have z1 : r.save = 0 → ∀ j r', j < k + 1 → L[j]? = some r' → r'.save = 0 := fun q j r' hj hr' => by
            rcases Nat.lt_succ_iff_lt_or_eq.mp hj with hj | hj
            · exact HN.out j r' hj hr'
            · rw [hj, hr] at hr'; injection hr' with hr'; rw [← hr']; exact q
          obtain ⟨nm, fr, tl, mo, rdk, rdw, rdd, sc, bs, sv, lt⟩ := r
          simp only at c0 c1 c2 c3 c4 c5 c6 c7 c8 c9 c10 z0 z1
          have hR2 := Lib.hid (hR.alloc (.cells #[.string nm, .int .i64 fr, .int .i64 tl, .int .i64 mo, .int .i64 rdk, .int .i64 rdw, .int .i64 rdd, .int .i64 sc, .int .i64 bs, .int .i64 sv, .string lt] 83))
          have hE2 := Lib.hid (hE.alloc (.cells #[.string nm, .int .i64 fr, .int .i64 tl, .int .i64 mo, .int .i64 rdk, .int .i64 rdw, .int .i64 rdd, .int .i64 sc, .int .i64 bs, .int .i64 sv, .string lt] 83))
          have hb2 := hb.alloc hb.size (.cells #[.string nm, .int .i64 fr, .int .i64 tl, .int .i64 mo, .int .i64 rdk, .int .i64 rdw, .int .i64 rdd, .int .i64 sc, .int .i64 bs, .int .i64 sv, .string lt] 83)
          clear hR hE hb hr
          by_cases hz : sv = 0
          · have HZ := Lib.hid (z1 hz)
            have e1 : (sv != 0) = false := by rw [bne_eq_false_iff_eq]; exact hz
            clear hz z0 z1
            go_wp2_with fail
            go_roundw
            case rel => exact ⟨k + 1, by omega, by go_num, HZ, hR2.out, hE2.out, hb2⟩
            case measure => simp [intOf]; omega
          · have HG : Hid (R = ([], 14)) := Lib.hid (HR.out.trans (if_pos (z0 hz)))
            have e1 : (sv != 0) = true := by rw [bne_iff_ne]; exact hz
            clear hz z0 z1
            go_wp2_with fail
            go_ret2
            exact ⟨by rw [HG.out]; rfl, hb2⟩
        · obtain rfl : k = L.length := by omega
          have hki : ¬ (L.length : Int) < (L.length : Int) := by omega
          have hno := any_no HN.out
          have HG := Lib.hid (HR.out.trans (if_neg (by rw [hno]; decide)))
          have k0 : wr.cell? ⟨w.heap.size, 0, none⟩ = some (.int .i64 off) := (hE.cell 0).trans rfl
          have hN := ints_one (Blk.new wr 2 #[.int .i64 0])
          have hb2 := hb.alloc hb.size (.cells #[.int .i64 0] 2)
          have cJ := cJ1.out 0 _ _ ⟨by decide, by decide⟩ hN
          generalize P20.jFrom off [] [0] = Z at cJ HG
          have CJ := Lib.hid cJ
          clear cJ hN cJ1 cJ2 hE hb hR hno HN HR
          go_wp2_with fail
          refine CJ.out.mono ?_
          rintro e w2 ⟨rfl, hc2⟩
          have hb3 := hb2.trans (hc2.mono hb2.size)
          clear CJ hb2 hc2
          go_wp2_with fail
          go_ret2
          exact ⟨by rw [HG.out]; rfl, hb3⟩
  rw [exp_else kind off save (svs L) (by omega)]
  have q0 : (kind == 0) = false := by rw [beq_eq_false_iff_ne]; exact hk0
  have q1 : (kind == 1) = false := by rw [beq_eq_false_iff_ne]; exact hk1
  have q2 : (kind == 2) = false := by rw [beq_eq_false_iff_ne]; exact hk2
  clear hk0 hk1 hk2 hE hR hR0 cJ1 cJ2
  go_enter Tryd.func18, Tryd.ntmps18
  go_wp2_with fail
  go_ret2
  exact ⟨rfl, hb0⟩
-- REF
end Go.Proofs.YtlideagcmhlkeaaDoor

/- Plain mathematics of FORMATs (chapter 21): abbreviations, cuts, kinds, parts; no program in sight. -/
namespace Go.Proofs.YtlideagcmhlkeaaDoor.P21

/-- an ASCII letter, as a number and as a byte -/
def isLr (r : Nat) : Bool := (decide (65 ≤ r) && decide (r ≤ 90)) || (decide (97 ≤ r) && decide (r ≤ 122))
def isL (c : UInt8) : Bool := isLr c.toNat
theorem isLr_high {r : Nat} (h : 128 ≤ r) : isLr r = false := by
  unfold isLr
  rw [decide_eq_false (show ¬ r ≤ 90 by omega), decide_eq_false (show ¬ r ≤ 122 by omega), Bool.and_false, Bool.and_false]; rfl
/-- an abbreviation: three to six letters -/
def abbr (l : List UInt8) : Bool := decide (3 ≤ l.length) && decide (l.length ≤ 6) && l.all isL
/-- what stands around the first slash, around the first %s -/
def slash (l : List UInt8) : List UInt8 × List UInt8 × Bool := Lib.cut l [47]
def pct (l : List UInt8) : List UInt8 × List UInt8 × Bool := Lib.cut l [37, 115]
def letter (l : List UInt8) : Bool := (pct l).2.2 && (((pct l).1 ++ (pct l).2.1).all isL && decide (((pct l).1 ++ (pct l).2.1).length ≤ 5))
def num (l : List UInt8) : Bool := decide ((P20.parse l).2 = 0)
def kind (l : List UInt8) : Int :=
  if abbr l = true then 1
  else if ((slash l).2.2 && abbr (slash l).1 && abbr (slash l).2.1) = true then 2
  else if letter l = true then 3
  else if l = [37, 122] then 4
  else if (num l || ((slash l).2.2 && num (slash l).1 && num (slash l).2.1)) = true then 5
  else 0
def two (l : List UInt8) : Bool := (slash l).2.2 && (decide (kind l = 2) || decide (kind l = 5))
/-- the abbreviation, and the error's number -/
def out (t : List UInt8) (is : Bool) : List UInt8 × Int := if is = true then (t, 0) else ([], 15)
def abbrv (f : List UInt8) (off save : Int) (lt : List UInt8) : List UInt8 × Int :=
  if two f = true then (if save = 0 then ((slash f).1, 0) else ((slash f).2.1, 0))
  else if kind f = 3 then out ((pct f).1 ++ lt ++ (pct f).2.1) (abbr ((pct f).1 ++ lt ++ (pct f).2.1))
  else if kind f = 4 then out (P20.text (off + save)) (decide (P20.text (off + save) ≠ []))
  else if kind f = 0 then ([], 15)
  else (f, 0)
theorem kind_cases (l : List UInt8) : kind l = 0 ∨ kind l = 1 ∨ kind l = 2 ∨ kind l = 3 ∨ kind l = 4 ∨ kind l = 5 := by
  unfold kind
  repeat' split
  all_goals simp

/-- cuts by places -/
theorem cut_at {l sep : List UInt8} {i : Nat} (hi : i ≤ l.length) (ho : Lib.occAt l sep i = true) (hn : ∀ j, j < i → Lib.occAt l sep j = false) : Lib.cut l sep = (l.take i, l.drop (i + sep.length), true) := by
  have h := Lib.index_first hi ho hn
  unfold Lib.cut
  rw [h, if_pos (by omega)]; rfl
theorem cut_no {l sep : List UInt8} (hn : ∀ j, j ≤ l.length → Lib.occAt l sep j = false) : Lib.cut l sep = (l, [], false) := by
  have h := Lib.index_none hn
  unfold Lib.cut
  rw [h, if_neg (by omega)]
theorem cut_cases (l sep : List UInt8) : (Lib.cut l sep = (l, [], false) ∧ ∀ j, j ≤ l.length → Lib.occAt l sep j = false) ∨ ∃ i, i ≤ l.length ∧ Lib.occAt l sep i = true ∧ (∀ j, j < i → Lib.occAt l sep j = false) ∧ Lib.cut l sep = (l.take i, l.drop (i + sep.length), true) := by
  rcases Lib.index_spec l sep with ⟨h1, h2⟩ | ⟨i, h1, h2, h3, h4⟩
  · exact .inl ⟨cut_no h2, h2⟩
  · exact .inr ⟨i, h2, h3, h4, cut_at h2 h3 h4⟩
theorem beq_dec (c a : UInt8) : (c == a) = decide (a = c) := by rw [Bool.eq_iff_iff, beq_iff_eq, decide_eq_true_eq]; exact eq_comm
theorem occ1 (l : List UInt8) (c : UInt8) (i : Nat) : Lib.occAt l [c] i = decide (l[i]? = some c) := by
  unfold Lib.occAt
  rw [← List.head?_drop]
  cases l.drop i with
  | nil => simp
  | cons a t =>
    simp only [List.isPrefixOf, List.head?_cons, Option.some.injEq, Bool.and_true]
    exact beq_dec c a
theorem occ2 (l : List UInt8) (c d : UInt8) (i : Nat) : Lib.occAt l [c, d] i = (decide (l[i]? = some c) && decide (l[i + 1]? = some d)) := by
  unfold Lib.occAt
  rw [← List.head?_drop, show l[i + 1]? = (l.drop i)[1]? by rw [List.getElem?_drop]]
  cases l.drop i with
  | nil => simp
  | cons a t => cases t with
    | nil => simp [List.isPrefixOf]
    | cons b t =>
      simp only [List.isPrefixOf, List.head?_cons, List.getElem?_cons_succ, List.getElem?_cons_zero, Option.some.injEq, Bool.and_true]
      rw [beq_dec, beq_dec]
theorem cut1_at {l : List UInt8} {c : UInt8} {i : Nat} (h : l[i]? = some c) (hn : ∀ j, j < i → l[j]? ≠ some c) : Lib.cut l [c] = (l.take i, l.drop (i + 1), true) := by
  have hi := (List.getElem?_eq_some_iff.1 h).1
  exact cut_at (by omega) (by rw [occ1]; exact decide_eq_true h) fun j hj => by rw [occ1]; exact decide_eq_false (hn j hj)
/-- a slash in the string: of which kinds it can be -/
theorem slash_mem {l : List UInt8} (h : (slash l).2.2 = true) : (47 : UInt8) ∈ l := by
  rcases cut_cases l [47] with ⟨q, _⟩ | ⟨i, _, ho, _, _⟩
  · unfold slash at h; rw [q] at h; cases h
  · rw [occ1] at ho
    exact List.mem_of_getElem? (of_decide_eq_true ho)
theorem letter_mem {l : List UInt8} (h : letter l = true) : ∀ c ∈ l, isL c = true ∨ c = 37 ∨ c = 115 := by
  unfold letter at h
  simp only [Bool.and_eq_true] at h
  obtain ⟨h1, h2, _⟩ := h
  rcases cut_cases l [37, 115] with ⟨q, _⟩ | ⟨i, hi, ho, _, q⟩
  · unfold pct at h1; rw [q] at h1; cases h1
  · unfold pct at h2
    rw [q] at h2
    simp only [List.all_append, Bool.and_eq_true, List.all_eq_true] at h2
    rw [occ2] at ho
    simp only [Bool.and_eq_true, decide_eq_true_eq] at ho
    intro c hc
    obtain ⟨k, hk, rfl⟩ := List.getElem_of_mem hc
    by_cases k1 : k < i
    · exact .inl (h2.1 _ (List.mem_of_getElem? (i := k) (by rw [List.getElem?_take_of_lt k1, List.getElem?_eq_getElem hk])))
    · by_cases k2 : k = i
      · subst k2
        rw [List.getElem?_eq_getElem hk] at ho
        exact .inr (.inl (Option.some.inj ho.1))
      · by_cases k3 : k = i + 1
        · subst k3
          rw [List.getElem?_eq_getElem hk] at ho
          exact .inr (.inr (Option.some.inj ho.2))
        · refine .inl (h2.2 _ (List.mem_of_getElem? (i := k - (i + 2)) ?_))
          rw [List.getElem?_drop, show i + ([37, 115] : List UInt8).length + (k - (i + 2)) = k by simp only [List.length_cons, List.length_nil]; omega, List.getElem?_eq_getElem hk]
theorem two_eq (l : List UInt8) : two l = ((slash l).2.2 && decide (kind l ≠ 0)) := by
  unfold two
  by_cases hs : (slash l).2.2 = true
  · have hm := slash_mem hs
    have h1 : kind l ≠ 1 := by
      intro h
      have ha : abbr l = true := by
        by_cases q : abbr l = true
        · exact q
        · unfold kind at h
          rw [if_neg q] at h
          repeat' split at h
          all_goals simp at h
      unfold abbr at ha
      simp only [Bool.and_eq_true, List.all_eq_true] at ha
      have := ha.2 _ hm
      revert this; decide
    have h3 : kind l ≠ 3 := by
      intro h
      have ha : letter l = true := by
        by_cases q : letter l = true
        · exact q
        · unfold kind at h
          rw [if_neg (c := letter l = true) q] at h
          repeat' split at h
          all_goals simp at h
      rcases letter_mem ha _ hm with q | q | q
      · revert q; decide
      · revert q; decide
      · revert q; decide
    have h4 : kind l ≠ 4 := by
      intro h
      have ha : l = [37, 122] := by
        by_cases q : l = [37, 122]
        · exact q
        · unfold kind at h
          rw [if_neg (c := l = [37, 122]) q] at h
          repeat' split at h
          all_goals simp at h
      rw [ha] at hm
      revert hm; decide
    rw [hs, Bool.true_and, Bool.true_and]
    rcases kind_cases l with q | q | q | q | q | q <;> rw [q] <;> first | rfl | (exfalso; first | exact h1 q | exact h3 q | exact h4 q)
  · rw [Bool.not_eq_true] at hs
    rw [hs]; rfl
/-- all runes letters: all bytes letters -/
theorem idx_from (s : ByteArray) : ∀ (n pos : Nat), s.size ≤ pos + n → (Lib.idxFuncFrom (fun r => !isLr r) true s n pos = -1 ↔ (s.data.toList.drop pos).all isL = true)
  | 0, pos, h => by
    rw [List.drop_eq_nil_of_le (by rw [← Lib.size_eq]; omega)]
    simp [Lib.idxFuncFrom]
  | n + 1, pos, h => by
    unfold Lib.idxFuncFrom
    by_cases hp : pos < s.size
    · rw [if_pos hp]
      have hl : pos < s.data.toList.length := by rw [← Lib.size_eq]; exact hp
      rw [List.drop_eq_getElem_cons hl, List.all_cons]
      have hbyte : s.data.toList[pos] = s[pos]'hp := by
        have := Lib.data_getElem? s pos hp
        rw [List.getElem?_eq_getElem hl] at this
        exact Option.some.inj this
      rw [hbyte]
      by_cases ha : (s[pos]'hp).toNat < 128
      · rw [decode_ascii s pos hp ha]
        show ((if (!isLr (s[pos]'hp).toNat) = true then (pos : Int) else Lib.idxFuncFrom (fun r => !isLr r) true s n (pos + 1)) = -1) ↔ _
        by_cases hL : isLr (s[pos]'hp).toNat = true
        · rw [if_neg (by rw [hL]; decide), idx_from s n (pos + 1) (by omega)]
          unfold isL at *
          rw [hL, Bool.true_and]
        · rw [Bool.not_eq_true] at hL
          rw [if_pos (by rw [hL]; rfl)]
          unfold isL
          rw [hL, Bool.false_and]
          constructor
          · intro q; omega
          · intro q; cases q
      · have hh := (decode_high s pos hp (by omega)).1
        have hL : isLr (s[pos]'hp).toNat = false := isLr_high (by omega)
        rw [if_pos (by rw [isLr_high hh]; rfl)]
        unfold isL
        rw [hL, Bool.false_and]
        constructor
        · intro q; omega
        · intro q; cases q
    · rw [if_neg hp, List.drop_eq_nil_of_le (by rw [← Lib.size_eq]; omega)]
      simp
theorem idx_all (s : ByteArray) : Lib.idxFunc (fun r => !isLr r) true s = -1 ↔ s.data.toList.all isL = true := by
  have := idx_from s s.size 0 (by omega)
  rwa [List.drop_zero] at this
theorem idx_lt (s : ByteArray) : decide (Lib.idxFunc (fun r => !isLr r) true s < 0) = s.data.toList.all isL := by
  have h := idx_all s
  rcases Lib.idxFuncFrom_range (fun r => !isLr r) true s s.size 0 with q | ⟨q, _⟩
  · have q' : Lib.idxFunc (fun r => !isLr r) true s = -1 := q
    rw [q', h.1 q']; rfl
  · have q' : 0 ≤ Lib.idxFunc (fun r => !isLr r) true s := q
    rw [decide_eq_false (by omega)]
    cases hx : s.data.toList.all isL with
    | false => rfl
    | true => have := h.2 hx; omega
end Go.Proofs.YtlideagcmhlkeaaDoor.P21

/- Chapter 30 in plain words: what Expand and Contract answer. No function of the program. -/
namespace Go.Proofs.YtlideagcmhlkeaaDoor
open Go.RowKit
set_option linter.unusedVariables false

/-- the rules of a set -/
def ofSet (L : List RV) (nm : ByteArray) : List RV := L.filter (fun r => decide (r.name = nm))
/-- what stands for %z in an era -/
def num30 (R : List RV) (e : EV) : ByteArray × Int := (str (P20.expansion e.kind e.off e.save (svs (if e.kind = 2 then ofSet R e.set else []))).1, (P20.expansion e.kind e.off e.save (svs (if e.kind = 2 then ofSet R e.set else []))).2)
/-- the era with a new FORMAT -/
def fmtE (F : EV → ByteArray × Int) (e : EV) : EV := { e with fmt := (F e).1 }
/-- the eras in front of a place have no error -/
def okTo30 (F : EV → ByteArray × Int) (Z : List ZV) (i k : Nat) : Prop := ∀ (a b : Nat) (z : ZV) (e : EV), Z[a]? = some z → z.eras[b]? = some e → (a < i ∨ (a = i ∧ b < k)) → (F e).2 = 0
/-- the first error, 0 if there is none -/
def ErrIs (F : EV → ByteArray × Int) (Z : List ZV) (x : Int) : Prop := (x = 0 ∧ okTo30 F Z Z.length 0) ∨ (x ≠ 0 ∧ ∃ (i k : Nat) (z : ZV) (e : EV), Z[i]? = some z ∧ z.eras[k]? = some e ∧ okTo30 F Z i k ∧ (F e).2 = x)
theorem okTo30.zero (F : EV → ByteArray × Int) (Z : List ZV) : okTo30 F Z 0 0 := fun a b z e _ _ h => by omega
theorem okTo30.step {F : EV → ByteArray × Int} {Z : List ZV} {i k : Nat} {z : ZV} {e : EV} (h : okTo30 F Z i k) (hz : Z[i]? = some z) (he : z.eras[k]? = some e) (h0 : (F e).2 = 0) : okTo30 F Z i (k + 1) := fun a b z' e' hz' he' hp => by
  by_cases hq : a = i ∧ b = k
  · obtain ⟨rfl, rfl⟩ := hq
    rw [hz] at hz'
    injection hz' with hz'
    subst hz'
    rw [he] at he'
    injection he' with he'
    subst he'
    exact h0
  · exact h a b z' e' hz' he' (by omega)
theorem okTo30.zone {F : EV → ByteArray × Int} {Z : List ZV} {i k : Nat} {z : ZV} (h : okTo30 F Z i k) (hz : Z[i]? = some z) (hk : z.eras.length ≤ k) : okTo30 F Z (i + 1) 0 := fun a b z' e' hz' he' hp => by
  by_cases hq : a = i
  · subst hq
    rw [hz] at hz'
    injection hz' with hz'
    subst hz'
    have := (List.getElem?_eq_some_iff.1 he').1
    exact h a b z e' hz he' (by omega)
  · exact h a b z' e' hz' he' (by omega)
theorem ErrIs.ok {F : EV → ByteArray × Int} {Z : List ZV} {i : Nat} (h : okTo30 F Z i 0) (hi : Z.length ≤ i) : ErrIs F Z 0 := .inl ⟨rfl, fun a b z e hz he _ => h a b z e hz he (by have := (List.getElem?_eq_some_iff.1 hz).1; omega)⟩
theorem ErrIs.bad {F : EV → ByteArray × Int} {Z : List ZV} {i k : Nat} {z : ZV} {e : EV} (h : okTo30 F Z i k) (hz : Z[i]? = some z) (he : z.eras[k]? = some e) (h0 : (F e).2 ≠ 0) : ErrIs F Z (F e).2 := .inr ⟨h0, i, k, z, e, hz, he, h, rfl⟩
theorem ErrIs.uniq {F : EV → ByteArray × Int} {Z : List ZV} {x y : Int} (hx : ErrIs F Z x) (hy : ErrIs F Z y) : x = y := by
  rcases hx with ⟨rfl, hx⟩ | ⟨hx0, i, k, z, e, hz, he, hok, rfl⟩
  · rcases hy with ⟨rfl, _⟩ | ⟨hy0, i, k, z, e, hz, he, hok, rfl⟩
    · rfl
    · exact absurd (hx i k z e hz he (by have := (List.getElem?_eq_some_iff.1 hz).1; omega)) hy0
  · rcases hy with ⟨rfl, hy⟩ | ⟨hy0, i', k', z', e', hz', he', hok', rfl⟩
    · exact absurd (hy i k z e hz he (by have := (List.getElem?_eq_some_iff.1 hz).1; omega)) hx0
    · by_cases h1 : i < i' ∨ (i = i' ∧ k < k')
      · exact absurd (hok' i k z e hz he h1) hx0
      · by_cases h2 : i' < i ∨ (i' = i ∧ k' < k)
        · exact absurd (hok i' k' z' e' hz' he' h2) hy0
        · obtain rfl : i = i' := by omega
          obtain rfl : k = k' := by omega
          rw [hz] at hz'
          injection hz' with hz'
          subst hz'
          rw [he] at he'
          injection he' with he'
          subst he'
          rfl
theorem ErrIs.same {F : EV → ByteArray × Int} {Z Y : List ZV} {x : Int} (h : zSame14 Z Y) (hx : ErrIs F Y x) : ErrIs F Z x := by
  have key : ∀ (a : Nat) (z : ZV), Z[a]? = some z → ∃ y, Y[a]? = some y ∧ z.eras = y.eras := fun a z hz => by
    have hl := (List.getElem?_eq_some_iff.1 hz).1
    obtain ⟨y, hy⟩ : ∃ y, Y[a]? = some y := ⟨_, List.getElem?_eq_getElem (by rw [← h.1]; exact hl)⟩
    exact ⟨y, hy, (h.2 a z y hl hz hy).2⟩
  have mono : ∀ i k, okTo30 F Y i k → okTo30 F Z i k := fun i k hok a b z e hz he hp => by
    obtain ⟨y, hy, hye⟩ := key a z hz
    rw [hye] at he
    exact hok a b y e hy he hp
  rcases hx with ⟨rfl, hx⟩ | ⟨hx0, i, k, y, e, hy, he, hok, rfl⟩
  · exact .inl ⟨rfl, by rw [h.1]; exact mono _ _ hx⟩
  · have hl := (List.getElem?_eq_some_iff.1 hy).1
    obtain ⟨z, hz⟩ : ∃ z, Z[i]? = some z := ⟨_, List.getElem?_eq_getElem (by rw [h.1]; exact hl)⟩
    refine .inr ⟨hx0, i, k, z, e, hz, ?_, mono _ _ hok, rfl⟩
    rw [(h.2 i z y (by rw [h.1]; exact hl) hz hy).2]
    exact he
/-- the FORMAT that Expand makes -/
def exF (R : List RV) (e : EV) : ByteArray × Int := if e.fmt = ⟨#[37, 122]⟩ then num30 R e else (e.fmt, 0)
/-- the FORMAT that Contract makes -/
def coF (R : List RV) (e : EV) : ByteArray × Int :=
  if P21.kind (P4.bl e.fmt) = 5 then (if (num30 R e).2 = 0 then (if (num30 R e).1 = e.fmt then (⟨#[37, 122]⟩, 0) else (⟨#[]⟩, 15)) else (⟨#[]⟩, (num30 R e).2)) else (e.fmt, 0)
/-- the empty source -/
def nilS : SV := ⟨none, 0, [], none, 0, [], none, 0, [], none, 0, []⟩
/-- what a change of all FORMATs gives -/
structure Res30 (F : EV → ByteArray × Int) (s t : SV) (x : Int) : Prop where
  err : ErrIs F s.zones x
  yes : x = 0 → sSame14 t (mapS (fmtE F) s)
  no : x ≠ 0 → sSame14 t nilS
/-- a source that is small enough to be copied, with numbers of the machine -/
structure Few30 (s : SV) : Prop where
  lens : s.rules.length ≤ 1000 ∧ s.zones.length ≤ 1000 ∧ s.links.length ≤ 1000 ∧ s.shifts.length ≤ 1000
  eras : ∀ z ∈ s.zones, z.eras.length ≤ 1000
  nums : ∀ z ∈ s.zones, ∀ e ∈ z.eras, (-9223372036854775808 ≤ e.off ∧ e.off ≤ 9223372036854775807) ∧ (-9223372036854775808 ≤ e.save ∧ e.save ≤ 9223372036854775807) ∧ e.fmt.size ≤ 1000000
  saves : SvOk s.rules
end Go.Proofs.YtlideagcmhlkeaaDoor
