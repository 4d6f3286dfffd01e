/- Texts of one proof, one behind the other: Shelf; Num20b; Num20c; Sam14b; Sam14c; CopyS; Num20d; Num20f; Num20g; Num20e; Num20h; Plain21. -/
import Derived.Test.YtlideagcmhlkeaaGreatDoorQ1
import Derived.Shelf.Strings.Builder1
import Derived.Shelf.Strings.Builder2
import Derived.Shelf.Strings.OnBuilder
import Derived.Shelf.Strings.BuilderF
import Derived.Shelf.Strings.BuilderK
import Derived.Shelf.Strconv.Itoa0
import Derived.Shelf.Strconv.Itoa1
import Derived.Shelf.LaysM
import Derived.Shelf.Strconv.Itoa2
import Derived.Shelf.Strconv.Itoa3
import Derived.Ground.MpProg
import Derived.Shelf.Pu.ParseUintPublic10
import Derived.Shelf.Pu.ErrVarParseUint
import Derived.Shelf.Strings.Search1
import Derived.Shelf.Strings.Search2
import Derived.Shelf.Strings.Cut
import Derived.Shelf.Strings.Shaped
import Derived.Shelf.GgClosure.StringsIndexFunc
import Derived.Ground.GgwProg
import Derived.Shelf.GgClosure.StringsIndexFuncTop
import Derived.Shelf.Strings.Prefix
import Derived.Shelf.Strings.FuncGrows
import Derived.Ground.Names2Prog
import Derived.Shelf.Slices.Clone
import Derived.Ground.SlgnProg
import Derived.Shelf.SlicesE.Clone
import Derived.Test.YtlideagcmhlkeaaGreatDoorProg
import Derived.Deep.CutBlock
import Derived.Lib.AtoiErrMem
import Derived.BigQuiet
import Derived.ArgAppend
import Derived.Deep.DeepCutAuto
import Derived.Lib.IndexMore
import Derived.Laws.RangeAny

/-
  DERIVED: THE SHELF's CONTRACTS AT THIS DUMP, IN PLAIN WORDS (tools/lay-plain.mjs out of 'YtlideagcmhlkeaaGreatDoorShelfRaw.lean', which tools/lay-shelf.mjs wrote): THE SAME DECLARATIONS UNDER THE SAME NAMES: 'import', 'namespace', 'open', 'def', 'theorem' AND NOTHING ELSE: no command of the shelf's: FOR A HAND-IN. Each laying: the table of numbers ('.._ren') and one theorem, a field a fact of the dump's own or the kernel's comparison; each contract: ONE APPLICATION.
-/
namespace Go.Proofs
open Go.Shelf
def Tryz.lays156_ren : Go.Shelf.Ren := ⟨fun | 156 => 54 | 165 => 64 | 166 => 65 | 169 => 66 | 240 => 75 | 241 => 76 | 276 => 85 | 277 => 86 | n => n, fun | 31 => 25 | 9 => 9 | 3 => 3 | 4 => 4 | 0 => 0 | 20 => 20 | 72 => 100 | 76 => 102 | 70 => 98 | 37 => 97 | 75 => 91 | 127 => 109 | 164 => 118 | 5 => 5 | 80 => 104 | n => n, fun | n => n⟩
theorem Tryz.lays156 : Go.Proofs.Lays.n156 Tryz.prog Tryz.lays156_ren := {
  mixed := by kernel_rfl
  f156 := Tryz.func54.trans (congrArg some (by kernel_rfl))
  f165 := Tryz.func64.trans (congrArg some (by kernel_rfl))
  f166 := Tryz.func65.trans (congrArg some (by kernel_rfl))
  f169 := Tryz.func66.trans (congrArg some (by kernel_rfl))
  f240 := Tryz.func75.trans (congrArg some (by kernel_rfl))
  f241 := Tryz.func76.trans (congrArg some (by kernel_rfl))
  f276 := Tryz.func85.trans (congrArg some (by kernel_rfl))
  f277 := Tryz.func86.trans (congrArg some (by kernel_rfl))
  t0 := Tryz.underlying0
  a0 := Tryz.isAgg0
  z0 := Tryz.sizeOf0
  v0 := Tryz.zeroValue0
  t3 := Tryz.underlying3
  a3 := Tryz.isAgg3
  z3 := Tryz.sizeOf3
  v3 := Tryz.zeroValue3
  t4 := Tryz.underlying4
  a4 := Tryz.isAgg4
  z4 := Tryz.sizeOf4
  v4 := Tryz.zeroValue4
  t9 := Tryz.underlying9
  a9 := Tryz.isAgg9
  z9 := Tryz.sizeOf9
  v9 := Tryz.zeroValue9
  t20 := Tryz.underlying20
  a20 := Tryz.isAgg20
  z20 := Tryz.sizeOf20
  v20 := Tryz.zeroValue20
  t31 := Tryz.underlying25
  a31 := Tryz.isAgg25
  z31 := Tryz.sizeOf25
  v31 := Tryz.zeroValue25
  t37 := Tryz.underlying97
  a37 := Tryz.isAgg97
  z37 := Tryz.sizeOf97
  v37 := Tryz.zeroValue97
  t70 := Tryz.underlying98
  a70 := Tryz.isAgg98
  z70 := Tryz.sizeOf98
  v70 := Tryz.zeroValue98
  t72 := Tryz.underlying100
  a72 := Tryz.isAgg100
  z72 := Tryz.sizeOf100
  v72 := Tryz.zeroValue100
  t75 := Tryz.underlying91
  a75 := Tryz.isAgg91
  z75 := Tryz.sizeOf91
  v75 := Tryz.zeroValue91
  t76 := Tryz.underlying102
  a76 := Tryz.isAgg102
  z76 := Tryz.sizeOf102
  v76 := Tryz.zeroValue102
  t127 := Tryz.underlying109
  a127 := Tryz.isAgg109
  z127 := Tryz.sizeOf109
  v127 := Tryz.zeroValue109
  t164 := Tryz.underlying118
  a164 := Tryz.isAgg118
  z164 := Tryz.sizeOf118
  v164 := Tryz.zeroValue118 }
theorem Tryz.Builder_Extra_156 : Builder.Extra Tryz.prog Tryz.lays156_ren := {
  sizeBuilder := by kernel_rfl
  liesBuilder := by kernel_rfl
  t5 := Tryz.underlying5
  a5 := Tryz.isAgg5
  z5 := Tryz.sizeOf5
  v5 := Tryz.zeroValue5
  infoByte := by kernel_rfl
  cellsByte := by kernel_rfl
  sizeByte := by kernel_rfl
  neB5 := by decide }
open Go.RowKit in
/-- strings.Join: "Join concatenates the elements of its first argument to create a single string. The separator string sep is placed between elements in the resulting string.": HOWEVER MANY ELEMENTS. Below the heap's end the world is as it was. (LAID: no walk: one application.) -/
theorem Tryz.strings_Join (bk o c : Nat) (xs : List ByteArray) (sep : ByteArray) (w : World) (hcells : ∀ (j : Nat) x, xs[j]? = some x → w.cell? ⟨bk, o + j, none⟩ = some (.string x)) (hbk : bk < w.heap.size) (hN : xs.length ≤ 140737488355328) (hcap : xs.length ≤ c) (hlen : (Lib.join (xs.map (·.data.toList)) sep.data.toList).length ≤ 140737488355328) :
    Calls Tryz.prog 54 #[.slice (some ⟨bk, o, none⟩) xs.length c, .string sep] w fun e w' => e = .returned (.string ⟨(Lib.join (xs.map (·.data.toList)) sep.data.toList).toArray⟩) ∧ Below w.heap.size w w' := Any.strings_Join Tryz.lays156 Tryz.Builder_Extra_156 bk o c xs sep w hcells hbk hN hcap hlen
def Tryz.laysPu14_ren : Go.Shelf.Ren := ⟨fun | 14 => 60 | 16 => 72 | 17 => 73 | 19 => 79 | 20 => 80 | 21 => 81 | 22 => 82 | 23 => 83 | 24 => 84 | 25 => 87 | 27 => 89 | 26 => 88 | 28 => 90 | 29 => 91 | 30 => 92 | 31 => 93 | 32 => 94 | 33 => 95 | 35 => 97 | 34 => 96 | 36 => 98 | 37 => 99 | 38 => 100 | 39 => 101 | 40 => 102 | n => n, fun | 9 => 9 | 3 => 3 | 22 => 89 | 24 => 91 | 25 => 92 | 4 => 4 | 34 => 113 | 5 => 5 | 36 => 107 | 37 => 97 | 0 => 0 | 39 => 115 | 21 => 21 | 44 => 123 | 47 => 109 | 50 => 128 | 48 => 126 | 2 => 2 | 52 => 130 | 55 => 133 | 59 => 136 | 60 => 110 | 20 => 20 | 61 => 137 | 65 => 141 | 66 => 142 | 67 => 104 | n => n, fun | 0 => 1 | 1 => 2 | 2 => 3 | 3 => 4 | 4 => 5 | n => n⟩
theorem Tryz.laysPu14 : Go.Proofs.LaysPu.n14 Tryz.prog Tryz.laysPu14_ren := {
  mixed := by kernel_rfl
  f14 := Tryz.func60.trans (congrArg some (by kernel_rfl))
  f16 := Tryz.func72.trans (congrArg some (by kernel_rfl))
  f17 := Tryz.func73.trans (congrArg some (by kernel_rfl))
  f19 := Tryz.func79.trans (congrArg some (by kernel_rfl))
  f20 := Tryz.func80.trans (congrArg some (by kernel_rfl))
  f21 := Tryz.func81.trans (congrArg some (by kernel_rfl))
  f22 := Tryz.func82.trans (congrArg some (by kernel_rfl))
  f23 := Tryz.func83.trans (congrArg some (by kernel_rfl))
  f24 := Tryz.func84.trans (congrArg some (by kernel_rfl))
  f25 := Tryz.func87.trans (congrArg some (by kernel_rfl))
  f26 := Tryz.func88.trans (congrArg some (by kernel_rfl))
  f27 := Tryz.func89.trans (congrArg some (by kernel_rfl))
  f28 := Tryz.func90.trans (congrArg some (by kernel_rfl))
  f29 := Tryz.func91.trans (congrArg some (by kernel_rfl))
  f30 := Tryz.func92.trans (congrArg some (by kernel_rfl))
  f31 := Tryz.func93.trans (congrArg some (by kernel_rfl))
  f32 := Tryz.func94.trans (congrArg some (by kernel_rfl))
  f33 := Tryz.func95.trans (congrArg some (by kernel_rfl))
  f34 := Tryz.func96.trans (congrArg some (by kernel_rfl))
  f35 := Tryz.func97.trans (congrArg some (by kernel_rfl))
  f36 := Tryz.func98.trans (congrArg some (by kernel_rfl))
  f37 := Tryz.func99.trans (congrArg some (by kernel_rfl))
  f38 := Tryz.func100.trans (congrArg some (by kernel_rfl))
  f39 := Tryz.func101.trans (congrArg some (by kernel_rfl))
  f40 := Tryz.func102.trans (congrArg some (by kernel_rfl))
  t0 := Tryz.underlying0
  a0 := Tryz.isAgg0
  z0 := Tryz.sizeOf0
  v0 := Tryz.zeroValue0
  i0 := by kernel_rfl
  t2 := Tryz.underlying2
  a2 := Tryz.isAgg2
  z2 := Tryz.sizeOf2
  v2 := Tryz.zeroValue2
  i2 := by kernel_rfl
  t3 := Tryz.underlying3
  a3 := Tryz.isAgg3
  z3 := Tryz.sizeOf3
  v3 := Tryz.zeroValue3
  i3 := by kernel_rfl
  t4 := Tryz.underlying4
  a4 := Tryz.isAgg4
  z4 := Tryz.sizeOf4
  v4 := Tryz.zeroValue4
  i4 := by kernel_rfl
  t5 := Tryz.underlying5
  a5 := Tryz.isAgg5
  z5 := Tryz.sizeOf5
  v5 := Tryz.zeroValue5
  i5 := by kernel_rfl
  t9 := Tryz.underlying9
  a9 := Tryz.isAgg9
  z9 := Tryz.sizeOf9
  v9 := Tryz.zeroValue9
  i9 := by kernel_rfl
  t20 := Tryz.underlying20
  a20 := Tryz.isAgg20
  z20 := Tryz.sizeOf20
  v20 := Tryz.zeroValue20
  i20 := by kernel_rfl
  t21 := Tryz.underlying21
  a21 := Tryz.isAgg21
  z21 := Tryz.sizeOf21
  v21 := Tryz.zeroValue21
  i21 := by kernel_rfl
  t22 := Tryz.underlying89
  a22 := Tryz.isAgg89
  z22 := Tryz.sizeOf89
  v22 := Tryz.zeroValue89
  i22 := by kernel_rfl
  t24 := Tryz.underlying91
  a24 := Tryz.isAgg91
  z24 := Tryz.sizeOf91
  v24 := Tryz.zeroValue91
  i24 := by kernel_rfl
  t25 := Tryz.underlying92
  a25 := Tryz.isAgg92
  z25 := Tryz.sizeOf92
  v25 := Tryz.zeroValue92
  i25 := by kernel_rfl
  t34 := Tryz.underlying113
  a34 := Tryz.isAgg113
  z34 := Tryz.sizeOf113
  v34 := Tryz.zeroValue113
  i34 := by kernel_rfl
  c34 := by kernel_rfl
  t36 := Tryz.underlying107
  a36 := Tryz.isAgg107
  z36 := Tryz.sizeOf107
  v36 := Tryz.zeroValue107
  i36 := by kernel_rfl
  t37 := Tryz.underlying97
  a37 := Tryz.isAgg97
  z37 := Tryz.sizeOf97
  v37 := Tryz.zeroValue97
  i37 := by kernel_rfl
  t39 := Tryz.underlying115
  a39 := Tryz.isAgg115
  z39 := Tryz.sizeOf115
  v39 := Tryz.zeroValue115
  i39 := by kernel_rfl
  t44 := Tryz.underlying123
  a44 := Tryz.isAgg123
  z44 := Tryz.sizeOf123
  v44 := Tryz.zeroValue123
  i44 := by kernel_rfl
  t47 := Tryz.underlying109
  a47 := Tryz.isAgg109
  z47 := Tryz.sizeOf109
  v47 := Tryz.zeroValue109
  i47 := by kernel_rfl
  t48 := Tryz.underlying126
  a48 := Tryz.isAgg126
  z48 := Tryz.sizeOf126
  v48 := Tryz.zeroValue126
  i48 := by kernel_rfl
  t50 := Tryz.underlying128
  a50 := Tryz.isAgg128
  z50 := Tryz.sizeOf128
  v50 := Tryz.zeroValue128
  i50 := by kernel_rfl
  t52 := Tryz.underlying130
  a52 := Tryz.isAgg130
  z52 := Tryz.sizeOf130
  v52 := Tryz.zeroValue130
  i52 := by kernel_rfl
  t55 := Tryz.underlying133
  a55 := Tryz.isAgg133
  z55 := Tryz.sizeOf133
  v55 := Tryz.zeroValue133
  i55 := by kernel_rfl
  t59 := Tryz.underlying136
  a59 := Tryz.isAgg136
  z59 := Tryz.sizeOf136
  v59 := Tryz.zeroValue136
  i59 := by kernel_rfl
  t60 := Tryz.underlying110
  a60 := Tryz.isAgg110
  z60 := Tryz.sizeOf110
  v60 := Tryz.zeroValue110
  i60 := by kernel_rfl
  t61 := Tryz.underlying137
  a61 := Tryz.isAgg137
  z61 := Tryz.sizeOf137
  t65 := Tryz.underlying141
  a65 := Tryz.isAgg141
  z65 := Tryz.sizeOf141
  v65 := Tryz.zeroValue141
  i65 := by kernel_rfl
  t66 := Tryz.underlying142
  a66 := Tryz.isAgg142
  z66 := Tryz.sizeOf142
  v66 := Tryz.zeroValue142
  i66 := by kernel_rfl
  t67 := Tryz.underlying104
  a67 := Tryz.isAgg104
  z67 := Tryz.sizeOf104
  v67 := Tryz.zeroValue104
  i67 := by kernel_rfl
  g0 := by kernel_rfl
  m0 := by kernel_rfl
  g1 := by kernel_rfl
  m1 := by kernel_rfl
  g2 := by kernel_rfl
  m2 := by kernel_rfl
  g3 := by kernel_rfl
  m3 := by kernel_rfl
  g4 := by kernel_rfl
  m4 := by kernel_rfl }
open Go.RowKit in
/-- strconv.ParseUint(s, 10, 8), AT EVERY STRING THAT SPELLS A uint8 ('Lib.parseUintB 8 s.data.toList = .ok u'): u, AND NO ERROR. (LAID: no walk: one application.) -/
theorem Tryz.strconv_ParseUint_10_at8_ok (s : ByteArray) (hmax : s.size ≤ 9223372036854775806) (u : Nat) (h : Lib.parseUintB 8 s.data.toList = .ok u) (w : World) :
    Calls Tryz.prog 60 #[.string s, .int .i64 10, .int .i64 8] w fun e w' => e = .returned (.tuple #[.int .u64 u, .nilIface]) ∧ (w' = w ∨ w' = Lib.bytesWorld w 5 s) := Any.strconv_ParseUint_10_at8_ok Tryz.laysPu14 s hmax u h w
def Tryz.lays219_ren : Go.Shelf.Ren := ⟨fun | 219 => 56 | 217 => 68 | 225 => 69 | 224 => 70 | 267 => 71 | 266 => 77 | 314 => 78 | n => n, fun | 9 => 9 | 3 => 3 | 4 => 4 | 5 => 5 | 46 => 107 | 146 => 111 | 51 => 110 | n => n, fun | 1 => 0 | n => n⟩
theorem Tryz.lays219 : Go.Proofs.Lays.n219 Tryz.prog Tryz.lays219_ren := {
  mixed := by kernel_rfl
  f217 := Tryz.func68.trans (congrArg some (by kernel_rfl))
  f219 := Tryz.func56.trans (congrArg some (by kernel_rfl))
  f224 := Tryz.func70.trans (congrArg some (by kernel_rfl))
  f225 := Tryz.func69.trans (congrArg some (by kernel_rfl))
  f266 := Tryz.func77.trans (congrArg some (by kernel_rfl))
  f267 := Tryz.func71.trans (congrArg some (by kernel_rfl))
  f314 := Tryz.func78.trans (congrArg some (by kernel_rfl))
  t3 := Tryz.underlying3
  a3 := Tryz.isAgg3
  z3 := Tryz.sizeOf3
  v3 := Tryz.zeroValue3
  t4 := Tryz.underlying4
  a4 := Tryz.isAgg4
  z4 := Tryz.sizeOf4
  v4 := Tryz.zeroValue4
  t5 := Tryz.underlying5
  a5 := Tryz.isAgg5
  z5 := Tryz.sizeOf5
  v5 := Tryz.zeroValue5
  t9 := Tryz.underlying9
  a9 := Tryz.isAgg9
  z9 := Tryz.sizeOf9
  v9 := Tryz.zeroValue9
  t46 := Tryz.underlying107
  a46 := Tryz.isAgg107
  z46 := Tryz.sizeOf107
  v46 := Tryz.zeroValue107
  t51 := Tryz.underlying110
  a51 := Tryz.isAgg110
  z51 := Tryz.sizeOf110
  v51 := Tryz.zeroValue110
  t146 := Tryz.underlying111
  a146 := Tryz.isAgg111
  z146 := Tryz.sizeOf111
  v146 := Tryz.zeroValue111
  g1 := by kernel_rfl }
open Go.RowKit Go.Lib in
/-- internal/stringslite.Index (what strings.Index calls) AT A substr OF ONE BYTE c: IT RETURNS 'Lib.indexByte s c'; the world is as it was. (LAID: no walk: one application.) -/
theorem Tryz.stringslite_Index_one (s : ByteArray) (c : UInt8) (w : World) :
    Calls Tryz.prog 56 #[.string s, .string ⟨#[c]⟩] w fun e w' => e = .returned (.int .i64 (Lib.indexByte s.data.toList c)) ∧ w' = w := Any.stringslite_Index_one Tryz.lays219 s c w
def Tryz.lays145_ren : Go.Shelf.Ren := ⟨fun | 145 => 32 | 220 => 45 | 219 => 56 | 217 => 68 | 225 => 69 | 224 => 70 | 267 => 71 | 266 => 77 | 314 => 78 | n => n, fun | 9 => 9 | 4 => 4 | 59 => 68 | 3 => 3 | 5 => 5 | 46 => 107 | 146 => 111 | 51 => 110 | n => n, fun | 1 => 0 | n => n⟩
theorem Tryz.lays145 : Go.Proofs.Lays.n145 Tryz.prog Tryz.lays145_ren := {
  mixed := by kernel_rfl
  f145 := Tryz.func32.trans (congrArg some (by kernel_rfl))
  f217 := Tryz.func68.trans (congrArg some (by kernel_rfl))
  f219 := Tryz.func56.trans (congrArg some (by kernel_rfl))
  f220 := Tryz.func45.trans (congrArg some (by kernel_rfl))
  f224 := Tryz.func70.trans (congrArg some (by kernel_rfl))
  f225 := Tryz.func69.trans (congrArg some (by kernel_rfl))
  f266 := Tryz.func77.trans (congrArg some (by kernel_rfl))
  f267 := Tryz.func71.trans (congrArg some (by kernel_rfl))
  f314 := Tryz.func78.trans (congrArg some (by kernel_rfl))
  t3 := Tryz.underlying3
  a3 := Tryz.isAgg3
  z3 := Tryz.sizeOf3
  v3 := Tryz.zeroValue3
  t4 := Tryz.underlying4
  a4 := Tryz.isAgg4
  z4 := Tryz.sizeOf4
  v4 := Tryz.zeroValue4
  t5 := Tryz.underlying5
  a5 := Tryz.isAgg5
  z5 := Tryz.sizeOf5
  v5 := Tryz.zeroValue5
  t9 := Tryz.underlying9
  a9 := Tryz.isAgg9
  z9 := Tryz.sizeOf9
  v9 := Tryz.zeroValue9
  t46 := Tryz.underlying107
  a46 := Tryz.isAgg107
  z46 := Tryz.sizeOf107
  v46 := Tryz.zeroValue107
  t51 := Tryz.underlying110
  a51 := Tryz.isAgg110
  z51 := Tryz.sizeOf110
  v51 := Tryz.zeroValue110
  t59 := Tryz.underlying68
  a59 := Tryz.isAgg68
  z59 := Tryz.sizeOf68
  v59 := Tryz.zeroValue68
  t146 := Tryz.underlying111
  a146 := Tryz.isAgg111
  z146 := Tryz.sizeOf111
  v146 := Tryz.zeroValue111
  g1 := by kernel_rfl }
open Go.RowKit Go.Lib in
/-- strings.Cut: "Cut slices s around the first instance of sep, returning the text before and after sep. The found result reports whether sep appears in s. If sep does not appear in s, cut returns s, "", false.": IT RETURNS 'Lib.cut s sep'; the world is as it was but for the count of draws. (LAID: no walk: one application.) -/
theorem Tryz.strings_Cut (s sep : ByteArray) (m : Int) (w : World) (hs : s.size < 4294967281) (hm : w.cell? ⟨0, 0, none⟩ = some (.int .i64 m)) :
    Calls Tryz.prog 32 #[.string s, .string sep] w fun e w' => e = .returned (.tuple #[.string ⟨(Lib.cut s.data.toList sep.data.toList).1.toArray⟩, .string ⟨(Lib.cut s.data.toList sep.data.toList).2.1.toArray⟩, .bool (Lib.cut s.data.toList sep.data.toList).2.2]) ∧ ∃ n, w' = w.drewN n := Any.strings_Cut Tryz.lays145 s sep m w hs hm
def Tryz.laysM145_ren : Go.Shelf.Ren := ⟨fun | 145 => 32 | 220 => 45 | 219 => 56 | 217 => 68 | 225 => 69 | 224 => 70 | 267 => 71 | 266 => 77 | 314 => 78 | n => n, fun | 9 => 9 | 4 => 4 | 59 => 68 | 3 => 3 | 5 => 5 | 46 => 107 | 146 => 111 | 51 => 110 | n => n, fun | 1 => 0 | n => n⟩
theorem Tryz.laysM145 : Go.Proofs.LaysM.n145 Tryz.prog Tryz.laysM145_ren := {
  mixed := by kernel_rfl
  f145 := Tryz.func32.trans (congrArg some (by kernel_rfl))
  f217 := Tryz.func68.trans (congrArg some (by kernel_rfl))
  f219 := Tryz.func56.trans (congrArg some (by kernel_rfl))
  f220 := Tryz.func45.trans (congrArg some (by kernel_rfl))
  f224 := Tryz.func70.trans (congrArg some (by kernel_rfl))
  f225 := Tryz.func69.trans (congrArg some (by kernel_rfl))
  f266 := Tryz.func77.trans (congrArg some (by kernel_rfl))
  f267 := Tryz.func71.trans (congrArg some (by kernel_rfl))
  f314 := Tryz.func78.trans (congrArg some (by kernel_rfl))
  t3 := Tryz.underlying3
  a3 := Tryz.isAgg3
  z3 := Tryz.sizeOf3
  v3 := Tryz.zeroValue3
  t4 := Tryz.underlying4
  a4 := Tryz.isAgg4
  z4 := Tryz.sizeOf4
  v4 := Tryz.zeroValue4
  t5 := Tryz.underlying5
  a5 := Tryz.isAgg5
  z5 := Tryz.sizeOf5
  v5 := Tryz.zeroValue5
  t9 := Tryz.underlying9
  a9 := Tryz.isAgg9
  z9 := Tryz.sizeOf9
  v9 := Tryz.zeroValue9
  t46 := Tryz.underlying107
  a46 := Tryz.isAgg107
  z46 := Tryz.sizeOf107
  v46 := Tryz.zeroValue107
  t51 := Tryz.underlying110
  a51 := Tryz.isAgg110
  z51 := Tryz.sizeOf110
  v51 := Tryz.zeroValue110
  t59 := Tryz.underlying68
  a59 := Tryz.isAgg68
  z59 := Tryz.sizeOf68
  v59 := Tryz.zeroValue68
  t146 := Tryz.underlying111
  a146 := Tryz.isAgg111
  z146 := Tryz.sizeOf111
  v146 := Tryz.zeroValue111
  g1 := by kernel_rfl
  i3 := by kernel_rfl
  i4 := by kernel_rfl
  i5 := by kernel_rfl
  i9 := by kernel_rfl
  i46 := by kernel_rfl
  i51 := by kernel_rfl
  i59 := by kernel_rfl
  i146 := by kernel_rfl
  m1 := by kernel_rfl
  s1_3 := fun w h => Go.Proofs.cell_of_shapedOpen_int (zero := #[.int .i64 0]) (t := 3) h (of_decide_eq_true (by kernel_rfl)) (by kernel_rfl) rfl (by kernel_rfl) (by kernel_rfl) Tryz.underlying3 }
open Go.RowKit Go.Lib in
theorem Tryz.strings_Cut_shaped (s sep : ByteArray) (w : World) (h : w.ShapedOpen Tryz.prog) (hs : s.size < 4294967281) :
    Calls Tryz.prog 32 #[.string s, .string sep] w fun e w' => e = .returned (.tuple #[.string ⟨(Lib.cut s.data.toList sep.data.toList).1.toArray⟩, .string ⟨(Lib.cut s.data.toList sep.data.toList).2.1.toArray⟩, .bool (Lib.cut s.data.toList sep.data.toList).2.2]) ∧ ∃ n, w' = w.drewN n := Any.strings_Cut_shaped Tryz.laysM145 s sep w h hs
def Tryz.lays315_ren : Go.Shelf.Ren := ⟨fun | 315 => 57 | n => n, fun | 9 => 9 | 40 => 77 | 4 => 4 | 3 => 3 | 0 => 0 | 21 => 21 | n => n, fun | n => n⟩
theorem Tryz.lays315 : Go.Proofs.Lays.n315 Tryz.prog Tryz.lays315_ren := {
  mixed := by kernel_rfl
  f315 := Tryz.func57.trans (congrArg some (by kernel_rfl))
  t0 := Tryz.underlying0
  a0 := Tryz.isAgg0
  z0 := Tryz.sizeOf0
  v0 := Tryz.zeroValue0
  t3 := Tryz.underlying3
  a3 := Tryz.isAgg3
  z3 := Tryz.sizeOf3
  v3 := Tryz.zeroValue3
  t4 := Tryz.underlying4
  a4 := Tryz.isAgg4
  z4 := Tryz.sizeOf4
  v4 := Tryz.zeroValue4
  t9 := Tryz.underlying9
  a9 := Tryz.isAgg9
  z9 := Tryz.sizeOf9
  v9 := Tryz.zeroValue9
  t21 := Tryz.underlying21
  a21 := Tryz.isAgg21
  z21 := Tryz.sizeOf21
  v21 := Tryz.zeroValue21
  t40 := Tryz.underlying77
  a40 := Tryz.isAgg77
  z40 := Tryz.sizeOf77
  v40 := Tryz.zeroValue77 }
open Go.RowKit Go.Lib in
theorem Tryz.strings_indexFunc (g : Nat) (lb : Array Value) (eg : ∀ args w, (callFunc g args).run Tryz.prog w = .ok (.enter g args) w) (p : Nat → Bool) (truth : Bool) (s : ByteArray) (w : World) (hp : PredAt Tryz.prog g lb encR p w) :
    Calls Tryz.prog 57 #[.string s, .func (.func g) #[] lb, .bool truth] w fun e w' => e = .returned (.int .i64 (Lib.idxFunc p truth s)) ∧ Below w.heap.size w w' := Any.strings_indexFunc Tryz.lays315 g lb eg p truth s w hp
def Tryz.lays99_ren : Go.Shelf.Ren := ⟨fun | 99 => 61 | 206 => 74 | n => n, fun | 9 => 9 | 4 => 4 | 3 => 3 | n => n, fun | n => n⟩
theorem Tryz.lays99 : Go.Proofs.Lays.n99 Tryz.prog Tryz.lays99_ren := {
  mixed := by kernel_rfl
  f99 := Tryz.func61.trans (congrArg some (by kernel_rfl))
  f206 := Tryz.func74.trans (congrArg some (by kernel_rfl))
  t3 := Tryz.underlying3
  a3 := Tryz.isAgg3
  z3 := Tryz.sizeOf3
  v3 := Tryz.zeroValue3
  t4 := Tryz.underlying4
  a4 := Tryz.isAgg4
  z4 := Tryz.sizeOf4
  v4 := Tryz.zeroValue4
  t9 := Tryz.underlying9
  a9 := Tryz.isAgg9
  z9 := Tryz.sizeOf9
  v9 := Tryz.zeroValue9 }
open Go.RowKit Go.Lib in
/-- strings.HasPrefix: "HasPrefix reports whether the string s begins with prefix.": IT RETURNS 'Lib.hasPrefix s prefix'; the world is as it was. (LAID: no walk: one application.) -/
theorem Tryz.strings_HasPrefix (s p : ByteArray) (w : World) :
    Calls Tryz.prog 61 #[.string s, .string p] w fun e w' => e = .returned (.bool (Lib.hasPrefix s.data.toList p.data.toList)) ∧ w' = w := Any.strings_HasPrefix Tryz.lays99 s p w
end Go.Proofs

/- The walks of numeric.Text at every offset, numeric.Parse, and of the reference's Text and Parse (chapter 20). -/
namespace Go.Proofs.YtlideagcmhlkeaaGreatDoor
open Go.RowKit
set_option linter.unusedVariables false

theorem gSyn : Tryz.prog.globalNamed "strconv.ErrSyntax" = some 1 := by kernel_rfl
theorem var_below {P : Program} {B g : Nat} {W W' : World} {n : String} {cs : Array Value} (h : Below B W W') (hg : P.globalNamed n = some g) (hgB : g < B) (hv : W.var? P n = some cs) : W'.var? P n = some cs := by
  unfold World.var? at hv ⊢
  simp only [hg, Option.bind_some] at hv ⊢
  rw [h.block g hgB]
  exact hv
/-- the one variable that chapter 20 reads: the error of a number that is none -/
structure Vars (w : World) : Prop where
  syn : ∃ tp p, w.var? Tryz.prog "strconv.ErrSyntax" = some #[.iface tp p]
  big : 1 < w.heap.size
theorem Vars.below {w w' : World} (h : Vars w) (hb : Below w.heap.size w w') : Vars w' := by
  obtain ⟨tp, p, hs⟩ := h.syn
  exact ⟨⟨tp, p, var_below hb gSyn h.big hs⟩, Nat.lt_of_lt_of_le h.big hb.size⟩

set_option maxRecDepth 100000 in
set_option maxHeartbeats 400000 in
theorem ntext_any (x : Int) (w : World) (h0 : -9223372036854775808 ≤ x) (h1 : x ≤ 9223372036854775807) :
    Calls Tryz.prog 53 #[.int .i64 x] w fun e w' => e = .returned (.string (str (P20.text x))) ∧ Below w.heap.size w w' := by
  by_cases hr : x ≤ -86400 ∨ 86400 ≤ x
  · rw [P20.text_out hr]
    rcases hr with h | h
    · go_enter Tryz.func53, Tryz.ntmps53
      go_wp2_with fail
      go_step3
      go_wp2_with fail
      try rw [Exit.noGoto_ret]
      go_ret
      exact ⟨rfl, Below.refl _ _⟩
    · have h' : ¬ x ≤ -86400 := by omega
      go_enter Tryz.func53, Tryz.ntmps53
      go_wp2_with fail
      go_step3
      go_wp2_with fail
      try rw [Exit.noGoto_ret]
      go_ret
      exact ⟨rfl, Below.refl _ _⟩
  · rw [P20.text_in (by omega) (by omega)]
    by_cases hn : x < 0
    · rw [if_pos hn]; exact ntext_in 45 x x.natAbs w (by omega) (.inr ⟨hn, by omega, rfl⟩)
    · rw [if_neg hn]; exact ntext_in 43 x x.natAbs w (by omega) (.inl ⟨by omega, rfl⟩)

theorem text_two (n : Nat) : str (P20.textN n) = str (P4.two (n / 3600)) ++ str (if n % 3600 = 0 then [] else P4.two (n / 60 % 60)) ++ str (if n % 60 = 0 then [] else P4.two (n % 60)) := by
  unfold P20.textN; rw [str_append, str_append]
set_option maxRecDepth 100000 in
set_option maxHeartbeats 2000000 in
theorem rtext_in (sg : UInt8) (x : Int) (n : Nat) (w : World) (hn : n ≤ 86399) (hx : (x = n ∧ sg = 43) ∨ (x < 0 ∧ x = -(n : Int) ∧ sg = 45)) :
    Calls Tryz.prog 42 #[.int .i64 x] w fun e w' => e = .returned (.string (str (sg :: P20.textN n))) ∧ Q w w' := by
  have hni : (n : Int) ≤ 86399 := by omega
  have c1 : Hid (∀ W, Calls Tryz.prog 55 #[.int .i64 ((n : Int) / 3600)] W fun e w' => e = .returned (.string (str (P4.two (n / 3600)))) ∧ Q W w') := fun W => rtwo_any (n / 3600) W (by omega)
  have c2 : Hid (∀ W, Calls Tryz.prog 55 #[.int .i64 ((n : Int) / 60 % 60)] W fun e w' => e = .returned (.string (str (P4.two (n / 60 % 60)))) ∧ Q W w') := fun W => rtwo_any (n / 60 % 60) W (by omega)
  have c3 : Hid (∀ W, Calls Tryz.prog 55 #[.int .i64 ((n : Int) % 60)] W fun e w' => e = .returned (.string (str (P4.two (n % 60)))) ∧ Q W w') := fun W => rtwo_any (n % 60) W (by omega)
  have hE : str (sg :: P20.textN n) = str [sg] ++ str (P4.two (n / 3600)) ++ str (if n % 3600 = 0 then [] else P4.two (n / 60 % 60)) ++ str (if n % 60 = 0 then [] else P4.two (n % 60)) := by
    rw [show sg :: P20.textN n = [sg] ++ P20.textN n from rfl, ← str_append, text_two]
    simp only [str_append, List.append_assoc]
  have l1 : (str (P4.two (n / 3600))).size ≤ 2 := Nat.le_refl 2
  have l2 : (str (P4.two (n / 60 % 60))).size ≤ 2 := Nat.le_refl 2
  have l3 : (str (P4.two (n % 60))).size ≤ 2 := Nat.le_refl 2
  by_cases z1 : n % 3600 = 0
  · have z2 : n % 60 = 0 := by omega
    rw [if_pos z1, if_pos z2, show str [] = ByteArray.empty from rfl, ByteArray.append_empty, ByteArray.append_empty] at hE
    have b1 : ((n : Int) % 3600 != 0) = false := by rw [bne_eq_false_iff_eq]; omega
    have b2 : ((n : Int) % 60 != 0) = false := by rw [bne_eq_false_iff_eq]; omega
    have HE := Lib.hid hE
    clear hE z1 z2
    rcases hx with ⟨rfl, rfl⟩ | ⟨hneg, rfl, rfl⟩
    · go_enter Tryz.func42, Tryz.ntmps42
      go_wp2_with fail
      refine (c1.out _).mono ?_
      rintro e w' ⟨rfl, mc1, rfl⟩
      go_wp2_with fail
      go_ret
      exact ⟨by rw [HE.out]; rfl, _, rfl⟩
    · go_enter Tryz.func42, Tryz.ntmps42
      go_wp2_with fail
      refine (c1.out _).mono ?_
      rintro e w' ⟨rfl, mc1, rfl⟩
      go_wp2_with fail
      go_ret
      exact ⟨by rw [HE.out]; rfl, _, rfl⟩
  · have b1 : ((n : Int) % 3600 != 0) = true := by rw [bne_iff_ne]; omega
    by_cases z2 : n % 60 = 0
    · rw [if_neg z1, if_pos z2, show str [] = ByteArray.empty from rfl, ByteArray.append_empty] at hE
      have b2 : ((n : Int) % 60 != 0) = false := by rw [bne_eq_false_iff_eq]; omega
      have HE := Lib.hid hE
      clear hE z1 z2
      rcases hx with ⟨rfl, rfl⟩ | ⟨hneg, rfl, rfl⟩
      · go_enter Tryz.func42, Tryz.ntmps42
        go_wp2_with fail
        refine (c1.out _).mono ?_
        rintro e w' ⟨rfl, mc1, rfl⟩
        go_wp2_with fail
        refine (c2.out _).mono ?_
        rintro e w' ⟨rfl, mc2, rfl⟩
        go_wp2_with fail
        go_ret
        exact ⟨by rw [HE.out]; rfl, _, rfl⟩
      · go_enter Tryz.func42, Tryz.ntmps42
        go_wp2_with fail
        refine (c1.out _).mono ?_
        rintro e w' ⟨rfl, mc1, rfl⟩
        go_wp2_with fail
        refine (c2.out _).mono ?_
        rintro e w' ⟨rfl, mc2, rfl⟩
        go_wp2_with fail
        go_ret
        exact ⟨by rw [HE.out]; rfl, _, rfl⟩
    · rw [if_neg z1, if_neg z2] at hE
      have b2 : ((n : Int) % 60 != 0) = true := by rw [bne_iff_ne]; omega
      have HE := Lib.hid hE
      clear hE z1 z2
      rcases hx with ⟨rfl, rfl⟩ | ⟨hneg, rfl, rfl⟩
      · go_enter Tryz.func42, Tryz.ntmps42
        go_wp2_with fail
        refine (c1.out _).mono ?_
        rintro e w' ⟨rfl, mc1, rfl⟩
        go_wp2_with fail
        refine (c2.out _).mono ?_
        rintro e w' ⟨rfl, mc2, rfl⟩
        go_wp2_with fail
        refine (c3.out _).mono ?_
        rintro e w' ⟨rfl, mc3, rfl⟩
        go_wp2_with fail
        go_ret
        exact ⟨by rw [HE.out]; rfl, _, rfl⟩
      · go_enter Tryz.func42, Tryz.ntmps42
        go_wp2_with fail
        refine (c1.out _).mono ?_
        rintro e w' ⟨rfl, mc1, rfl⟩
        go_wp2_with fail
        refine (c2.out _).mono ?_
        rintro e w' ⟨rfl, mc2, rfl⟩
        go_wp2_with fail
        refine (c3.out _).mono ?_
        rintro e w' ⟨rfl, mc3, rfl⟩
        go_wp2_with fail
        go_ret
        exact ⟨by rw [HE.out]; rfl, _, rfl⟩
set_option maxHeartbeats 400000 in
theorem rtext_any (x : Int) (w : World) (h0 : -9223372036854775808 ≤ x) (h1 : x ≤ 9223372036854775807) :
    Calls Tryz.prog 42 #[.int .i64 x] w fun e w' => e = .returned (.string (str (P20.text x))) ∧ Q w w' := by
  by_cases hr : x ≤ -86400 ∨ 86400 ≤ x
  · rw [P20.text_out hr]
    rcases hr with h | h
    · have h' : x < -86399 := by omega
      go_enter Tryz.func42, Tryz.ntmps42
      go_wp2_with fail
      go_ret
      exact ⟨rfl, Q.refl _⟩
    · have h' : ¬ x < -86399 := by omega
      have h2 : 86399 < x := by omega
      go_enter Tryz.func42, Tryz.ntmps42
      go_wp2_with fail
      go_ret
      exact ⟨rfl, Q.refl _⟩
  · rw [P20.text_in (by omega) (by omega)]
    by_cases hn : x < 0
    · rw [if_pos hn]; exact rtext_in 45 x x.natAbs w (by omega) (.inr ⟨hn, by omega, rfl⟩)
    · rw [if_neg hn]; exact rtext_in 43 x x.natAbs w (by omega) (.inl ⟨by omega, rfl⟩)
end Go.Proofs.YtlideagcmhlkeaaGreatDoor

/- The walk of numeric.Parse (chapter 20). -/
namespace Go.Proofs.YtlideagcmhlkeaaGreatDoor
open Go.RowKit
set_option linter.unusedVariables false

theorem puint_ok (d : ByteArray) (u : Nat) (w : World) (hd : d.size ≤ 2) (h : Lib.parseUintB 8 (P4.bl d) = .ok u) :
    Calls Tryz.prog 60 #[.string d, .int .i64 10, .int .i64 8] w fun e w' => e = .returned (.tuple #[.int .u64 (u : Int), .nilIface]) ∧ Below w.heap.size w w' := by
  refine (Tryz.strconv_ParseUint_10_at8_ok d (by omega) u h w).mono ?_
  rintro e w' ⟨rfl, hw⟩
  refine ⟨rfl, ?_⟩
  rcases hw with rfl | rfl
  · exact Below.refl _ _
  · exact Lib.bytesWorld_below _ _ _
theorem puint_no (d : ByteArray) (w : World) (hd : d.size ≤ 2) (h : Lib.parseUintB 8 (P4.bl d) = Lib.parseUintB 8 []) (hv : Vars w) :
    Calls Tryz.prog 60 #[.string d, .int .i64 10, .int .i64 8] w fun e w' => (∃ N, e = .returned (.tuple #[.int .u64 0, .iface 115 (.pointer (some ⟨N, 0, none⟩))])) ∧ Below w.heap.size w w' := by
  obtain ⟨tp, p, hs⟩ := hv.syn
  refine (Any.strconv_ParseUint_10_at8_syntax_var Tryz.laysPu14 d (by omega) h tp p w hs).mono ?_
  rintro e w' ⟨N, rfl, _, _, hb⟩
  exact ⟨⟨N, rfl⟩, hb⟩
theorem eq_b (a b : ByteArray) (h : ¬ a = b) : (a.toList == b.toList) = false := by
  rw [beq_eq_false_iff_ne]
  intro q
  rw [ByteArray.toList_eq, ByteArray.toList_eq] at q
  exact h (ByteArray.ext (Array.toList_inj.mp q))
theorem ne_b (a b : ByteArray) (h : ¬ a = b) : (a.toList != b.toList) = true := by rw [bne, eq_b a b h]; rfl
theorem str_ne {l : List UInt8} (h : 0 < l.length) : (str l).toList.isEmpty = false ∧ ¬ (str l).toList = [] := by
  have e : (str l).toList = l := by rw [ByteArray.toList_eq]; rfl
  rw [e]
  cases l with
  | nil => simp at h
  | cons a l => exact ⟨rfl, by simp⟩
theorem s_ne {s : ByteArray} (h : 0 < s.size) : s.toList.isEmpty = false ∧ ¬ s.toList = [] := str_ne (l := P4.bl s) (by rw [P4.bl_len]; exact h)
theorem idx3 (k v : Int) (h : (k = 0 ∧ v = 3600) ∨ (k = 1 ∧ v = 60) ∨ (k = 2 ∧ v = 1)) : ∀ w : World, (Instr.index 88 (.agg #[.int .i64 3600, .int .i64 60, .int .i64 1]) (.int .i64 k)).run Tryz.prog w = .ok (.int .i64 v) w := by
  intro w
  rcases h with ⟨rfl, rfl⟩ | ⟨rfl, rfl⟩ | ⟨rfl, rfl⟩
  · kernel_rfl
  · kernel_rfl
  · kernel_rfl
/-- a part of the string, read -/
theorem part_cases (s : ByteArray) (k : Nat) (j : Nat) (h1 : 1 + 2 * k < s.size) (hj : (j = 3 + 2 * k ∧ 3 + 2 * k ≤ s.size) ∨ (j = s.size ∧ s.size ≤ 3 + 2 * k)) :
    P4.bl (s.extract (1 + 2 * k) j) = ((P4.bl s).drop (1 + 2 * k)).take 2 ∧ (s.extract (1 + 2 * k) j).size ≤ 2 ∧ (P4.bl s).drop (1 + 2 * k) ≠ [] ∧
    ((∃ u : Nat, Lib.parseUintB 8 (P4.bl (s.extract (1 + 2 * k) j)) = .ok u ∧ P20.chunk false (((P4.bl s).drop (1 + 2 * k)).take 2) = some (u : Int) ∧ u ≤ 99) ∨
      (Lib.parseUintB 8 (P4.bl (s.extract (1 + 2 * k) j)) = Lib.parseUintB 8 [] ∧ P20.chunk false (((P4.bl s).drop (1 + 2 * k)).take 2) = none)) := by
  have hl := P4.bl_len s
  have hb := P20.chunk_bl s (1 + 2 * k) j (by omega)
  have hz : (s.extract (1 + 2 * k) j).size = j - (1 + 2 * k) := by rw [ByteArray.size_extract]; omega
  refine ⟨hb, by omega, ?_, ?_⟩
  · intro q
    have := congrArg List.length q
    rw [List.length_drop, List.length_nil] at this
    omega
  · rw [← hb]
    exact P20.uint8_cases _ (by rw [P4.bl_len]; omega)

set_option maxRecDepth 100000 in
set_option maxHeartbeats 8000000 in
theorem nparse_any (s : ByteArray) (w : World) (hs : s.size ≤ 1000000) (hv : Vars w) :
    Calls Tryz.prog 49 #[.string s] w fun e w' => e = .returned (.tuple #[.int .i64 (P20.parse (P4.bl s)).1, .int .i64 (P20.parse (P4.bl s)).2]) ∧ Below w.heap.size w w' := by
  rw [← P20.parse_loose]
  obtain ⟨R, hR⟩ : ∃ R, R = P20.parseB false (P4.bl s) := ⟨_, rfl⟩
  rw [← hR]
  have HR : Hid (P20.fin (P4.bl s) (P20.pv false P20.units 0 ((P4.bl s).drop (1 + 2 * 0))) = R) := Lib.hid hR.symm
  clear hR
  have hsz : (s.size : Int) ≤ 1000000 := by omega
  go_enter Tryz.func49, Tryz.ntmps49
  go_upto_block 0 with (fail)
  go_cut [4] (fun s4 wx => ∃ acc : Int, s4 = .int .i64 acc ∧ 0 ≤ acc ∧ acc ≤ 99 * 3661 ∧ Hid (P20.fin (P4.bl s) (some acc) = R) ∧ Below w.heap.size w wx)
  case first =>
    go_wp2_with fail
    go_loopw [4, 10] (fun s4 i wr => ∃ k acc : Int, (k = 0 ∨ k = 1 ∨ k = 2 ∨ k = 3) ∧ i = .int .i64 k ∧ s4 = .int .i64 acc ∧ 0 ≤ acc ∧ acc ≤ 99 * 3661 ∧ (k = 0 → acc = 0) ∧ (k = 1 → acc ≤ 99 * 3600) ∧ (k = 2 → acc ≤ 99 * 3660) ∧ Hid (P20.fin (P4.bl s) (P20.pv false (P20.units.drop k.toNat) acc ((P4.bl s).drop (1 + 2 * k.toNat))) = R) ∧ Below w.heap.size w wr) (fun _ i _ => 3 - (intOf i).toNat)
    case atStart => exact ⟨0, 0, .inl rfl, rfl, rfl, by omega, by omega, fun _ => rfl, by omega, by omega, HR, Below.refl _ _⟩
    case round =>
      clear HR
      obtain ⟨k, acc, hk, rfl, rfl, ha0, ha1, hk0, hk1, hk2, HR, hb⟩ := hrel
      rcases hk with rfl | rfl | rfl | rfl
      · have hbd : acc ≤ 0 := by have := hk0 rfl; omega
        have hv1 := hv.below hb
        clear hk0 hk1 hk2
        have hix := idx3 0 3600 (by omega)
        by_cases h1 : 1 < s.size
        · have h1i : (1 : Int) < (s.size : Int) := by omega
          obtain ⟨hbl, hD, hne, hcs⟩ := part_cases s 0 ((min 3 (s.size : Int)).toNat) h1 (by omega)
          have HN := Lib.hid hne
          rcases hcs with ⟨u, hu, hc, hu9⟩ | ⟨hu, hc⟩
          · have HG : Hid (P20.fin (P4.bl s) (P20.pv false (P20.units.drop 1) (acc + u * 3600) ((P4.bl s).drop (1 + 2 * 1))) = R) := by
              have q := P20.pv_go false 3600 (P20.units.drop 1) acc _ hne u hc
              rw [List.drop_drop] at q
              exact Lib.hid ((congrArg _ q.symm).trans HR.out)
            have cU : Hid (∀ W, Calls Tryz.prog 60 #[.string (s.extract 1 (min 3 (s.size : Int)).toNat), .int .i64 10, .int .i64 8] W fun e w' => e = .returned (.tuple #[.int .u64 (u : Int), .nilIface]) ∧ Below W.heap.size W w') := fun W => puint_ok _ u W hD hu
            have hui : (u : Int) ≤ 99 := by omega
            clear HR hbl hD hne hu hc hu9 h1 HN
            go_wp2_with fail
            refine (cU.out _).mono ?_
            rintro e w1 ⟨rfl, hc1⟩
            have hb2 := hb.trans (hc1.mono hb.size)
            clear hc1 hb cU
            go_wp2_with fail
            go_roundw
            case rel => exact ⟨1, acc + u * 3600, by omega, by go_num, by go_num, by omega, by omega, by omega, by omega, by omega, HG, hb2⟩
            case measure => simp [intOf]
          · have HG : R = (0, 5) := by
              have q := P20.pv_stop false 3600 (P20.units.drop 1) acc _ hne hc
              exact (HR.out.symm.trans (congrArg _ q)).trans rfl
            have HG' := Lib.hid HG
            have cU : Hid (∀ W, Vars W → Calls Tryz.prog 60 #[.string (s.extract 1 (min 3 (s.size : Int)).toNat), .int .i64 10, .int .i64 8] W fun e w' => (∃ N, e = .returned (.tuple #[.int .u64 0, .iface 115 (.pointer (some ⟨N, 0, none⟩))])) ∧ Below W.heap.size W w') := fun W h => puint_no _ W hD hu h
            clear HR hbl hD hne hu hc h1 HN HG
            go_wp2_with fail
            refine (cU.out _ hv1).mono ?_
            rintro e w1 ⟨⟨N, rfl⟩, hc1⟩
            have hb2 := hb.trans (hc1.mono hb.size)
            clear hc1 hb cU
            go_wp2_with fail
            go_ret2
            exact ⟨by rw [HG'.out]; rfl, hb2⟩
        · have h1i : (s.size : Int) ≤ 1 := by omega
          have HG : Hid (P20.fin (P4.bl s) (some acc) = R) := by
            have q : (P4.bl s).drop (1 + 2 * 0) = [] := List.drop_eq_nil_of_le (by rw [P4.bl_len]; omega)
            have q2 : P20.pv false (P20.units.drop 0) acc ((P4.bl s).drop (1 + 2 * 0)) = some acc := by rw [q]; exact P20.pv_nil _ _ _
            exact Lib.hid ((congrArg _ q2.symm).trans HR.out)
          clear HR h1
          go_wp2_with fail
          go_meet
          exact ⟨acc, rfl, ha0, ha1, HG, hb⟩
      · have hbd : acc ≤ 356400 := by exact hk1 rfl
        have hv1 := hv.below hb
        clear hk0 hk1 hk2
        have hix := idx3 1 60 (by omega)
        by_cases h1 : 3 < s.size
        · have h1i : (3 : Int) < (s.size : Int) := by omega
          obtain ⟨hbl, hD, hne, hcs⟩ := part_cases s 1 ((min 5 (s.size : Int)).toNat) h1 (by omega)
          have HN := Lib.hid hne
          rcases hcs with ⟨u, hu, hc, hu9⟩ | ⟨hu, hc⟩
          · have HG : Hid (P20.fin (P4.bl s) (P20.pv false (P20.units.drop 2) (acc + u * 60) ((P4.bl s).drop (1 + 2 * 2))) = R) := by
              have q := P20.pv_go false 60 (P20.units.drop 2) acc _ hne u hc
              rw [List.drop_drop] at q
              exact Lib.hid ((congrArg _ q.symm).trans HR.out)
            have cU : Hid (∀ W, Calls Tryz.prog 60 #[.string (s.extract 3 (min 5 (s.size : Int)).toNat), .int .i64 10, .int .i64 8] W fun e w' => e = .returned (.tuple #[.int .u64 (u : Int), .nilIface]) ∧ Below W.heap.size W w') := fun W => puint_ok _ u W hD hu
            have hui : (u : Int) ≤ 99 := by omega
            clear HR hbl hD hne hu hc hu9 h1 HN
            go_wp2_with fail
            refine (cU.out _).mono ?_
            rintro e w1 ⟨rfl, hc1⟩
            have hb2 := hb.trans (hc1.mono hb.size)
            clear hc1 hb cU
            go_wp2_with fail
            go_roundw
            case rel => exact ⟨2, acc + u * 60, by omega, by go_num, by go_num, by omega, by omega, by omega, by omega, by omega, HG, hb2⟩
            case measure => simp [intOf]
          · have HG : R = (0, 5) := by
              have q := P20.pv_stop false 60 (P20.units.drop 2) acc _ hne hc
              exact (HR.out.symm.trans (congrArg _ q)).trans rfl
            have HG' := Lib.hid HG
            have cU : Hid (∀ W, Vars W → Calls Tryz.prog 60 #[.string (s.extract 3 (min 5 (s.size : Int)).toNat), .int .i64 10, .int .i64 8] W fun e w' => (∃ N, e = .returned (.tuple #[.int .u64 0, .iface 115 (.pointer (some ⟨N, 0, none⟩))])) ∧ Below W.heap.size W w') := fun W h => puint_no _ W hD hu h
            clear HR hbl hD hne hu hc h1 HN HG
            go_wp2_with fail
            refine (cU.out _ hv1).mono ?_
            rintro e w1 ⟨⟨N, rfl⟩, hc1⟩
            have hb2 := hb.trans (hc1.mono hb.size)
            clear hc1 hb cU
            go_wp2_with fail
            go_ret2
            exact ⟨by rw [HG'.out]; rfl, hb2⟩
        · have h1i : (s.size : Int) ≤ 3 := by omega
          have HG : Hid (P20.fin (P4.bl s) (some acc) = R) := by
            have q : (P4.bl s).drop (1 + 2 * 1) = [] := List.drop_eq_nil_of_le (by rw [P4.bl_len]; omega)
            have q2 : P20.pv false (P20.units.drop 1) acc ((P4.bl s).drop (1 + 2 * 1)) = some acc := by rw [q]; exact P20.pv_nil _ _ _
            exact Lib.hid ((congrArg _ q2.symm).trans HR.out)
          clear HR h1
          go_wp2_with fail
          go_meet
          exact ⟨acc, rfl, ha0, ha1, HG, hb⟩
      · have hbd : acc ≤ 362340 := by exact hk2 rfl
        have hv1 := hv.below hb
        clear hk0 hk1 hk2
        have hix := idx3 2 1 (by omega)
        by_cases h1 : 5 < s.size
        · have h1i : (5 : Int) < (s.size : Int) := by omega
          obtain ⟨hbl, hD, hne, hcs⟩ := part_cases s 2 ((min 7 (s.size : Int)).toNat) h1 (by omega)
          have HN := Lib.hid hne
          rcases hcs with ⟨u, hu, hc, hu9⟩ | ⟨hu, hc⟩
          · have HG : Hid (P20.fin (P4.bl s) (P20.pv false (P20.units.drop 3) (acc + u * 1) ((P4.bl s).drop (1 + 2 * 3))) = R) := by
              have q := P20.pv_go false 1 (P20.units.drop 3) acc _ hne u hc
              rw [List.drop_drop] at q
              exact Lib.hid ((congrArg _ q.symm).trans HR.out)
            have cU : Hid (∀ W, Calls Tryz.prog 60 #[.string (s.extract 5 (min 7 (s.size : Int)).toNat), .int .i64 10, .int .i64 8] W fun e w' => e = .returned (.tuple #[.int .u64 (u : Int), .nilIface]) ∧ Below W.heap.size W w') := fun W => puint_ok _ u W hD hu
            have hui : (u : Int) ≤ 99 := by omega
            clear HR hbl hD hne hu hc hu9 h1 HN
            go_wp2_with fail
            refine (cU.out _).mono ?_
            rintro e w1 ⟨rfl, hc1⟩
            have hb2 := hb.trans (hc1.mono hb.size)
            clear hc1 hb cU
            go_wp2_with fail
            go_roundw
            case rel => exact ⟨3, acc + u * 1, by omega, by go_num, by go_num, by omega, by omega, by omega, by omega, by omega, HG, hb2⟩
            case measure => simp [intOf]
          · have HG : R = (0, 5) := by
              have q := P20.pv_stop false 1 (P20.units.drop 3) acc _ hne hc
              exact (HR.out.symm.trans (congrArg _ q)).trans rfl
            have HG' := Lib.hid HG
            have cU : Hid (∀ W, Vars W → Calls Tryz.prog 60 #[.string (s.extract 5 (min 7 (s.size : Int)).toNat), .int .i64 10, .int .i64 8] W fun e w' => (∃ N, e = .returned (.tuple #[.int .u64 0, .iface 115 (.pointer (some ⟨N, 0, none⟩))])) ∧ Below W.heap.size W w') := fun W h => puint_no _ W hD hu h
            clear HR hbl hD hne hu hc h1 HN HG
            go_wp2_with fail
            refine (cU.out _ hv1).mono ?_
            rintro e w1 ⟨⟨N, rfl⟩, hc1⟩
            have hb2 := hb.trans (hc1.mono hb.size)
            clear hc1 hb cU
            go_wp2_with fail
            go_ret2
            exact ⟨by rw [HG'.out]; rfl, hb2⟩
        · have h1i : (s.size : Int) ≤ 5 := by omega
          have HG : Hid (P20.fin (P4.bl s) (some acc) = R) := by
            have q : (P4.bl s).drop (1 + 2 * 2) = [] := List.drop_eq_nil_of_le (by rw [P4.bl_len]; omega)
            have q2 : P20.pv false (P20.units.drop 2) acc ((P4.bl s).drop (1 + 2 * 2)) = some acc := by rw [q]; exact P20.pv_nil _ _ _
            exact Lib.hid ((congrArg _ q2.symm).trans HR.out)
          clear HR h1
          go_wp2_with fail
          go_meet
          exact ⟨acc, rfl, ha0, ha1, HG, hb⟩
      · have HG : Hid (P20.fin (P4.bl s) (some acc) = R) := Lib.hid HR.out
        clear HR hk0 hk1 hk2
        go_wp2_with fail
        go_meet
        exact ⟨acc, rfl, ha0, ha1, HG, hb⟩
  case rest =>
    obtain ⟨acc, rfl, ha0, ha1, HG, hb⟩ := hcut
    clear HR
    have cH := fun W => Tryz.strings_HasPrefix s ⟨#[45]⟩ W
    by_cases hz : s.size = 0
    · have hP : R = (0, 5) := by
        have : P4.bl s = [] := List.length_eq_zero_iff.mp (by rw [P4.bl_len]; exact hz)
        rw [← HG.out, this]; exact P20.fin_empty _
      have hnil : s.toList = [] := by rw [ByteArray.toList_eq]; exact List.length_eq_zero_iff.mp (by have := P4.bl_len s; rw [← this] at hz; exact hz)
      have HP := Lib.hid hP
      have CH := Lib.hid cH
      clear hP HG hz cH
      generalize Lib.hasPrefix s.data.toList (⟨#[45]⟩ : ByteArray).data.toList = B at CH
      cases B with
      | true =>
        go_wp2_with fail
        refine (CH.out _).mono ?_
        rintro e w1 ⟨rfl, rfl⟩
        go_wp2_with fail
        go_ret2
        exact ⟨by rw [HP.out]; rfl, hb⟩
      | false =>
        go_wp2_with fail
        refine (CH.out _).mono ?_
        rintro e w1 ⟨rfl, rfl⟩
        go_wp2_with fail
        go_ret2
        exact ⟨by rw [HP.out]; rfl, hb⟩
    · obtain ⟨n1, n2⟩ := s_ne (s := s) (by omega)
      have hne : P4.bl s ≠ [] := fun q => hz (by rw [← P4.bl_len, q]; rfl)
      have hm := fun q => P20.sgn_minus (s := P4.bl s) acc q
      have hp := fun q => P20.sgn_plus (s := P4.bl s) acc q
      have CH := Lib.hid cH
      clear hz cH
      generalize hB : Lib.hasPrefix s.data.toList (⟨#[45]⟩ : ByteArray).data.toList = B at CH
      cases B with
      | true =>
        have hy := hm hB
        have cT : Hid (∀ W, Calls Tryz.prog 53 #[.int .i64 (-acc)] W fun e w' => e = .returned (.string (str (P20.text (-acc)))) ∧ Below W.heap.size W w') := fun W => ntext_any (-acc) W (by omega) (by omega)
        by_cases he : P20.text (-acc) = P4.bl s
        · have HP := Lib.hid (HG.out.symm.trans (P20.fin_eq hne hy he))
          have hse : str (P20.text (-acc)) = s := by rw [he]; rfl
          rw [hse] at cT
          clear hm hp hne HG hB hy he hse
          go_wp2_with fail
          refine (CH.out _).mono ?_
          rintro e w1 ⟨rfl, rfl⟩
          go_wp2_with fail
          refine (cT.out _).mono ?_
          rintro e w2 ⟨rfl, hc2⟩
          have hb2 := hb.trans (hc2.mono hb.size)
          clear hc2 hb cT CH
          go_wp2_with fail
          go_ret2
          exact ⟨by rw [HP.out]; rfl, hb2⟩
        · have HP := Lib.hid (HG.out.symm.trans (P20.fin_ne hy he))
          have hse : ¬ str (P20.text (-acc)) = s := fun q => he (by rw [← q]; rfl)
          have e1 := eq_b _ _ hse
          have e2 := ne_b _ _ hse
          clear hm hp hne HG hB hy he hse
          generalize str (P20.text (-acc)) = T at cT e1 e2
          go_wp2_with fail
          refine (CH.out _).mono ?_
          rintro e w1 ⟨rfl, rfl⟩
          go_wp2_with fail
          refine (cT.out _).mono ?_
          rintro e w2 ⟨rfl, hc2⟩
          have hb2 := hb.trans (hc2.mono hb.size)
          clear hc2 hb cT CH
          go_wp2_with fail
          go_ret2
          exact ⟨by rw [HP.out]; rfl, hb2⟩
      | false =>
        have hy := hp hB
        have cT : Hid (∀ W, Calls Tryz.prog 53 #[.int .i64 acc] W fun e w' => e = .returned (.string (str (P20.text acc))) ∧ Below W.heap.size W w') := fun W => ntext_any acc W (by omega) (by omega)
        by_cases he : P20.text acc = P4.bl s
        · have HP := Lib.hid (HG.out.symm.trans (P20.fin_eq hne hy he))
          have hse : str (P20.text acc) = s := by rw [he]; rfl
          rw [hse] at cT
          clear hm hp hne HG hB hy he hse
          go_wp2_with fail
          refine (CH.out _).mono ?_
          rintro e w1 ⟨rfl, rfl⟩
          go_wp2_with fail
          refine (cT.out _).mono ?_
          rintro e w2 ⟨rfl, hc2⟩
          have hb2 := hb.trans (hc2.mono hb.size)
          clear hc2 hb cT CH
          go_wp2_with fail
          go_ret2
          exact ⟨by rw [HP.out]; rfl, hb2⟩
        · have HP := Lib.hid (HG.out.symm.trans (P20.fin_ne hy he))
          have hse : ¬ str (P20.text acc) = s := fun q => he (by rw [← q]; rfl)
          have e1 := eq_b _ _ hse
          have e2 := ne_b _ _ hse
          clear hm hp hne HG hB hy he hse
          generalize str (P20.text acc) = T at cT e1 e2
          go_wp2_with fail
          refine (CH.out _).mono ?_
          rintro e w1 ⟨rfl, rfl⟩
          go_wp2_with fail
          refine (cT.out _).mono ?_
          rintro e w2 ⟨rfl, hc2⟩
          have hb2 := hb.trans (hc2.mono hb.size)
          clear hc2 hb cT CH
          go_wp2_with fail
          go_ret2
          exact ⟨by rw [HP.out]; rfl, hb2⟩
end Go.Proofs.YtlideagcmhlkeaaGreatDoor

/- The walk of zones (the reference of chapter 14). -/
namespace Go.Proofs.YtlideagcmhlkeaaGreatDoor
open Go.RowKit Go.Lib
set_option linter.unusedVariables false
set_option linter.unusedSimpArgs false
attribute [local go_sem high] neq_era neq_rule neq_link

set_option maxRecDepth 100000 in
set_option maxHeartbeats 8000000 in
theorem zones14_any (Z Y : List ZV) (A B : Option Addr) (c d : Nat) (w : World) (hZ : CellsIn 2 ZV.cells w A Z) (hY : CellsIn 2 ZV.cells w B Y) (eZ : ∀ z ∈ Z, CellsIn 13 EV.cells w z.A z.eras) (eY : ∀ z ∈ Y, CellsIn 13 EV.cells w z.A z.eras) (hl : Z.length ≤ 1000) (hm : ∀ z ∈ Z, z.eras.length ≤ 1000) :
    Calls Tryz.prog 23 #[.slice A Z.length c, .slice B Y.length d] w fun e W => ∃ R : Bool, (R = true ↔ zSame14 Z Y) ∧ e = .returned (.bool R) ∧ Below w.heap.size w W := by
  by_cases hlen : Z.length = Y.length
  rotate_left
  · have hbn : ((Z.length : Int) != (Y.length : Int)) = true := by rw [bne_iff_ne]; omega
    have HL := Lib.hid hlen
    clear hZ hY eZ eY hlen hl hm
    go_enter Tryz.func23, Tryz.ntmps23
    go_wp2_with fail
    go_ret
    exact ⟨false, ⟨fun h => (by cases h), fun h => absurd h.1 HL.out⟩, rfl, Below.refl _ _⟩
  have hbn : ((Z.length : Int) != (Y.length : Int)) = false := by rw [bne_eq_false_iff_eq]; omega
  have HL := Lib.hid hlen; have HZ := Lib.hid hZ; have HY := Lib.hid hY; have EZ := Lib.hid eZ; have EY := Lib.hid eY; have HM := Lib.hid hm
  have hl2 : (Z.length : Int) ≤ 1000 := by omega
  have hly : (Y.length : Int) = (Z.length : Int) := by omega
  clear hZ hY eZ eY hlen hm
  go_enter Tryz.func23, Tryz.ntmps23
  go_wp2_with fail
  go_loopw [5] (fun i W => ∃ k : Nat, k ≤ Z.length ∧ i = .int .i64 k ∧ Below w.heap.size w W ∧ Hid (zTo14 Z Y k)) (fun i _ => Z.length - (intOf i).toNat)
  case atStart => exact ⟨0, Nat.zero_le _, rfl, Below.refl _ _, Lib.hid (fun i z y h => by omega)⟩
  case round =>
    obtain ⟨k, hk, rfl, hbw, hto⟩ := hrel
    have HBW := Lib.hid hbw
    clear hbw
    by_cases hlt : k < Z.length
    · obtain ⟨z, hz⟩ : ∃ z, Z[k]? = some z := ⟨_, List.getElem?_eq_getElem hlt⟩
      obtain ⟨y, hy⟩ : ∃ y, Y[k]? = some y := ⟨_, List.getElem?_eq_getElem (by have := HL.out; omega)⟩
      obtain ⟨gz, oz, hzA, hgz, hzt⟩ := (HZ.out.below HBW.out) k z hz
      obtain ⟨gy, oy, hyA, hgy, hyt⟩ := (HY.out.below HBW.out) k y hy
      subst hzA; subst hyA
      have a0 : wr.cell? ⟨gz, oz + k * 2, none⟩ = some (.string z.name) := hzt 0 _ rfl
      have a1 : wr.cell? ⟨gz, oz + k * 2 + 1, none⟩ = some (.slice z.A z.eras.length z.c) := hzt 1 _ rfl
      have b0 : wr.cell? ⟨gy, oy + k * 2, none⟩ = some (.string y.name) := hyt 0 _ rfl
      have b1 : wr.cell? ⟨gy, oy + k * 2 + 1, none⟩ = some (.slice y.A y.eras.length y.c) := hyt 1 _ rfl
      have hki : (k : Int) < (Z.length : Int) := by omega
      have hkj : (k : Int) < (Y.length : Int) := by omega
      have HKZ := Lib.hid hz; have HKY := Lib.hid hy
      have HEZ := Lib.hid (EZ.out z (List.mem_of_getElem? hz)); have HEY := Lib.hid (EY.out y (List.mem_of_getElem? hy))
      have HMZ := Lib.hid (HM.out z (List.mem_of_getElem? hz))
      have HLT := Lib.hid hlt
      clear hzt hyt hz hy
      by_cases hn : z.name = y.name
      rotate_left
      · have bn : (z.name.toList == y.name.toList) = false := eq_b _ _ hn
        have HN := Lib.hid (show ¬ zSame14 Z Y from fun q => hn (q.2 k z y HLT.out HKZ.out HKY.out).1)
        clear hn hto
        go_wp2_with fail
        go_quiet (fail)
        all_goals
          go_wp2_with fail
          go_ret
          exact ⟨false, ⟨fun h => (by cases h), fun h => absurd h HN.out⟩, rfl, below_drewN HBW.out _⟩
      have bn : (z.name.toList == y.name.toList) = true := by rw [hn]; simp
      have HNN := Lib.hid hn
      clear hn
      by_cases he : z.eras.length = y.eras.length
      rotate_left
      · have bl : ((z.eras.length : Int) != (y.eras.length : Int)) = true := by rw [bne_iff_ne]; omega
        have HN := Lib.hid (show ¬ zSame14 Z Y from fun q => he (congrArg List.length (q.2 k z y HLT.out HKZ.out HKY.out).2))
        clear he hto
        go_wp2_with fail
        go_quiet (fail)
        all_goals
          go_wp2_with fail
          go_ret
          exact ⟨false, ⟨fun h => (by cases h), fun h => absurd h HN.out⟩, rfl, below_drewN HBW.out _⟩
      have bl : ((z.eras.length : Int) != (y.eras.length : Int)) = false := by rw [bne_eq_false_iff_eq]; omega
      have HE := Lib.hid he
      have hez : (z.eras.length : Int) ≤ 1000 := by have := HMZ.out; omega
      clear he
      go_wp2_with fail
      go_quiet (fail)
      go_wp2_with fail
      go_loopw [6] (fun i W => ∃ m : Nat, m ≤ z.eras.length ∧ i = .int .i64 m ∧ Below w.heap.size w W ∧ Hid (eTo14 z.eras y.eras m)) (fun i _ => z.eras.length - (intOf i).toNat)
      case atStart => exact ⟨0, Nat.zero_le _, rfl, below_drewN HBW.out _, Lib.hid (fun i h => by omega)⟩
      case round =>
        clear a0 a1 b0 b1 bn bl HBW
        obtain ⟨m, hm, rfl, hbw, hte⟩ := hrel
        have HBW := Lib.hid hbw
        clear hbw
        obtain ⟨gz2, oz2, hzA2, hgz2, hzt⟩ := (HZ.out.below HBW.out) k z HKZ.out
        obtain ⟨gy2, oy2, hyA2, hgy2, hyt⟩ := (HY.out.below HBW.out) k y HKY.out
        injection hzA2 with q; injection q with q1 q2 q3; subst q1; subst q2
        injection hyA2 with q; injection q with q1 q2 q3; subst q1; subst q2
        have a0 : wr.cell? ⟨gz, oz + k * 2, none⟩ = some (.string z.name) := hzt 0 _ rfl
        have a1 : wr.cell? ⟨gz, oz + k * 2 + 1, none⟩ = some (.slice z.A z.eras.length z.c) := hzt 1 _ rfl
        have b0 : wr.cell? ⟨gy, oy + k * 2, none⟩ = some (.string y.name) := hyt 0 _ rfl
        have b1 : wr.cell? ⟨gy, oy + k * 2 + 1, none⟩ = some (.slice y.A y.eras.length y.c) := hyt 1 _ rfl
        clear hzt hyt
        by_cases hml : m < z.eras.length
        · obtain ⟨x, hx⟩ : ∃ x, z.eras[m]? = some x := ⟨_, List.getElem?_eq_getElem hml⟩
          obtain ⟨u, hu⟩ : ∃ u, y.eras[m]? = some u := ⟨_, List.getElem?_eq_getElem (by have := HE.out; omega)⟩
          obtain ⟨ge, oe, heA, hge, xt⟩ := (HEZ.out.below HBW.out) m x hx
          obtain ⟨gf, of', hfA, hgf, ut⟩ := (HEY.out.below HBW.out) m u hu
          rw [heA] at a1
          rw [hfA] at b1
          clear heA hfA
          have x0 : wr.cell? ⟨ge, oe + m * 13, none⟩ = some (.int .i64 x.off) := xt 0 _ rfl
          have x1 : wr.cell? ⟨ge, oe + m * 13 + 1, none⟩ = some (.int .i64 x.kind) := xt 1 _ rfl
          have x2 : wr.cell? ⟨ge, oe + m * 13 + 2, none⟩ = some (.int .i64 x.save) := xt 2 _ rfl
          have x3 : wr.cell? ⟨ge, oe + m * 13 + 3, none⟩ = some (.string x.set) := xt 3 _ rfl
          have x4 : wr.cell? ⟨ge, oe + m * 13 + 4, none⟩ = some (.string x.fmt) := xt 4 _ rfl
          have x5 : wr.cell? ⟨ge, oe + m * 13 + 5, none⟩ = some (.bool x.ui) := xt 5 _ rfl
          have x6 : wr.cell? ⟨ge, oe + m * 13 + 6, none⟩ = some (.int .i64 x.uy) := xt 6 _ rfl
          have x7 : wr.cell? ⟨ge, oe + m * 13 + 7, none⟩ = some (.int .i64 x.um) := xt 7 _ rfl
          have x8 : wr.cell? ⟨ge, oe + m * 13 + 8, none⟩ = some (.int .i64 x.dk) := xt 8 _ rfl
          have x9 : wr.cell? ⟨ge, oe + m * 13 + 9, none⟩ = some (.int .i64 x.dw) := xt 9 _ rfl
          have x10 : wr.cell? ⟨ge, oe + m * 13 + 10, none⟩ = some (.int .i64 x.dd) := xt 10 _ rfl
          have x11 : wr.cell? ⟨ge, oe + m * 13 + 11, none⟩ = some (.int .i64 x.asec) := xt 11 _ rfl
          have x12 : wr.cell? ⟨ge, oe + m * 13 + 12, none⟩ = some (.int .i64 x.ab) := xt 12 _ rfl
          have u0 : wr.cell? ⟨gf, of' + m * 13, none⟩ = some (.int .i64 u.off) := ut 0 _ rfl
          have u1 : wr.cell? ⟨gf, of' + m * 13 + 1, none⟩ = some (.int .i64 u.kind) := ut 1 _ rfl
          have u2 : wr.cell? ⟨gf, of' + m * 13 + 2, none⟩ = some (.int .i64 u.save) := ut 2 _ rfl
          have u3 : wr.cell? ⟨gf, of' + m * 13 + 3, none⟩ = some (.string u.set) := ut 3 _ rfl
          have u4 : wr.cell? ⟨gf, of' + m * 13 + 4, none⟩ = some (.string u.fmt) := ut 4 _ rfl
          have u5 : wr.cell? ⟨gf, of' + m * 13 + 5, none⟩ = some (.bool u.ui) := ut 5 _ rfl
          have u6 : wr.cell? ⟨gf, of' + m * 13 + 6, none⟩ = some (.int .i64 u.uy) := ut 6 _ rfl
          have u7 : wr.cell? ⟨gf, of' + m * 13 + 7, none⟩ = some (.int .i64 u.um) := ut 7 _ rfl
          have u8 : wr.cell? ⟨gf, of' + m * 13 + 8, none⟩ = some (.int .i64 u.dk) := ut 8 _ rfl
          have u9 : wr.cell? ⟨gf, of' + m * 13 + 9, none⟩ = some (.int .i64 u.dw) := ut 9 _ rfl
          have u10 : wr.cell? ⟨gf, of' + m * 13 + 10, none⟩ = some (.int .i64 u.dd) := ut 10 _ rfl
          have u11 : wr.cell? ⟨gf, of' + m * 13 + 11, none⟩ = some (.int .i64 u.asec) := ut 11 _ rfl
          have u12 : wr.cell? ⟨gf, of' + m * 13 + 12, none⟩ = some (.int .i64 u.ab) := ut 12 _ rfl
          have hmi : (m : Int) < (z.eras.length : Int) := by omega
          have hmj : (m : Int) < (y.eras.length : Int) := by have := HE.out; omega
          have HXX := Lib.hid hx; have HUU := Lib.hid hu
          have HML := Lib.hid hml
          clear xt ut hx hu
          by_cases hq : x = u
          · have hd : decide (x.off = u.off ∧ x.kind = u.kind ∧ x.save = u.save ∧ x.set = u.set ∧ x.fmt = u.fmt ∧ x.ui = u.ui ∧ x.uy = u.uy ∧ x.um = u.um ∧ x.dk = u.dk ∧ x.dw = u.dw ∧ x.dd = u.dd ∧ x.asec = u.asec ∧ x.ab = u.ab) = true := by rw [decide_eq_true_eq]; exact (ev_eq x u).1 hq
            have HTE := Lib.hid (eTo14.succ hte.out (HXX.out.trans (by rw [HUU.out, hq])))
            clear hq hte
            go_wp2_with fail
            go_quiet (fail)
            all_goals
              go_wp2_with fail
              go_roundw
              case rel => first | exact ⟨m + 1, by omega, by go_num, below_drewN HBW.out _, HTE⟩ | ((repeat apply Exists.intro); refine ⟨?_, rfl⟩; exact ⟨m + 1, by omega, by go_num, below_drewN HBW.out _, HTE⟩)
              case measure => simp [intOf]; omega
          · have hd : decide (x.off = u.off ∧ x.kind = u.kind ∧ x.save = u.save ∧ x.set = u.set ∧ x.fmt = u.fmt ∧ x.ui = u.ui ∧ x.uy = u.uy ∧ x.um = u.um ∧ x.dk = u.dk ∧ x.dw = u.dw ∧ x.dd = u.dd ∧ x.asec = u.asec ∧ x.ab = u.ab) = false := by rw [decide_eq_false_iff_not]; exact fun q => hq ((ev_eq x u).2 q)
            have HN := Lib.hid (show ¬ zSame14 Z Y from fun q => hq (by
              have e1 := (q.2 k z y HLT.out HKZ.out HKY.out).2
              have h1 := HXX.out
              rw [e1, HUU.out] at h1
              injection h1 with h1
              exact h1.symm))
            clear hq hte
            go_wp2_with fail
            go_quiet (fail)
            all_goals
              go_wp2_with fail
              go_ret
              exact ⟨false, ⟨fun h => (by cases h), fun h => absurd h HN.out⟩, rfl, below_drewN HBW.out _⟩
        · obtain rfl : m = z.eras.length := by omega
          have HTE := Lib.hid (zTo14.succ hto.out HKZ.out HKY.out HNN.out (hte.out.all HE.out))
          clear hto hte
          go_wp2_with fail
          go_roundw
          case rel => first | exact ⟨k + 1, by have := HLT.out; omega, by go_num, HBW.out, HTE⟩ | ((repeat apply Exists.intro); refine ⟨?_, rfl⟩; exact ⟨k + 1, by have := HLT.out; omega, by go_num, HBW.out, HTE⟩)
          case measure => have := HLT.out; simp [intOf]; omega
    · obtain rfl : k = Z.length := by omega
      have HN := Lib.hid (show zSame14 Z Y from ⟨HL.out, hto.out⟩)
      clear hto
      go_wp2_with fail
      go_ret
      exact ⟨true, ⟨fun _ => HN.out, fun _ => rfl⟩, rfl, HBW.out⟩
end Go.Proofs.YtlideagcmhlkeaaGreatDoor

/- Two sources are compared (the reference of chapter 14, Same): the plain law of the answer. -/
namespace Go.Proofs.YtlideagcmhlkeaaGreatDoor
open Go.RowKit Go.Lib
set_option linter.unusedVariables false
set_option linter.unusedSimpArgs false

/-- two sources are the same -/
structure sSame14 (a b : SV) : Prop where
  rules : a.rules = b.rules
  links : a.links = b.links
  shifts : a.shifts = b.shifts
  zones : zSame14 a.zones b.zones
theorem zSame14.refl (Z : List ZV) : zSame14 Z Z := ⟨rfl, fun i z y _ hz hy => by rw [hz] at hy; injection hy with hy; subst hy; exact ⟨rfl, rfl⟩⟩
theorem zSame14.symm {Z Y : List ZV} (h : zSame14 Z Y) : zSame14 Y Z := ⟨h.1.symm, fun i z y hi hz hy => by
  have hi2 : i < Z.length := by rw [h.1]; exact hi
  obtain ⟨q1, q2⟩ := h.2 i y z hi2 hy hz
  exact ⟨q1.symm, q2.symm⟩⟩
theorem zSame14.trans {X Y Z : List ZV} (h : zSame14 X Y) (k : zSame14 Y Z) : zSame14 X Z := ⟨h.1.trans k.1, fun i x z hi hx hz => by
  have hi2 : i < Y.length := by rw [← h.1]; exact hi
  obtain ⟨y, hy⟩ : ∃ y, Y[i]? = some y := ⟨_, List.getElem?_eq_getElem hi2⟩
  obtain ⟨q1, q2⟩ := h.2 i x y hi hx hy
  obtain ⟨r1, r2⟩ := k.2 i y z hi2 hy hz
  exact ⟨q1.trans r1, q2.trans r2⟩⟩
theorem sSame14.rfl' (a : SV) : sSame14 a a := ⟨rfl, rfl, rfl, zSame14.refl _⟩
theorem sSame14.symm {a b : SV} (h : sSame14 a b) : sSame14 b a := ⟨h.rules.symm, h.links.symm, h.shifts.symm, h.zones.symm⟩
theorem sSame14.trans {a b c : SV} (h : sSame14 a b) (k : sSame14 b c) : sSame14 a c := ⟨h.rules.trans k.rules, h.links.trans k.links, h.shifts.trans k.shifts, h.zones.trans k.zones⟩
end Go.Proofs.YtlideagcmhlkeaaGreatDoor

/- Copies of sources that are written to, and eras that are changed one by one. No function of the program. -/
namespace Go.Proofs.YtlideagcmhlkeaaGreatDoor
open Go.RowKit
set_option linter.unusedVariables false

theorem CopyOf.below {W W' : World} {base : Nat} {s t : SV} (h : CopyOf W base s t) (hb : Below W.heap.size W W') : CopyOf W' base s t :=
  ⟨⟨h.rules.1, h.rules.2.below hb⟩, ⟨h.zones.1.below hb, h.zones.2.below hb⟩, ⟨h.links.1, h.links.2.below hb⟩, ⟨h.shifts.1, h.shifts.2.below hb⟩⟩
theorem CopyOf.self {W : World} {base : Nat} {s t : SV} (h : CopyOf W base s t) : CopyOf W base t t :=
  ⟨⟨rfl, h.rules.2⟩, ⟨h.zones.1, ⟨⟨rfl, fun i z y hz hy => by rw [hz] at hy; injection hy with hy; subst hy; exact ⟨rfl, rfl⟩⟩, h.zones.2.eras, h.zones.2.apart⟩⟩, ⟨rfl, h.links.2⟩, ⟨rfl, h.shifts.2⟩⟩
theorem CopyOf.same {W : World} {base : Nat} {s t : SV} (h : CopyOf W base s t) : sSame14 t s :=
  ⟨h.rules.1, h.links.1, h.shifts.1, ⟨h.zones.2.same.1, fun i z y _ hz hy => h.zones.2.same.2 i y z hy hz⟩⟩
/-- the source with another era at a place -/
def SV.setEra (t : SV) (i : Nat) (z : ZV) (k : Nat) (e : EV) : SV := { t with zones := t.zones.set i { z with eras := z.eras.set k e } }
theorem own_setOff {W : World} {base n size B j : Nat} {e : TypeId} {v : Value} {xs : List Value} (h : W.ownsRow base e size v n xs) (hB : v.ownBlock ≠ some B) (u : Value) : (W.setCell ⟨B, j, none⟩ u).ownsRow base e size v n xs := by
  refine ⟨h.1, ?_⟩
  rcases h.2 with q | ⟨g, cap, cur, hv, hb, hh, hr⟩
  · exact .inl q
  · refine .inr ⟨g, cap, cur, hv, hb, (Below.heap_setCell W _ u g (fun e => hB ?_)).trans hh, hr⟩
    rw [hv]
    show some g = some B
    rw [show g = B from e]
theorem zcells_set : ∀ {Z : List ZV} {i : Nat} {z z' : ZV}, Z[i]? = some z → z'.cells = z.cells → (Z.set i z').flatMap ZV.cells = Z.flatMap ZV.cells
  | [], i, z, z', h, _ => by simp at h
  | a :: Z, 0, z, z', h, hc => by
    simp only [List.getElem?_cons_zero, Option.some.injEq] at h
    subst h
    rw [List.set_cons_zero, List.flatMap_cons, List.flatMap_cons, hc]
  | a :: Z, i + 1, z, z', h, hc => by
    simp only [List.getElem?_cons_succ] at h
    rw [List.set_cons_succ, List.flatMap_cons, List.flatMap_cons, zcells_set h hc]
theorem set_from {Z : List ZV} {i a : Nat} {z z' y : ZV} (hz : Z[i]? = some z) (hA : z'.A = z.A) (h : (Z.set i z')[a]? = some y) : ∃ x, Z[a]? = some x ∧ x.A = y.A := by
  by_cases hi : i = a
  · subst hi
    rw [List.getElem?_set_self (List.getElem?_eq_some_iff.1 hz).1] at h
    injection h with h
    subst h
    exact ⟨z, hz, hA.symm⟩
  · rw [List.getElem?_set_ne hi] at h
    exact ⟨y, h, rfl⟩
/-- one cell of an era is stored -/
theorem CopyOf.setCell {W : World} {base : Nat} {t : SV} (h : CopyOf W base t t) {i : Nat} {z : ZV} (hz : t.zones[i]? = some z) {g : Nat} (hA : z.A = some ⟨g, 0, none⟩) {k j : Nat} {x y : EV} (hk : z.eras[k]? = some x) (u : Value) (hj : j < 13) (hy : y.cells = x.cells.set j u) :
    CopyOf (W.setCell ⟨g, k * 13 + j, none⟩ u) base (t.setEra i z k y) (t.setEra i z k y) := by
  have hrow := h.zones.2.eras i z hz
  rw [hA] at hrow
  have hO : (Value.slice (some ⟨g, 0, none⟩) z.eras.length z.c).ownBlock = some g := rfl
  refine ⟨⟨rfl, row_set_other h.rules.2 hrow hO (by decide) u⟩, ⟨?_, ⟨⟨rfl, fun i z y hz hy => by rw [hz] at hy; injection hy with hy; subst hy; exact ⟨rfl, rfl⟩⟩, fun a y' hy' => ?_, fun a b y' z' hab hya hzb g' h1 h2 => ?_⟩⟩, ⟨rfl, row_set_other h.links.2 hrow hO (by decide) u⟩, ⟨rfl, row_set_other h.shifts.2 hrow hO (by decide) u⟩⟩
  · show RowOf _ base 44 2 ZV.cells t.zA t.zc (t.zones.set i _)
    unfold RowOf
    rw [List.length_set, zcells_set hz (by unfold ZV.cells; rw [List.length_set])]
    exact row_set_other h.zones.1 hrow hO (by decide) u
  · show RowOf _ base 48 13 EV.cells y'.A y'.c y'.eras
    have hy'' : (t.zones.set i { z with eras := z.eras.set k y })[a]? = some y' := hy'
    by_cases hi : i = a
    · subst hi
      rw [List.getElem?_set_self (List.getElem?_eq_some_iff.1 hz).1] at hy''
      injection hy'' with hy''
      subst hy''
      show RowOf _ base 48 13 EV.cells z.A z.c (z.eras.set k y)
      rw [hA]
      exact hrow.set_ len_era k j x y u hj hk hy
    · rw [List.getElem?_set_ne hi] at hy''
      have hr := h.zones.2.eras a y' hy''
      refine own_setOff hr (fun q => ?_) u
      have hyA : y'.A = some ⟨g, 0, none⟩ := by
        rcases hr.2 with ⟨q2, _⟩ | ⟨g2, cap, cur, hv, _⟩
        · rw [q2] at q; cases q
        · rw [hv] at q
          have q3 : g2 = g := Option.some.inj q
          subst q3
          injection hv
      rcases Nat.lt_or_gt_of_ne hi with hlt | hgt
      · exact h.zones.2.apart i a z y' hlt hz hy'' g hA hyA
      · exact h.zones.2.apart a i y' z hgt hy'' hz g hyA hA
  · obtain ⟨x1, hx1, e1⟩ := set_from (z' := { z with eras := z.eras.set k y }) hz rfl hya
    obtain ⟨x2, hx2, e2⟩ := set_from (z' := { z with eras := z.eras.set k y }) hz rfl hzb
    exact h.zones.2.apart a b x1 x2 hab hx1 hx2 g' (e1.trans h1) (e2.trans h2)
theorem CopyOf.eraAddr {W : World} {base : Nat} {s t : SV} (h : CopyOf W base s t) {i : Nat} {z : ZV} (hz : t.zones[i]? = some z) (hl : 0 < z.eras.length) : ∃ g, z.A = some ⟨g, 0, none⟩ ∧ base ≤ g ∧ g < W.heap.size := by
  have hr := h.zones.2.eras i z hz
  rcases hr.2 with ⟨_, q⟩ | ⟨g, cap, cur, hv, hb, hh, _⟩
  · omega
  · injection hv with hA
    exact ⟨g, hA, hb, (Array.getElem?_eq_some_iff.1 hh).1⟩
/-- the eras in front of a place are changed, the others stay -/
def part30 (G : EV → EV) (Z Y : List ZV) (i k : Nat) : Prop :=
  Y.length = Z.length ∧ ∀ (a : Nat) (z y : ZV), Z[a]? = some z → Y[a]? = some y → y.name = z.name ∧ y.eras.length = z.eras.length ∧ ∀ (b : Nat) (e : EV), z.eras[b]? = some e → y.eras[b]? = some (if a < i ∨ (a = i ∧ b < k) then G e else e)
theorem part30.start {G : EV → EV} {Z Y : List ZV} (h : zSame14 Y Z) : part30 G Z Y 0 0 := ⟨h.1, fun a z y hz hy => by
  obtain ⟨h1, h2⟩ := h.2 a y z (List.getElem?_eq_some_iff.1 hy).1 hy hz
  refine ⟨h1, by rw [h2], fun b e he => ?_⟩
  rw [if_neg (by omega), h2]
  exact he⟩
theorem part30.step {G : EV → EV} {Z Y : List ZV} {i k : Nat} {z y : ZV} {e : EV} (h : part30 G Z Y i k) (hz : Z[i]? = some z) (hy : Y[i]? = some y) (he : z.eras[k]? = some e) : part30 G Z (Y.set i { y with eras := y.eras.set k (G e) }) i (k + 1) := ⟨by rw [List.length_set]; exact h.1, fun a z' y' hz' hy' => by
  by_cases hi : i = a
  · subst hi
    rw [hz] at hz'
    injection hz' with hz'
    subst hz'
    rw [List.getElem?_set_self (List.getElem?_eq_some_iff.1 hy).1] at hy'
    injection hy' with hy'
    subst hy'
    obtain ⟨h1, h2, h3⟩ := h.2 i z y hz hy
    refine ⟨h1, by show (y.eras.set k (G e)).length = _; rw [List.length_set]; exact h2, fun b x hx => ?_⟩
    show (y.eras.set k (G e))[b]? = _
    by_cases hb : k = b
    · subst hb
      rw [List.getElem?_set_self (by rw [h2]; exact (List.getElem?_eq_some_iff.1 he).1), if_pos (by omega)]
      rw [he] at hx
      injection hx with hx
      rw [hx]
    · rw [List.getElem?_set_ne hb, h3 b x hx]
      by_cases hlt : b < k
      · rw [if_pos (by omega), if_pos (by omega)]
      · rw [if_neg (by omega), if_neg (by omega)]
  · rw [List.getElem?_set_ne hi] at hy'
    obtain ⟨h1, h2, h3⟩ := h.2 a z' y' hz' hy'
    refine ⟨h1, h2, fun b x hx => ?_⟩
    rw [h3 b x hx]
    by_cases hlt : a < i
    · rw [if_pos (by omega), if_pos (by omega)]
    · rw [if_neg (by omega), if_neg (by omega)]⟩
theorem part30.skip {G : EV → EV} {Z Y : List ZV} {i k : Nat} {z : ZV} {e : EV} (h : part30 G Z Y i k) (hz : Z[i]? = some z) (he : z.eras[k]? = some e) (hG : G e = e) : part30 G Z Y i (k + 1) := ⟨h.1, fun a z' y' hz' hy' => by
  obtain ⟨h1, h2, h3⟩ := h.2 a z' y' hz' hy'
  refine ⟨h1, h2, fun b x hx => ?_⟩
  rw [h3 b x hx]
  by_cases hlt : a < i ∨ (a = i ∧ b < k)
  · rw [if_pos hlt, if_pos (by omega)]
  · by_cases hq : a = i ∧ b = k
    · obtain ⟨rfl, rfl⟩ := hq
      rw [hz] at hz'
      injection hz' with hz'
      subst hz'
      rw [he] at hx
      injection hx with hx
      subst hx
      rw [if_neg hlt, if_pos (by omega), hG]
    · rw [if_neg hlt, if_neg (by omega)]⟩
theorem part30.zone {G : EV → EV} {Z Y : List ZV} {i k : Nat} {z : ZV} (h : part30 G Z Y i k) (hz : Z[i]? = some z) (hk : z.eras.length ≤ k) : part30 G Z Y (i + 1) 0 := ⟨h.1, fun a z' y' hz' hy' => by
  obtain ⟨h1, h2, h3⟩ := h.2 a z' y' hz' hy'
  refine ⟨h1, h2, fun b x hx => ?_⟩
  rw [h3 b x hx]
  by_cases hlt : a < i
  · rw [if_pos (by omega), if_pos (by omega)]
  · by_cases hq : a = i
    · subst hq
      rw [hz] at hz'
      injection hz' with hz'
      subst hz'
      have := (List.getElem?_eq_some_iff.1 hx).1
      rw [if_pos (by omega), if_pos (by omega)]
    · rw [if_neg (by omega), if_neg (by omega)]⟩
/-- the era of the written source at the place itself -/
theorem part30.at_ {G : EV → EV} {Z Y : List ZV} {i k : Nat} {z : ZV} {e : EV} (h : part30 G Z Y i k) (hz : Z[i]? = some z) (he : z.eras[k]? = some e) : ∃ y, Y[i]? = some y ∧ y.eras[k]? = some e := by
  have hl := (List.getElem?_eq_some_iff.1 hz).1
  obtain ⟨y, hy⟩ : ∃ y, Y[i]? = some y := ⟨_, List.getElem?_eq_getElem (by rw [h.1]; exact hl)⟩
  refine ⟨y, hy, ?_⟩
  rw [(h.2 i z y hz hy).2.2 k e he, if_neg (by omega)]
def mapE (G : EV → EV) (z : ZV) : ZV := { z with eras := z.eras.map G }
def mapS (G : EV → EV) (s : SV) : SV := { s with zones := s.zones.map (mapE G) }
theorem part30.all {G : EV → EV} {Z Y : List ZV} {i : Nat} (h : part30 G Z Y i 0) (hi : Z.length ≤ i) : zSame14 Y (Z.map (mapE G)) := ⟨by rw [List.length_map]; exact h.1, fun a y z' ha hy hz' => by
  rw [List.getElem?_map] at hz'
  obtain ⟨z, hz, rfl⟩ := Option.map_eq_some_iff.1 hz'
  obtain ⟨h1, h2, h3⟩ := h.2 a z y hz hy
  refine ⟨h1, List.ext_getElem? fun b => ?_⟩
  show _ = (z.eras.map G)[b]?
  rw [List.getElem?_map]
  by_cases hb : b < z.eras.length
  · rw [h3 b _ (List.getElem?_eq_getElem hb), List.getElem?_eq_getElem hb, if_pos (by have := (List.getElem?_eq_some_iff.1 hz).1; omega)]
    rfl
  · rw [List.getElem?_eq_none (by omega), List.getElem?_eq_none (by omega)]
    rfl⟩
end Go.Proofs.YtlideagcmhlkeaaGreatDoor

/- The walks of the reference's two and Parse (chapter 20). -/
namespace Go.Proofs.YtlideagcmhlkeaaGreatDoor
open Go.RowKit
set_option linter.unusedVariables false

/-- the number of two digits at a place; -1: there is none -/
def P20.tv (l : List UInt8) (k : Nat) : Int := (P20.chunk true ((l.drop k).take 2)).getD (-1)
theorem tv_short (l : List UInt8) (k : Nat) (h : l.length < k + 2) : P20.tv l k = -1 := by
  unfold P20.tv P20.chunk
  rw [if_neg]
  · rfl
  · rintro ⟨_, q⟩
    have := q rfl
    rw [List.length_take, List.length_drop] at this
    omega
theorem take_two (l : List UInt8) (k : Nat) (a b : UInt8) (ha : l[k]? = some a) (hb : l[k + 1]? = some b) : (l.drop k).take 2 = [a, b] := by
  have h1 : k < l.length := (List.getElem?_eq_some_iff.mp ha).1
  have h2 : k + 1 < l.length := (List.getElem?_eq_some_iff.mp hb).1
  have e1 : l[k] = a := (List.getElem?_eq_some_iff.mp ha).2
  have e2 : l[k + 1] = b := (List.getElem?_eq_some_iff.mp hb).2
  rw [List.drop_eq_getElem_cons h1, List.drop_eq_getElem_cons h2, e1, e2]
  rfl
theorem tv_long (l : List UInt8) (k : Nat) (a b : UInt8) (ha : l[k]? = some a) (hb : l[k + 1]? = some b) :
    P20.tv l k = if 48 ≤ (a.toNat : Int) ∧ (a.toNat : Int) ≤ 57 ∧ 48 ≤ (b.toNat : Int) ∧ (b.toNat : Int) ≤ 57 then 10 * ((a.toNat : Int) - 48) + ((b.toNat : Int) - 48) else -1 := by
  unfold P20.tv P20.chunk
  rw [take_two l k a b ha hb]
  by_cases h : 48 ≤ (a.toNat : Int) ∧ (a.toNat : Int) ≤ 57 ∧ 48 ≤ (b.toNat : Int) ∧ (b.toNat : Int) ≤ 57
  · rw [if_pos h, if_pos]
    · simp only [P4.val, P4.valFrom, Option.getD_some]; omega
    · refine ⟨?_, fun _ => rfl⟩
      simp only [List.all_cons, List.all_nil, Bool.and_true, Bool.and_eq_true, P4.isD, decide_eq_true_eq]
      omega
  · rw [if_neg h, if_neg]
    · rfl
    · rintro ⟨q, _⟩
      simp only [List.all_cons, List.all_nil, Bool.and_true, Bool.and_eq_true, P4.isD, decide_eq_true_eq] at q
      omega
theorem tv_bd (l : List UInt8) (k : Nat) : -1 ≤ P20.tv l k ∧ P20.tv l k ≤ 99 := by
  by_cases h : l.length < k + 2
  · rw [tv_short l k h]; omega
  · rw [tv_long l k l[k] l[k+1] (List.getElem?_eq_getElem (by omega)) (List.getElem?_eq_getElem (by omega))]
    split <;> omega
set_option maxHeartbeats 1000000 in
theorem rtwo20_any (s : ByteArray) (k : Nat) (K : Int) (hK : K = k) (w : World) (hs : s.size ≤ 1000000) (hk : k ≤ 2000000) :
    Calls Tryz.prog 63 #[.string s, .int .i64 K] w fun e w' => e = .returned (.int .i64 (P20.tv (P4.bl s) k)) ∧ Q w w' := by
  subst hK
  have hlen := P4.bl_len s
  by_cases h : s.size < k + 2
  · have hi : (s.size : Int) < (k : Int) + 2 := by omega
    have HT := Lib.hid (tv_short (P4.bl s) k (by omega))
    clear h hlen
    go_enter Tryz.func63, Tryz.ntmps63
    go_wp2_with fail
    go_ret
    exact ⟨by rw [HT.out]; rfl, Q.refl _⟩
  · have hi : (k : Int) + 2 ≤ (s.size : Int) := by omega
    have h1 : k < s.size := by omega
    have h2 : k + 1 < s.size := by omega
    obtain ⟨a, ha⟩ : ∃ a : Int, ((s[k]'h1).toNat : Int) = a := ⟨_, rfl⟩
    obtain ⟨b, hb⟩ : ∃ b : Int, ((s[k+1]'h2).toNat : Int) = b := ⟨_, rfl⟩
    have hT := tv_long (P4.bl s) k _ _ (P4.bl_get s k h1) (P4.bl_get s (k + 1) h2)
    rw [ha, hb] at hT
    have hA : ∀ h, ((s[k]'h).toNat : Int) = a := fun _ => ha
    have hB : ∀ h, ((s[k+1]'h).toNat : Int) = b := fun _ => hb
    have ha0 : 0 ≤ a := by omega
    have hb0 : 0 ≤ b := by omega
    have ha9 : a ≤ 255 := by have := (s[k]'h1).toNat_lt; omega
    have hb9 : b ≤ 255 := by have := (s[k+1]'h2).toNat_lt; omega
    have HT := Lib.hid hT
    clear hT ha hb hlen h
    by_cases q0 : 48 ≤ a
    · skip
      by_cases q1 : a ≤ 57
      · skip
        by_cases q2 : 48 ≤ b
        · skip
          by_cases q3 : b ≤ 57
          · skip
            go_enter Tryz.func63, Tryz.ntmps63
            go_wp2_with fail
            go_quiet (fail)
            go_wp2_with fail
            go_ret
            exact ⟨by rw [HT.out, if_pos ⟨q0, q1, q2, q3⟩]; rfl, Q.drewN _ _⟩
          · go_enter Tryz.func63, Tryz.ntmps63
            go_wp2_with fail
            go_ret
            exact ⟨by rw [HT.out, if_neg (by omega)]; rfl, Q.refl _⟩
        · go_enter Tryz.func63, Tryz.ntmps63
          go_wp2_with fail
          go_ret
          exact ⟨by rw [HT.out, if_neg (by omega)]; rfl, Q.refl _⟩
      · go_enter Tryz.func63, Tryz.ntmps63
        go_wp2_with fail
        go_ret
        exact ⟨by rw [HT.out, if_neg (by omega)]; rfl, Q.refl _⟩
    · go_enter Tryz.func63, Tryz.ntmps63
      go_wp2_with fail
      go_ret
      exact ⟨by rw [HT.out, if_neg (by omega)]; rfl, Q.refl _⟩

theorem tv_none {l : List UInt8} {k : Nat} (h : P20.tv l k < 0) : P20.chunk true ((l.drop k).take 2) = none := by
  unfold P20.tv at h
  cases hc : P20.chunk true ((l.drop k).take 2) with
  | none => rfl
  | some v =>
    rw [hc, Option.getD_some] at h
    have hv : 0 ≤ v := by
      have := tv_bd l k
      unfold P20.chunk at hc
      split at hc
      · rename_i hq
        injection hc with hc
        have hl := hq.2 rfl
        match hm : (l.drop k).take 2, hl with
        | [a, b], _ =>
          rw [hm] at hc hq
          simp only [List.all_cons, List.all_nil, Bool.and_true, Bool.and_eq_true, P4.isD, decide_eq_true_eq] at hq
          simp only [P4.val, P4.valFrom] at hc
          omega
      · cases hc
    omega
theorem tv_some {l : List UInt8} {k : Nat} (h : 0 ≤ P20.tv l k) : P20.chunk true ((l.drop k).take 2) = some (P20.tv l k) := by
  unfold P20.tv at h ⊢
  cases hc : P20.chunk true ((l.drop k).take 2) with
  | none => rw [hc, Option.getD_none] at h; omega
  | some v => rfl
theorem first_byte {s : ByteArray} (h : 0 < s.size) : (P4.bl s)[0]? = some (s[0]'h) := P4.bl_get s 0 h
theorem sgn_first {s : ByteArray} (acc : Int) (h : 0 < s.size) : P20.sgn (P4.bl s) acc = if ((s[0]'h).toNat : Int) = 45 then -acc else acc := by
  unfold P20.sgn
  rw [first_byte h]
  by_cases q : ((s[0]'h).toNat : Int) = 45
  · rw [if_pos q, if_pos]
    exact congrArg some (UInt8.toNat_inj.mp (by show _ = 45; omega))
  · rw [if_neg q, if_neg]
    intro e
    injection e with e
    rw [e] at q
    exact q rfl
set_option maxRecDepth 100000 in
set_option maxHeartbeats 8000000 in
theorem rnparse_any (s : ByteArray) (w : World) (hs : s.size ≤ 1000000) :
    Calls Tryz.prog 51 #[.string s] w fun e w' => e = .returned (.tuple #[.int .i64 (P20.parse (P4.bl s)).1, .int .i64 (P20.parse (P4.bl s)).2]) ∧ Q w w' := by
  obtain ⟨R, hR⟩ : ∃ R, R = P20.parse (P4.bl s) := ⟨_, rfl⟩
  rw [← hR]
  have HR : Hid (P20.fin (P4.bl s) (P20.pv true (P20.units.drop 0) 0 ((P4.bl s).drop 1)) = R) := Lib.hid hR.symm
  clear hR
  have hsz : (s.size : Int) ≤ 1000000 := by omega
  go_enter Tryz.func51, Tryz.ntmps51
  go_upto_block 0 with (fail)
  go_cut [4] (fun s4 wx => ∃ acc : Int, s4 = .int .i64 acc ∧ 0 ≤ acc ∧ acc ≤ 99 * 3661 ∧ Hid (P20.fin (P4.bl s) (some acc) = R) ∧ Q w wx)
  case first =>
    go_wp2_with fail
    go_loopw [4, 5, 6] (fun s4 s5 s6 wr => ∃ k acc : Int, (k = 0 ∨ k = 1 ∨ k = 2 ∨ k = 3) ∧ s6 = .int .i64 (1 + 2 * k) ∧ s5 = .int .i64 (if k = 0 then 3600 else if k = 1 then 60 else if k = 2 then 1 else 0) ∧ s4 = .int .i64 acc ∧ 0 ≤ acc ∧ acc ≤ 99 * 3661 ∧ (k = 0 → acc = 0) ∧ (k = 1 → acc ≤ 99 * 3600) ∧ (k = 2 → acc ≤ 99 * 3660) ∧ Hid (P20.fin (P4.bl s) (P20.pv true (P20.units.drop k.toNat) acc ((P4.bl s).drop (1 + 2 * k.toNat))) = R) ∧ Q w wr) (fun _ _ s6 _ => 7 - (intOf s6).toNat)
    case atStart => exact ⟨0, 0, .inl rfl, rfl, rfl, rfl, by omega, by omega, fun _ => rfl, by omega, by omega, HR, Q.refl _⟩
    case round =>
      clear HR
      obtain ⟨k, acc, hk, rfl, rfl, rfl, ha0, ha1, hk0, hk1, hk2, HR, hq⟩ := hrel
      rcases hk with rfl | rfl | rfl | rfl
      · have hbd : acc ≤ 0 := by have := hk0 rfl; omega
        clear hk0 hk1 hk2
        simp only [show (1 : Int) + 2 * 0 = 1 from rfl]
        by_cases h1 : 1 < s.size
        · have h1i : (1 : Int) < (s.size : Int) := by omega
          have hne : (P4.bl s).drop 1 ≠ [] := by
            intro q
            have := congrArg List.length q
            rw [List.length_drop, List.length_nil, P4.bl_len] at this
            omega
          have cU : Hid (∀ W, Calls Tryz.prog 63 #[.string s, .int .i64 1] W fun e w' => e = .returned (.int .i64 (P20.tv (P4.bl s) 1)) ∧ Q W w') := fun W => rtwo20_any s 1 1 rfl W hs (by omega)
          have hbv := tv_bd (P4.bl s) 1
          by_cases hv : P20.tv (P4.bl s) 1 < 0
          · have HG : Hid (R = (0, 5)) := Lib.hid ((HR.out.symm.trans (congrArg _ (P20.pv_stop true 3600 (P20.units.drop 1) acc _ hne (tv_none hv)))).trans rfl)
            generalize P20.tv (P4.bl s) 1 = V at cU hv hbv
            clear HR hne h1
            go_wp2_with fail
            refine (cU.out _).mono ?_
            rintro e w1 ⟨rfl, n1, rfl⟩
            clear cU
            obtain ⟨n0, rfl⟩ := hq
            go_wp2_with fail
            go_ret2
            exact ⟨by rw [HG.out]; rfl, _, rfl⟩
          · have HG : Hid (P20.fin (P4.bl s) (P20.pv true (P20.units.drop 1) (acc + P20.tv (P4.bl s) 1 * 3600) ((P4.bl s).drop (1 + 2 * 1))) = R) := by
              have q := P20.pv_go true 3600 (P20.units.drop 1) acc _ hne _ (tv_some (Int.not_lt.mp hv))
              rw [List.drop_drop] at q
              exact Lib.hid ((congrArg _ q.symm).trans HR.out)
            generalize P20.tv (P4.bl s) 1 = V at cU hv hbv HG
            clear HR hne h1
            go_wp2_with fail
            refine (cU.out _).mono ?_
            rintro e w1 ⟨rfl, n1, rfl⟩
            clear cU
            obtain ⟨n0, rfl⟩ := hq
            go_wp2_with fail
            go_roundw
            case rel => exact ⟨1, acc + V * 3600, by omega, by go_num, by go_num, by go_num, by omega, by omega, by omega, by omega, by omega, HG, _, by first | rfl | rw [World.drewN_drewN]⟩
            case measure => simp [intOf]
        · have h1i : (s.size : Int) ≤ 1 := by omega
          have HG : Hid (P20.fin (P4.bl s) (some acc) = R) := by
            have q : (P4.bl s).drop (1 + 2 * 0) = [] := List.drop_eq_nil_of_le (by rw [P4.bl_len]; omega)
            have q2 : P20.pv true (P20.units.drop 0) acc ((P4.bl s).drop (1 + 2 * 0)) = some acc := by rw [q]; exact P20.pv_nil _ _ _
            exact Lib.hid ((congrArg _ q2.symm).trans HR.out)
          clear HR h1
          go_wp2_with fail
          go_meet
          exact ⟨acc, rfl, ha0, ha1, HG, hq⟩
      · have hbd : acc ≤ 356400 := by exact hk1 rfl
        clear hk0 hk1 hk2
        simp only [show (1 : Int) + 2 * 1 = 3 from rfl]
        by_cases h1 : 3 < s.size
        · have h1i : (3 : Int) < (s.size : Int) := by omega
          have hne : (P4.bl s).drop 3 ≠ [] := by
            intro q
            have := congrArg List.length q
            rw [List.length_drop, List.length_nil, P4.bl_len] at this
            omega
          have cU : Hid (∀ W, Calls Tryz.prog 63 #[.string s, .int .i64 3] W fun e w' => e = .returned (.int .i64 (P20.tv (P4.bl s) 3)) ∧ Q W w') := fun W => rtwo20_any s 3 3 rfl W hs (by omega)
          have hbv := tv_bd (P4.bl s) 3
          by_cases hv : P20.tv (P4.bl s) 3 < 0
          · have HG : Hid (R = (0, 5)) := Lib.hid ((HR.out.symm.trans (congrArg _ (P20.pv_stop true 60 (P20.units.drop 2) acc _ hne (tv_none hv)))).trans rfl)
            generalize P20.tv (P4.bl s) 3 = V at cU hv hbv
            clear HR hne h1
            go_wp2_with fail
            refine (cU.out _).mono ?_
            rintro e w1 ⟨rfl, n1, rfl⟩
            clear cU
            obtain ⟨n0, rfl⟩ := hq
            go_wp2_with fail
            go_ret2
            exact ⟨by rw [HG.out]; rfl, _, rfl⟩
          · have HG : Hid (P20.fin (P4.bl s) (P20.pv true (P20.units.drop 2) (acc + P20.tv (P4.bl s) 3 * 60) ((P4.bl s).drop (1 + 2 * 2))) = R) := by
              have q := P20.pv_go true 60 (P20.units.drop 2) acc _ hne _ (tv_some (Int.not_lt.mp hv))
              rw [List.drop_drop] at q
              exact Lib.hid ((congrArg _ q.symm).trans HR.out)
            generalize P20.tv (P4.bl s) 3 = V at cU hv hbv HG
            clear HR hne h1
            go_wp2_with fail
            refine (cU.out _).mono ?_
            rintro e w1 ⟨rfl, n1, rfl⟩
            clear cU
            obtain ⟨n0, rfl⟩ := hq
            go_wp2_with fail
            go_roundw
            case rel => exact ⟨2, acc + V * 60, by omega, by go_num, by go_num, by go_num, by omega, by omega, by omega, by omega, by omega, HG, _, by first | rfl | rw [World.drewN_drewN]⟩
            case measure => simp [intOf]
        · have h1i : (s.size : Int) ≤ 3 := by omega
          have HG : Hid (P20.fin (P4.bl s) (some acc) = R) := by
            have q : (P4.bl s).drop (1 + 2 * 1) = [] := List.drop_eq_nil_of_le (by rw [P4.bl_len]; omega)
            have q2 : P20.pv true (P20.units.drop 1) acc ((P4.bl s).drop (1 + 2 * 1)) = some acc := by rw [q]; exact P20.pv_nil _ _ _
            exact Lib.hid ((congrArg _ q2.symm).trans HR.out)
          clear HR h1
          go_wp2_with fail
          go_meet
          exact ⟨acc, rfl, ha0, ha1, HG, hq⟩
      · have hbd : acc ≤ 362340 := by exact hk2 rfl
        clear hk0 hk1 hk2
        simp only [show (1 : Int) + 2 * 2 = 5 from rfl]
        by_cases h1 : 5 < s.size
        · have h1i : (5 : Int) < (s.size : Int) := by omega
          have hne : (P4.bl s).drop 5 ≠ [] := by
            intro q
            have := congrArg List.length q
            rw [List.length_drop, List.length_nil, P4.bl_len] at this
            omega
          have cU : Hid (∀ W, Calls Tryz.prog 63 #[.string s, .int .i64 5] W fun e w' => e = .returned (.int .i64 (P20.tv (P4.bl s) 5)) ∧ Q W w') := fun W => rtwo20_any s 5 5 rfl W hs (by omega)
          have hbv := tv_bd (P4.bl s) 5
          by_cases hv : P20.tv (P4.bl s) 5 < 0
          · have HG : Hid (R = (0, 5)) := Lib.hid ((HR.out.symm.trans (congrArg _ (P20.pv_stop true 1 (P20.units.drop 3) acc _ hne (tv_none hv)))).trans rfl)
            generalize P20.tv (P4.bl s) 5 = V at cU hv hbv
            clear HR hne h1
            go_wp2_with fail
            refine (cU.out _).mono ?_
            rintro e w1 ⟨rfl, n1, rfl⟩
            clear cU
            obtain ⟨n0, rfl⟩ := hq
            go_wp2_with fail
            go_ret2
            exact ⟨by rw [HG.out]; rfl, _, rfl⟩
          · have HG : Hid (P20.fin (P4.bl s) (P20.pv true (P20.units.drop 3) (acc + P20.tv (P4.bl s) 5 * 1) ((P4.bl s).drop (1 + 2 * 3))) = R) := by
              have q := P20.pv_go true 1 (P20.units.drop 3) acc _ hne _ (tv_some (Int.not_lt.mp hv))
              rw [List.drop_drop] at q
              exact Lib.hid ((congrArg _ q.symm).trans HR.out)
            generalize P20.tv (P4.bl s) 5 = V at cU hv hbv HG
            clear HR hne h1
            go_wp2_with fail
            refine (cU.out _).mono ?_
            rintro e w1 ⟨rfl, n1, rfl⟩
            clear cU
            obtain ⟨n0, rfl⟩ := hq
            go_wp2_with fail
            go_roundw
            case rel => exact ⟨3, acc + V * 1, by omega, by go_num, by go_num, by go_num, by omega, by omega, by omega, by omega, by omega, HG, _, by first | rfl | rw [World.drewN_drewN]⟩
            case measure => simp [intOf]
        · have h1i : (s.size : Int) ≤ 5 := by omega
          have HG : Hid (P20.fin (P4.bl s) (some acc) = R) := by
            have q : (P4.bl s).drop (1 + 2 * 2) = [] := List.drop_eq_nil_of_le (by rw [P4.bl_len]; omega)
            have q2 : P20.pv true (P20.units.drop 2) acc ((P4.bl s).drop (1 + 2 * 2)) = some acc := by rw [q]; exact P20.pv_nil _ _ _
            exact Lib.hid ((congrArg _ q2.symm).trans HR.out)
          clear HR h1
          go_wp2_with fail
          go_meet
          exact ⟨acc, rfl, ha0, ha1, HG, hq⟩
      · have HG : Hid (P20.fin (P4.bl s) (some acc) = R) := Lib.hid HR.out
        clear HR hk0 hk1 hk2
        simp only [show (1 : Int) + 2 * 3 = 7 from rfl]
        by_cases h7 : (7 : Int) < (s.size : Int)
        · go_wp2_with fail
          go_meet
          exact ⟨acc, rfl, ha0, ha1, HG, hq⟩
        · go_wp2_with fail
          go_meet
          exact ⟨acc, rfl, ha0, ha1, HG, hq⟩
  case rest =>
    obtain ⟨acc, rfl, ha0, ha1, HG, n0, rfl⟩ := hcut
    clear HR
    by_cases hz : s.size = 0
    · have hP : R = (0, 5) := by
        have : P4.bl s = [] := List.length_eq_zero_iff.mp (by rw [P4.bl_len]; exact hz)
        rw [← HG.out, this]; exact P20.fin_empty _
      have hnil : s.toList = [] := by rw [ByteArray.toList_eq]; exact List.length_eq_zero_iff.mp (by have := P4.bl_len s; rw [← this] at hz; exact hz)
      have hzi : (s.size : Int) ≤ 0 := by omega
      have HP := Lib.hid hP
      clear hP HG hz
      go_wp2_with fail
      go_ret2
      exact ⟨by rw [HP.out]; rfl, Q.drewN _ _⟩
    · have hzp : 0 < s.size := by omega
      have hzi : (0 : Int) < (s.size : Int) := by omega
      obtain ⟨n1, n2⟩ := s_ne hzp
      have hne : P4.bl s ≠ [] := fun q => hz (by rw [← P4.bl_len, q]; rfl)
      have hsg := sgn_first (s := s) acc hzp
      obtain ⟨c, hc⟩ : ∃ c : Int, ((s[0]'hzp).toNat : Int) = c := ⟨_, rfl⟩
      rw [hc] at hsg
      have hC : ∀ h, ((s[0]'h).toNat : Int) = c := fun _ => hc
      clear hz hc
      by_cases h45 : c = 45
      · have hb : (c == 45) = true := by rw [beq_iff_eq]; exact h45
        have hy : P20.sgn (P4.bl s) acc = (-acc) := by rw [hsg, if_pos h45]
        have cT : Hid (∀ W, Calls Tryz.prog 42 #[.int .i64 (-acc)] W fun e w' => e = .returned (.string (str (P20.text (-acc)))) ∧ Q W w') := fun W => rtext_any (-acc) W (by omega) (by omega)
        clear h45 hsg
        by_cases he : P20.text (-acc) = P4.bl s
        · have HP := Lib.hid (HG.out.symm.trans (P20.fin_eq hne hy he))
          have hse : str (P20.text (-acc)) = s := by rw [he]; rfl
          rw [hse] at cT
          clear hne HG hy he hse
          go_wp2_with fail
          refine (cT.out _).mono ?_
          rintro e w2 ⟨rfl, m2, rfl⟩
          clear cT
          go_wp2_with fail
          go_ret2
          exact ⟨by rw [HP.out]; rfl, _, by first | rfl | rw [World.drewN_drewN]⟩
        · have HP := Lib.hid (HG.out.symm.trans (P20.fin_ne hy he))
          have hse : ¬ str (P20.text (-acc)) = s := fun q => he (by rw [← q]; rfl)
          have e1 := eq_b _ _ hse
          have e2 := ne_b _ _ hse
          clear hne HG hy he hse
          generalize str (P20.text (-acc)) = T at cT e1 e2
          go_wp2_with fail
          refine (cT.out _).mono ?_
          rintro e w2 ⟨rfl, m2, rfl⟩
          clear cT
          go_wp2_with fail
          go_ret2
          exact ⟨by rw [HP.out]; rfl, _, by first | rfl | rw [World.drewN_drewN]⟩
      · have hb : (c == 45) = false := by rw [beq_eq_false_iff_ne]; exact h45
        have hy : P20.sgn (P4.bl s) acc = acc := by rw [hsg, if_neg h45]
        have cT : Hid (∀ W, Calls Tryz.prog 42 #[.int .i64 acc] W fun e w' => e = .returned (.string (str (P20.text acc))) ∧ Q W w') := fun W => rtext_any acc W (by omega) (by omega)
        clear h45 hsg
        by_cases he : P20.text acc = P4.bl s
        · have HP := Lib.hid (HG.out.symm.trans (P20.fin_eq hne hy he))
          have hse : str (P20.text acc) = s := by rw [he]; rfl
          rw [hse] at cT
          clear hne HG hy he hse
          go_wp2_with fail
          refine (cT.out _).mono ?_
          rintro e w2 ⟨rfl, m2, rfl⟩
          clear cT
          go_wp2_with fail
          go_ret2
          exact ⟨by rw [HP.out]; rfl, _, by first | rfl | rw [World.drewN_drewN]⟩
        · have HP := Lib.hid (HG.out.symm.trans (P20.fin_ne hy he))
          have hse : ¬ str (P20.text acc) = s := fun q => he (by rw [← q]; rfl)
          have e1 := eq_b _ _ hse
          have e2 := ne_b _ _ hse
          clear hne HG hy he hse
          generalize str (P20.text acc) = T at cT e1 e2
          go_wp2_with fail
          refine (cT.out _).mono ?_
          rintro e w2 ⟨rfl, m2, rfl⟩
          clear cT
          go_wp2_with fail
          go_ret2
          exact ⟨by rw [HP.out]; rfl, _, by first | rfl | rw [World.drewN_drewN]⟩
end Go.Proofs.YtlideagcmhlkeaaGreatDoor

/- The walks of numeric.sum and of the reference's sum (chapter 20). -/
namespace Go.Proofs.YtlideagcmhlkeaaGreatDoor
open Go.RowKit
set_option linter.unusedVariables false

theorem wrap_hi (n : Int) (h0 : 9223372036854775808 ≤ n) (h1 : n ≤ 18446744073709551615) : wrap64 n = n - 18446744073709551616 := by
  unfold wrap64; omega
theorem wrap_lo (n : Int) (h0 : n < -9223372036854775808) (h1 : -18446744073709551616 ≤ n) : wrap64 n = n + 18446744073709551616 := by
  unfold wrap64; omega
set_option maxHeartbeats 400000 in
theorem sum_fit (a b : Int) (w : World) (a0 : -9223372036854775808 ≤ a) (a1 : a ≤ 9223372036854775807) (b0 : -9223372036854775808 ≤ b) (b1 : b ≤ 9223372036854775807)
    (h0 : -9223372036854775808 ≤ a + b) (h1 : a + b ≤ 9223372036854775807) :
    Calls Tryz.prog 52 #[.int .i64 a, .int .i64 b] w fun e w' => e = .returned (.tuple #[.int .i64 (a + b), .bool true]) ∧ w = w' := by
  by_cases hb : 0 < b
  · have hc : a < a + b := by omega
    go_enter Tryz.func52, Tryz.ntmps52
    go_wp2_with fail
    go_ret2
    exact ⟨rfl, rfl⟩
  · have hc : ¬ a < a + b := by omega
    go_enter Tryz.func52, Tryz.ntmps52
    go_wp2_with fail
    go_ret2
    exact ⟨rfl, rfl⟩
set_option maxHeartbeats 400000 in
theorem sum_lo (a b : Int) (w : World) (a0 : -9223372036854775808 ≤ a) (a1 : a ≤ 9223372036854775807) (b0 : -9223372036854775808 ≤ b) (b1 : b ≤ 9223372036854775807) (h : a + b < -9223372036854775808) :
    Calls Tryz.prog 52 #[.int .i64 a, .int .i64 b] w fun e w' => e = .returned (.tuple #[.int .i64 (a + b + 18446744073709551616), .bool false]) ∧ w = w' := by
  have hw := wrap_lo (a + b) h (by omega)
  have hb : decide (0 < b) = false := decide_eq_false (by omega)
  have hc : a < a + b + 18446744073709551616 := by omega
  have HW := Lib.hid hw
  go_enter Tryz.func52, Tryz.ntmps52
  go_wp2_with fail
  go_ret2
  exact ⟨by rw [← HW.out]; rfl, rfl⟩
set_option maxHeartbeats 400000 in
theorem sum_hi (a b : Int) (w : World) (a0 : -9223372036854775808 ≤ a) (a1 : a ≤ 9223372036854775807) (b0 : -9223372036854775808 ≤ b) (b1 : b ≤ 9223372036854775807) (h : 9223372036854775807 < a + b) :
    Calls Tryz.prog 52 #[.int .i64 a, .int .i64 b] w fun e w' => e = .returned (.tuple #[.int .i64 (a + b - 18446744073709551616), .bool false]) ∧ w = w' := by
  have hw := wrap_hi (a + b) (by omega) (by omega)
  have hb : 0 < b := by omega
  have hc : decide (a < a + b - 18446744073709551616) = false := decide_eq_false (by omega)
  have HW := Lib.hid hw
  go_enter Tryz.func52, Tryz.ntmps52
  go_wp2_with fail
  go_ret2
  exact ⟨by rw [← HW.out]; rfl, rfl⟩
set_option maxRecDepth 100000 in
set_option maxHeartbeats 1000000 in
theorem rsum_any (a b : Int) (w : World) (a0 : -9223372036854775808 ≤ a) (a1 : a ≤ 9223372036854775807) (b0 : -9223372036854775808 ≤ b) (b1 : b ≤ 9223372036854775807) :
    Calls Tryz.prog 43 #[.int .i64 a, .int .i64 b] w fun e w' => e = .returned (.string (str (P20.text (a + b)))) ∧ Q w w' := by
  by_cases hb : 0 < b
  · by_cases h : 86399 - b < a
    · rw [P20.text_out (by omega)]
      go_enter Tryz.func43, Tryz.ntmps43
      go_wp2_with fail
      go_ret
      exact ⟨rfl, Q.refl _⟩
    · have cT : Hid (∀ W, Calls Tryz.prog 42 #[.int .i64 (a + b)] W fun e w' => e = .returned (.string (str (P20.text (a + b)))) ∧ Q W w') := fun W => rtext_any (a + b) W (by omega) (by omega)
      have h0 : -9223372036854775808 ≤ a + b := by omega
      have h1 : a + b ≤ 86399 := by omega
      generalize P20.text (a + b) = T at cT ⊢
      go_enter Tryz.func43, Tryz.ntmps43
      go_wp2_with fail
      refine (cT.out _).mono ?_
      rintro e w1 ⟨rfl, n, rfl⟩
      go_wp2_with fail
      go_ret
      exact ⟨rfl, _, rfl⟩
  · by_cases hb2 : b < 0
    · by_cases h : a < -86399 - b
      · rw [P20.text_out (by omega)]
        go_enter Tryz.func43, Tryz.ntmps43
        go_wp2_with fail
        go_ret
        exact ⟨rfl, Q.refl _⟩
      · have cT : Hid (∀ W, Calls Tryz.prog 42 #[.int .i64 (a + b)] W fun e w' => e = .returned (.string (str (P20.text (a + b)))) ∧ Q W w') := fun W => rtext_any (a + b) W (by omega) (by omega)
        have h0 : -86399 ≤ a + b := by omega
        have h1 : a + b ≤ 9223372036854775807 := by omega
        generalize P20.text (a + b) = T at cT ⊢
        go_enter Tryz.func43, Tryz.ntmps43
        go_wp2_with fail
        refine (cT.out _).mono ?_
        rintro e w1 ⟨rfl, n, rfl⟩
        go_wp2_with fail
        go_ret
        exact ⟨rfl, _, rfl⟩
    · obtain rfl : b = 0 := by omega
      have cT : Hid (∀ W, Calls Tryz.prog 42 #[.int .i64 a] W fun e w' => e = .returned (.string (str (P20.text (a + 0)))) ∧ Q W w') := fun W => by rw [Int.add_zero]; exact rtext_any a W (by omega) (by omega)
      generalize P20.text (a + 0) = T at cT ⊢
      go_enter Tryz.func43, Tryz.ntmps43
      go_wp2_with fail
      refine (cT.out _).mono ?_
      rintro e w1 ⟨rfl, n, rfl⟩
      go_wp2_with fail
      go_ret
      exact ⟨rfl, _, rfl⟩
end Go.Proofs.YtlideagcmhlkeaaGreatDoor

/- The walk of numeric.joined (chapter 20). -/
namespace Go.Proofs.YtlideagcmhlkeaaGreatDoor
open Go.RowKit
set_option linter.unusedVariables false

/-- the numbers of offsets, with a slash between two of them, or the error -/
def P20.jFrom (off : Int) (acc : List (List UInt8)) : List Int → List UInt8 × Int
  | [] => (Lib.join acc [47], 0)
  | x :: l => if P20.text (off + x) = [] then ([], 3) else P20.jFrom off (acc ++ [P20.text (off + x)]) l
theorem jFrom_one (off x : Int) : P20.jFrom off [] [x] = P20.one (P20.text (off + x)) := by
  rw [P20.jFrom, P20.jFrom, P20.one]
  by_cases h : P20.text (off + x) = []
  · rw [if_pos h, if_pos h]
  · rw [if_neg h, if_neg h]; simp [Lib.join]
theorem jFrom_two (off x y : Int) : P20.jFrom off [] [x, y] = P20.both (P20.text (off + x)) (P20.text (off + y)) := by
  rw [P20.jFrom, P20.jFrom, P20.jFrom, P20.both]
  by_cases h : P20.text (off + x) = []
  · rw [if_pos h, if_pos (.inl h)]
  · rw [if_neg h]
    by_cases h' : P20.text (off + y) = []
    · rw [if_pos h', if_pos (.inr h')]
    · rw [if_neg h', if_neg (by simp [h, h'])]; simp [Lib.join]
theorem jFrom_step {off : Int} {acc : List (List UInt8)} {L : List Int} {k : Nat} {x : Int} (h : L[k]? = some x) (ht : P20.text (off + x) ≠ []) : P20.jFrom off acc (L.drop k) = P20.jFrom off (acc ++ [P20.text (off + x)]) (L.drop (k + 1)) := by
  have hk := (List.getElem?_eq_some_iff.mp h).1
  rw [List.drop_eq_getElem_cons hk, (List.getElem?_eq_some_iff.mp h).2, P20.jFrom, if_neg ht]
theorem jFrom_bad {off : Int} {acc : List (List UInt8)} {L : List Int} {k : Nat} {x : Int} (h : L[k]? = some x) (ht : P20.text (off + x) = []) : P20.jFrom off acc (L.drop k) = ([], 3) := by
  have hk := (List.getElem?_eq_some_iff.mp h).1
  rw [List.drop_eq_getElem_cons hk, (List.getElem?_eq_some_iff.mp h).2, P20.jFrom, if_pos ht]
theorem text_le (x : Int) : (P20.text x).length ≤ 7 := by have := P20.text_len x; omega
theorem join_len (acc : List (List UInt8)) (h2 : acc.length ≤ 2) (h7 : ∀ t ∈ acc, t.length ≤ 7) : (Lib.join acc [47]).length ≤ 15 := by
  match acc, h2 with
  | [], _ => simp [Lib.join]
  | [a], _ => have := h7 a (by simp); simp [Lib.join]; omega
  | [a, b], _ => have := h7 a (by simp); have := h7 b (by simp); simp [Lib.join]; omega
def svals (acc : List (List UInt8)) : List Value := acc.map fun t => .string (str t)
theorem svals_snoc (acc : List (List UInt8)) (t : List UInt8) : svals (acc ++ [t]) = svals acc ++ [.string (str t)] := List.map_append
theorem infoStr : (Tryz.prog.info? 9).map (fun i => (i.zero, i.size, i.bytes)) = some (some (.string ⟨#[]⟩), 1, 16) := by kernel_rfl
theorem join_any (acc : List (List UInt8)) (B cap : Nat) (W : World) (h2 : acc.length ≤ 2) (h7 : ∀ t ∈ acc, t.length ≤ 7) (hB : B < W.heap.size) (hcap : acc.length ≤ cap) (hc : ∀ k u, (svals acc)[k]? = some u → W.cell? ⟨B, k, none⟩ = some u) :
    Calls Tryz.prog 54 #[.slice (some ⟨B, 0, none⟩) acc.length cap, .string ⟨#[47]⟩] W fun e w' => e = .returned (.string (str (Lib.join acc [47]))) ∧ Below W.heap.size W w' := by
  have hm : (acc.map str).map (fun x => x.data.toList) = acc := by rw [List.map_map]; exact List.map_id _
  have hjl := join_len acc h2 h7
  have q := Tryz.strings_Join B 0 cap (acc.map str) ⟨#[47]⟩ W (fun j x hx => by
    rw [Nat.zero_add]
    rw [List.getElem?_map] at hx
    cases ha : acc[j]? with
    | none => rw [ha] at hx; cases hx
    | some t =>
      rw [ha] at hx
      injection hx with hx
      rw [← hx]
      exact hc j _ (by unfold svals; rw [List.getElem?_map, ha]; rfl)) hB (by rw [List.length_map]; omega) (by rw [List.length_map]; exact hcap) (by rw [hm]; exact Nat.le_trans hjl (by decide))
  rw [hm, List.length_map] at q
  exact q
theorem sum_over_all (a b : Int) (a0 : -9223372036854775808 ≤ a) (a1 : a ≤ 9223372036854775807) (b0 : -9223372036854775808 ≤ b) (b1 : b ≤ 9223372036854775807) (h : a + b < -9223372036854775808 ∨ 9223372036854775807 < a + b) :
    ∃ C : Int, -9223372036854775808 ≤ C ∧ C ≤ 9223372036854775807 ∧ Hid (∀ W, Calls Tryz.prog 52 #[.int .i64 a, .int .i64 b] W fun e w' => e = .returned (.tuple #[.int .i64 C, .bool false]) ∧ W = w') := by
  by_cases h' : a + b < -9223372036854775808
  · refine ⟨a + b + 18446744073709551616, by omega, by omega, fun W => ?_⟩
    exact sum_lo a b W a0 a1 b0 b1 h'
  · refine ⟨a + b - 18446744073709551616, by omega, by omega, fun W => ?_⟩
    exact sum_hi a b W a0 a1 b0 b1 (by omega)
/-- integers in a block -/
def IntsIn (w : World) (B : Nat) (L : List Int) : Prop := B < w.heap.size ∧ ∀ k x, L[k]? = some x → w.cell? ⟨B, k, none⟩ = some (.int .i64 x)
theorem IntsIn.below {w w' : World} {B : Nat} {L : List Int} (h : IntsIn w B L) (hb : Below w.heap.size w w') : IntsIn w' B L :=
  ⟨Nat.lt_of_lt_of_le h.1 hb.size, fun k x hx => (hb.cell (p := ⟨B, k, none⟩) h.1).trans (h.2 k x hx)⟩
theorem IntsIn.alloc {w : World} {B : Nat} {L : List Int} (h : IntsIn w B L) (ob : Obj) : IntsIn (w.alloc ob) B L := h.below ((Below.refl _ _).alloc (Nat.le_refl _) ob)
theorem IntsIn.grown {w w' : World} {base B n size : Nat} {e : TypeId} {v : Value} {xs : List Value} {L : List Int} (h : IntsIn w B L) (ho : w.ownsRow base e size v n xs) (hg : w.grownBy w' v.ownBlock) (hlt : B < base) : IntsIn w' B L :=
  ⟨Nat.lt_of_lt_of_le h.1 hg.size, fun k x hx => by
    rw [← h.2 k x hx]
    exact World.cell?_of_block (hg.block B h.1 fun q => by have := (ho.lt B q.symm).1; omega)⟩

set_option maxRecDepth 100000 in
set_option maxHeartbeats 8000000 in
theorem joined_any (off : Int) (B c : Nat) (L : List Int) (w : World) (o0 : -9223372036854775808 ≤ off) (o1 : off ≤ 9223372036854775807) (hL0 : 0 < L.length) (hL2 : L.length ≤ 2) (hb64 : ∀ x ∈ L, -9223372036854775808 ≤ x ∧ x ≤ 9223372036854775807) (hI : IntsIn w B L) :
    Calls Tryz.prog 40 #[.int .i64 off, .slice (some ⟨B, 0, none⟩) L.length c] w fun e w' => e = .returned (.tuple #[.string (str (P20.jFrom off [] L).1), .int .i64 (P20.jFrom off [] L).2]) ∧ Below w.heap.size w w' := by
  obtain ⟨R, hRR⟩ : ∃ R, R = P20.jFrom off [] L := ⟨_, rfl⟩
  rw [← hRR]
  have HR : Hid (P20.jFrom off [] (L.drop 0) = R) := Lib.hid hRR.symm
  clear hRR
  have hli : (L.length : Int) ≤ 2 := by omega
  have hlp : (0 : Int) < (L.length : Int) := by omega
  have HB64 := Lib.hid hb64
  have HBlt := Lib.hid hI.1
  have hO : w.ownsRow w.heap.size 9 1 (.slice none 0 0) ([] : List (List UInt8)).length (svals []) := ⟨rfl, .inl ⟨rfl, rfl⟩⟩
  clear hb64
  go_enter Tryz.func40, Tryz.ntmps40
  go_wp2_with fail
  go_loopw [6, 14] (fun v i wr => ∃ (k : Nat) (acc : List (List UInt8)), k ≤ L.length ∧ acc.length = k ∧ i = .int .i64 k ∧ wr.ownsRow w.heap.size 9 1 v acc.length (svals acc) ∧ Hid (∀ t ∈ acc, t.length ≤ 7) ∧ Hid (P20.jFrom off acc (L.drop k) = R) ∧ IntsIn wr B L ∧ Below w.heap.size w wr) (fun _ i _ => L.length - (intOf i).toNat)
  case atStart => exact ⟨0, [], Nat.zero_le _, rfl, rfl, hO, fun t ht => by simp at ht, HR, hI, Below.refl _ _⟩
  case round =>
    clear HR hO hI
    obtain ⟨k, acc, hk, hak, rfl, hO, H7, HR, hI, hb⟩ := hrel
    have HAK := Lib.hid hak
    clear hak
    by_cases hlt : k < L.length
    · obtain ⟨x, hx⟩ : ∃ x, L[k]? = some x := ⟨_, List.getElem?_eq_getElem hlt⟩
      have c0 := hI.2 k x hx
      obtain ⟨x0, x1⟩ := HB64.out x (List.mem_of_getElem? hx)
      have hki : (k : Int) < (L.length : Int) := by omega
      by_cases hf : -9223372036854775808 ≤ off + x ∧ off + x ≤ 9223372036854775807
      · obtain ⟨f0, f1⟩ := hf
        have cS : Hid (∀ W, Calls Tryz.prog 52 #[.int .i64 off, .int .i64 x] W fun e w' => e = .returned (.tuple #[.int .i64 (off + x), .bool true]) ∧ W = w') := fun W => sum_fit off x W o0 o1 x0 x1 f0 f1
        have cT : Hid (∀ W, Calls Tryz.prog 53 #[.int .i64 (off + x)] W fun e w' => e = .returned (.string (str (P20.text (off + x)))) ∧ Below W.heap.size W w') := fun W => ntext_any (off + x) W f0 f1
        have hst := fun q => jFrom_step (off := off) (acc := acc) hx q
        have hbd := fun q => jFrom_bad (off := off) (acc := acc) hx q
        have ht7 := text_le (off + x)
        generalize P20.text (off + x) = T at cT hst hbd ht7
        generalize off + x = Y at cS cT f0 f1
        by_cases hT : T = []
        · have HG := Lib.hid (HR.out.symm.trans (hbd hT))
          subst hT
          clear hst hbd hx HR hO
          go_wp2_with fail
          refine (cS.out _).mono ?_
          rintro e w1 ⟨rfl, rfl⟩
          go_wp2_with fail
          refine (cT.out _).mono ?_
          rintro e w2 ⟨rfl, hc2⟩
          have hb2 := hb.trans (hc2.mono hb.size)
          have n1 : (str []).toList = [] := by rw [ByteArray.toList_eq]; rfl
          clear hb hc2
          go_wp2_with fail
          go_ret2
          exact ⟨by rw [HG.out]; rfl, hb2⟩
        · have HG := Lib.hid ((hst hT).symm.trans HR.out)
          have hTl : 0 < T.length := List.length_pos_iff.2 hT
          obtain ⟨n1, n2⟩ := str_ne hTl
          have HAL := Lib.hid (show acc.length ≤ 1 by have := HAK.out; omega)
          have H72 : Hid (∀ t ∈ acc ++ [T], t.length ≤ 7) := fun t ht => by
            rw [List.mem_append] at ht
            rcases ht with ht | ht
            · exact H7.out t ht
            · rw [List.mem_singleton] at ht; rw [ht]; exact ht7
          have HSN := Lib.hid (svals_snoc acc T)
          have HSL := Lib.hid (show (acc ++ [T]).length = acc.length + 1 by simp)
          clear hst hbd hx HR hT
          go_wp2_with fail
          refine (cS.out _).mono ?_
          rintro e w1 ⟨rfl, rfl⟩
          go_wp2_with fail
          refine (cT.out _).mono ?_
          rintro e w2 ⟨rfl, hc2⟩
          have hb2 := hb.trans (hc2.mono hb.size)
          have hNB : Hid (Blk (w2.alloc (.cells #[.string (str T)] 9)) w2.heap.size 9 #[.string (str T)]) := Lib.hid (Blk.new _ _ _)
          have HO := Lib.hid ((own_below hO hc2).alloc (.cells #[.string (str T)] 9))
          have HI := Lib.hid ((hI.below hc2).alloc (.cells #[.string (str T)] 9))
          have HB := Lib.hid (hb2.alloc hb2.size (.cells #[.string (str T)] 9))
          obtain ⟨i0, hi, hz0, hz1, hz2⟩ := info_parts infoStr
          clear hb hc2 hO hI hb2 cS cT c0
          go_wp2_with (at_builtin; refine wpList_append_own _ rfl _ _ 25 rfl w.heap.size 9 i0 (.string ⟨#[]⟩) 1 16 Tryz.underlying25 hi hz0 hz1 hz2 rfl (by decide) _ _ _ rfl HO.out ⟨w2.heap.size, 0, none⟩ 1 1 [.string (str T)] rfl rfl (blk_cells hNB.out) (by simp [Value.oneCell']) (by have := HAL.out; simp only [maxLen]; omega) (by have := HAL.out; omega) HB.out.size ?_)
          intro v1 wa hown hgr hne
          have hb3 := own_grown HB.out HO.out hgr HB.out.size (Nat.le_refl _)
          have hI2 := HI.out.grown HO.out hgr HBlt.out
          rw [← HSN.out, ← HSL.out] at hown
          clear hgr hne HO HI HB hNB HSN
          go_wp2_with fail
          go_roundw
          case rel => exact ⟨k + 1, acc ++ [T], by omega, by rw [HSL.out, HAK.out], by go_num, hown, H72, HG, hI2, hb3⟩
          case measure => simp [intOf]; omega
      · have hT : P20.text (off + x) = [] := P20.text_out (by omega)
        have HG := Lib.hid (HR.out.symm.trans (jFrom_bad (off := off) (acc := acc) hx hT))
        obtain ⟨C, C0, C1, cS0⟩ : ∃ C : Int, -9223372036854775808 ≤ C ∧ C ≤ 9223372036854775807 ∧ Hid (∀ W, Calls Tryz.prog 52 #[.int .i64 off, .int .i64 x] W fun e w' => e = .returned (.tuple #[.int .i64 C, .bool false]) ∧ W = w') := sum_over_all off x o0 o1 x0 x1 (by omega)
        have cT : Hid (∀ W, Calls Tryz.prog 53 #[.int .i64 C] W fun e w' => e = .returned (.string (str (P20.text C))) ∧ Below W.heap.size W w') := fun W => ntext_any C W C0 C1
        generalize P20.text C = T at cT
        clear hx HR hO hT hf
        go_wp2_with fail
        refine (cS0.out _).mono ?_
        rintro e w1 ⟨rfl, rfl⟩
        go_wp2_with fail
        refine (cT.out _).mono ?_
        rintro e w2 ⟨rfl, hc2⟩
        have hb2 := hb.trans (hc2.mono hb.size)
        clear hb hc2
        go_wp2_with fail
        go_ret2
        exact ⟨by rw [HG.out]; rfl, hb2⟩
    · obtain rfl : k = L.length := by omega
      have hki : ¬ (L.length : Int) < (L.length : Int) := by omega
      obtain ⟨B2, cap, rfl, hB0, hB1, hcap, hcs⟩ := own_form hO (by have := HAK.out; omega)
      have HG : Hid (R = (Lib.join acc [47], 0)) := by
        have q := HR.out
        rw [List.drop_length] at q
        exact Lib.hid q.symm
      have cJ : Hid (Calls Tryz.prog 54 #[.slice (some ⟨B2, 0, none⟩) acc.length cap, .string ⟨#[47]⟩] wr fun e w' => e = .returned (.string (str (Lib.join acc [47]))) ∧ Below wr.heap.size wr w') := Lib.hid (join_any acc B2 cap wr (by have := HAK.out; omega) H7.out hB1 hcap hcs)
      clear hO hI hcs HR
      go_wp2_with fail
      refine cJ.out.mono ?_
      rintro e w2 ⟨rfl, hc2⟩
      have hb2 := hb.trans (hc2.mono hb.size)
      clear hb hc2
      go_wp2_with fail
      go_ret2
      exact ⟨by rw [HG.out]; rfl, hb2⟩
end Go.Proofs.YtlideagcmhlkeaaGreatDoor

/- The walks of ruleset.Other and of the reference's Other (chapters 16, 20). -/
namespace Go.Proofs.YtlideagcmhlkeaaGreatDoor
open Go.RowKit
set_option linter.unusedVariables false

def svs (L : List RV) : List Int := L.map (·.save)
theorem svs_drop {L : List RV} {k : Nat} {r : RV} (h : L[k]? = some r) : (svs L).drop k = r.save :: (svs L).drop (k + 1) := by
  have hk : k < (svs L).length := by rw [svs, List.length_map]; exact (List.getElem?_eq_some_iff.mp h).1
  rw [List.drop_eq_getElem_cons hk]
  congr 1
  have := (List.getElem?_eq_some_iff.mp h).2
  simp [svs, this]
theorem of_zero {X : Int} {L : List RV} {k : Nat} {r : RV} (h : L[k]? = some r) (hz : r.save = 0) : P20.otherFrom X ((svs L).drop k) = P20.otherFrom X ((svs L).drop (k + 1)) := by
  rw [svs_drop h, P20.otherFrom, if_pos hz]
theorem of_bad {X : Int} {L : List RV} {k : Nat} {r : RV} (h : L[k]? = some r) (hz : r.save ≠ 0) (hx : X ≠ 0) (hr : r.save ≠ X) : P20.otherFrom X ((svs L).drop k) = (0, false) := by
  rw [svs_drop h, P20.otherFrom, if_neg hz, if_pos ⟨hx, hr⟩]
theorem of_new {X : Int} {L : List RV} {k : Nat} {r : RV} (h : L[k]? = some r) (hz : r.save ≠ 0) (hx : ¬ (X ≠ 0 ∧ r.save ≠ X)) : P20.otherFrom X ((svs L).drop k) = P20.otherFrom r.save ((svs L).drop (k + 1)) := by
  rw [svs_drop h, P20.otherFrom, if_neg hz, if_neg hx]
theorem of_end (X : Int) (L : List RV) : P20.otherFrom X ((svs L).drop L.length) = (X, decide (X ≠ 0)) := by
  rw [List.drop_eq_nil_of_le (by rw [svs, List.length_map]; exact Nat.le_refl _)]; rfl
theorem dne (X : Int) : decide (X ≠ 0) = (X != 0) := by
  rw [Bool.eq_iff_iff]; simp

set_option maxRecDepth 100000 in
set_option maxHeartbeats 4000000 in
theorem other_any (A : Option Addr) (L : List RV) (c : Nat) (w : World) (hl : L.length ≤ 1000000) (hR : RulesIn w A L) :
    Calls Tryz.prog 41 #[.slice A L.length c] w fun e w' => e = .returned (.tuple #[.int .i64 (P20.other (svs L)).1, .bool (P20.other (svs L)).2]) ∧ Below w.heap.size w w' := by
  obtain ⟨R, hRR⟩ : ∃ R, R = P20.other (svs L) := ⟨_, rfl⟩
  rw [← hRR]
  have HR : Hid (P20.otherFrom 0 ((svs L).drop 0) = R) := Lib.hid hRR.symm
  clear hRR
  have hli : (L.length : Int) ≤ 1000000 := by omega
  go_enter Tryz.func41, Tryz.ntmps41
  go_wp2_with fail
  go_loopw [4, 9] (fun x i wr => ∃ (k : Nat) (X : Int), k ≤ L.length ∧ i = .int .i64 k ∧ x = .int .i64 X ∧ Hid (P20.otherFrom X ((svs L).drop k) = R) ∧ RulesIn wr A L ∧ Below w.heap.size w wr) (fun _ i _ => L.length - (intOf i).toNat)
  case atStart => exact ⟨0, 0, Nat.zero_le _, rfl, rfl, HR, hR, Below.refl _ _⟩
  case round =>
    clear HR hR
    obtain ⟨k, X, hk, rfl, rfl, HR, hR, hb⟩ := hrel
    by_cases hlt : k < L.length
    · obtain ⟨r, hr⟩ : ∃ r, L[k]? = some r := ⟨_, List.getElem?_eq_getElem hlt⟩
      obtain ⟨b, o, rfl, hlb, c0, c1, c2, c3, c4, c5, c6, c7, c8, c9, c10⟩ := hR.get k r hr
      have hki : (k : Int) < (L.length : Int) := by omega
      have z0 := fun q => of_zero (X := X) hr q
      have z1 := fun q => of_bad (X := X) hr q
      have z2 := fun q => of_new (X := X) hr q
      obtain ⟨nm, fr, tl, mo, dk, dw, dd, sc, bs, sv, lt⟩ := r
      simp only at c0 c1 c2 c3 c4 c5 c6 c7 c8 c9 c10 z0 z1 z2
      have hR2 := Lib.hid (hR.alloc (.cells #[.string nm, .int .i64 fr, .int .i64 tl, .int .i64 mo, .int .i64 dk, .int .i64 dw, .int .i64 dd, .int .i64 sc, .int .i64 bs, .int .i64 sv, .string lt] 41))
      have hb2 := hb.alloc hb.size (.cells #[.string nm, .int .i64 fr, .int .i64 tl, .int .i64 mo, .int .i64 dk, .int .i64 dw, .int .i64 dd, .int .i64 sc, .int .i64 bs, .int .i64 sv, .string lt] 41)
      by_cases hz : sv = 0
      · have HG := Lib.hid (z0 hz)
        have e1 : (sv == 0) = true := by rw [beq_iff_eq]; exact hz
        have e2 : (sv != 0) = false := by rw [bne_eq_false_iff_eq]; exact hz
        clear z0 z1 z2 hr hR
        clear hz
        go_wp2_with fail
        go_roundw
        case rel => exact ⟨k + 1, X, by omega, by go_num, rfl, Lib.hid (HG.out.symm.trans HR.out), hR2.out, hb2⟩
        case measure => simp [intOf]; omega
      · have e1 : (sv == 0) = false := by rw [beq_eq_false_iff_ne]; exact hz
        have e2 : (sv != 0) = true := by rw [bne_iff_ne]; exact hz
        by_cases hx : X = 0
        · have HG := Lib.hid (z2 hz (fun q => q.1 hx))
          have e3 : (X != 0) = false := by rw [bne_eq_false_iff_eq]; exact hx
          clear z0 z1 z2 hr hR
          clear hz hx
          go_wp2_with fail
          go_roundw
          case rel => exact ⟨k + 1, sv, by omega, by go_num, rfl, Lib.hid (HG.out.symm.trans HR.out), hR2.out, hb2⟩
          case measure => simp [intOf]; omega
        · have e3 : (X != 0) = true := by rw [bne_iff_ne]; exact hx
          by_cases hq : sv = X
          · have HG := Lib.hid (z2 hz (fun q => q.2 hq))
            have e4 : (sv != X) = false := by rw [bne_eq_false_iff_eq]; exact hq
            clear z0 z1 z2 hr hR
            clear hz hx hq
            go_wp2_with fail
            go_roundw
            case rel => exact ⟨k + 1, sv, by omega, by go_num, rfl, Lib.hid (HG.out.symm.trans HR.out), hR2.out, hb2⟩
            case measure => simp [intOf]; omega
          · have HG := Lib.hid (z1 hz hx hq)
            have e4 : (sv != X) = true := by rw [bne_iff_ne]; exact hq
            clear z0 z1 z2 hr hR
            clear hz hx hq
            go_wp2_with fail
            go_ret2
            exact ⟨by rw [← HR.out, HG.out]; rfl, hb2⟩
    · obtain rfl : k = L.length := by omega
      have HG := Lib.hid ((of_end X L).symm.trans HR.out)
      rw [dne] at HG
      have hki : ¬ (L.length : Int) < (L.length : Int) := by omega
      clear HR
      go_wp2_with fail
      go_ret2
      exact ⟨by rw [← HG.out]; rfl, hb⟩
set_option maxRecDepth 100000 in
set_option maxHeartbeats 4000000 in
theorem rother_any (A : Option Addr) (L : List RV) (c : Nat) (w : World) (hl : L.length ≤ 1000000) (hR : RulesIn w A L) :
    Calls Tryz.prog 44 #[.slice A L.length c] w fun e w' => e = .returned (.tuple #[.int .i64 (P20.other (svs L)).1, .bool (P20.other (svs L)).2]) ∧ Q w w' := by
  obtain ⟨R, hRR⟩ : ∃ R, R = P20.other (svs L) := ⟨_, rfl⟩
  rw [← hRR]
  have HR : Hid (P20.otherFrom 0 ((svs L).drop 0) = R) := Lib.hid hRR.symm
  clear hRR
  have hli : (L.length : Int) ≤ 1000000 := by omega
  go_enter Tryz.func44, Tryz.ntmps44
  go_wp2_with fail
  go_loop [4, 5] (fun x i => ∃ (k : Nat) (X : Int), k ≤ L.length ∧ i = .int .i64 k ∧ x = .int .i64 X ∧ Hid (P20.otherFrom X ((svs L).drop k) = R)) (fun _ i => L.length - (intOf i).toNat)
  case atStart => exact ⟨0, 0, Nat.zero_le _, rfl, rfl, HR⟩
  case round =>
    clear HR
    obtain ⟨k, X, hk, rfl, rfl, HR⟩ := hrel
    by_cases hlt : k < L.length
    · obtain ⟨r, hr⟩ : ∃ r, L[k]? = some r := ⟨_, List.getElem?_eq_getElem hlt⟩
      obtain ⟨b, o, rfl, hlb, c0, c1, c2, c3, c4, c5, c6, c7, c8, c9, c10⟩ := hR.get k r hr
      have hki : (k : Int) < (L.length : Int) := by omega
      have z0 := fun q => of_zero (X := X) hr q
      have z1 := fun q => of_bad (X := X) hr q
      have z2 := fun q => of_new (X := X) hr q
      obtain ⟨nm, fr, tl, mo, dk, dw, dd, sc, bs, sv, lt⟩ := r
      simp only at c0 c1 c2 c3 c4 c5 c6 c7 c8 c9 c10 z0 z1 z2
      by_cases hz : sv = 0
      · have HG := Lib.hid (z0 hz)
        have e1 : (sv == 0) = true := by rw [beq_iff_eq]; exact hz
        have e2 : (sv != 0) = false := by rw [bne_eq_false_iff_eq]; exact hz
        clear z0 z1 z2 hr
        clear hz
        go_wp2_with fail
        go_round
        case rel => exact ⟨k + 1, X, by omega, by go_num, rfl, Lib.hid (HG.out.symm.trans HR.out)⟩
        case measure => simp [intOf]; omega
      · have e1 : (sv == 0) = false := by rw [beq_eq_false_iff_ne]; exact hz
        have e2 : (sv != 0) = true := by rw [bne_iff_ne]; exact hz
        by_cases hx : X = 0
        · have HG := Lib.hid (z2 hz (fun q => q.1 hx))
          have e3 : (X != 0) = false := by rw [bne_eq_false_iff_eq]; exact hx
          clear z0 z1 z2 hr
          clear hz hx
          go_wp2_with fail
          go_round
          case rel => exact ⟨k + 1, sv, by omega, by go_num, rfl, Lib.hid (HG.out.symm.trans HR.out)⟩
          case measure => simp [intOf]; omega
        · have e3 : (X != 0) = true := by rw [bne_iff_ne]; exact hx
          by_cases hq : sv = X
          · have HG := Lib.hid (z2 hz (fun q => q.2 hq))
            have e4 : (sv != X) = false := by rw [bne_eq_false_iff_eq]; exact hq
            clear z0 z1 z2 hr
            clear hz hx hq
            go_wp2_with fail
            go_round
            case rel => exact ⟨k + 1, sv, by omega, by go_num, rfl, Lib.hid (HG.out.symm.trans HR.out)⟩
            case measure => simp [intOf]; omega
          · have HG := Lib.hid (z1 hz hx hq)
            have e4 : (sv != X) = true := by rw [bne_iff_ne]; exact hq
            clear z0 z1 z2 hr
            clear hz hx hq
            go_wp2_with fail
            go_ret2
            exact ⟨by rw [← HR.out, HG.out]; rfl, Q.refl _⟩
    · obtain rfl : k = L.length := by omega
      have HG := Lib.hid ((of_end X L).symm.trans HR.out)
      rw [dne] at HG
      have hki : ¬ (L.length : Int) < (L.length : Int) := by omega
      clear HR
      go_wp2_with fail
      go_ret2
      exact ⟨by rw [← HG.out]; rfl, Q.refl _⟩
end Go.Proofs.YtlideagcmhlkeaaGreatDoor

/- The walks of numeric.Expansion and of the reference's Expansion (chapter 20). -/
namespace Go.Proofs.YtlideagcmhlkeaaGreatDoor
open Go.RowKit
set_option linter.unusedVariables false

theorem otherFrom_bd : ∀ (l : List Int) (x : Int), (-9223372036854775808 ≤ x ∧ x ≤ 9223372036854775807) → (∀ y ∈ l, -9223372036854775808 ≤ y ∧ y ≤ 9223372036854775807) → -9223372036854775808 ≤ (P20.otherFrom x l).1 ∧ (P20.otherFrom x l).1 ≤ 9223372036854775807
  | [], x, hx, _ => hx
  | r :: l, x, hx, h => by
    rw [P20.otherFrom]
    split
    · exact otherFrom_bd l x hx fun y hy => h y (List.mem_cons_of_mem _ hy)
    · split
      · exact ⟨by decide, by decide⟩
      · exact otherFrom_bd l r (h r (List.mem_cons_self ..)) fun y hy => h y (List.mem_cons_of_mem _ hy)
theorem other_bd (l : List Int) (h : ∀ y ∈ l, -9223372036854775808 ≤ y ∧ y ≤ 9223372036854775807) : -9223372036854775808 ≤ (P20.other l).1 ∧ (P20.other l).1 ≤ 9223372036854775807 := otherFrom_bd l 0 ⟨by decide, by decide⟩ h
/-- the saves are numbers of the machine -/
def SvOk (L : List RV) : Prop := ∀ y ∈ svs L, -9223372036854775808 ≤ y ∧ y ≤ 9223372036854775807
theorem exp_none (off save : Int) (l : List Int) : P20.expansion 0 off save l = P20.jFrom off [] [0] := by rw [jFrom_one, Int.add_zero]; rfl
theorem exp_fixed (off save : Int) (l : List Int) : P20.expansion 1 off save l = P20.jFrom off [] [save] := by rw [jFrom_one]; rfl
theorem exp_is (off save : Int) (l : List Int) (h : (P20.other l).2 = true) : P20.expansion 2 off save l = P20.jFrom off [] [0, (P20.other l).1] := by
  rw [jFrom_two, Int.add_zero]
  show (if (P20.other l).2 = true then _ else _) = _
  rw [if_pos h]
theorem exp_isnt (off save : Int) (l : List Int) (h : (P20.other l).2 = false) : P20.expansion 2 off save l = if l.any (fun r => decide (r ≠ 0)) then ([], 14) else P20.jFrom off [] [0] := by
  rw [jFrom_one, Int.add_zero]
  show (if (P20.other l).2 = true then _ else _) = _
  rw [if_neg (by rw [h]; decide)]
theorem exp_else (kind off save : Int) (l : List Int) (h : kind < 0 ∨ 2 < kind) : P20.expansion kind off save l = ([], 2) := by
  unfold P20.expansion
  rw [if_neg (by omega), if_neg (by omega), if_neg (by omega)]
theorem any_hit {L : List RV} {k : Nat} {r : RV} (h : L[k]? = some r) (hz : r.save ≠ 0) : (svs L).any (fun r => decide (r ≠ 0)) = true := by
  rw [List.any_eq_true]
  exact ⟨r.save, List.mem_map.2 ⟨r, List.mem_of_getElem? h, rfl⟩, decide_eq_true hz⟩
theorem any_no {L : List RV} (h : ∀ j r, j < L.length → L[j]? = some r → r.save = 0) : (svs L).any (fun r => decide (r ≠ 0)) = false := by
  rw [List.any_eq_false]
  intro y hy
  obtain ⟨r, hr, rfl⟩ := List.mem_map.1 hy
  obtain ⟨j, hj⟩ := List.mem_iff_getElem?.1 hr
  have := h j r (List.getElem?_eq_some_iff.mp hj).1 hj
  simpa using this
theorem ints_one {w : World} {B : Nat} {e : TypeId} {x : Int} (h : Blk w B e #[.int .i64 x]) : IntsIn w B [x] := ⟨h.lt, fun k y hy => by
  rw [h.cell k]
  match k, hy with
  | 0, hy => injection hy with hy; rw [← hy]; rfl⟩
theorem ints_two {w : World} {B : Nat} {e : TypeId} {x y : Int} (h : Blk w B e #[.int .i64 x, .int .i64 y]) : IntsIn w B [x, y] := ⟨h.lt, fun k z hz => by
  rw [h.cell k]
  match k, hz with
  | 0, hz => injection hz with hz; rw [← hz]; rfl
  | 1, hz => injection hz with hz; rw [← hz]; rfl⟩

set_option maxRecDepth 100000 in
set_option maxHeartbeats 8000000 in
theorem expansion_any (off kind save : Int) (set fmt : ByteArray) (ui : Bool) (uy um dk dw dd asec ab : Int) (A : Option Addr) (L : List RV) (c : Nat) (w : World) (o64 : -9223372036854775808 ≤ off ∧ off ≤ 9223372036854775807) (s64 : -9223372036854775808 ≤ save ∧ save ≤ 9223372036854775807) (hl : L.length ≤ 1000000) (hsv : SvOk L) (hR : RulesIn w A L) :
    Calls Tryz.prog 28 #[.agg #[.int .i64 off, .int .i64 kind, .int .i64 save, .string set, .string fmt, .bool ui, .int .i64 uy, .int .i64 um, .int .i64 dk, .int .i64 dw, .int .i64 dd, .int .i64 asec, .int .i64 ab], .slice A L.length c] w fun e w' => e = .returned (.tuple #[.string (str (P20.expansion kind off save (svs L)).1), .int .i64 (P20.expansion kind off save (svs L)).2]) ∧ Below w.heap.size w w' := by
  have hE := Blk.new w 48 #[.int .i64 off, .int .i64 kind, .int .i64 save, .string set, .string fmt, .bool ui, .int .i64 uy, .int .i64 um, .int .i64 dk, .int .i64 dw, .int .i64 dd, .int .i64 asec, .int .i64 ab]
  have hb0 : Below w.heap.size w (w.alloc (.cells #[.int .i64 off, .int .i64 kind, .int .i64 save, .string set, .string fmt, .bool ui, .int .i64 uy, .int .i64 um, .int .i64 dk, .int .i64 dw, .int .i64 dd, .int .i64 asec, .int .i64 ab] 48)) := (Below.refl _ _).alloc (Nat.le_refl _) _
  have hR0 := hR.alloc (.cells #[.int .i64 off, .int .i64 kind, .int .i64 save, .string set, .string fmt, .bool ui, .int .i64 uy, .int .i64 um, .int .i64 dk, .int .i64 dw, .int .i64 dd, .int .i64 asec, .int .i64 ab] 48)
  have hli : (L.length : Int) ≤ 1000000 := by omega
  obtain ⟨o0, o1⟩ := o64
  obtain ⟨s0, s1⟩ := s64
  have cJ1 : Hid (∀ (x : Int) (B : Nat) (W : World), (-9223372036854775808 ≤ x ∧ x ≤ 9223372036854775807) → IntsIn W B [x] → Calls Tryz.prog 40 #[.int .i64 off, .slice (some ⟨B, 0, none⟩) 1 1] W fun e w' => e = .returned (.tuple #[.string (str (P20.jFrom off [] [x]).1), .int .i64 (P20.jFrom off [] [x]).2]) ∧ Below W.heap.size W w') := fun x B W hx hI =>
    joined_any off B 1 [x] W o0 o1 (by simp) (by simp) (fun y hy => by rw [List.mem_singleton] at hy; rw [hy]; exact hx) hI
  have cJ2 : Hid (∀ (x y : Int) (B : Nat) (W : World), (-9223372036854775808 ≤ x ∧ x ≤ 9223372036854775807) → (-9223372036854775808 ≤ y ∧ y ≤ 9223372036854775807) → IntsIn W B [x, y] → Calls Tryz.prog 40 #[.int .i64 off, .slice (some ⟨B, 0, none⟩) 2 2] W fun e w' => e = .returned (.tuple #[.string (str (P20.jFrom off [] [x, y]).1), .int .i64 (P20.jFrom off [] [x, y]).2]) ∧ Below W.heap.size W w') := fun x y B W hx hy hI =>
    joined_any off B 2 [x, y] W o0 o1 (by simp) (by simp) (fun z hz => by
      simp only [List.mem_cons, List.not_mem_nil, or_false] at hz
      rcases hz with rfl | rfl
      · exact hx
      · exact hy) hI
  by_cases hk0 : kind = 0
  · subst hk0
    rw [exp_none]
    clear hR hR0
    have hN := ints_one (Blk.newAt (w.alloc (.cells #[.int .i64 off, .int .i64 0, .int .i64 save, .string set, .string fmt, .bool ui, .int .i64 uy, .int .i64 um, .int .i64 dk, .int .i64 dw, .int .i64 dd, .int .i64 asec, .int .i64 ab] 48)) (w.heap.size + 1) (by simp) 2 #[.int .i64 0])
    have hb1 := hb0.alloc hb0.size (.cells #[.int .i64 0] 2)
    have cJ := cJ1.out 0 _ _ ⟨by decide, by decide⟩ hN
    generalize P20.jFrom off [] [0] = R at cJ ⊢
    have CJ := Lib.hid cJ
    clear cJ hN cJ1 cJ2 hE hb0
    go_enter Tryz.func28, Tryz.ntmps28
    go_wp2_with fail
    refine CJ.out.mono ?_
    rintro e w1 ⟨rfl, hc1⟩
    have hb2 := hb1.trans (hc1.mono hb1.size)
    clear CJ hb1 hc1
    go_wp2_with fail
    go_ret2
    exact ⟨rfl, hb2⟩
  by_cases hk1 : kind = 1
  · subst hk1
    rw [exp_fixed]
    clear hR hR0
    have hN := ints_one (Blk.newAt (w.alloc (.cells #[.int .i64 off, .int .i64 1, .int .i64 save, .string set, .string fmt, .bool ui, .int .i64 uy, .int .i64 um, .int .i64 dk, .int .i64 dw, .int .i64 dd, .int .i64 asec, .int .i64 ab] 48)) (w.heap.size + 1) (by simp) 2 #[.int .i64 save])
    have hb1 := hb0.alloc hb0.size (.cells #[.int .i64 save] 2)
    have cJ := cJ1.out save _ _ ⟨s0, s1⟩ hN
    generalize P20.jFrom off [] [save] = R at cJ ⊢
    have CJ := Lib.hid cJ
    clear cJ hN cJ1 cJ2 hE hb0
    go_enter Tryz.func28, Tryz.ntmps28
    go_wp2_with fail
    refine CJ.out.mono ?_
    rintro e w1 ⟨rfl, hc1⟩
    have hb2 := hb1.trans (hc1.mono hb1.size)
    clear CJ hb1 hc1
    go_wp2_with fail
    go_ret2
    exact ⟨rfl, hb2⟩
  by_cases hk2 : kind = 2
  · subst hk2
    have cO : Hid (∀ W, RulesIn W A L → Calls Tryz.prog 41 #[.slice A L.length c] W fun e w' => e = .returned (.tuple #[.int .i64 (P20.other (svs L)).1, .bool (P20.other (svs L)).2]) ∧ Below W.heap.size W w') := fun W h => other_any A L c W hl h
    obtain ⟨x0, x1⟩ := other_bd (svs L) hsv
    have e1 := exp_is off save (svs L)
    have e2 := exp_isnt off save (svs L)
    obtain ⟨X, hX⟩ : ∃ X, X = (P20.other (svs L)).1 := ⟨_, rfl⟩
    rw [← hX] at x0 x1 e1 cO
    clear hX
    generalize (P20.other (svs L)).2 = I at e1 e2 cO
    clear hR
    cases I with
    | true =>
      rw [e1 rfl]
      clear e1 e2
      have cJ3 : Hid (∀ (B : Nat) (W : World), IntsIn W B [0, X] → Calls Tryz.prog 40 #[.int .i64 off, .slice (some ⟨B, 0, none⟩) 2 2] W fun e w' => e = .returned (.tuple #[.string (str (P20.jFrom off [] [0, X]).1), .int .i64 (P20.jFrom off [] [0, X]).2]) ∧ Below W.heap.size W w') := fun B W hI => cJ2.out 0 X B W ⟨by decide, by decide⟩ ⟨x0, x1⟩ hI
      generalize P20.jFrom off [] [0, X] = R at cJ3 ⊢
      go_enter Tryz.func28, Tryz.ntmps28
      go_wp2_with fail
      refine (cO.out _ hR0).mono ?_
      rintro e w1 ⟨rfl, hc1⟩
      have hE1 := hE.below hc1 hE.lt
      have hb1 := hb0.trans (hc1.mono hb0.size)
      have k0 : w1.cell? ⟨w.heap.size, 0, none⟩ = some (.int .i64 off) := (hE1.cell 0).trans rfl
      have hN := ints_two (Blk.new w1 2 #[.int .i64 0, .int .i64 X])
      have hb2 := hb1.alloc hb1.size (.cells #[.int .i64 0, .int .i64 X] 2)
      have cJ := cJ3.out _ _ hN
      have CJ := Lib.hid cJ
      clear cJ hN cJ1 cJ2 cJ3 hE hb0 hE1 hb1 hc1 cO hR0
      go_wp2_with fail
      refine CJ.out.mono ?_
      rintro e w2 ⟨rfl, hc2⟩
      have hb3 := hb2.trans (hc2.mono hb2.size)
      clear CJ hb2 hc2
      go_wp2_with fail
      go_ret2
      exact ⟨rfl, hb3⟩
    | false =>
      obtain ⟨R, hRR⟩ : ∃ R, R = P20.expansion 2 off save (svs L) := ⟨_, rfl⟩
      rw [← hRR]
      have HR := Lib.hid (hRR.trans (e2 rfl))
      clear e1 e2 hRR x0 x1
      go_enter Tryz.func28, Tryz.ntmps28
      go_wp2_with fail
      refine (cO.out _ hR0).mono ?_
      rintro e w1 ⟨rfl, hc1⟩
      have hE1 := hE.below hc1 hE.lt
      have hb1 := hb0.trans (hc1.mono hb0.size)
      have hR1 := hR0.below hc1
      clear hE hb0 hR0 hc1 cO
      go_wp2_with fail
      go_loopw [47] (fun i wr => ∃ k : Nat, k ≤ L.length ∧ i = .int .i64 k ∧ Hid (∀ j r, j < k → L[j]? = some r → r.save = 0) ∧ RulesIn wr A L ∧ Blk wr w.heap.size 48 #[.int .i64 off, .int .i64 2, .int .i64 save, .string set, .string fmt, .bool ui, .int .i64 uy, .int .i64 um, .int .i64 dk, .int .i64 dw, .int .i64 dd, .int .i64 asec, .int .i64 ab] ∧ Below w.heap.size w wr) (fun i _ => L.length - (intOf i).toNat)
      case atStart => exact ⟨0, Nat.zero_le _, rfl, fun j r hj => absurd hj (Nat.not_lt_zero _), hR1, hE1, hb1⟩
      case round =>
        clear hR1 hE1 hb1
        obtain ⟨k, hk, rfl, HN, hR, hE, hb⟩ := hrel
        by_cases hlt : k < L.length
        · obtain ⟨r, hr⟩ : ∃ r, L[k]? = some r := ⟨_, List.getElem?_eq_getElem hlt⟩
          obtain ⟨b, o, rfl, hlb, c0, c1, c2, c3, c4, c5, c6, c7, c8, c9, c10⟩ := hR.get k r hr
          have hki : (k : Int) < (L.length : Int) := by omega
          have z0 := fun q => any_hit hr q
          have z1 : r.save = 0 → ∀ j r', j < k + 1 → L[j]? = some r' → r'.save = 0 := fun q j r' hj hr' => by
            rcases Nat.lt_succ_iff_lt_or_eq.mp hj with hj | hj
            · exact HN.out j r' hj hr'
            · rw [hj, hr] at hr'; injection hr' with hr'; rw [← hr']; exact q
          obtain ⟨nm, fr, tl, mo, rdk, rdw, rdd, sc, bs, sv, lt⟩ := r
          simp only at c0 c1 c2 c3 c4 c5 c6 c7 c8 c9 c10 z0 z1
          have hR2 := Lib.hid (hR.alloc (.cells #[.string nm, .int .i64 fr, .int .i64 tl, .int .i64 mo, .int .i64 rdk, .int .i64 rdw, .int .i64 rdd, .int .i64 sc, .int .i64 bs, .int .i64 sv, .string lt] 41))
          have hE2 := Lib.hid (hE.alloc (.cells #[.string nm, .int .i64 fr, .int .i64 tl, .int .i64 mo, .int .i64 rdk, .int .i64 rdw, .int .i64 rdd, .int .i64 sc, .int .i64 bs, .int .i64 sv, .string lt] 41))
          have hb2 := hb.alloc hb.size (.cells #[.string nm, .int .i64 fr, .int .i64 tl, .int .i64 mo, .int .i64 rdk, .int .i64 rdw, .int .i64 rdd, .int .i64 sc, .int .i64 bs, .int .i64 sv, .string lt] 41)
          clear hR hE hb hr
          by_cases hz : sv = 0
          · have HZ := Lib.hid (z1 hz)
            have e1 : (sv != 0) = false := by rw [bne_eq_false_iff_eq]; exact hz
            clear hz z0 z1
            go_wp2_with fail
            go_roundw
            case rel => exact ⟨k + 1, by omega, by go_num, HZ, hR2.out, hE2.out, hb2⟩
            case measure => simp [intOf]; omega
          · have HG : Hid (R = ([], 14)) := Lib.hid (HR.out.trans (if_pos (z0 hz)))
            have e1 : (sv != 0) = true := by rw [bne_iff_ne]; exact hz
            clear hz z0 z1
            go_wp2_with fail
            go_ret2
            exact ⟨by rw [HG.out]; rfl, hb2⟩
        · obtain rfl : k = L.length := by omega
          have hki : ¬ (L.length : Int) < (L.length : Int) := by omega
          have hno := any_no HN.out
          have HG := Lib.hid (HR.out.trans (if_neg (by rw [hno]; decide)))
          have k0 : wr.cell? ⟨w.heap.size, 0, none⟩ = some (.int .i64 off) := (hE.cell 0).trans rfl
          have hN := ints_one (Blk.new wr 2 #[.int .i64 0])
          have hb2 := hb.alloc hb.size (.cells #[.int .i64 0] 2)
          have cJ := cJ1.out 0 _ _ ⟨by decide, by decide⟩ hN
          generalize P20.jFrom off [] [0] = Z at cJ HG
          have CJ := Lib.hid cJ
          clear cJ hN cJ1 cJ2 hE hb hR hno HN HR
          go_wp2_with fail
          refine CJ.out.mono ?_
          rintro e w2 ⟨rfl, hc2⟩
          have hb3 := hb2.trans (hc2.mono hb2.size)
          clear CJ hb2 hc2
          go_wp2_with fail
          go_ret2
          exact ⟨by rw [HG.out]; rfl, hb3⟩
  rw [exp_else kind off save (svs L) (by omega)]
  have q0 : (kind == 0) = false := by rw [beq_eq_false_iff_ne]; exact hk0
  have q1 : (kind == 1) = false := by rw [beq_eq_false_iff_ne]; exact hk1
  have q2 : (kind == 2) = false := by rw [beq_eq_false_iff_ne]; exact hk2
  clear hk0 hk1 hk2 hE hR hR0 cJ1 cJ2
  go_enter Tryz.func28, Tryz.ntmps28
  go_wp2_with fail
  go_ret2
  exact ⟨rfl, hb0⟩
-- REF
end Go.Proofs.YtlideagcmhlkeaaGreatDoor

/- Plain mathematics of FORMATs (chapter 21): abbreviations, cuts, kinds, parts; no program in sight. -/
namespace Go.Proofs.YtlideagcmhlkeaaGreatDoor.P21

/-- an ASCII letter, as a number and as a byte -/
def isLr (r : Nat) : Bool := (decide (65 ≤ r) && decide (r ≤ 90)) || (decide (97 ≤ r) && decide (r ≤ 122))
def isL (c : UInt8) : Bool := isLr c.toNat
theorem isLr_high {r : Nat} (h : 128 ≤ r) : isLr r = false := by
  unfold isLr
  rw [decide_eq_false (show ¬ r ≤ 90 by omega), decide_eq_false (show ¬ r ≤ 122 by omega), Bool.and_false, Bool.and_false]; rfl
/-- an abbreviation: three to six letters -/
def abbr (l : List UInt8) : Bool := decide (3 ≤ l.length) && decide (l.length ≤ 6) && l.all isL
/-- what stands around the first slash, around the first %s -/
def slash (l : List UInt8) : List UInt8 × List UInt8 × Bool := Lib.cut l [47]
def pct (l : List UInt8) : List UInt8 × List UInt8 × Bool := Lib.cut l [37, 115]
def letter (l : List UInt8) : Bool := (pct l).2.2 && (((pct l).1 ++ (pct l).2.1).all isL && decide (((pct l).1 ++ (pct l).2.1).length ≤ 5))
def num (l : List UInt8) : Bool := decide ((P20.parse l).2 = 0)
def kind (l : List UInt8) : Int :=
  if abbr l = true then 1
  else if ((slash l).2.2 && abbr (slash l).1 && abbr (slash l).2.1) = true then 2
  else if letter l = true then 3
  else if l = [37, 122] then 4
  else if (num l || ((slash l).2.2 && num (slash l).1 && num (slash l).2.1)) = true then 5
  else 0
def two (l : List UInt8) : Bool := (slash l).2.2 && (decide (kind l = 2) || decide (kind l = 5))
def parts (l : List UInt8) : List UInt8 × List UInt8 × Bool := if two l = true then ((slash l).1, (slash l).2.1, true) else ([], [], false)
/-- the abbreviation, and the error's number -/
def out (t : List UInt8) (is : Bool) : List UInt8 × Int := if is = true then (t, 0) else ([], 15)
def abbrv (f : List UInt8) (off save : Int) (lt : List UInt8) : List UInt8 × Int :=
  if two f = true then (if save = 0 then ((slash f).1, 0) else ((slash f).2.1, 0))
  else if kind f = 3 then out ((pct f).1 ++ lt ++ (pct f).2.1) (abbr ((pct f).1 ++ lt ++ (pct f).2.1))
  else if kind f = 4 then out (P20.text (off + save)) (decide (P20.text (off + save) ≠ []))
  else if kind f = 0 then ([], 15)
  else (f, 0)
/-- whether the FORMAT of an era is right: the error's number -/
def check (f : List UInt8) (off kd save : Int) (ls : List (List UInt8)) (sv : List Int) : Int :=
  if kind f = 0 then 15
  else if kind f = 3 then (if ((if kd = 2 then ls else [[]]).all fun x => abbr ((pct f).1 ++ x ++ (pct f).2.1)) = true then 0 else 15)
  else if kind f < 4 then 0
  else if (P20.expansion kd off save sv).2 ≠ 0 ∨ (kind f = 5 ∧ (P20.expansion kd off save sv).1 ≠ f) then 15 else 0

theorem kind_cases (l : List UInt8) : kind l = 0 ∨ kind l = 1 ∨ kind l = 2 ∨ kind l = 3 ∨ kind l = 4 ∨ kind l = 5 := by
  unfold kind
  repeat' split
  all_goals simp

/-- cuts by places -/
theorem cut_at {l sep : List UInt8} {i : Nat} (hi : i ≤ l.length) (ho : Lib.occAt l sep i = true) (hn : ∀ j, j < i → Lib.occAt l sep j = false) : Lib.cut l sep = (l.take i, l.drop (i + sep.length), true) := by
  have h := Lib.index_first hi ho hn
  unfold Lib.cut
  rw [h, if_pos (by omega)]; rfl
theorem cut_no {l sep : List UInt8} (hn : ∀ j, j ≤ l.length → Lib.occAt l sep j = false) : Lib.cut l sep = (l, [], false) := by
  have h := Lib.index_none hn
  unfold Lib.cut
  rw [h, if_neg (by omega)]
theorem cut_cases (l sep : List UInt8) : (Lib.cut l sep = (l, [], false) ∧ ∀ j, j ≤ l.length → Lib.occAt l sep j = false) ∨ ∃ i, i ≤ l.length ∧ Lib.occAt l sep i = true ∧ (∀ j, j < i → Lib.occAt l sep j = false) ∧ Lib.cut l sep = (l.take i, l.drop (i + sep.length), true) := by
  rcases Lib.index_spec l sep with ⟨h1, h2⟩ | ⟨i, h1, h2, h3, h4⟩
  · exact .inl ⟨cut_no h2, h2⟩
  · exact .inr ⟨i, h2, h3, h4, cut_at h2 h3 h4⟩
theorem beq_dec (c a : UInt8) : (c == a) = decide (a = c) := by rw [Bool.eq_iff_iff, beq_iff_eq, decide_eq_true_eq]; exact eq_comm
theorem occ1 (l : List UInt8) (c : UInt8) (i : Nat) : Lib.occAt l [c] i = decide (l[i]? = some c) := by
  unfold Lib.occAt
  rw [← List.head?_drop]
  cases l.drop i with
  | nil => simp
  | cons a t =>
    simp only [List.isPrefixOf, List.head?_cons, Option.some.injEq, Bool.and_true]
    exact beq_dec c a
theorem occ2 (l : List UInt8) (c d : UInt8) (i : Nat) : Lib.occAt l [c, d] i = (decide (l[i]? = some c) && decide (l[i + 1]? = some d)) := by
  unfold Lib.occAt
  rw [← List.head?_drop, show l[i + 1]? = (l.drop i)[1]? by rw [List.getElem?_drop]]
  cases l.drop i with
  | nil => simp
  | cons a t => cases t with
    | nil => simp [List.isPrefixOf]
    | cons b t =>
      simp only [List.isPrefixOf, List.head?_cons, List.getElem?_cons_succ, List.getElem?_cons_zero, Option.some.injEq, Bool.and_true]
      rw [beq_dec, beq_dec]
theorem cut1_at {l : List UInt8} {c : UInt8} {i : Nat} (h : l[i]? = some c) (hn : ∀ j, j < i → l[j]? ≠ some c) : Lib.cut l [c] = (l.take i, l.drop (i + 1), true) := by
  have hi := (List.getElem?_eq_some_iff.1 h).1
  exact cut_at (by omega) (by rw [occ1]; exact decide_eq_true h) fun j hj => by rw [occ1]; exact decide_eq_false (hn j hj)
theorem cut1_no {l : List UInt8} {c : UInt8} (hn : ∀ j, j < l.length → l[j]? ≠ some c) : Lib.cut l [c] = (l, [], false) :=
  cut_no fun j _ => by
    rw [occ1]
    refine decide_eq_false fun h => ?_
    exact hn j (List.getElem?_eq_some_iff.1 h).1 h
theorem cut2_at {l : List UInt8} {c d : UInt8} {i : Nat} (h : l[i]? = some c) (h2 : l[i + 1]? = some d) (hn : ∀ j, j < i → l[j]? ≠ some c ∨ l[j + 1]? ≠ some d) : Lib.cut l [c, d] = (l.take i, l.drop (i + 2), true) := by
  have hi := (List.getElem?_eq_some_iff.1 h).1
  refine cut_at (by omega) (by rw [occ2, decide_eq_true h, decide_eq_true h2]; rfl) fun j hj => ?_
  rw [occ2]
  rcases hn j hj with q | q
  · rw [decide_eq_false q]; rfl
  · rw [decide_eq_false q, Bool.and_false]
theorem cut2_no {l : List UInt8} {c d : UInt8} (hn : ∀ j, j + 1 < l.length → l[j]? ≠ some c ∨ l[j + 1]? ≠ some d) : Lib.cut l [c, d] = (l, [], false) :=
  cut_no fun j _ => by
    rw [occ2]
    by_cases hj : j + 1 < l.length
    · rcases hn j hj with q | q
      · rw [decide_eq_false q]; rfl
      · rw [decide_eq_false q, Bool.and_false]
    · rw [decide_eq_false (p := l[j + 1]? = some d) (fun h => hj (List.getElem?_eq_some_iff.1 h).1), Bool.and_false]

/-- a slash in the string: of which kinds it can be -/
theorem slash_mem {l : List UInt8} (h : (slash l).2.2 = true) : (47 : UInt8) ∈ l := by
  rcases cut_cases l [47] with ⟨q, _⟩ | ⟨i, _, ho, _, _⟩
  · unfold slash at h; rw [q] at h; cases h
  · rw [occ1] at ho
    exact List.mem_of_getElem? (of_decide_eq_true ho)
theorem slash_of_mem {l : List UInt8} (h : (47 : UInt8) ∈ l) : (slash l).2.2 = true := by
  unfold slash
  rcases cut_cases l [47] with ⟨_, q⟩ | ⟨i, _, _, _, q⟩
  · obtain ⟨k, hk, hk2⟩ := List.getElem_of_mem h
    have := q k (by omega)
    rw [occ1, List.getElem?_eq_getElem hk, hk2] at this
    simp at this
  · rw [q]
theorem letter_mem {l : List UInt8} (h : letter l = true) : ∀ c ∈ l, isL c = true ∨ c = 37 ∨ c = 115 := by
  unfold letter at h
  simp only [Bool.and_eq_true] at h
  obtain ⟨h1, h2, _⟩ := h
  rcases cut_cases l [37, 115] with ⟨q, _⟩ | ⟨i, hi, ho, _, q⟩
  · unfold pct at h1; rw [q] at h1; cases h1
  · unfold pct at h2
    rw [q] at h2
    simp only [List.all_append, Bool.and_eq_true, List.all_eq_true] at h2
    rw [occ2] at ho
    simp only [Bool.and_eq_true, decide_eq_true_eq] at ho
    intro c hc
    obtain ⟨k, hk, rfl⟩ := List.getElem_of_mem hc
    by_cases k1 : k < i
    · exact .inl (h2.1 _ (List.mem_of_getElem? (i := k) (by rw [List.getElem?_take_of_lt k1, List.getElem?_eq_getElem hk])))
    · by_cases k2 : k = i
      · subst k2
        rw [List.getElem?_eq_getElem hk] at ho
        exact .inr (.inl (Option.some.inj ho.1))
      · by_cases k3 : k = i + 1
        · subst k3
          rw [List.getElem?_eq_getElem hk] at ho
          exact .inr (.inr (Option.some.inj ho.2))
        · refine .inl (h2.2 _ (List.mem_of_getElem? (i := k - (i + 2)) ?_))
          rw [List.getElem?_drop, show i + ([37, 115] : List UInt8).length + (k - (i + 2)) = k by simp only [List.length_cons, List.length_nil]; omega, List.getElem?_eq_getElem hk]
theorem two_eq (l : List UInt8) : two l = ((slash l).2.2 && decide (kind l ≠ 0)) := by
  unfold two
  by_cases hs : (slash l).2.2 = true
  · have hm := slash_mem hs
    have h1 : kind l ≠ 1 := by
      intro h
      have ha : abbr l = true := by
        by_cases q : abbr l = true
        · exact q
        · unfold kind at h
          rw [if_neg q] at h
          repeat' split at h
          all_goals simp at h
      unfold abbr at ha
      simp only [Bool.and_eq_true, List.all_eq_true] at ha
      have := ha.2 _ hm
      revert this; decide
    have h3 : kind l ≠ 3 := by
      intro h
      have ha : letter l = true := by
        by_cases q : letter l = true
        · exact q
        · unfold kind at h
          rw [if_neg (c := letter l = true) q] at h
          repeat' split at h
          all_goals simp at h
      rcases letter_mem ha _ hm with q | q | q
      · revert q; decide
      · revert q; decide
      · revert q; decide
    have h4 : kind l ≠ 4 := by
      intro h
      have ha : l = [37, 122] := by
        by_cases q : l = [37, 122]
        · exact q
        · unfold kind at h
          rw [if_neg (c := l = [37, 122]) q] at h
          repeat' split at h
          all_goals simp at h
      rw [ha] at hm
      revert hm; decide
    rw [hs, Bool.true_and, Bool.true_and]
    rcases kind_cases l with q | q | q | q | q | q <;> rw [q] <;> first | rfl | (exfalso; first | exact h1 q | exact h3 q | exact h4 q)
  · rw [Bool.not_eq_true] at hs
    rw [hs]; rfl
/-- all runes letters: all bytes letters -/
theorem idx_from (s : ByteArray) : ∀ (n pos : Nat), s.size ≤ pos + n → (Lib.idxFuncFrom (fun r => !isLr r) true s n pos = -1 ↔ (s.data.toList.drop pos).all isL = true)
  | 0, pos, h => by
    rw [List.drop_eq_nil_of_le (by rw [← Lib.size_eq]; omega)]
    simp [Lib.idxFuncFrom]
  | n + 1, pos, h => by
    unfold Lib.idxFuncFrom
    by_cases hp : pos < s.size
    · rw [if_pos hp]
      have hl : pos < s.data.toList.length := by rw [← Lib.size_eq]; exact hp
      rw [List.drop_eq_getElem_cons hl, List.all_cons]
      have hbyte : s.data.toList[pos] = s[pos]'hp := by
        have := Lib.data_getElem? s pos hp
        rw [List.getElem?_eq_getElem hl] at this
        exact Option.some.inj this
      rw [hbyte]
      by_cases ha : (s[pos]'hp).toNat < 128
      · rw [decode_ascii s pos hp ha]
        show ((if (!isLr (s[pos]'hp).toNat) = true then (pos : Int) else Lib.idxFuncFrom (fun r => !isLr r) true s n (pos + 1)) = -1) ↔ _
        by_cases hL : isLr (s[pos]'hp).toNat = true
        · rw [if_neg (by rw [hL]; decide), idx_from s n (pos + 1) (by omega)]
          unfold isL at *
          rw [hL, Bool.true_and]
        · rw [Bool.not_eq_true] at hL
          rw [if_pos (by rw [hL]; rfl)]
          unfold isL
          rw [hL, Bool.false_and]
          constructor
          · intro q; omega
          · intro q; cases q
      · have hh := (decode_high s pos hp (by omega)).1
        have hL : isLr (s[pos]'hp).toNat = false := isLr_high (by omega)
        rw [if_pos (by rw [isLr_high hh]; rfl)]
        unfold isL
        rw [hL, Bool.false_and]
        constructor
        · intro q; omega
        · intro q; cases q
    · rw [if_neg hp, List.drop_eq_nil_of_le (by rw [← Lib.size_eq]; omega)]
      simp
theorem idx_all (s : ByteArray) : Lib.idxFunc (fun r => !isLr r) true s = -1 ↔ s.data.toList.all isL = true := by
  have := idx_from s s.size 0 (by omega)
  rwa [List.drop_zero] at this
theorem idx_lt (s : ByteArray) : decide (Lib.idxFunc (fun r => !isLr r) true s < 0) = s.data.toList.all isL := by
  have h := idx_all s
  rcases Lib.idxFuncFrom_range (fun r => !isLr r) true s s.size 0 with q | ⟨q, _⟩
  · have q' : Lib.idxFunc (fun r => !isLr r) true s = -1 := q
    rw [q', h.1 q']; rfl
  · have q' : 0 ≤ Lib.idxFunc (fun r => !isLr r) true s := q
    rw [decide_eq_false (by omega)]
    cases hx : s.data.toList.all isL with
    | false => rfl
    | true => have := h.2 hx; omega
end Go.Proofs.YtlideagcmhlkeaaGreatDoor.P21
