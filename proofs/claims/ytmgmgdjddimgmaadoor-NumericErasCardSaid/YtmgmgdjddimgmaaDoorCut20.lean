/- strings.Cut at a separator of one byte that is there: what lies ahead of it. -/
import Derived.Test.YtmgmgdjddimgmaaDoorNum20b
import Derived.Deep.DeepCutAuto
namespace Go.Proofs.YtmgmgdjddimgmaaDoor
open Go.RowKit
set_option linter.unusedVariables false

theorem lite_index (S : ByteArray) (W : World) : Calls Tryd.prog 37 #[.string S, .string ⟨#[47]⟩] W fun e w' => e = .returned (.int .i64 (Lib.indexByte S.data.toList 47)) ∧ w' = W :=
  Any.stringslite_Index_one { Tryd.lays144 with } S 47 W
set_option maxRecDepth 100000 in
theorem lite_cut (S : ByteArray) (i : Nat) (W : World) (h : Lib.indexByte S.data.toList 47 = i) (h1 : i + 1 ≤ S.size) (h2 : S.size ≤ 1000) :
    Calls Tryd.prog 30 #[.string S, .string ⟨#[47]⟩] W fun e w' => e = .returned (.tuple #[.string (S.extract 0 i), .string (S.extract (i + 1) S.size), .bool true]) ∧ Q W w' := by
  have c1 := lite_index S W
  rw [h] at c1
  clear h
  have i0 : (0 : Int) ≤ (i : Int) := by omega
  have i1 : (i : Int) < (S.size : Int) := by omega
  have i2 : (i : Int) + 1 ≤ (S.size : Int) := by omega
  have i3 : (i : Int) ≤ 1000 := by omega
  go_enter Tryd.func30, Tryd.ntmps30
  go_wp2_with fail
  refine c1.mono ?_
  rintro e w1 ⟨rfl, rfl⟩
  go_wp2_with fail
  go_region
  go_wp2_with fail
  go_ret3
  exact ⟨rfl, Q.drewN _ _⟩
set_option maxRecDepth 100000 in
theorem cut_any (S : ByteArray) (i : Nat) (W : World) (h : Lib.indexByte S.data.toList 47 = i) (h1 : i + 1 ≤ S.size) (h2 : S.size ≤ 1000) :
    Calls Tryd.prog 20 #[.string S, .string ⟨#[47]⟩] W fun e w' => e = .returned (.tuple #[.string (S.extract 0 i), .string (S.extract (i + 1) S.size), .bool true]) ∧ Q W w' := by
  have c1 := lite_cut S i W h h1 h2
  clear h
  go_enter Tryd.func20, Tryd.ntmps20
  go_wp2_with fail
  refine c1.mono ?_
  rintro e w1 ⟨rfl, hq⟩
  go_wp2_with fail
  go_ret3
  exact ⟨rfl, hq⟩
end Go.Proofs.YtmgmgdjddimgmaaDoor
