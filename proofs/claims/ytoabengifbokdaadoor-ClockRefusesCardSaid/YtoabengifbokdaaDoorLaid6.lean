/- What the rows' list of variables gives the walks of chapter 6. -/
import Derived.Test.YtoabengifbokdaaDoorRows
import Derived.Test.YtoabengifbokdaaDoorVars4
import Derived.Lib.LaidTab
import Derived.Stop.LaidErr
namespace Go.Proofs.YtoabengifbokdaaDoor
open Go.RowKit
set_option linter.unusedVariables false

theorem gU : Tryd.prog.globalNamed "analemma/offset.units" = some 0 := by kernel_rfl
theorem tPow : (Tryd.prog.globals[1]?).map (·.type) = some 82 := by kernel_rfl
theorem tU : (Tryd.prog.globals[0]?).map (·.type) = some 57 := by kernel_rfl
theorem tSyn : (Tryd.prog.globals[2]?).map (·.type) = some 59 := by kernel_rfl
theorem cPow : Tryd.prog.cellsOf 82 = 20 := by kernel_rfl
theorem cU : Tryd.prog.cellsOf 57 = 3 := by kernel_rfl
theorem cU64 : Tryd.prog.cellsOf 68 = 1 := by kernel_rfl
theorem cI64 : Tryd.prog.cellsOf 2 = 1 := by kernel_rfl
theorem pow_list : Rows.laid_internal_strconv_uint64pow10 (H := Unit) = Lib.tabData .u64 Lib.pow10Tab := rfl
theorem u_list : Rows.laid_analemma_offset_units (H := Unit) = Lib.tabData .i64 [3600, 60, 1] := rfl
theorem cErr : Tryd.prog.cellsOf 95 = 1 := by kernel_rfl
theorem cStr : Tryd.prog.cellsOf 9 = 1 := by kernel_rfl
theorem starErr : "*" ++ "errors.errorString" = "*errors.errorString" := by decide
theorem rowErr (u : TypeId) (h : Tryd.prog.typeName? 3 u = some "*errors.errorString") : u = 93 := by
  exact typeName_ptr_named (nm := "errors.errorString") (by rw [starErr]; kernel_rfl) (by kernel_rfl) (by decide) u (by rw [starErr]; exact h)
theorem vars_of_laid {W : World} (h : laidMetH Tryd.prog Rows.clockStringsRow.laid W) : Vars W := by
  have h0 : laidMet Tryd.prog Rows.clockStringsRow.laid W := h
  have h1 := h0.tail
  have h2 := h1.tail
  have hpow := Lib.tabIs_of_head (k := .u64) (zs := Lib.pow10Tab) gPow tPow Tryd.underlying82 Tryd.underlying68 cU64 cPow h2
  have h3 := h2.tail
  have h4 := h3.tail
  have h5 := h4.tail
  have hu := Lib.tabIs_of_head (k := .i64) (zs := [3600, 60, 1]) gU tU Tryd.underlying57 Tryd.underlying2 cI64 cU h5
  obtain ⟨a, s, hs, _, _, _⟩ := laid_sentinel h4 gSyn tSyn Tryd.underlying59 rowErr Tryd.underlying93 Tryd.underlying95 rfl rfl Tryd.underlying9 cErr cStr
  have lt : ∀ {g : Nat} {n : String} {cs : Array Value}, Tryd.prog.globalNamed n = some g → W.var? Tryd.prog n = some cs → g < W.heap.size := by
    intro g n cs hg hv
    unfold World.var? at hv
    simp only [hg, Option.bind_some] at hv
    rcases Nat.lt_or_ge g W.heap.size with q | q
    · exact q
    · rw [Array.getElem?_eq_none q] at hv; cases hv
  exact ⟨hpow, ⟨_, _, hs⟩, hu.cell gU 0 (by decide), hu.cell gU 1 (by decide), hu.cell gU 2 (by decide), lt gPow hpow, lt gSyn hs, lt gU hu⟩
end Go.Proofs.YtoabengifbokdaaDoor
