/- What the rows' list of variables gives the walks of chapter 20. -/
import Derived.Test.YtmgmgdjddimgmaaDoorRows
import Derived.Test.YtmgmgdjddimgmaaDoorNum20b
import Derived.Lib.LaidTab
import Derived.Stop.LaidErr
namespace Go.Proofs.YtmgmgdjddimgmaaDoor
open Go.RowKit
set_option linter.unusedVariables false

theorem tSyn : (Tryd.prog.globals[1]?).map (·.type) = some 69 := by kernel_rfl
theorem cErr : Tryd.prog.cellsOf 107 = 1 := by kernel_rfl
theorem cStr : Tryd.prog.cellsOf 9 = 1 := by kernel_rfl
theorem starErr : "*" ++ "errors.errorString" = "*errors.errorString" := by decide
theorem rowErr (u : TypeId) (h : Tryd.prog.typeName? 3 u = some "*errors.errorString") : u = 105 := by
  exact typeName_ptr_named (nm := "errors.errorString") (by rw [starErr]; kernel_rfl) (by kernel_rfl) (by decide) u (by rw [starErr]; exact h)
theorem vars_of_laid {W : World} (h : laidMetH Tryd.prog Rows.numericTextsRow.laid W) : Vars W := by
  have h0 : laidMet Tryd.prog Rows.numericTextsRow.laid W := h
  have h1 := h0.tail
  have h2 := h1.tail
  have h3 := h2.tail
  have h4 := h3.tail
  obtain ⟨a, s, hs, _, _, _⟩ := laid_sentinel h4 gSyn tSyn Tryd.underlying69 rowErr Tryd.underlying105 Tryd.underlying107 rfl rfl Tryd.underlying9 cErr cStr
  have lt : ∀ {g : Nat} {n : String} {cs : Array Value}, Tryd.prog.globalNamed n = some g → W.var? Tryd.prog n = some cs → g < W.heap.size := by
    intro g n cs hg hv
    unfold World.var? at hv
    simp only [hg, Option.bind_some] at hv
    rcases Nat.lt_or_ge g W.heap.size with q | q
    · exact q
    · rw [Array.getElem?_eq_none q] at hv; cases hv
  exact ⟨⟨_, _, hs⟩, lt gSyn hs⟩
end Go.Proofs.YtmgmgdjddimgmaaDoor
