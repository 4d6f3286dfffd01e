/- What the rows' list of variables, and the world's shape, give the walks of chapters 21 and 24. -/
import Derived.Test.YtmhciidliicheaaDoorRows
import Derived.Test.YtmhciidliicheaaDoorFmt21a
import Derived.Lib.LaidTab
import Derived.Stop.LaidErr
namespace Go.Proofs.YtmhciidliicheaaDoor
open Go.RowKit
set_option linter.unusedVariables false

theorem tSyn : (Tryd.prog.globals[4]?).map (·.type) = some 114 := by kernel_rfl
theorem cErr : Tryd.prog.cellsOf 213 = 1 := by kernel_rfl
theorem cStr : Tryd.prog.cellsOf 9 = 1 := by kernel_rfl
theorem starErr : "*" ++ "errors.errorString" = "*errors.errorString" := by decide
theorem rowErr (u : TypeId) (h : Tryd.prog.typeName? 3 u = some "*errors.errorString") : u = 211 := by
  exact typeName_ptr_named (nm := "errors.errorString") (by rw [starErr]; kernel_rfl) (by kernel_rfl) (by decide) u (by rw [starErr]; exact h)
theorem vars21_of {W : World} {rest : List (String × DataW Unit)} (h4 : laidMet Tryd.prog (("strconv.ErrSyntax", Rows.laid_strconv_ErrSyntax) :: rest) W) (hsh : W.ShapedOpen Tryd.prog) : Vars21 W := by
  obtain ⟨a, s, hs, _, _, _⟩ := laid_sentinel h4 gSyn tSyn Tryd.underlying114 rowErr Tryd.underlying211 Tryd.underlying213 rfl rfl Tryd.underlying9 cErr cStr
  have lt : ∀ {g : Nat} {n : String} {cs : Array Value}, Tryd.prog.globalNamed n = some g → W.var? Tryd.prog n = some cs → g < W.heap.size := by
    intro g n cs hg hv
    unfold World.var? at hv
    simp only [hg, Option.bind_some] at hv
    rcases Nat.lt_or_ge g W.heap.size with q | q
    · exact q
    · rw [Array.getElem?_eq_none q] at hv; cases hv
  have hm := Tryd.laysM145.s1_3 W hsh
  have hlt : 1 < W.heap.size := by
    obtain ⟨m, hm⟩ := hm
    rcases Nat.lt_or_ge 1 W.heap.size with q | q
    · exact q
    · exfalso
      have hm' : W.cell? ⟨1, 0, none⟩ = some (.int .i64 m) := hm
      unfold World.cell? at hm'
      rw [Array.getElem?_eq_none q] at hm'
      cases hm'
  exact ⟨⟨⟨_, _, hs⟩, lt gSyn hs⟩, hm, hlt⟩
/-- four other variables stand ahead of it in the row's list -/
theorem vars21_of_laid {W : World} {a b c d : String × DataW Unit} {rest : List (String × DataW Unit)} (h : laidMet Tryd.prog (a :: b :: c :: d :: ("strconv.ErrSyntax", Rows.laid_strconv_ErrSyntax) :: rest) W) (hsh : W.ShapedOpen Tryd.prog) : Vars21 W := by
  exact vars21_of h.tail.tail.tail.tail hsh
/-- five of them -/
theorem vars21_of_laid5 {W : World} {a b c d e : String × DataW Unit} {rest : List (String × DataW Unit)} (h : laidMet Tryd.prog (a :: b :: c :: d :: e :: ("strconv.ErrSyntax", Rows.laid_strconv_ErrSyntax) :: rest) W) (hsh : W.ShapedOpen Tryd.prog) : Vars21 W := by
  exact vars21_of h.tail.tail.tail.tail.tail hsh
/-- the same, and the world's shape -/
theorem vars21s_of_laid5 {W : World} {a b c d e : String × DataW Unit} {rest : List (String × DataW Unit)} (h : laidMet Tryd.prog (a :: b :: c :: d :: e :: ("strconv.ErrSyntax", Rows.laid_strconv_ErrSyntax) :: rest) W) (hsh : W.ShapedOpen Tryd.prog) : Vars21 W ∧ W.ShapedOpen Tryd.prog := ⟨vars21_of_laid5 h hsh, hsh⟩
end Go.Proofs.YtmhciidliicheaaDoor
