/- The walks of numeric.Text at every offset, numeric.Parse, and of the reference's Text and Parse (chapter 20). -/
import Derived.Test.YtmhciidliicheaaDoorNum20a
import Derived.Test.YtmhciidliicheaaDoorPlain20d
import Derived.Test.YtmhciidliicheaaDoorDec4
import Derived.Test.YtmhciidliicheaaDoorShelf
import Derived.Deep.CutBlock
import Derived.Lib.AtoiErrMem
namespace Go.Proofs.YtmhciidliicheaaDoor
open Go.RowKit
set_option linter.unusedVariables false

theorem gSyn : Tryd.prog.globalNamed "strconv.ErrSyntax" = some 4 := by kernel_rfl
theorem var_below {P : Program} {B g : Nat} {W W' : World} {n : String} {cs : Array Value} (h : Below B W W') (hg : P.globalNamed n = some g) (hgB : g < B) (hv : W.var? P n = some cs) : W'.var? P n = some cs := by
  unfold World.var? at hv ⊢
  simp only [hg, Option.bind_some] at hv ⊢
  rw [h.block g hgB]
  exact hv
/-- the one variable that chapter 20 reads: the error of a number that is none -/
structure Vars (w : World) : Prop where
  syn : ∃ tp p, w.var? Tryd.prog "strconv.ErrSyntax" = some #[.iface tp p]
  big : 4 < w.heap.size
theorem Vars.below {w w' : World} (h : Vars w) (hb : Below w.heap.size w w') : Vars w' := by
  obtain ⟨tp, p, hs⟩ := h.syn
  exact ⟨⟨tp, p, var_below hb gSyn h.big hs⟩, Nat.lt_of_lt_of_le h.big hb.size⟩

set_option maxRecDepth 100000 in
set_option maxHeartbeats 400000 in
theorem ntext_any (x : Int) (w : World) (h0 : -9223372036854775808 ≤ x) (h1 : x ≤ 9223372036854775807) :
    Calls Tryd.prog 40 #[.int .i64 x] w fun e w' => e = .returned (.string (str (P20.text x))) ∧ Below w.heap.size w w' := by
  by_cases hr : x ≤ -86400 ∨ 86400 ≤ x
  · rw [P20.text_out hr]
    rcases hr with h | h
    · go_enter Tryd.func40, Tryd.ntmps40
      go_wp2_with fail
      go_step3
      go_wp2_with fail
      try rw [Exit.noGoto_ret]
      go_ret
      exact ⟨rfl, Below.refl _ _⟩
    · have h' : ¬ x ≤ -86400 := by omega
      go_enter Tryd.func40, Tryd.ntmps40
      go_wp2_with fail
      go_step3
      go_wp2_with fail
      try rw [Exit.noGoto_ret]
      go_ret
      exact ⟨rfl, Below.refl _ _⟩
  · rw [P20.text_in (by omega) (by omega)]
    by_cases hn : x < 0
    · rw [if_pos hn]; exact ntext_in 45 x x.natAbs w (by omega) (.inr ⟨hn, by omega, rfl⟩)
    · rw [if_neg hn]; exact ntext_in 43 x x.natAbs w (by omega) (.inl ⟨by omega, rfl⟩)

theorem text_two (n : Nat) : str (P20.textN n) = str (P4.two (n / 3600)) ++ str (if n % 3600 = 0 then [] else P4.two (n / 60 % 60)) ++ str (if n % 60 = 0 then [] else P4.two (n % 60)) := by
  unfold P20.textN; rw [str_append, str_append]
end Go.Proofs.YtmhciidliicheaaDoor
