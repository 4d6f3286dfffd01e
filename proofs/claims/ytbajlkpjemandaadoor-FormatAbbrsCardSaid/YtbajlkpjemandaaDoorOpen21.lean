/- What a state by value that comes in reads as (for the cards of chapter 21). -/
import Derived.Test.YtbajlkpjemandaaDoorOpen20
namespace Go.Proofs.YtbajlkpjemandaaDoor
open Go.RowKit Go.ChangeShapes Go.WideShapes
set_option linter.unusedVariables false
section
variable {H : Type} {enc : TypeId × Value → H} {w : World} {base : Nat} {sp : Nat → Bool} {held : Bool}
theorem open_state {fuel : Nat} {cs : List Value} {x : DataW H × List MemPlace} (hlen : cs.length = 2) (h : DataW.trod enc Tryd.prog w base sp held fuel 42 cs = some x) :
    ∃ (sv : Int) (lt : ByteArray), cs = [.int .i64 sv, .string lt] ∧ (Lit.int .i64 sv).wf = true ∧ lt.size ≤ maxLen := by
  match cs, hlen with
  | [c0, c1], _ =>
    obtain ⟨n0, e0, w0⟩ := leaf_int Tryd.underlying42 h 0 2 0 .i64 (by kernel_rfl) Tryd.underlying2
    obtain ⟨s1, e1, w1⟩ := leaf_str Tryd.underlying42 h 1 9 1 (by kernel_rfl) Tryd.underlying9
    simp only [List.drop_succ_cons, List.drop_zero, List.take_succ_cons, List.take_zero, List.cons.injEq, and_true] at e0 e1
    subst e0 e1
    exact ⟨n0, s1, rfl, w0, w1⟩
end
end Go.Proofs.YtbajlkpjemandaaDoor
