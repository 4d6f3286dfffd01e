/- The walk of the reference's letter (chapter 21). -/
import Derived.Test.YtmhciidliicheaaDoorFmt21b
namespace Go.Proofs.YtmhciidliicheaaDoor
open Go.RowKit Go.Lib
set_option linter.unusedVariables false

/-- the reference's form of a FORMAT with a letter -/
def letterR (l : List UInt8) : List UInt8 × List UInt8 × Bool := if ((P21.pct l).2.2 && ((P21.pct l).1 ++ (P21.pct l).2.1).all P21.isL) = true then ((P21.pct l).1, (P21.pct l).2.1, decide (((P21.pct l).1 ++ (P21.pct l).2.1).length ≤ 5)) else ([], [], false)
theorem letterR_is (l : List UInt8) : (letterR l).2.2 = P21.letter l := by
  unfold letterR P21.letter
  cases (P21.pct l).2.2 with
  | false => rfl
  | true =>
    cases ((P21.pct l).1 ++ (P21.pct l).2.1).all P21.isL with
    | false => rfl
    | true => rfl
theorem letterR_hit {l : List UInt8} (h : P21.letter l = true) : letterR l = ((P21.pct l).1, (P21.pct l).2.1, true) := by
  have h2 := h
  unfold P21.letter at h2
  simp only [Bool.and_eq_true, decide_eq_true_eq] at h2
  unfold letterR
  rw [if_pos (by rw [h2.1, h2.2.1]; rfl), decide_eq_true h2.2.2]
theorem u8_ne {c : UInt8} {n : Nat} (hn : n < 256) (h : c ≠ UInt8.ofNat n) : ((c.toNat : Int) != (n : Int)) = true := by
  rw [bne_iff_ne]
  intro q
  exact h (UInt8.toNat_inj.1 (by rw [UInt8.toNat_ofNat']; omega))
theorem isL_goes (c : UInt8) : (P21.isL c = true ∧ ((65 ≤ (c.toNat : Int) ∧ (c.toNat : Int) ≤ 90) ∨ (¬ (c.toNat : Int) ≤ 90 ∧ 97 ≤ (c.toNat : Int) ∧ (c.toNat : Int) ≤ 122))) ∨
    (P21.isL c = false ∧ (((c.toNat : Int) < 65 ∧ (c.toNat : Int) < 97) ∨ (¬ (c.toNat : Int) < 65 ∧ 90 < (c.toNat : Int) ∧ (c.toNat : Int) < 97) ∨ (¬ (c.toNat : Int) < 65 ∧ ¬ (c.toNat : Int) < 97 ∧ 90 < (c.toNat : Int) ∧ 122 < (c.toNat : Int)))) := by
  unfold P21.isL P21.isLr
  by_cases h : (65 ≤ c.toNat ∧ c.toNat ≤ 90) ∨ (97 ≤ c.toNat ∧ c.toNat ≤ 122)
  · left
    refine ⟨by simpa using h, ?_⟩
    omega
  · right
    refine ⟨by simp; omega, ?_⟩
    omega
end Go.Proofs.YtmhciidliicheaaDoor
