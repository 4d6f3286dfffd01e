/- Changes by numbers, and each with one thing altered (ReportLines). No function of the program. -/
import Derived.Test.YtggdfgdnpicepaaDoorPlain32c
namespace Go.Proofs.YtggdfgdnpicepaaDoor.P32
open Go.Proofs.YtggdfgdnpicepaaDoor
set_option linter.unusedVariables false

/-- the change of a number -/
def chN (n : Int) : CV := if n % 8 < 3 then ⟨1, n / 8, 0, 1 + n % 3⟩ else ⟨2, n / 64, n / 8 % 8, 4 * (1 + n % 7)⟩
theorem chN_right {n : Int} (h0 : 0 ≤ n) : right (chN n) := by
  unfold chN
  by_cases h : n % 8 < 3
  · rw [if_pos h]; left; exact ⟨rfl, by simp only; omega, rfl, by simp only; omega, by simp only; omega⟩
  · rw [if_neg h]; right; exact ⟨rfl, by simp only; omega, by simp only; omega, by simp only; omega, by simp only; omega, by simp only; omega⟩
theorem chN_small {n : Int} (h0 : 0 ≤ n) (h1 : n ≤ 65535) : (chN n).index ≤ 8191 ∧ (chN n).era ≤ 7 := by
  unfold chN
  by_cases h : n % 8 < 3
  · rw [if_pos h]; exact ⟨by simp only; omega, by simp only; omega⟩
  · rw [if_neg h]; exact ⟨by simp only; omega, by simp only; omega⟩
/-- one thing altered, and whether it is right still -/
def alt (how : Int) (c : CV) : CV × Bool :=
  if how = 0 then (⟨c.part, c.index + 1, c.era, c.what⟩, true)
  else if how = 1 then (if c.part = 2 then ⟨c.part, c.index, c.era + 1, c.what⟩ else ⟨c.part, c.index, c.era, 1 + c.what % 3⟩, true)
  else if how = 2 then (if c.part = 2 then ⟨c.part, c.index, c.era, 4 * (1 + c.what / 4 % 7)⟩ else ⟨c.part, c.index + 10, c.era, c.what⟩, true)
  else if how = 3 then (⟨c.part, c.index, c.era, 0⟩, false)
  else if how = 4 then (⟨c.part, -1 - c.index, c.era, c.what⟩, false)
  else if how = 5 then (⟨c.part, c.index, c.era, c.what + 32⟩, false)
  else if how = 6 then (⟨3, c.index, c.era, c.what⟩, false)
  else (if c.part = 2 then ⟨c.part, c.index, c.era, c.what + 1⟩ else ⟨c.part, c.index, 1, c.what⟩, false)
theorem alt_law (how : Int) (c : CV) (hc : right c) : ((alt how c).2 = true → right (alt how c).1 ∧ (alt how c).1 ≠ c) ∧ ((alt how c).2 = false → ¬ right (alt how c).1) := by
  obtain ⟨p, i, r, a⟩ := c
  unfold alt
  rcases hc with ⟨p1, i1, r1, a1, b1⟩ | ⟨p1, i1, r1, a1, b1, m1⟩ <;> simp only at p1 i1 r1 a1 b1 <;> subst p1 <;>
    (repeat' split) <;> simp_all [right, rightR, rightE] <;> omega
end Go.Proofs.YtggdfgdnpicepaaDoor.P32
