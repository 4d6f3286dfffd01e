/- The text of right changes: as many newlines as changes, the last byte is one. No function of the program. -/
import Derived.Test.YtggdfgdnpicepaaDoorPlain32b
import Derived.Lib.Bytealg
import Derived.Lib.Strings
namespace Go.Proofs.YtggdfgdnpicepaaDoor.P32
open Go.Proofs.YtggdfgdnpicepaaDoor
set_option linter.unusedVariables false

theorem count_none {l : List UInt8} (h : ∀ c ∈ l, c ≠ 32 ∧ c ≠ 10) : l.count 10 = 0 := List.count_eq_zero.2 fun q => (h 10 q).2 rfl
theorem tailR_count : ∀ a ∈ ([1, 2, 3] : List Int), (tailR a).count 10 = 1 := by decide +kernel
theorem tailE_count : ∀ a ∈ ([4, 8, 12, 16, 20, 24, 28] : List Int), (tailE a).count 10 = 1 := by decide +kernel
theorem line_count {c : CV} (hc : right c) : (line c).count 10 = 1 := by
  unfold line
  rcases hc with ⟨p1, i1, r1, a1, b1⟩ | ⟨p1, i1, r1, a1, b1, m1⟩
  · rw [if_pos p1, lineR_is, List.count_append, List.count_append, count_none (dd_sep _ _ (Nat.le_refl _)), tailR_count _ (whatR ⟨a1, b1⟩)]
    decide
  · rw [if_neg (by omega), lineE_is, List.count_append, List.count_append, List.count_cons (a := 10) (b := 32) (l := Lib.decDigits c.era.toNat ++ tailE c.what), List.count_append, count_none (dd_sep _ _ (Nat.le_refl _)), count_none (dd_sep _ _ (Nat.le_refl _)), tailE_count _ (whatE ⟨a1, b1, m1⟩)]
    decide
theorem line_last (c : CV) : ∃ l, line c = l ++ [10] := by
  unfold line
  by_cases h : c.part = 1
  · rw [if_pos h]; unfold lineR; exact ⟨_, rfl⟩
  · rw [if_neg h]; unfold lineE; exact ⟨_, rfl⟩
theorem text_count (L : List CV) (h : ∀ c ∈ L, right c) : (L.flatMap line).count 10 = L.length := by
  induction L with
  | nil => rfl
  | cons a tl ih =>
    rw [List.flatMap_cons, List.count_append, line_count (h a (by simp)), ih (fun c hc => h c (by simp [hc])), List.length_cons]
    omega
theorem text_last (L : List CV) (h : L ≠ []) : ∃ l, L.flatMap line = l ++ [10] := by
  obtain ⟨tl, a, rfl⟩ : ∃ tl a, L = tl ++ [a] := ⟨L.dropLast, L.getLast h, (List.dropLast_concat_getLast h).symm⟩
  obtain ⟨m, hm⟩ := line_last a
  refine ⟨tl.flatMap line ++ m, ?_⟩
  rw [List.flatMap_append, List.flatMap_cons, List.flatMap_nil, List.append_nil, hm, List.append_assoc]
theorem suffix_last (L : List CV) (h : L ≠ []) : Lib.hasSuffix (L.flatMap line) [10] = true := by
  obtain ⟨m, hm⟩ := text_last L h
  rw [hm]
  unfold Lib.hasSuffix
  simp
theorem count_text (L : List CV) (h : ∀ c ∈ L, right c) : Lib.countByte (L.flatMap line) 10 = L.length := text_count L h
end Go.Proofs.YtggdfgdnpicepaaDoor.P32
