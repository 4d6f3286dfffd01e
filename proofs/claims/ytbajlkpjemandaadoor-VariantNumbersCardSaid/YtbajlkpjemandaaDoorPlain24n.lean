/- Plain mathematics for VariantNumbers (chapter 24): which strings are numbers, or two with a slash; no program in sight. -/
import Derived.Test.YtbajlkpjemandaaDoorPlain24
namespace Go.Proofs.YtbajlkpjemandaaDoor
set_option linter.unusedVariables false
namespace P24
open P21
theorem last_isN {l : List UInt8} (h : P21.num l = true) : ∃ u d, l = u ++ [d] ∧ d ≠ 47 := by
  obtain ⟨c, t, hl, _, _, _⟩ := num_head h
  have hne : l ≠ [] := by rw [hl]; exact List.cons_ne_nil _ _
  refine ⟨l.dropLast, l.getLast hne, (List.dropLast_concat_getLast hne).symm, ?_⟩
  have := num_mem h _ (List.getLast_mem hne)
  rintro q
  rw [q] at this
  revert this; decide
theorem num_count {l : List UInt8} (h : P21.num l = true) : l.count 47 = 0 := by
  rw [List.count_eq_zero]
  intro q
  have := num_mem h _ q
  revert this; decide
/-- what a string of kind 5 is like -/
theorem five {l : List UInt8} (h : kind l = 5) : (∀ c ∈ l, isN c = true ∨ c = 47) ∧ (∃ c t, l = c :: t ∧ (c = 43 ∨ c = 45)) ∧ (∃ u d, l = u ++ [d] ∧ d ≠ 47) ∧ l.count 47 ≤ 1 := by
  obtain ⟨h1, h2⟩ := kind5_mem h
  refine ⟨h1, h2, ?_⟩
  rcases kind_is5 h with q | ⟨a, b, hs, ha, hb⟩
  · exact ⟨last_isN q, by rw [num_count q]; decide⟩
  · have hj := slash_join hs
    obtain ⟨u, d, e, hd⟩ := last_isN hb
    refine ⟨⟨a ++ 47 :: u, d, by rw [hj, e]; simp, hd⟩, ?_⟩
    rw [hj, List.count_append, List.count_cons_self, num_count ha, num_count hb]; decide
/-- what a string does in the loop of VariantNumbers: it is passed over, or is allowed everywhere -/
def Pass (s t : List UInt8) : Prop := t = [37, 122] ∨ (∃ c u, t = c :: u ∧ (c = 43 ∨ c = 45) ∧ t = s) ∨ (kind t ≠ 4 ∧ kind t ≠ 5)
theorem pass_self (s : List UInt8) : Pass s s := by
  by_cases h4 : kind s = 4
  · exact .inl (kind_is4 h4)
  · by_cases h5 : kind s = 5
    · obtain ⟨_, ⟨c, u, e, hc⟩, _⟩ := five h5
      exact .inr (.inl ⟨c, u, e, hc, rfl⟩)
    · exact .inr (.inr ⟨h4, h5⟩)
theorem not4 {l : List UInt8} {c : UInt8} {t : List UInt8} (e : l = c :: t) (h : c ≠ 37) : kind l ≠ 4 := fun q => by
  have := kind_is4 q
  rw [e] at this
  injection this with q1 _
  exact h q1
/-- the strings of the loop -/
def tests (s f : List UInt8) : List (List UInt8) := [s, f ++ [120], 120 :: f, f ++ [47], 47 :: f, f ++ [47] ++ f ++ [47] ++ f, [37, 90], [37, 115], []]
theorem pass_tests {s f : List UInt8} (hf : kind f = 5) : ∀ t ∈ tests s f, Pass s t := by
  obtain ⟨_, ⟨c, u, e, hc⟩, _⟩ := five hf
  have hc37 : c ≠ 37 := by rcases hc with rfl | rfl <;> decide
  intro t ht
  simp only [tests, List.mem_cons, List.not_mem_nil, or_false] at ht
  rcases ht with rfl | rfl | rfl | rfl | rfl | rfl | rfl | rfl | rfl
  · exact pass_self _
  · refine .inr (.inr ⟨not4 (c := c) (t := u ++ [120]) (by rw [e]; rfl) hc37, fun q => ?_⟩)
    rcases (five q).1 120 (by simp) with x | x <;> revert x <;> decide
  · refine .inr (.inr ⟨not4 rfl (by decide), fun q => ?_⟩)
    rcases (five q).1 120 (by simp) with x | x <;> revert x <;> decide
  · refine .inr (.inr ⟨not4 (c := c) (t := u ++ [47]) (by rw [e]; rfl) hc37, fun q => ?_⟩)
    obtain ⟨v, d, ed, hd⟩ := (five q).2.2.1
    have := congrArg List.getLast? ed
    simp at this
    exact hd this.symm
  · refine .inr (.inr ⟨not4 rfl (by decide), fun q => ?_⟩)
    obtain ⟨d, v, ed, hd⟩ := (five q).2.1
    injection ed with q1 _
    rcases hd with x | x <;> rw [x] at q1 <;> revert q1 <;> decide
  · refine .inr (.inr ⟨not4 (c := c) (t := u ++ [47] ++ f ++ [47] ++ f) (by rw [e]; rfl) hc37, fun q => ?_⟩)
    have := (five q).2.2.2
    simp only [List.count_append, List.count_cons_self, List.count_nil] at this
    omega
  · exact .inr (.inr (by decide +kernel))
  · exact .inr (.inr (by decide +kernel))
  · exact .inr (.inr (by decide +kernel))
/-- the number, or two with a slash -/
def ftext (x y : Int) (two : Bool) : List UInt8 := if two = true then P20.text x ++ 47 :: P20.text y else P20.text x
theorem ftext5 {x y : Int} (two : Bool) (hx : -86399 ≤ x ∧ x ≤ 86399) (hy : -86399 ≤ y ∧ y ≤ 86399) : kind (ftext x y two) = 5 := by
  have nx := num_of_text hx.1 hx.2
  have ny := num_of_text hy.1 hy.2
  cases two with
  | false => exact kind5 nx
  | true => exact kind5s (slash_at fun c hc q => by rw [q] at hc; have := num_mem nx _ hc; revert this; decide) nx ny
theorem ftext_len (x y : Int) (two : Bool) : (ftext x y two).length ≤ 15 := by
  have h1 := P20.text_len x
  have h2 := P20.text_len y
  unfold ftext
  split
  · rw [List.length_append, List.length_cons]; omega
  · omega
end P24
end Go.Proofs.YtbajlkpjemandaaDoor
