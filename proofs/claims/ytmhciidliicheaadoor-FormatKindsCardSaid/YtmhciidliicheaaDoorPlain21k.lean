/- Plain mathematics for FormatKinds (chapter 21): what strings of some words are; no program in sight. -/
import Derived.Test.YtmhciidliicheaaDoorPlain21b
namespace Go.Proofs.YtmhciidliicheaaDoor.P21
set_option linter.unusedVariables false

/-- a word: three to six letters -/
def Wd (l : List UInt8) : Prop := 3 ≤ l.length ∧ l.length ≤ 6 ∧ ∀ c ∈ l, isL c = true
theorem Wd.abbr {l : List UInt8} (h : Wd l) : abbr l = true := abbr_of h.1 h.2.1 h.2.2
theorem Wd.ne {l : List UInt8} (h : Wd l) {d : UInt8} (hd : isL d = false) : ∀ c ∈ l, c ≠ d := fun c hc => isL_ne (h.2.2 c hc) hd
theorem Wd.num {l : List UInt8} (h : Wd l) : num l = false := abbr_num h.abbr
theorem word_kind {x : List UInt8} (h : Wd x) : kind x = 1 := kind1 h.abbr
theorem slash_xy {x y : List UInt8} (h : Wd x) : slash (x ++ 47 :: y) = (x, y, true) := slash_at (h.ne (by decide))
theorem two_kind {x y : List UInt8} (h : Wd x) (hy : Wd y) : kind (x ++ 47 :: y) = 2 := kind2 (slash_xy h) h.abbr hy.abbr
theorem parts_xy {x y : List UInt8} (h : Wd x) (hy : Wd y) : parts (x ++ 47 :: y) = (x, y, true) := by
  unfold parts two
  rw [slash_xy h, two_kind h hy]; rfl
theorem parts_no {l : List UInt8} (h : kind l = 0) : parts l = ([], [], false) := by
  unfold parts two
  rw [h]
  cases (slash l).2.2 <;> rfl
theorem around_kind {x : List UInt8} (h : Wd x) (k : Nat) (hk : k ≤ min x.length 5) : kind (x.take k ++ 37 :: 115 :: (x.drop k).take (min x.length 5 - k)) = 3 :=
  kind3 (fun c hc => h.2.2 c (List.mem_of_mem_take hc)) (fun c hc => h.2.2 c (List.mem_of_mem_drop (List.mem_of_mem_take hc))) (by
    rw [List.length_take, List.length_take, List.length_drop]; omega)
theorem around_long {x : List UInt8} (h : Wd x) (h6 : x.length = 6) (k : Nat) (hk : k ≤ 5) : kind (x.take k ++ 37 :: 115 :: x.drop k) = 0 := by
  have hp : (37 : UInt8) ∈ x.take k ++ 37 :: 115 :: x.drop k := by simp
  have hs : (slash (x.take k ++ 37 :: 115 :: x.drop k)).2.2 = false := slash_no fun c hc => by
    rw [List.mem_append, List.mem_cons, List.mem_cons] at hc
    rcases hc with q | rfl | rfl | q
    · exact h.ne (by decide) c (List.mem_of_mem_take q)
    · decide
    · decide
    · exact h.ne (by decide) c (List.mem_of_mem_drop q)
  have hlt : letter (x.take k ++ 37 :: 115 :: x.drop k) = false := by
    rw [letter_at (fun c hc => h.2.2 c (List.mem_of_mem_take hc)) (fun c hc => h.2.2 c (List.mem_of_mem_drop hc))]
    rw [List.length_take, List.length_drop, decide_eq_false (by omega)]
  refine kind0 (abbr_no hp (by decide)) hs hlt (fun q => ?_) (num_no hp (by decide))
  have := congrArg List.length q
  simp at this
  omega
/-- the strings that are nothing -/
def nots (x y : List UInt8) : List (List UInt8) := [x ++ [47] ++ y ++ [47] ++ x, [47] ++ x, x ++ [47], x ++ [37, 122], [37, 122, 47, 37, 122], [37, 115, 47] ++ x, [37, 37, 115], [37, 83], [37], [60] ++ x ++ [62], x ++ [47, 43, 48, 49], [43, 48, 49, 47] ++ x, [43, 48, 49, 47, 43, 48, 50, 47, 43, 48, 51], [32] ++ x]
theorem nots_kind {x y : List UInt8} (h : Wd x) (hy : Wd y) : ∀ t ∈ nots x y, kind t = 0 := by
  have n01 : num [43, 48, 49] = true := by decide +kernel
  have a01 := num_abbr n01
  intro t ht
  simp only [nots, List.mem_cons, List.not_mem_nil, or_false] at ht
  rcases ht with rfl | rfl | rfl | rfl | rfl | rfl | rfl | rfl | rfl | rfl | rfl | rfl | rfl | rfl
  · have e : x ++ [47] ++ y ++ [47] ++ x = x ++ 47 :: (y ++ 47 :: x) := by simp
    rw [e]
    refine kind0s (slash_xy h) ?_ ?_
    · rw [abbr_no (l := y ++ 47 :: x) (c := 47) (by simp) (by decide), Bool.and_false]
    · rw [h.num, Bool.false_and]
  · refine kind0s (a := []) (b := x) (slash_at (a := []) fun c hc => by simp at hc) ?_ ?_
    · rw [abbr_short (by decide), Bool.false_and]
    · rw [num_nil, Bool.false_and]
  · refine kind0s (a := x) (b := []) (slash_xy h) ?_ ?_
    · rw [abbr_short (l := []) (by decide), Bool.and_false]
    · rw [h.num, Bool.false_and]
  · have hp : (37 : UInt8) ∈ x ++ [37, 122] := by simp
    refine kind0 (abbr_no hp (by decide)) (slash_no fun c hc => ?_) (letter_of_pct (pct_one (b := [122]) (h.ne (by decide)) (fun c hc => by simp at hc; subst hc; decide) (by decide))) (fun q => ?_) (num_no hp (by decide))
    · rw [List.mem_append] at hc
      rcases hc with q | q
      · exact h.ne (by decide) c q
      · simp at q; rcases q with rfl | rfl <;> decide
    · have := congrArg List.length q
      simp at this
      have := h.1
      simp_all
  · decide +kernel
  · refine kind0s (a := [37, 115]) (b := x) (slash_at (a := [37, 115]) fun c hc => by simp at hc; rcases hc with rfl | rfl <;> decide) ?_ ?_
    · rw [abbr_short (by decide), Bool.false_and]
    · rw [h.num, Bool.and_false]
  · decide +kernel
  · decide +kernel
  · decide +kernel
  · have hp : (60 : UInt8) ∈ [60] ++ x ++ [62] := by simp
    refine kind0 (abbr_no hp (by decide)) (slash_no fun c hc => ?_) (letter_no hp (by decide) (by decide)) (fun q => ?_) (num_no hp (by decide))
    · simp only [List.mem_append, List.mem_cons, List.not_mem_nil, or_false] at hc
      rcases hc with (rfl | q) | rfl
      · decide
      · exact h.ne (by decide) c q
      · decide
    · injection q with q _
      revert q; decide
  · refine kind0s (a := x) (b := [43, 48, 49]) (slash_xy h) ?_ ?_
    · rw [a01, Bool.and_false]
    · rw [h.num, Bool.false_and]
  · refine kind0s (a := [43, 48, 49]) (b := x) (slash_at (a := [43, 48, 49]) fun c hc => by simp at hc; rcases hc with rfl | rfl | rfl <;> decide) ?_ ?_
    · rw [a01, Bool.false_and]
    · rw [h.num, Bool.and_false]
  · decide +kernel
  · have hp : (32 : UInt8) ∈ [32] ++ x := by simp
    refine kind0 (abbr_no hp (by decide)) (slash_no fun c hc => ?_) (letter_no hp (by decide) (by decide)) (fun q => ?_) (num_no hp (by decide))
    · simp only [List.mem_append, List.mem_cons, List.not_mem_nil, or_false] at hc
      rcases hc with rfl | q
      · decide
      · exact h.ne (by decide) c q
    · injection q with q _
      revert q; decide
/-- three letters and a byte -/
theorem last_kind {x : List UInt8} (h : Wd x) (c : UInt8) : decide (kind (x.take 3 ++ [c]) = 1) = isL c := by
  have hl : (x.take 3).length = 3 := by rw [List.length_take]; have := h.1; omega
  cases hc : isL c with
  | true =>
    rw [kind1 (abbr_of (by rw [List.length_append, hl, List.length_singleton]; decide) (by rw [List.length_append, hl, List.length_singleton]; decide) fun d hd => ?_)]
    · rfl
    · rw [List.mem_append, List.mem_singleton] at hd
      rcases hd with q | rfl
      · exact h.2.2 d (List.mem_of_mem_take q)
      · exact hc
  | false =>
    refine decide_eq_false fun q => ?_
    have := kind_is1 q
    rw [abbr_no (c := c) (by simp) hc] at this
    cases this
end Go.Proofs.YtmhciidliicheaaDoor.P21
