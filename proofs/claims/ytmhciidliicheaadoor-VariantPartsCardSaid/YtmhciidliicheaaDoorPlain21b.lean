/- Plain mathematics of FORMATs (chapter 21): which kind a string of some parts is; no program in sight. -/
import Derived.Test.YtmhciidliicheaaDoorPlain21
namespace Go.Proofs.YtmhciidliicheaaDoor.P21
set_option linter.unusedVariables false

/-- a byte of a number -/
def isN (c : UInt8) : Bool := P4.isD c || (c == 43 || c == 45)
theorem isN_no {c : UInt8} (h : isN c = false) : P4.isD c = false ∧ c ≠ 43 ∧ c ≠ 45 := by
  unfold isN at h
  simp only [Bool.or_eq_false_iff, beq_eq_false_iff_ne] at h
  exact ⟨h.1, h.2.1, h.2.2⟩
theorem two_isD (k : Nat) (hk : k < 100) : ∀ c ∈ P4.two k, P4.isD c = true := by
  intro c hc
  have h1 : (UInt8.ofNat (48 + k / 10)).toNat = 48 + k / 10 := by rw [UInt8.toNat_ofNat']; omega
  have h2 : (UInt8.ofNat (48 + k % 10)).toNat = 48 + k % 10 := by rw [UInt8.toNat_ofNat']; omega
  simp only [P4.two, List.mem_cons, List.not_mem_nil, or_false] at hc
  rcases hc with rfl | rfl
  · simp only [P4.isD, h1, decide_eq_true_eq]; omega
  · simp only [P4.isD, h2, decide_eq_true_eq]; omega
theorem textN_isD (n : Nat) (h : n ≤ 86399) : ∀ c ∈ P20.textN n, P4.isD c = true := by
  intro c hc
  unfold P20.textN at hc
  rw [List.mem_append, List.mem_append] at hc
  rcases hc with (hc | hc) | hc
  · exact two_isD _ (by omega) c hc
  · split at hc
    · simp at hc
    · exact two_isD _ (by omega) c hc
  · split at hc
    · simp at hc
    · exact two_isD _ (by omega) c hc
theorem num_text {l : List UInt8} (h : num l = true) : ∃ y : Int, -86399 ≤ y ∧ y ≤ 86399 ∧ l = P20.text y ∧ P20.parse l = (y, 0) := by
  unfold num at h
  rw [decide_eq_true_eq] at h
  rcases P20.parse_cases l with ⟨y, h1, h2, _, h3, h4⟩ | h1
  · exact ⟨y, h3, h4, h2.symm, h1⟩
  · rw [h1] at h; cases h
theorem num_of_text {y : Int} (h0 : -86399 ≤ y) (h1 : y ≤ 86399) : num (P20.text y) = true := by
  unfold num
  rw [P20.parse_text h0 h1]; rfl
theorem num_head {l : List UInt8} (h : num l = true) : ∃ c t, l = c :: t ∧ (c = 43 ∨ c = 45) ∧ (∀ d ∈ t, P4.isD d = true) ∧ 2 ≤ t.length := by
  obtain ⟨y, h0, h1, rfl, _⟩ := num_text h
  rw [P20.text_in h0 h1]
  refine ⟨_, _, rfl, ?_, textN_isD _ (by omega), ?_⟩
  · split
    · exact .inr rfl
    · exact .inl rfl
  · have := P20.textN_len y.natAbs; omega
theorem num_mem {l : List UInt8} (h : num l = true) : ∀ c ∈ l, isN c = true := by
  obtain ⟨c, t, rfl, hc, ht, _⟩ := num_head h
  intro d hd
  rcases List.mem_cons.1 hd with rfl | hd
  · rcases hc with rfl | rfl <;> decide
  · unfold isN; rw [ht d hd]; rfl
theorem num_no {l : List UInt8} {c : UInt8} (hc : c ∈ l) (h : isN c = false) : num l = false := by
  cases q : num l with
  | false => rfl
  | true => rw [num_mem q c hc] at h; cases h
theorem num_nil : num [] = false := by
  cases q : num [] with
  | false => rfl
  | true => obtain ⟨_, _, h, _⟩ := num_head q; cases h
theorem num_no_head {c : UInt8} {t : List UInt8} (h1 : c ≠ 43) (h2 : c ≠ 45) : num (c :: t) = false := by
  cases q : num (c :: t) with
  | false => rfl
  | true =>
    obtain ⟨d, u, h, hd, _⟩ := num_head q
    rw [List.cons.injEq] at h
    rw [← h.1] at hd
    rcases hd with q | q
    · exact absurd q h1
    · exact absurd q h2
theorem isL_isN {c : UInt8} (h : isL c = true) : isN c = false := by
  unfold isL isLr at h
  simp only [Bool.or_eq_true, Bool.and_eq_true, decide_eq_true_eq] at h
  have e1 : c ≠ 43 := by rintro rfl; revert h; decide
  have e2 : c ≠ 45 := by rintro rfl; revert h; decide
  unfold isN P4.isD
  rw [decide_eq_false (by omega), beq_eq_false_iff_ne.2 e1, beq_eq_false_iff_ne.2 e2]; rfl
theorem isL_ne {c d : UInt8} (h : isL c = true) (hd : isL d = false) : c ≠ d := by
  rintro rfl; rw [h] at hd; cases hd
theorem abbr_all {l : List UInt8} (h : abbr l = true) : 3 ≤ l.length ∧ l.length ≤ 6 ∧ ∀ c ∈ l, isL c = true := by
  unfold abbr at h
  simp only [Bool.and_eq_true, decide_eq_true_eq, List.all_eq_true] at h
  exact ⟨h.1.1, h.1.2, h.2⟩
theorem abbr_of {l : List UInt8} (h3 : 3 ≤ l.length) (h6 : l.length ≤ 6) (h : ∀ c ∈ l, isL c = true) : abbr l = true := by
  unfold abbr
  rw [decide_eq_true h3, decide_eq_true h6, List.all_eq_true.2 h]; rfl
theorem abbr_no {l : List UInt8} {c : UInt8} (hc : c ∈ l) (h : isL c = false) : abbr l = false := by
  cases q : abbr l with
  | false => rfl
  | true => rw [(abbr_all q).2.2 c hc] at h; cases h
theorem abbr_short {l : List UInt8} (h : l.length < 3) : abbr l = false := by
  unfold abbr; rw [decide_eq_false (by omega)]; rfl
theorem abbr_num {l : List UInt8} (h : abbr l = true) : num l = false := by
  obtain ⟨h3, _, h⟩ := abbr_all h
  cases l with
  | nil => simp at h3
  | cons c t => exact num_no (List.mem_cons_self ..) (isL_isN (h c (List.mem_cons_self ..)))
theorem num_abbr {l : List UInt8} (h : num l = true) : abbr l = false := by
  cases q : abbr l with
  | false => rfl
  | true => rw [abbr_num q] at h; cases h
theorem letter_no {l : List UInt8} {c : UInt8} (hc : c ∈ l) (h : isL c = false) (h1 : c ≠ 37) : letter l = false := by
  cases q : letter l with
  | false => rfl
  | true =>
    rcases letter_mem q c hc with x | x | x
    · rw [x] at h; cases h
    · exact absurd x h1
    · rw [x] at h; revert h; decide
theorem slash_no {l : List UInt8} (h : ∀ c ∈ l, c ≠ 47) : (slash l).2.2 = false := by
  cases q : (slash l).2.2 with
  | false => rfl
  | true => exact absurd rfl (h _ (slash_mem q))
theorem slash_at {a b : List UInt8} (h : ∀ c ∈ a, c ≠ 47) : slash (a ++ 47 :: b) = (a, b, true) := by
  unfold slash
  have := cut1_at (l := a ++ 47 :: b) (c := 47) (i := a.length) (by simp) fun j hj q => by
    rw [List.getElem?_append_left hj] at q
    exact h _ (List.mem_of_getElem? q) rfl
  rw [this, List.take_left, ← List.drop_drop, List.drop_left]; rfl
theorem pct_at {a b : List UInt8} (h : ∀ c ∈ a, c ≠ 37) : pct (a ++ 37 :: 115 :: b) = (a, b, true) := by
  unfold pct
  have := cut2_at (l := a ++ 37 :: 115 :: b) (c := 37) (d := 115) (i := a.length) (by simp) (by rw [List.getElem?_append_right (by omega)]; simp) fun j hj => .inl fun q => by
    rw [List.getElem?_append_left hj] at q
    exact h _ (List.mem_of_getElem? q) rfl
  rw [this, List.take_left, ← List.drop_drop, List.drop_left]; rfl
/-- the one % of a string -/
theorem pct_one {a b : List UInt8} (h : ∀ c ∈ a, c ≠ 37) (h2 : ∀ c ∈ b, c ≠ 37) (h3 : b.head? ≠ some 115) : (pct (a ++ 37 :: b)).2.2 = false := by
  unfold pct
  rw [cut2_no fun j hj => ?_]
  rcases Nat.lt_trichotomy j a.length with q | q | q
  · refine .inl fun x => ?_
    rw [List.getElem?_append_left q] at x
    exact h _ (List.mem_of_getElem? x) rfl
  · subst q
    refine .inr fun x => h3 ?_
    rw [List.getElem?_append_right (by omega), show a.length + 1 - a.length = 1 by omega] at x
    rw [List.getElem?_cons_succ] at x
    rw [List.head?_eq_getElem?]; exact x
  · refine .inl fun x => ?_
    rw [List.getElem?_append_right (by omega), show j - a.length = (j - a.length - 1) + 1 by omega, List.getElem?_cons_succ] at x
    exact h2 _ (List.mem_of_getElem? x) rfl
theorem letter_of_pct {l : List UInt8} (h : (pct l).2.2 = false) : letter l = false := by unfold letter; rw [h]; rfl
theorem letter_at {a b : List UInt8} (ha : ∀ c ∈ a, isL c = true) (hb : ∀ c ∈ b, isL c = true) : letter (a ++ 37 :: 115 :: b) = decide (a.length + b.length ≤ 5) := by
  unfold letter
  rw [pct_at fun c hc => isL_ne (ha c hc) (by decide)]
  show (true && (_ && decide ((a ++ b).length ≤ 5))) = _
  rw [List.all_append, List.all_eq_true.2 ha, List.all_eq_true.2 hb, List.length_append]; rfl

/-- kinds by their tests -/
theorem kind1 {l : List UInt8} (h : abbr l = true) : kind l = 1 := by unfold kind; rw [if_pos h]
theorem kind_slash {l a b : List UInt8} (h : slash l = (a, b, true)) : abbr l = false ∧ letter l = false ∧ l ≠ [37, 122] ∧ num l = false := by
  have hm : (47 : UInt8) ∈ l := slash_mem (by rw [h])
  exact ⟨abbr_no hm (by decide), letter_no hm (by decide) (by decide), by rintro rfl; revert hm; decide, num_no hm (by decide)⟩
theorem kind2 {l a b : List UInt8} (h : slash l = (a, b, true)) (ha : abbr a = true) (hb : abbr b = true) : kind l = 2 := by
  obtain ⟨h1, _⟩ := kind_slash h
  unfold kind; rw [if_neg (by rw [h1]; decide), if_pos (by rw [h, ha, hb]; rfl)]
theorem kind5s {l a b : List UInt8} (h : slash l = (a, b, true)) (ha : num a = true) (hb : num b = true) : kind l = 5 := by
  obtain ⟨h1, h2, h3, h4⟩ := kind_slash h
  unfold kind
  rw [if_neg (by rw [h1]; decide), if_neg (by rw [h, num_abbr ha]; simp), if_neg (by rw [h2]; decide), if_neg h3, if_pos (by rw [h, ha, hb]; simp)]
theorem kind0s {l a b : List UInt8} (h : slash l = (a, b, true)) (h1 : (abbr a && abbr b) = false) (h2 : (num a && num b) = false) : kind l = 0 := by
  obtain ⟨q1, q2, q3, q4⟩ := kind_slash h
  unfold kind
  rw [if_neg (by rw [q1]; decide), if_neg (by rw [h]; simp only [Bool.true_and]; rw [h1]; decide), if_neg (by rw [q2]; decide), if_neg q3, if_neg (by rw [q4, h]; simp only [Bool.true_and, Bool.false_or]; rw [h2]; decide)]
theorem kind3 {a b : List UInt8} (ha : ∀ c ∈ a, isL c = true) (hb : ∀ c ∈ b, isL c = true) (hl : a.length + b.length ≤ 5) : kind (a ++ 37 :: 115 :: b) = 3 := by
  have h1 : abbr (a ++ 37 :: 115 :: b) = false := abbr_no (c := 37) (by simp) (by decide)
  have hlt : letter (a ++ 37 :: 115 :: b) = true := by rw [letter_at ha hb, decide_eq_true hl]
  have h2 : (slash (a ++ 37 :: 115 :: b)).2.2 = false := slash_no fun c hc => by
    rintro rfl
    rcases letter_mem hlt _ hc with q | q | q <;> revert q <;> decide
  unfold kind
  rw [if_neg (by rw [h1]; decide), if_neg (by rw [h2]; simp), if_pos hlt]
theorem kind5 {l : List UInt8} (h : num l = true) : kind l = 5 := by
  have h1 := num_abbr h
  have h2 : (slash l).2.2 = false := slash_no fun c hc => by
    rintro rfl
    have := num_mem h _ hc
    revert this; decide
  obtain ⟨c, t, rfl, hc, _⟩ := num_head h
  have h3 : letter (c :: t) = false := letter_no (List.mem_cons_self ..) (by rcases hc with rfl | rfl <;> decide) (by rcases hc with rfl | rfl <;> decide)
  unfold kind
  rw [if_neg (by rw [h1]; decide), if_neg (by rw [h2]; simp), if_neg (by rw [h3]; decide), if_neg (by rintro q; rw [List.cons.injEq] at q; rcases hc with rfl | rfl <;> exact absurd q.1 (by decide)), if_pos (by rw [h]; rfl)]
theorem kind0 {l : List UInt8} (h1 : abbr l = false) (h2 : (slash l).2.2 = false) (h3 : letter l = false) (h4 : l ≠ [37, 122]) (h5 : num l = false) : kind l = 0 := by
  unfold kind
  rw [if_neg (by rw [h1]; decide), if_neg (by rw [h2]; simp), if_neg (by rw [h3]; decide), if_neg h4, if_neg (by rw [h5, h2]; simp)]
/-- kinds taken apart -/
theorem kind_is5 {l : List UInt8} (h : kind l = 5) : num l = true ∨ ∃ a b, slash l = (a, b, true) ∧ num a = true ∧ num b = true := by
  unfold kind at h
  repeat' split at h
  all_goals try (exfalso; revert h; decide)
  rename_i q
  simp only [Bool.or_eq_true, Bool.and_eq_true] at q
  rcases q with q | q
  · exact .inl q
  · refine .inr ⟨(slash l).1, (slash l).2.1, ?_, q.1.2, q.2⟩
    rw [← q.1.1]
theorem kind_is4 {l : List UInt8} (h : kind l = 4) : l = [37, 122] := by
  unfold kind at h
  repeat' split at h
  all_goals try (exfalso; revert h; decide)
  assumption
theorem kind_is3 {l : List UInt8} (h : kind l = 3) : letter l = true := by
  unfold kind at h
  repeat' split at h
  all_goals try (exfalso; revert h; decide)
  assumption
theorem kind_is2 {l : List UInt8} (h : kind l = 2) : ∃ a b, slash l = (a, b, true) ∧ abbr a = true ∧ abbr b = true := by
  unfold kind at h
  repeat' split at h
  all_goals try (exfalso; revert h; decide)
  rename_i q
  simp only [Bool.and_eq_true] at q
  refine ⟨(slash l).1, (slash l).2.1, ?_, q.1.2, q.2⟩
  rw [← q.1.1]
theorem kind_is1 {l : List UInt8} (h : kind l = 1) : abbr l = true := by
  unfold kind at h
  repeat' split at h
  all_goals try (exfalso; revert h; decide)
  assumption
/-- what is cut is put together again -/
theorem slash_join {l a b : List UInt8} (h : slash l = (a, b, true)) : l = a ++ 47 :: b := by
  unfold slash at h
  rcases cut_cases l [47] with ⟨q, _⟩ | ⟨i, hi, ho, _, q⟩
  · rw [q] at h; simp at h
  · rw [q] at h
    injection h with h1 h2
    injection h2 with h2 h3
    rw [occ1] at ho
    have ho := of_decide_eq_true ho
    obtain ⟨hl, hx⟩ := List.getElem?_eq_some_iff.1 ho
    rw [← h1, ← h2]
    conv => lhs; rw [← List.take_append_drop i l, List.drop_eq_getElem_cons hl, hx]
    rfl
theorem kind5_mem {l : List UInt8} (h : kind l = 5) : (∀ c ∈ l, isN c = true ∨ c = 47) ∧ ∃ c t, l = c :: t ∧ (c = 43 ∨ c = 45) := by
  rcases kind_is5 h with q | ⟨a, b, hs, ha, hb⟩
  · obtain ⟨c, t, e, hc, _⟩ := num_head q
    exact ⟨fun c hc => .inl (num_mem q c hc), c, t, e, hc⟩
  · have hj := slash_join hs
    obtain ⟨c, t, e, hc, _⟩ := num_head ha
    refine ⟨fun d hd => ?_, c, t ++ 47 :: b, by rw [hj, e]; rfl, hc⟩
    rw [hj, List.mem_append, List.mem_cons] at hd
    rcases hd with q | q | q
    · exact .inl (num_mem ha d q)
    · exact .inr q
    · exact .inl (num_mem hb d q)
/-- concrete strings -/
theorem kind_z : kind [37, 122] = 4 := by decide +kernel
end Go.Proofs.YtmhciidliicheaaDoor.P21
