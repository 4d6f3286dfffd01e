/- Plain mathematics of FORMATs (chapter 21): abbreviations, cuts, kinds, parts; no program in sight. -/
import Derived.Test.YtmhciidliicheaaDoorPlain20b
import Derived.Shelf.GgClosure.StringsIndexFunc
import Derived.Lib.IndexMore
import Derived.Laws.RangeAny
namespace Go.Proofs.YtmhciidliicheaaDoor.P21

/-- an ASCII letter, as a number and as a byte -/
def isLr (r : Nat) : Bool := (decide (65 ≤ r) && decide (r ≤ 90)) || (decide (97 ≤ r) && decide (r ≤ 122))
def isL (c : UInt8) : Bool := isLr c.toNat
theorem isLr_high {r : Nat} (h : 128 ≤ r) : isLr r = false := by
  unfold isLr
  rw [decide_eq_false (show ¬ r ≤ 90 by omega), decide_eq_false (show ¬ r ≤ 122 by omega), Bool.and_false, Bool.and_false]; rfl
/-- an abbreviation: three to six letters -/
def abbr (l : List UInt8) : Bool := decide (3 ≤ l.length) && decide (l.length ≤ 6) && l.all isL
/-- what stands around the first slash, around the first %s -/
def slash (l : List UInt8) : List UInt8 × List UInt8 × Bool := Lib.cut l [47]
def pct (l : List UInt8) : List UInt8 × List UInt8 × Bool := Lib.cut l [37, 115]
def letter (l : List UInt8) : Bool := (pct l).2.2 && (((pct l).1 ++ (pct l).2.1).all isL && decide (((pct l).1 ++ (pct l).2.1).length ≤ 5))
def num (l : List UInt8) : Bool := decide ((P20.parse l).2 = 0)
def kind (l : List UInt8) : Int :=
  if abbr l = true then 1
  else if ((slash l).2.2 && abbr (slash l).1 && abbr (slash l).2.1) = true then 2
  else if letter l = true then 3
  else if l = [37, 122] then 4
  else if (num l || ((slash l).2.2 && num (slash l).1 && num (slash l).2.1)) = true then 5
  else 0
def two (l : List UInt8) : Bool := (slash l).2.2 && (decide (kind l = 2) || decide (kind l = 5))
def parts (l : List UInt8) : List UInt8 × List UInt8 × Bool := if two l = true then ((slash l).1, (slash l).2.1, true) else ([], [], false)
/-- the abbreviation, and the error's number -/
def out (t : List UInt8) (is : Bool) : List UInt8 × Int := if is = true then (t, 0) else ([], 15)
def abbrv (f : List UInt8) (off save : Int) (lt : List UInt8) : List UInt8 × Int :=
  if two f = true then (if save = 0 then ((slash f).1, 0) else ((slash f).2.1, 0))
  else if kind f = 3 then out ((pct f).1 ++ lt ++ (pct f).2.1) (abbr ((pct f).1 ++ lt ++ (pct f).2.1))
  else if kind f = 4 then out (P20.text (off + save)) (decide (P20.text (off + save) ≠ []))
  else if kind f = 0 then ([], 15)
  else (f, 0)
/-- whether the FORMAT of an era is right: the error's number -/
def check (f : List UInt8) (off kd save : Int) (ls : List (List UInt8)) (sv : List Int) : Int :=
  if kind f = 0 then 15
  else if kind f = 3 then (if ((if kd = 2 then ls else [[]]).all fun x => abbr ((pct f).1 ++ x ++ (pct f).2.1)) = true then 0 else 15)
  else if kind f < 4 then 0
  else if (P20.expansion kd off save sv).2 ≠ 0 ∨ (kind f = 5 ∧ (P20.expansion kd off save sv).1 ≠ f) then 15 else 0

theorem kind_cases (l : List UInt8) : kind l = 0 ∨ kind l = 1 ∨ kind l = 2 ∨ kind l = 3 ∨ kind l = 4 ∨ kind l = 5 := by
  unfold kind
  repeat' split
  all_goals simp

/-- cuts by places -/
theorem cut_at {l sep : List UInt8} {i : Nat} (hi : i ≤ l.length) (ho : Lib.occAt l sep i = true) (hn : ∀ j, j < i → Lib.occAt l sep j = false) : Lib.cut l sep = (l.take i, l.drop (i + sep.length), true) := by
  have h := Lib.index_first hi ho hn
  unfold Lib.cut
  rw [h, if_pos (by omega)]; rfl
theorem cut_no {l sep : List UInt8} (hn : ∀ j, j ≤ l.length → Lib.occAt l sep j = false) : Lib.cut l sep = (l, [], false) := by
  have h := Lib.index_none hn
  unfold Lib.cut
  rw [h, if_neg (by omega)]
theorem cut_cases (l sep : List UInt8) : (Lib.cut l sep = (l, [], false) ∧ ∀ j, j ≤ l.length → Lib.occAt l sep j = false) ∨ ∃ i, i ≤ l.length ∧ Lib.occAt l sep i = true ∧ (∀ j, j < i → Lib.occAt l sep j = false) ∧ Lib.cut l sep = (l.take i, l.drop (i + sep.length), true) := by
  rcases Lib.index_spec l sep with ⟨h1, h2⟩ | ⟨i, h1, h2, h3, h4⟩
  · exact .inl ⟨cut_no h2, h2⟩
  · exact .inr ⟨i, h2, h3, h4, cut_at h2 h3 h4⟩
theorem beq_dec (c a : UInt8) : (c == a) = decide (a = c) := by rw [Bool.eq_iff_iff, beq_iff_eq, decide_eq_true_eq]; exact eq_comm
theorem occ1 (l : List UInt8) (c : UInt8) (i : Nat) : Lib.occAt l [c] i = decide (l[i]? = some c) := by
  unfold Lib.occAt
  rw [← List.head?_drop]
  cases l.drop i with
  | nil => simp
  | cons a t =>
    simp only [List.isPrefixOf, List.head?_cons, Option.some.injEq, Bool.and_true]
    exact beq_dec c a
theorem occ2 (l : List UInt8) (c d : UInt8) (i : Nat) : Lib.occAt l [c, d] i = (decide (l[i]? = some c) && decide (l[i + 1]? = some d)) := by
  unfold Lib.occAt
  rw [← List.head?_drop, show l[i + 1]? = (l.drop i)[1]? by rw [List.getElem?_drop]]
  cases l.drop i with
  | nil => simp
  | cons a t => cases t with
    | nil => simp [List.isPrefixOf]
    | cons b t =>
      simp only [List.isPrefixOf, List.head?_cons, List.getElem?_cons_succ, List.getElem?_cons_zero, Option.some.injEq, Bool.and_true]
      rw [beq_dec, beq_dec]
theorem cut1_at {l : List UInt8} {c : UInt8} {i : Nat} (h : l[i]? = some c) (hn : ∀ j, j < i → l[j]? ≠ some c) : Lib.cut l [c] = (l.take i, l.drop (i + 1), true) := by
  have hi := (List.getElem?_eq_some_iff.1 h).1
  exact cut_at (by omega) (by rw [occ1]; exact decide_eq_true h) fun j hj => by rw [occ1]; exact decide_eq_false (hn j hj)
theorem cut1_no {l : List UInt8} {c : UInt8} (hn : ∀ j, j < l.length → l[j]? ≠ some c) : Lib.cut l [c] = (l, [], false) :=
  cut_no fun j _ => by
    rw [occ1]
    refine decide_eq_false fun h => ?_
    exact hn j (List.getElem?_eq_some_iff.1 h).1 h
theorem cut2_at {l : List UInt8} {c d : UInt8} {i : Nat} (h : l[i]? = some c) (h2 : l[i + 1]? = some d) (hn : ∀ j, j < i → l[j]? ≠ some c ∨ l[j + 1]? ≠ some d) : Lib.cut l [c, d] = (l.take i, l.drop (i + 2), true) := by
  have hi := (List.getElem?_eq_some_iff.1 h).1
  refine cut_at (by omega) (by rw [occ2, decide_eq_true h, decide_eq_true h2]; rfl) fun j hj => ?_
  rw [occ2]
  rcases hn j hj with q | q
  · rw [decide_eq_false q]; rfl
  · rw [decide_eq_false q, Bool.and_false]
theorem cut2_no {l : List UInt8} {c d : UInt8} (hn : ∀ j, j + 1 < l.length → l[j]? ≠ some c ∨ l[j + 1]? ≠ some d) : Lib.cut l [c, d] = (l, [], false) :=
  cut_no fun j _ => by
    rw [occ2]
    by_cases hj : j + 1 < l.length
    · rcases hn j hj with q | q
      · rw [decide_eq_false q]; rfl
      · rw [decide_eq_false q, Bool.and_false]
    · rw [decide_eq_false (p := l[j + 1]? = some d) (fun h => hj (List.getElem?_eq_some_iff.1 h).1), Bool.and_false]

/-- a slash in the string: of which kinds it can be -/
theorem slash_mem {l : List UInt8} (h : (slash l).2.2 = true) : (47 : UInt8) ∈ l := by
  rcases cut_cases l [47] with ⟨q, _⟩ | ⟨i, _, ho, _, _⟩
  · unfold slash at h; rw [q] at h; cases h
  · rw [occ1] at ho
    exact List.mem_of_getElem? (of_decide_eq_true ho)
theorem slash_of_mem {l : List UInt8} (h : (47 : UInt8) ∈ l) : (slash l).2.2 = true := by
  unfold slash
  rcases cut_cases l [47] with ⟨_, q⟩ | ⟨i, _, _, _, q⟩
  · obtain ⟨k, hk, hk2⟩ := List.getElem_of_mem h
    have := q k (by omega)
    rw [occ1, List.getElem?_eq_getElem hk, hk2] at this
    simp at this
  · rw [q]
theorem letter_mem {l : List UInt8} (h : letter l = true) : ∀ c ∈ l, isL c = true ∨ c = 37 ∨ c = 115 := by
  unfold letter at h
  simp only [Bool.and_eq_true] at h
  obtain ⟨h1, h2, _⟩ := h
  rcases cut_cases l [37, 115] with ⟨q, _⟩ | ⟨i, hi, ho, _, q⟩
  · unfold pct at h1; rw [q] at h1; cases h1
  · unfold pct at h2
    rw [q] at h2
    simp only [List.all_append, Bool.and_eq_true, List.all_eq_true] at h2
    rw [occ2] at ho
    simp only [Bool.and_eq_true, decide_eq_true_eq] at ho
    intro c hc
    obtain ⟨k, hk, rfl⟩ := List.getElem_of_mem hc
    by_cases k1 : k < i
    · exact .inl (h2.1 _ (List.mem_of_getElem? (i := k) (by rw [List.getElem?_take_of_lt k1, List.getElem?_eq_getElem hk])))
    · by_cases k2 : k = i
      · subst k2
        rw [List.getElem?_eq_getElem hk] at ho
        exact .inr (.inl (Option.some.inj ho.1))
      · by_cases k3 : k = i + 1
        · subst k3
          rw [List.getElem?_eq_getElem hk] at ho
          exact .inr (.inr (Option.some.inj ho.2))
        · refine .inl (h2.2 _ (List.mem_of_getElem? (i := k - (i + 2)) ?_))
          rw [List.getElem?_drop, show i + ([37, 115] : List UInt8).length + (k - (i + 2)) = k by simp only [List.length_cons, List.length_nil]; omega, List.getElem?_eq_getElem hk]
theorem two_eq (l : List UInt8) : two l = ((slash l).2.2 && decide (kind l ≠ 0)) := by
  unfold two
  by_cases hs : (slash l).2.2 = true
  · have hm := slash_mem hs
    have h1 : kind l ≠ 1 := by
      intro h
      have ha : abbr l = true := by
        by_cases q : abbr l = true
        · exact q
        · unfold kind at h
          rw [if_neg q] at h
          repeat' split at h
          all_goals simp at h
      unfold abbr at ha
      simp only [Bool.and_eq_true, List.all_eq_true] at ha
      have := ha.2 _ hm
      revert this; decide
    have h3 : kind l ≠ 3 := by
      intro h
      have ha : letter l = true := by
        by_cases q : letter l = true
        · exact q
        · unfold kind at h
          rw [if_neg (c := letter l = true) q] at h
          repeat' split at h
          all_goals simp at h
      rcases letter_mem ha _ hm with q | q | q
      · revert q; decide
      · revert q; decide
      · revert q; decide
    have h4 : kind l ≠ 4 := by
      intro h
      have ha : l = [37, 122] := by
        by_cases q : l = [37, 122]
        · exact q
        · unfold kind at h
          rw [if_neg (c := l = [37, 122]) q] at h
          repeat' split at h
          all_goals simp at h
      rw [ha] at hm
      revert hm; decide
    rw [hs, Bool.true_and, Bool.true_and]
    rcases kind_cases l with q | q | q | q | q | q <;> rw [q] <;> first | rfl | (exfalso; first | exact h1 q | exact h3 q | exact h4 q)
  · rw [Bool.not_eq_true] at hs
    rw [hs]; rfl
/-- all runes letters: all bytes letters -/
theorem idx_from (s : ByteArray) : ∀ (n pos : Nat), s.size ≤ pos + n → (Lib.idxFuncFrom (fun r => !isLr r) true s n pos = -1 ↔ (s.data.toList.drop pos).all isL = true)
  | 0, pos, h => by
    rw [List.drop_eq_nil_of_le (by rw [← Lib.size_eq]; omega)]
    simp [Lib.idxFuncFrom]
  | n + 1, pos, h => by
    unfold Lib.idxFuncFrom
    by_cases hp : pos < s.size
    · rw [if_pos hp]
      have hl : pos < s.data.toList.length := by rw [← Lib.size_eq]; exact hp
      rw [List.drop_eq_getElem_cons hl, List.all_cons]
      have hbyte : s.data.toList[pos] = s[pos]'hp := by
        have := Lib.data_getElem? s pos hp
        rw [List.getElem?_eq_getElem hl] at this
        exact Option.some.inj this
      rw [hbyte]
      by_cases ha : (s[pos]'hp).toNat < 128
      · rw [decode_ascii s pos hp ha]
        show ((if (!isLr (s[pos]'hp).toNat) = true then (pos : Int) else Lib.idxFuncFrom (fun r => !isLr r) true s n (pos + 1)) = -1) ↔ _
        by_cases hL : isLr (s[pos]'hp).toNat = true
        · rw [if_neg (by rw [hL]; decide), idx_from s n (pos + 1) (by omega)]
          unfold isL at *
          rw [hL, Bool.true_and]
        · rw [Bool.not_eq_true] at hL
          rw [if_pos (by rw [hL]; rfl)]
          unfold isL
          rw [hL, Bool.false_and]
          constructor
          · intro q; omega
          · intro q; cases q
      · have hh := (decode_high s pos hp (by omega)).1
        have hL : isLr (s[pos]'hp).toNat = false := isLr_high (by omega)
        rw [if_pos (by rw [isLr_high hh]; rfl)]
        unfold isL
        rw [hL, Bool.false_and]
        constructor
        · intro q; omega
        · intro q; cases q
    · rw [if_neg hp, List.drop_eq_nil_of_le (by rw [← Lib.size_eq]; omega)]
      simp
theorem idx_all (s : ByteArray) : Lib.idxFunc (fun r => !isLr r) true s = -1 ↔ s.data.toList.all isL = true := by
  have := idx_from s s.size 0 (by omega)
  rwa [List.drop_zero] at this
theorem idx_lt (s : ByteArray) : decide (Lib.idxFunc (fun r => !isLr r) true s < 0) = s.data.toList.all isL := by
  have h := idx_all s
  rcases Lib.idxFuncFrom_range (fun r => !isLr r) true s s.size 0 with q | ⟨q, _⟩
  · have q' : Lib.idxFunc (fun r => !isLr r) true s = -1 := q
    rw [q', h.1 q']; rfl
  · have q' : 0 ≤ Lib.idxFunc (fun r => !isLr r) true s := q
    rw [decide_eq_false (by omega)]
    cases hx : s.data.toList.all isL with
    | false => rfl
    | true => have := h.2 hx; omega
end Go.Proofs.YtmhciidliicheaaDoor.P21
