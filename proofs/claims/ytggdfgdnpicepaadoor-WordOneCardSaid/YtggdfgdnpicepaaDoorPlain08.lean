/- Words that are found by their beginnings (chapter 8). No function of the program. -/
import Derived.Test.YtggdfgdnpicepaaDoorCom
namespace Go.Proofs.YtggdfgdnpicepaaDoor.P8
open Go.Proofs.YtggdfgdnpicepaaDoor
set_option linter.unusedVariables false

/-- a letter as a small one -/
def low (c : UInt8) : UInt8 := if 65 ≤ c ∧ c ≤ 90 then c + 32 else c
/-- whether a word begins with a string that is not empty -/
def begins (s w : List UInt8) : Bool := !s.isEmpty && s.isPrefixOf w
/-- the word with a number -/
def word (L : List (List UInt8)) (j : Nat) : List UInt8 := L[j]?.getD []
/-- the numbers below k whose words begin so -/
def hits (s : List UInt8) (L : List (List UInt8)) (k : Nat) : List Nat := (List.range k).filter fun j => begins s (word L j)
theorem hits_zero (s L) : hits s L 0 = [] := rfl
theorem hits_succ (s L) (k : Nat) : hits s L (k + 1) = hits s L k ++ (if begins s (word L k) = true then [k] else []) := by
  unfold hits
  rw [List.range_succ, List.filter_append, List.filter_cons, List.filter_nil]
theorem hits_yes {s L} {k : Nat} (h : begins s (word L k) = true) : hits s L (k + 1) = hits s L k ++ [k] := by rw [hits_succ, if_pos h]
theorem hits_no {s L} {k : Nat} (h : begins s (word L k) = false) : hits s L (k + 1) = hits s L k := by rw [hits_succ, if_neg (by rw [h]; exact Bool.false_ne_true), List.append_nil]
theorem hits_mem {s L} {k j : Nat} : j ∈ hits s L k ↔ j < k ∧ begins s (word L j) = true := by simp [hits]
theorem hits_len (s L) (k : Nat) : (hits s L k).length ≤ k := Nat.le_trans (List.length_filter_le _ _) (by simp)
/-- the last of these, or the one given -/
def last (l : List Nat) (d : Int) : Int := match l.getLast? with | some j => (j : Int) | none => d
theorem last_nil (d : Int) : last [] d = d := rfl
theorem last_snoc (l : List Nat) (j : Nat) (d : Int) : last (l ++ [j]) d = j := by simp [last]
/-- what is found: the number, and whether it is one -/
def find (s : List UInt8) (L : List (List UInt8)) : Int × Bool :=
  match (hits s L L.length).find? fun j => word L j == s with
  | some j => (j, true)
  | none => (last (hits s L L.length) 0, (hits s L L.length).length == 1)
theorem find_none {s L} (h : ∀ j ∈ hits s L L.length, word L j ≠ s) : find s L = (last (hits s L L.length) 0, (hits s L L.length).length == 1) := by
  have : (hits s L L.length).find? (fun j => word L j == s) = none := by
    rw [List.find?_eq_none]
    intro j hj
    simpa using h j hj
  simp [find, this]
theorem find_some {s L} {k : Nat} (hk : k < L.length) (hb : begins s (word L k) = true) (h : ∀ j ∈ hits s L k, word L j ≠ s) (he : word L k = s) : find s L = ((k : Int), true) := by
  have key : ∀ n, k < n → (hits s L n).find? (fun j => word L j == s) = some k := by
    intro n hn
    induction n with
    | zero => omega
    | succ n ih =>
      rw [hits_succ, List.find?_append]
      by_cases e : k = n
      · subst e
        have h0 : (hits s L k).find? (fun j => word L j == s) = none := by
          rw [List.find?_eq_none]; intro j hj; simpa using h j hj
        rw [h0, if_pos hb]
        simp [he]
      · rw [ih (by omega)]; rfl
  simp [find, key _ hk]
theorem find_bound (s : List UInt8) (L : List (List UInt8)) : 0 ≤ (find s L).1 ∧ (find s L).1 ≤ L.length := by
  unfold find
  split
  · rename_i j h
    have := (hits_mem.1 (List.mem_of_find?_eq_some h)).1
    simp only; omega
  · unfold last
    split
    · rename_i j h
      have := (hits_mem.1 (List.mem_of_getLast? h)).1
      simp only; omega
    · simp only; omega
/-- the number that is answered, and the error -/
def num (first : Int) (s : List UInt8) (L : List (List UInt8)) : Int × Int := if (find (s.map low) L).2 = true then (first + (find (s.map low) L).1, 0) else (0, 8)

/-- the words -/
def lines : List (List UInt8) := [[114, 117, 108, 101], [122, 111, 110, 101], [108, 105, 110, 107], [115, 104, 105, 102, 116]]
def months : List (List UInt8) := [[106, 97, 110, 117, 97, 114, 121], [102, 101, 98, 114, 117, 97, 114, 121], [109, 97, 114, 99, 104], [97, 112, 114, 105, 108], [109, 97, 121], [106, 117, 110, 101], [106, 117, 108, 121], [97, 117, 103, 117, 115, 116], [115, 101, 112, 116, 101, 109, 98, 101, 114], [111, 99, 116, 111, 98, 101, 114], [110, 111, 118, 101, 109, 98, 101, 114], [100, 101, 99, 101, 109, 98, 101, 114]]
def weeks : List (List UInt8) := [[115, 117, 110, 100, 97, 121], [109, 111, 110, 100, 97, 121], [116, 117, 101, 115, 100, 97, 121], [119, 101, 100, 110, 101, 115, 100, 97, 121], [116, 104, 117, 114, 115, 100, 97, 121], [102, 114, 105, 100, 97, 121], [115, 97, 116, 117, 114, 100, 97, 121]]
def years : List (List UInt8) := [[111, 110, 108, 121], [109, 97, 120, 105, 109, 117, 109]]
def lists : List (List (List UInt8) × Int) := [(lines, 1), (months, 1), (weeks, 0), (years, 1)]

/-- the reference's way: words that are equal, and words that are longer -/
theorem ref_found {s L} {k : Nat} (hk : k < L.length) (hne : ∀ j, j < L.length → word L j ≠ []) (h : ∀ j, j < k → word L j ≠ s) (he : word L k = s) : find s L = ((k : Int), true) := by
  refine find_some hk ?_ (fun j hj => h j (hits_mem.1 hj).1) he
  have : s ≠ [] := he ▸ hne k hk
  unfold begins
  rw [he]
  cases s with
  | nil => exact absurd rfl this
  | cons a s => simp
theorem ref_all {s L} (h : ∀ j, j < L.length → word L j ≠ s) (d : Int) :
    ((hits s L L.length).length ≠ 1 → (find s L).2 = false) ∧ ((hits s L L.length).length = 1 → find s L = (last (hits s L L.length) d, true)) := by
  have q := find_none (s := s) (L := L) (fun j hj => h j (hits_mem.1 hj).1)
  refine ⟨fun hn => by rw [q]; simpa using hn, fun hn => ?_⟩
  rw [q, hn]
  obtain ⟨j, hj⟩ := List.length_eq_one_iff.1 hn
  rw [hj]
  rfl
theorem longer {s w : List UInt8} (hne : w ≠ s) : begins s w = (!s.isEmpty && decide (s.length < w.length) && (w.take s.length == s)) := by
  unfold begins
  rw [Bool.eq_iff_iff]
  simp only [Bool.and_eq_true, decide_eq_true_eq, beq_iff_eq, List.isPrefixOf_iff_prefix]
  constructor
  · rintro ⟨h1, h2⟩
    refine ⟨⟨h1, ?_⟩, (List.prefix_iff_eq_take.1 h2).symm⟩
    rcases Nat.lt_or_ge s.length w.length with q | q
    · exact q
    · exact absurd (h2.eq_of_length_le q).symm hne
  · rintro ⟨⟨h1, h2⟩, h3⟩
    exact ⟨h1, by rw [← h3]; exact List.take_prefix _ _⟩

/-- a letter's case, bit by bit -/
def up (b : Bool) (c : UInt8) : UInt8 := if b = true ∧ 97 ≤ c ∧ c ≤ 122 then c - 32 else c
theorem low_up (b : Bool) (c : UInt8) (h : 97 ≤ c ∧ c ≤ 122) : low (up b c) = c := by
  have key : ∀ n : Fin 256, ∀ b : Bool, 97 ≤ n.val ∧ n.val ≤ 122 → low (up b (UInt8.ofNat n.val)) = UInt8.ofNat n.val := by decide +kernel
  have := key ⟨c.toNat, c.toNat_lt⟩ b ⟨by simpa [UInt8.le_iff_toNat_le] using h.1, by simpa [UInt8.le_iff_toNat_le] using h.2⟩
  simpa using this
theorem low_low (c : UInt8) : low (low c) = low c := by
  have key : ∀ n : Fin 256, low (low (UInt8.ofNat n.val)) = low (UInt8.ofNat n.val) := by decide +kernel
  simpa using key ⟨c.toNat, c.toNat_lt⟩
theorem low_small (c : UInt8) (h : 97 ≤ c ∧ c ≤ 122) : low c = c := by
  have := low_up false c h
  simpa [up] using this

/-- the words have small letters alone, and none is empty -/
theorem all_small : ∀ q ∈ lists, ∀ w ∈ q.1, ∀ c ∈ w, 97 ≤ c ∧ c ≤ 122 := by decide +kernel
theorem none_empty : ∀ q ∈ lists, ∀ j, j < q.1.length → word q.1 j ≠ [] := by decide +kernel
/-- how many other words begin with these letters -/
def others (L : List (List UInt8)) (i n : Nat) : Nat := ((List.range L.length).filter fun k => k != i && decide (n ≤ (word L k).length) && ((word L k).take n == (word L i).take n)).length
def backAt (q : List (List UInt8) × Int) (i n : Nat) : Prop := 1 ≤ n → n ≤ (word q.1 i).length →
    (0 < others q.1 i n ∧ n < (word q.1 i).length → (find ((word q.1 i).take n) q.1).2 = false) ∧
    (¬ (0 < others q.1 i n ∧ n < (word q.1 i).length) → find ((word q.1 i).take n) q.1 = ((i : Int), true) ∧ find (word q.1 i) q.1 = ((i : Int), true))
instance (q i n) : Decidable (backAt q i n) := by unfold backAt; infer_instance
theorem back_fact : ∀ q ∈ lists, ∀ i, i < q.1.length → ∀ n, n < 10 → backAt q i n := by
  have h : (lists.all fun q => (List.range q.1.length).all fun i => (List.range 10).all fun n => decide (backAt q i n)) = true := by decide +kernel
  simp only [List.all_eq_true, List.mem_range, decide_eq_true_eq] at h
  exact h
theorem word_len : ∀ q ∈ lists, ∀ i, i < q.1.length → 1 ≤ (word q.1 i).length ∧ (word q.1 i).length ≤ 9 := by decide +kernel
/-- a byte more: no word begins so -/
def moreAt (q : List (List UInt8) × Int) (i k j : Nat) : Prop := k ≤ (word q.1 i).length →
    ¬ ((word q.1 i).length < (word q.1 j).length ∧ (word q.1 j).take k = (word q.1 i).take k ∧ ((word q.1 j).drop (k + 1)).take ((word q.1 i).length - k) = (word q.1 i).drop k)
instance (q i k j) : Decidable (moreAt q i k j) := by unfold moreAt; infer_instance
theorem more_fact : ∀ q ∈ lists, ∀ i, i < q.1.length → ∀ k, k < 10 → ∀ j, j < q.1.length → moreAt q i k j := by
  have h : (lists.all fun q => (List.range q.1.length).all fun i => (List.range 10).all fun k => (List.range q.1.length).all fun j => decide (moreAt q i k j)) = true := by decide +kernel
  simp only [List.all_eq_true, List.mem_range, decide_eq_true_eq] at h
  exact h
theorem more_find {q : List (List UInt8) × Int} (hq : q ∈ lists) {i k : Nat} (hi : i < q.1.length) (hk : k ≤ (word q.1 i).length) (c : UInt8) : (find ((word q.1 i).take k ++ [c] ++ (word q.1 i).drop k) q.1).2 = false := by
  have key : ∀ j, j < q.1.length → begins ((word q.1 i).take k ++ [c] ++ (word q.1 i).drop k) (word q.1 j) = false := by
    intro j hj
    have f := more_fact q hq i hi k (by have := (word_len q hq i hi).2; omega) j hj hk
    generalize word q.1 i = w at *
    generalize word q.1 j = v at *
    rw [Bool.eq_false_iff]
    intro h
    unfold begins at h
    simp only [Bool.and_eq_true, List.isPrefixOf_iff_prefix] at h
    obtain ⟨t, rfl⟩ := h.2
    have hl : (w.take k).length = k := by simp; omega
    refine f ⟨by simp; omega, ?_, ?_⟩
    · rw [List.append_assoc, List.append_assoc, List.take_append_of_le_length (by omega), List.take_of_length_le (by omega)]
    · rw [List.append_assoc, List.append_assoc, List.drop_append, List.drop_eq_nil_of_le (by omega), hl, List.nil_append, show k + 1 - k = 1 by omega]
      show List.take _ (w.drop k ++ t) = _
      rw [List.take_append_of_le_length (by simp), List.take_of_length_le (by simp)]
  have h0 : hits ((word q.1 i).take k ++ [c] ++ (word q.1 i).drop k) q.1 q.1.length = [] := by
    rw [List.eq_nil_iff_forall_not_mem]
    intro j hj
    obtain ⟨h1, h2⟩ := hits_mem.1 hj
    rw [key j h1] at h2
    cases h2
  rw [find_none (by rw [h0]; simp), h0]
  rfl
/-- short words -/
def short (w : List UInt8) : List UInt8 := (w.take 1).map (fun c => c - 32) ++ (w.drop 1).take 2
theorem short_fact : (∀ i, i < 12 → find ((word months i).take 3) months = ((i : Int), true)) ∧ (∀ i, i < 7 → find ((word weeks i).take 3) weeks = ((i : Int), true)) := by decide +kernel
end Go.Proofs.YtggdfgdnpicepaaDoor.P8
