/- What is found for a string, and for one that is shorter (chapter 8). No function of the program. -/
import Derived.Test.YtggdfgdnpicepaaDoorPlain08
namespace Go.Proofs.YtggdfgdnpicepaaDoor.P8
open Go.Proofs.YtggdfgdnpicepaaDoor
set_option linter.unusedVariables false

def noPre (q : List (List UInt8) × Int) (i j : Nat) : Prop := i ≠ j → (word q.1 j).isPrefixOf (word q.1 i) = false
instance (q i j) : Decidable (noPre q i j) := by unfold noPre; infer_instance
theorem no_prefix : ∀ q ∈ lists, ∀ i, i < q.1.length → ∀ j, j < q.1.length → noPre q i j := by
  have h : (lists.all fun q => (List.range q.1.length).all fun i => (List.range q.1.length).all fun j => decide (noPre q i j)) = true := by decide +kernel
  simp only [List.all_eq_true, List.mem_range, decide_eq_true_eq] at h
  exact h
theorem begins_iff {s w : List UInt8} : begins s w = true ↔ s ≠ [] ∧ s <+: w := by
  unfold begins
  rw [Bool.and_eq_true, List.isPrefixOf_iff_prefix]
  cases s <;> simp
theorem find_cases {s : List UInt8} {L : List (List UInt8)} (h : (find s L).2 = true) :
    ∃ i, i < L.length ∧ find s L = ((i : Int), true) ∧ begins s (word L i) = true ∧ (word L i = s ∨ hits s L L.length = [i]) := by
  cases hf : (hits s L L.length).find? (fun j => word L j == s) with
  | some j =>
    have h1 := hits_mem.1 (List.mem_of_find?_eq_some hf)
    have h2 := List.find?_some hf
    exact ⟨j, h1.1, by simp [find, hf], h1.2, .inl (by simpa using h2)⟩
  | none =>
    have e : find s L = (last (hits s L L.length) 0, (hits s L L.length).length == 1) := by simp [find, hf]
    rw [e] at h
    obtain ⟨j, hj⟩ := List.length_eq_one_iff.1 (by simpa using h)
    have h1 := hits_mem.1 (show j ∈ hits s L L.length by rw [hj]; simp)
    refine ⟨j, h1.1, ?_, h1.2, .inr hj⟩
    rw [e, hj]
    rfl
theorem find_shorter {q : List (List UInt8) × Int} (hq : q ∈ lists) {s : List UInt8} {i : Nat} (hi : i < q.1.length) (hb : begins s (word q.1 i) = true) (h : (find (s.take (s.length - 1)) q.1).2 = true) : find (s.take (s.length - 1)) q.1 = ((i : Int), true) := by
  obtain ⟨j, hj, hf, hbj, hor⟩ := find_cases h
  obtain ⟨hne, hpre⟩ := begins_iff.1 hb
  have hp2 : s.take (s.length - 1) <+: word q.1 i := (List.take_prefix _ _).trans hpre
  have e : j = i := by
    rcases hor with h1 | h1
    · by_cases e : i = j
      · exact e.symm
      · have := no_prefix q hq i hi j hj e
        rw [← h1] at hp2
        rw [List.isPrefixOf_iff_prefix.2 hp2] at this
        cases this
    · have : i ∈ hits (s.take (s.length - 1)) q.1 q.1.length := hits_mem.2 ⟨hi, begins_iff.2 ⟨(begins_iff.1 hbj).1, hp2⟩⟩
      rw [h1] at this
      exact (List.mem_singleton.1 this).symm
  rw [hf, e]
/-- a letter of a number -/
def ltr (n : Int) : UInt8 := UInt8.ofNat (97 + n % 26).toNat
theorem ltr_num (n : Int) (h : 0 ≤ n) : ((ltr n).toNat : Int) = 97 + n % 26 := by
  unfold ltr
  rw [UInt8.toNat_ofNat_of_lt' (by show (97 + n % 26).toNat < 256; omega)]
  omega
theorem ltr_low (n : Int) (h : 0 ≤ n) : low (ltr n) = ltr n := by
  refine low_small _ ⟨?_, ?_⟩ <;> rw [UInt8.le_iff_toNat_le] <;> have := ltr_num n h <;> simp <;> omega
theorem ltrs_low {L : List Int} (h : ∀ n ∈ L, 0 ≤ n) : (L.map ltr).map low = L.map ltr := by
  rw [List.map_map]
  exact List.map_congr_left fun n hn => ltr_low n (h n hn)
end Go.Proofs.YtggdfgdnpicepaaDoor.P8
