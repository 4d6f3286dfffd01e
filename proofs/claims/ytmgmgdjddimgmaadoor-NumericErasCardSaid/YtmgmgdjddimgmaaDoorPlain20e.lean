/- Plain facts for the law NumericTurned (chapter 20): what the turned sets give; where the slash stands. -/
import Derived.Test.YtmgmgdjddimgmaaDoorNum20j
namespace Go.Proofs.YtmgmgdjddimgmaaDoor
set_option linter.unusedVariables false

theorem text_bytes (x : Int) : ∀ c ∈ P20.text x, c ≠ 47 := by
  have h2 : ∀ n : Nat, n < 100 → ∀ c ∈ P4.two n, c ≠ 47 := by
    intro n hn c hc
    simp only [P4.two, List.mem_cons, List.not_mem_nil, or_false] at hc
    have h1 : (UInt8.ofNat (48 + n / 10)).toNat = 48 + n / 10 := by rw [UInt8.toNat_ofNat']; omega
    have h2 : (UInt8.ofNat (48 + n % 10)).toNat = 48 + n % 10 := by rw [UInt8.toNat_ofNat']; omega
    rcases hc with rfl | rfl
    · intro e; have := congrArg UInt8.toNat e; rw [h1] at this; simp at this; omega
    · intro e; have := congrArg UInt8.toNat e; rw [h2] at this; simp at this; omega
  intro c hc
  unfold P20.text at hc
  split at hc
  · simp at hc
  · rename_i hr
    rw [List.mem_cons] at hc
    rcases hc with hc | hc
    · rw [hc]; split <;> decide
    · unfold P20.textN at hc
      simp only [List.mem_append] at hc
      rcases hc with (hc | hc) | hc
      · exact h2 _ (by omega) c hc
      · split at hc
        · simp at hc
        · exact h2 _ (by omega) c hc
      · split at hc
        · simp at hc
        · exact h2 _ (by omega) c hc
theorem index_slash (S T : List UInt8) (h : ∀ c ∈ S, c ≠ 47) : Lib.indexByte (S ++ 47 :: T) 47 = S.length := by
  induction S with
  | nil => simp [Lib.indexByte]
  | cons x S ih =>
    have hx : (x == 47) = false := by rw [beq_eq_false_iff_ne]; exact h x (List.mem_cons_self ..)
    have := ih (fun c hc => h c (List.mem_cons_of_mem _ hc))
    simp only [List.cons_append, Lib.indexByte, hx, this, List.length_cons]
    rw [if_neg (by simp), if_neg (by simp)]
    omega
theorem index_none (S : List UInt8) (h : ∀ c ∈ S, c ≠ 47) : Lib.indexByte S 47 = -1 := by
  induction S with
  | nil => rfl
  | cons x S ih =>
    have hx : (x == 47) = false := by rw [beq_eq_false_iff_ne]; exact h x (List.mem_cons_self ..)
    have := ih (fun c hc => h c (List.mem_cons_of_mem _ hc))
    simp only [Lib.indexByte, hx, this]
    simp
theorem turned_zero (x : Int) (h0 : -86399 ≤ x) (h1 : x ≤ 86399) (l : List Int) (hl : ∀ r ∈ l, r = 0) : P20.expansion 2 x 0 l = (P20.text x, 0) := by
  rw [exp_isnt x 0 l (by rw [P20.other_zero l hl])]
  rw [if_neg, jFrom_one, Int.add_zero, P20.one, if_neg (P20.text_ne h0 h1)]
  rw [List.any_eq_true]
  rintro ⟨r, hr, q⟩
  rw [decide_eq_true_eq] at q
  exact q (hl r hr)
theorem turned_one (x y : Int) (hy : y ≠ 0) (h0 : -86399 ≤ x) (h1 : x ≤ 86399) (k0 : -86399 ≤ x + y) (k1 : x + y ≤ 86399) (l : List Int) (hl : P20.other l = (y, true)) : P20.expansion 2 x 0 l = (P20.text x ++ 47 :: P20.text (x + y), 0) := by
  rw [exp_is x 0 l (by rw [hl]), hl, jFrom_two, Int.add_zero, P20.both, if_neg]
  rintro (q | q)
  · exact P20.text_ne h0 h1 q
  · exact P20.text_ne k0 k1 q
theorem other_010 (y : Int) (hy : y ≠ 0) : P20.other [0, y, 0] = (y, true) := by
  simp [P20.other, P20.otherFrom, hy]
theorem other_101 (y : Int) (hy : y ≠ 0) : P20.other [y, 0, y] = (y, true) := by
  simp [P20.other, P20.otherFrom, hy]
end Go.Proofs.YtmgmgdjddimgmaaDoor
