/- Lines of a report in plain Lean: a right change's line names it; each line ends in its only newline. No function of the program. -/
import Derived.Test.YtggdfgdnpicepaaDoorPlain32
namespace Go.Proofs.YtggdfgdnpicepaaDoor.P32
open Go.Proofs.YtggdfgdnpicepaaDoor
set_option linter.unusedVariables false

theorem dg_sep : ∀ k, k < 10 → UInt8.ofNat (48 + k) ≠ 32 ∧ UInt8.ofNat (48 + k) ≠ 10 := by decide
theorem dg_inj : ∀ a, a < 10 → ∀ b, b < 10 → UInt8.ofNat (48 + a) = UInt8.ofNat (48 + b) → a = b := by decide
theorem dd_step (n : Nat) (h : ¬ n < 10) : Lib.decDigits n = Lib.decDigits (n / 10) ++ [UInt8.ofNat (48 + n % 10)] := by
  rw [Lib.decDigits, dif_neg h]
theorem dd_sep (k : Nat) : ∀ n, n ≤ k → ∀ c ∈ Lib.decDigits n, c ≠ 32 ∧ c ≠ 10 := by
  induction k with
  | zero =>
    intro n hn c hc
    rw [Lib.decDigits_one (by omega)] at hc
    rw [List.mem_singleton.1 hc]
    exact dg_sep n (by omega)
  | succ k ih =>
    intro n hn c hc
    by_cases h : n < 10
    · rw [Lib.decDigits_one h] at hc
      rw [List.mem_singleton.1 hc]
      exact dg_sep n h
    · rw [dd_step n h] at hc
      rcases List.mem_append.1 hc with q | q
      · exact ih (n / 10) (by omega) c q
      · rw [List.mem_singleton.1 q]
        exact dg_sep _ (by omega)
theorem dd_pos (n : Nat) : 0 < (Lib.decDigits n).length := by
  by_cases h : n < 10
  · rw [Lib.decDigits_one h]; simp
  · rw [dd_step n h]; simp
theorem dd_inj (k : Nat) : ∀ n, n ≤ k → ∀ m, Lib.decDigits n = Lib.decDigits m → n = m := by
  induction k with
  | zero =>
    intro n hn m e
    rw [Lib.decDigits_one (by omega)] at e
    by_cases h : m < 10
    · rw [Lib.decDigits_one h] at e
      injection e with e _
      exact dg_inj n (by omega) m h e
    · rw [dd_step m h] at e
      have := congrArg List.length e
      have p := dd_pos (m / 10)
      simp only [List.length_append, List.length_cons, List.length_nil] at this
      omega
  | succ k ih =>
    intro n hn m e
    by_cases h : n < 10
    · rw [Lib.decDigits_one h] at e
      by_cases h' : m < 10
      · rw [Lib.decDigits_one h'] at e
        injection e with e _
        exact dg_inj n h m h' e
      · rw [dd_step m h'] at e
        have := congrArg List.length e
        have p := dd_pos (m / 10)
        simp only [List.length_append, List.length_cons, List.length_nil] at this
        omega
    · rw [dd_step n h] at e
      by_cases h' : m < 10
      · rw [Lib.decDigits_one h'] at e
        have := congrArg List.length e
        have p := dd_pos (n / 10)
        simp only [List.length_append, List.length_cons, List.length_nil] at this
        omega
      · rw [dd_step m h'] at e
        obtain ⟨e1, e2⟩ := List.append_inj' e rfl
        injection e2 with e2 _
        have q := ih (n / 10) (by omega) (m / 10) e1
        have r := dg_inj (n % 10) (by omega) (m % 10) (by omega) e2
        omega
/-- up to the first blank or newline two lists are alike -/
theorem span_eq (ds : List UInt8) : ∀ (es : List UInt8) (x y : UInt8) (xs ys : List UInt8), (∀ c ∈ ds, c ≠ 32 ∧ c ≠ 10) → (∀ c ∈ es, c ≠ 32 ∧ c ≠ 10) → (x = 32 ∨ x = 10) → (y = 32 ∨ y = 10) → ds ++ x :: xs = es ++ y :: ys → ds = es ∧ x :: xs = y :: ys := by
  induction ds with
  | nil =>
    intro es x y xs ys _ h2 hx hy e
    cases es with
    | nil => exact ⟨rfl, e⟩
    | cons b bs =>
      injection e with e _
      have := h2 b (by simp)
      rcases hx with q | q <;> simp_all
  | cons a tl ih =>
    intro es x y xs ys h1 h2 hx hy e
    cases es with
    | nil =>
      injection e with e _
      have := h1 a (by simp)
      rcases hy with q | q <;> simp_all
    | cons b bs =>
      injection e with e1 e2
      obtain ⟨p, q⟩ := ih bs x y xs ys (fun c hc => h1 c (by simp [hc])) (fun c hc => h2 c (by simp [hc])) hx hy e2
      exact ⟨by rw [e1, p], q⟩
def tailR (w : Int) : List UInt8 := wordL (bit w 1) [115, 97, 118, 101] ++ wordL (bit w 2) [97, 116] ++ [10]
def tailE (w : Int) : List UInt8 := wordL (bit w 4) [111, 102, 102] ++ wordL (bit w 8) [102, 111, 114, 109, 97, 116] ++ wordL (bit w 16) [117, 110, 116, 105, 108] ++ [10]
theorem tailR_inj : ∀ a ∈ ([1, 2, 3] : List Int), ∀ b ∈ ([1, 2, 3] : List Int), tailR a = tailR b → a = b := by decide +kernel
theorem tailE_inj : ∀ a ∈ ([4, 8, 12, 16, 20, 24, 28] : List Int), ∀ b ∈ ([4, 8, 12, 16, 20, 24, 28] : List Int), tailE a = tailE b → a = b := by decide +kernel
theorem tailR_head : ∀ a ∈ ([1, 2, 3] : List Int), (tailR a).head? = some 32 := by decide +kernel
theorem tailE_head : ∀ a ∈ ([4, 8, 12, 16, 20, 24, 28] : List Int), (tailE a).head? = some 32 := by decide +kernel
theorem whatR {w : Int} (h : 1 ≤ w ∧ w ≤ 3) : w ∈ ([1, 2, 3] : List Int) := by
  rcases (show w = 1 ∨ w = 2 ∨ w = 3 by omega) with rfl | rfl | rfl <;> decide
theorem whatE {w : Int} (h : 4 ≤ w ∧ w ≤ 28 ∧ w % 4 = 0) : w ∈ ([4, 8, 12, 16, 20, 24, 28] : List Int) := by
  rcases (show w = 4 ∨ w = 8 ∨ w = 12 ∨ w = 16 ∨ w = 20 ∨ w = 24 ∨ w = 28 by omega) with rfl | rfl | rfl | rfl | rfl | rfl | rfl <;> decide
theorem head_cons {l : List UInt8} (h : l.head? = some 32) : ∃ xs, l = 32 :: xs := by
  cases l with
  | nil => cases h
  | cons a tl => exact ⟨tl, by injection h with h; rw [h]⟩
theorem lineR_is (c : CV) : lineR c = [114, 117, 108, 101, 32] ++ (Lib.decDigits c.index.toNat ++ tailR c.what) := by
  unfold lineR tailR; simp only [List.append_assoc]
theorem lineE_is (c : CV) : lineE c = [101, 114, 97, 32] ++ (Lib.decDigits c.index.toNat ++ (32 :: (Lib.decDigits c.era.toNat ++ tailE c.what))) := by
  unfold lineE tailE; simp only [List.append_assoc, List.cons_append, List.nil_append]
theorem cv_ext {c d : CV} (h1 : c.part = d.part) (h2 : c.index = d.index) (h3 : c.era = d.era) (h4 : c.what = d.what) : c = d := by
  cases c; cases d; simp only at h1 h2 h3 h4; subst h1 h2 h3 h4; rfl
/-- a right change's line names it -/
theorem line_inj {c d : CV} (hc : right c) (hd : right d) (e : line c = line d) : c = d := by
  unfold line at e
  rcases hc with ⟨p1, i1, r1, a1, b1⟩ | ⟨p1, i1, r1, a1, b1, m1⟩ <;> rcases hd with ⟨p2, i2, r2, a2, b2⟩ | ⟨p2, i2, r2, a2, b2, m2⟩
  · rw [if_pos p1, if_pos p2, lineR_is, lineR_is] at e
    have e := List.append_cancel_left e
    obtain ⟨x, hx⟩ := head_cons (tailR_head _ (whatR ⟨a1, b1⟩))
    obtain ⟨y, hy⟩ := head_cons (tailR_head _ (whatR ⟨a2, b2⟩))
    rw [hx, hy] at e
    obtain ⟨e1, e2⟩ := span_eq _ _ 32 32 x y (dd_sep _ _ (Nat.le_refl _)) (dd_sep _ _ (Nat.le_refl _)) (Or.inl rfl) (Or.inl rfl) e
    rw [← hx, ← hy] at e2
    have q1 := dd_inj _ _ (Nat.le_refl _) _ e1
    exact cv_ext (by omega) (by omega) (by omega) (tailR_inj _ (whatR ⟨a1, b1⟩) _ (whatR ⟨a2, b2⟩) e2)
  · rw [if_pos p1, if_neg (by omega), lineR_is, lineE_is] at e
    injection e with e _
    cases e
  · rw [if_neg (by omega), if_pos p2, lineR_is, lineE_is] at e
    injection e with e _
    cases e
  · rw [if_neg (by omega), if_neg (by omega), lineE_is, lineE_is] at e
    have e := List.append_cancel_left e
    obtain ⟨e1, e2⟩ := span_eq _ _ 32 32 _ _ (dd_sep _ _ (Nat.le_refl _)) (dd_sep _ _ (Nat.le_refl _)) (Or.inl rfl) (Or.inl rfl) e
    injection e2 with _ e2
    obtain ⟨x, hx⟩ := head_cons (tailE_head _ (whatE ⟨a1, b1, m1⟩))
    obtain ⟨y, hy⟩ := head_cons (tailE_head _ (whatE ⟨a2, b2, m2⟩))
    rw [hx, hy] at e2
    obtain ⟨e3, e4⟩ := span_eq _ _ 32 32 x y (dd_sep _ _ (Nat.le_refl _)) (dd_sep _ _ (Nat.le_refl _)) (Or.inl rfl) (Or.inl rfl) e2
    rw [← hx, ← hy] at e4
    have q1 := dd_inj _ _ (Nat.le_refl _) _ e1
    have q2 := dd_inj _ _ (Nat.le_refl _) _ e3
    exact cv_ext (by omega) (by omega) (by omega) (tailE_inj _ (whatE ⟨a1, b1, m1⟩) _ (whatE ⟨a2, b2, m2⟩) e4)
/-- lists with one change that is another one have another text -/
theorem text_set {L : List CV} {k : Nat} {c d : CV} (hk : L[k]? = some c) (hc : right c) (hd : right d) (hne : d ≠ c) : (L.set k d).flatMap line ≠ L.flatMap line := by
  intro e
  have hlt := (List.getElem?_eq_some_iff.mp hk).1
  have h1 : L = L.take k ++ c :: L.drop (k + 1) := by
    have := (List.getElem?_eq_some_iff.mp hk).2
    rw [← this, List.getElem_cons_drop, List.take_append_drop]
  have h2 : L.set k d = L.take k ++ d :: L.drop (k + 1) := List.set_eq_take_append_cons_drop .. |>.trans (by rw [if_pos hlt])
  have e2 : (L.take k ++ d :: L.drop (k + 1)).flatMap line = (L.take k ++ c :: L.drop (k + 1)).flatMap line := (congrArg (fun l => l.flatMap line) h2).symm.trans (e.trans (congrArg (fun l => l.flatMap line) h1))
  rw [List.flatMap_append, List.flatMap_append, List.flatMap_cons, List.flatMap_cons] at e2
  have e3 := List.append_cancel_left e2
  exact hne (line_inj hd hc (List.append_cancel_right e3))
end Go.Proofs.YtggdfgdnpicepaaDoor.P32
