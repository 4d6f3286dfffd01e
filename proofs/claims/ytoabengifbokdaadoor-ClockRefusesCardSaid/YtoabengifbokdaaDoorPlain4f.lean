/- Plain laws of chapter 4: strings that are refused. -/
import Derived.Test.YtoabengifbokdaaDoorPlain4e
namespace Go.Proofs.YtoabengifbokdaaDoor.P4
set_option linter.unusedVariables false

theorem am_front {c : UInt8} (l : List UInt8) (h : isD c = false) : amount (c :: l) = none := am_no (l := c :: l) (k := 0) (by simp [List.takeWhile, h]) (by simp [headB])
theorem am_zeros (n : Nat) (h : n ≤ 604799) : amount (48 :: 48 :: showN n) = none := by
  obtain ⟨k, hk⟩ : ∃ k, ((48 :: 48 :: showN n).takeWhile isD).length = k := ⟨_, rfl⟩
  refine am_no hk ?_
  have h2 : 2 ≤ k := by rw [← hk]; simp only [List.takeWhile, show isD 48 = true from rfl, List.length_cons]; omega
  simp only [headB, decide_eq_false_iff_not]
  rintro ⟨_, _, q⟩
  exact q ⟨by omega, rfl⟩
theorem am_back (n : Nat) (h : n ≤ 604799) (c : UInt8) : amount (showN n ++ [c]) = none := by
  have hD := dec_Dig (n / 3600) (by omega)
  have hlead : ∀ r : List UInt8, ((Lib.decDigits (n / 3600) ++ 58 :: r).takeWhile isD).length = (Lib.decDigits (n / 3600)).length := fun r => lead_app _ _ hD.1 (by intro c hc; simp at hc; subst hc; rfl)
  unfold showN
  generalize Lib.decDigits (n / 3600) = D at *
  by_cases hz : n % 60 = 0
  · rw [if_pos hz, List.append_nil]
    have e : D ++ 58 :: two (n / 60 % 60) ++ [c] = D ++ 58 :: (two (n / 60 % 60) ++ [c]) := by simp
    rw [e]
    have hl : (D ++ 58 :: (two (n / 60 % 60) ++ [c])).length = D.length + 4 := by simp [two]
    by_cases hc : c = 58
    · subst hc
      refine am_np2 (hlead _) (by omega) (by omega) ?_
      have : pr (D ++ 58 :: (two (n / 60 % 60) ++ [58])) (D.length + 4) = -1 := pr_short _ _ (by omega)
      omega
    · refine am_nc2 (hlead _) (by omega) (by omega) ?_
      rw [List.getElem?_append_right (by omega), show D.length + 3 - D.length = 3 by omega]
      intro q
      exact hc (Option.some.inj q)
  · rw [if_neg hz]
    have e : D ++ 58 :: two (n / 60 % 60) ++ 58 :: two (n % 60) ++ [c] = D ++ 58 :: (two (n / 60 % 60) ++ 58 :: two (n % 60) ++ [c]) := by simp
    rw [e]
    have hl : (D ++ 58 :: (two (n / 60 % 60) ++ 58 :: two (n % 60) ++ [c])).length = D.length + 7 := by simp [two]
    exact am_nl (hlead _) (by omega) (by omega) (by omega)
theorem parse_of_none {l : List UInt8} (h : amount (if minusB l then l.drop 1 else l) = none) : parse l = (0, 5) := parse_none rfl (fb_none h)
theorem pf_front (c : UInt8) (l : List UInt8) (hm : c ≠ 45) (h : isD c = false) : parse (c :: l) = (0, 5) := by
  have e : minusB (c :: l) = false := by simp only [minusB, List.getElem?_cons_zero, beq_eq_false_iff_ne]; exact fun q => hm (Option.some.inj q)
  refine parse_of_none ?_
  rw [e]
  exact am_front l h
theorem pf_minus (c : UInt8) (l : List UInt8) (h : isD c = false) : parse (45 :: c :: l) = (0, 5) := parse_of_none (am_front l h)
theorem pf_zeros (n : Nat) (h : n ≤ 604799) : parse (48 :: 48 :: showN n) = (0, 5) := parse_of_none (am_zeros n h)
theorem pf_back (n : Nat) (h : n ≤ 604799) (c : UInt8) : parse (showN n ++ [c]) = (0, 5) := by
  have e : minusB (showN n ++ [c]) = false := by
    simp only [minusB, beq_eq_false_iff_ne]
    intro q
    have hl : 0 < (showN n).length := List.length_pos_iff.2 (show_ne n)
    rw [List.getElem?_append_left hl] at q
    have := show_head n h 45 q
    cases this
  refine parse_of_none ?_
  rw [e]
  exact am_back n h c

/-- too many hours -/
def hun (h : Nat) : List UInt8 := [UInt8.ofNat (48 + h / 100), UInt8.ofNat (48 + h / 10 % 10), UInt8.ofNat (48 + h % 10)]
theorem hun_Dig (h : Nat) (h0 : 100 ≤ h) (h1 : h < 1000) : Dig (hun h) ∧ val (hun h) = h := by
  have e : Lib.decDigits h = hun h := by
    rw [dec_step h (by omega), dec_step (h / 10) (by omega), dec_one (h / 10 / 10) (by omega)]
    simp only [hun, List.cons_append, List.nil_append]
    rw [show h / 10 / 10 = h / 100 by omega]
  rw [← e]
  exact ⟨dec_Dig h h1, dec_val h h (Nat.le_refl _)⟩
theorem hun_minus (h : Nat) (h1 : h < 1000) (r : List UInt8) : minusB (hun h ++ r) = false := by
  simp only [minusB, hun, List.cons_append, List.getElem?_cons_zero, beq_eq_false_iff_ne]
  intro q
  have := congrArg UInt8.toNat (Option.some.inj q)
  rw [toNat_dig _ (by omega)] at this
  simp at this
  omega
theorem far_of {l : List UInt8} {x : Int} (hm : minusB l = false) (h : amount l = some x) (hx : 604799 < x) : parse l = (0, 3) := parse_far (r := l) (by rw [hm]; rfl) (fb_some h) (by rw [fv_some h]; exact hx)
theorem far_h (h : Nat) (h0 : 168 ≤ h) (h1 : h < 1000) : parse (hun h) = (0, 3) := by
  obtain ⟨hD, hv⟩ := hun_Dig h (by omega) h1
  have hm := hun_minus h h1 []
  rw [List.append_nil] at hm
  exact far_of hm (amount_h hD) (by rw [hv]; omega)
theorem far_hm (h : Nat) (h0 : 168 ≤ h) (h1 : h < 1000) : parse (hun h ++ [58, 48, 48]) = (0, 3) := by
  obtain ⟨hD, hv⟩ := hun_Dig h (by omega) h1
  exact far_of (hun_minus h h1 _) (amount_hm hD 0 (by omega)) (by rw [hv]; omega)
theorem far_hms (h : Nat) (h0 : 168 ≤ h) (h1 : h < 1000) : parse (hun h ++ [58, 53, 57, 58, 53, 57]) = (0, 3) := by
  obtain ⟨hD, hv⟩ := hun_Dig h (by omega) h1
  have := amount_hms hD 59 59 (by omega) (by omega)
  rw [List.append_assoc] at this
  exact far_of (hun_minus h h1 _) this (by rw [hv]; omega)
theorem far_minus (h : Nat) (h0 : 168 ≤ h) (h1 : h < 1000) : parse (45 :: hun h) = (0, 3) := by
  obtain ⟨hD, hv⟩ := hun_Dig h (by omega) h1
  exact parse_far (r := hun h) rfl (fb_some (amount_h hD)) (by rw [fv_some (amount_h hD), hv]; omega)
end Go.Proofs.YtoabengifbokdaaDoor.P4
