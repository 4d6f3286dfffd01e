/- Plain facts for the law NumericDigits (chapter 20): which strings of digits are numbers of offsets. -/
import Derived.Test.YtmgmgdjddimgmaaDoorPlain20
namespace Go.Proofs.YtmgmgdjddimgmaaDoor.P20
open Go.Proofs.YtmgmgdjddimgmaaDoor
set_option linter.unusedVariables false

theorem two_inj {a b : Nat} (ha : a < 100) (hb : b < 100) {r t : List UInt8} (h : P4.two a ++ r = P4.two b ++ t) : a = b ∧ r = t := by
  simp only [P4.two, List.cons_append, List.nil_append, List.cons.injEq] at h
  have e1 := congrArg UInt8.toNat h.1
  have e2 := congrArg UInt8.toNat h.2.1
  rw [UInt8.toNat_ofNat', UInt8.toNat_ofNat'] at e1 e2
  exact ⟨by omega, h.2.2⟩
theorem two_ne (a : Nat) (r : List UInt8) : P4.two a ++ r ≠ [] := by simp [P4.two]
theorem tN2 {V h : Nat} (hV : V ≤ 86399) (hh : h < 100) (e : textN V = P4.two h) : V / 3600 = h ∧ V % 3600 = 0 := by
  unfold textN at e
  rw [List.append_assoc] at e
  have q := two_inj (by omega) hh (e.trans (List.append_nil _).symm)
  refine ⟨q.1, ?_⟩
  by_cases z : V % 3600 = 0
  · exact z
  · rw [if_neg z] at q
    exact absurd q.2 (two_ne _ _)
theorem tN4 {V h m : Nat} (hV : V ≤ 86399) (hh : h < 100) (hm : m < 100) (e : textN V = P4.two h ++ P4.two m) : V / 3600 = h ∧ V / 60 % 60 = m ∧ V % 60 = 0 ∧ V % 3600 ≠ 0 := by
  unfold textN at e
  rw [List.append_assoc] at e
  obtain ⟨q1, q2⟩ := two_inj (by omega) hh e
  by_cases z : V % 3600 = 0
  · rw [if_pos z, if_pos (by omega)] at q2
    exact absurd q2.symm (by simp [P4.two])
  · rw [if_neg z] at q2
    obtain ⟨q3, q4⟩ := two_inj (by omega) hm (q2.trans (List.append_nil _).symm)
    refine ⟨q1, q3, ?_, z⟩
    by_cases z2 : V % 60 = 0
    · exact z2
    · rw [if_neg z2] at q4
      exact absurd q4 (by simp [P4.two])
theorem tN6 {V h m s : Nat} (hV : V ≤ 86399) (hh : h < 100) (hm : m < 100) (hs : s < 100) (e : textN V = P4.two h ++ (P4.two m ++ P4.two s)) : V / 3600 = h ∧ V / 60 % 60 = m ∧ V % 60 = s ∧ s ≠ 0 := by
  unfold textN at e
  rw [List.append_assoc] at e
  obtain ⟨q1, q2⟩ := two_inj (by omega) hh e
  by_cases z : V % 3600 = 0
  · rw [if_pos z, if_pos (by omega)] at q2
    exact absurd q2.symm (by simp [P4.two])
  · rw [if_neg z] at q2
    obtain ⟨q3, q4⟩ := two_inj (by omega) hm q2
    by_cases z2 : V % 60 = 0
    · rw [if_pos z2] at q4
      exact absurd q4.symm (by simp [P4.two])
    · rw [if_neg z2] at q4
      obtain ⟨q5, _⟩ := two_inj (by omega) hs (q4.trans (List.append_nil _).symm |>.trans (by rw [List.append_nil]) |> fun (x : P4.two (V % 60) = P4.two s) => by rw [x] : P4.two (V % 60) ++ [] = P4.two s ++ [])
      exact ⟨q1, q3, q5, by omega⟩
/-- the sign's byte -/
def sgb (b : Bool) : UInt8 := if b then 45 else 43
def sgv (b : Bool) (V : Nat) : Int := if b then -(V : Int) else V
theorem sgn_sgb (b : Bool) (D : List UInt8) (V : Nat) : sgn (sgb b :: D) (V : Int) = sgv b V := by
  cases b
  · exact if_neg (by simp [sgb])
  · exact if_pos (by simp [sgb])
theorem parse_D {b : Bool} {D : List UInt8} {V : Nat} (hp : pv true units 0 D = some (V : Int)) : parse (sgb b :: D) = if text (sgv b V) = sgb b :: D then (sgv b V, 0) else (0, 5) := by
  unfold parse parseB
  rw [show (sgb b :: D).drop 1 = D from rfl, hp, fin_some, sgn_sgb]
  by_cases h : text (sgv b V) = sgb b :: D
  · rw [if_pos ⟨by simp, h⟩, if_pos h]
  · rw [if_neg (fun q => h q.2), if_neg h]
theorem natAbs_sgv (b : Bool) (V : Nat) : (sgv b V).natAbs = V := by cases b <;> simp [sgv]
theorem text_D {b : Bool} {D : List UInt8} {V : Nat} : text (sgv b V) = sgb b :: D ↔ V ≤ 86399 ∧ textN V = D ∧ (b = true → V ≠ 0) := by
  by_cases hV : V ≤ 86399
  · rw [text_in (by cases b <;> simp [sgv] <;> omega) (by cases b <;> simp [sgv] <;> omega), natAbs_sgv]
    cases b with
    | false =>
      rw [if_neg (by simp [sgv])]
      simp [sgb, hV]
    | true =>
      by_cases hz : V = 0
      · subst hz
        rw [if_neg (by simp [sgv])]
        simp [sgb]
      · rw [if_pos (by simp [sgv]; omega)]
        simp [sgb, hV, hz]
  · rw [text_out (by cases b <;> simp [sgv] <;> omega)]
    simp [hV]
theorem d0 (b : Bool) (h : Nat) (hh : h < 100) : parse (sgb b :: P4.two h) = if h < 24 ∧ (h ≠ 0 ∨ b = false) then (sgv b (3600 * h), 0) else (0, 5) := by
  rw [parse_D (V := 3600 * h) (by rw [pv_h true h hh]; rfl)]
  by_cases c : h < 24 ∧ (h ≠ 0 ∨ b = false)
  · rw [if_pos c, if_pos]
    rw [text_D]
    refine ⟨by omega, ?_, fun hb => by rcases c.2 with q | q; omega; rw [hb] at q; cases q⟩
    unfold textN
    rw [if_pos (by omega), if_pos (by omega), show 3600 * h / 3600 = h by omega]; simp
  · rw [if_neg c, if_neg]
    rw [text_D]
    rintro ⟨q1, q2, q3⟩
    refine c ⟨by omega, ?_⟩
    cases b with
    | false => exact .inr rfl
    | true => exact .inl (by have := q3 rfl; omega)
theorem d1 (b : Bool) (h m : Nat) (hh : h < 100) (hm : m < 100) : parse (sgb b :: (P4.two h ++ P4.two m)) = if h < 24 ∧ m < 60 ∧ m ≠ 0 then (sgv b (3600 * h + 60 * m), 0) else (0, 5) := by
  rw [parse_D (V := 3600 * h + 60 * m) (by rw [pv_hm true h m hh hm]; rfl)]
  by_cases c : h < 24 ∧ m < 60 ∧ m ≠ 0
  · rw [if_pos c, if_pos]
    rw [text_D]
    refine ⟨by omega, ?_, fun _ => by omega⟩
    unfold textN
    rw [if_neg (by omega), if_pos (by omega), show (3600 * h + 60 * m) / 3600 = h by omega, show (3600 * h + 60 * m) / 60 % 60 = m by omega]; simp
  · rw [if_neg c, if_neg]
    rw [text_D]
    rintro ⟨q1, q2, q3⟩
    have := tN4 q1 hh hm q2
    exact c ⟨by omega, by omega, by omega⟩
theorem d2 (b : Bool) (h m s : Nat) (hh : h < 100) (hm : m < 100) (hs : s < 100) : parse (sgb b :: (P4.two h ++ (P4.two m ++ P4.two s))) = if h < 24 ∧ m < 60 ∧ s < 60 ∧ s ≠ 0 then (sgv b (3600 * h + 60 * m + s), 0) else (0, 5) := by
  rw [parse_D (V := 3600 * h + 60 * m + s) (by rw [pv_hms true h m s hh hm hs]; rfl)]
  by_cases c : h < 24 ∧ m < 60 ∧ s < 60 ∧ s ≠ 0
  · rw [if_pos c, if_pos]
    rw [text_D]
    refine ⟨by omega, ?_, fun _ => by omega⟩
    unfold textN
    rw [if_neg (by omega), if_neg (by omega), show (3600 * h + 60 * m + s) / 3600 = h by omega, show (3600 * h + 60 * m + s) / 60 % 60 = m by omega, show (3600 * h + 60 * m + s) % 60 = s by omega]; simp
  · rw [if_neg c, if_neg]
    rw [text_D]
    rintro ⟨q1, q2, q3⟩
    have := tN6 q1 hh hm hs q2
    exact c ⟨by omega, by omega, by omega, by omega⟩
end Go.Proofs.YtmgmgdjddimgmaaDoor.P20
