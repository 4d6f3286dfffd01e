/- Plain mathematics of amounts of time (chapter 4): the forms of an amount's string, with minutes and seconds left out where they are 0. -/
import Derived.Test.YtgaacbmihcbedaaDoorPlain4g
set_option linter.unusedSectionVars false
namespace Go.Proofs.YtgaacbmihcbedaaDoor.P4

/-- what the string with a minus sign is read as -/
def neg (x : Nat) : Int × Int := if x = 0 then (0, 5) else (-(x : Int), 0)
theorem parse_neg_any {t : List UInt8} (x : Nat) (h : amount t = some (x : Int)) (hx : x ≤ 604799) : parse (45 :: t) = neg x := by
  unfold neg
  by_cases h0 : x = 0
  · rw [if_pos h0]
    subst h0
    exact parse_zero (l := 45 :: t) (r := t) rfl rfl (fb_some h) (by rw [fv_some h]; rfl)
  · rw [if_neg h0]
    exact parse_neg h (by omega) (by omega)
theorem plus_of_dig {D : List UInt8} (hD : Dig D) (r : List UInt8) : minusB (D ++ r) = false := by
  unfold minusB
  rw [head_app D r hD.2.1]
  cases D with
  | nil => have := hD.2.1; simp at this
  | cons x D =>
    have := hD.1 x (by simp)
    simp only [List.getElem?_cons_zero]
    rw [beq_eq_false_iff_ne]
    rintro q
    injection q with q
    subst q
    exact absurd this (by decide)
def form3 (D : List UInt8) (m s : Nat) : List UInt8 := D ++ 58 :: two m ++ 58 :: two s
def form2 (D : List UInt8) (m : Nat) : List UInt8 := D ++ 58 :: two m
/-- a form of an amount -/
def Form (x : Nat) (t : List UInt8) : Prop := parse t = ((x : Int), 0) ∧ parse (45 :: t) = neg x ∧ t.length ≤ 10
variable (h m s : Nat) (hh : h < 168) (hm : m < 60) (hs : s < 60)
include hh hm hs
theorem form3_ok : Form (3600 * h + 60 * m + s) (form3 (Lib.decDigits h) m s) := by
  have hD := dec_Dig h (by omega)
  have ha := amount_hms hD m s hm hs
  rw [dec_val _ h (Nat.le_refl _)] at ha
  have ha' : amount (form3 (Lib.decDigits h) m s) = some ((3600 * h + 60 * m + s : Nat) : Int) := by unfold form3; rw [ha]; congr 1
  have hp := plus_of_dig hD (58 :: two m ++ 58 :: two s)
  refine ⟨parse_some (by unfold form3; rw [List.append_assoc]; exact hp) ha' (by omega), parse_neg_any _ ha' (by omega), ?_⟩
  have := hD.2.2.1
  simp only [form3, two, List.length_append, List.length_cons, List.length_nil]
  omega
theorem form2_ok (h0 : s = 0) : Form (3600 * h + 60 * m + s) (form2 (Lib.decDigits h) m) := by
  have hD := dec_Dig h (by omega)
  have ha := amount_hm hD m hm
  rw [dec_val _ h (Nat.le_refl _)] at ha
  have ha' : amount (form2 (Lib.decDigits h) m) = some ((3600 * h + 60 * m + s : Nat) : Int) := by unfold form2; rw [ha]; congr 1; omega
  refine ⟨parse_some (plus_of_dig hD _) ha' (by omega), parse_neg_any _ ha' (by omega), ?_⟩
  have := hD.2.2.1
  simp only [form2, two, List.length_append, List.length_cons, List.length_nil]
  omega
theorem form1_ok (h0 : s = 0) (h1 : m = 0) : Form (3600 * h + 60 * m + s) (Lib.decDigits h) := by
  have hD := dec_Dig h (by omega)
  have ha := amount_h hD
  rw [dec_val _ h (Nat.le_refl _)] at ha
  have ha' : amount (Lib.decDigits h) = some ((3600 * h + 60 * m + s : Nat) : Int) := by rw [ha]; congr 1; omega
  have hp := plus_of_dig hD []
  rw [List.append_nil] at hp
  refine ⟨parse_some hp ha' (by omega), parse_neg_any _ ha' (by omega), ?_⟩
  have := hD.2.2.1
  omega
theorem whole_is : showN (3600 * h + 60 * m + s) = if s = 0 then form2 (Lib.decDigits h) m else form3 (Lib.decDigits h) m s := by
  have e1 : (3600 * h + 60 * m + s) / 3600 = h := by omega
  have e2 : (3600 * h + 60 * m + s) / 60 % 60 = m := by omega
  have e3 : (3600 * h + 60 * m + s) % 60 = s := by omega
  unfold showN
  rw [e1, e2, e3]
  by_cases h0 : s = 0
  · rw [if_pos h0, if_pos h0, List.append_nil]; rfl
  · rw [if_neg h0, if_neg h0]; rfl
theorem whole_colon : Lib.indexByte (showN (3600 * h + 60 * m + s)) 58 = (Lib.decDigits h).length ∧ (showN (3600 * h + 60 * m + s)).take (Lib.decDigits h).length = Lib.decDigits h ∧ (Lib.decDigits h).length + 1 ≤ (showN (3600 * h + 60 * m + s)).length := by
  have e1 : (3600 * h + 60 * m + s) / 3600 = h := by omega
  refine ⟨by rw [show_colon, e1], ?_, ?_⟩
  · rw [show_split, e1, List.take_left]
  · rw [show_split, e1]
    simp only [List.length_append, List.length_cons]
    omega
end Go.Proofs.YtgaacbmihcbedaaDoor.P4
