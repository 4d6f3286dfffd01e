/- Plain mathematics of forms (chapter 24): words, first places, what is not allowed; no program in sight. -/
import Derived.Test.YtmhciidliicheaaDoorPlain21b
import Derived.Test.YtmhciidliicheaaDoorSrc
import Derived.Lib.SlBy
namespace Go.Proofs.YtmhciidliicheaaDoor
set_option linter.unusedVariables false

instance : Inhabited RV := ⟨⟨⟨#[]⟩, 0, 0, 0, 0, 0, 0, 0, 0, 0, ⟨#[]⟩⟩⟩
instance : Inhabited EV := ⟨⟨0, 0, 0, ⟨#[]⟩, ⟨#[]⟩, false, 0, 0, 0, 0, 0, 0, 0⟩⟩
namespace P24
/-- the word of a form -/
def word (n : Int) : List UInt8 := if n = 1 then [118, 97, 110, 103, 117, 97, 114, 100] else if n = 2 then [109, 97, 105, 110] else if n = 3 then [114, 101, 97, 114, 103, 117, 97, 114, 100] else []
/-- the form of a word, and the error's number -/
def parse (s : List UInt8) : Int × Int := if s = word 1 then (1, 0) else if s = word 2 then (2, 0) else if s = word 3 then (3, 0) else (0, 5)
/-- a form's row -/
def neg (n : Int) : Bool := decide (n = 1 ∨ n = 2)
def made (n : Int) : Bool := decide (n = 1)
def num (n : Int) : Bool := decide (n = 2 ∨ n = 3)
def shift (n : Int) : Bool := decide (n = 3)
def row (n : Int) : List Value := [.string (str (word n)), .bool (neg n), .bool (made n), .bool (num n), .bool (shift n)]
def tab : List Value := row 0 ++ row 1 ++ row 2 ++ row 3
def isForm (n : Int) : Bool := decide (1 ≤ n ∧ n ≤ 3)
/-- the place of the first element with a property; -1: there is none -/
def first {α : Type} (p : α → Bool) : List α → Int
  | [] => -1
  | a :: l => if p a = true then 0 else if first p l < 0 then -1 else first p l + 1
theorem first_ge {α : Type} (p : α → Bool) : ∀ l : List α, -1 ≤ first p l ∧ first p l < l.length
  | [] => by simp [first]
  | a :: l => by
    have := first_ge p l
    unfold first
    simp only [List.length_cons]
    split
    · omega
    · split <;> omega
theorem first_from {α : Type} (p : α → Bool) (x : α) : ∀ (l : List α) (i : Nat), Lib.idxByFrom (fun _ y => p y) x l i = if first p l < 0 then -1 else (i : Int) + first p l
  | [], i => by simp [first, Lib.idxByFrom]
  | a :: l, i => by
    have h := first_ge p l
    rw [Lib.idxByFrom, first]
    by_cases hp : p a = true
    · rw [if_pos hp, if_pos hp, if_neg (by omega)]; omega
    · rw [if_neg hp, if_neg hp, first_from p x l (i + 1)]
      by_cases hf : first p l < 0
      · rw [if_pos hf, if_pos hf, if_pos (by omega)]
      · rw [if_neg hf, if_neg hf, if_neg (by omega)]; omega
theorem first_idx {α : Type} (p : α → Bool) (x : α) (l : List α) : Lib.idxBy (fun _ y => p y) l x = first p l := by
  have h := first_ge p l
  unfold Lib.idxBy
  rw [first_from]
  split <;> omega
theorem first_map {α β : Type} (f : β → α) (p : α → Bool) : ∀ l : List β, first (fun b => p (f b)) l = first p (l.map f)
  | [] => rfl
  | b :: l => by rw [first, List.map_cons, first, first_map f p l]
theorem first_none {α : Type} {p : α → Bool} : ∀ {l : List α}, (∀ a ∈ l, p a = false) → first p l = -1
  | [], _ => rfl
  | a :: l, h => by
    rw [first, if_neg (by rw [h a (List.mem_cons_self ..)]; decide), first_none fun b hb => h b (List.mem_cons_of_mem _ hb)]; rfl
theorem first_hit {α : Type} {p : α → Bool} : ∀ {l : List α} {k : Nat} {a : α}, l[k]? = some a → p a = true → (∀ j b, j < k → l[j]? = some b → p b = false) → first p l = k
  | [], k, a, h, _, _ => by simp at h
  | x :: l, 0, a, h, hp, _ => by
    rw [List.getElem?_cons_zero] at h
    injection h with h
    subst h
    rw [first, if_pos hp]; rfl
  | x :: l, k + 1, a, h, hp, hn => by
    rw [List.getElem?_cons_succ] at h
    have ih := first_hit h hp fun j b hj hb => hn (j + 1) b (by omega) (by rw [List.getElem?_cons_succ]; exact hb)
    rw [first, if_neg (by rw [hn 0 x (by omega) rfl]; decide), ih, if_neg (by omega)]
    omega
theorem first_no {α : Type} {p : α → Bool} {l : List α} (h : first p l < 0) : ∀ a ∈ l, p a = false := by
  induction l with
  | nil => intro a ha; simp at ha
  | cons x l ih =>
    rw [first] at h
    by_cases hp : p x = true
    · rw [if_pos hp] at h; omega
    · rw [if_neg hp] at h
      have hf : first p l < 0 := by
        by_cases q : first p l < 0
        · exact q
        · rw [if_neg q] at h; have := first_ge p l; omega
      intro a ha
      rcases List.mem_cons.1 ha with rfl | ha
      · simpa using hp
      · exact ih hf a ha
/-- an era that is not allowed in a form -/
def badE (n : Int) (f : List UInt8) : Bool := (decide (P21.kind f = 4) && !made n) || (decide (P21.kind f = 5) && !num n)
def negR (n : Int) (r : RV) : Bool := decide (r.save < 0) && !neg n
def badV (n : Int) (e : EV) : Bool := badE n (P4.bl e.fmt)
/-- the first zone with such an era, from number i on -/
def zb (n : Int) : List ZV → Int → Option (Int × Int)
  | [], _ => none
  | z :: l, i => if 0 ≤ first (badV n) z.eras then some (i, first (badV n) z.eras) else zb n l (i + 1)
/-- the place and the error's number -/
def check (s : SV) (n : Int) : (Int × Int × Int) × Int :=
  if isForm n = false then ((0, 0, 0), 2)
  else if 0 ≤ first (negR n) s.rules then ((1, first (negR n) s.rules, 0), 17)
  else match zb n s.zones 0 with
    | some (i, k) => ((2, i, k), 17)
    | none => if 0 < s.shifts.length ∧ shift n = false then ((4, 0, 0), 17) else ((0, 0, 0), 0)
theorem zb_skip {n : Int} {L : List ZV} {k : Nat} {z : ZV} (h : L[k]? = some z) (hf : first (badV n) z.eras < 0) : zb n (L.drop k) (k : Int) = zb n (L.drop (k + 1)) ((k + 1 : Nat) : Int) := by
  have hk := (List.getElem?_eq_some_iff.mp h).1
  rw [List.drop_eq_getElem_cons hk, (List.getElem?_eq_some_iff.mp h).2, zb, if_neg (by omega)]
  rfl
theorem zb_hit {n : Int} {L : List ZV} {k : Nat} {z : ZV} (h : L[k]? = some z) (hf : 0 ≤ first (badV n) z.eras) : zb n (L.drop k) (k : Int) = some ((k : Int), first (badV n) z.eras) := by
  have hk := (List.getElem?_eq_some_iff.mp h).1
  rw [List.drop_eq_getElem_cons hk, (List.getElem?_eq_some_iff.mp h).2, zb, if_pos hf]
end P24
end Go.Proofs.YtmhciidliicheaaDoor
