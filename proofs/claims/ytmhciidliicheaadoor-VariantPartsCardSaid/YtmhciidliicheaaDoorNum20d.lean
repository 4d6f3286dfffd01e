/- The walks of the reference's two and Parse (chapter 20). -/
import Derived.Test.YtmhciidliicheaaDoorNum20c
namespace Go.Proofs.YtmhciidliicheaaDoor
open Go.RowKit
set_option linter.unusedVariables false

/-- the number of two digits at a place; -1: there is none -/
def P20.tv (l : List UInt8) (k : Nat) : Int := (P20.chunk true ((l.drop k).take 2)).getD (-1)
theorem tv_short (l : List UInt8) (k : Nat) (h : l.length < k + 2) : P20.tv l k = -1 := by
  unfold P20.tv P20.chunk
  rw [if_neg]
  · rfl
  · rintro ⟨_, q⟩
    have := q rfl
    rw [List.length_take, List.length_drop] at this
    omega
theorem take_two (l : List UInt8) (k : Nat) (a b : UInt8) (ha : l[k]? = some a) (hb : l[k + 1]? = some b) : (l.drop k).take 2 = [a, b] := by
  have h1 : k < l.length := (List.getElem?_eq_some_iff.mp ha).1
  have h2 : k + 1 < l.length := (List.getElem?_eq_some_iff.mp hb).1
  have e1 : l[k] = a := (List.getElem?_eq_some_iff.mp ha).2
  have e2 : l[k + 1] = b := (List.getElem?_eq_some_iff.mp hb).2
  rw [List.drop_eq_getElem_cons h1, List.drop_eq_getElem_cons h2, e1, e2]
  rfl
theorem tv_long (l : List UInt8) (k : Nat) (a b : UInt8) (ha : l[k]? = some a) (hb : l[k + 1]? = some b) :
    P20.tv l k = if 48 ≤ (a.toNat : Int) ∧ (a.toNat : Int) ≤ 57 ∧ 48 ≤ (b.toNat : Int) ∧ (b.toNat : Int) ≤ 57 then 10 * ((a.toNat : Int) - 48) + ((b.toNat : Int) - 48) else -1 := by
  unfold P20.tv P20.chunk
  rw [take_two l k a b ha hb]
  by_cases h : 48 ≤ (a.toNat : Int) ∧ (a.toNat : Int) ≤ 57 ∧ 48 ≤ (b.toNat : Int) ∧ (b.toNat : Int) ≤ 57
  · rw [if_pos h, if_pos]
    · simp only [P4.val, P4.valFrom, Option.getD_some]; omega
    · refine ⟨?_, fun _ => rfl⟩
      simp only [List.all_cons, List.all_nil, Bool.and_true, Bool.and_eq_true, P4.isD, decide_eq_true_eq]
      omega
  · rw [if_neg h, if_neg]
    · rfl
    · rintro ⟨q, _⟩
      simp only [List.all_cons, List.all_nil, Bool.and_true, Bool.and_eq_true, P4.isD, decide_eq_true_eq] at q
      omega
theorem tv_bd (l : List UInt8) (k : Nat) : -1 ≤ P20.tv l k ∧ P20.tv l k ≤ 99 := by
  by_cases h : l.length < k + 2
  · rw [tv_short l k h]; omega
  · rw [tv_long l k l[k] l[k+1] (List.getElem?_eq_getElem (by omega)) (List.getElem?_eq_getElem (by omega))]
    split <;> omega
theorem tv_none {l : List UInt8} {k : Nat} (h : P20.tv l k < 0) : P20.chunk true ((l.drop k).take 2) = none := by
  unfold P20.tv at h
  cases hc : P20.chunk true ((l.drop k).take 2) with
  | none => rfl
  | some v =>
    rw [hc, Option.getD_some] at h
    have hv : 0 ≤ v := by
      have := tv_bd l k
      unfold P20.chunk at hc
      split at hc
      · rename_i hq
        injection hc with hc
        have hl := hq.2 rfl
        match hm : (l.drop k).take 2, hl with
        | [a, b], _ =>
          rw [hm] at hc hq
          simp only [List.all_cons, List.all_nil, Bool.and_true, Bool.and_eq_true, P4.isD, decide_eq_true_eq] at hq
          simp only [P4.val, P4.valFrom] at hc
          omega
      · cases hc
    omega
theorem tv_some {l : List UInt8} {k : Nat} (h : 0 ≤ P20.tv l k) : P20.chunk true ((l.drop k).take 2) = some (P20.tv l k) := by
  unfold P20.tv at h ⊢
  cases hc : P20.chunk true ((l.drop k).take 2) with
  | none => rw [hc, Option.getD_none] at h; omega
  | some v => rfl
theorem first_byte {s : ByteArray} (h : 0 < s.size) : (P4.bl s)[0]? = some (s[0]'h) := P4.bl_get s 0 h
theorem sgn_first {s : ByteArray} (acc : Int) (h : 0 < s.size) : P20.sgn (P4.bl s) acc = if ((s[0]'h).toNat : Int) = 45 then -acc else acc := by
  unfold P20.sgn
  rw [first_byte h]
  by_cases q : ((s[0]'h).toNat : Int) = 45
  · rw [if_pos q, if_pos]
    exact congrArg some (UInt8.toNat_inj.mp (by show _ = 45; omega))
  · rw [if_neg q, if_neg]
    intro e
    injection e with e
    rw [e] at q
    exact q rfl
end Go.Proofs.YtmhciidliicheaaDoor
