/- Plain facts for the law NumericEras (chapter 20): rules that have the save or not; a row of rules that is changed in place. -/
import Derived.Test.YtmgmgdjddimgmaaDoorPlain20e
namespace Go.Proofs.YtmgmgdjddimgmaaDoor
set_option linter.unusedVariables false

/-- a rule with a save, and nothing else -/
def mkQ (x : Int) : RV := ⟨⟨#[]⟩, 0, 0, 0, 0, 0, 0, 0, 0, x, ⟨#[]⟩⟩
/-- the saves by bits -/
def bsv (y : Int) (l : List Bool) : List Int := l.map fun b => bif b then y else 0
def bru (y : Int) (l : List Bool) : List RV := (bsv y l).map mkQ
theorem bru_len (y : Int) (l : List Bool) : (bru y l).length = l.length := by simp [bru, bsv]
theorem svs_bru (y : Int) (l : List Bool) : svs (bru y l) = bsv y l := by unfold svs bru; rw [List.map_map]; exact List.map_id _
theorem bru_snoc (y : Int) (l : List Bool) (b : Bool) : rcells (bru y (l ++ [b])) = rcells (bru y l) ++ (mkQ (bif b then y else 0)).cells := by
  unfold bru bsv
  rw [List.map_append, List.map_append]
  exact rcells_snoc _ _
theorem bru_take (y : Int) (l : List Bool) (k : Nat) (b : Bool) (h : l[k]? = some b) : rcells (bru y (l.take (k + 1))) = rcells (bru y (l.take k)) ++ (mkQ (bif b then y else 0)).cells := by
  rw [List.take_add_one, h]
  exact bru_snoc y (l.take k) b
theorem bru_get (y : Int) (l : List Bool) (k : Nat) (b : Bool) (h : l[k]? = some b) : (bru y l)[k]? = some (mkQ (bif b then y else 0)) := by
  unfold bru bsv
  rw [List.getElem?_map, List.getElem?_map, h]; rfl
/-- the eleven cells of a rule are set in a row of rules -/
theorem rcells_set (r : RV) : ∀ (L : List RV) (k : Nat), k < L.length → ∀ (c0 c1 c2 c3 c4 c5 c6 c7 c8 c9 c10 : Value), r.cells = [c0, c1, c2, c3, c4, c5, c6, c7, c8, c9, c10] →
    (((((((((((rcells L).set (k * 11) c0).set (k * 11 + 1) c1).set (k * 11 + 2) c2).set (k * 11 + 3) c3).set (k * 11 + 4) c4).set (k * 11 + 5) c5).set (k * 11 + 6) c6).set (k * 11 + 7) c7).set (k * 11 + 8) c8).set (k * 11 + 9) c9).set (k * 11 + 10) c10 = rcells (L.set k r)
  | [], k, h, _, _, _, _, _, _, _, _, _, _, _, _ => by simp at h
  | a :: L, 0, _, c0, c1, c2, c3, c4, c5, c6, c7, c8, c9, c10, hc => by
    show _ = r.cells ++ rcells L
    rw [hc]
    rfl
  | a :: L, k + 1, h, c0, c1, c2, c3, c4, c5, c6, c7, c8, c9, c10, hc => by
    have ih := rcells_set r L k (by simpa using h) c0 c1 c2 c3 c4 c5 c6 c7 c8 c9 c10 hc
    show _ = a.cells ++ rcells (L.set k r)
    rw [← ih, Nat.succ_mul]
    rfl
theorem bru_set (y : Int) (l : List Bool) (k : Nat) (b : Bool) : (bru y l).set k (mkQ (bif b then y else 0)) = bru y (l.set k b) := by
  unfold bru bsv
  rw [List.map_set, List.map_set]
theorem perm_swap (l : List Bool) (i j : Nat) (a b : Bool) (hi : l[i]? = some a) (hj : l[j]? = some b) : ((l.set i b).set j a).Perm l := by
  obtain ⟨h1, rfl⟩ := List.getElem?_eq_some_iff.1 hi
  obtain ⟨h2, rfl⟩ := List.getElem?_eq_some_iff.1 hj
  exact List.set_set_perm h1 h2
/-- does a rule have the save? -/
def bany (y : Int) (l : List Bool) : Bool := decide (y ≠ 0) && l.any id
theorem bany_ne (y : Int) (l : List Bool) (h : bany y l = true) : y ≠ 0 := by
  unfold bany at h
  rw [Bool.and_eq_true, decide_eq_true_eq] at h
  exact h.1
theorem bany_take (y : Int) (l : List Bool) (k : Nat) (b : Bool) (h : l[k]? = some b) : bany y (l.take (k + 1)) = (bany y (l.take k) || (b && decide (y ≠ 0))) := by
  unfold bany
  rw [List.take_add_one, h, List.any_append]
  cases decide (y ≠ 0) <;> cases b <;> simp
theorem bany_perm {y : Int} {l m : List Bool} (h : l.Perm m) : bany y l = bany y m := by
  unfold bany
  congr 1
  rw [Bool.eq_iff_iff, List.any_eq_true, List.any_eq_true]
  exact ⟨fun ⟨x, hx, q⟩ => ⟨x, h.mem_iff.1 hx, q⟩, fun ⟨x, hx, q⟩ => ⟨x, h.mem_iff.2 hx, q⟩⟩
theorem ofrom_y (y : Int) (hy : y ≠ 0) : ∀ l : List Bool, P20.otherFrom y (bsv y l) = (y, true)
  | [] => by simp [bsv, P20.otherFrom, hy]
  | b :: l => by
    rw [bsv, List.map_cons, P20.otherFrom]
    have ih := ofrom_y y hy l
    unfold bsv at ih
    cases b with
    | true => rw [if_neg (by simpa using hy), if_neg (by simp)]; simpa using ih
    | false => rw [if_pos (by simp)]; exact ih
theorem other_bsv (y : Int) : ∀ l : List Bool, P20.other (bsv y l) = if bany y l then (y, true) else (0, false)
  | [] => by unfold bsv; rw [P20.other_zero _ (by simp), if_neg (by simp [bany])]
  | b :: l => by
    have ih := other_bsv y l
    unfold P20.other at ih ⊢
    rw [bsv, List.map_cons, P20.otherFrom]
    cases b with
    | false =>
      rw [if_pos (by simp)]
      unfold bsv at ih
      rw [ih]
      simp [bany]
    | true =>
      by_cases hy : y = 0
      · subst hy
        rw [if_pos (by simp)]
        unfold bsv at ih
        rw [ih]
        simp [bany]
      · rw [if_neg (by simpa using hy), if_neg (by simp)]
        have := ofrom_y y hy l
        unfold bsv at this
        rw [show (bif true then y else (0 : Int)) = y from rfl, this, if_pos (by simp [bany, hy])]
/-- what NumericEras wants -/
def wantB (kind x y : Int) (both : Bool) : List UInt8 := if kind = 1 then P20.text (x + y) else if kind = 2 ∧ both = true then P20.text x ++ 47 :: P20.text (x + y) else P20.text x
theorem eras_want (kind x y : Int) (l : List Bool) (k0 : 0 ≤ kind) (k1 : kind ≤ 2) (x0 : -86399 ≤ x) (x1 : x ≤ 86399) (z0 : -86399 ≤ x + y) (z1 : x + y ≤ 86399) : P20.expansion kind x y (bsv y l) = (wantB kind x y (bany y l), 0) := by
  rcases (by omega : kind = 0 ∨ kind = 1 ∨ kind = 2) with rfl | rfl | rfl
  · rw [exp_none, jFrom_one, Int.add_zero, P20.one, if_neg (P20.text_ne x0 x1)]; rfl
  · rw [exp_fixed, jFrom_one, P20.one, if_neg (P20.text_ne z0 z1)]; rfl
  · have ho := other_bsv y l
    cases hb : bany y l with
    | true =>
      rw [hb, if_pos rfl] at ho
      rw [exp_is x y _ (by rw [ho]), ho, jFrom_two, Int.add_zero, P20.both, if_neg (fun q => q.elim (P20.text_ne x0 x1) (P20.text_ne z0 z1))]
      rfl
    | false =>
      rw [hb, if_neg (by decide)] at ho
      rw [exp_isnt x y _ (by rw [ho]), if_neg, jFrom_one, Int.add_zero, P20.one, if_neg (P20.text_ne x0 x1)]
      · rfl
      · rw [List.any_eq_true]
        rintro ⟨r, hr, q⟩
        rw [decide_eq_true_eq] at q
        obtain ⟨b, hb2, rfl⟩ := List.mem_map.1 hr
        cases b with
        | false => exact q (by simp)
        | true =>
          have : bany y l = true := by
            unfold bany
            rw [Bool.and_eq_true, decide_eq_true_eq, List.any_eq_true]
            exact ⟨by simpa using q, true, hb2, rfl⟩
          rw [hb] at this; cases this
theorem bsv_snoc0 (y : Int) (l : List Bool) : bsv y (l ++ [false]) = bsv y l ++ [0] := by simp [bsv]
theorem bany_snoc0 (y : Int) (l : List Bool) : bany y (l ++ [false]) = bany y l := by simp [bany]
end Go.Proofs.YtmgmgdjddimgmaaDoor
