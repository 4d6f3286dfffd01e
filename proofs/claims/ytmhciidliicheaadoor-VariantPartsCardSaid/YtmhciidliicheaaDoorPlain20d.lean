/- Plain facts for the walks of numeric.Parse and of the reference's Parse (chapter 20). -/
import Derived.Test.YtmhciidliicheaaDoorPlain20b
import Derived.Test.YtmhciidliicheaaDoorCom
import Derived.Lib.ParseIntB
namespace Go.Proofs.YtmhciidliicheaaDoor.P20
open Go.Proofs.YtmhciidliicheaaDoor
set_option linter.unusedVariables false

theorem bl_extract (s : ByteArray) (i j : Nat) : P4.bl (s.extract i j) = ((P4.bl s).take j).drop i := by
  simp [P4.bl, ByteArray.data_extract, Array.toList_extract, List.drop_take]
theorem chunk_bl (s : ByteArray) (i j : Nat) (hj : j = i + 2 ∨ (j = s.size ∧ s.size ≤ i + 2)) : P4.bl (s.extract i j) = ((P4.bl s).drop i).take 2 := by
  rw [bl_extract, List.drop_take]
  rcases hj with rfl | ⟨rfl, h⟩
  · rw [Nat.add_sub_cancel_left]
  · have hl := P4.bl_len s
    rw [List.take_of_length_le (by rw [List.length_drop]; omega), List.take_of_length_le (by rw [List.length_drop]; omega)]
/-- strconv.ParseUint of one or two bytes: a number, or what is answered at no byte at all -/
theorem uint8_cases (c : List UInt8) (h : c.length = 1 ∨ c.length = 2) : (∃ u : Nat, Lib.parseUintB 8 c = .ok u ∧ chunk false c = some (u : Int) ∧ u ≤ 99) ∨ (Lib.parseUintB 8 c = Lib.parseUintB 8 [] ∧ chunk false c = none) := by
  match c, h with
  | [a], _ =>
    by_cases ha : 48 ≤ a.toNat ∧ a.toNat ≤ 57
    · refine .inl ⟨a.toNat - 48, ?_, ?_, by omega⟩
      · rw [Lib.parseUintB, if_neg (by simp), Lib.parseUintM, if_pos ha, if_neg (by omega), if_neg (by omega), Lib.parseUintM]
        exact congrArg _ (by omega)
      · unfold chunk
        rw [if_pos ⟨by simp [P4.isD]; exact ha, fun q => by cases q⟩]
        simp only [P4.val, P4.valFrom]
        exact congrArg some (by omega)
    · refine .inr ⟨?_, ?_⟩
      · rw [Lib.parseUintB, if_neg (by simp), Lib.parseUintM, if_neg ha]; rfl
      · unfold chunk
        exact if_neg fun q => ha (by simpa [P4.isD] using q.1)
  | [a, b], _ =>
    by_cases ha : 48 ≤ a.toNat ∧ a.toNat ≤ 57
    · by_cases hb : 48 ≤ b.toNat ∧ b.toNat ≤ 57
      · refine .inl ⟨(a.toNat - 48) * 10 + (b.toNat - 48), ?_, ?_, by omega⟩
        · rw [Lib.parseUintB, if_neg (by simp), Lib.parseUintM, if_pos ha, if_neg (by omega), if_neg (by omega), Lib.parseUintM, if_pos hb, if_neg (by omega), if_neg (by omega), Lib.parseUintM]
          exact congrArg _ (by omega)
        · unfold chunk
          rw [if_pos ⟨by simp [P4.isD]; omega, fun q => by cases q⟩]
          simp only [P4.val, P4.valFrom]
          exact congrArg some (by omega)
      · refine .inr ⟨?_, ?_⟩
        · rw [Lib.parseUintB, if_neg (by simp), Lib.parseUintM, if_pos ha, if_neg (by omega), if_neg (by omega), Lib.parseUintM, if_neg hb]; rfl
        · unfold chunk
          exact if_neg fun q => hb (by have := q.1; simp [P4.isD] at this; omega)
    · refine .inr ⟨?_, ?_⟩
      · rw [Lib.parseUintB, if_neg (by simp), Lib.parseUintM, if_neg ha]; rfl
      · unfold chunk
        exact if_neg fun q => ha (by have := q.1; simp [P4.isD] at this; omega)
/-- a round: one part more -/
theorem pv_go (st : Bool) (u : Int) (us : List Int) (acc : Int) (r : List UInt8) (h : r ≠ []) (v : Int) (hv : chunk st (r.take 2) = some v) : pv st (u :: us) acc r = pv st us (acc + v * u) (r.drop 2) := by
  rw [pv, if_neg h, hv]
theorem pv_stop (st : Bool) (u : Int) (us : List Int) (acc : Int) (r : List UInt8) (h : r ≠ []) (hv : chunk st (r.take 2) = none) : pv st (u :: us) acc r = none := by
  rw [pv, if_neg h, hv]
theorem fin_empty (o : Option Int) : fin [] o = (0, 5) := by
  cases o with
  | none => rfl
  | some x => rw [fin_some, if_neg (by simp)]
theorem fin_eq {s : List UInt8} {acc y : Int} (hs : s ≠ []) (hy : sgn s acc = y) (h : text y = s) : fin s (some acc) = (y, 0) := by
  rw [fin_some, hy, if_pos ⟨hs, h⟩]
theorem fin_ne {s : List UInt8} {acc y : Int} (hy : sgn s acc = y) (h : ¬ text y = s) : fin s (some acc) = (0, 5) := by
  rw [fin_some, hy, if_neg fun q => h q.2]
theorem sgn_minus {s : List UInt8} (acc : Int) (h : Lib.hasPrefix s [45] = true) : sgn s acc = -acc := by
  unfold sgn
  rw [if_pos]
  cases s with
  | nil => simp [Lib.hasPrefix] at h
  | cons a s => simp [Lib.hasPrefix] at h; simp [← h]
theorem sgn_plus {s : List UInt8} (acc : Int) (h : Lib.hasPrefix s [45] = false) : sgn s acc = acc := by
  unfold sgn
  rw [if_neg]
  cases s with
  | nil => simp
  | cons a s =>
    intro q
    simp at q
    subst q
    simp [Lib.hasPrefix] at h
end Go.Proofs.YtmhciidliicheaaDoor.P20
