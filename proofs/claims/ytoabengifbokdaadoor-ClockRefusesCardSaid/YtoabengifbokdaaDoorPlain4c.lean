/- Plain mathematics of chapter 4: one round of the program's way, on strings. -/
import Derived.Test.YtoabengifbokdaaDoorPlain4b
namespace Go.Proofs.YtoabengifbokdaaDoor.P4

/-- what is still to come at the head of round k -/
def stage (mb : Bool) (k : Nat) (p0 p1 p2 : Int) (r : List UInt8) : Int × Int :=
  match k with
  | 0 => from0 mb r
  | 1 => from1 mb p0 r
  | 2 => from2 mb p0 p1 r
  | _ => fin mb (3600 * p0 + 60 * p1 + p2) r
/-- the digits in front of a string, and what is behind them -/
def digS (r : ByteArray) (n : Nat) : ByteArray := r.extract 0 (cnt (bl r) n)
def behS (r : ByteArray) (n : Nat) : ByteArray := r.extract (cnt (bl r) n) r.size
theorem cnt_le (l : List UInt8) (n : Nat) : cnt l n ≤ n := Nat.min_le_left _ _
theorem cnt_len (l : List UInt8) (n : Nat) : cnt l n ≤ l.length := Nat.le_trans (Nat.min_le_right _ _) (List.takeWhile_prefix isD).length_le
theorem dig_size (r : ByteArray) (n : Nat) : (digS r n).size = cnt (bl r) n := by
  have := cnt_len (bl r) n
  rw [bl_len] at this
  unfold digS
  rw [ByteArray.size_extract]
  omega
theorem dig_bl (r : ByteArray) (n : Nat) : bl (digS r n) = (bl r).take (cnt (bl r) n) := by
  unfold digS
  rw [bl, Lib.extract_data]
  simp
theorem beh_bl (r : ByteArray) (n : Nat) : bl (behS r n) = (bl r).drop (cnt (bl r) n) := Lib.extract_to_end _ _
theorem beh_size (r : ByteArray) (n : Nat) : (behS r n).size ≤ r.size := by
  unfold behS
  rw [ByteArray.size_extract]
  omega
theorem dig_all (r : ByteArray) (n : Nat) : ∀ c ∈ bl (digS r n), isD c = true := by
  rw [dig_bl]
  intro c hc
  obtain ⟨i, hi, rfl⟩ := List.mem_iff_getElem.1 hc
  have hlt : i < cnt (bl r) n := by rw [List.length_take] at hi; omega
  refine takeWhile_isD (bl r) i (Nat.lt_of_lt_of_le hlt (Nat.min_le_right _ _)) _ ?_
  rw [List.getElem_take]
  exact List.getElem?_eq_getElem _
theorem dig_zero (r : ByteArray) (n : Nat) (h : (digS r n).size = 0) : digS r n = ⟨#[]⟩ := by
  have hl : bl (digS r n) = [] := List.eq_nil_of_length_eq_zero (by rw [bl_len]; exact h)
  apply ByteArray.ext
  apply Array.ext'
  exact hl
theorem dig_head (r : ByteArray) (n : Nat) (h : 0 < (digS r n).size) : (bl r)[0]? = some ((digS r n)[0]'h) := by
  rw [← bl_get _ 0 h, dig_bl]
  have := dig_size r n
  rw [List.getElem?_take, if_pos (by omega)]
theorem val_dig (r : ByteArray) (n : Nat) (hn : n ≤ 3) : 0 ≤ val (bl (digS r n)) ∧ val (bl (digS r n)) ≤ 999 := by
  rw [dig_bl]
  have hc := cnt_le (bl r) n
  have := val_bd (bl r) (cnt (bl r) n) (by omega) (fun i hi c hg => takeWhile_isD (bl r) i (Nat.lt_of_lt_of_le hi (Nat.min_le_right _ _)) c hg) (cnt_len _ _)
  exact ⟨this.1, this.2.2.1 (by omega)⟩

/-- round 0 -/
theorem st0_bad (mb : Bool) (p0 p1 p2 : Int) (r : ByteArray) (h : (digS r 3).size = 0 ∨ (1 < (digS r 3).size ∧ (bl r)[0]? = some 48)) : stage mb 0 p0 p1 p2 (bl r) = (0, 5) := by
  rw [dig_size] at h
  show from0 mb (bl r) = _
  rw [from0, if_pos h]
theorem st0_ok (mb : Bool) (p0 p1 p2 : Int) (r : ByteArray) (h0 : (digS r 3).size ≠ 0) (h1 : ¬ (1 < (digS r 3).size ∧ (bl r)[0]? = some 48)) : stage mb 0 p0 p1 p2 (bl r) = stage mb 1 (val (bl (digS r 3))) 0 0 (bl (behS r 3)) := by
  rw [dig_size] at h0 h1
  show from0 mb (bl r) = from1 mb _ _
  rw [from0, if_neg (by rintro (a | a); exact h0 a; exact h1 a), dig_bl, beh_bl]
/-- rounds 1 and 2 -/
theorem st_stop (mb : Bool) (k : Nat) (hk : k = 1 ∨ k = 2) (p0 p1 p2 : Int) (h1 : k = 1 → p1 = 0) (h2 : p2 = 0) (l : List UInt8) (h : l = []) : stage mb k p0 p1 p2 l = fin mb (3600 * p0 + 60 * p1 + p2) l := by
  subst h h2
  rcases hk with rfl | rfl
  · rw [h1 rfl]; show from1 mb p0 [] = _; rw [from1, if_pos rfl]; congr 1; omega
  · show from2 mb p0 p1 [] = _; rw [from2, if_pos rfl]; congr 1; omega
theorem st_none (mb : Bool) (k : Nat) (hk : k = 1 ∨ k = 2) (p0 p1 p2 : Int) (l : List UInt8) (h : l ≠ []) (hp : part l = none) : stage mb k p0 p1 p2 l = (0, 5) := by
  rcases hk with rfl | rfl
  · show from1 mb p0 l = _; rw [from1, if_neg h, hp]
  · show from2 mb p0 p1 l = _; rw [from2, if_neg h, hp]
theorem part_colon (l : List UInt8) (h : l[0]? ≠ some 58) : part l = none := by rw [part, if_pos h]
theorem part_bad (r : ByteArray) (h : (digS (r.extract 1 r.size) 2).size ≠ 2 ∨ 59 < val (bl (digS (r.extract 1 r.size) 2))) : part (bl r) = none := by
  unfold part
  split
  · rfl
  · simp only
    rw [← bl_extract1]
    rw [dig_size, dig_bl] at h
    rw [if_pos]
    rcases h with h | h
    · exact .inl h
    · by_cases h2 : cnt (bl (r.extract 1 r.size)) 2 = 2
      · rw [h2] at h; exact .inr h
      · exact .inl h2
theorem part_ok (r : ByteArray) (h58 : (bl r)[0]? = some 58) (h2 : (digS (r.extract 1 r.size) 2).size = 2) (h59 : val (bl (digS (r.extract 1 r.size) 2)) ≤ 59) :
    part (bl r) = some (val (bl (digS (r.extract 1 r.size) 2)), bl (behS (r.extract 1 r.size) 2)) := by
  unfold part
  rw [dig_size] at h2
  rw [if_neg (by simp [h58])]
  simp only
  rw [← bl_extract1]
  rw [dig_bl, h2] at h59
  rw [if_neg (by rintro (a | a); exact a h2; omega), dig_bl, beh_bl, h2]
theorem st1_ok (mb : Bool) (p0 p1 p2 : Int) (l l' : List UInt8) (v : Int) (h : l ≠ []) (hp : part l = some (v, l')) : stage mb 1 p0 p1 p2 l = stage mb 2 p0 v 0 l' := by
  show from1 mb p0 l = from2 mb p0 v l'
  rw [from1, if_neg h, hp]
theorem st2_ok (mb : Bool) (p0 p1 p2 : Int) (l l' : List UInt8) (v : Int) (h : l ≠ []) (hp : part l = some (v, l')) : stage mb 2 p0 p1 p2 l = stage mb 3 p0 p1 v l' := by
  show from2 mb p0 p1 l = fin mb _ l'
  rw [from2, if_neg h, hp]
theorem digS_eq (r : ByteArray) (n : Nat) : digS r n = r.extract 0 (cnt (bl r) n) := rfl
theorem behS_eq (r : ByteArray) (n : Nat) : behS r n = r.extract (cnt (bl r) n) r.size := rfl
theorem stage_zero (mb : Bool) (p0 p1 p2 : Int) (l : List UInt8) : stage mb 0 p0 p1 p2 l = from0 mb l := rfl
theorem stage_three (mb : Bool) (p0 p1 p2 : Int) (l : List UInt8) : stage mb 3 p0 p1 p2 l = fin mb (3600 * p0 + 60 * p1 + p2) l := rfl
attribute [irreducible] digS behS stage
end Go.Proofs.YtoabengifbokdaaDoor.P4
