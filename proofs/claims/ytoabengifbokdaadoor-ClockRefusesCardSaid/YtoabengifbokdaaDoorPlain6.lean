/- Plain mathematics of times of day (chapter 6): the last rune of a string; what a string is read as, what a time of day is printed as. -/
import Derived.Test.YtoabengifbokdaaDoorPlain4f
import Derived.Laws.RangeAny
namespace Go.Proofs.YtoabengifbokdaaDoor.P6
open Go.Proofs.YtoabengifbokdaaDoor

/-- the byte at a place, as a number -/
abbrev byt (s : ByteArray) (q : Nat) : Nat := (s.get! q).toNat
theorem byt_get (s : ByteArray) (q : Nat) (h : q < s.size) : byt s q = (s[q]'h).toNat := by
  show (s.get! q).toNat = _
  simp [ByteArray.get!, getElem!_pos, h]
  rfl
/-- a rune's last byte -/
theorem dec_end (s : ByteArray) (q : Nat) (h : q < s.size) (hb : 128 ≤ byt s q) : q + (Utf8.decode s q).2 ≤ s.size ∧ 128 ≤ byt s (q + (Utf8.decode s q).2 - 1) := by
  have h0 : q + 1 ≤ s.size ∧ 128 ≤ byt s (q + 1 - 1) := ⟨h, hb⟩
  have hb' : ¬ (s.get! (q + 0)).toNat < 128 := by
    have : 128 ≤ (s.get! (q + 0)).toNat := hb
    omega
  unfold Utf8.decode
  simp only [Bool.and_eq_true, decide_eq_true_eq, beq_iff_eq]
  rw [if_neg hb']
  split
  · rename_i h1
    split
    · refine ⟨by omega, ?_⟩
      have := h1.2.2
      show 128 ≤ (s.get! (q + 1)).toNat
      omega
    · exact h0
  · split
    · rename_i h1
      split
      · refine ⟨by omega, ?_⟩
        have := h1.2.2
        show 128 ≤ (s.get! (q + 2)).toNat
        omega
      · exact h0
    · split
      · rename_i h1
        split
        · refine ⟨by omega, ?_⟩
          have := h1.2.2
          show 128 ≤ (s.get! (q + 3)).toNat
          omega
        · exact h0
      · exact h0
/-- what the range over a string has met so far: the last rune's place and the rune -/
def Met (s : ByteArray) (pos : Nat) (at' last : Int) : Prop :=
  (pos = 0 ∧ at' = 0 ∧ last = 0) ∨
  ∃ q : Nat, q < pos ∧ pos ≤ s.size ∧ at' = (q : Int) ∧ 0 ≤ last ∧ last ≤ 2147483647 ∧ (last < 128 → pos = q + 1 ∧ last = (byt s q : Int)) ∧ (128 ≤ last → 128 ≤ byt s (pos - 1))
theorem Met.step (s : ByteArray) (pos : Nat) (h : pos < s.size) : Met s (pos + (Utf8.decode s pos).2) (pos : Int) ((Utf8.decode s pos).1 : Int) ∧ pos + (Utf8.decode s pos).2 ≤ s.size ∧ pos < pos + (Utf8.decode s pos).2 := by
  by_cases hb : byt s pos < 128
  · have hb2 := hb
    rw [byt_get s pos h] at hb2
    rw [decode_ascii s pos h hb2]
    refine ⟨.inr ⟨pos, by simp, h, rfl, by simp, by simp; omega, fun _ => ⟨rfl, by rw [byt_get s pos h]⟩, fun q => ?_⟩, h, by simp⟩
    simp only at q
    omega
  · have hb1 : 128 ≤ byt s pos := by omega
    have hb2 := hb1
    rw [byt_get s pos h] at hb2
    have hh := decode_high s pos h hb2
    have hl := decode_le s pos
    have he := dec_end s pos h hb1
    exact ⟨.inr ⟨pos, by omega, he.1, rfl, by omega, by omega, fun q => by omega, fun _ => he.2⟩, he.1, by omega⟩
theorem Met.bd {s : ByteArray} {pos : Nat} {a l : Int} (h : Met s pos a l) (hs : s.size ≤ 1000000) : 0 ≤ a ∧ a ≤ 1000000 ∧ 0 ≤ l ∧ l ≤ 2147483647 := by
  rcases h with ⟨_, rfl, rfl⟩ | ⟨q, h1, h2, rfl, h3, h4, _⟩
  · omega
  · omega
theorem Met.fin {s : ByteArray} {a l : Int} (h : Met s s.size a l) : (s.size = 0 ∧ a = 0 ∧ l = 0) ∨ (0 < s.size ∧ byt s (s.size - 1) < 128 ∧ a = ((s.size - 1 : Nat) : Int) ∧ l = (byt s (s.size - 1) : Int)) ∨ (0 < s.size ∧ 128 ≤ byt s (s.size - 1) ∧ 128 ≤ l) := by
  rcases h with ⟨h0, rfl, rfl⟩ | ⟨q, h1, h2, rfl, h3, h4, h5, h6⟩
  · exact .inl ⟨h0, rfl, rfl⟩
  · refine .inr ?_
    by_cases hl : l < 128
    · obtain ⟨e1, e2⟩ := h5 hl
      have e3 : q = s.size - 1 := by omega
      subst e3
      exact .inl ⟨by omega, by omega, rfl, e2⟩
    · exact .inr ⟨by omega, h6 (by omega), by omega⟩
/-- the base of a letter; -1: it is none -/
def base (c : Int) : Int := if c = 119 then 0 else if c = 115 then 1 else if c = 117 ∨ c = 103 ∨ c = 122 then 2 else -1
/-- the letter of a string's last byte counts -/
def lettered (s : ByteArray) : Bool := decide (0 < s.size ∧ 0 ≤ base (byt s (s.size - 1)))
/-- what stands in front of the letter -/
def front (s : ByteArray) : ByteArray := if lettered s then s.extract 0 (s.size - 1) else s
def cbase (s : ByteArray) : Int := if lettered s then base (byt s (s.size - 1)) else 0
theorem base_bd (c : Int) : -1 ≤ base c ∧ base c ≤ 2 := by
  unfold base
  split
  · omega
  · split
    · omega
    · split <;> omega
theorem cbase_bd (s : ByteArray) : 0 ≤ cbase s ∧ cbase s ≤ 2 := by
  unfold cbase lettered
  by_cases h : 0 < s.size ∧ 0 ≤ base (byt s (s.size - 1))
  · rw [if_pos (decide_eq_true h)]
    exact ⟨h.2, (base_bd _).2⟩
  · rw [if_neg (by simpa using h)]; omega
theorem front_size (s : ByteArray) : (front s).size ≤ s.size := by
  unfold front
  split
  · rw [ByteArray.size_extract]; omega
  · exact Nat.le_refl _
/-- the letters, in their order, and their bases -/
def letL : Nat → Int
  | 0 => 119 | 1 => 115 | 2 => 117 | 3 => 103 | _ => 122
def basL : Nat → Int
  | 0 => 0 | 1 => 1 | _ => 2
theorem letL_bd (k : Nat) : 100 ≤ letL k ∧ letL k ≤ 122 := by
  unfold letL; split <;> omega
theorem basL_bd (k : Nat) : 0 ≤ basL k ∧ basL k ≤ 2 := by
  unfold basL; split <;> omega
theorem base_letL (k : Nat) (hk : k < 5) : base (letL k) = basL k := by
  match k, hk with
  | 0, _ => rfl
  | 1, _ => rfl
  | 2, _ => rfl
  | 3, _ => rfl
  | 4, _ => rfl
/-- the letter is found -/
theorem cut_hit {s : ByteArray} {a l : Int} (h : Met s s.size a l) (k : Nat) (hk : k < 5) (e : letL k = l) : 0 < s.size ∧ a = ((s.size - 1 : Nat) : Int) ∧ front s = s.extract 0 (s.size - 1) ∧ cbase s = basL k := by
  have hb := letL_bd k
  rcases h.fin with ⟨_, _, h0⟩ | ⟨h1, h2, h3, h4⟩ | ⟨h1, h2, h3⟩
  · omega
  · have hl : lettered s = true := by
      unfold lettered
      rw [decide_eq_true_eq]
      refine ⟨h1, ?_⟩
      rw [← h4, ← e, base_letL k hk]
      exact (basL_bd k).1
    refine ⟨h1, h3, if_pos hl, ?_⟩
    unfold cbase
    rw [if_pos hl, ← h4, ← e, base_letL k hk]
  · omega
theorem base_none {l : Int} (h : ∀ k, k < 5 → letL k ≠ l) : base l = -1 := by
  have h0 : (119 : Int) ≠ l := h 0 (by decide)
  have h1 : (115 : Int) ≠ l := h 1 (by decide)
  have h2 : (117 : Int) ≠ l := h 2 (by decide)
  have h3 : (103 : Int) ≠ l := h 3 (by decide)
  have h4 : (122 : Int) ≠ l := h 4 (by decide)
  unfold base
  rw [if_neg (Ne.symm h0), if_neg (Ne.symm h1), if_neg (by omega)]
theorem base_high {l : Int} (h : 128 ≤ l) : base l = -1 := by
  unfold base
  rw [if_neg (by omega), if_neg (by omega), if_neg (by omega)]
/-- no letter is found -/
theorem cut_miss {s : ByteArray} {a l : Int} (h : Met s s.size a l) (hn : ∀ k, k < 5 → letL k ≠ l) : front s = s ∧ cbase s = 0 := by
  have hl : lettered s = false := by
    unfold lettered
    rw [decide_eq_false_iff_not]
    rintro ⟨p1, p2⟩
    rcases h.fin with ⟨h0, _, _⟩ | ⟨h1, h2, h3, h4⟩ | ⟨h1, h2, h3⟩
    · omega
    · rw [← h4, base_none hn] at p2; omega
    · rw [base_high (by omega)] at p2; omega
  unfold front cbase
  rw [hl]
  exact ⟨if_neg (by decide), if_neg (by decide)⟩
end Go.Proofs.YtoabengifbokdaaDoor.P6
