/- Plain facts for the walk of numeric.Text (chapter 20): the parts of an amount, how many are written. -/
import Derived.Test.YtmhciidliicheaaDoorPlain20b
import Derived.Test.YtmhciidliicheaaDoorOwn
namespace Go.Proofs.YtmhciidliicheaaDoor.P20
set_option linter.unusedVariables false
open Go.Proofs.YtmhciidliicheaaDoor

def PL (n : Nat) : List Nat := [n / 3600, n / 60 % 60, n % 60]
def KN (n : Nat) : Nat := if n % 60 ≠ 0 then 3 else if n / 60 % 60 ≠ 0 then 2 else 1
def flat (n k : Nat) : List UInt8 := ((PL n).take k).flatMap P4.two
theorem KN_bd (n : Nat) : 1 ≤ KN n ∧ KN n ≤ 3 := by unfold KN; split <;> (try split) <;> omega
theorem flat_zero (n : Nat) : flat n 0 = [] := rfl
theorem flat_step (n k p : Nat) (h : (PL n)[k]? = some p) : flat n (k + 1) = flat n k ++ P4.two p := by
  unfold flat
  rw [List.take_add_one, h]
  simp
theorem flat_len (n k : Nat) (h : k ≤ 3) : (flat n k).length = 2 * k := by
  match k, h with
  | 0, _ => rfl
  | 1, _ => rfl
  | 2, _ => rfl
  | 3, _ => rfl
theorem flat_all (n : Nat) : flat n (KN n) = textN n := by
  unfold KN textN
  by_cases h : n % 60 = 0
  · rw [if_neg (by omega), if_pos h]
    by_cases h' : n / 60 % 60 = 0
    · rw [if_neg (by omega), if_pos (by omega)]; simp [flat, PL]
    · rw [if_pos h', if_neg (by omega)]; simp [flat, PL]
  · rw [if_pos h, if_neg h, if_neg (by omega)]; simp [flat, PL]
theorem PL_at (n k : Nat) (hn : n ≤ 86399) (hk : k < 3) : ∃ p, (PL n)[k]? = some p ∧ p < 100 := by
  match k, hk with
  | 0, _ => exact ⟨_, rfl, by omega⟩
  | 1, _ => exact ⟨_, rfl, by omega⟩
  | 2, _ => exact ⟨_, rfl, by omega⟩
def arrP (n : Nat) : Array Value := ((PL n).map fun p : Nat => Value.int .i64 (p : Int)).toArray
theorem arrP_eq (n : Nat) : arrP n = #[.int .i64 ((n : Int) / 3600), .int .i64 ((n : Int) / 60 % 60), .int .i64 ((n : Int) % 60)] := rfl
theorem arrP_at (n k p : Nat) (h : (PL n)[k]? = some p) : (arrP n)[k]? = some (.int .i64 (p : Int)) := by
  unfold arrP
  rw [List.getElem?_toArray, List.getElem?_map, h]; rfl
theorem KN_last (n : Nat) (h : KN n ≠ 1) : ∃ p, (PL n)[KN n - 1]? = some p ∧ p ≠ 0 := by
  unfold KN at h ⊢
  by_cases h1 : n % 60 = 0
  · rw [if_neg (by omega)] at h ⊢
    by_cases h2 : n / 60 % 60 = 0
    · rw [if_neg (by omega)] at h; exact absurd rfl h
    · rw [if_pos h2]; exact ⟨_, rfl, h2⟩
  · rw [if_pos h1]; exact ⟨_, rfl, h1⟩
theorem KN_zero (n k : Nat) (h : KN n < k) (h3 : k ≤ 3) : (PL n)[k - 1]? = some 0 := by
  unfold KN at h
  by_cases h1 : n % 60 = 0
  · rw [if_neg (by omega)] at h
    by_cases h2 : n / 60 % 60 = 0
    · rw [if_neg (by omega)] at h
      rcases (by omega : k = 2 ∨ k = 3) with rfl | rfl
      · exact congrArg some h2
      · exact congrArg some h1
    · rw [if_pos h2] at h
      obtain rfl : k = 3 := by omega
      exact congrArg some h1
  · rw [if_pos h1] at h; omega
theorem two_bvs (p : Nat) (hp : p < 100) : bvs (P4.two p) = [.int .u8 (48 + (p : Int) / 10), .int .u8 (48 + (p : Int) % 10)] := by
  have h1 : (UInt8.ofNat (48 + p / 10)).toNat = 48 + p / 10 := by rw [UInt8.toNat_ofNat']; omega
  have h2 : (UInt8.ofNat (48 + p % 10)).toNat = 48 + p % 10 := by rw [UInt8.toNat_ofNat']; omega
  simp only [bvs, P4.two, List.map_cons, List.map_nil, h1, h2]
  rfl
end Go.Proofs.YtmhciidliicheaaDoor.P20
