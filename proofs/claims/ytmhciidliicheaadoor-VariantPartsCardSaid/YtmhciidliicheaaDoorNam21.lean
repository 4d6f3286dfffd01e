/- The walk of name.Abbr: the table of the kinds of bytes, made at each call, and the closure that reads it. -/
import Derived.Test.YtmhciidliicheaaDoorFmt21a
namespace Go.Proofs.YtmhciidliicheaaDoor
open Go.RowKit Go.Lib
set_option linter.unusedVariables false

def kA : Nat → Array Value
  | 0 => Array.replicate 256 (.int .u8 0)
  | k + 1 => ((kA k).setIfInBounds (65 + k) (.int .u8 1)).setIfInBounds (97 + k) (.int .u8 1)
def kD : Nat → Array Value
  | 0 => kA 26
  | k + 1 => (kD k).setIfInBounds (48 + k) (.int .u8 2)
def kAll : Array Value := ((((kD 10).setIfInBounds 95 (.int .u8 4)).setIfInBounds 45 (.int .u8 8)).setIfInBounds 46 (.int .u8 16)).setIfInBounds 43 (.int .u8 16)
def kTab (n : Nat) : Int := if (65 ≤ n ∧ n ≤ 90) ∨ (97 ≤ n ∧ n ≤ 122) then 1 else if 48 ≤ n ∧ n ≤ 57 then 2 else if n = 95 then 4 else if n = 45 then 8 else if n = 46 ∨ n = 43 then 16 else 0
theorem kA_size : ∀ k, (kA k).size = 256
  | 0 => by simp [kA]
  | k + 1 => by rw [kA, Array.size_setIfInBounds, Array.size_setIfInBounds, kA_size k]
theorem kD_size : ∀ k, (kD k).size = 256
  | 0 => kA_size 26
  | k + 1 => by rw [kD, Array.size_setIfInBounds, kD_size k]
theorem kAll_size : kAll.size = 256 := by
  unfold kAll
  rw [Array.size_setIfInBounds, Array.size_setIfInBounds, Array.size_setIfInBounds, Array.size_setIfInBounds, kD_size]
theorem kAll_tab : kAll = (Array.range 256).map fun n => .int .u8 (kTab n) := by kernel_rfl
theorem kAll_at (n : Nat) (h : n < 256) : kAll[n]? = some (.int .u8 (kTab n)) := by
  rw [kAll_tab, Array.getElem?_map, Array.getElem?_range]
  simp [h]
theorem kTab_cases (n : Nat) : (P21.isLr n = true ∧ kTab n = 1) ∨ (P21.isLr n = false ∧ (kTab n = 0 ∨ kTab n = 2 ∨ kTab n = 4 ∨ kTab n = 8 ∨ kTab n = 16)) := by
  unfold P21.isLr kTab
  by_cases h : (65 ≤ n ∧ n ≤ 90) ∨ (97 ≤ n ∧ n ≤ 122)
  · left
    rw [if_pos h]
    simpa using h
  · right
    rw [if_neg h]
    refine ⟨by simp; omega, ?_⟩
    repeat' split
    all_goals simp
theorem kA_one : ∀ k, ∀ v ∈ (kA k).toList, v.oneCell' = true := by
  intro k v hv
  induction k with
  | zero => simp only [kA, Array.toList_replicate, List.mem_replicate] at hv; rw [hv.2]; rfl
  | succ k ih =>
    rw [kA, Array.toList_setIfInBounds, Array.toList_setIfInBounds] at hv
    rcases List.mem_or_eq_of_mem_set hv with hv | rfl
    · rcases List.mem_or_eq_of_mem_set hv with hv | rfl
      · exact ih hv
      · rfl
    · rfl
theorem kAll_one : kAll.all (·.oneCell') = true := by rw [kAll_tab]; kernel_rfl
theorem kA_succ (k : Nat) : kA (k + 1) = ((kA k).setIfInBounds (65 + k) (.int .u8 1)).setIfInBounds (97 + k) (.int .u8 1) := rfl
theorem kD_succ (k : Nat) : kD (k + 1) = (kD k).setIfInBounds (48 + k) (.int .u8 2) := rfl
theorem kD_zero : kD 0 = kA 26 := rfl
theorem kAll_eq : kAll = ((((kD 10).setIfInBounds 95 (.int .u8 4)).setIfInBounds 45 (.int .u8 8)).setIfInBounds 46 (.int .u8 16)).setIfInBounds 43 (.int .u8 16) := rfl
attribute [irreducible] kA kD kAll
end Go.Proofs.YtmhciidliicheaaDoor
