/- The examples of chapter 4, as tables, and that they hold of the plain functions. -/
import Derived.Test.YtgaacbmihcbedaaDoorPlain4b
import Derived.Test.YtgaacbmihcbedaaDoorCom
namespace Go.Proofs.YtgaacbmihcbedaaDoor
open Go.RowKit
set_option linter.unusedVariables false

def tabP4 : List (List UInt8 × Int × Int) := [([48], 0, 0), ([49], 3600, 0), ([49, 58, 51, 48], 5400, 0), ([45, 49, 58, 51, 48], -5400, 0), ([48, 58, 48, 48, 58, 48, 49], 1, 0), ([45, 48, 58, 48, 48, 58, 48, 49], -1, 0),
  ([49, 54, 55, 58, 53, 57, 58, 53, 57], 604799, 0), ([49, 54, 56], 0, 3), ([57, 57, 57, 58, 53, 57, 58, 53, 57], 0, 3), ([], 0, 5), ([45], 0, 5), ([45, 48], 0, 5), ([45, 48, 58, 48, 48], 0, 5), ([48, 49], 0, 5), ([49, 58, 53], 0, 5), ([49, 58, 54, 48], 0, 5),
  ([49, 58, 48, 48, 58], 0, 5), ([43, 49], 0, 5), ([49, 48, 48, 48], 0, 5), ([49, 58, 48, 48, 58, 48, 48, 58, 48, 48], 0, 5)]
def arrP4 : Array Value := (tabP4.flatMap fun (s, n, e) => [.string (str s), .int .i64 n, .int .i64 e]).toArray
theorem tabP4_len : tabP4.length = 20 := rfl
theorem tabP4_holds : ∀ x ∈ tabP4, P4.parse x.1 = x.2 ∧ x.1.length ≤ 100 := by decide +kernel
theorem arrP4_at : ∀ k, k < 20 → ∃ x ∈ tabP4, arrP4[k * 3]? = some (.string (str x.1)) ∧ arrP4[k * 3 + 1]? = some (.int .i64 x.2.1) ∧ arrP4[k * 3 + 2]? = some (.int .i64 x.2.2) := by
  intro k hk
  have hm : tabP4[k]'(by rw [tabP4_len]; exact hk) ∈ tabP4 := List.getElem_mem _
  refine ⟨_, hm, ?_⟩
  match k, hk with
  | 0, _ | 1, _ | 2, _ | 3, _ | 4, _ | 5, _ | 6, _ | 7, _ | 8, _ | 9, _ | 10, _ | 11, _ | 12, _ | 13, _ | 14, _ | 15, _ | 16, _ | 17, _ | 18, _ | 19, _ => exact ⟨rfl, rfl, rfl⟩
  | n + 20, h => exact absurd h (by omega)
def tabQ4 : List (Int × List UInt8 × Int) := [(0, [48, 58, 48, 48], 0), (3600, [49, 58, 48, 48], 0), (-5400, [45, 49, 58, 51, 48], 0), (1, [48, 58, 48, 48, 58, 48, 49], 0), (-604799, [45, 49, 54, 55, 58, 53, 57, 58, 53, 57], 0), (604800, [], 3), (-9223372036854775808, [], 3)]
def arrQ4 : Array Value := (tabQ4.flatMap fun (n, s, e) => [.int .i64 n, .string (str s), .int .i64 e]).toArray
theorem tabQ4_len : tabQ4.length = 7 := rfl
theorem showN_small (n : Nat) (h : n < 36000) : P4.showN n = ([UInt8.ofNat (48 + n / 3600)] ++ (58 :: P4.two (n / 60 % 60)) ++ (if n % 60 = 0 then [] else 58 :: P4.two (n % 60))) := by
  rw [P4.showN, Lib.decDigits, dif_pos (by omega)]
theorem tabQ4_holds : ∀ x ∈ tabQ4, P4.print x.1 = x.2 ∧ -9223372036854775808 ≤ x.1 ∧ x.1 ≤ 9223372036854775807 := by
  intro x hx
  simp only [tabQ4, List.mem_cons, List.not_mem_nil, or_false] at hx
  rcases hx with rfl | rfl | rfl | rfl | rfl | rfl | rfl
  · exact ⟨by rw [P4.print, if_neg (by omega), if_neg (by omega), showN_small _ (by decide)]; decide, by decide, by decide⟩
  · exact ⟨by rw [P4.print, if_neg (by omega), if_neg (by omega), showN_small _ (by decide)]; decide, by decide, by decide⟩
  · exact ⟨by rw [P4.print, if_neg (by omega), if_pos (by omega), showN_small _ (by decide)]; decide, by decide, by decide⟩
  · exact ⟨by rw [P4.print, if_neg (by omega), if_neg (by omega), showN_small _ (by decide)]; decide, by decide, by decide⟩
  · refine ⟨?_, by decide, by decide⟩
    rw [P4.print, if_neg (by omega), if_pos (by omega), P4.showN]
    have : Lib.decDigits ((-604799 : Int).natAbs / 3600) = [49, 54, 55] := by
      show Lib.decDigits 167 = _
      rw [Lib.decDigits, dif_neg (by omega), Lib.decDigits, dif_neg (by omega), Lib.decDigits, dif_pos (by omega)]; decide
    rw [this]; decide
  · exact ⟨by rw [P4.print, if_pos (by omega)], by decide, by decide⟩
  · exact ⟨by rw [P4.print, if_pos (by omega)], by decide, by decide⟩
theorem arrQ4_at : ∀ k, k < 7 → ∃ x ∈ tabQ4, arrQ4[k * 3]? = some (.int .i64 x.1) ∧ arrQ4[k * 3 + 1]? = some (.string (str x.2.1)) ∧ arrQ4[k * 3 + 2]? = some (.int .i64 x.2.2) := by
  intro k hk
  have hm : tabQ4[k]'(by rw [tabQ4_len]; exact hk) ∈ tabQ4 := List.getElem_mem _
  refine ⟨_, hm, ?_⟩
  match k, hk with
  | 0, _ | 1, _ | 2, _ | 3, _ | 4, _ | 5, _ | 6, _ => exact ⟨rfl, rfl, rfl⟩
end Go.Proofs.YtgaacbmihcbedaaDoor
