/- The walk of word, the function inside FormatKinds (chapter 21). -/
import Derived.Test.YtmhciidliicheaaDoorPlain21k
import Derived.Test.YtmhciidliicheaaDoorFmt21b
import Derived.Test.YtmhciidliicheaaDoorSlices
namespace Go.Proofs.YtmhciidliicheaaDoor
open Go.RowKit Go.Lib
set_option linter.unusedVariables false

def alphaB : ByteArray := ⟨#[65, 66, 67, 68, 69, 70, 71, 72, 73, 74, 75, 76, 77, 78, 79, 80, 81, 82, 83, 84, 85, 86, 87, 88, 89, 90, 97, 98, 99, 100, 101, 102, 103, 104, 105, 106, 107, 108, 109, 110, 111, 112, 113, 114, 115, 116, 117, 118, 119, 120, 121, 122]⟩
theorem alpha_at : ∀ m : Fin 52, P21.isL (alphaB.data.toList[m.val]?.getD 0) = true ∧ ((alphaB.extract m.val 52).extract 0 1).data.toList = [alphaB.data.toList[m.val]?.getD 0] := by decide +kernel
theorem alpha_is (m : Nat) (hm : m < 52) : ∃ c, P21.isL c = true ∧ (alphaB.extract m 52).extract 0 1 = str [c] := by
  obtain ⟨h1, h2⟩ := alpha_at ⟨m, hm⟩
  refine ⟨_, h1, ?_⟩
  rw [← h2]
  exact (str_bl _).symm
set_option maxRecDepth 100000 in
set_option maxHeartbeats 8000000 in
theorem word21_any (A : Option Addr) (c : Nat) (L : List Int) (w : World) (hl : L.length ≤ maxLen) (hF : CellsIn 1 u8Cell w A L) (hG : ∀ n ∈ L, 0 ≤ n ∧ n ≤ 255) :
    Calls Tryd.prog 24 #[.slice A L.length c] w fun e w' => (∃ x, P21.Wd x ∧ e = .returned (.string (str x))) ∧ w' = w := by
  unfold maxLen at hl
  have hli : (L.length : Int) ≤ 9223372036854775807 := by omega
  have hq : 0 ≤ ((L.length : Int)).tmod 4 ∧ ((L.length : Int)).tmod 4 ≤ 3 := by
    rw [Int.tmod_eq_emod_of_nonneg (by omega)]; omega
  generalize hN : L.length = N at hl hli hq ⊢
  have HN := Lib.hid hN
  clear hN
  obtain ⟨Q4, hQ4⟩ : ∃ Q4, (N : Int).tmod 4 = Q4 := ⟨_, rfl⟩
  rw [hQ4] at hq
  obtain ⟨q0, q3⟩ := hq
  go_enter Tryd.func24, Tryd.ntmps24
  go_wp2_with fail
  clear hQ4
  go_loop [3, 10] (fun s i => ∃ (k : Nat) (xs : List UInt8), (k : Int) ≤ 3 + Q4 ∧ i = .int .i64 (k : Int) ∧ s = .string (str xs) ∧ Hid (xs.length = k ∧ ∀ d ∈ xs, P21.isL d = true)) (fun _ i => 10 - (intOf i).toNat)
  case atStart => exact ⟨0, [], by omega, rfl, rfl, Lib.hid ⟨rfl, fun d hd => by simp at hd⟩⟩
  case round =>
    obtain ⟨k, xs, hk, rfl, rfl, HX⟩ := hrel
    by_cases hlt : (k : Int) < 3 + Q4
    · have hk1 : ((k + 1 : Nat) : Int) ≤ 3 + Q4 := by omega
      have hk6 : (k : Int) ≤ 6 := by omega
      have hxl : xs.length ≤ 10 := by have := HX.out.1; omega
      by_cases h0 : 0 < N
      · have h0i : (0 : Int) < (N : Int) := by omega
        have h0n : ¬ (N : Int) = 0 := by omega
        have hjl : k % N < N := Nat.mod_lt _ h0
        obtain ⟨n, hn⟩ : ∃ n, L[k % N]? = some n := ⟨_, List.getElem?_eq_getElem (by rw [HN.out]; exact hjl)⟩
        obtain ⟨b, o, rfl, hbl, hcc⟩ := hF (k % N) n hn
        have c0 : w.cell? ⟨b, o + k % N, none⟩ = some (.int .u8 n) := by
          have q := hcc 0 _ rfl
          rwa [Nat.mul_one, Nat.add_zero] at q
        obtain ⟨n0, n255⟩ := hG n (List.mem_of_getElem? hn)
        have hm : (n.toNat % 52) < 52 := Nat.mod_lt _ (by decide)
        obtain ⟨d, hd, he⟩ := alpha_is _ hm
        have hcat := cat_run (P := Tryd.prog) xs [d] (by simp; omega)
        have HX2 : Hid ((xs ++ [d]).length = k + 1 ∧ ∀ d' ∈ xs ++ [d], P21.isL d' = true) := Lib.hid ⟨by rw [List.length_append, HX.out.1]; rfl, fun d' h => by
          rw [List.mem_append, List.mem_singleton] at h
          rcases h with h | rfl
          · exact HX.out.2 d' h
          · exact hd⟩
        have e52 : n.tmod 52 = ((n.toNat % 52 : Nat) : Int) := by rw [Int.tmod_eq_emod_of_nonneg n0]; omega
        have eJ : (k : Int).tmod (N : Int) = ((k % N : Nat) : Int) := by rw [Int.tmod_eq_emod_of_nonneg (by omega)]; exact (Int.natCast_emod k N).symm
        have hm2 : ((n.toNat % 52 : Nat) : Int) ≤ 52 := by omega
        have hj2 : ((k % N : Nat) : Int) < (N : Int) := by omega
        clear hcc hn HX hd hxl
        generalize n.toNat % 52 = m at *
        generalize k % N = j at *
        unfold alphaB at he
        generalize hS2 : str (xs ++ [d]) = S2 at hcat
        have HS2 := Lib.hid hS2
        clear hS2
        generalize str xs = S1 at hcat ⊢
        generalize str [d] = SD at hcat he
        go_wp2_with fail
        clear e52 eJ he hcat
        go_round
        case rel => exact ⟨k + 1, xs ++ [d], hk1, by go_num, by rw [HS2.out], HX2⟩
        case measure => simp [intOf]; omega
      · have h0i : ¬ (0 : Int) < (N : Int) := by omega
        obtain ⟨d, hd, he⟩ := alpha_is 0 (by decide)
        have hcat := cat_run (P := Tryd.prog) xs [d] (by simp; omega)
        have HX2 : Hid ((xs ++ [d]).length = k + 1 ∧ ∀ d' ∈ xs ++ [d], P21.isL d' = true) := Lib.hid ⟨by rw [List.length_append, HX.out.1]; rfl, fun d' h => by
          rw [List.mem_append, List.mem_singleton] at h
          rcases h with h | rfl
          · exact HX.out.2 d' h
          · exact hd⟩
        clear HX hd hxl
        unfold alphaB at he
        generalize hS2 : str (xs ++ [d]) = S2 at hcat
        have HS2 := Lib.hid hS2
        clear hS2
        generalize str xs = S1 at hcat ⊢
        generalize str [d] = SD at hcat he
        go_wp2_with fail
        go_round
        case rel => exact ⟨k + 1, xs ++ [d], hk1, by go_num, by rw [HS2.out], HX2⟩
        case measure => simp [intOf]; omega
    · have hW : P21.Wd xs := by
        obtain ⟨a1, a2⟩ := HX.out
        exact ⟨by omega, by omega, a2⟩
      have HW := Lib.hid hW
      clear HX hW
      generalize hS : str xs = S1
      have HS := Lib.hid hS
      clear hS
      go_wp2_with fail
      go_ret
      exact ⟨⟨xs, HW.out, by rw [HS.out]; rfl⟩, rfl⟩
end Go.Proofs.YtmhciidliicheaaDoor
