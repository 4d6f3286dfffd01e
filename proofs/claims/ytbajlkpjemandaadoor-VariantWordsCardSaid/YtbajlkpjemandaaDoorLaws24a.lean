/- The walk of the law VariantWords (chapter 24). -/
import Derived.Test.YtbajlkpjemandaaDoorWork24
import Derived.OpenShut
import Derived.IntWalk
namespace Go.Proofs.YtbajlkpjemandaaDoor
open Go.RowKit Go.Lib
set_option linter.unusedVariables false

set_option maxRecDepth 100000 in
set_option maxHeartbeats 4000000 in
theorem walkVariantWords (n : Int) (s : ByteArray) (w : World) (hn : (Lit.int .i64 n).wf = true) (hs : s.size ≤ maxLen) (hv : Vars24 w) :
    Calls Tryd.prog 10 #[.int .i64 n, .string s] w fun e w' => e = .returned (.bool true) ∧ Below w.heap.size w w' := by
  unfold maxLen at hs
  have hsi : (s.size : Int) ≤ 9223372036854775807 := by omega
  by_cases h1 : 100 < s.size
  · have h1i : (100 : Int) < (s.size : Int) := by omega
    go_enter Tryd.func10, Tryd.ntmps10
    go_wp2_with fail
    refine (works24_any _ hv).mono ?_
    rintro e w1 ⟨rfl, hc1⟩
    have hb2 := hc1
    go_wp2_with fail
    go_ret
    exact ⟨rfl, hb2⟩
  · have h1i : ¬ (100 : Int) < (s.size : Int) := by omega
    have cP1 : Hid (∀ W, Vars24 W → Calls Tryd.prog 39 #[.string s] W fun e w' => e = .returned (.tuple #[.int .i64 (P24.parse (P4.bl s)).1, .int .i64 (P24.parse (P4.bl s)).2]) ∧ Below W.heap.size W w') := fun W h => parse24_any s W h
    have cP2 : Hid (∀ W, Calls Tryd.prog 40 #[.string s] W fun e w' => e = .returned (.tuple #[.int .i64 (P24.parse (P4.bl s)).1, .int .i64 (P24.parse (P4.bl s)).2]) ∧ Below W.heap.size W w') := fun W => (rparse24_any s W).mono fun e w' h => ⟨h.1, h.2 ▸ Below.refl _ _⟩
    have cW1 : Hid (∀ W, Vars24 W → Calls Tryd.prog 41 #[.int .i64 n] W fun e w' => e = .returned (.string (str (P24.word n))) ∧ Below W.heap.size W w') := fun W h => word_any n W h
    have cW2 : Hid (∀ W, Calls Tryd.prog 42 #[.int .i64 n] W fun e w' => e = .returned (.string (str (P24.word n))) ∧ Below W.heap.size W w') := fun W => (rword_any n W).mono fun e w' h => ⟨h.1, h.2 ▸ Below.refl _ _⟩
    generalize P24.parse (P4.bl s) = R at cP1 cP2
    generalize str (P24.word n) = SW at cW1 cW2
    obtain ⟨Ra, Rb⟩ := R
    simp only at cP1 cP2
    go_enter Tryd.func10, Tryd.ntmps10
    go_wp2_with fail
    refine (cP1.out _ hv).mono ?_
    rintro e w1 ⟨rfl, hc1⟩
    have hb2 := hc1
    go_wp2_with fail
    refine (cP2.out _).mono ?_
    rintro e w2 ⟨rfl, hc3⟩
    have hb4 := hb2.trans (hc3.mono hb2.size)
    clear hb2 hc3
    have hv5 := hv.below hb4
    go_wp2_with fail
    refine (cW1.out _ hv5).mono ?_
    clear hv5
    rintro e w3 ⟨rfl, hc6⟩
    have hb7 := hb4.trans (hc6.mono hb4.size)
    clear hb4 hc6
    go_wp2_with fail
    refine (cW2.out _).mono ?_
    rintro e w4 ⟨rfl, hc8⟩
    have hb9 := hb7.trans (hc8.mono hb7.size)
    clear hb7 hc8
    have hv10 := hv.below hb9
    go_wp2_with fail
    refine (works24_any _ hv10).mono ?_
    clear hv10
    rintro e w5 ⟨rfl, hc11⟩
    have hb12 := hb9.trans (hc11.mono hb9.size)
    clear hb9 hc11
    go_wp2_with fail
    go_ret
    exact ⟨rfl, hb12⟩
end Go.Proofs.YtbajlkpjemandaaDoor
