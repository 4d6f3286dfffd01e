/- The walk of the law OffsetBack (chapter 4). -/
import Derived.Test.YtgaacbmihcbedaaDoorWorks4
import Derived.Test.YtgaacbmihcbedaaDoorPlain4e
import Derived.OpenShut
namespace Go.Proofs.YtgaacbmihcbedaaDoor
open Go.RowKit
set_option linter.unusedVariables false

set_option maxRecDepth 100000 in
set_option maxHeartbeats 2000000 in
theorem walkOffsetBack (n : Int) (w : World) (hn : (Lit.int .u32 n).wf = true) (hv : Vars w) :
    Calls Tryd.prog 5 #[.int .u32 n] w fun e w' => e = .returned (.bool true) ∧ Below w.heap.size w w' := by
  have hn2 := bounds_u32 hn
  clear hn
  obtain ⟨X, hX⟩ : ∃ X : Nat, n % 604800 = (X : Int) := ⟨(n % 604800).toNat, by omega⟩
  have hX2 : X ≤ 604799 := by omega
  have hn0 := hn2.1
  have hn1 := hn2.2
  clear hn2
  by_cases h0 : X = 0
  · subst h0
    have c1 : Hid (∀ W, Vars W → Calls Tryd.prog 19 #[.int .i64 0] W fun e w' => e = .returned (.tuple #[.string (str (P4.showN 0)), .int .i64 0]) ∧ Below W.heap.size W w') := fun W h => by have q := print_any ((0 : Nat) : Int) W (by decide) (by decide) h; rw [P4.print_nat 0 (by decide)] at q; exact q
    have c2 : Hid (∀ W, Vars W → Calls Tryd.prog 17 #[.string (str (P4.showN 0))] W fun e w' => e = .returned (.tuple #[.int .i64 0, .int .i64 0]) ∧ Below W.heap.size W w') := fun W h => by have q := parse_any (str (P4.showN 0)) W (Nat.le_trans (show_len 0 (by decide)) (by decide)) h; simp only [P4.pv, P4.pe, show P4.parse (P4.bl (str (P4.showN 0))) = (((0 : Nat) : Int), 0) from P4.parse_show 0 (by decide)] at q; exact q
    obtain ⟨S, hS⟩ : ∃ S, S = P4.showN 0 := ⟨_, rfl⟩
    have hl : (str S).size ≤ 20 := by rw [hS]; exact show_len 0 (by decide)
    rw [← hS] at c1 c2
    clear hS
    simp only [Int.natCast_zero] at hX
    go_enter Tryd.func5, Tryd.ntmps5
    go_wp2_with fail
    refine (c1.out _ hv).mono ?_
    rintro e w1 ⟨rfl, hc1⟩
    have hb1 := hc1
    have hv1 := hv.below hb1
    go_wp2_with fail
    refine (c2.out _ hv1).mono ?_
    rintro e w2 ⟨rfl, hc2⟩
    have hb2 := hb1.trans (hc2.mono hb1.size)
    have hv2 := hv.below hb2
    go_wp2_with fail
    refine (c1.out _ hv2).mono ?_
    rintro e w3 ⟨rfl, hc3⟩
    have hb3 := hb2.trans (hc3.mono hb2.size)
    have hv3 := hv.below hb3
    go_wp2_with fail
    refine (c1.out _ hv3).mono ?_
    rintro e w4 ⟨rfl, hc4⟩
    have hb4 := hb3.trans (hc4.mono hb3.size)
    have hv4 := hv.below hb4
    go_wp2_with fail
    refine (c2.out _ hv4).mono ?_
    rintro e w5 ⟨rfl, hc5⟩
    have hb5 := hb4.trans (hc5.mono hb4.size)
    have hv5 := hv.below hb5
    go_wp2_with fail
    refine (works4_any _ hv5).mono ?_
    rintro e w6 ⟨rfl, hc6⟩
    have hb6 := hb5.trans (hc6.mono hb5.size)
    have hv6 := hv.below hb6
    go_wp2_with fail
    go_ret
    exact ⟨rfl, hb6⟩
  · have hp : 0 < X := by omega
    have hpi : (0 : Int) < (X : Int) := by omega
    have hz : ((X : Int) == 0) = false := by rw [beq_eq_false_iff_ne]; omega
    have c1 : Hid (∀ W, Vars W → Calls Tryd.prog 19 #[.int .i64 (X : Int)] W fun e w' => e = .returned (.tuple #[.string (str (P4.showN X)), .int .i64 0]) ∧ Below W.heap.size W w') := fun W h => by have q := print_any (X : Int) W (by omega) (by omega) h; rw [P4.print_nat X hX2] at q; exact q
    have c2 : Hid (∀ W, Vars W → Calls Tryd.prog 17 #[.string (str (P4.showN X))] W fun e w' => e = .returned (.tuple #[.int .i64 (X : Int), .int .i64 0]) ∧ Below W.heap.size W w') := fun W h => by have q := parse_any (str (P4.showN X)) W (Nat.le_trans (show_len X hX2) (by decide)) h; simp only [P4.pv, P4.pe, show P4.parse (P4.bl (str (P4.showN X))) = ((X : Int), 0) from P4.parse_show X hX2] at q; exact q
    have c3 : Hid (∀ W, Vars W → Calls Tryd.prog 19 #[.int .i64 (-(X : Int))] W fun e w' => e = .returned (.tuple #[.string (str (45 :: P4.showN X)), .int .i64 0]) ∧ Below W.heap.size W w') := fun W h => by have q := print_any (-(X : Int)) W (by omega) (by omega) h; rw [P4.print_neg X hX2 hp] at q; exact q
    have c4 : Hid (∀ W, Vars W → Calls Tryd.prog 17 #[.string (str (45 :: P4.showN X))] W fun e w' => e = .returned (.tuple #[.int .i64 (-(X : Int)), .int .i64 0]) ∧ Below W.heap.size W w') := fun W h => by have q := parse_any (str (45 :: P4.showN X)) W (by rw [str_size, List.length_cons]; have := show_len X hX2; omega) h; simp only [P4.pv, P4.pe, show P4.parse (P4.bl (str (45 :: P4.showN X))) = (-(X : Int), 0) from P4.parse_negshow X hX2 hp] at q; exact q
    have hl : (str (P4.showN X)).size ≤ 20 := show_len X hX2
    obtain ⟨S, hS⟩ : ∃ S, S = P4.showN X := ⟨_, rfl⟩
    rw [← hS] at c1 c2 c3 c4 hl
    clear hS
    have hE : ByteArray.mk #[45] ++ str S = str (45 :: S) := str_append [45] S
    clear h0
    go_enter Tryd.func5, Tryd.ntmps5
    go_wp2_with fail
    refine (c1.out _ hv).mono ?_
    rintro e w1 ⟨rfl, hc1⟩
    have hb1 := hc1
    have hv1 := hv.below hb1
    go_wp2_with fail
    refine (c2.out _ hv1).mono ?_
    rintro e w2 ⟨rfl, hc2⟩
    have hb2 := hb1.trans (hc2.mono hb1.size)
    have hv2 := hv.below hb2
    go_wp2_with fail
    refine (c1.out _ hv2).mono ?_
    rintro e w3 ⟨rfl, hc3⟩
    have hb3 := hb2.trans (hc3.mono hb2.size)
    have hv3 := hv.below hb3
    go_wp2_with fail
    refine (c3.out _ hv3).mono ?_
    rintro e w4 ⟨rfl, hc4⟩
    have hb4 := hb3.trans (hc4.mono hb3.size)
    have hv4 := hv.below hb4
    go_wp2_with fail
    refine (c4.out _ hv4).mono ?_
    rintro e w5 ⟨rfl, hc5⟩
    have hb5 := hb4.trans (hc5.mono hb4.size)
    have hv5 := hv.below hb5
    go_wp2_with fail
    refine (works4_any _ hv5).mono ?_
    rintro e w6 ⟨rfl, hc6⟩
    have hb6 := hb5.trans (hc6.mono hb5.size)
    have hv6 := hv.below hb6
    go_wp2_with fail
    go_ret
    exact ⟨rfl, hb6⟩
end Go.Proofs.YtgaacbmihcbedaaDoor
