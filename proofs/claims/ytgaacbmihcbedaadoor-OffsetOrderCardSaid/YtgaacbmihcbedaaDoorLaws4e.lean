/- The walk of the law OffsetOrder (chapter 4). -/
import Derived.Test.YtgaacbmihcbedaaDoorWorks4
import Derived.Test.YtgaacbmihcbedaaDoorPlain4g
import Derived.OpenShut
namespace Go.Proofs.YtgaacbmihcbedaaDoor
open Go.RowKit
set_option linter.unusedVariables false

theorem colon_any (S : List UInt8) (W : World) : Calls Tryd.prog 21 #[.string (str S), .string ⟨#[58]⟩] W fun e w' => e = .returned (.int .i64 (Lib.indexByte S 58)) ∧ w' = W :=
  Any.strings_Index_one { Tryd.laysM143 with } (str S) 58 W

set_option maxRecDepth 100000 in
set_option maxHeartbeats 4000000 in
theorem order_walk (m n X Y a b : Int) (S T : List UInt8) (w : World) (hm0 : 0 ≤ m) (hm1 : m ≤ 4294967295) (hn0 : 0 ≤ n) (hn1 : n ≤ 4294967295) (hX : m % 604800 = X) (hY : n % 604800 = Y) (hv : Vars w)
    (hx0 : 0 ≤ X) (hx1 : X ≤ 604799) (hy0 : 0 ≤ Y) (hy1 : Y ≤ 604799) (hSs : (str S).size ≤ 20) (hTs : (str T).size ≤ 20)
    (c1 : Hid (∀ W, Vars W → Calls Tryd.prog 19 #[.int .i64 X] W fun e w' => e = .returned (.tuple #[.string (str S), .int .i64 0]) ∧ Below W.heap.size W w'))
    (c2 : Hid (∀ W, Vars W → Calls Tryd.prog 19 #[.int .i64 Y] W fun e w' => e = .returned (.tuple #[.string (str T), .int .i64 0]) ∧ Below W.heap.size W w'))
    (c3 : Hid (∀ W, Calls Tryd.prog 21 #[.string (str S), .string ⟨#[58]⟩] W fun e w' => e = .returned (.int .i64 a) ∧ w' = W))
    (c4 : Hid (∀ W, Calls Tryd.prog 21 #[.string (str T), .string ⟨#[58]⟩] W fun e w' => e = .returned (.int .i64 b) ∧ w' = W))
    (hE : (((str S).toList == (str T).toList) = true ∧ (X == Y) = true) ∨ (((str S).toList == (str T).toList) = false ∧ (X == Y) = false))
    (hC : (((str S).size : Int) == ((str T).size : Int)) = false ∨ (((str S).size : Int) == ((str T).size : Int)) = true ∧ (a == b) = false ∨
      (((str S).size : Int) == ((str T).size : Int)) = true ∧ (a == b) = true ∧ (Op.bytesLess (str S).toList (str T).toList = true ∧ decide (X < Y) = true ∨ Op.bytesLess (str S).toList (str T).toList = false ∧ decide (X < Y) = false)) :
    Calls Tryd.prog 8 #[.int .u32 m, .int .u32 n] w fun e w' => e = .returned (.bool true) ∧ Below w.heap.size w w' := by
  rcases hE with ⟨hE1, hE2⟩ | ⟨hE1, hE2⟩
  all_goals rcases hC with hC1 | ⟨hC1, hC2⟩ | ⟨hC1, hC2, ⟨hC3, hC4⟩ | ⟨hC3, hC4⟩⟩
  -- the cases: the strings' and the amounts' equality, lengths, places of the colon, order
  · go_enter Tryd.func8, Tryd.ntmps8
    go_wp2_with fail
    refine (c1.out _ hv).mono ?_
    rintro e w1 ⟨rfl, hb1⟩
    have hv1 := hv.below hb1
    go_wp2_with fail
    refine (c2.out _ hv1).mono ?_
    rintro e w2 ⟨rfl, hc2⟩
    have hb2 := hb1.trans (hc2.mono hb1.size)
    have hv2 := hv.below hb2
    go_wp2_with fail
    refine (works4_any _ hv2).mono ?_
    rintro e w6 ⟨rfl, hc6⟩
    have hb6 := hb2.trans (hc6.mono hb2.size)
    go_wp2_with fail
    go_ret
    exact ⟨rfl, hb6⟩
  · go_enter Tryd.func8, Tryd.ntmps8
    go_wp2_with fail
    refine (c1.out _ hv).mono ?_
    rintro e w1 ⟨rfl, hb1⟩
    have hv1 := hv.below hb1
    go_wp2_with fail
    refine (c2.out _ hv1).mono ?_
    rintro e w2 ⟨rfl, hc2⟩
    have hb2 := hb1.trans (hc2.mono hb1.size)
    have hv2 := hv.below hb2
    go_wp2_with fail
    refine (c3.out _).mono ?_
    rintro e w3 ⟨rfl, rfl⟩
    go_wp2_with fail
    refine (c4.out _).mono ?_
    rintro e w4 ⟨rfl, rfl⟩
    go_wp2_with fail
    refine (works4_any _ hv2).mono ?_
    rintro e w6 ⟨rfl, hc6⟩
    have hb6 := hb2.trans (hc6.mono hb2.size)
    go_wp2_with fail
    go_ret
    exact ⟨rfl, hb6⟩
  · go_enter Tryd.func8, Tryd.ntmps8
    go_wp2_with fail
    refine (c1.out _ hv).mono ?_
    rintro e w1 ⟨rfl, hb1⟩
    have hv1 := hv.below hb1
    go_wp2_with fail
    refine (c2.out _ hv1).mono ?_
    rintro e w2 ⟨rfl, hc2⟩
    have hb2 := hb1.trans (hc2.mono hb1.size)
    have hv2 := hv.below hb2
    go_wp2_with fail
    refine (c3.out _).mono ?_
    rintro e w3 ⟨rfl, rfl⟩
    go_wp2_with fail
    refine (c4.out _).mono ?_
    rintro e w4 ⟨rfl, rfl⟩
    go_wp2_with fail
    refine (works4_any _ hv2).mono ?_
    rintro e w6 ⟨rfl, hc6⟩
    have hb6 := hb2.trans (hc6.mono hb2.size)
    go_wp2_with fail
    go_ret
    exact ⟨rfl, hb6⟩
  · go_enter Tryd.func8, Tryd.ntmps8
    go_wp2_with fail
    refine (c1.out _ hv).mono ?_
    rintro e w1 ⟨rfl, hb1⟩
    have hv1 := hv.below hb1
    go_wp2_with fail
    refine (c2.out _ hv1).mono ?_
    rintro e w2 ⟨rfl, hc2⟩
    have hb2 := hb1.trans (hc2.mono hb1.size)
    have hv2 := hv.below hb2
    go_wp2_with fail
    refine (c3.out _).mono ?_
    rintro e w3 ⟨rfl, rfl⟩
    go_wp2_with fail
    refine (c4.out _).mono ?_
    rintro e w4 ⟨rfl, rfl⟩
    go_wp2_with fail
    refine (works4_any _ hv2).mono ?_
    rintro e w6 ⟨rfl, hc6⟩
    have hb6 := hb2.trans (hc6.mono hb2.size)
    go_wp2_with fail
    go_ret
    exact ⟨rfl, hb6⟩
  · go_enter Tryd.func8, Tryd.ntmps8
    go_wp2_with fail
    refine (c1.out _ hv).mono ?_
    rintro e w1 ⟨rfl, hb1⟩
    have hv1 := hv.below hb1
    go_wp2_with fail
    refine (c2.out _ hv1).mono ?_
    rintro e w2 ⟨rfl, hc2⟩
    have hb2 := hb1.trans (hc2.mono hb1.size)
    have hv2 := hv.below hb2
    go_wp2_with fail
    refine (works4_any _ hv2).mono ?_
    rintro e w6 ⟨rfl, hc6⟩
    have hb6 := hb2.trans (hc6.mono hb2.size)
    go_wp2_with fail
    go_ret
    exact ⟨rfl, hb6⟩
  · go_enter Tryd.func8, Tryd.ntmps8
    go_wp2_with fail
    refine (c1.out _ hv).mono ?_
    rintro e w1 ⟨rfl, hb1⟩
    have hv1 := hv.below hb1
    go_wp2_with fail
    refine (c2.out _ hv1).mono ?_
    rintro e w2 ⟨rfl, hc2⟩
    have hb2 := hb1.trans (hc2.mono hb1.size)
    have hv2 := hv.below hb2
    go_wp2_with fail
    refine (c3.out _).mono ?_
    rintro e w3 ⟨rfl, rfl⟩
    go_wp2_with fail
    refine (c4.out _).mono ?_
    rintro e w4 ⟨rfl, rfl⟩
    go_wp2_with fail
    refine (works4_any _ hv2).mono ?_
    rintro e w6 ⟨rfl, hc6⟩
    have hb6 := hb2.trans (hc6.mono hb2.size)
    go_wp2_with fail
    go_ret
    exact ⟨rfl, hb6⟩
  · go_enter Tryd.func8, Tryd.ntmps8
    go_wp2_with fail
    refine (c1.out _ hv).mono ?_
    rintro e w1 ⟨rfl, hb1⟩
    have hv1 := hv.below hb1
    go_wp2_with fail
    refine (c2.out _ hv1).mono ?_
    rintro e w2 ⟨rfl, hc2⟩
    have hb2 := hb1.trans (hc2.mono hb1.size)
    have hv2 := hv.below hb2
    go_wp2_with fail
    refine (c3.out _).mono ?_
    rintro e w3 ⟨rfl, rfl⟩
    go_wp2_with fail
    refine (c4.out _).mono ?_
    rintro e w4 ⟨rfl, rfl⟩
    go_wp2_with fail
    refine (works4_any _ hv2).mono ?_
    rintro e w6 ⟨rfl, hc6⟩
    have hb6 := hb2.trans (hc6.mono hb2.size)
    go_wp2_with fail
    go_ret
    exact ⟨rfl, hb6⟩
  · go_enter Tryd.func8, Tryd.ntmps8
    go_wp2_with fail
    refine (c1.out _ hv).mono ?_
    rintro e w1 ⟨rfl, hb1⟩
    have hv1 := hv.below hb1
    go_wp2_with fail
    refine (c2.out _ hv1).mono ?_
    rintro e w2 ⟨rfl, hc2⟩
    have hb2 := hb1.trans (hc2.mono hb1.size)
    have hv2 := hv.below hb2
    go_wp2_with fail
    refine (c3.out _).mono ?_
    rintro e w3 ⟨rfl, rfl⟩
    go_wp2_with fail
    refine (c4.out _).mono ?_
    rintro e w4 ⟨rfl, rfl⟩
    go_wp2_with fail
    refine (works4_any _ hv2).mono ?_
    rintro e w6 ⟨rfl, hc6⟩
    have hb6 := hb2.trans (hc6.mono hb2.size)
    go_wp2_with fail
    go_ret
    exact ⟨rfl, hb6⟩
theorem eq_b (a b : ByteArray) (h : a ≠ b) : (a.toList == b.toList) = false := by
  rw [beq_eq_false_iff_ne]
  intro q
  rw [ByteArray.toList_eq, ByteArray.toList_eq] at q
  exact h (ByteArray.ext (Array.toList_inj.mp q))
theorem less_b (S T : List UInt8) : Op.bytesLess (str S).toList (str T).toList = Op.bytesLess S T := by
  rw [ByteArray.toList_eq, ByteArray.toList_eq]
  rfl
theorem walkOffsetOrder (m n : Int) (w : World) (hm : (Lit.int .u32 m).wf = true) (hn : (Lit.int .u32 n).wf = true) (hv : Vars w) :
    Calls Tryd.prog 8 #[.int .u32 m, .int .u32 n] w fun e w' => e = .returned (.bool true) ∧ Below w.heap.size w w' := by
  have hm2 := bounds_u32 hm
  have hn2 := bounds_u32 hn
  obtain ⟨X, hX⟩ : ∃ X : Nat, m % 604800 = (X : Int) := ⟨(m % 604800).toNat, by omega⟩
  obtain ⟨Y, hY⟩ : ∃ Y : Nat, n % 604800 = (Y : Int) := ⟨(n % 604800).toNat, by omega⟩
  have hX2 : X ≤ 604799 := by omega
  have hY2 : Y ≤ 604799 := by omega
  refine order_walk m n X Y (Lib.indexByte (P4.showN X) 58) (Lib.indexByte (P4.showN Y) 58) (P4.showN X) (P4.showN Y) w hm2.1 hm2.2 hn2.1 hn2.2 hX hY hv (by omega) (by omega) (by omega) (by omega) (show_len X hX2) (show_len Y hY2)
    (fun W h => by have q := print_any (X : Int) W (by omega) (by omega) h; rw [P4.print_nat X hX2] at q; exact q)
    (fun W h => by have q := print_any (Y : Int) W (by omega) (by omega) h; rw [P4.print_nat Y hY2] at q; exact q)
    (fun W => colon_any _ W) (fun W => colon_any _ W) ?_ ?_
  · by_cases h : X = Y
    · subst h
      exact .inl ⟨beq_self_eq_true _, beq_self_eq_true _⟩
    · exact .inr ⟨eq_b _ _ fun q => h (P4.show_inj X Y hX2 hY2 (str_inj q)), by rw [beq_eq_false_iff_ne]; omega⟩
  · by_cases hl : (P4.showN X).length = (P4.showN Y).length
    · refine .inr ?_
      have hL : (((str (P4.showN X)).size : Int) == ((str (P4.showN Y)).size : Int)) = true := by rw [str_size, str_size, hl]; exact beq_self_eq_true _
      by_cases hi : Lib.indexByte (P4.showN X) 58 = Lib.indexByte (P4.showN Y) 58
      · refine .inr ⟨hL, by rw [hi]; exact beq_self_eq_true _, ?_⟩
        rw [less_b, P4.show_less X Y hl hi]
        by_cases h : X < Y
        · exact .inl ⟨decide_eq_true h, decide_eq_true (by omega)⟩
        · exact .inr ⟨decide_eq_false h, decide_eq_false (by omega)⟩
      · exact .inl ⟨hL, by rw [beq_eq_false_iff_ne]; exact hi⟩
    · exact .inl (by rw [beq_eq_false_iff_ne, str_size, str_size]; omega)
end Go.Proofs.YtgaacbmihcbedaaDoor
