/- The walks of offset.two and offset.Print (chapter 4). -/
import Derived.Test.YtoabengifbokdaaDoorRef4c
import Derived.Test.YtoabengifbokdaaDoorVars4
import Derived.Lib.AppendIntMem
namespace Go.Proofs.YtoabengifbokdaaDoor
open Go.RowKit
set_option linter.unusedVariables false

theorem fmt_any (n : Nat) (w : World) (hn : n ≤ 1000000000) (hv : Vars w) :
    Calls Tryd.prog 27 #[.int .i64 n, .int .i64 10] w fun e w' => e = .returned (.string (str (Lib.decDigits n))) ∧ Below w.heap.size w w' := by
  refine (Tryd.strconv_FormatInt_10 n (by omega) (by omega) w hv.pow).mono ?_
  rintro e w' ⟨rfl, k, os, rfl⟩
  refine ⟨by simp only [Lib.itoa]; rw [if_neg (by omega)]; rfl, Lib.below_grow _ _ (Nat.le_refl _) _ _⟩
set_option maxHeartbeats 400000 in
theorem two_any (n : Nat) (w : World) (hn : n < 100) (hv : Vars w) :
    Calls Tryd.prog 28 #[.int .i64 n] w fun e w' => e = .returned (.string (str (P4.two n))) ∧ Below w.heap.size w w' := by
  have hF : Hid (∀ W, Vars W → Calls Tryd.prog 27 #[.int .i64 n, .int .i64 10] W fun e w' => e = .returned (.string (str (Lib.decDigits n))) ∧ Below W.heap.size W w') := fun W h => fmt_any n W (by omega) h
  have l1 : (str (Lib.decDigits n)).size ≤ 10 := P4.dec_len10 _ (by omega)
  by_cases h : n < 10
  · have he : str [48] ++ str (Lib.decDigits n) = str (P4.two n) := by
      rw [Lib.decDigits, dif_pos h, str_append]
      unfold P4.two
      rw [Nat.div_eq_of_lt h, Nat.mod_eq_of_lt h]; rfl
    have HE := Lib.hid he
    clear he
    go_enter Tryd.func28, Tryd.ntmps28
    go_wp2_with fail
    refine (hF.out _ hv).mono ?_
    rintro e w1 ⟨rfl, hb1⟩
    go_wp2_with fail
    go_ret
    exact ⟨by rw [← HE.out]; rfl, hb1⟩
  · have he : str (Lib.decDigits n) = str (P4.two n) := by
      rw [Lib.decDigits, dif_neg h, Lib.decDigits, dif_pos (by omega)]; rfl
    have HE := Lib.hid he
    clear he
    go_enter Tryd.func28, Tryd.ntmps28
    go_wp2_with fail
    refine (hF.out _ hv).mono ?_
    rintro e w1 ⟨rfl, hb1⟩
    go_wp2_with fail
    go_ret
    exact ⟨by rw [← HE.out]; rfl, hb1⟩

set_option maxRecDepth 100000 in
set_option maxHeartbeats 1000000 in
/-- Print, at a number within the limit: what stands in front of its string, and its amount -/
theorem print_sign (sg : List UInt8) (x : Int) (n : Nat) (w : World) (hn : n ≤ 604799) (hx : (x = n ∧ sg = []) ∨ (x < 0 ∧ x = -(n : Int) ∧ sg = [45])) (hv : Vars w) :
    Calls Tryd.prog 17 #[.int .i64 x] w fun e w' => e = .returned (.tuple #[.string (str (sg ++ P4.showN n)), .int .i64 0]) ∧ Below w.heap.size w w' := by
  have hF : Hid (∀ W, Vars W → Calls Tryd.prog 27 #[.int .i64 ((n : Int) / 3600), .int .i64 10] W fun e w' => e = .returned (.string (str (Lib.decDigits (n / 3600)))) ∧ Below W.heap.size W w') := fun W h => fmt_any (n / 3600) W (by omega) h
  have h2 : Hid (∀ W, Vars W → Calls Tryd.prog 28 #[.int .i64 ((n : Int) / 60 % 60)] W fun e w' => e = .returned (.string (str (P4.two (n / 60 % 60)))) ∧ Below W.heap.size W w') := fun W h => two_any (n / 60 % 60) W (by omega) h
  have h3 : Hid (∀ W, Vars W → Calls Tryd.prog 28 #[.int .i64 ((n : Int) % 60)] W fun e w' => e = .returned (.string (str (P4.two (n % 60)))) ∧ Below W.heap.size W w') := fun W h => two_any (n % 60) W (by omega) h
  have l1 : (str (Lib.decDigits (n / 3600))).size ≤ 10 := P4.dec_len10 _ (by omega)
  have l2 : (str (P4.two (n / 60 % 60))).size ≤ 2 := Nat.le_refl 2
  have l3 : (str (P4.two (n % 60))).size ≤ 2 := Nat.le_refl 2
  have hni : (n : Int) ≤ 604799 := by omega
  by_cases hz : n % 60 = 0
  · have hzb : ((n : Int) % 60 != 0) = false := by rw [bne_eq_false_iff_eq]; omega
    have he : str (Lib.decDigits (n / 3600)) ++ str [58] ++ str (P4.two (n / 60 % 60)) = str (P4.showN n) := by
      simp only [str_append, P4.showN, hz, if_true, List.append_assoc]
      simp
    rcases hx with ⟨rfl, rfl⟩ | ⟨hneg, rfl, rfl⟩
    · have HE := Lib.hid he
      clear he hz
      go_enter Tryd.func17, Tryd.ntmps17
      go_wp2_with fail
      refine (hF.out _ hv).mono ?_
      rintro e w1 ⟨rfl, hb1⟩
      have hv1 := hv.below hb1
      go_wp2_with fail
      refine (h2.out _ hv1).mono ?_
      rintro e w2 ⟨rfl, hb2⟩
      have hb3 := hb1.trans (hb2.mono hb1.size)
      go_wp2_with fail
      go_ret2
      exact ⟨by rw [← HE.out]; rfl, hb3⟩
    · have he : str [45] ++ str (Lib.decDigits (n / 3600)) ++ str [58] ++ str (P4.two (n / 60 % 60)) = str (45 :: P4.showN n) := by
        rw [show (45 :: P4.showN n) = [45] ++ P4.showN n from rfl, ← str_append, ← he]; simp only [str_append, List.append_assoc]
      have HE := Lib.hid he
      clear he hz
      go_enter Tryd.func17, Tryd.ntmps17
      go_wp2_with fail
      refine (hF.out _ hv).mono ?_
      rintro e w1 ⟨rfl, hb1⟩
      have hv1 := hv.below hb1
      go_wp2_with fail
      refine (h2.out _ hv1).mono ?_
      rintro e w2 ⟨rfl, hb2⟩
      have hb3 := hb1.trans (hb2.mono hb1.size)
      go_wp2_with fail
      go_ret2
      exact ⟨by rw [← HE.out]; rfl, hb3⟩
  · have hzb : ((n : Int) % 60 != 0) = true := by rw [bne_iff_ne]; omega
    have he : str (Lib.decDigits (n / 3600)) ++ str [58] ++ str (P4.two (n / 60 % 60)) ++ (str [58] ++ str (P4.two (n % 60))) = str (P4.showN n) := by
      simp only [str_append, P4.showN, if_neg hz, List.append_assoc]
      simp
    rcases hx with ⟨rfl, rfl⟩ | ⟨hneg, rfl, rfl⟩
    · have HE := Lib.hid he
      clear he hz
      go_enter Tryd.func17, Tryd.ntmps17
      go_wp2_with fail
      refine (hF.out _ hv).mono ?_
      rintro e w1 ⟨rfl, hb1⟩
      have hv1 := hv.below hb1
      go_wp2_with fail
      refine (h2.out _ hv1).mono ?_
      rintro e w2 ⟨rfl, hb2⟩
      have hb3 := hb1.trans (hb2.mono hb1.size)
      go_wp2_with fail
      have hv2 := hv1.below hb2
      refine (h3.out _ hv2).mono ?_
      rintro e w3 ⟨rfl, hb4⟩
      have hb5 := hb3.trans (hb4.mono hb3.size)
      go_wp2_with fail
      go_ret2
      exact ⟨by rw [← HE.out]; rfl, hb5⟩
    · have he : str [45] ++ str (Lib.decDigits (n / 3600)) ++ str [58] ++ str (P4.two (n / 60 % 60)) ++ (str [58] ++ str (P4.two (n % 60))) = str (45 :: P4.showN n) := by
        rw [show (45 :: P4.showN n) = [45] ++ P4.showN n from rfl, ← str_append, ← he]; simp only [str_append, List.append_assoc]
      have HE := Lib.hid he
      clear he hz
      go_enter Tryd.func17, Tryd.ntmps17
      go_wp2_with fail
      refine (hF.out _ hv).mono ?_
      rintro e w1 ⟨rfl, hb1⟩
      have hv1 := hv.below hb1
      go_wp2_with fail
      refine (h2.out _ hv1).mono ?_
      rintro e w2 ⟨rfl, hb2⟩
      have hb3 := hb1.trans (hb2.mono hb1.size)
      go_wp2_with fail
      have hv2 := hv1.below hb2
      refine (h3.out _ hv2).mono ?_
      rintro e w3 ⟨rfl, hb4⟩
      have hb5 := hb3.trans (hb4.mono hb3.size)
      go_wp2_with fail
      go_ret2
      exact ⟨by rw [← HE.out]; rfl, hb5⟩

set_option maxHeartbeats 400000 in
/-- Print, at every number -/
theorem print_any (x : Int) (w : World) (hx0 : -9223372036854775808 ≤ x) (hx1 : x ≤ 9223372036854775807) (hv : Vars w) :
    Calls Tryd.prog 17 #[.int .i64 x] w fun e w' => e = .returned (.tuple #[.string (str (P4.print x).1), .int .i64 (P4.print x).2]) ∧ Below w.heap.size w w' := by
  by_cases hr : x < -604799 ∨ 604799 < x
  · have HP := Lib.hid (show P4.print x = ([], 3) from if_pos hr)
    rcases hr with h | h
    · go_enter Tryd.func17, Tryd.ntmps17
      go_wp2
      go_ret2
      exact ⟨by rw [HP.out]; rfl, Below.refl _ _⟩
    · have h' : ¬ x < -604799 := by omega
      go_enter Tryd.func17, Tryd.ntmps17
      go_wp2
      go_ret2
      exact ⟨by rw [HP.out]; rfl, Below.refl _ _⟩
  · by_cases hneg : x < 0
    · have HP : P4.print x = (45 :: P4.showN x.natAbs, 0) := by unfold P4.print; rw [if_neg hr, if_pos hneg]
      rw [HP]
      exact print_sign [45] x x.natAbs w (by omega) (.inr ⟨hneg, by omega, rfl⟩) hv
    · obtain ⟨n, rfl⟩ := Int.eq_ofNat_of_zero_le (by omega : 0 ≤ x)
      have HP : P4.print (n : Int) = (P4.showN n, 0) := by unfold P4.print; rw [if_neg hr, if_neg hneg, Int.toNat_natCast]
      rw [HP]
      exact print_sign [] n n w (by omega) (.inl ⟨rfl, rfl⟩) hv
end Go.Proofs.YtoabengifbokdaaDoor
