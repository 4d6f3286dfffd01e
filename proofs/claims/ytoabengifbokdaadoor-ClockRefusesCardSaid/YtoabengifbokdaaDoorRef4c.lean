/- The walks of the reference's Decimal, Two and Print (chapter 4): what a number is printed as. -/
import Derived.Test.YtoabengifbokdaaDoorPlain4
import Derived.Test.YtoabengifbokdaaDoorCom
import Derived.Test.YtoabengifbokdaaDoorChecked
namespace Go.Proofs.YtoabengifbokdaaDoor
open Go.RowKit
set_option linter.unusedVariables false

theorem digit_str (n : Nat) (h : n < 10) : (ByteArray.mk #[48, 49, 50, 51, 52, 53, 54, 55, 56, 57]).extract n (n + 1) = str (Lib.decDigits n) := by
  rw [Lib.decDigits, dif_pos h]
  match n, h with
  | 0, _ => rfl
  | 1, _ => rfl
  | 2, _ => rfl
  | 3, _ => rfl
  | 4, _ => rfl
  | 5, _ => rfl
  | 6, _ => rfl
  | 7, _ => rfl
  | 8, _ => rfl
  | 9, _ => rfl

set_option maxHeartbeats 400000 in
theorem decimal_small (n : Nat) (w : World) (hn : n < 10) :
    Calls Tryd.prog 32 #[.int .i64 n] w fun e w' => e = .returned (.string (str (Lib.decDigits n))) ∧ Q w w' := by
  have HD := Lib.hid (digit_str n hn)
  go_enter Tryd.func32, Tryd.ntmps32
  go_wp2_with fail
  go_ret
  exact ⟨by rw [← HD.out]; rfl, Q.refl _⟩

set_option maxHeartbeats 400000 in
theorem decimal_any (k : Nat) : ∀ (n : Nat) (w : World), n ≤ k → n ≤ 1000000000 →
    Calls Tryd.prog 32 #[.int .i64 n] w fun e w' => e = .returned (.string (str (Lib.decDigits n))) ∧ Q w w' := by
  induction k with
  | zero => intro n w h _; exact decimal_small n w (by omega)
  | succ k ih =>
    intro n w h hb
    by_cases hn : n < 10
    · exact decimal_small n w hn
    · have h1 : Hid (∀ W, Calls Tryd.prog 32 #[.int .i64 ((n : Int) / 10)] W fun e w' => e = .returned (.string (str (Lib.decDigits (n / 10)))) ∧ Q W w') := fun W => ih (n / 10) W (by omega) (by omega)
      have h2 : Hid (∀ W, Calls Tryd.prog 32 #[.int .i64 ((n : Int) % 10)] W fun e w' => e = .returned (.string (str (Lib.decDigits (n % 10)))) ∧ Q W w') := fun W => ih (n % 10) W (by omega) (by omega)
      clear ih
      have hni : (10 : Int) ≤ (n : Int) := by omega
      have he : str (Lib.decDigits (n / 10)) ++ str (Lib.decDigits (n % 10)) = str (Lib.decDigits n) := by
        have e1 : Lib.decDigits n = Lib.decDigits (n / 10) ++ [UInt8.ofNat (48 + n % 10)] := by
          conv => lhs; rw [Lib.decDigits]
          rw [dif_neg hn]
        have e2 : Lib.decDigits (n % 10) = [UInt8.ofNat (48 + n % 10)] := by
          conv => lhs; rw [Lib.decDigits]
          rw [dif_pos (by omega)]
        rw [e1, e2, str_append]
      have HE := Lib.hid he
      clear he
      have l1 : (str (Lib.decDigits (n / 10))).size ≤ 10 := P4.dec_len10 _ (by omega)
      have l2 : (str (Lib.decDigits (n % 10))).size ≤ 10 := P4.dec_len10 _ (by omega)
      go_enter Tryd.func32, Tryd.ntmps32
      go_wp2_with (first | (go_at_call 32; refine (h1.out _).mono ?_; clear h1; rintro e w' ⟨rfl, n1, rfl⟩) | (go_at_call 32; refine (h2.out _).mono ?_; clear h2; rintro e w' ⟨rfl, n2, rfl⟩))
      go_ret
      exact ⟨by rw [← HE.out]; rfl, _, rfl⟩

/-- Two: two digits -/
theorem two_str (n : Nat) (h : n < 100) : str (Lib.decDigits (n / 10)) ++ str (Lib.decDigits (n % 10)) = str (P4.two n) := by
  have e1 : Lib.decDigits (n / 10) = [UInt8.ofNat (48 + n / 10)] := by rw [Lib.decDigits, dif_pos (by omega)]
  have e2 : Lib.decDigits (n % 10) = [UInt8.ofNat (48 + n % 10)] := by rw [Lib.decDigits, dif_pos (by omega)]
  rw [e1, e2, str_append]
  rfl
set_option maxHeartbeats 400000 in
theorem rtwo_any (n : Nat) (w : World) (hn : n < 100) :
    Calls Tryd.prog 33 #[.int .i64 n] w fun e w' => e = .returned (.string (str (P4.two n))) ∧ Q w w' := by
  have h1 : Hid (∀ W, Calls Tryd.prog 32 #[.int .i64 ((n : Int) / 10)] W fun e w' => e = .returned (.string (str (Lib.decDigits (n / 10)))) ∧ Q W w') := fun W => decimal_small (n / 10) W (by omega)
  have h2 : Hid (∀ W, Calls Tryd.prog 32 #[.int .i64 ((n : Int) % 10)] W fun e w' => e = .returned (.string (str (Lib.decDigits (n % 10)))) ∧ Q W w') := fun W => decimal_small (n % 10) W (by omega)
  have HE := Lib.hid (two_str n hn)
  have l1 : (str (Lib.decDigits (n / 10))).size ≤ 10 := P4.dec_len10 _ (by omega)
  have l2 : (str (Lib.decDigits (n % 10))).size ≤ 10 := P4.dec_len10 _ (by omega)
  go_enter Tryd.func33, Tryd.ntmps33
  go_wp2_with (first | (go_at_call 32; refine (h1.out _).mono ?_; clear h1; rintro e w' ⟨rfl, n1, rfl⟩) | (go_at_call 32; refine (h2.out _).mono ?_; clear h2; rintro e w' ⟨rfl, n2, rfl⟩))
  go_ret
  exact ⟨by rw [← HE.out]; rfl, _, rfl⟩

set_option maxHeartbeats 400000 in
theorem rprint_pos (n : Nat) (w : World) (hn : n ≤ 604799) :
    Calls Tryd.prog 26 #[.int .i64 n] w fun e w' => e = .returned (.tuple #[.string (str (P4.showN n)), .int .i64 0]) ∧ Q w w' := by
  have h1 : Hid (∀ W, Calls Tryd.prog 32 #[.int .i64 ((n : Int) / 3600)] W fun e w' => e = .returned (.string (str (Lib.decDigits (n / 3600)))) ∧ Q W w') := fun W => decimal_any (n / 3600) (n / 3600) W (by omega) (by omega)
  have h2 : Hid (∀ W, Calls Tryd.prog 33 #[.int .i64 ((n : Int) / 60 % 60)] W fun e w' => e = .returned (.string (str (P4.two (n / 60 % 60)))) ∧ Q W w') := fun W => rtwo_any (n / 60 % 60) W (by omega)
  have h3 : Hid (∀ W, Calls Tryd.prog 33 #[.int .i64 ((n : Int) % 60)] W fun e w' => e = .returned (.string (str (P4.two (n % 60)))) ∧ Q W w') := fun W => rtwo_any (n % 60) W (by omega)
  have l1 : (str (Lib.decDigits (n / 3600))).size ≤ 10 := P4.dec_len10 _ (by omega)
  have l2 : (str (P4.two (n / 60 % 60))).size ≤ 2 := Nat.le_refl 2
  have l3 : (str (P4.two (n % 60))).size ≤ 2 := Nat.le_refl 2
  by_cases hz : n % 60 = 0
  · have hzb : ((n : Int) % 60 != 0) = false := by rw [bne_eq_false_iff_eq]; omega
    have he : str (Lib.decDigits (n / 3600)) ++ str [58] ++ str (P4.two (n / 60 % 60)) = str (P4.showN n) := by
      simp only [str_append, P4.showN, hz, if_true, List.append_assoc]
      simp
    have HE := Lib.hid he
    clear he hz
    go_enter Tryd.func26, Tryd.ntmps26
    go_wp2_with (first | (go_at_call 32; refine (h1.out _).mono ?_; clear h1; rintro e w' ⟨rfl, n1, rfl⟩) | (go_at_call 33; refine (h2.out _).mono ?_; clear h2; rintro e w' ⟨rfl, n2, rfl⟩) | (go_at_call 33; refine (h3.out _).mono ?_; clear h3; rintro e w' ⟨rfl, n3, rfl⟩))
    go_ret2
    exact ⟨by rw [← HE.out]; rfl, _, rfl⟩
  · have hzb : ((n : Int) % 60 != 0) = true := by rw [bne_iff_ne]; omega
    have he : str (Lib.decDigits (n / 3600)) ++ str [58] ++ str (P4.two (n / 60 % 60)) ++ str [58] ++ str (P4.two (n % 60)) = str (P4.showN n) := by
      simp only [str_append, P4.showN, if_neg hz, List.append_assoc]
      simp
    have HE := Lib.hid he
    clear he hz
    go_enter Tryd.func26, Tryd.ntmps26
    go_wp2_with (first | (go_at_call 32; refine (h1.out _).mono ?_; clear h1; rintro e w' ⟨rfl, n1, rfl⟩) | (go_at_call 33; refine (h2.out _).mono ?_; clear h2; rintro e w' ⟨rfl, n2, rfl⟩) | (go_at_call 33; refine (h3.out _).mono ?_; clear h3; rintro e w' ⟨rfl, n3, rfl⟩))
    go_ret2
    exact ⟨by rw [← HE.out]; rfl, _, rfl⟩

theorem show_len (n : Nat) (hn : n ≤ 604799) : (P4.showN n).length ≤ 20 := by
  have h := P4.dec_len10 (n / 3600) (by omega)
  unfold P4.showN
  split <;> simp [P4.two] <;> omega

set_option maxHeartbeats 400000 in
/-- the reference's Print, at every number -/
theorem rprint_any (x : Int) (w : World) (hx0 : -9223372036854775808 ≤ x) (hx1 : x ≤ 9223372036854775807) :
    Calls Tryd.prog 26 #[.int .i64 x] w fun e w' => e = .returned (.tuple #[.string (str (P4.print x).1), .int .i64 (P4.print x).2]) ∧ Q w w' := by
  by_cases hr : x < -604799 ∨ 604799 < x
  · have HP := Lib.hid (show P4.print x = ([], 3) from if_pos hr)
    rcases hr with h | h
    · go_enter Tryd.func26, Tryd.ntmps26
      go_wp2
      go_ret2
      exact ⟨by rw [HP.out]; rfl, Q.refl _⟩
    · have h' : ¬ x < -604799 := by omega
      go_enter Tryd.func26, Tryd.ntmps26
      go_wp2
      go_ret2
      exact ⟨by rw [HP.out]; rfl, Q.refl _⟩
  · by_cases hneg : x < 0
    · have HP := Lib.hid (show P4.print x = (45 :: P4.showN x.natAbs, 0) by unfold P4.print; rw [if_neg hr, if_pos hneg])
      have ha : (-604799 : Int) ≤ x := by omega
      have hb : x ≤ 604799 := by omega
      have hc : Hid (∀ W, Calls Tryd.prog 26 #[.int .i64 (-x)] W fun e w' => e = .returned (.tuple #[.string (str (P4.showN x.natAbs)), .int .i64 0]) ∧ Q W w') := fun W => by
        have := rprint_pos x.natAbs W (by omega)
        rwa [show ((x.natAbs : Nat) : Int) = -x by omega] at this
      have hl : (str (P4.showN x.natAbs)).size ≤ 20 := show_len _ (by omega)
      clear hr
      go_enter Tryd.func26, Tryd.ntmps26
      go_wp2_with (go_at_call 26; refine (hc.out _).mono ?_; clear hc; rintro e w' ⟨rfl, n1, rfl⟩)
      go_ret2
      exact ⟨by rw [HP.out, show (45 :: P4.showN x.natAbs) = [45] ++ P4.showN x.natAbs from rfl, ← str_append]; rfl, _, rfl⟩
    · obtain ⟨n, rfl⟩ := Int.eq_ofNat_of_zero_le (by omega : 0 ≤ x)
      have hn : n ≤ 604799 := by omega
      have HP : P4.print (n : Int) = (P4.showN n, 0) := by unfold P4.print; rw [if_neg hr, if_neg hneg, Int.toNat_natCast]
      rw [HP]
      exact rprint_pos n w hn
end Go.Proofs.YtoabengifbokdaaDoor
