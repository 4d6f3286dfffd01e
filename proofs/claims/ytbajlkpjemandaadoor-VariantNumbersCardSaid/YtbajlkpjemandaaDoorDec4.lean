/- The walks of the reference's Decimal and Two (chapter 4), for seats that reach these two alone. -/
import Derived.Test.YtbajlkpjemandaaDoorPlain4
import Derived.Test.YtbajlkpjemandaaDoorCom
import Derived.Test.YtbajlkpjemandaaDoorChecked
namespace Go.Proofs.YtbajlkpjemandaaDoor
open Go.RowKit
set_option linter.unusedVariables false

theorem digit_str (n : Nat) (h : n < 10) : (ByteArray.mk #[48, 49, 50, 51, 52, 53, 54, 55, 56, 57]).extract n (n + 1) = str (Lib.decDigits n) := by
  rw [Lib.decDigits, dif_pos h]
  match n, h with
  | 0, _ => rfl
  | 1, _ => rfl
  | 2, _ => rfl
  | 3, _ => rfl
  | 4, _ => rfl
  | 5, _ => rfl
  | 6, _ => rfl
  | 7, _ => rfl
  | 8, _ => rfl
  | 9, _ => rfl

set_option maxHeartbeats 400000 in
theorem decimal_small (n : Nat) (w : World) (hn : n < 10) :
    Calls Tryd.prog 115 #[.int .i64 n] w fun e w' => e = .returned (.string (str (Lib.decDigits n))) ∧ Q w w' := by
  have HD := Lib.hid (digit_str n hn)
  go_enter Tryd.func115, Tryd.ntmps115
  go_wp2_with fail
  go_ret
  exact ⟨by rw [← HD.out]; rfl, Q.refl _⟩

set_option maxHeartbeats 400000 in
theorem decimal_any (k : Nat) : ∀ (n : Nat) (w : World), n ≤ k → n ≤ 1000000000 →
    Calls Tryd.prog 115 #[.int .i64 n] w fun e w' => e = .returned (.string (str (Lib.decDigits n))) ∧ Q w w' := by
  induction k with
  | zero => intro n w h _; exact decimal_small n w (by omega)
  | succ k ih =>
    intro n w h hb
    by_cases hn : n < 10
    · exact decimal_small n w hn
    · have h1 : Hid (∀ W, Calls Tryd.prog 115 #[.int .i64 ((n : Int) / 10)] W fun e w' => e = .returned (.string (str (Lib.decDigits (n / 10)))) ∧ Q W w') := fun W => ih (n / 10) W (by omega) (by omega)
      have h2 : Hid (∀ W, Calls Tryd.prog 115 #[.int .i64 ((n : Int) % 10)] W fun e w' => e = .returned (.string (str (Lib.decDigits (n % 10)))) ∧ Q W w') := fun W => ih (n % 10) W (by omega) (by omega)
      clear ih
      have hni : (10 : Int) ≤ (n : Int) := by omega
      have he : str (Lib.decDigits (n / 10)) ++ str (Lib.decDigits (n % 10)) = str (Lib.decDigits n) := by
        have e1 : Lib.decDigits n = Lib.decDigits (n / 10) ++ [UInt8.ofNat (48 + n % 10)] := by
          conv => lhs; rw [Lib.decDigits]
          rw [dif_neg hn]
        have e2 : Lib.decDigits (n % 10) = [UInt8.ofNat (48 + n % 10)] := by
          conv => lhs; rw [Lib.decDigits]
          rw [dif_pos (by omega)]
        rw [e1, e2, str_append]
      have HE := Lib.hid he
      clear he
      have l1 : (str (Lib.decDigits (n / 10))).size ≤ 10 := P4.dec_len10 _ (by omega)
      have l2 : (str (Lib.decDigits (n % 10))).size ≤ 10 := P4.dec_len10 _ (by omega)
      go_enter Tryd.func115, Tryd.ntmps115
      go_wp2_with (first | (go_at_call 115; refine (h1.out _).mono ?_; clear h1; rintro e w' ⟨rfl, n1, rfl⟩) | (go_at_call 115; refine (h2.out _).mono ?_; clear h2; rintro e w' ⟨rfl, n2, rfl⟩))
      go_ret
      exact ⟨by rw [← HE.out]; rfl, _, rfl⟩

/-- Two: two digits -/
theorem two_str (n : Nat) (h : n < 100) : str (Lib.decDigits (n / 10)) ++ str (Lib.decDigits (n % 10)) = str (P4.two n) := by
  have e1 : Lib.decDigits (n / 10) = [UInt8.ofNat (48 + n / 10)] := by rw [Lib.decDigits, dif_pos (by omega)]
  have e2 : Lib.decDigits (n % 10) = [UInt8.ofNat (48 + n % 10)] := by rw [Lib.decDigits, dif_pos (by omega)]
  rw [e1, e2, str_append]
  rfl
set_option maxHeartbeats 400000 in
theorem rtwo_any (n : Nat) (w : World) (hn : n < 100) :
    Calls Tryd.prog 95 #[.int .i64 n] w fun e w' => e = .returned (.string (str (P4.two n))) ∧ Q w w' := by
  have h1 : Hid (∀ W, Calls Tryd.prog 115 #[.int .i64 ((n : Int) / 10)] W fun e w' => e = .returned (.string (str (Lib.decDigits (n / 10)))) ∧ Q W w') := fun W => decimal_small (n / 10) W (by omega)
  have h2 : Hid (∀ W, Calls Tryd.prog 115 #[.int .i64 ((n : Int) % 10)] W fun e w' => e = .returned (.string (str (Lib.decDigits (n % 10)))) ∧ Q W w') := fun W => decimal_small (n % 10) W (by omega)
  have HE := Lib.hid (two_str n hn)
  have l1 : (str (Lib.decDigits (n / 10))).size ≤ 10 := P4.dec_len10 _ (by omega)
  have l2 : (str (Lib.decDigits (n % 10))).size ≤ 10 := P4.dec_len10 _ (by omega)
  go_enter Tryd.func95, Tryd.ntmps95
  go_wp2_with (first | (go_at_call 115; refine (h1.out _).mono ?_; clear h1; rintro e w' ⟨rfl, n1, rfl⟩) | (go_at_call 115; refine (h2.out _).mono ?_; clear h2; rintro e w' ⟨rfl, n2, rfl⟩))
  go_ret
  exact ⟨by rw [← HE.out]; rfl, _, rfl⟩
end Go.Proofs.YtbajlkpjemandaaDoor
