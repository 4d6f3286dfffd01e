/- The walks of report.right, report.sum and of the small functions of the reference (chapter 32). -/
import Derived.Test.YtggdfgdnpicepaaDoorPlain32
import Derived.Test.YtggdfgdnpicepaaDoorEqs
import Derived.Test.YtggdfgdnpicepaaDoorBld
import Derived.Test.YtggdfgdnpicepaaDoorShelf
import Derived.OpenShut
import Derived.IntWalk
namespace Go.Proofs.YtggdfgdnpicepaaDoor
open Go.RowKit
set_option linter.unusedVariables false

set_option maxRecDepth 100000 in
set_option maxHeartbeats 4000000 in
theorem right_any (p i e x : Int) (R : Bool) (hR : R = decide (P32.right ⟨p, i, e, x⟩)) (w : World) (i64 : -9223372036854775808 ≤ x ∧ x ≤ 9223372036854775807) :
    Calls Tryd.prog 50 #[.agg #[.int .i64 p, .int .i64 i, .int .i64 e, .int .i64 x]] w fun en w' => en = .returned (.bool R) ∧ Below w.heap.size w w' := by
  obtain ⟨x0, x1⟩ := i64
  have HR := Lib.hid hR
  clear hR
  by_cases p1 : p = 1
  · have bp : (p == 1) = true := by simp [p1]
    by_cases c0 : 0 ≤ i
    rotate_left
    · skip
      obtain rfl : R = false := HR.out.trans (decide_eq_false (by simp only [P32.right, P32.rightR, P32.rightE]; omega))
      clear HR
      go_enter Tryd.func50, Tryd.ntmps50
      go_wp2_with fail
      go_ret
      exact ⟨rfl, (Below.refl w.heap.size w).alloc (Nat.le_refl _) _⟩
    by_cases c1 : e = 0
    rotate_left
    · have d1 : (e == 0) = false := by simp [c1]
      obtain rfl : R = false := HR.out.trans (decide_eq_false (by simp only [P32.right, P32.rightR, P32.rightE]; omega))
      clear HR
      go_enter Tryd.func50, Tryd.ntmps50
      go_wp2_with fail
      go_ret
      exact ⟨rfl, (Below.refl w.heap.size w).alloc (Nat.le_refl _) _⟩
    have d1 : (e == 0) = true := by simp [c1]
    by_cases c2 : 0 < x
    rotate_left
    · skip
      obtain rfl : R = false := HR.out.trans (decide_eq_false (by simp only [P32.right, P32.rightR, P32.rightE]; omega))
      clear HR
      go_enter Tryd.func50, Tryd.ntmps50
      go_wp2_with fail
      go_ret
      exact ⟨rfl, (Below.refl w.heap.size w).alloc (Nat.le_refl _) _⟩
    by_cases c3 : x < 4
    rotate_left
    · skip
      obtain rfl : R = false := HR.out.trans (decide_eq_false (by simp only [P32.right, P32.rightR, P32.rightE]; omega))
      clear HR
      go_enter Tryd.func50, Tryd.ntmps50
      go_wp2_with fail
      go_ret
      exact ⟨rfl, (Below.refl w.heap.size w).alloc (Nat.le_refl _) _⟩
    obtain rfl : R = true := HR.out.trans (decide_eq_true (by simp only [P32.right, P32.rightR, P32.rightE]; omega))
    clear HR
    go_enter Tryd.func50, Tryd.ntmps50
    go_wp2_with fail
    go_ret
    exact ⟨rfl, (Below.refl w.heap.size w).alloc (Nat.le_refl _) _⟩
  · have bp : (p == 1) = false := by simp [p1]
    by_cases p2 : p = 2
    · have bp2 : (p == 2) = true := by simp [p2]
      by_cases c0 : 0 ≤ i
      rotate_left
      · skip
        obtain rfl : R = false := HR.out.trans (decide_eq_false (by simp only [P32.right, P32.rightR, P32.rightE]; omega))
        clear HR
        go_enter Tryd.func50, Tryd.ntmps50
        go_wp2_with fail
        go_ret
        exact ⟨rfl, (Below.refl w.heap.size w).alloc (Nat.le_refl _) _⟩
      by_cases c1 : 0 ≤ e
      rotate_left
      · skip
        obtain rfl : R = false := HR.out.trans (decide_eq_false (by simp only [P32.right, P32.rightR, P32.rightE]; omega))
        clear HR
        go_enter Tryd.func50, Tryd.ntmps50
        go_wp2_with fail
        go_ret
        exact ⟨rfl, (Below.refl w.heap.size w).alloc (Nat.le_refl _) _⟩
      by_cases c2 : 0 < x
      rotate_left
      · skip
        obtain rfl : R = false := HR.out.trans (decide_eq_false (by simp only [P32.right, P32.rightR, P32.rightE]; omega))
        clear HR
        go_enter Tryd.func50, Tryd.ntmps50
        go_wp2_with fail
        go_ret
        exact ⟨rfl, (Below.refl w.heap.size w).alloc (Nat.le_refl _) _⟩
      by_cases c3 : x < 32
      rotate_left
      · skip
        obtain rfl : R = false := HR.out.trans (decide_eq_false (by simp only [P32.right, P32.rightR, P32.rightE]; omega))
        clear HR
        go_enter Tryd.func50, Tryd.ntmps50
        go_wp2_with fail
        go_ret
        exact ⟨rfl, (Below.refl w.heap.size w).alloc (Nat.le_refl _) _⟩
      by_cases c4 : x % 4 = 0
      rotate_left
      · have d4 : (x % 4 == 0) = false := by simp [c4]
        obtain rfl : R = false := HR.out.trans (decide_eq_false (by simp only [P32.right, P32.rightR, P32.rightE]; omega))
        clear HR
        go_enter Tryd.func50, Tryd.ntmps50
        go_wp2_with fail
        go_ret
        exact ⟨rfl, (Below.refl w.heap.size w).alloc (Nat.le_refl _) _⟩
      have d4 : (x % 4 == 0) = true := by simp [c4]
      obtain rfl : R = true := HR.out.trans (decide_eq_true (by simp only [P32.right, P32.rightR, P32.rightE]; omega))
      clear HR
      go_enter Tryd.func50, Tryd.ntmps50
      go_wp2_with fail
      go_ret
      exact ⟨rfl, (Below.refl w.heap.size w).alloc (Nat.le_refl _) _⟩
    · have bp2 : (p == 2) = false := by simp [p2]
      obtain rfl : R = false := HR.out.trans (decide_eq_false (by simp only [P32.right, P32.rightR, P32.rightE]; omega))
      clear HR
      go_enter Tryd.func50, Tryd.ntmps50
      go_wp2_with fail
      go_ret
      exact ⟨rfl, (Below.refl w.heap.size w).alloc (Nat.le_refl _) _⟩

theorem digit_str (n : Nat) (h : n < 10) : (ByteArray.mk #[48, 49, 50, 51, 52, 53, 54, 55, 56, 57]).extract n (n + 1) = str (Lib.decDigits n) := by
  rw [Lib.decDigits, dif_pos h]
  match n, h with
  | 0, _ => rfl
  | 1, _ => rfl
  | 2, _ => rfl
  | 3, _ => rfl
  | 4, _ => rfl
  | 5, _ => rfl
  | 6, _ => rfl
  | 7, _ => rfl
  | 8, _ => rfl
  | 9, _ => rfl
theorem dec_len (k : Nat) : ∀ n : Nat, n < 10 ^ (k + 1) → (Lib.decDigits n).length ≤ k + 1 := by
  induction k with
  | zero => intro n h; rw [Lib.decDigits, dif_pos (by simpa using h)]; simp
  | succ k ih =>
    intro n h
    rw [Lib.decDigits]
    by_cases h10 : n < 10
    · rw [dif_pos h10]; simp
    · rw [dif_neg h10, List.length_append]
      have := ih (n / 10) (by rw [Nat.pow_succ] at h; omega)
      simp only [List.length_singleton]
      omega
theorem dec_le (n : Nat) (h : n ≤ 9223372036854775807) : (Lib.decDigits n).length ≤ 19 := dec_len 18 n (by omega)

set_option maxHeartbeats 400000 in
theorem number_small (n : Nat) (w : World) (hn : n < 10) :
    Calls Tryd.prog 55 #[.int .i64 n] w fun e w' => e = .returned (.string (str (Lib.decDigits n))) ∧ Q w w' := by
  have HD := Lib.hid (digit_str n hn)
  go_enter Tryd.func55, Tryd.ntmps55
  go_wp2_with fail
  go_ret
  exact ⟨by rw [← HD.out]; rfl, Q.refl _⟩

set_option maxHeartbeats 1000000 in
theorem number_any (k : Nat) : ∀ (n : Nat) (w : World), n ≤ k → n ≤ 9223372036854775807 →
    Calls Tryd.prog 55 #[.int .i64 n] w fun e w' => e = .returned (.string (str (Lib.decDigits n))) ∧ Q w w' := by
  induction k with
  | zero => intro n w h _; exact number_small n w (by omega)
  | succ k ih =>
    intro n w h hb
    by_cases hn : n < 10
    · exact number_small n w hn
    · have h1 : Hid (∀ W, Calls Tryd.prog 55 #[.int .i64 ((n : Int) / 10)] W fun e w' => e = .returned (.string (str (Lib.decDigits (n / 10)))) ∧ Q W w') := fun W => ih (n / 10) W (by omega) (by omega)
      have h2 : Hid (∀ W, Calls Tryd.prog 55 #[.int .i64 ((n : Int) % 10)] W fun e w' => e = .returned (.string (str (Lib.decDigits (n % 10)))) ∧ Q W w') := fun W => ih (n % 10) W (by omega) (by omega)
      clear ih
      have hni : (10 : Int) ≤ (n : Int) := by omega
      have hni2 : (n : Int) ≤ 9223372036854775807 := by omega
      have he : str (Lib.decDigits (n / 10)) ++ str (Lib.decDigits (n % 10)) = str (Lib.decDigits n) := by
        have e1 : Lib.decDigits n = Lib.decDigits (n / 10) ++ [UInt8.ofNat (48 + n % 10)] := by
          conv => lhs; rw [Lib.decDigits]
          rw [dif_neg hn]
        have e2 : Lib.decDigits (n % 10) = [UInt8.ofNat (48 + n % 10)] := by
          conv => lhs; rw [Lib.decDigits]
          rw [dif_pos (by omega)]
        rw [e1, e2, str_append]
      have HE := Lib.hid he
      clear he
      have l1 : (str (Lib.decDigits (n / 10))).size ≤ 19 := dec_le _ (by omega)
      have l2 : (str (Lib.decDigits (n % 10))).size ≤ 19 := dec_le _ (by omega)
      clear h hb
      go_enter Tryd.func55, Tryd.ntmps55
      go_wp2_with (first | (go_at_call 55; refine (h1.out _).mono ?_; clear h1; rintro e w' ⟨rfl, n1, rfl⟩) | (go_at_call 55; refine (h2.out _).mono ?_; clear h2; rintro e w' ⟨rfl, n2, rfl⟩))
      go_ret
      exact ⟨by rw [← HE.out]; rfl, _, rfl⟩
/-- number, for an Int from 0 on -/
theorem number_int (i : Int) (w : World) (h0 : 0 ≤ i) (h1 : i ≤ 9223372036854775807) :
    Calls Tryd.prog 55 #[.int .i64 i] w fun e w' => e = .returned (.string (str (Lib.decDigits i.toNat))) ∧ Q w w' := by
  have q := number_any i.toNat i.toNat w (Nat.le_refl _) (by omega)
  rw [Int.toNat_of_nonneg h0] at q
  exact q
set_option maxHeartbeats 400000 in
theorem word_any (x b : Int) (s : List UInt8) (w : World) (x0 : 0 ≤ x) (x1 : x ≤ 1000) (b0 : 0 < b) (b1 : b ≤ 1000) (hs : s.length ≤ 100) :
    Calls Tryd.prog 56 #[.int .i64 x, .int .i64 b, .string (str s)] w fun e w' => e = .returned (.string (str (P32.wordL (P32.bit x b) s))) ∧ w = w' := by
  have hz : (str s).size ≤ 100 := hs
  have hb : (b == 0) = false := by simp; omega
  have hbn : ¬ b = 0 := by omega
  have hq0 : 0 ≤ x / b := Int.ediv_nonneg x0 (by omega)
  have hq1 : x / b ≤ 1000 := Int.le_trans (Int.ediv_le_self b x0) x1
  have H := Lib.hid (show str (32 :: s) = ⟨#[32]⟩ ++ str s by rw [show (⟨#[32]⟩ : ByteArray) = str [32] from rfl, str_append]; rfl)
  by_cases h : x / b % 2 = 0
  · have ht : (x / b % 2 == 0) = true := by simp [h]
    have hB : P32.bit x b = false := by unfold P32.bit; exact decide_eq_false (by simp [h])
    rw [hB]
    clear h hB
    go_enter Tryd.func56, Tryd.ntmps56
    go_wp2_with fail
    go_ret
    exact ⟨rfl, rfl⟩
  · have ht : (x / b % 2 == 0) = false := by simp [h]
    have hB : P32.bit x b = true := by unfold P32.bit; exact decide_eq_true h
    rw [hB]
    clear h hB
    go_enter Tryd.func56, Tryd.ntmps56
    go_wp2_with fail
    go_ret
    exact ⟨by rw [show P32.wordL true s = 32 :: s from rfl, H.out]; rfl, rfl⟩

end Go.Proofs.YtggdfgdnpicepaaDoor
