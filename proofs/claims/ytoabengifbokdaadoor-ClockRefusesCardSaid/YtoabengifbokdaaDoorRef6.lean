/- The walks of the reference's functions of chapter 6, and of clock.Print at every time of day. -/
import Derived.Test.YtoabengifbokdaaDoorClk6
namespace Go.Proofs.YtoabengifbokdaaDoor
open Go.RowKit
set_option linter.unusedVariables false

set_option maxHeartbeats 1000000 in
theorem cprint_any (x b : Int) (w : World) (hv : Vars w) :
    Calls Tryd.prog 12 #[.agg #[.int .i64 x, .int .i64 b]] w fun e w' => e = .returned (.tuple #[.string (str (P6.print x b).1), .int .i64 (P6.print x b).2]) ∧ Below w.heap.size w w' := by
  by_cases h : -604799 ≤ x ∧ x ≤ 604799 ∧ 0 ≤ b ∧ b ≤ 2
  · rw [P6.print_ok h.1 h.2.1 h.2.2.1 h.2.2.2]
    exact cprint_good x b w h.1 h.2.1 h.2.2.1 h.2.2.2 hv
  · have hq : x < -604799 ∨ 604799 < x ∨ b < 0 ∨ 2 < b := by omega
    rw [P6.print_bad hq]
    have c1 : Hid (∀ W, Calls Tryd.prog 14 #[.agg #[.int .i64 x, .int .i64 b]] W fun e w' => e = .returned (.int .i64 2) ∧ Below W.heap.size W w') := fun W => by have q := ccheck_any x b W; rw [P6.check_bad hq] at q; exact q
    clear hq h
    have hal : Below w.heap.size w (w.alloc (.cells #[.int .i64 x, .int .i64 b] 24)) := (Below.refl _ _).alloc (Nat.le_refl _) _
    go_enter Tryd.func12, Tryd.ntmps12
    go_wp2_with fail
    refine (c1.out _).mono ?_
    rintro e w1 ⟨rfl, hb1⟩
    have hw1 := hal.trans (hb1.mono hal.size)
    clear hal hb1
    go_wp2_with fail
    go_ret2
    exact ⟨rfl, hw1⟩

set_option maxHeartbeats 1000000 in
theorem rbase_any (c : Int) (w : World) : Calls Tryd.prog 23 #[.int .u8 c] w fun e w' => e = .returned (.int .i64 (P6.base c)) ∧ w = w' := by
  by_cases h119 : c = 119
  · subst h119
    go_enter Tryd.func23, Tryd.ntmps23
    go_wp2_with fail
    go_ret
    exact ⟨rfl, rfl⟩
  · have q119 : (c == 119) = false := by rw [beq_eq_false_iff_ne]; exact h119
    by_cases h115 : c = 115
    · subst h115
      go_enter Tryd.func23, Tryd.ntmps23
      go_wp2_with fail
      go_ret
      exact ⟨rfl, rfl⟩
    · have q115 : (c == 115) = false := by rw [beq_eq_false_iff_ne]; exact h115
      by_cases h117 : c = 117
      · subst h117
        go_enter Tryd.func23, Tryd.ntmps23
        go_wp2_with fail
        go_ret
        exact ⟨rfl, rfl⟩
      · have q117 : (c == 117) = false := by rw [beq_eq_false_iff_ne]; exact h117
        by_cases h103 : c = 103
        · subst h103
          go_enter Tryd.func23, Tryd.ntmps23
          go_wp2_with fail
          go_ret
          exact ⟨rfl, rfl⟩
        · have q103 : (c == 103) = false := by rw [beq_eq_false_iff_ne]; exact h103
          by_cases h122 : c = 122
          · subst h122
            go_enter Tryd.func23, Tryd.ntmps23
            go_wp2_with fail
            go_ret
            exact ⟨rfl, rfl⟩
          · have q122 : (c == 122) = false := by rw [beq_eq_false_iff_ne]; exact h122
            have HP : Hid (P6.base c = -1) := by unfold P6.base; rw [if_neg h119, if_neg h115, if_neg (by omega)]; exact Lib.hid rfl
            clear h119 h115 h117 h103 h122
            go_enter Tryd.func23, Tryd.ntmps23
            go_wp2_with fail
            go_ret
            exact ⟨by rw [HP.out]; rfl, rfl⟩

theorem lettered_no {s : ByteArray} (h : P6.lettered s = false) : P6.front s = s ∧ P6.cbase s = 0 := ⟨by unfold P6.front; rw [h]; exact if_neg (by decide), by unfold P6.cbase; rw [h]; exact if_neg (by decide)⟩
theorem lettered_yes {s : ByteArray} (h : P6.lettered s = true) : P6.front s = s.extract 0 (s.size - 1) ∧ P6.cbase s = P6.base (P6.byt s (s.size - 1)) ∧ 0 < s.size ∧ 0 ≤ P6.base (P6.byt s (s.size - 1)) :=
  ⟨if_pos h, if_pos h, (of_decide_eq_true h).1, (of_decide_eq_true h).2⟩
set_option maxRecDepth 100000 in
set_option maxHeartbeats 2000000 in
theorem rcparse_any (s : ByteArray) (w : World) (hs : s.size ≤ 1000000) :
    Calls Tryd.prog 11 #[.string s] w fun e w' => e = .returned (.tuple #[.agg #[.int .i64 (P6.parse s).1, .int .i64 (P6.parse s).2.1], .int .i64 (P6.parse s).2.2]) ∧ Below w.heap.size w w' := by
  have c2 : Hid (∀ W, Calls Tryd.prog 24 #[.string (P6.front s)] W fun e w' => e = .returned (.tuple #[.int .i64 (P4.pv (P4.bl (P6.front s))), .int .i64 (P4.pe (P4.bl (P6.front s)))]) ∧ Q W w') := fun W => rparse_any _ W (Nat.le_trans (P6.front_size s) hs)
  cases hl : P6.lettered s with
  | true =>
    obtain ⟨hf, hc, hp, hb⟩ := lettered_yes hl
    obtain ⟨Y, E, hE, hval, hpe⟩ : ∃ Y E : Int, (E = 0 ∨ E = 3 ∨ E = 5) ∧ P6.parse s = (if E = 0 then (Y, P6.cbase s, 0) else (0, 0, E)) ∧ (P4.pv (P4.bl (P6.front s)) = Y ∧ P4.pe (P4.bl (P6.front s)) = E) := by
      rcases cval s with ⟨hp, he⟩ | ⟨E, hE, hp, he⟩
      · exact ⟨_, 0, .inl rfl, hp, rfl, he⟩
      · refine ⟨_, E, .inr hE, ?_, rfl, he⟩
        rw [hp, if_neg (by omega)]
    rw [hval]
    rw [hpe.1, hpe.2, hf] at c2
    rw [hc]
    clear hpe hval hf hc
    obtain ⟨L, hL⟩ : ∃ L : Int, L = (P6.byt s (s.size - 1) : Int) := ⟨_, rfl⟩
    have ha : ∀ h, ((s[s.size - 1]'h).toNat : Int) = L := fun h => by rw [hL, P6.byt_get s _ h]
    rw [← hL] at hb ⊢
    have hpi : (0 : Int) < (s.size : Int) := by omega
    have cb : Hid (∀ W, Calls Tryd.prog 23 #[.int .u8 L] W fun e w' => e = .returned (.int .i64 (P6.base L)) ∧ W = w') := fun W => rbase_any L W
    generalize P6.base L = C at hb cb ⊢
    clear hL hl
    rcases hE with rfl | rfl | rfl
    · skip
      go_enter Tryd.func11, Tryd.ntmps11
      go_wp2_with fail
      refine (cb.out _).mono ?_
      rintro e w' ⟨rfl, rfl⟩
      go_wp2_with fail
      refine (cb.out _).mono ?_
      rintro e w' ⟨rfl, rfl⟩
      go_wp2_with fail
      refine (c2.out _).mono ?_
      rintro e w' ⟨rfl, n1, rfl⟩
      go_wp2_with fail
      refine bodyPost_ret (v := .tuple #[.agg #[.int .i64 Y, .int .i64 C], .int .i64 0]) (by simp [results, Tryd.results11, go_sem]) rfl ⟨rfl, ?_⟩
      repeat (first | exact Below.refl _ _ | refine below_drewN ?_ _ | (refine Below.setCell ?_ (by simp) _) | (refine Below.alloc ?_ (by simp) _))
    · skip
      go_enter Tryd.func11, Tryd.ntmps11
      go_wp2_with fail
      refine (cb.out _).mono ?_
      rintro e w' ⟨rfl, rfl⟩
      go_wp2_with fail
      refine (cb.out _).mono ?_
      rintro e w' ⟨rfl, rfl⟩
      go_wp2_with fail
      refine (c2.out _).mono ?_
      rintro e w' ⟨rfl, n1, rfl⟩
      go_wp2_with fail
      refine bodyPost_ret (v := .tuple #[.agg #[.int .i64 0, .int .i64 0], .int .i64 3]) (by simp [results, Tryd.results11, go_sem]) rfl ⟨rfl, ?_⟩
      repeat (first | exact Below.refl _ _ | refine below_drewN ?_ _ | (refine Below.setCell ?_ (by simp) _) | (refine Below.alloc ?_ (by simp) _))
    · skip
      go_enter Tryd.func11, Tryd.ntmps11
      go_wp2_with fail
      refine (cb.out _).mono ?_
      rintro e w' ⟨rfl, rfl⟩
      go_wp2_with fail
      refine (cb.out _).mono ?_
      rintro e w' ⟨rfl, rfl⟩
      go_wp2_with fail
      refine (c2.out _).mono ?_
      rintro e w' ⟨rfl, n1, rfl⟩
      go_wp2_with fail
      refine bodyPost_ret (v := .tuple #[.agg #[.int .i64 0, .int .i64 0], .int .i64 5]) (by simp [results, Tryd.results11, go_sem]) rfl ⟨rfl, ?_⟩
      repeat (first | exact Below.refl _ _ | refine below_drewN ?_ _ | (refine Below.setCell ?_ (by simp) _) | (refine Below.alloc ?_ (by simp) _))

  | false =>
    obtain ⟨hf, hc⟩ := lettered_no hl
    obtain ⟨Y, E, hE, hval, hpe⟩ : ∃ Y E : Int, (E = 0 ∨ E = 3 ∨ E = 5) ∧ P6.parse s = (if E = 0 then (Y, P6.cbase s, 0) else (0, 0, E)) ∧ (P4.pv (P4.bl (P6.front s)) = Y ∧ P4.pe (P4.bl (P6.front s)) = E) := by
      rcases cval s with ⟨hp, he⟩ | ⟨E, hE, hp, he⟩
      · exact ⟨_, 0, .inl rfl, hp, rfl, he⟩
      · refine ⟨_, E, .inr hE, ?_, rfl, he⟩
        rw [hp, if_neg (by omega)]
    rw [hval]
    rw [hpe.1, hpe.2, hf] at c2
    rw [hc]
    clear hpe hval hf hc
    rcases hE with rfl | rfl | rfl
    · by_cases hp : s.size = 0
      · have hpi : ¬ (0 : Int) < (s.size : Int) := by omega
        clear hp hl
        go_enter Tryd.func11, Tryd.ntmps11
        go_wp2_with fail
        refine (c2.out _).mono ?_
        rintro e w' ⟨rfl, n1, rfl⟩
        go_wp2_with fail
        refine bodyPost_ret (v := .tuple #[.agg #[.int .i64 Y, .int .i64 0], .int .i64 0]) (by simp [results, Tryd.results11, go_sem]) rfl ⟨rfl, ?_⟩
        repeat (first | exact Below.refl _ _ | refine below_drewN ?_ _ | (refine Below.setCell ?_ (by simp) _) | (refine Below.alloc ?_ (by simp) _))
      · obtain ⟨L, hL⟩ : ∃ L : Int, L = (P6.byt s (s.size - 1) : Int) := ⟨_, rfl⟩
        have ha : ∀ h, ((s[s.size - 1]'h).toNat : Int) = L := fun h => by rw [hL, P6.byt_get s _ h]
        have hb : P6.base L < 0 := by
          have := of_decide_eq_false hl
          rw [← hL] at this
          omega
        have hpi : (0 : Int) < (s.size : Int) := by omega
        have cb : Hid (∀ W, Calls Tryd.prog 23 #[.int .u8 L] W fun e w' => e = .returned (.int .i64 (P6.base L)) ∧ W = w') := fun W => rbase_any L W
        generalize P6.base L = C at hb cb
        clear hL hl hp
        go_enter Tryd.func11, Tryd.ntmps11
        go_wp2_with fail
        refine (cb.out _).mono ?_
        rintro e w' ⟨rfl, rfl⟩
        go_wp2_with fail
        refine (c2.out _).mono ?_
        rintro e w' ⟨rfl, n1, rfl⟩
        go_wp2_with fail
        refine bodyPost_ret (v := .tuple #[.agg #[.int .i64 Y, .int .i64 0], .int .i64 0]) (by simp [results, Tryd.results11, go_sem]) rfl ⟨rfl, ?_⟩
        repeat (first | exact Below.refl _ _ | refine below_drewN ?_ _ | (refine Below.setCell ?_ (by simp) _) | (refine Below.alloc ?_ (by simp) _))
    · by_cases hp : s.size = 0
      · have hpi : ¬ (0 : Int) < (s.size : Int) := by omega
        clear hp hl
        go_enter Tryd.func11, Tryd.ntmps11
        go_wp2_with fail
        refine (c2.out _).mono ?_
        rintro e w' ⟨rfl, n1, rfl⟩
        go_wp2_with fail
        refine bodyPost_ret (v := .tuple #[.agg #[.int .i64 0, .int .i64 0], .int .i64 3]) (by simp [results, Tryd.results11, go_sem]) rfl ⟨rfl, ?_⟩
        repeat (first | exact Below.refl _ _ | refine below_drewN ?_ _ | (refine Below.setCell ?_ (by simp) _) | (refine Below.alloc ?_ (by simp) _))
      · obtain ⟨L, hL⟩ : ∃ L : Int, L = (P6.byt s (s.size - 1) : Int) := ⟨_, rfl⟩
        have ha : ∀ h, ((s[s.size - 1]'h).toNat : Int) = L := fun h => by rw [hL, P6.byt_get s _ h]
        have hb : P6.base L < 0 := by
          have := of_decide_eq_false hl
          rw [← hL] at this
          omega
        have hpi : (0 : Int) < (s.size : Int) := by omega
        have cb : Hid (∀ W, Calls Tryd.prog 23 #[.int .u8 L] W fun e w' => e = .returned (.int .i64 (P6.base L)) ∧ W = w') := fun W => rbase_any L W
        generalize P6.base L = C at hb cb
        clear hL hl hp
        go_enter Tryd.func11, Tryd.ntmps11
        go_wp2_with fail
        refine (cb.out _).mono ?_
        rintro e w' ⟨rfl, rfl⟩
        go_wp2_with fail
        refine (c2.out _).mono ?_
        rintro e w' ⟨rfl, n1, rfl⟩
        go_wp2_with fail
        refine bodyPost_ret (v := .tuple #[.agg #[.int .i64 0, .int .i64 0], .int .i64 3]) (by simp [results, Tryd.results11, go_sem]) rfl ⟨rfl, ?_⟩
        repeat (first | exact Below.refl _ _ | refine below_drewN ?_ _ | (refine Below.setCell ?_ (by simp) _) | (refine Below.alloc ?_ (by simp) _))
    · by_cases hp : s.size = 0
      · have hpi : ¬ (0 : Int) < (s.size : Int) := by omega
        clear hp hl
        go_enter Tryd.func11, Tryd.ntmps11
        go_wp2_with fail
        refine (c2.out _).mono ?_
        rintro e w' ⟨rfl, n1, rfl⟩
        go_wp2_with fail
        refine bodyPost_ret (v := .tuple #[.agg #[.int .i64 0, .int .i64 0], .int .i64 5]) (by simp [results, Tryd.results11, go_sem]) rfl ⟨rfl, ?_⟩
        repeat (first | exact Below.refl _ _ | refine below_drewN ?_ _ | (refine Below.setCell ?_ (by simp) _) | (refine Below.alloc ?_ (by simp) _))
      · obtain ⟨L, hL⟩ : ∃ L : Int, L = (P6.byt s (s.size - 1) : Int) := ⟨_, rfl⟩
        have ha : ∀ h, ((s[s.size - 1]'h).toNat : Int) = L := fun h => by rw [hL, P6.byt_get s _ h]
        have hb : P6.base L < 0 := by
          have := of_decide_eq_false hl
          rw [← hL] at this
          omega
        have hpi : (0 : Int) < (s.size : Int) := by omega
        have cb : Hid (∀ W, Calls Tryd.prog 23 #[.int .u8 L] W fun e w' => e = .returned (.int .i64 (P6.base L)) ∧ W = w') := fun W => rbase_any L W
        generalize P6.base L = C at hb cb
        clear hL hl hp
        go_enter Tryd.func11, Tryd.ntmps11
        go_wp2_with fail
        refine (cb.out _).mono ?_
        rintro e w' ⟨rfl, rfl⟩
        go_wp2_with fail
        refine (c2.out _).mono ?_
        rintro e w' ⟨rfl, n1, rfl⟩
        go_wp2_with fail
        refine bodyPost_ret (v := .tuple #[.agg #[.int .i64 0, .int .i64 0], .int .i64 5]) (by simp [results, Tryd.results11, go_sem]) rfl ⟨rfl, ?_⟩
        repeat (first | exact Below.refl _ _ | refine below_drewN ?_ _ | (refine Below.setCell ?_ (by simp) _) | (refine Below.alloc ?_ (by simp) _))

set_option maxRecDepth 100000 in
set_option maxHeartbeats 2000000 in
theorem rcprint_any (x b : Int) (w : World) :
    Calls Tryd.prog 13 #[.agg #[.int .i64 x, .int .i64 b]] w fun e w' => e = .returned (.tuple #[.string (str (P6.print x b).1), .int .i64 (P6.print x b).2]) ∧ Below w.heap.size w w' := by
  have hB0 : Blk (w.alloc (.cells #[.int .i64 x, .int .i64 b] 24)) w.heap.size 24 #[.int .i64 x, .int .i64 b] := Blk.new _ _ _
  have hal : Below w.heap.size w (w.alloc (.cells #[.int .i64 x, .int .i64 b] 24)) := (Below.refl _ _).alloc (Nat.le_refl _) _
  by_cases h : -604799 ≤ x ∧ x ≤ 604799 ∧ 0 ≤ b ∧ b ≤ 2
  · obtain ⟨h0, h1, h2, h3⟩ := h
    rw [P6.print_ok h0 h1 h2 h3]
    have c1 : Hid (∀ W, Calls Tryd.prog 15 #[.agg #[.int .i64 x, .int .i64 b]] W fun e w' => e = .returned (.int .i64 0) ∧ Below W.heap.size W w') := fun W => by have q := rccheck_any x b W; rw [P6.check_ok h0 h1 h2 h3] at q; exact q
    have c2 : Hid (∀ W, Calls Tryd.prog 26 #[.int .i64 x] W fun e w' => e = .returned (.tuple #[.string (str (P4.print x).1), .int .i64 (P4.print x).2]) ∧ Q W w') := fun W => rprint_any x W (by omega) (by omega)
    have hl2 : (str (P4.print x).1).size ≤ 21 := (P6.print_len x h0 h1).2
    generalize (P4.print x).1 = S at c2 hl2 ⊢
    generalize (P4.print x).2 = E at c2
    have n1 : str (S ++ P6.suf 1) = str S ++ ByteArray.mk #[115] := (str_append S [115]).symm
    have n2 : str (S ++ P6.suf 2) = str S ++ ByteArray.mk #[117] := (str_append S [117]).symm
    have N1 := Lib.hid n1
    have N2 := Lib.hid n2
    clear n1 n2
    rcases (by omega : b = 0 ∨ b = 1 ∨ b = 2) with rfl | rfl | rfl
    · skip
      go_enter Tryd.func13, Tryd.ntmps13
      go_wp2_with fail
      refine (c1.out _).mono ?_
      rintro e w1 ⟨rfl, hb1⟩
      have hB1 := hB0.below hb1 hB0.lt
      have hw1 := hal.trans (hb1.mono hal.size)
      have k0 : w1.cell? ⟨w.heap.size, 0, none⟩ = some (.int .i64 x) := (hB1.cell 0).trans rfl
      have k1 : w1.cell? ⟨w.heap.size, 1, none⟩ = some (.int .i64 0) := (hB1.cell 1).trans rfl
      clear hB0 hal hb1 hB1
      go_wp2_with fail
      refine (c2.out _).mono ?_
      rintro e w2 ⟨rfl, m, rfl⟩
      go_wp2_with fail
      go_ret2
      exact ⟨by rw [show str (S ++ P6.suf 0) = str S from congrArg str (List.append_nil S)]; rfl, below_drewN hw1 _⟩
    · skip
      go_enter Tryd.func13, Tryd.ntmps13
      go_wp2_with fail
      refine (c1.out _).mono ?_
      rintro e w1 ⟨rfl, hb1⟩
      have hB1 := hB0.below hb1 hB0.lt
      have hw1 := hal.trans (hb1.mono hal.size)
      have k0 : w1.cell? ⟨w.heap.size, 0, none⟩ = some (.int .i64 x) := (hB1.cell 0).trans rfl
      have k1 : w1.cell? ⟨w.heap.size, 1, none⟩ = some (.int .i64 1) := (hB1.cell 1).trans rfl
      clear hB0 hal hb1 hB1
      go_wp2_with fail
      refine (c2.out _).mono ?_
      rintro e w2 ⟨rfl, m, rfl⟩
      go_wp2_with fail
      go_ret2
      exact ⟨by rw [N1.out]; rfl, below_drewN hw1 _⟩
    · skip
      go_enter Tryd.func13, Tryd.ntmps13
      go_wp2_with fail
      refine (c1.out _).mono ?_
      rintro e w1 ⟨rfl, hb1⟩
      have hB1 := hB0.below hb1 hB0.lt
      have hw1 := hal.trans (hb1.mono hal.size)
      have k0 : w1.cell? ⟨w.heap.size, 0, none⟩ = some (.int .i64 x) := (hB1.cell 0).trans rfl
      have k1 : w1.cell? ⟨w.heap.size, 1, none⟩ = some (.int .i64 2) := (hB1.cell 1).trans rfl
      clear hB0 hal hb1 hB1
      go_wp2_with fail
      refine (c2.out _).mono ?_
      rintro e w2 ⟨rfl, m, rfl⟩
      go_wp2_with fail
      go_ret2
      exact ⟨by rw [N2.out]; rfl, below_drewN hw1 _⟩
  · have hq : x < -604799 ∨ 604799 < x ∨ b < 0 ∨ 2 < b := by omega
    rw [P6.print_bad hq]
    have c1 : Hid (∀ W, Calls Tryd.prog 15 #[.agg #[.int .i64 x, .int .i64 b]] W fun e w' => e = .returned (.int .i64 2) ∧ Below W.heap.size W w') := fun W => by have q := rccheck_any x b W; rw [P6.check_bad hq] at q; exact q
    clear hq h hB0
    go_enter Tryd.func13, Tryd.ntmps13
    go_wp2_with fail
    refine (c1.out _).mono ?_
    rintro e w1 ⟨rfl, hb1⟩
    have hw1 := hal.trans (hb1.mono hal.size)
    clear hal hb1
    go_wp2_with fail
    go_ret2
    exact ⟨rfl, hw1⟩
end Go.Proofs.YtoabengifbokdaaDoor
