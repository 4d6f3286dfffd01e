/- The walk of the reference's abbreviations of FORMATs (chapter 21). -/
import Derived.Test.YtbajlkpjemandaaDoorFmt21f
namespace Go.Proofs.YtbajlkpjemandaaDoor
open Go.RowKit Go.Lib
set_option linter.unusedVariables false

theorem w64 (x : Int) (h0 : -9223372036854775808 ≤ x) (h1 : x ≤ 9223372036854775807) : wrap64 x = x := by unfold wrap64; omega
theorem far_text {a b : Int} (h : (100000 < a ∧ 0 < b) ∨ (a < -100000 ∧ b ≤ 0) ∨ (0 < a ∧ 100000 < b) ∨ (a ≤ 0 ∧ b < -100000)) : P20.text (a + b) = [] := P20.text_out (by omega)
set_option maxRecDepth 100000 in
set_option maxHeartbeats 16000000 in
theorem rfabbr_any (s : ByteArray) (off save : Int) (lt : ByteArray) (w : World) (hs : s.size ≤ 500000) (hlt : lt.size ≤ 500000) (ho : -9223372036854775808 ≤ off ∧ off ≤ 9223372036854775807) (hsv : -9223372036854775808 ≤ save ∧ save ≤ 9223372036854775807) :
    Calls Tryd.prog 26 #[.string s, .int .i64 off, .agg #[.int .i64 save, .string lt]] w fun e w' => e = .returned (.tuple #[.string (str (P21.abbrv (P4.bl s) off save (P4.bl lt)).1), .int .i64 (P21.abbrv (P4.bl s) off save (P4.bl lt)).2]) ∧ Below w.heap.size w w' := by
  have cP : Hid (∀ W, Calls Tryd.prog 25 #[.string s] W fun e w' => e = .returned (.tuple #[.string (str (P21.parts (P4.bl s)).1), .string (str (P21.parts (P4.bl s)).2.1), .bool (P21.parts (P4.bl s)).2.2]) ∧ Below W.heap.size W w') := fun W => rparts_any s W (by omega)
  have cK : Hid (∀ W, Calls Tryd.prog 27 #[.string s] W fun e w' => e = .returned (.int .i64 (P21.kind (P4.bl s))) ∧ Below W.heap.size W w') := fun W => rkind_any s W (by omega)
  have cL : Hid (∀ W, Calls Tryd.prog 65 #[.string s] W fun e w' => e = .returned (.tuple #[.string (str (letterR (P4.bl s)).1), .string (str (letterR (P4.bl s)).2.1), .bool (letterR (P4.bl s)).2.2]) ∧ Q W w') := fun W => rletter21_any s W (by omega)
  have hB := Blk.new w 42 #[.int .i64 save, .string lt]
  have hb0 := (Below.refl w.heap.size w).alloc (Nat.le_refl _) (.cells #[.int .i64 save, .string lt] 42)
  cases hT : P21.two (P4.bl s) with
  | true =>
    rw [parts_of, if_pos hT] at cP
    have hK : P21.kind (P4.bl s) = 2 ∨ P21.kind (P4.bl s) = 5 := two_kind hT
    by_cases hz : save = 0
    · skip
      subst hz
      rw [abbrv_two0 hT]
      generalize P21.slash (P4.bl s) = U at cP ⊢
      generalize letterR (P4.bl s) = V at cL
      generalize P21.kind (P4.bl s) = K at cK hK
      clear hT
      rcases hK with rfl | rfl
      all_goals
        go_enter Tryd.func26, Tryd.ntmps26
        go_wp2_with fail
        refine (cK.out _).mono ?_
        rintro e w1 ⟨rfl, hc1⟩
        have hB1 := hB.below hc1 hB.lt
        have hb1 := hb0.trans (hc1.mono hb0.size)
        clear hB hb0 hc1
        go_wp2_with fail
        refine (cP.out _).mono ?_
        rintro e w2 ⟨rfl, hc2⟩
        have hB2 := hB1.below hc2 hB1.lt
        have hb2 := hb1.trans (hc2.mono hb1.size)
        clear hB1 hb1 hc2
        go_wp2_with fail
        refine (cL.out _).mono ?_
        rintro e w3 ⟨rfl, hc30⟩
        have hc3 := hc30.below w2.heap.size
        have hB3 := hB2.below hc3 hB2.lt
        have hb3 := hb2.trans (hc3.mono hb2.size)
        clear hB2 hb2 hc3 hc30
        have k0 := (hB3.cell 0).trans rfl
        have k1 := (hB3.cell 1).trans rfl
        clear hB3
        go_wp2_with fail
        go_ret2
        exact ⟨rfl, hb3⟩
    · skip
      rw [abbrv_two1 hT hz]
      have hz2 : (save == 0) = false := by rw [beq_eq_false_iff_ne]; exact hz
      generalize P21.slash (P4.bl s) = U at cP ⊢
      generalize letterR (P4.bl s) = V at cL
      generalize P21.kind (P4.bl s) = K at cK hK
      clear hT hz
      rcases hK with rfl | rfl
      all_goals
        go_enter Tryd.func26, Tryd.ntmps26
        go_wp2_with fail
        refine (cK.out _).mono ?_
        rintro e w1 ⟨rfl, hc1⟩
        have hB1 := hB.below hc1 hB.lt
        have hb1 := hb0.trans (hc1.mono hb0.size)
        clear hB hb0 hc1
        go_wp2_with fail
        refine (cP.out _).mono ?_
        rintro e w2 ⟨rfl, hc2⟩
        have hB2 := hB1.below hc2 hB1.lt
        have hb2 := hb1.trans (hc2.mono hb1.size)
        clear hB1 hb1 hc2
        go_wp2_with fail
        refine (cL.out _).mono ?_
        rintro e w3 ⟨rfl, hc30⟩
        have hc3 := hc30.below w2.heap.size
        have hB3 := hB2.below hc3 hB2.lt
        have hb3 := hb2.trans (hc3.mono hb2.size)
        clear hB2 hb2 hc3 hc30
        have k0 := (hB3.cell 0).trans rfl
        have k1 := (hB3.cell 1).trans rfl
        clear hB3
        go_wp2_with fail
        go_ret2
        exact ⟨rfl, hb3⟩
  | false =>
    rw [parts_of, if_neg (by rw [hT]; decide)] at cP
    rcases P21.kind_cases (P4.bl s) with hK | hK | hK | hK | hK | hK
    · rw [hK] at cK
      rw [abbrv_k0 hT hK]
      clear hT hK
      generalize letterR (P4.bl s) = V at cL
      go_enter Tryd.func26, Tryd.ntmps26
      go_wp2_with fail
      refine (cK.out _).mono ?_
      rintro e w1 ⟨rfl, hc1⟩
      have hB1 := hB.below hc1 hB.lt
      have hb1 := hb0.trans (hc1.mono hb0.size)
      clear hB hb0 hc1
      go_wp2_with fail
      refine (cP.out _).mono ?_
      rintro e w2 ⟨rfl, hc2⟩
      have hB2 := hB1.below hc2 hB1.lt
      have hb2 := hb1.trans (hc2.mono hb1.size)
      clear hB1 hb1 hc2
      go_wp2_with fail
      refine (cL.out _).mono ?_
      rintro e w3 ⟨rfl, hc30⟩
      have hc3 := hc30.below w2.heap.size
      have hB3 := hB2.below hc3 hB2.lt
      have hb3 := hb2.trans (hc3.mono hb2.size)
      clear hB2 hb2 hc3 hc30
      have k0 := (hB3.cell 0).trans rfl
      have k1 := (hB3.cell 1).trans rfl
      clear hB3
      go_wp2_with fail
      go_ret2
      exact ⟨rfl, hb3⟩
    · rw [hK] at cK
      rw [abbrv_k1 hT (.inl hK)]
      clear hT hK
      generalize letterR (P4.bl s) = V at cL
      go_enter Tryd.func26, Tryd.ntmps26
      go_wp2_with fail
      refine (cK.out _).mono ?_
      rintro e w1 ⟨rfl, hc1⟩
      have hB1 := hB.below hc1 hB.lt
      have hb1 := hb0.trans (hc1.mono hb0.size)
      clear hB hb0 hc1
      go_wp2_with fail
      refine (cP.out _).mono ?_
      rintro e w2 ⟨rfl, hc2⟩
      have hB2 := hB1.below hc2 hB1.lt
      have hb2 := hb1.trans (hc2.mono hb1.size)
      clear hB1 hb1 hc2
      go_wp2_with fail
      refine (cL.out _).mono ?_
      rintro e w3 ⟨rfl, hc30⟩
      have hc3 := hc30.below w2.heap.size
      have hB3 := hB2.below hc3 hB2.lt
      have hb3 := hb2.trans (hc3.mono hb2.size)
      clear hB2 hb2 hc3 hc30
      have k0 := (hB3.cell 0).trans rfl
      have k1 := (hB3.cell 1).trans rfl
      clear hB3
      go_wp2_with fail
      go_ret2
      exact ⟨rfl, hb3⟩
    · rw [hK] at cK
      rw [two_of2 hK] at hT; cases hT
    · rw [hK] at cK
      rw [abbrv_k3 hT hK]
      rw [letterR_hit (kind3_letter hK)] at cL
      have hpl := pct_len s
      have hll := P4.bl_len lt
      have hcs := cat3_run (P := Tryd.prog) (P21.pct (P4.bl s)).1 (P4.bl lt) (P21.pct (P4.bl s)).2.1 (by omega)
      have cA : Hid (∀ W, Calls Tryd.prog 66 #[.string (str ((P21.pct (P4.bl s)).1 ++ P4.bl lt ++ (P21.pct (P4.bl s)).2.1))] W fun e w' => e = .returned (.bool (P21.abbr ((P21.pct (P4.bl s)).1 ++ P4.bl lt ++ (P21.pct (P4.bl s)).2.1))) ∧ w' = W) := fun W => rabbr_any (str _) W (by rw [str_size, List.length_append, List.length_append]; omega)
      have hop := out_pair ((P21.pct (P4.bl s)).1 ++ P4.bl lt ++ (P21.pct (P4.bl s)).2.1) (P21.abbr ((P21.pct (P4.bl s)).1 ++ P4.bl lt ++ (P21.pct (P4.bl s)).2.1))
      rw [← hop.2, ← hop.1]
      clear hop hpl hll hT hK
      rw [str_bl] at hcs
      generalize P21.abbr ((P21.pct (P4.bl s)).1 ++ P4.bl lt ++ (P21.pct (P4.bl s)).2.1) = Z at cA ⊢
      generalize str ((P21.pct (P4.bl s)).1 ++ P4.bl lt ++ (P21.pct (P4.bl s)).2.1) = SZ at cA hcs ⊢
      generalize str ((P21.pct (P4.bl s)).1 ++ P4.bl lt) = SY at hcs
      generalize str (P21.pct (P4.bl s)).1 = SA at cL hcs
      generalize str (P21.pct (P4.bl s)).2.1 = SB at cL hcs
      obtain ⟨hc1', hc2'⟩ := hcs
      cases Z with
      | true =>
        first | rw [if_pos rfl, if_pos rfl] | rw [if_neg (by simp), if_neg (by simp)]
        go_enter Tryd.func26, Tryd.ntmps26
        go_wp2_with fail
        refine (cK.out _).mono ?_
        rintro e w1 ⟨rfl, hc1⟩
        have hB1 := hB.below hc1 hB.lt
        have hb1 := hb0.trans (hc1.mono hb0.size)
        clear hB hb0 hc1
        go_wp2_with fail
        refine (cP.out _).mono ?_
        rintro e w2 ⟨rfl, hc2⟩
        have hB2 := hB1.below hc2 hB1.lt
        have hb2 := hb1.trans (hc2.mono hb1.size)
        clear hB1 hb1 hc2
        go_wp2_with fail
        refine (cL.out _).mono ?_
        rintro e w3 ⟨rfl, hc30⟩
        have hc3 := hc30.below w2.heap.size
        have hB3 := hB2.below hc3 hB2.lt
        have hb3 := hb2.trans (hc3.mono hb2.size)
        clear hB2 hb2 hc3 hc30
        have k0 := (hB3.cell 0).trans rfl
        have k1 := (hB3.cell 1).trans rfl
        clear hB3
        go_wp2_with (go_at_call 66; refine (cA.out _).mono ?_; rintro e w' ⟨rfl, rfl⟩)
        go_ret2
        exact ⟨rfl, hb3⟩
      | false =>
        first | rw [if_pos rfl, if_pos rfl] | rw [if_neg (by simp), if_neg (by simp)]
        go_enter Tryd.func26, Tryd.ntmps26
        go_wp2_with fail
        refine (cK.out _).mono ?_
        rintro e w1 ⟨rfl, hc1⟩
        have hB1 := hB.below hc1 hB.lt
        have hb1 := hb0.trans (hc1.mono hb0.size)
        clear hB hb0 hc1
        go_wp2_with fail
        refine (cP.out _).mono ?_
        rintro e w2 ⟨rfl, hc2⟩
        have hB2 := hB1.below hc2 hB1.lt
        have hb2 := hb1.trans (hc2.mono hb1.size)
        clear hB1 hb1 hc2
        go_wp2_with fail
        refine (cL.out _).mono ?_
        rintro e w3 ⟨rfl, hc30⟩
        have hc3 := hc30.below w2.heap.size
        have hB3 := hB2.below hc3 hB2.lt
        have hb3 := hb2.trans (hc3.mono hb2.size)
        clear hB2 hb2 hc3 hc30
        have k0 := (hB3.cell 0).trans rfl
        have k1 := (hB3.cell 1).trans rfl
        clear hB3
        go_wp2_with (go_at_call 66; refine (cA.out _).mono ?_; rintro e w' ⟨rfl, rfl⟩)
        go_ret2
        exact ⟨rfl, hb3⟩
    · rw [hK] at cK
      rw [abbrv_k4 hT hK]
      clear hT hK
      generalize letterR (P4.bl s) = V at cL
      have hout : P21.out (P20.text (off + save)) (decide (P20.text (off + save) ≠ [])) = if P20.text (off + save) = [] then ([], 15) else (P20.text (off + save), 0) := by
        unfold P21.out
        by_cases q : P20.text (off + save) = []
        · rw [if_neg (by simp [q]), if_pos q]
        · rw [if_pos (by simp [q]), if_neg q]
      rw [hout]
      clear hout
      obtain ⟨o0, o1⟩ := ho
      obtain ⟨s0, s1⟩ := hsv
      by_cases a1 : 100000 < off
      · have a1' : 0 < off := by omega
        by_cases b1 : 0 < save
        · skip
          have hX := far_text (a := off) (b := save) (by omega)
          rw [if_pos hX]
          clear hX
          go_enter Tryd.func26, Tryd.ntmps26
          go_wp2_with fail
          refine (cK.out _).mono ?_
          rintro e w1 ⟨rfl, hc1⟩
          have hB1 := hB.below hc1 hB.lt
          have hb1 := hb0.trans (hc1.mono hb0.size)
          clear hB hb0 hc1
          go_wp2_with fail
          refine (cP.out _).mono ?_
          rintro e w2 ⟨rfl, hc2⟩
          have hB2 := hB1.below hc2 hB1.lt
          have hb2 := hb1.trans (hc2.mono hb1.size)
          clear hB1 hb1 hc2
          go_wp2_with fail
          refine (cL.out _).mono ?_
          rintro e w3 ⟨rfl, hc30⟩
          have hc3 := hc30.below w2.heap.size
          have hB3 := hB2.below hc3 hB2.lt
          have hb3 := hb2.trans (hc3.mono hb2.size)
          clear hB2 hb2 hc3 hc30
          have k0 := (hB3.cell 0).trans rfl
          have k1 := (hB3.cell 1).trans rfl
          clear hB3
          go_wp2_with fail
          go_ret2
          exact ⟨rfl, hb3⟩
        · skip
          have cT : Hid (∀ W, Calls Tryd.prog 67 #[.int .i64 (off + save)] W fun e w' => e = .returned (.string (str (P20.text (off + save)))) ∧ Q W w') := fun W => rtext_any (off + save) W (by omega) (by omega)
          obtain ⟨X, hX⟩ : ∃ X, P20.text (off + save) = P20.text X := ⟨_, rfl⟩
          rw [hX] at cT
          rw [hX]
          clear hX
          have hq := str_toList (P20.text X)
          by_cases hE : P20.text X = []
          · rw [if_pos hE]
            rw [hE] at cT
            have hnil := str_toList []
            clear hq hE
            go_enter Tryd.func26, Tryd.ntmps26
            go_wp2_with fail
            refine (cK.out _).mono ?_
            rintro e w1 ⟨rfl, hc1⟩
            have hB1 := hB.below hc1 hB.lt
            have hb1 := hb0.trans (hc1.mono hb0.size)
            clear hB hb0 hc1
            go_wp2_with fail
            refine (cP.out _).mono ?_
            rintro e w2 ⟨rfl, hc2⟩
            have hB2 := hB1.below hc2 hB1.lt
            have hb2 := hb1.trans (hc2.mono hb1.size)
            clear hB1 hb1 hc2
            go_wp2_with fail
            refine (cL.out _).mono ?_
            rintro e w3 ⟨rfl, hc30⟩
            have hc3 := hc30.below w2.heap.size
            have hB3 := hB2.below hc3 hB2.lt
            have hb3 := hb2.trans (hc3.mono hb2.size)
            clear hB2 hb2 hc3 hc30
            have k0 := (hB3.cell 0).trans rfl
            have k1 := (hB3.cell 1).trans rfl
            clear hB3
            go_wp2_with fail
            refine (cT.out _).mono ?_
            rintro e w4 ⟨rfl, m4, rfl⟩
            go_wp2_with fail
            go_ret2
            exact ⟨rfl, below_drewN hb3 _⟩
          · rw [if_neg hE]
            have hE2 : (str (P20.text X)).toList.isEmpty = false := by rw [hq, List.isEmpty_eq_false_iff]; exact hE
            have hE3 : ¬ (str (P20.text X)).toList = [] := by rw [hq]; exact hE
            generalize P20.text X = t at cT hE2 hE3 ⊢
            clear hq hE
            go_enter Tryd.func26, Tryd.ntmps26
            go_wp2_with fail
            refine (cK.out _).mono ?_
            rintro e w1 ⟨rfl, hc1⟩
            have hB1 := hB.below hc1 hB.lt
            have hb1 := hb0.trans (hc1.mono hb0.size)
            clear hB hb0 hc1
            go_wp2_with fail
            refine (cP.out _).mono ?_
            rintro e w2 ⟨rfl, hc2⟩
            have hB2 := hB1.below hc2 hB1.lt
            have hb2 := hb1.trans (hc2.mono hb1.size)
            clear hB1 hb1 hc2
            go_wp2_with fail
            refine (cL.out _).mono ?_
            rintro e w3 ⟨rfl, hc30⟩
            have hc3 := hc30.below w2.heap.size
            have hB3 := hB2.below hc3 hB2.lt
            have hb3 := hb2.trans (hc3.mono hb2.size)
            clear hB2 hb2 hc3 hc30
            have k0 := (hB3.cell 0).trans rfl
            have k1 := (hB3.cell 1).trans rfl
            clear hB3
            go_wp2_with fail
            refine (cT.out _).mono ?_
            rintro e w4 ⟨rfl, m4, rfl⟩
            go_wp2_with fail
            refine (cT.out _).mono ?_
            rintro e w5 ⟨rfl, m5, rfl⟩
            go_wp2_with fail
            go_ret2
            exact ⟨rfl, below_drewN hb3 _⟩
      · by_cases a2 : off < -100000
        · have a2' : ¬ 0 < off := by omega
          by_cases b1 : 0 < save
          · skip
            have cT : Hid (∀ W, Calls Tryd.prog 67 #[.int .i64 (off + save)] W fun e w' => e = .returned (.string (str (P20.text (off + save)))) ∧ Q W w') := fun W => rtext_any (off + save) W (by omega) (by omega)
            obtain ⟨X, hX⟩ : ∃ X, P20.text (off + save) = P20.text X := ⟨_, rfl⟩
            rw [hX] at cT
            rw [hX]
            clear hX
            have hq := str_toList (P20.text X)
            by_cases hE : P20.text X = []
            · rw [if_pos hE]
              rw [hE] at cT
              have hnil := str_toList []
              clear hq hE
              go_enter Tryd.func26, Tryd.ntmps26
              go_wp2_with fail
              refine (cK.out _).mono ?_
              rintro e w1 ⟨rfl, hc1⟩
              have hB1 := hB.below hc1 hB.lt
              have hb1 := hb0.trans (hc1.mono hb0.size)
              clear hB hb0 hc1
              go_wp2_with fail
              refine (cP.out _).mono ?_
              rintro e w2 ⟨rfl, hc2⟩
              have hB2 := hB1.below hc2 hB1.lt
              have hb2 := hb1.trans (hc2.mono hb1.size)
              clear hB1 hb1 hc2
              go_wp2_with fail
              refine (cL.out _).mono ?_
              rintro e w3 ⟨rfl, hc30⟩
              have hc3 := hc30.below w2.heap.size
              have hB3 := hB2.below hc3 hB2.lt
              have hb3 := hb2.trans (hc3.mono hb2.size)
              clear hB2 hb2 hc3 hc30
              have k0 := (hB3.cell 0).trans rfl
              have k1 := (hB3.cell 1).trans rfl
              clear hB3
              go_wp2_with fail
              refine (cT.out _).mono ?_
              rintro e w4 ⟨rfl, m4, rfl⟩
              go_wp2_with fail
              go_ret2
              exact ⟨rfl, below_drewN hb3 _⟩
            · rw [if_neg hE]
              have hE2 : (str (P20.text X)).toList.isEmpty = false := by rw [hq, List.isEmpty_eq_false_iff]; exact hE
              have hE3 : ¬ (str (P20.text X)).toList = [] := by rw [hq]; exact hE
              generalize P20.text X = t at cT hE2 hE3 ⊢
              clear hq hE
              go_enter Tryd.func26, Tryd.ntmps26
              go_wp2_with fail
              refine (cK.out _).mono ?_
              rintro e w1 ⟨rfl, hc1⟩
              have hB1 := hB.below hc1 hB.lt
              have hb1 := hb0.trans (hc1.mono hb0.size)
              clear hB hb0 hc1
              go_wp2_with fail
              refine (cP.out _).mono ?_
              rintro e w2 ⟨rfl, hc2⟩
              have hB2 := hB1.below hc2 hB1.lt
              have hb2 := hb1.trans (hc2.mono hb1.size)
              clear hB1 hb1 hc2
              go_wp2_with fail
              refine (cL.out _).mono ?_
              rintro e w3 ⟨rfl, hc30⟩
              have hc3 := hc30.below w2.heap.size
              have hB3 := hB2.below hc3 hB2.lt
              have hb3 := hb2.trans (hc3.mono hb2.size)
              clear hB2 hb2 hc3 hc30
              have k0 := (hB3.cell 0).trans rfl
              have k1 := (hB3.cell 1).trans rfl
              clear hB3
              go_wp2_with fail
              refine (cT.out _).mono ?_
              rintro e w4 ⟨rfl, m4, rfl⟩
              go_wp2_with fail
              refine (cT.out _).mono ?_
              rintro e w5 ⟨rfl, m5, rfl⟩
              go_wp2_with fail
              go_ret2
              exact ⟨rfl, below_drewN hb3 _⟩
          · skip
            have hX := far_text (a := off) (b := save) (by omega)
            rw [if_pos hX]
            clear hX
            go_enter Tryd.func26, Tryd.ntmps26
            go_wp2_with fail
            refine (cK.out _).mono ?_
            rintro e w1 ⟨rfl, hc1⟩
            have hB1 := hB.below hc1 hB.lt
            have hb1 := hb0.trans (hc1.mono hb0.size)
            clear hB hb0 hc1
            go_wp2_with fail
            refine (cP.out _).mono ?_
            rintro e w2 ⟨rfl, hc2⟩
            have hB2 := hB1.below hc2 hB1.lt
            have hb2 := hb1.trans (hc2.mono hb1.size)
            clear hB1 hb1 hc2
            go_wp2_with fail
            refine (cL.out _).mono ?_
            rintro e w3 ⟨rfl, hc30⟩
            have hc3 := hc30.below w2.heap.size
            have hB3 := hB2.below hc3 hB2.lt
            have hb3 := hb2.trans (hc3.mono hb2.size)
            clear hB2 hb2 hc3 hc30
            have k0 := (hB3.cell 0).trans rfl
            have k1 := (hB3.cell 1).trans rfl
            clear hB3
            go_wp2_with fail
            go_ret2
            exact ⟨rfl, hb3⟩
        · by_cases a3 : 100000 < save
          · have a3' : 0 < save := by omega
            by_cases b1 : 0 < off
            · skip
              have hX := far_text (a := off) (b := save) (by omega)
              rw [if_pos hX]
              clear hX
              go_enter Tryd.func26, Tryd.ntmps26
              go_wp2_with fail
              refine (cK.out _).mono ?_
              rintro e w1 ⟨rfl, hc1⟩
              have hB1 := hB.below hc1 hB.lt
              have hb1 := hb0.trans (hc1.mono hb0.size)
              clear hB hb0 hc1
              go_wp2_with fail
              refine (cP.out _).mono ?_
              rintro e w2 ⟨rfl, hc2⟩
              have hB2 := hB1.below hc2 hB1.lt
              have hb2 := hb1.trans (hc2.mono hb1.size)
              clear hB1 hb1 hc2
              go_wp2_with fail
              refine (cL.out _).mono ?_
              rintro e w3 ⟨rfl, hc30⟩
              have hc3 := hc30.below w2.heap.size
              have hB3 := hB2.below hc3 hB2.lt
              have hb3 := hb2.trans (hc3.mono hb2.size)
              clear hB2 hb2 hc3 hc30
              have k0 := (hB3.cell 0).trans rfl
              have k1 := (hB3.cell 1).trans rfl
              clear hB3
              go_wp2_with fail
              go_ret2
              exact ⟨rfl, hb3⟩
            · skip
              have cT : Hid (∀ W, Calls Tryd.prog 67 #[.int .i64 (off + save)] W fun e w' => e = .returned (.string (str (P20.text (off + save)))) ∧ Q W w') := fun W => rtext_any (off + save) W (by omega) (by omega)
              obtain ⟨X, hX⟩ : ∃ X, P20.text (off + save) = P20.text X := ⟨_, rfl⟩
              rw [hX] at cT
              rw [hX]
              clear hX
              have hq := str_toList (P20.text X)
              by_cases hE : P20.text X = []
              · rw [if_pos hE]
                rw [hE] at cT
                have hnil := str_toList []
                clear hq hE
                go_enter Tryd.func26, Tryd.ntmps26
                go_wp2_with fail
                refine (cK.out _).mono ?_
                rintro e w1 ⟨rfl, hc1⟩
                have hB1 := hB.below hc1 hB.lt
                have hb1 := hb0.trans (hc1.mono hb0.size)
                clear hB hb0 hc1
                go_wp2_with fail
                refine (cP.out _).mono ?_
                rintro e w2 ⟨rfl, hc2⟩
                have hB2 := hB1.below hc2 hB1.lt
                have hb2 := hb1.trans (hc2.mono hb1.size)
                clear hB1 hb1 hc2
                go_wp2_with fail
                refine (cL.out _).mono ?_
                rintro e w3 ⟨rfl, hc30⟩
                have hc3 := hc30.below w2.heap.size
                have hB3 := hB2.below hc3 hB2.lt
                have hb3 := hb2.trans (hc3.mono hb2.size)
                clear hB2 hb2 hc3 hc30
                have k0 := (hB3.cell 0).trans rfl
                have k1 := (hB3.cell 1).trans rfl
                clear hB3
                go_wp2_with fail
                refine (cT.out _).mono ?_
                rintro e w4 ⟨rfl, m4, rfl⟩
                go_wp2_with fail
                go_ret2
                exact ⟨rfl, below_drewN hb3 _⟩
              · rw [if_neg hE]
                have hE2 : (str (P20.text X)).toList.isEmpty = false := by rw [hq, List.isEmpty_eq_false_iff]; exact hE
                have hE3 : ¬ (str (P20.text X)).toList = [] := by rw [hq]; exact hE
                generalize P20.text X = t at cT hE2 hE3 ⊢
                clear hq hE
                go_enter Tryd.func26, Tryd.ntmps26
                go_wp2_with fail
                refine (cK.out _).mono ?_
                rintro e w1 ⟨rfl, hc1⟩
                have hB1 := hB.below hc1 hB.lt
                have hb1 := hb0.trans (hc1.mono hb0.size)
                clear hB hb0 hc1
                go_wp2_with fail
                refine (cP.out _).mono ?_
                rintro e w2 ⟨rfl, hc2⟩
                have hB2 := hB1.below hc2 hB1.lt
                have hb2 := hb1.trans (hc2.mono hb1.size)
                clear hB1 hb1 hc2
                go_wp2_with fail
                refine (cL.out _).mono ?_
                rintro e w3 ⟨rfl, hc30⟩
                have hc3 := hc30.below w2.heap.size
                have hB3 := hB2.below hc3 hB2.lt
                have hb3 := hb2.trans (hc3.mono hb2.size)
                clear hB2 hb2 hc3 hc30
                have k0 := (hB3.cell 0).trans rfl
                have k1 := (hB3.cell 1).trans rfl
                clear hB3
                go_wp2_with fail
                refine (cT.out _).mono ?_
                rintro e w4 ⟨rfl, m4, rfl⟩
                go_wp2_with fail
                refine (cT.out _).mono ?_
                rintro e w5 ⟨rfl, m5, rfl⟩
                go_wp2_with fail
                go_ret2
                exact ⟨rfl, below_drewN hb3 _⟩
          · by_cases a4 : save < -100000
            · have a4' : ¬ 0 < save := by omega
              by_cases b1 : 0 < off
              · skip
                have cT : Hid (∀ W, Calls Tryd.prog 67 #[.int .i64 (off + save)] W fun e w' => e = .returned (.string (str (P20.text (off + save)))) ∧ Q W w') := fun W => rtext_any (off + save) W (by omega) (by omega)
                obtain ⟨X, hX⟩ : ∃ X, P20.text (off + save) = P20.text X := ⟨_, rfl⟩
                rw [hX] at cT
                rw [hX]
                clear hX
                have hq := str_toList (P20.text X)
                by_cases hE : P20.text X = []
                · rw [if_pos hE]
                  rw [hE] at cT
                  have hnil := str_toList []
                  clear hq hE
                  go_enter Tryd.func26, Tryd.ntmps26
                  go_wp2_with fail
                  refine (cK.out _).mono ?_
                  rintro e w1 ⟨rfl, hc1⟩
                  have hB1 := hB.below hc1 hB.lt
                  have hb1 := hb0.trans (hc1.mono hb0.size)
                  clear hB hb0 hc1
                  go_wp2_with fail
                  refine (cP.out _).mono ?_
                  rintro e w2 ⟨rfl, hc2⟩
                  have hB2 := hB1.below hc2 hB1.lt
                  have hb2 := hb1.trans (hc2.mono hb1.size)
                  clear hB1 hb1 hc2
                  go_wp2_with fail
                  refine (cL.out _).mono ?_
                  rintro e w3 ⟨rfl, hc30⟩
                  have hc3 := hc30.below w2.heap.size
                  have hB3 := hB2.below hc3 hB2.lt
                  have hb3 := hb2.trans (hc3.mono hb2.size)
                  clear hB2 hb2 hc3 hc30
                  have k0 := (hB3.cell 0).trans rfl
                  have k1 := (hB3.cell 1).trans rfl
                  clear hB3
                  go_wp2_with fail
                  refine (cT.out _).mono ?_
                  rintro e w4 ⟨rfl, m4, rfl⟩
                  go_wp2_with fail
                  go_ret2
                  exact ⟨rfl, below_drewN hb3 _⟩
                · rw [if_neg hE]
                  have hE2 : (str (P20.text X)).toList.isEmpty = false := by rw [hq, List.isEmpty_eq_false_iff]; exact hE
                  have hE3 : ¬ (str (P20.text X)).toList = [] := by rw [hq]; exact hE
                  generalize P20.text X = t at cT hE2 hE3 ⊢
                  clear hq hE
                  go_enter Tryd.func26, Tryd.ntmps26
                  go_wp2_with fail
                  refine (cK.out _).mono ?_
                  rintro e w1 ⟨rfl, hc1⟩
                  have hB1 := hB.below hc1 hB.lt
                  have hb1 := hb0.trans (hc1.mono hb0.size)
                  clear hB hb0 hc1
                  go_wp2_with fail
                  refine (cP.out _).mono ?_
                  rintro e w2 ⟨rfl, hc2⟩
                  have hB2 := hB1.below hc2 hB1.lt
                  have hb2 := hb1.trans (hc2.mono hb1.size)
                  clear hB1 hb1 hc2
                  go_wp2_with fail
                  refine (cL.out _).mono ?_
                  rintro e w3 ⟨rfl, hc30⟩
                  have hc3 := hc30.below w2.heap.size
                  have hB3 := hB2.below hc3 hB2.lt
                  have hb3 := hb2.trans (hc3.mono hb2.size)
                  clear hB2 hb2 hc3 hc30
                  have k0 := (hB3.cell 0).trans rfl
                  have k1 := (hB3.cell 1).trans rfl
                  clear hB3
                  go_wp2_with fail
                  refine (cT.out _).mono ?_
                  rintro e w4 ⟨rfl, m4, rfl⟩
                  go_wp2_with fail
                  refine (cT.out _).mono ?_
                  rintro e w5 ⟨rfl, m5, rfl⟩
                  go_wp2_with fail
                  go_ret2
                  exact ⟨rfl, below_drewN hb3 _⟩
              · skip
                have hX := far_text (a := off) (b := save) (by omega)
                rw [if_pos hX]
                clear hX
                go_enter Tryd.func26, Tryd.ntmps26
                go_wp2_with fail
                refine (cK.out _).mono ?_
                rintro e w1 ⟨rfl, hc1⟩
                have hB1 := hB.below hc1 hB.lt
                have hb1 := hb0.trans (hc1.mono hb0.size)
                clear hB hb0 hc1
                go_wp2_with fail
                refine (cP.out _).mono ?_
                rintro e w2 ⟨rfl, hc2⟩
                have hB2 := hB1.below hc2 hB1.lt
                have hb2 := hb1.trans (hc2.mono hb1.size)
                clear hB1 hb1 hc2
                go_wp2_with fail
                refine (cL.out _).mono ?_
                rintro e w3 ⟨rfl, hc30⟩
                have hc3 := hc30.below w2.heap.size
                have hB3 := hB2.below hc3 hB2.lt
                have hb3 := hb2.trans (hc3.mono hb2.size)
                clear hB2 hb2 hc3 hc30
                have k0 := (hB3.cell 0).trans rfl
                have k1 := (hB3.cell 1).trans rfl
                clear hB3
                go_wp2_with fail
                go_ret2
                exact ⟨rfl, hb3⟩
            · skip
              have cT : Hid (∀ W, Calls Tryd.prog 67 #[.int .i64 (off + save)] W fun e w' => e = .returned (.string (str (P20.text (off + save)))) ∧ Q W w') := fun W => rtext_any (off + save) W (by omega) (by omega)
              obtain ⟨X, hX⟩ : ∃ X, P20.text (off + save) = P20.text X := ⟨_, rfl⟩
              rw [hX] at cT
              rw [hX]
              clear hX
              have hq := str_toList (P20.text X)
              by_cases hE : P20.text X = []
              · rw [if_pos hE]
                rw [hE] at cT
                have hnil := str_toList []
                clear hq hE
                go_enter Tryd.func26, Tryd.ntmps26
                go_wp2_with fail
                refine (cK.out _).mono ?_
                rintro e w1 ⟨rfl, hc1⟩
                have hB1 := hB.below hc1 hB.lt
                have hb1 := hb0.trans (hc1.mono hb0.size)
                clear hB hb0 hc1
                go_wp2_with fail
                refine (cP.out _).mono ?_
                rintro e w2 ⟨rfl, hc2⟩
                have hB2 := hB1.below hc2 hB1.lt
                have hb2 := hb1.trans (hc2.mono hb1.size)
                clear hB1 hb1 hc2
                go_wp2_with fail
                refine (cL.out _).mono ?_
                rintro e w3 ⟨rfl, hc30⟩
                have hc3 := hc30.below w2.heap.size
                have hB3 := hB2.below hc3 hB2.lt
                have hb3 := hb2.trans (hc3.mono hb2.size)
                clear hB2 hb2 hc3 hc30
                have k0 := (hB3.cell 0).trans rfl
                have k1 := (hB3.cell 1).trans rfl
                clear hB3
                go_wp2_with fail
                refine (cT.out _).mono ?_
                rintro e w4 ⟨rfl, m4, rfl⟩
                go_wp2_with fail
                go_ret2
                exact ⟨rfl, below_drewN hb3 _⟩
              · rw [if_neg hE]
                have hE2 : (str (P20.text X)).toList.isEmpty = false := by rw [hq, List.isEmpty_eq_false_iff]; exact hE
                have hE3 : ¬ (str (P20.text X)).toList = [] := by rw [hq]; exact hE
                generalize P20.text X = t at cT hE2 hE3 ⊢
                clear hq hE
                go_enter Tryd.func26, Tryd.ntmps26
                go_wp2_with fail
                refine (cK.out _).mono ?_
                rintro e w1 ⟨rfl, hc1⟩
                have hB1 := hB.below hc1 hB.lt
                have hb1 := hb0.trans (hc1.mono hb0.size)
                clear hB hb0 hc1
                go_wp2_with fail
                refine (cP.out _).mono ?_
                rintro e w2 ⟨rfl, hc2⟩
                have hB2 := hB1.below hc2 hB1.lt
                have hb2 := hb1.trans (hc2.mono hb1.size)
                clear hB1 hb1 hc2
                go_wp2_with fail
                refine (cL.out _).mono ?_
                rintro e w3 ⟨rfl, hc30⟩
                have hc3 := hc30.below w2.heap.size
                have hB3 := hB2.below hc3 hB2.lt
                have hb3 := hb2.trans (hc3.mono hb2.size)
                clear hB2 hb2 hc3 hc30
                have k0 := (hB3.cell 0).trans rfl
                have k1 := (hB3.cell 1).trans rfl
                clear hB3
                go_wp2_with fail
                refine (cT.out _).mono ?_
                rintro e w4 ⟨rfl, m4, rfl⟩
                go_wp2_with fail
                go_ret2
                exact ⟨rfl, below_drewN hb3 _⟩
    · rw [hK] at cK
      rw [abbrv_k1 hT (.inr hK)]
      clear hT hK
      generalize letterR (P4.bl s) = V at cL
      go_enter Tryd.func26, Tryd.ntmps26
      go_wp2_with fail
      refine (cK.out _).mono ?_
      rintro e w1 ⟨rfl, hc1⟩
      have hB1 := hB.below hc1 hB.lt
      have hb1 := hb0.trans (hc1.mono hb0.size)
      clear hB hb0 hc1
      go_wp2_with fail
      refine (cP.out _).mono ?_
      rintro e w2 ⟨rfl, hc2⟩
      have hB2 := hB1.below hc2 hB1.lt
      have hb2 := hb1.trans (hc2.mono hb1.size)
      clear hB1 hb1 hc2
      go_wp2_with fail
      refine (cL.out _).mono ?_
      rintro e w3 ⟨rfl, hc30⟩
      have hc3 := hc30.below w2.heap.size
      have hB3 := hB2.below hc3 hB2.lt
      have hb3 := hb2.trans (hc3.mono hb2.size)
      clear hB2 hb2 hc3 hc30
      have k0 := (hB3.cell 0).trans rfl
      have k1 := (hB3.cell 1).trans rfl
      clear hB3
      go_wp2_with fail
      go_ret2
      exact ⟨rfl, hb3⟩
end Go.Proofs.YtbajlkpjemandaaDoor
