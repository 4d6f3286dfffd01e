/- The walk of the reference's letter (chapter 21). -/
import Derived.Test.YtbajlkpjemandaaDoorFmt21b
namespace Go.Proofs.YtbajlkpjemandaaDoor
open Go.RowKit Go.Lib
set_option linter.unusedVariables false

/-- the reference's form of a FORMAT with a letter -/
def letterR (l : List UInt8) : List UInt8 × List UInt8 × Bool := if ((P21.pct l).2.2 && ((P21.pct l).1 ++ (P21.pct l).2.1).all P21.isL) = true then ((P21.pct l).1, (P21.pct l).2.1, decide (((P21.pct l).1 ++ (P21.pct l).2.1).length ≤ 5)) else ([], [], false)
theorem letterR_is (l : List UInt8) : (letterR l).2.2 = P21.letter l := by
  unfold letterR P21.letter
  cases (P21.pct l).2.2 with
  | false => rfl
  | true =>
    cases ((P21.pct l).1 ++ (P21.pct l).2.1).all P21.isL with
    | false => rfl
    | true => rfl
theorem letterR_hit {l : List UInt8} (h : P21.letter l = true) : letterR l = ((P21.pct l).1, (P21.pct l).2.1, true) := by
  have h2 := h
  unfold P21.letter at h2
  simp only [Bool.and_eq_true, decide_eq_true_eq] at h2
  unfold letterR
  rw [if_pos (by rw [h2.1, h2.2.1]; rfl), decide_eq_true h2.2.2]
theorem u8_ne {c : UInt8} {n : Nat} (hn : n < 256) (h : c ≠ UInt8.ofNat n) : ((c.toNat : Int) != (n : Int)) = true := by
  rw [bne_iff_ne]
  intro q
  exact h (UInt8.toNat_inj.1 (by rw [UInt8.toNat_ofNat']; omega))
theorem isL_goes (c : UInt8) : (P21.isL c = true ∧ ((65 ≤ (c.toNat : Int) ∧ (c.toNat : Int) ≤ 90) ∨ (¬ (c.toNat : Int) ≤ 90 ∧ 97 ≤ (c.toNat : Int) ∧ (c.toNat : Int) ≤ 122))) ∨
    (P21.isL c = false ∧ (((c.toNat : Int) < 65 ∧ (c.toNat : Int) < 97) ∨ (¬ (c.toNat : Int) < 65 ∧ 90 < (c.toNat : Int) ∧ (c.toNat : Int) < 97) ∨ (¬ (c.toNat : Int) < 65 ∧ ¬ (c.toNat : Int) < 97 ∧ 90 < (c.toNat : Int) ∧ 122 < (c.toNat : Int)))) := by
  unfold P21.isL P21.isLr
  by_cases h : (65 ≤ c.toNat ∧ c.toNat ≤ 90) ∨ (97 ≤ c.toNat ∧ c.toNat ≤ 122)
  · left
    refine ⟨by simpa using h, ?_⟩
    omega
  · right
    refine ⟨by simp; omega, ?_⟩
    omega
set_option maxRecDepth 100000 in
set_option maxHeartbeats 8000000 in
theorem rletter21_any (s : ByteArray) (w : World) (hs : s.size ≤ 1000000) :
    Calls Tryd.prog 65 #[.string s] w fun e w' => e = .returned (.tuple #[.string (str (letterR (P4.bl s)).1), .string (str (letterR (P4.bl s)).2.1), .bool (letterR (P4.bl s)).2.2]) ∧ Q w w' := by
  obtain ⟨R, hR⟩ : ∃ R, letterR (P4.bl s) = R := ⟨_, rfl⟩
  rw [hR]
  have HR := Lib.hid hR
  clear hR
  have hsi : (s.size : Int) ≤ 1000000 := by omega
  go_enter Tryd.func65, Tryd.ntmps65
  go_wp2_with fail
  go_loop [5] (fun i => ∃ k : Nat, k ≤ s.size ∧ i = .int .i64 (k : Int) ∧ Hid (∀ j, j < k → (P4.bl s)[j]? ≠ some 37 ∨ (P4.bl s)[j + 1]? ≠ some 115)) (fun i => s.size - (intOf i).toNat)
  case atStart => exact ⟨0, Nat.zero_le _, rfl, Lib.hid fun j hj => absurd hj (Nat.not_lt_zero _)⟩
  case round =>
    obtain ⟨k, hk, rfl, HA⟩ := hrel
    by_cases hlt : k + 1 < s.size
    · have hki : (k : Int) + 1 < (s.size : Int) := by omega
      have hlt0 : k < s.size := by omega
      have hb := P4.bl_get s k hlt0
      obtain ⟨c, hc⟩ : ∃ c, s[k]'hlt0 = c := ⟨_, rfl⟩
      rw [hc] at hb
      have hb2 := P4.bl_get s (k + 1) hlt
      obtain ⟨d, hd⟩ : ∃ d, s[k + 1]'hlt = d := ⟨_, rfl⟩
      rw [hd] at hb2
      have HB := Lib.hid hb
      have HB2 := Lib.hid hb2
      clear hb hb2
      by_cases hq : c = 37
      · by_cases hq2 : d = 115
        · subst hq
          subst hq2
          have HP : Hid (P21.pct (P4.bl s) = ((P4.bl s).take k, (P4.bl s).drop (k + 2), true)) := Lib.hid (P21.cut2_at HB.out HB2.out HA.out)
          have e1 := str_take s k
          have e2 := str_drop s (k + 2)
          have hcat := cat_run (P := Tryd.prog) ((P4.bl s).take k) ((P4.bl s).drop (k + 2)) (by rw [List.length_take, List.length_drop, P4.bl_len]; omega)
          rw [← e1, ← e2] at hcat
          have hAB := str_data ((P4.bl s).take k ++ (P4.bl s).drop (k + 2))
          have hABs := str_size ((P4.bl s).take k ++ (P4.bl s).drop (k + 2))
          have hABl : ((P4.bl s).take k ++ (P4.bl s).drop (k + 2)).length ≤ s.size := by rw [List.length_append, List.length_take, List.length_drop, P4.bl_len]; omega
          have HE := Lib.hid (And.intro e1 e2)
          generalize str ((P4.bl s).take k ++ (P4.bl s).drop (k + 2)) = AB at hcat hAB hABs
          have HAB := Lib.hid hAB
          have habz : (AB.size : Int) ≤ (s.size : Int) := by omega
          have HABs := Lib.hid hABs
          clear HA e1 e2 hAB hABs hABl
          go_wp2_with fail
          go_quiet (fail)
          go_wp2_with fail
          go_loop [7] (fun i => ∃ m : Nat, m ≤ AB.size ∧ i = .int .i64 (m : Int) ∧ Hid (((P4.bl AB).take m).all P21.isL = true)) (fun i => AB.size - (intOf i).toNat)
          case atStart => exact ⟨0, Nat.zero_le _, rfl, Lib.hid rfl⟩
          case round =>
            obtain ⟨m, hm, rfl, HL⟩ := hrel
            by_cases hlm : m < AB.size
            · have hmi : (m : Int) < (AB.size : Int) := by omega
              have hmb := P4.bl_get AB m hlm
              obtain ⟨x, hx⟩ : ∃ x, AB[m]'hlm = x := ⟨_, rfl⟩
              rw [hx] at hmb
              have HM := Lib.hid hmb
              clear hmb
              rcases isL_goes x with ⟨hL, hgo⟩ | ⟨hL, hgo⟩
              · have HS := Lib.hid (all_take_succ HM.out HL.out hL)
                clear hL HL HM
                rcases hgo with ⟨g1, g2⟩ | ⟨g1, g2, g3⟩
                all_goals
                  go_wp2_with fail
                  go_round
                  case rel => exact ⟨m + 1, by omega, by go_num, HS⟩
                  case measure => simp [intOf]; omega
              · have HN : Hid (R = ([], [], false)) := by
                  have r := HR.out
                  have q := all_no HM.out hL
                  rw [show P4.bl AB = _ from HAB.out] at q
                  unfold letterR at r
                  rw [HP.out] at r
                  simp only [] at r
                  rw [q, if_neg (by simp)] at r
                  exact Lib.hid r.symm
                clear hL HL HM
                rcases hgo with ⟨g1, g2⟩ | ⟨g1, g2, g3⟩ | ⟨g1, g2, g3, g4⟩
                all_goals
                  go_wp2_with fail
                  go_ret3
                  exact ⟨by rw [HN.out]; rfl, Q.drewN _ _⟩
            · obtain rfl : m = AB.size := by omega
              have HN : Hid (R = ((P4.bl s).take k, (P4.bl s).drop (k + 2), decide ((AB.size : Int) ≤ 5))) := by
                have r := HR.out
                have q := HL.out
                rw [List.take_of_length_le (by rw [P4.bl_len]; exact Nat.le_refl _), show P4.bl AB = _ from HAB.out] at q
                unfold letterR at r
                rw [HP.out] at r
                simp only [] at r
                rw [q, if_pos (show (true && true) = true from rfl), ← HABs.out] at r
                rw [← r]
                exact Lib.hid (by rw [show decide ((AB.size : Int) ≤ 5) = decide (AB.size ≤ 5) from decide_eq_decide.2 (by omega)])
              clear HL
              go_wp2_with fail
              go_quiet (fail)
              go_wp2_with fail
              go_ret3
              exact ⟨by rw [HN.out, ← HE.out.1, ← HE.out.2]; rfl, by first | exact ⟨_, rfl⟩ | exact ⟨_, World.drewN_drewN _ _ _⟩⟩
        · have hq2' := u8_ne (c := d) (n := 115) (by omega) hq2
          subst hq
          have HS : Hid (∀ j, j < k + 1 → (P4.bl s)[j]? ≠ some 37 ∨ (P4.bl s)[j + 1]? ≠ some 115) := Lib.hid fun j hj => by
            rcases Nat.lt_succ_iff_lt_or_eq.mp hj with hj | rfl
            · exact HA.out j hj
            · rw [HB2.out]; exact .inr fun q => hq2 (Option.some.inj q)
          clear hq2 HA
          go_wp2_with fail
          go_round
          case rel => exact ⟨k + 1, by omega, by go_num, HS⟩
          case measure => simp [intOf]; omega
      · have hq' := u8_ne (c := c) (n := 37) (by omega) hq
        have HS : Hid (∀ j, j < k + 1 → (P4.bl s)[j]? ≠ some 37 ∨ (P4.bl s)[j + 1]? ≠ some 115) := Lib.hid fun j hj => by
          rcases Nat.lt_succ_iff_lt_or_eq.mp hj with hj | rfl
          · exact HA.out j hj
          · rw [HB.out]; exact .inl fun q => hq (Option.some.inj q)
        clear hq HA
        go_wp2_with fail
        go_round
        case rel => exact ⟨k + 1, by omega, by go_num, HS⟩
        case measure => simp [intOf]; omega
    · have hki : ¬ (k : Int) + 1 < (s.size : Int) := by omega
      have HN : Hid (R = ([], [], false)) := by
        have r := HR.out
        have q := P21.cut2_no (l := P4.bl s) (c := 37) (d := 115) fun j hj => HA.out j (by rw [P4.bl_len] at hj; omega)
        unfold letterR at r
        rw [show P21.pct (P4.bl s) = _ from q, if_neg (by simp)] at r
        exact Lib.hid r.symm
      clear HR HA
      go_wp2_with fail
      go_ret3
      exact ⟨by rw [HN.out]; rfl, Q.refl _⟩
end Go.Proofs.YtbajlkpjemandaaDoor
