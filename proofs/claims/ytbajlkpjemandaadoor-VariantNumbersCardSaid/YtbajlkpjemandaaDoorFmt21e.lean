/- The walks of the reference's Kind, of both Parts, of right and Add (chapter 21). -/
import Derived.Test.YtbajlkpjemandaaDoorFmt21d
namespace Go.Proofs.YtbajlkpjemandaaDoor
open Go.RowKit Go.Lib
set_option linter.unusedVariables false

theorem slashR_is (l : List UInt8) : (slashR l).2.2 = (P21.slash l).2.2 := by
  unfold slashR
  cases h : (P21.slash l).2.2 with
  | true => rw [if_pos rfl, h]
  | false => rw [if_neg (by simp)]
theorem slashR_hit {l : List UInt8} (h : (P21.slash l).2.2 = true) : slashR l = P21.slash l := by unfold slashR; rw [if_pos h]
theorem slashR_len (s : ByteArray) : (str (slashR (P4.bl s)).1).size + (str (slashR (P4.bl s)).2.1).size ≤ s.size := by
  cases h : (P21.slash (P4.bl s)).2.2 with
  | true => rw [slashR_hit h]; exact lss_cut s
  | false => unfold slashR; rw [h, if_neg (by simp)]; simp [str_size]
theorem kind_testsR (l : List UInt8) : P21.kind l = if P21.abbr l = true then 1 else if ((slashR l).2.2 && P21.abbr (slashR l).1 && P21.abbr (slashR l).2.1) = true then 2 else if (letterR l).2.2 = true then 3 else if l = [37, 122] then 4 else if (P21.num l || ((slashR l).2.2 && P21.num (slashR l).1 && P21.num (slashR l).2.1)) = true then 5 else 0 := by
  rw [kind_tests, letterR_is, slashR_is]
  cases h : (P21.slash l).2.2 with
  | true => rw [slashR_hit h]
  | false => rfl
set_option maxRecDepth 100000 in
set_option maxHeartbeats 8000000 in
theorem rkind_any (s : ByteArray) (w : World) (hs : s.size ≤ 1000000) :
    Calls Tryd.prog 27 #[.string s] w fun e w' => e = .returned (.int .i64 (P21.kind (P4.bl s))) ∧ Below w.heap.size w w' := by
  have cC : Hid (∀ W, Calls Tryd.prog 64 #[.string s] W fun e w' => e = .returned (.tuple #[.string (str (slashR (P4.bl s)).1), .string (str (slashR (P4.bl s)).2.1), .bool (slashR (P4.bl s)).2.2]) ∧ Q W w') := fun W => rslash_any s W hs
  have cL : Hid (∀ W, Calls Tryd.prog 65 #[.string s] W fun e w' => e = .returned (.tuple #[.string (str (letterR (P4.bl s)).1), .string (str (letterR (P4.bl s)).2.1), .bool (letterR (P4.bl s)).2.2]) ∧ Q W w') := fun W => rletter21_any s W hs
  have rA : ∀ (t : ByteArray) (W : World), t.size ≤ 1000000 → Calls Tryd.prog 66 #[.string t] W fun e w' => e = .returned (.bool (P21.abbr (P4.bl t))) ∧ Q W w' := fun t W h => (rabbr_any t W h).mono fun _ _ ⟨h1, h2⟩ => ⟨h1, h2 ▸ Q.refl _⟩
  have cA : Hid (∀ W, Calls Tryd.prog 66 #[.string s] W fun e w' => e = .returned (.bool (P21.abbr (P4.bl s))) ∧ Q W w') := fun W => rA s W hs
  have cI : Hid (∀ W, Calls Tryd.prog 68 #[.string s] W fun e w' => e = .returned (.bool (P21.num (P4.bl s))) ∧ Q W w') := fun W => rnumber_any s W hs
  have hsl := slashR_len s
  have cA1 : Hid (∀ W, Calls Tryd.prog 66 #[.string (str (slashR (P4.bl s)).1)] W fun e w' => e = .returned (.bool (P21.abbr (slashR (P4.bl s)).1)) ∧ Q W w') := fun W => rA (str (slashR (P4.bl s)).1) W (by omega)
  have cA2 : Hid (∀ W, Calls Tryd.prog 66 #[.string (str (slashR (P4.bl s)).2.1)] W fun e w' => e = .returned (.bool (P21.abbr (slashR (P4.bl s)).2.1)) ∧ Q W w') := fun W => rA (str (slashR (P4.bl s)).2.1) W (by omega)
  have cI1 : Hid (∀ W, Calls Tryd.prog 68 #[.string (str (slashR (P4.bl s)).1)] W fun e w' => e = .returned (.bool (P21.num (slashR (P4.bl s)).1)) ∧ Q W w') := fun W => rnumber_any (str (slashR (P4.bl s)).1) W (by omega)
  have cI2 : Hid (∀ W, Calls Tryd.prog 68 #[.string (str (slashR (P4.bl s)).2.1)] W fun e w' => e = .returned (.bool (P21.num (slashR (P4.bl s)).2.1)) ∧ Q W w') := fun W => rnumber_any (str (slashR (P4.bl s)).2.1) W (by omega)
  obtain ⟨R, hR⟩ : ∃ R, P21.kind (P4.bl s) = R := ⟨_, rfl⟩
  rw [hR]
  rw [kind_testsR] at hR
  have hz : (P4.bl s = [37, 122] ∧ (s.toList == [37, 122]) = true) ∨ (¬ P4.bl s = [37, 122] ∧ (s.toList == [37, 122]) = false) := by
    by_cases q : P4.bl s = [37, 122]
    · refine .inl ⟨q, ?_⟩
      have : s = str [37, 122] := by rw [← q]; exact (str_bl s).symm
      rw [this, str_toList]; rfl
    · exact .inr ⟨q, by have x := eq_b s (str [37, 122]) (ne_size q); rwa [str_toList] at x⟩
  clear rA
  generalize P21.abbr (P4.bl s) = A at hR cA
  generalize P21.num (P4.bl s) = I at hR cI
  generalize P21.abbr (slashR (P4.bl s)).1 = A1 at hR cA1
  generalize P21.abbr (slashR (P4.bl s)).2.1 = A2 at hR cA2
  generalize P21.num (slashR (P4.bl s)).1 = I1 at hR cI1
  generalize P21.num (slashR (P4.bl s)).2.1 = I2 at hR cI2
  generalize (slashR (P4.bl s)).2.2 = T at hR cC
  generalize (letterR (P4.bl s)).2.2 = L at hR cL
  generalize str (slashR (P4.bl s)).1 = SA at cC cA1 cI1
  generalize str (slashR (P4.bl s)).2.1 = SB at cC cA2 cI2
  generalize str (letterR (P4.bl s)).1 = PA at cL
  generalize str (letterR (P4.bl s)).2.1 = PB at cL
  have HR := Lib.hid hR
  clear hR hsl hs
  cases A with
  | true =>
    go_enter Tryd.func27, Tryd.ntmps27
    go_wp2_with fail
    refine (cC.out _).mono ?_
    rintro e w1 ⟨rfl, hc10⟩
    have hc1 := hc10.below w.heap.size
    have hb1 := hc1
    go_wp2_with fail
    refine (cL.out _).mono ?_
    rintro e w2 ⟨rfl, hc20⟩
    have hc2 := hc20.below w1.heap.size
    have hb2 := hb1.trans (hc2.mono hb1.size)
    go_wp2_with fail
    refine (cA.out _).mono ?_
    rintro e w3 ⟨rfl, hc30⟩
    have hc3 := hc30.below w2.heap.size
    have hb3 := hb2.trans (hc3.mono hb2.size)
    go_wp2_with fail
    go_ret
    exact ⟨by rw [show R = 1 from HR.out.symm.trans (by simp)]; rfl, hb3⟩
  | false =>
    cases T with
    | true =>
      cases A1 with
      | true =>
        cases A2 with
        | true =>
          go_enter Tryd.func27, Tryd.ntmps27
          go_wp2_with fail
          refine (cC.out _).mono ?_
          rintro e w1 ⟨rfl, hc10⟩
          have hc1 := hc10.below w.heap.size
          have hb1 := hc1
          go_wp2_with fail
          refine (cL.out _).mono ?_
          rintro e w2 ⟨rfl, hc20⟩
          have hc2 := hc20.below w1.heap.size
          have hb2 := hb1.trans (hc2.mono hb1.size)
          go_wp2_with fail
          refine (cA.out _).mono ?_
          rintro e w3 ⟨rfl, hc30⟩
          have hc3 := hc30.below w2.heap.size
          have hb3 := hb2.trans (hc3.mono hb2.size)
          go_wp2_with fail
          refine (cA1.out _).mono ?_
          rintro e w4 ⟨rfl, hc40⟩
          have hc4 := hc40.below w3.heap.size
          have hb4 := hb3.trans (hc4.mono hb3.size)
          go_wp2_with fail
          refine (cA2.out _).mono ?_
          rintro e w5 ⟨rfl, hc50⟩
          have hc5 := hc50.below w4.heap.size
          have hb5 := hb4.trans (hc5.mono hb4.size)
          go_wp2_with fail
          go_ret
          exact ⟨by rw [show R = 2 from HR.out.symm.trans (by simp)]; rfl, hb5⟩
        | false =>
          cases L with
          | true =>
            go_enter Tryd.func27, Tryd.ntmps27
            go_wp2_with fail
            refine (cC.out _).mono ?_
            rintro e w1 ⟨rfl, hc10⟩
            have hc1 := hc10.below w.heap.size
            have hb1 := hc1
            go_wp2_with fail
            refine (cL.out _).mono ?_
            rintro e w2 ⟨rfl, hc20⟩
            have hc2 := hc20.below w1.heap.size
            have hb2 := hb1.trans (hc2.mono hb1.size)
            go_wp2_with fail
            refine (cA.out _).mono ?_
            rintro e w3 ⟨rfl, hc30⟩
            have hc3 := hc30.below w2.heap.size
            have hb3 := hb2.trans (hc3.mono hb2.size)
            go_wp2_with fail
            refine (cA1.out _).mono ?_
            rintro e w4 ⟨rfl, hc40⟩
            have hc4 := hc40.below w3.heap.size
            have hb4 := hb3.trans (hc4.mono hb3.size)
            go_wp2_with fail
            refine (cA2.out _).mono ?_
            rintro e w5 ⟨rfl, hc50⟩
            have hc5 := hc50.below w4.heap.size
            have hb5 := hb4.trans (hc5.mono hb4.size)
            go_wp2_with fail
            go_ret
            exact ⟨by rw [show R = 3 from HR.out.symm.trans (by simp)]; rfl, hb5⟩
          | false =>
            rcases hz with ⟨hz1, hz2⟩ | ⟨hz1, hz2⟩
            · skip
              go_enter Tryd.func27, Tryd.ntmps27
              go_wp2_with fail
              refine (cC.out _).mono ?_
              rintro e w1 ⟨rfl, hc10⟩
              have hc1 := hc10.below w.heap.size
              have hb1 := hc1
              go_wp2_with fail
              refine (cL.out _).mono ?_
              rintro e w2 ⟨rfl, hc20⟩
              have hc2 := hc20.below w1.heap.size
              have hb2 := hb1.trans (hc2.mono hb1.size)
              go_wp2_with fail
              refine (cA.out _).mono ?_
              rintro e w3 ⟨rfl, hc30⟩
              have hc3 := hc30.below w2.heap.size
              have hb3 := hb2.trans (hc3.mono hb2.size)
              go_wp2_with fail
              refine (cA1.out _).mono ?_
              rintro e w4 ⟨rfl, hc40⟩
              have hc4 := hc40.below w3.heap.size
              have hb4 := hb3.trans (hc4.mono hb3.size)
              go_wp2_with fail
              refine (cA2.out _).mono ?_
              rintro e w5 ⟨rfl, hc50⟩
              have hc5 := hc50.below w4.heap.size
              have hb5 := hb4.trans (hc5.mono hb4.size)
              go_wp2_with fail
              go_ret
              exact ⟨by rw [show R = 4 from HR.out.symm.trans (by simp [hz1])]; rfl, hb5⟩
            · skip
              cases I with
              | true =>
                go_enter Tryd.func27, Tryd.ntmps27
                go_wp2_with fail
                refine (cC.out _).mono ?_
                rintro e w1 ⟨rfl, hc10⟩
                have hc1 := hc10.below w.heap.size
                have hb1 := hc1
                go_wp2_with fail
                refine (cL.out _).mono ?_
                rintro e w2 ⟨rfl, hc20⟩
                have hc2 := hc20.below w1.heap.size
                have hb2 := hb1.trans (hc2.mono hb1.size)
                go_wp2_with fail
                refine (cA.out _).mono ?_
                rintro e w3 ⟨rfl, hc30⟩
                have hc3 := hc30.below w2.heap.size
                have hb3 := hb2.trans (hc3.mono hb2.size)
                go_wp2_with fail
                refine (cA1.out _).mono ?_
                rintro e w4 ⟨rfl, hc40⟩
                have hc4 := hc40.below w3.heap.size
                have hb4 := hb3.trans (hc4.mono hb3.size)
                go_wp2_with fail
                refine (cA2.out _).mono ?_
                rintro e w5 ⟨rfl, hc50⟩
                have hc5 := hc50.below w4.heap.size
                have hb5 := hb4.trans (hc5.mono hb4.size)
                go_wp2_with fail
                refine (cI.out _).mono ?_
                rintro e w6 ⟨rfl, hc60⟩
                have hc6 := hc60.below w5.heap.size
                have hb6 := hb5.trans (hc6.mono hb5.size)
                go_wp2_with fail
                go_ret
                exact ⟨by rw [show R = 5 from HR.out.symm.trans (by simp [hz1])]; rfl, hb6⟩
              | false =>
                cases I1 with
                | true =>
                  cases I2 with
                  | true =>
                    go_enter Tryd.func27, Tryd.ntmps27
                    go_wp2_with fail
                    refine (cC.out _).mono ?_
                    rintro e w1 ⟨rfl, hc10⟩
                    have hc1 := hc10.below w.heap.size
                    have hb1 := hc1
                    go_wp2_with fail
                    refine (cL.out _).mono ?_
                    rintro e w2 ⟨rfl, hc20⟩
                    have hc2 := hc20.below w1.heap.size
                    have hb2 := hb1.trans (hc2.mono hb1.size)
                    go_wp2_with fail
                    refine (cA.out _).mono ?_
                    rintro e w3 ⟨rfl, hc30⟩
                    have hc3 := hc30.below w2.heap.size
                    have hb3 := hb2.trans (hc3.mono hb2.size)
                    go_wp2_with fail
                    refine (cA1.out _).mono ?_
                    rintro e w4 ⟨rfl, hc40⟩
                    have hc4 := hc40.below w3.heap.size
                    have hb4 := hb3.trans (hc4.mono hb3.size)
                    go_wp2_with fail
                    refine (cA2.out _).mono ?_
                    rintro e w5 ⟨rfl, hc50⟩
                    have hc5 := hc50.below w4.heap.size
                    have hb5 := hb4.trans (hc5.mono hb4.size)
                    go_wp2_with fail
                    refine (cI.out _).mono ?_
                    rintro e w6 ⟨rfl, hc60⟩
                    have hc6 := hc60.below w5.heap.size
                    have hb6 := hb5.trans (hc6.mono hb5.size)
                    go_wp2_with fail
                    refine (cI1.out _).mono ?_
                    rintro e w7 ⟨rfl, hc70⟩
                    have hc7 := hc70.below w6.heap.size
                    have hb7 := hb6.trans (hc7.mono hb6.size)
                    go_wp2_with fail
                    refine (cI2.out _).mono ?_
                    rintro e w8 ⟨rfl, hc80⟩
                    have hc8 := hc80.below w7.heap.size
                    have hb8 := hb7.trans (hc8.mono hb7.size)
                    go_wp2_with fail
                    go_ret
                    exact ⟨by rw [show R = 5 from HR.out.symm.trans (by simp [hz1])]; rfl, hb8⟩
                  | false =>
                    go_enter Tryd.func27, Tryd.ntmps27
                    go_wp2_with fail
                    refine (cC.out _).mono ?_
                    rintro e w1 ⟨rfl, hc10⟩
                    have hc1 := hc10.below w.heap.size
                    have hb1 := hc1
                    go_wp2_with fail
                    refine (cL.out _).mono ?_
                    rintro e w2 ⟨rfl, hc20⟩
                    have hc2 := hc20.below w1.heap.size
                    have hb2 := hb1.trans (hc2.mono hb1.size)
                    go_wp2_with fail
                    refine (cA.out _).mono ?_
                    rintro e w3 ⟨rfl, hc30⟩
                    have hc3 := hc30.below w2.heap.size
                    have hb3 := hb2.trans (hc3.mono hb2.size)
                    go_wp2_with fail
                    refine (cA1.out _).mono ?_
                    rintro e w4 ⟨rfl, hc40⟩
                    have hc4 := hc40.below w3.heap.size
                    have hb4 := hb3.trans (hc4.mono hb3.size)
                    go_wp2_with fail
                    refine (cA2.out _).mono ?_
                    rintro e w5 ⟨rfl, hc50⟩
                    have hc5 := hc50.below w4.heap.size
                    have hb5 := hb4.trans (hc5.mono hb4.size)
                    go_wp2_with fail
                    refine (cI.out _).mono ?_
                    rintro e w6 ⟨rfl, hc60⟩
                    have hc6 := hc60.below w5.heap.size
                    have hb6 := hb5.trans (hc6.mono hb5.size)
                    go_wp2_with fail
                    refine (cI1.out _).mono ?_
                    rintro e w7 ⟨rfl, hc70⟩
                    have hc7 := hc70.below w6.heap.size
                    have hb7 := hb6.trans (hc7.mono hb6.size)
                    go_wp2_with fail
                    refine (cI2.out _).mono ?_
                    rintro e w8 ⟨rfl, hc80⟩
                    have hc8 := hc80.below w7.heap.size
                    have hb8 := hb7.trans (hc8.mono hb7.size)
                    go_wp2_with fail
                    go_ret
                    exact ⟨by rw [show R = 0 from HR.out.symm.trans (by simp [hz1])]; rfl, hb8⟩
                | false =>
                  go_enter Tryd.func27, Tryd.ntmps27
                  go_wp2_with fail
                  refine (cC.out _).mono ?_
                  rintro e w1 ⟨rfl, hc10⟩
                  have hc1 := hc10.below w.heap.size
                  have hb1 := hc1
                  go_wp2_with fail
                  refine (cL.out _).mono ?_
                  rintro e w2 ⟨rfl, hc20⟩
                  have hc2 := hc20.below w1.heap.size
                  have hb2 := hb1.trans (hc2.mono hb1.size)
                  go_wp2_with fail
                  refine (cA.out _).mono ?_
                  rintro e w3 ⟨rfl, hc30⟩
                  have hc3 := hc30.below w2.heap.size
                  have hb3 := hb2.trans (hc3.mono hb2.size)
                  go_wp2_with fail
                  refine (cA1.out _).mono ?_
                  rintro e w4 ⟨rfl, hc40⟩
                  have hc4 := hc40.below w3.heap.size
                  have hb4 := hb3.trans (hc4.mono hb3.size)
                  go_wp2_with fail
                  refine (cA2.out _).mono ?_
                  rintro e w5 ⟨rfl, hc50⟩
                  have hc5 := hc50.below w4.heap.size
                  have hb5 := hb4.trans (hc5.mono hb4.size)
                  go_wp2_with fail
                  refine (cI.out _).mono ?_
                  rintro e w6 ⟨rfl, hc60⟩
                  have hc6 := hc60.below w5.heap.size
                  have hb6 := hb5.trans (hc6.mono hb5.size)
                  go_wp2_with fail
                  refine (cI1.out _).mono ?_
                  rintro e w7 ⟨rfl, hc70⟩
                  have hc7 := hc70.below w6.heap.size
                  have hb7 := hb6.trans (hc7.mono hb6.size)
                  go_wp2_with fail
                  go_ret
                  exact ⟨by rw [show R = 0 from HR.out.symm.trans (by simp [hz1])]; rfl, hb7⟩
      | false =>
        cases L with
        | true =>
          go_enter Tryd.func27, Tryd.ntmps27
          go_wp2_with fail
          refine (cC.out _).mono ?_
          rintro e w1 ⟨rfl, hc10⟩
          have hc1 := hc10.below w.heap.size
          have hb1 := hc1
          go_wp2_with fail
          refine (cL.out _).mono ?_
          rintro e w2 ⟨rfl, hc20⟩
          have hc2 := hc20.below w1.heap.size
          have hb2 := hb1.trans (hc2.mono hb1.size)
          go_wp2_with fail
          refine (cA.out _).mono ?_
          rintro e w3 ⟨rfl, hc30⟩
          have hc3 := hc30.below w2.heap.size
          have hb3 := hb2.trans (hc3.mono hb2.size)
          go_wp2_with fail
          refine (cA1.out _).mono ?_
          rintro e w4 ⟨rfl, hc40⟩
          have hc4 := hc40.below w3.heap.size
          have hb4 := hb3.trans (hc4.mono hb3.size)
          go_wp2_with fail
          go_ret
          exact ⟨by rw [show R = 3 from HR.out.symm.trans (by simp)]; rfl, hb4⟩
        | false =>
          rcases hz with ⟨hz1, hz2⟩ | ⟨hz1, hz2⟩
          · skip
            go_enter Tryd.func27, Tryd.ntmps27
            go_wp2_with fail
            refine (cC.out _).mono ?_
            rintro e w1 ⟨rfl, hc10⟩
            have hc1 := hc10.below w.heap.size
            have hb1 := hc1
            go_wp2_with fail
            refine (cL.out _).mono ?_
            rintro e w2 ⟨rfl, hc20⟩
            have hc2 := hc20.below w1.heap.size
            have hb2 := hb1.trans (hc2.mono hb1.size)
            go_wp2_with fail
            refine (cA.out _).mono ?_
            rintro e w3 ⟨rfl, hc30⟩
            have hc3 := hc30.below w2.heap.size
            have hb3 := hb2.trans (hc3.mono hb2.size)
            go_wp2_with fail
            refine (cA1.out _).mono ?_
            rintro e w4 ⟨rfl, hc40⟩
            have hc4 := hc40.below w3.heap.size
            have hb4 := hb3.trans (hc4.mono hb3.size)
            go_wp2_with fail
            go_ret
            exact ⟨by rw [show R = 4 from HR.out.symm.trans (by simp [hz1])]; rfl, hb4⟩
          · skip
            cases I with
            | true =>
              go_enter Tryd.func27, Tryd.ntmps27
              go_wp2_with fail
              refine (cC.out _).mono ?_
              rintro e w1 ⟨rfl, hc10⟩
              have hc1 := hc10.below w.heap.size
              have hb1 := hc1
              go_wp2_with fail
              refine (cL.out _).mono ?_
              rintro e w2 ⟨rfl, hc20⟩
              have hc2 := hc20.below w1.heap.size
              have hb2 := hb1.trans (hc2.mono hb1.size)
              go_wp2_with fail
              refine (cA.out _).mono ?_
              rintro e w3 ⟨rfl, hc30⟩
              have hc3 := hc30.below w2.heap.size
              have hb3 := hb2.trans (hc3.mono hb2.size)
              go_wp2_with fail
              refine (cA1.out _).mono ?_
              rintro e w4 ⟨rfl, hc40⟩
              have hc4 := hc40.below w3.heap.size
              have hb4 := hb3.trans (hc4.mono hb3.size)
              go_wp2_with fail
              refine (cI.out _).mono ?_
              rintro e w5 ⟨rfl, hc50⟩
              have hc5 := hc50.below w4.heap.size
              have hb5 := hb4.trans (hc5.mono hb4.size)
              go_wp2_with fail
              go_ret
              exact ⟨by rw [show R = 5 from HR.out.symm.trans (by simp [hz1])]; rfl, hb5⟩
            | false =>
              cases I1 with
              | true =>
                cases I2 with
                | true =>
                  go_enter Tryd.func27, Tryd.ntmps27
                  go_wp2_with fail
                  refine (cC.out _).mono ?_
                  rintro e w1 ⟨rfl, hc10⟩
                  have hc1 := hc10.below w.heap.size
                  have hb1 := hc1
                  go_wp2_with fail
                  refine (cL.out _).mono ?_
                  rintro e w2 ⟨rfl, hc20⟩
                  have hc2 := hc20.below w1.heap.size
                  have hb2 := hb1.trans (hc2.mono hb1.size)
                  go_wp2_with fail
                  refine (cA.out _).mono ?_
                  rintro e w3 ⟨rfl, hc30⟩
                  have hc3 := hc30.below w2.heap.size
                  have hb3 := hb2.trans (hc3.mono hb2.size)
                  go_wp2_with fail
                  refine (cA1.out _).mono ?_
                  rintro e w4 ⟨rfl, hc40⟩
                  have hc4 := hc40.below w3.heap.size
                  have hb4 := hb3.trans (hc4.mono hb3.size)
                  go_wp2_with fail
                  refine (cI.out _).mono ?_
                  rintro e w5 ⟨rfl, hc50⟩
                  have hc5 := hc50.below w4.heap.size
                  have hb5 := hb4.trans (hc5.mono hb4.size)
                  go_wp2_with fail
                  refine (cI1.out _).mono ?_
                  rintro e w6 ⟨rfl, hc60⟩
                  have hc6 := hc60.below w5.heap.size
                  have hb6 := hb5.trans (hc6.mono hb5.size)
                  go_wp2_with fail
                  refine (cI2.out _).mono ?_
                  rintro e w7 ⟨rfl, hc70⟩
                  have hc7 := hc70.below w6.heap.size
                  have hb7 := hb6.trans (hc7.mono hb6.size)
                  go_wp2_with fail
                  go_ret
                  exact ⟨by rw [show R = 5 from HR.out.symm.trans (by simp [hz1])]; rfl, hb7⟩
                | false =>
                  go_enter Tryd.func27, Tryd.ntmps27
                  go_wp2_with fail
                  refine (cC.out _).mono ?_
                  rintro e w1 ⟨rfl, hc10⟩
                  have hc1 := hc10.below w.heap.size
                  have hb1 := hc1
                  go_wp2_with fail
                  refine (cL.out _).mono ?_
                  rintro e w2 ⟨rfl, hc20⟩
                  have hc2 := hc20.below w1.heap.size
                  have hb2 := hb1.trans (hc2.mono hb1.size)
                  go_wp2_with fail
                  refine (cA.out _).mono ?_
                  rintro e w3 ⟨rfl, hc30⟩
                  have hc3 := hc30.below w2.heap.size
                  have hb3 := hb2.trans (hc3.mono hb2.size)
                  go_wp2_with fail
                  refine (cA1.out _).mono ?_
                  rintro e w4 ⟨rfl, hc40⟩
                  have hc4 := hc40.below w3.heap.size
                  have hb4 := hb3.trans (hc4.mono hb3.size)
                  go_wp2_with fail
                  refine (cI.out _).mono ?_
                  rintro e w5 ⟨rfl, hc50⟩
                  have hc5 := hc50.below w4.heap.size
                  have hb5 := hb4.trans (hc5.mono hb4.size)
                  go_wp2_with fail
                  refine (cI1.out _).mono ?_
                  rintro e w6 ⟨rfl, hc60⟩
                  have hc6 := hc60.below w5.heap.size
                  have hb6 := hb5.trans (hc6.mono hb5.size)
                  go_wp2_with fail
                  refine (cI2.out _).mono ?_
                  rintro e w7 ⟨rfl, hc70⟩
                  have hc7 := hc70.below w6.heap.size
                  have hb7 := hb6.trans (hc7.mono hb6.size)
                  go_wp2_with fail
                  go_ret
                  exact ⟨by rw [show R = 0 from HR.out.symm.trans (by simp [hz1])]; rfl, hb7⟩
              | false =>
                go_enter Tryd.func27, Tryd.ntmps27
                go_wp2_with fail
                refine (cC.out _).mono ?_
                rintro e w1 ⟨rfl, hc10⟩
                have hc1 := hc10.below w.heap.size
                have hb1 := hc1
                go_wp2_with fail
                refine (cL.out _).mono ?_
                rintro e w2 ⟨rfl, hc20⟩
                have hc2 := hc20.below w1.heap.size
                have hb2 := hb1.trans (hc2.mono hb1.size)
                go_wp2_with fail
                refine (cA.out _).mono ?_
                rintro e w3 ⟨rfl, hc30⟩
                have hc3 := hc30.below w2.heap.size
                have hb3 := hb2.trans (hc3.mono hb2.size)
                go_wp2_with fail
                refine (cA1.out _).mono ?_
                rintro e w4 ⟨rfl, hc40⟩
                have hc4 := hc40.below w3.heap.size
                have hb4 := hb3.trans (hc4.mono hb3.size)
                go_wp2_with fail
                refine (cI.out _).mono ?_
                rintro e w5 ⟨rfl, hc50⟩
                have hc5 := hc50.below w4.heap.size
                have hb5 := hb4.trans (hc5.mono hb4.size)
                go_wp2_with fail
                refine (cI1.out _).mono ?_
                rintro e w6 ⟨rfl, hc60⟩
                have hc6 := hc60.below w5.heap.size
                have hb6 := hb5.trans (hc6.mono hb5.size)
                go_wp2_with fail
                go_ret
                exact ⟨by rw [show R = 0 from HR.out.symm.trans (by simp [hz1])]; rfl, hb6⟩
    | false =>
      cases L with
      | true =>
        go_enter Tryd.func27, Tryd.ntmps27
        go_wp2_with fail
        refine (cC.out _).mono ?_
        rintro e w1 ⟨rfl, hc10⟩
        have hc1 := hc10.below w.heap.size
        have hb1 := hc1
        go_wp2_with fail
        refine (cL.out _).mono ?_
        rintro e w2 ⟨rfl, hc20⟩
        have hc2 := hc20.below w1.heap.size
        have hb2 := hb1.trans (hc2.mono hb1.size)
        go_wp2_with fail
        refine (cA.out _).mono ?_
        rintro e w3 ⟨rfl, hc30⟩
        have hc3 := hc30.below w2.heap.size
        have hb3 := hb2.trans (hc3.mono hb2.size)
        go_wp2_with fail
        go_ret
        exact ⟨by rw [show R = 3 from HR.out.symm.trans (by simp)]; rfl, hb3⟩
      | false =>
        rcases hz with ⟨hz1, hz2⟩ | ⟨hz1, hz2⟩
        · skip
          go_enter Tryd.func27, Tryd.ntmps27
          go_wp2_with fail
          refine (cC.out _).mono ?_
          rintro e w1 ⟨rfl, hc10⟩
          have hc1 := hc10.below w.heap.size
          have hb1 := hc1
          go_wp2_with fail
          refine (cL.out _).mono ?_
          rintro e w2 ⟨rfl, hc20⟩
          have hc2 := hc20.below w1.heap.size
          have hb2 := hb1.trans (hc2.mono hb1.size)
          go_wp2_with fail
          refine (cA.out _).mono ?_
          rintro e w3 ⟨rfl, hc30⟩
          have hc3 := hc30.below w2.heap.size
          have hb3 := hb2.trans (hc3.mono hb2.size)
          go_wp2_with fail
          go_ret
          exact ⟨by rw [show R = 4 from HR.out.symm.trans (by simp [hz1])]; rfl, hb3⟩
        · skip
          cases I with
          | true =>
            go_enter Tryd.func27, Tryd.ntmps27
            go_wp2_with fail
            refine (cC.out _).mono ?_
            rintro e w1 ⟨rfl, hc10⟩
            have hc1 := hc10.below w.heap.size
            have hb1 := hc1
            go_wp2_with fail
            refine (cL.out _).mono ?_
            rintro e w2 ⟨rfl, hc20⟩
            have hc2 := hc20.below w1.heap.size
            have hb2 := hb1.trans (hc2.mono hb1.size)
            go_wp2_with fail
            refine (cA.out _).mono ?_
            rintro e w3 ⟨rfl, hc30⟩
            have hc3 := hc30.below w2.heap.size
            have hb3 := hb2.trans (hc3.mono hb2.size)
            go_wp2_with fail
            refine (cI.out _).mono ?_
            rintro e w4 ⟨rfl, hc40⟩
            have hc4 := hc40.below w3.heap.size
            have hb4 := hb3.trans (hc4.mono hb3.size)
            go_wp2_with fail
            go_ret
            exact ⟨by rw [show R = 5 from HR.out.symm.trans (by simp [hz1])]; rfl, hb4⟩
          | false =>
            go_enter Tryd.func27, Tryd.ntmps27
            go_wp2_with fail
            refine (cC.out _).mono ?_
            rintro e w1 ⟨rfl, hc10⟩
            have hc1 := hc10.below w.heap.size
            have hb1 := hc1
            go_wp2_with fail
            refine (cL.out _).mono ?_
            rintro e w2 ⟨rfl, hc20⟩
            have hc2 := hc20.below w1.heap.size
            have hb2 := hb1.trans (hc2.mono hb1.size)
            go_wp2_with fail
            refine (cA.out _).mono ?_
            rintro e w3 ⟨rfl, hc30⟩
            have hc3 := hc30.below w2.heap.size
            have hb3 := hb2.trans (hc3.mono hb2.size)
            go_wp2_with fail
            refine (cI.out _).mono ?_
            rintro e w4 ⟨rfl, hc40⟩
            have hc4 := hc40.below w3.heap.size
            have hb4 := hb3.trans (hc4.mono hb3.size)
            go_wp2_with fail
            go_ret
            exact ⟨by rw [show R = 0 from HR.out.symm.trans (by simp [hz1])]; rfl, hb4⟩
set_option maxRecDepth 100000 in
set_option maxHeartbeats 8000000 in
theorem parts_any (s : ByteArray) (w : World) (hs : s.size ≤ 1000000) (hv : Vars21 w) :
    Calls Tryd.prog 24 #[.string s] w fun e w' => e = .returned (.tuple #[.string (str (P21.parts (P4.bl s)).1), .string (str (P21.parts (P4.bl s)).2.1), .bool (P21.parts (P4.bl s)).2.2]) ∧ Below w.heap.size w w' := by
  have cC : Hid (∀ W, Vars21 W → Calls Tryd.prog 53 #[.string s, .string (str [47])] W fun e w' => e = .returned (.tuple #[.string (str (P21.slash (P4.bl s)).1), .string (str (P21.slash (P4.bl s)).2.1), .bool (P21.slash (P4.bl s)).2.2]) ∧ Q W w') := fun W h => cut21 s [47] W hs h
  have cK : Hid (∀ W, Vars21 W → Calls Tryd.prog 19 #[.string s] W fun e w' => e = .returned (.int .i64 (P21.kind (P4.bl s))) ∧ Below W.heap.size W w') := fun W h => kind_any s W hs h
  have hR : P21.parts (P4.bl s) = if ((P21.slash (P4.bl s)).2.2 && (decide (P21.kind (P4.bl s) = 2) || decide (P21.kind (P4.bl s) = 5))) = true then ((P21.slash (P4.bl s)).1, (P21.slash (P4.bl s)).2.1, true) else ([], [], false) := rfl
  have hK := P21.kind_cases (P4.bl s)
  generalize P21.parts (P4.bl s) = R at hR ⊢
  generalize P21.kind (P4.bl s) = K at hR cK hK
  generalize P21.slash (P4.bl s) = U at hR cC
  obtain ⟨ua, ub, T⟩ := U
  simp only at hR cC
  cases T with
  | true =>
    rcases hK with rfl | rfl | rfl | rfl | rfl | rfl
    · have HR := Lib.hid (hR.trans (show _ = (([], [], false) : List UInt8 × List UInt8 × Bool) by simp))
      clear hR hs
      go_enter Tryd.func24, Tryd.ntmps24
      go_wp2_with fail
      refine (cC.out _ hv).mono ?_
      rintro e w1 ⟨rfl, hc10⟩
      have hb1 := hc10.below w.heap.size
      have hv2 := hv.below hb1
      go_wp2_with fail
      refine (cK.out _ hv2).mono ?_
      rintro e w2 ⟨rfl, hc2⟩
      have hb2 := hb1.trans (hc2.mono hb1.size)
      go_wp2_with fail
      go_ret3
      exact ⟨by rw [HR.out]; rfl, hb2⟩
    · have HR := Lib.hid (hR.trans (show _ = (([], [], false) : List UInt8 × List UInt8 × Bool) by simp))
      clear hR hs
      go_enter Tryd.func24, Tryd.ntmps24
      go_wp2_with fail
      refine (cC.out _ hv).mono ?_
      rintro e w1 ⟨rfl, hc10⟩
      have hb1 := hc10.below w.heap.size
      have hv2 := hv.below hb1
      go_wp2_with fail
      refine (cK.out _ hv2).mono ?_
      rintro e w2 ⟨rfl, hc2⟩
      have hb2 := hb1.trans (hc2.mono hb1.size)
      go_wp2_with fail
      go_ret3
      exact ⟨by rw [HR.out]; rfl, hb2⟩
    · have HR := Lib.hid (hR.trans (show _ = ((ua, ub, true) : List UInt8 × List UInt8 × Bool) by simp))
      clear hR hs
      go_enter Tryd.func24, Tryd.ntmps24
      go_wp2_with fail
      refine (cC.out _ hv).mono ?_
      rintro e w1 ⟨rfl, hc10⟩
      have hb1 := hc10.below w.heap.size
      have hv2 := hv.below hb1
      go_wp2_with fail
      refine (cK.out _ hv2).mono ?_
      rintro e w2 ⟨rfl, hc2⟩
      have hb2 := hb1.trans (hc2.mono hb1.size)
      go_wp2_with fail
      go_ret3
      exact ⟨by rw [HR.out]; rfl, hb2⟩
    · have HR := Lib.hid (hR.trans (show _ = (([], [], false) : List UInt8 × List UInt8 × Bool) by simp))
      clear hR hs
      go_enter Tryd.func24, Tryd.ntmps24
      go_wp2_with fail
      refine (cC.out _ hv).mono ?_
      rintro e w1 ⟨rfl, hc10⟩
      have hb1 := hc10.below w.heap.size
      have hv2 := hv.below hb1
      go_wp2_with fail
      refine (cK.out _ hv2).mono ?_
      rintro e w2 ⟨rfl, hc2⟩
      have hb2 := hb1.trans (hc2.mono hb1.size)
      go_wp2_with fail
      go_ret3
      exact ⟨by rw [HR.out]; rfl, hb2⟩
    · have HR := Lib.hid (hR.trans (show _ = (([], [], false) : List UInt8 × List UInt8 × Bool) by simp))
      clear hR hs
      go_enter Tryd.func24, Tryd.ntmps24
      go_wp2_with fail
      refine (cC.out _ hv).mono ?_
      rintro e w1 ⟨rfl, hc10⟩
      have hb1 := hc10.below w.heap.size
      have hv2 := hv.below hb1
      go_wp2_with fail
      refine (cK.out _ hv2).mono ?_
      rintro e w2 ⟨rfl, hc2⟩
      have hb2 := hb1.trans (hc2.mono hb1.size)
      go_wp2_with fail
      go_ret3
      exact ⟨by rw [HR.out]; rfl, hb2⟩
    · have HR := Lib.hid (hR.trans (show _ = ((ua, ub, true) : List UInt8 × List UInt8 × Bool) by simp))
      clear hR hs
      go_enter Tryd.func24, Tryd.ntmps24
      go_wp2_with fail
      refine (cC.out _ hv).mono ?_
      rintro e w1 ⟨rfl, hc10⟩
      have hb1 := hc10.below w.heap.size
      have hv2 := hv.below hb1
      go_wp2_with fail
      refine (cK.out _ hv2).mono ?_
      rintro e w2 ⟨rfl, hc2⟩
      have hb2 := hb1.trans (hc2.mono hb1.size)
      go_wp2_with fail
      go_ret3
      exact ⟨by rw [HR.out]; rfl, hb2⟩
  | false =>
    rcases hK with rfl | rfl | rfl | rfl | rfl | rfl
    · have HR := Lib.hid (hR.trans (show _ = (([], [], false) : List UInt8 × List UInt8 × Bool) by simp))
      clear hR hs
      go_enter Tryd.func24, Tryd.ntmps24
      go_wp2_with fail
      refine (cC.out _ hv).mono ?_
      rintro e w1 ⟨rfl, hc10⟩
      have hb1 := hc10.below w.heap.size
      have hv2 := hv.below hb1
      go_wp2_with fail
      refine (cK.out _ hv2).mono ?_
      rintro e w2 ⟨rfl, hc2⟩
      have hb2 := hb1.trans (hc2.mono hb1.size)
      go_wp2_with fail
      go_ret3
      exact ⟨by rw [HR.out]; rfl, hb2⟩
    · have HR := Lib.hid (hR.trans (show _ = (([], [], false) : List UInt8 × List UInt8 × Bool) by simp))
      clear hR hs
      go_enter Tryd.func24, Tryd.ntmps24
      go_wp2_with fail
      refine (cC.out _ hv).mono ?_
      rintro e w1 ⟨rfl, hc10⟩
      have hb1 := hc10.below w.heap.size
      have hv2 := hv.below hb1
      go_wp2_with fail
      refine (cK.out _ hv2).mono ?_
      rintro e w2 ⟨rfl, hc2⟩
      have hb2 := hb1.trans (hc2.mono hb1.size)
      go_wp2_with fail
      go_ret3
      exact ⟨by rw [HR.out]; rfl, hb2⟩
    · have HR := Lib.hid (hR.trans (show _ = (([], [], false) : List UInt8 × List UInt8 × Bool) by simp))
      clear hR hs
      go_enter Tryd.func24, Tryd.ntmps24
      go_wp2_with fail
      refine (cC.out _ hv).mono ?_
      rintro e w1 ⟨rfl, hc10⟩
      have hb1 := hc10.below w.heap.size
      have hv2 := hv.below hb1
      go_wp2_with fail
      refine (cK.out _ hv2).mono ?_
      rintro e w2 ⟨rfl, hc2⟩
      have hb2 := hb1.trans (hc2.mono hb1.size)
      go_wp2_with fail
      go_ret3
      exact ⟨by rw [HR.out]; rfl, hb2⟩
    · have HR := Lib.hid (hR.trans (show _ = (([], [], false) : List UInt8 × List UInt8 × Bool) by simp))
      clear hR hs
      go_enter Tryd.func24, Tryd.ntmps24
      go_wp2_with fail
      refine (cC.out _ hv).mono ?_
      rintro e w1 ⟨rfl, hc10⟩
      have hb1 := hc10.below w.heap.size
      have hv2 := hv.below hb1
      go_wp2_with fail
      refine (cK.out _ hv2).mono ?_
      rintro e w2 ⟨rfl, hc2⟩
      have hb2 := hb1.trans (hc2.mono hb1.size)
      go_wp2_with fail
      go_ret3
      exact ⟨by rw [HR.out]; rfl, hb2⟩
    · have HR := Lib.hid (hR.trans (show _ = (([], [], false) : List UInt8 × List UInt8 × Bool) by simp))
      clear hR hs
      go_enter Tryd.func24, Tryd.ntmps24
      go_wp2_with fail
      refine (cC.out _ hv).mono ?_
      rintro e w1 ⟨rfl, hc10⟩
      have hb1 := hc10.below w.heap.size
      have hv2 := hv.below hb1
      go_wp2_with fail
      refine (cK.out _ hv2).mono ?_
      rintro e w2 ⟨rfl, hc2⟩
      have hb2 := hb1.trans (hc2.mono hb1.size)
      go_wp2_with fail
      go_ret3
      exact ⟨by rw [HR.out]; rfl, hb2⟩
    · have HR := Lib.hid (hR.trans (show _ = (([], [], false) : List UInt8 × List UInt8 × Bool) by simp))
      clear hR hs
      go_enter Tryd.func24, Tryd.ntmps24
      go_wp2_with fail
      refine (cC.out _ hv).mono ?_
      rintro e w1 ⟨rfl, hc10⟩
      have hb1 := hc10.below w.heap.size
      have hv2 := hv.below hb1
      go_wp2_with fail
      refine (cK.out _ hv2).mono ?_
      rintro e w2 ⟨rfl, hc2⟩
      have hb2 := hb1.trans (hc2.mono hb1.size)
      go_wp2_with fail
      go_ret3
      exact ⟨by rw [HR.out]; rfl, hb2⟩
set_option maxRecDepth 100000 in
set_option maxHeartbeats 8000000 in
theorem rparts_any (s : ByteArray) (w : World) (hs : s.size ≤ 1000000) :
    Calls Tryd.prog 25 #[.string s] w fun e w' => e = .returned (.tuple #[.string (str (P21.parts (P4.bl s)).1), .string (str (P21.parts (P4.bl s)).2.1), .bool (P21.parts (P4.bl s)).2.2]) ∧ Below w.heap.size w w' := by
  have cC : Hid (∀ W, Calls Tryd.prog 64 #[.string s] W fun e w' => e = .returned (.tuple #[.string (str (slashR (P4.bl s)).1), .string (str (slashR (P4.bl s)).2.1), .bool (slashR (P4.bl s)).2.2]) ∧ Q W w') := fun W => rslash_any s W hs
  have cK : Hid (∀ W, Calls Tryd.prog 27 #[.string s] W fun e w' => e = .returned (.int .i64 (P21.kind (P4.bl s))) ∧ Below W.heap.size W w') := fun W => rkind_any s W hs
  have hR : P21.parts (P4.bl s) = if ((P21.slash (P4.bl s)).2.2 && decide (P21.kind (P4.bl s) ≠ 0)) = true then ((P21.slash (P4.bl s)).1, (P21.slash (P4.bl s)).2.1, true) else ([], [], false) := by rw [← P21.two_eq]; rfl
  have hK := P21.kind_cases (P4.bl s)
  have hS : (slashR (P4.bl s)).2.2 = false ∨ slashR (P4.bl s) = P21.slash (P4.bl s) := by
    rw [slashR_is]
    cases h : (P21.slash (P4.bl s)).2.2 with
    | true => exact .inr (slashR_hit h)
    | false => exact .inl rfl
  rw [← slashR_is] at hR
  generalize P21.parts (P4.bl s) = R at hR ⊢
  generalize P21.kind (P4.bl s) = K at hR cK hK
  generalize P21.slash (P4.bl s) = U0 at hR hS
  generalize slashR (P4.bl s) = U at hR cC hS
  obtain ⟨ua, ub, T⟩ := U
  obtain ⟨va, vb, T0⟩ := U0
  simp only at hR cC hS
  cases T with
  | true =>
    obtain ⟨rfl, rfl, rfl⟩ : va = ua ∧ vb = ub ∧ T0 = true := by rcases hS with q | q <;> simp_all
    rcases hK with rfl | rfl | rfl | rfl | rfl | rfl
    · have HR := Lib.hid (hR.trans (show _ = (([], [], false) : List UInt8 × List UInt8 × Bool) by simp))
      clear hR hs hS
      go_enter Tryd.func25, Tryd.ntmps25
      go_wp2_with fail
      refine (cC.out _).mono ?_
      rintro e w1 ⟨rfl, hc10⟩
      have hb1 := hc10.below w.heap.size
      go_wp2_with fail
      refine (cK.out _).mono ?_
      rintro e w2 ⟨rfl, hc2⟩
      have hb2 := hb1.trans (hc2.mono hb1.size)
      go_wp2_with fail
      go_ret3
      exact ⟨by rw [HR.out]; rfl, hb2⟩
    · have HR := Lib.hid (hR.trans (show _ = ((va, vb, true) : List UInt8 × List UInt8 × Bool) by simp))
      clear hR hs hS
      go_enter Tryd.func25, Tryd.ntmps25
      go_wp2_with fail
      refine (cC.out _).mono ?_
      rintro e w1 ⟨rfl, hc10⟩
      have hb1 := hc10.below w.heap.size
      go_wp2_with fail
      refine (cK.out _).mono ?_
      rintro e w2 ⟨rfl, hc2⟩
      have hb2 := hb1.trans (hc2.mono hb1.size)
      go_wp2_with fail
      go_ret3
      exact ⟨by rw [HR.out]; rfl, hb2⟩
    · have HR := Lib.hid (hR.trans (show _ = ((va, vb, true) : List UInt8 × List UInt8 × Bool) by simp))
      clear hR hs hS
      go_enter Tryd.func25, Tryd.ntmps25
      go_wp2_with fail
      refine (cC.out _).mono ?_
      rintro e w1 ⟨rfl, hc10⟩
      have hb1 := hc10.below w.heap.size
      go_wp2_with fail
      refine (cK.out _).mono ?_
      rintro e w2 ⟨rfl, hc2⟩
      have hb2 := hb1.trans (hc2.mono hb1.size)
      go_wp2_with fail
      go_ret3
      exact ⟨by rw [HR.out]; rfl, hb2⟩
    · have HR := Lib.hid (hR.trans (show _ = ((va, vb, true) : List UInt8 × List UInt8 × Bool) by simp))
      clear hR hs hS
      go_enter Tryd.func25, Tryd.ntmps25
      go_wp2_with fail
      refine (cC.out _).mono ?_
      rintro e w1 ⟨rfl, hc10⟩
      have hb1 := hc10.below w.heap.size
      go_wp2_with fail
      refine (cK.out _).mono ?_
      rintro e w2 ⟨rfl, hc2⟩
      have hb2 := hb1.trans (hc2.mono hb1.size)
      go_wp2_with fail
      go_ret3
      exact ⟨by rw [HR.out]; rfl, hb2⟩
    · have HR := Lib.hid (hR.trans (show _ = ((va, vb, true) : List UInt8 × List UInt8 × Bool) by simp))
      clear hR hs hS
      go_enter Tryd.func25, Tryd.ntmps25
      go_wp2_with fail
      refine (cC.out _).mono ?_
      rintro e w1 ⟨rfl, hc10⟩
      have hb1 := hc10.below w.heap.size
      go_wp2_with fail
      refine (cK.out _).mono ?_
      rintro e w2 ⟨rfl, hc2⟩
      have hb2 := hb1.trans (hc2.mono hb1.size)
      go_wp2_with fail
      go_ret3
      exact ⟨by rw [HR.out]; rfl, hb2⟩
    · have HR := Lib.hid (hR.trans (show _ = ((va, vb, true) : List UInt8 × List UInt8 × Bool) by simp))
      clear hR hs hS
      go_enter Tryd.func25, Tryd.ntmps25
      go_wp2_with fail
      refine (cC.out _).mono ?_
      rintro e w1 ⟨rfl, hc10⟩
      have hb1 := hc10.below w.heap.size
      go_wp2_with fail
      refine (cK.out _).mono ?_
      rintro e w2 ⟨rfl, hc2⟩
      have hb2 := hb1.trans (hc2.mono hb1.size)
      go_wp2_with fail
      go_ret3
      exact ⟨by rw [HR.out]; rfl, hb2⟩
  | false =>
    rcases hK with rfl | rfl | rfl | rfl | rfl | rfl
    · have HR := Lib.hid (hR.trans (show _ = (([], [], false) : List UInt8 × List UInt8 × Bool) by simp))
      clear hR hs hS
      go_enter Tryd.func25, Tryd.ntmps25
      go_wp2_with fail
      refine (cC.out _).mono ?_
      rintro e w1 ⟨rfl, hc10⟩
      have hb1 := hc10.below w.heap.size
      go_wp2_with fail
      refine (cK.out _).mono ?_
      rintro e w2 ⟨rfl, hc2⟩
      have hb2 := hb1.trans (hc2.mono hb1.size)
      go_wp2_with fail
      go_ret3
      exact ⟨by rw [HR.out]; rfl, hb2⟩
    · have HR := Lib.hid (hR.trans (show _ = (([], [], false) : List UInt8 × List UInt8 × Bool) by simp))
      clear hR hs hS
      go_enter Tryd.func25, Tryd.ntmps25
      go_wp2_with fail
      refine (cC.out _).mono ?_
      rintro e w1 ⟨rfl, hc10⟩
      have hb1 := hc10.below w.heap.size
      go_wp2_with fail
      refine (cK.out _).mono ?_
      rintro e w2 ⟨rfl, hc2⟩
      have hb2 := hb1.trans (hc2.mono hb1.size)
      go_wp2_with fail
      go_ret3
      exact ⟨by rw [HR.out]; rfl, hb2⟩
    · have HR := Lib.hid (hR.trans (show _ = (([], [], false) : List UInt8 × List UInt8 × Bool) by simp))
      clear hR hs hS
      go_enter Tryd.func25, Tryd.ntmps25
      go_wp2_with fail
      refine (cC.out _).mono ?_
      rintro e w1 ⟨rfl, hc10⟩
      have hb1 := hc10.below w.heap.size
      go_wp2_with fail
      refine (cK.out _).mono ?_
      rintro e w2 ⟨rfl, hc2⟩
      have hb2 := hb1.trans (hc2.mono hb1.size)
      go_wp2_with fail
      go_ret3
      exact ⟨by rw [HR.out]; rfl, hb2⟩
    · have HR := Lib.hid (hR.trans (show _ = (([], [], false) : List UInt8 × List UInt8 × Bool) by simp))
      clear hR hs hS
      go_enter Tryd.func25, Tryd.ntmps25
      go_wp2_with fail
      refine (cC.out _).mono ?_
      rintro e w1 ⟨rfl, hc10⟩
      have hb1 := hc10.below w.heap.size
      go_wp2_with fail
      refine (cK.out _).mono ?_
      rintro e w2 ⟨rfl, hc2⟩
      have hb2 := hb1.trans (hc2.mono hb1.size)
      go_wp2_with fail
      go_ret3
      exact ⟨by rw [HR.out]; rfl, hb2⟩
    · have HR := Lib.hid (hR.trans (show _ = (([], [], false) : List UInt8 × List UInt8 × Bool) by simp))
      clear hR hs hS
      go_enter Tryd.func25, Tryd.ntmps25
      go_wp2_with fail
      refine (cC.out _).mono ?_
      rintro e w1 ⟨rfl, hc10⟩
      have hb1 := hc10.below w.heap.size
      go_wp2_with fail
      refine (cK.out _).mono ?_
      rintro e w2 ⟨rfl, hc2⟩
      have hb2 := hb1.trans (hc2.mono hb1.size)
      go_wp2_with fail
      go_ret3
      exact ⟨by rw [HR.out]; rfl, hb2⟩
    · have HR := Lib.hid (hR.trans (show _ = (([], [], false) : List UInt8 × List UInt8 × Bool) by simp))
      clear hR hs hS
      go_enter Tryd.func25, Tryd.ntmps25
      go_wp2_with fail
      refine (cC.out _).mono ?_
      rintro e w1 ⟨rfl, hc10⟩
      have hb1 := hc10.below w.heap.size
      go_wp2_with fail
      refine (cK.out _).mono ?_
      rintro e w2 ⟨rfl, hc2⟩
      have hb2 := hb1.trans (hc2.mono hb1.size)
      go_wp2_with fail
      go_ret3
      exact ⟨by rw [HR.out]; rfl, hb2⟩
set_option maxRecDepth 100000 in
theorem right_any (t : ByteArray) (b : Bool) (w : World) :
    Calls Tryd.prog 51 #[.string t, .bool b] w fun e w' => e = .returned (.tuple #[.string (if b = true then t else str []), .int .i64 (if b = true then 0 else 15)]) ∧ w' = w := by
  cases b with
  | true =>
    rw [if_pos rfl, if_pos rfl]
    go_enter Tryd.func51, Tryd.ntmps51
    go_wp2_with fail
    go_ret2
    exact ⟨rfl, rfl⟩
  | false =>
    rw [if_neg (by simp), if_neg (by simp)]
    go_enter Tryd.func51, Tryd.ntmps51
    go_wp2_with fail
    go_ret2
    exact ⟨rfl, rfl⟩
/-- the sum of two numbers, if it is one -/
def inZ (x : Int) : Bool := decide (-9223372036854775808 ≤ x) && decide (x ≤ 9223372036854775807)
set_option maxRecDepth 100000 in
theorem add_any (a b : Int) (w : World) (ha : -9223372036854775808 ≤ a ∧ a ≤ 9223372036854775807) (hb : -9223372036854775808 ≤ b ∧ b ≤ 9223372036854775807) :
    Calls Tryd.prog 52 #[.int .i64 a, .int .i64 b] w fun e w' => e = .returned (.tuple #[.int .i64 (if inZ (a + b) = true then a + b else 0), .bool (inZ (a + b))]) ∧ w' = w := by
  obtain ⟨a0, a1⟩ := ha
  obtain ⟨b0, b1⟩ := hb
  obtain ⟨c, hc⟩ : ∃ c, wrap64 (a + b) = c := ⟨_, rfl⟩
  by_cases h : -9223372036854775808 ≤ a + b ∧ a + b ≤ 9223372036854775807
  · have hi : inZ (a + b) = true := by unfold inZ; rw [decide_eq_true h.1, decide_eq_true h.2]; rfl
    have hs : a + b = c := by rw [← hc]; unfold wrap64; omega
    rw [hi, if_pos rfl, hs]
    clear hi
    obtain ⟨h0, h1⟩ := h
    have hcs : (0 < b ∧ a < c) ∨ (¬ 0 < b ∧ ¬ a < c) := by omega
    clear hs h0 h1
    have HC := hc
    clear hc
    rcases hcs with ⟨p, q⟩ | ⟨p, q⟩
    · go_enter Tryd.func52, Tryd.ntmps52
      go_wp2_with fail
      go_ret2
      exact ⟨by rw [← HC]; rfl, rfl⟩
    · go_enter Tryd.func52, Tryd.ntmps52
      go_wp2_with fail
      go_ret2
      exact ⟨by rw [← HC]; rfl, rfl⟩
  · have hi : inZ (a + b) = false := by
      unfold inZ
      by_cases q : -9223372036854775808 ≤ a + b
      · rw [decide_eq_false (p := a + b ≤ 9223372036854775807) (fun r => h ⟨q, r⟩), Bool.and_false]
      · rw [decide_eq_false q]; rfl
    have hs : (c = a + b - 18446744073709551616 ∨ c = a + b + 18446744073709551616) ∧ -9223372036854775808 ≤ c ∧ c ≤ 9223372036854775807 := by rw [← hc]; unfold wrap64; omega
    rw [hi, if_neg (by simp)]
    clear hi
    have hcs : (0 < b ∧ ¬ a < c) ∨ (¬ 0 < b ∧ b < 0 ∧ a < c) := by omega
    clear hs h
    have HC := hc
    clear hc
    rcases hcs with ⟨p, q⟩ | ⟨p, p2, q⟩
    · have hb0 : (b != 0) = true := by rw [bne_iff_ne]; omega
      go_enter Tryd.func52, Tryd.ntmps52
      go_wp2_with fail
      go_ret2
      exact ⟨rfl, rfl⟩
    · have hb0 : (b != 0) = true := by rw [bne_iff_ne]; omega
      go_enter Tryd.func52, Tryd.ntmps52
      go_wp2_with fail
      go_ret2
      exact ⟨rfl, rfl⟩
end Go.Proofs.YtbajlkpjemandaaDoor
