/- The walks of the kinds, the parts and the abbreviations of FORMATs (chapter 21). -/
import Derived.Test.YtmhciidliicheaaDoorFmt21c
import Derived.Test.YtmhciidliicheaaDoorNam21c
namespace Go.Proofs.YtmhciidliicheaaDoor
open Go.RowKit Go.Lib
set_option linter.unusedVariables false

theorem str_toList (l : List UInt8) : (str l).toList = l := by rw [ByteArray.toList_eq]; rfl
theorem ne_size {s : ByteArray} {l : List UInt8} (h : P4.bl s ≠ l) : ¬ s = str l := fun q => h (by rw [q]; exact str_data l)
theorem lss_cut (s : ByteArray) : (str (P21.slash (P4.bl s)).1).size + (str (P21.slash (P4.bl s)).2.1).size ≤ s.size := by
  have := cut_len (P4.bl s) [47]
  rw [P4.bl_len] at this
  rw [str_size, str_size]; exact this
/-- one name for the tests of a kind -/
theorem kind_tests (l : List UInt8) : P21.kind l = if P21.abbr l = true then 1 else if ((P21.slash l).2.2 && P21.abbr (P21.slash l).1 && P21.abbr (P21.slash l).2.1) = true then 2 else if P21.letter l = true then 3 else if l = [37, 122] then 4 else if (P21.num l || ((P21.slash l).2.2 && P21.num (P21.slash l).1 && P21.num (P21.slash l).2.1)) = true then 5 else 0 := rfl
set_option maxRecDepth 100000 in
set_option maxHeartbeats 8000000 in
theorem kind_any (s : ByteArray) (w : World) (hs : s.size ≤ 1000000) (hv : Vars21 w) :
    Calls Tryd.prog 18 #[.string s] w fun e w' => e = .returned (.int .i64 (P21.kind (P4.bl s))) ∧ Below w.heap.size w w' := by
  have cC : Hid (∀ W, Vars21 W → Calls Tryd.prog 53 #[.string s, .string (str [47])] W fun e w' => e = .returned (.tuple #[.string (str (P21.slash (P4.bl s)).1), .string (str (P21.slash (P4.bl s)).2.1), .bool (P21.slash (P4.bl s)).2.2]) ∧ Q W w') := fun W h => cut21 s [47] W hs h
  have cL : Hid (∀ W, Vars21 W → Calls Tryd.prog 50 #[.string s] W fun e w' => e = .returned (.tuple #[.string (str (P21.pct (P4.bl s)).1), .string (str (P21.pct (P4.bl s)).2.1), .bool (P21.letter (P4.bl s))]) ∧ Below W.heap.size W w') := fun W h => around_any s W hs h
  have cA : Hid (∀ W, Calls Tryd.prog 20 #[.string s] W fun e w' => e = .returned (.bool (P21.abbr (P4.bl s))) ∧ Below W.heap.size W w') := fun W => abbr_any s W hs
  have cI : Hid (∀ W, Vars21 W → Calls Tryd.prog 54 #[.string s] W fun e w' => e = .returned (.bool (P21.num (P4.bl s))) ∧ Below W.heap.size W w') := fun W h => is_any s W hs h.num
  have hsl := lss_cut s
  have cA1 : Hid (∀ W, Calls Tryd.prog 20 #[.string (str (P21.slash (P4.bl s)).1)] W fun e w' => e = .returned (.bool (P21.abbr (P21.slash (P4.bl s)).1)) ∧ Below W.heap.size W w') := fun W => abbr_any (str (P21.slash (P4.bl s)).1) W (by omega)
  have cA2 : Hid (∀ W, Calls Tryd.prog 20 #[.string (str (P21.slash (P4.bl s)).2.1)] W fun e w' => e = .returned (.bool (P21.abbr (P21.slash (P4.bl s)).2.1)) ∧ Below W.heap.size W w') := fun W => abbr_any (str (P21.slash (P4.bl s)).2.1) W (by omega)
  have cI1 : Hid (∀ W, Vars21 W → Calls Tryd.prog 54 #[.string (str (P21.slash (P4.bl s)).1)] W fun e w' => e = .returned (.bool (P21.num (P21.slash (P4.bl s)).1)) ∧ Below W.heap.size W w') := fun W h => is_any (str (P21.slash (P4.bl s)).1) W (by omega) h.num
  have cI2 : Hid (∀ W, Vars21 W → Calls Tryd.prog 54 #[.string (str (P21.slash (P4.bl s)).2.1)] W fun e w' => e = .returned (.bool (P21.num (P21.slash (P4.bl s)).2.1)) ∧ Below W.heap.size W w') := fun W h => is_any (str (P21.slash (P4.bl s)).2.1) W (by omega) h.num
  obtain ⟨R, hR⟩ : ∃ R, P21.kind (P4.bl s) = R := ⟨_, rfl⟩
  rw [hR]
  rw [kind_tests] at hR
  have hz : (P4.bl s = [37, 122] ∧ (s.toList == [37, 122]) = true) ∨ (¬ P4.bl s = [37, 122] ∧ (s.toList == [37, 122]) = false) := by
    by_cases q : P4.bl s = [37, 122]
    · refine .inl ⟨q, ?_⟩
      have : s = str [37, 122] := by rw [← q]; exact (str_bl s).symm
      rw [this, str_toList]; rfl
    · exact .inr ⟨q, by have x := eq_b s (str [37, 122]) (ne_size q); rwa [str_toList] at x⟩
  generalize P21.abbr (P4.bl s) = A at hR cA
  generalize P21.letter (P4.bl s) = L at hR cL
  generalize P21.num (P4.bl s) = I at hR cI
  generalize P21.abbr (P21.slash (P4.bl s)).1 = A1 at hR cA1
  generalize P21.abbr (P21.slash (P4.bl s)).2.1 = A2 at hR cA2
  generalize P21.num (P21.slash (P4.bl s)).1 = I1 at hR cI1
  generalize P21.num (P21.slash (P4.bl s)).2.1 = I2 at hR cI2
  generalize (P21.slash (P4.bl s)).2.2 = T at hR cC
  generalize str (P21.slash (P4.bl s)).1 = SA at cC cA1 cI1
  generalize str (P21.slash (P4.bl s)).2.1 = SB at cC cA2 cI2
  generalize str (P21.pct (P4.bl s)).1 = PA at cL
  generalize str (P21.pct (P4.bl s)).2.1 = PB at cL
  have HR := Lib.hid hR
  clear hR hsl hs
  cases A with
  | true =>
    go_enter Tryd.func18, Tryd.ntmps18
    go_wp2_with fail
    refine (cC.out _ hv).mono ?_
    rintro e w1 ⟨rfl, hc10⟩
    have hc1 := hc10.below w.heap.size
    have hb1 := hc1
    have hv2 := hv.below hb1
    go_wp2_with fail
    refine (cL.out _ hv2).mono ?_
    rintro e w2 ⟨rfl, hc2⟩
    have hb2 := hb1.trans (hc2.mono hb1.size)
    go_wp2_with fail
    refine (cA.out _).mono ?_
    rintro e w3 ⟨rfl, hc3⟩
    have hb3 := hb2.trans (hc3.mono hb2.size)
    go_wp2_with fail
    go_ret
    exact ⟨by rw [show R = 1 from HR.out.symm.trans (by simp)]; rfl, hb3⟩
  | false =>
    cases T with
    | true =>
      cases A1 with
      | true =>
        cases A2 with
        | true =>
          go_enter Tryd.func18, Tryd.ntmps18
          go_wp2_with fail
          refine (cC.out _ hv).mono ?_
          rintro e w1 ⟨rfl, hc10⟩
          have hc1 := hc10.below w.heap.size
          have hb1 := hc1
          have hv2 := hv.below hb1
          go_wp2_with fail
          refine (cL.out _ hv2).mono ?_
          rintro e w2 ⟨rfl, hc2⟩
          have hb2 := hb1.trans (hc2.mono hb1.size)
          go_wp2_with fail
          refine (cA.out _).mono ?_
          rintro e w3 ⟨rfl, hc3⟩
          have hb3 := hb2.trans (hc3.mono hb2.size)
          go_wp2_with fail
          refine (cA1.out _).mono ?_
          rintro e w4 ⟨rfl, hc4⟩
          have hb4 := hb3.trans (hc4.mono hb3.size)
          go_wp2_with fail
          refine (cA2.out _).mono ?_
          rintro e w5 ⟨rfl, hc5⟩
          have hb5 := hb4.trans (hc5.mono hb4.size)
          go_wp2_with fail
          go_ret
          exact ⟨by rw [show R = 2 from HR.out.symm.trans (by simp)]; rfl, hb5⟩
        | false =>
          cases L with
          | true =>
            go_enter Tryd.func18, Tryd.ntmps18
            go_wp2_with fail
            refine (cC.out _ hv).mono ?_
            rintro e w1 ⟨rfl, hc10⟩
            have hc1 := hc10.below w.heap.size
            have hb1 := hc1
            have hv2 := hv.below hb1
            go_wp2_with fail
            refine (cL.out _ hv2).mono ?_
            rintro e w2 ⟨rfl, hc2⟩
            have hb2 := hb1.trans (hc2.mono hb1.size)
            go_wp2_with fail
            refine (cA.out _).mono ?_
            rintro e w3 ⟨rfl, hc3⟩
            have hb3 := hb2.trans (hc3.mono hb2.size)
            go_wp2_with fail
            refine (cA1.out _).mono ?_
            rintro e w4 ⟨rfl, hc4⟩
            have hb4 := hb3.trans (hc4.mono hb3.size)
            go_wp2_with fail
            refine (cA2.out _).mono ?_
            rintro e w5 ⟨rfl, hc5⟩
            have hb5 := hb4.trans (hc5.mono hb4.size)
            go_wp2_with fail
            go_ret
            exact ⟨by rw [show R = 3 from HR.out.symm.trans (by simp)]; rfl, hb5⟩
          | false =>
            rcases hz with ⟨hz1, hz2⟩ | ⟨hz1, hz2⟩
            · skip
              go_enter Tryd.func18, Tryd.ntmps18
              go_wp2_with fail
              refine (cC.out _ hv).mono ?_
              rintro e w1 ⟨rfl, hc10⟩
              have hc1 := hc10.below w.heap.size
              have hb1 := hc1
              have hv2 := hv.below hb1
              go_wp2_with fail
              refine (cL.out _ hv2).mono ?_
              rintro e w2 ⟨rfl, hc2⟩
              have hb2 := hb1.trans (hc2.mono hb1.size)
              go_wp2_with fail
              refine (cA.out _).mono ?_
              rintro e w3 ⟨rfl, hc3⟩
              have hb3 := hb2.trans (hc3.mono hb2.size)
              go_wp2_with fail
              refine (cA1.out _).mono ?_
              rintro e w4 ⟨rfl, hc4⟩
              have hb4 := hb3.trans (hc4.mono hb3.size)
              go_wp2_with fail
              refine (cA2.out _).mono ?_
              rintro e w5 ⟨rfl, hc5⟩
              have hb5 := hb4.trans (hc5.mono hb4.size)
              go_wp2_with fail
              go_ret
              exact ⟨by rw [show R = 4 from HR.out.symm.trans (by simp [hz1])]; rfl, hb5⟩
            · skip
              cases I with
              | true =>
                go_enter Tryd.func18, Tryd.ntmps18
                go_wp2_with fail
                refine (cC.out _ hv).mono ?_
                rintro e w1 ⟨rfl, hc10⟩
                have hc1 := hc10.below w.heap.size
                have hb1 := hc1
                have hv2 := hv.below hb1
                go_wp2_with fail
                refine (cL.out _ hv2).mono ?_
                rintro e w2 ⟨rfl, hc2⟩
                have hb2 := hb1.trans (hc2.mono hb1.size)
                go_wp2_with fail
                refine (cA.out _).mono ?_
                rintro e w3 ⟨rfl, hc3⟩
                have hb3 := hb2.trans (hc3.mono hb2.size)
                go_wp2_with fail
                refine (cA1.out _).mono ?_
                rintro e w4 ⟨rfl, hc4⟩
                have hb4 := hb3.trans (hc4.mono hb3.size)
                go_wp2_with fail
                refine (cA2.out _).mono ?_
                rintro e w5 ⟨rfl, hc5⟩
                have hb5 := hb4.trans (hc5.mono hb4.size)
                have hv6 := hv.below hb5
                go_wp2_with fail
                refine (cI.out _ hv6).mono ?_
                rintro e w6 ⟨rfl, hc6⟩
                have hb6 := hb5.trans (hc6.mono hb5.size)
                go_wp2_with fail
                go_ret
                exact ⟨by rw [show R = 5 from HR.out.symm.trans (by simp [hz1])]; rfl, hb6⟩
              | false =>
                cases I1 with
                | true =>
                  cases I2 with
                  | true =>
                    go_enter Tryd.func18, Tryd.ntmps18
                    go_wp2_with fail
                    refine (cC.out _ hv).mono ?_
                    rintro e w1 ⟨rfl, hc10⟩
                    have hc1 := hc10.below w.heap.size
                    have hb1 := hc1
                    have hv2 := hv.below hb1
                    go_wp2_with fail
                    refine (cL.out _ hv2).mono ?_
                    rintro e w2 ⟨rfl, hc2⟩
                    have hb2 := hb1.trans (hc2.mono hb1.size)
                    go_wp2_with fail
                    refine (cA.out _).mono ?_
                    rintro e w3 ⟨rfl, hc3⟩
                    have hb3 := hb2.trans (hc3.mono hb2.size)
                    go_wp2_with fail
                    refine (cA1.out _).mono ?_
                    rintro e w4 ⟨rfl, hc4⟩
                    have hb4 := hb3.trans (hc4.mono hb3.size)
                    go_wp2_with fail
                    refine (cA2.out _).mono ?_
                    rintro e w5 ⟨rfl, hc5⟩
                    have hb5 := hb4.trans (hc5.mono hb4.size)
                    have hv6 := hv.below hb5
                    go_wp2_with fail
                    refine (cI.out _ hv6).mono ?_
                    rintro e w6 ⟨rfl, hc6⟩
                    have hb6 := hb5.trans (hc6.mono hb5.size)
                    have hv7 := hv.below hb6
                    go_wp2_with fail
                    refine (cI1.out _ hv7).mono ?_
                    rintro e w7 ⟨rfl, hc7⟩
                    have hb7 := hb6.trans (hc7.mono hb6.size)
                    have hv8 := hv.below hb7
                    go_wp2_with fail
                    refine (cI2.out _ hv8).mono ?_
                    rintro e w8 ⟨rfl, hc8⟩
                    have hb8 := hb7.trans (hc8.mono hb7.size)
                    go_wp2_with fail
                    go_ret
                    exact ⟨by rw [show R = 5 from HR.out.symm.trans (by simp [hz1])]; rfl, hb8⟩
                  | false =>
                    go_enter Tryd.func18, Tryd.ntmps18
                    go_wp2_with fail
                    refine (cC.out _ hv).mono ?_
                    rintro e w1 ⟨rfl, hc10⟩
                    have hc1 := hc10.below w.heap.size
                    have hb1 := hc1
                    have hv2 := hv.below hb1
                    go_wp2_with fail
                    refine (cL.out _ hv2).mono ?_
                    rintro e w2 ⟨rfl, hc2⟩
                    have hb2 := hb1.trans (hc2.mono hb1.size)
                    go_wp2_with fail
                    refine (cA.out _).mono ?_
                    rintro e w3 ⟨rfl, hc3⟩
                    have hb3 := hb2.trans (hc3.mono hb2.size)
                    go_wp2_with fail
                    refine (cA1.out _).mono ?_
                    rintro e w4 ⟨rfl, hc4⟩
                    have hb4 := hb3.trans (hc4.mono hb3.size)
                    go_wp2_with fail
                    refine (cA2.out _).mono ?_
                    rintro e w5 ⟨rfl, hc5⟩
                    have hb5 := hb4.trans (hc5.mono hb4.size)
                    have hv6 := hv.below hb5
                    go_wp2_with fail
                    refine (cI.out _ hv6).mono ?_
                    rintro e w6 ⟨rfl, hc6⟩
                    have hb6 := hb5.trans (hc6.mono hb5.size)
                    have hv7 := hv.below hb6
                    go_wp2_with fail
                    refine (cI1.out _ hv7).mono ?_
                    rintro e w7 ⟨rfl, hc7⟩
                    have hb7 := hb6.trans (hc7.mono hb6.size)
                    have hv8 := hv.below hb7
                    go_wp2_with fail
                    refine (cI2.out _ hv8).mono ?_
                    rintro e w8 ⟨rfl, hc8⟩
                    have hb8 := hb7.trans (hc8.mono hb7.size)
                    go_wp2_with fail
                    go_ret
                    exact ⟨by rw [show R = 0 from HR.out.symm.trans (by simp [hz1])]; rfl, hb8⟩
                | false =>
                  go_enter Tryd.func18, Tryd.ntmps18
                  go_wp2_with fail
                  refine (cC.out _ hv).mono ?_
                  rintro e w1 ⟨rfl, hc10⟩
                  have hc1 := hc10.below w.heap.size
                  have hb1 := hc1
                  have hv2 := hv.below hb1
                  go_wp2_with fail
                  refine (cL.out _ hv2).mono ?_
                  rintro e w2 ⟨rfl, hc2⟩
                  have hb2 := hb1.trans (hc2.mono hb1.size)
                  go_wp2_with fail
                  refine (cA.out _).mono ?_
                  rintro e w3 ⟨rfl, hc3⟩
                  have hb3 := hb2.trans (hc3.mono hb2.size)
                  go_wp2_with fail
                  refine (cA1.out _).mono ?_
                  rintro e w4 ⟨rfl, hc4⟩
                  have hb4 := hb3.trans (hc4.mono hb3.size)
                  go_wp2_with fail
                  refine (cA2.out _).mono ?_
                  rintro e w5 ⟨rfl, hc5⟩
                  have hb5 := hb4.trans (hc5.mono hb4.size)
                  have hv6 := hv.below hb5
                  go_wp2_with fail
                  refine (cI.out _ hv6).mono ?_
                  rintro e w6 ⟨rfl, hc6⟩
                  have hb6 := hb5.trans (hc6.mono hb5.size)
                  have hv7 := hv.below hb6
                  go_wp2_with fail
                  refine (cI1.out _ hv7).mono ?_
                  rintro e w7 ⟨rfl, hc7⟩
                  have hb7 := hb6.trans (hc7.mono hb6.size)
                  go_wp2_with fail
                  go_ret
                  exact ⟨by rw [show R = 0 from HR.out.symm.trans (by simp [hz1])]; rfl, hb7⟩
      | false =>
        cases L with
        | true =>
          go_enter Tryd.func18, Tryd.ntmps18
          go_wp2_with fail
          refine (cC.out _ hv).mono ?_
          rintro e w1 ⟨rfl, hc10⟩
          have hc1 := hc10.below w.heap.size
          have hb1 := hc1
          have hv2 := hv.below hb1
          go_wp2_with fail
          refine (cL.out _ hv2).mono ?_
          rintro e w2 ⟨rfl, hc2⟩
          have hb2 := hb1.trans (hc2.mono hb1.size)
          go_wp2_with fail
          refine (cA.out _).mono ?_
          rintro e w3 ⟨rfl, hc3⟩
          have hb3 := hb2.trans (hc3.mono hb2.size)
          go_wp2_with fail
          refine (cA1.out _).mono ?_
          rintro e w4 ⟨rfl, hc4⟩
          have hb4 := hb3.trans (hc4.mono hb3.size)
          go_wp2_with fail
          go_ret
          exact ⟨by rw [show R = 3 from HR.out.symm.trans (by simp)]; rfl, hb4⟩
        | false =>
          rcases hz with ⟨hz1, hz2⟩ | ⟨hz1, hz2⟩
          · skip
            go_enter Tryd.func18, Tryd.ntmps18
            go_wp2_with fail
            refine (cC.out _ hv).mono ?_
            rintro e w1 ⟨rfl, hc10⟩
            have hc1 := hc10.below w.heap.size
            have hb1 := hc1
            have hv2 := hv.below hb1
            go_wp2_with fail
            refine (cL.out _ hv2).mono ?_
            rintro e w2 ⟨rfl, hc2⟩
            have hb2 := hb1.trans (hc2.mono hb1.size)
            go_wp2_with fail
            refine (cA.out _).mono ?_
            rintro e w3 ⟨rfl, hc3⟩
            have hb3 := hb2.trans (hc3.mono hb2.size)
            go_wp2_with fail
            refine (cA1.out _).mono ?_
            rintro e w4 ⟨rfl, hc4⟩
            have hb4 := hb3.trans (hc4.mono hb3.size)
            go_wp2_with fail
            go_ret
            exact ⟨by rw [show R = 4 from HR.out.symm.trans (by simp [hz1])]; rfl, hb4⟩
          · skip
            cases I with
            | true =>
              go_enter Tryd.func18, Tryd.ntmps18
              go_wp2_with fail
              refine (cC.out _ hv).mono ?_
              rintro e w1 ⟨rfl, hc10⟩
              have hc1 := hc10.below w.heap.size
              have hb1 := hc1
              have hv2 := hv.below hb1
              go_wp2_with fail
              refine (cL.out _ hv2).mono ?_
              rintro e w2 ⟨rfl, hc2⟩
              have hb2 := hb1.trans (hc2.mono hb1.size)
              go_wp2_with fail
              refine (cA.out _).mono ?_
              rintro e w3 ⟨rfl, hc3⟩
              have hb3 := hb2.trans (hc3.mono hb2.size)
              go_wp2_with fail
              refine (cA1.out _).mono ?_
              rintro e w4 ⟨rfl, hc4⟩
              have hb4 := hb3.trans (hc4.mono hb3.size)
              have hv5 := hv.below hb4
              go_wp2_with fail
              refine (cI.out _ hv5).mono ?_
              rintro e w5 ⟨rfl, hc5⟩
              have hb5 := hb4.trans (hc5.mono hb4.size)
              go_wp2_with fail
              go_ret
              exact ⟨by rw [show R = 5 from HR.out.symm.trans (by simp [hz1])]; rfl, hb5⟩
            | false =>
              cases I1 with
              | true =>
                cases I2 with
                | true =>
                  go_enter Tryd.func18, Tryd.ntmps18
                  go_wp2_with fail
                  refine (cC.out _ hv).mono ?_
                  rintro e w1 ⟨rfl, hc10⟩
                  have hc1 := hc10.below w.heap.size
                  have hb1 := hc1
                  have hv2 := hv.below hb1
                  go_wp2_with fail
                  refine (cL.out _ hv2).mono ?_
                  rintro e w2 ⟨rfl, hc2⟩
                  have hb2 := hb1.trans (hc2.mono hb1.size)
                  go_wp2_with fail
                  refine (cA.out _).mono ?_
                  rintro e w3 ⟨rfl, hc3⟩
                  have hb3 := hb2.trans (hc3.mono hb2.size)
                  go_wp2_with fail
                  refine (cA1.out _).mono ?_
                  rintro e w4 ⟨rfl, hc4⟩
                  have hb4 := hb3.trans (hc4.mono hb3.size)
                  have hv5 := hv.below hb4
                  go_wp2_with fail
                  refine (cI.out _ hv5).mono ?_
                  rintro e w5 ⟨rfl, hc5⟩
                  have hb5 := hb4.trans (hc5.mono hb4.size)
                  have hv6 := hv.below hb5
                  go_wp2_with fail
                  refine (cI1.out _ hv6).mono ?_
                  rintro e w6 ⟨rfl, hc6⟩
                  have hb6 := hb5.trans (hc6.mono hb5.size)
                  have hv7 := hv.below hb6
                  go_wp2_with fail
                  refine (cI2.out _ hv7).mono ?_
                  rintro e w7 ⟨rfl, hc7⟩
                  have hb7 := hb6.trans (hc7.mono hb6.size)
                  go_wp2_with fail
                  go_ret
                  exact ⟨by rw [show R = 5 from HR.out.symm.trans (by simp [hz1])]; rfl, hb7⟩
                | false =>
                  go_enter Tryd.func18, Tryd.ntmps18
                  go_wp2_with fail
                  refine (cC.out _ hv).mono ?_
                  rintro e w1 ⟨rfl, hc10⟩
                  have hc1 := hc10.below w.heap.size
                  have hb1 := hc1
                  have hv2 := hv.below hb1
                  go_wp2_with fail
                  refine (cL.out _ hv2).mono ?_
                  rintro e w2 ⟨rfl, hc2⟩
                  have hb2 := hb1.trans (hc2.mono hb1.size)
                  go_wp2_with fail
                  refine (cA.out _).mono ?_
                  rintro e w3 ⟨rfl, hc3⟩
                  have hb3 := hb2.trans (hc3.mono hb2.size)
                  go_wp2_with fail
                  refine (cA1.out _).mono ?_
                  rintro e w4 ⟨rfl, hc4⟩
                  have hb4 := hb3.trans (hc4.mono hb3.size)
                  have hv5 := hv.below hb4
                  go_wp2_with fail
                  refine (cI.out _ hv5).mono ?_
                  rintro e w5 ⟨rfl, hc5⟩
                  have hb5 := hb4.trans (hc5.mono hb4.size)
                  have hv6 := hv.below hb5
                  go_wp2_with fail
                  refine (cI1.out _ hv6).mono ?_
                  rintro e w6 ⟨rfl, hc6⟩
                  have hb6 := hb5.trans (hc6.mono hb5.size)
                  have hv7 := hv.below hb6
                  go_wp2_with fail
                  refine (cI2.out _ hv7).mono ?_
                  rintro e w7 ⟨rfl, hc7⟩
                  have hb7 := hb6.trans (hc7.mono hb6.size)
                  go_wp2_with fail
                  go_ret
                  exact ⟨by rw [show R = 0 from HR.out.symm.trans (by simp [hz1])]; rfl, hb7⟩
              | false =>
                go_enter Tryd.func18, Tryd.ntmps18
                go_wp2_with fail
                refine (cC.out _ hv).mono ?_
                rintro e w1 ⟨rfl, hc10⟩
                have hc1 := hc10.below w.heap.size
                have hb1 := hc1
                have hv2 := hv.below hb1
                go_wp2_with fail
                refine (cL.out _ hv2).mono ?_
                rintro e w2 ⟨rfl, hc2⟩
                have hb2 := hb1.trans (hc2.mono hb1.size)
                go_wp2_with fail
                refine (cA.out _).mono ?_
                rintro e w3 ⟨rfl, hc3⟩
                have hb3 := hb2.trans (hc3.mono hb2.size)
                go_wp2_with fail
                refine (cA1.out _).mono ?_
                rintro e w4 ⟨rfl, hc4⟩
                have hb4 := hb3.trans (hc4.mono hb3.size)
                have hv5 := hv.below hb4
                go_wp2_with fail
                refine (cI.out _ hv5).mono ?_
                rintro e w5 ⟨rfl, hc5⟩
                have hb5 := hb4.trans (hc5.mono hb4.size)
                have hv6 := hv.below hb5
                go_wp2_with fail
                refine (cI1.out _ hv6).mono ?_
                rintro e w6 ⟨rfl, hc6⟩
                have hb6 := hb5.trans (hc6.mono hb5.size)
                go_wp2_with fail
                go_ret
                exact ⟨by rw [show R = 0 from HR.out.symm.trans (by simp [hz1])]; rfl, hb6⟩
    | false =>
      cases L with
      | true =>
        go_enter Tryd.func18, Tryd.ntmps18
        go_wp2_with fail
        refine (cC.out _ hv).mono ?_
        rintro e w1 ⟨rfl, hc10⟩
        have hc1 := hc10.below w.heap.size
        have hb1 := hc1
        have hv2 := hv.below hb1
        go_wp2_with fail
        refine (cL.out _ hv2).mono ?_
        rintro e w2 ⟨rfl, hc2⟩
        have hb2 := hb1.trans (hc2.mono hb1.size)
        go_wp2_with fail
        refine (cA.out _).mono ?_
        rintro e w3 ⟨rfl, hc3⟩
        have hb3 := hb2.trans (hc3.mono hb2.size)
        go_wp2_with fail
        go_ret
        exact ⟨by rw [show R = 3 from HR.out.symm.trans (by simp)]; rfl, hb3⟩
      | false =>
        rcases hz with ⟨hz1, hz2⟩ | ⟨hz1, hz2⟩
        · skip
          go_enter Tryd.func18, Tryd.ntmps18
          go_wp2_with fail
          refine (cC.out _ hv).mono ?_
          rintro e w1 ⟨rfl, hc10⟩
          have hc1 := hc10.below w.heap.size
          have hb1 := hc1
          have hv2 := hv.below hb1
          go_wp2_with fail
          refine (cL.out _ hv2).mono ?_
          rintro e w2 ⟨rfl, hc2⟩
          have hb2 := hb1.trans (hc2.mono hb1.size)
          go_wp2_with fail
          refine (cA.out _).mono ?_
          rintro e w3 ⟨rfl, hc3⟩
          have hb3 := hb2.trans (hc3.mono hb2.size)
          go_wp2_with fail
          go_ret
          exact ⟨by rw [show R = 4 from HR.out.symm.trans (by simp [hz1])]; rfl, hb3⟩
        · skip
          cases I with
          | true =>
            go_enter Tryd.func18, Tryd.ntmps18
            go_wp2_with fail
            refine (cC.out _ hv).mono ?_
            rintro e w1 ⟨rfl, hc10⟩
            have hc1 := hc10.below w.heap.size
            have hb1 := hc1
            have hv2 := hv.below hb1
            go_wp2_with fail
            refine (cL.out _ hv2).mono ?_
            rintro e w2 ⟨rfl, hc2⟩
            have hb2 := hb1.trans (hc2.mono hb1.size)
            go_wp2_with fail
            refine (cA.out _).mono ?_
            rintro e w3 ⟨rfl, hc3⟩
            have hb3 := hb2.trans (hc3.mono hb2.size)
            have hv4 := hv.below hb3
            go_wp2_with fail
            refine (cI.out _ hv4).mono ?_
            rintro e w4 ⟨rfl, hc4⟩
            have hb4 := hb3.trans (hc4.mono hb3.size)
            go_wp2_with fail
            go_ret
            exact ⟨by rw [show R = 5 from HR.out.symm.trans (by simp [hz1])]; rfl, hb4⟩
          | false =>
            go_enter Tryd.func18, Tryd.ntmps18
            go_wp2_with fail
            refine (cC.out _ hv).mono ?_
            rintro e w1 ⟨rfl, hc10⟩
            have hc1 := hc10.below w.heap.size
            have hb1 := hc1
            have hv2 := hv.below hb1
            go_wp2_with fail
            refine (cL.out _ hv2).mono ?_
            rintro e w2 ⟨rfl, hc2⟩
            have hb2 := hb1.trans (hc2.mono hb1.size)
            go_wp2_with fail
            refine (cA.out _).mono ?_
            rintro e w3 ⟨rfl, hc3⟩
            have hb3 := hb2.trans (hc3.mono hb2.size)
            have hv4 := hv.below hb3
            go_wp2_with fail
            refine (cI.out _ hv4).mono ?_
            rintro e w4 ⟨rfl, hc4⟩
            have hb4 := hb3.trans (hc4.mono hb3.size)
            go_wp2_with fail
            go_ret
            exact ⟨by rw [show R = 0 from HR.out.symm.trans (by simp [hz1])]; rfl, hb4⟩
end Go.Proofs.YtmhciidliicheaaDoor
