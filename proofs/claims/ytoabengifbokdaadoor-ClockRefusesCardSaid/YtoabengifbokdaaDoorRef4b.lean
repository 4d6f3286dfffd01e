/- The walk of the reference's Parse (chapter 4): what a string is read as. -/
import Derived.Test.YtoabengifbokdaaDoorRef4
namespace Go.Proofs.YtoabengifbokdaaDoor
open Go.RowKit
set_option linter.unusedVariables false

set_option maxHeartbeats 1000000 in -- rparse
theorem rparse_any (s : ByteArray) (w : World) (hs : s.size ≤ 1000000) :
    Calls Tryd.prog 24 #[.string s] w fun e w' => e = .returned (.tuple #[.int .i64 (P4.pv (P4.bl s)), .int .i64 (P4.pe (P4.bl s))]) ∧ Q w w' := by
  have hlen := P4.bl_len s
  have plus : P4.minusB (P4.bl s) = false → (s.size = 0 ∨ ∃ h : 0 < s.size, (((s[0]'h).toNat : Int) == 45) = false) → Calls Tryd.prog 24 #[.string s] w fun e w' => e = .returned (.tuple #[.int .i64 (P4.pv (P4.bl s)), .int .i64 (P4.pe (P4.bl s))]) ∧ Q w w' := by
    intro hm0 hcase
    have hm := Lib.hid hm0
    have hc : Hid (∀ W, Calls Tryd.prog 31 #[.string s] W fun e w' => e = .returned (.tuple #[.int .i64 (P4.fv (P4.bl s)), .bool (P4.fb (P4.bl s))]) ∧ Q W w') := fun W => form_any s W hs
    obtain ⟨r, hr0⟩ : ∃ r, r = P4.bl s := ⟨_, rfl⟩
    have hr : (if P4.minusB (P4.bl s) then (P4.bl s).drop 1 else P4.bl s) = P4.bl s := by rw [hm0]; rfl
    rw [← hr0] at hc hr hm ⊢
    clear hm0
    clear hlen
    have HR0 := Lib.hid hr0
    clear hr0
    rcases hcase with hz | ⟨hpos, h45⟩
    · have hzi : (s.size : Int) ≤ 0 := by omega
      clear hz
      cases hb : P4.fb r with
      | false =>
        have HP := Lib.hid (P4.parse_none (l := r) (r := r) hr hb)
        clear hr
        go_enter Tryd.func24, Tryd.ntmps24
        go_wp2_with (go_at_call 31; refine (hc.out _).mono ?_; rintro e w' ⟨rfl, n1, rfl⟩)
        go_ret2
        exact ⟨by simp only [P4.pv, P4.pe, HP.out]; rfl, _, rfl⟩
      | true =>
        have hbd := P4.fv_bd r
        by_cases h1 : 604799 < P4.fv r
        · skip
          have HP := Lib.hid (P4.parse_far (l := r) hr hb h1)
          clear hr
          go_enter Tryd.func24, Tryd.ntmps24
          go_wp2_with (go_at_call 31; refine (hc.out _).mono ?_; rintro e w' ⟨rfl, n1, rfl⟩)
          go_ret2
          exact ⟨by simp only [P4.pv, P4.pe, HP.out]; rfl, _, rfl⟩
        · skip
          have HP := Lib.hid (P4.parse_plus hm.out hb (by omega))
          clear hr
          go_enter Tryd.func24, Tryd.ntmps24
          go_wp2_with (go_at_call 31; refine (hc.out _).mono ?_; rintro e w' ⟨rfl, n1, rfl⟩)
          go_ret2
          exact ⟨by simp only [P4.pv, P4.pe, HP.out]; rfl, _, rfl⟩
    · have hzi : (0 : Int) < (s.size : Int) := by omega
      cases hb : P4.fb r with
      | false =>
        have HP := Lib.hid (P4.parse_none (l := r) (r := r) hr hb)
        clear hr
        go_enter Tryd.func24, Tryd.ntmps24
        go_wp2_with (go_at_call 31; refine (hc.out _).mono ?_; rintro e w' ⟨rfl, n1, rfl⟩)
        go_ret2
        exact ⟨by simp only [P4.pv, P4.pe, HP.out]; rfl, _, rfl⟩
      | true =>
        have hbd := P4.fv_bd r
        by_cases h1 : 604799 < P4.fv r
        · skip
          have HP := Lib.hid (P4.parse_far (l := r) hr hb h1)
          clear hr
          go_enter Tryd.func24, Tryd.ntmps24
          go_wp2_with (go_at_call 31; refine (hc.out _).mono ?_; rintro e w' ⟨rfl, n1, rfl⟩)
          go_ret2
          exact ⟨by simp only [P4.pv, P4.pe, HP.out]; rfl, _, rfl⟩
        · skip
          have HP := Lib.hid (P4.parse_plus hm.out hb (by omega))
          clear hr
          go_enter Tryd.func24, Tryd.ntmps24
          go_wp2_with (go_at_call 31; refine (hc.out _).mono ?_; rintro e w' ⟨rfl, n1, rfl⟩)
          go_ret2
          exact ⟨by simp only [P4.pv, P4.pe, HP.out]; rfl, _, rfl⟩
  by_cases hz : s.size = 0
  · exact plus (by simp only [P4.minusB]; rw [List.getElem?_eq_none (by omega)]; rfl) (.inl hz)
  · have hpos : 0 < s.size := by omega
    have hposi : (0 : Int) < (s.size : Int) := by omega
    have hg := P4.bl_get s 0 hpos
    by_cases hmm : (s[0]'hpos).toNat = 45
    · have hmb : (((s[0]'hpos).toNat : Int) == 45) = true := by rw [hmm]; rfl
      have hm : Hid (P4.minusB (P4.bl s) = true) := by simp only [P4.minusB, hg, beq_iff_eq]; exact congrArg some (UInt8.toNat_inj.1 hmm)
      obtain ⟨r, hr0⟩ : ∃ r, r = (P4.bl s).drop 1 := ⟨_, rfl⟩
      have hc : Hid (∀ W, Calls Tryd.prog 31 #[.string (s.extract 1 s.size)] W fun e w' => e = .returned (.tuple #[.int .i64 (P4.fv r), .bool (P4.fb r)]) ∧ Q W w') := fun W => by
        rw [hr0, ← P4.bl_extract1 s]; exact form_any _ W (by rw [ByteArray.size_extract]; omega)
      have hr : (if P4.minusB (P4.bl s) then (P4.bl s).drop 1 else P4.bl s) = r := by rw [hm.out, hr0]; rfl
      have hr1 : (P4.bl s).drop 1 = r := hr0.symm
      have HR1 := Lib.hid hr1
      clear hg hmm hlen hr0
      cases hb : P4.fb r with
      | false =>
        have HP := Lib.hid (P4.parse_none (l := P4.bl s) (r := r) hr hb)
        clear hr
        go_enter Tryd.func24, Tryd.ntmps24
        go_wp2_with (go_at_call 31; refine (hc.out _).mono ?_; rintro e w' ⟨rfl, n1, rfl⟩)
        go_ret2
        exact ⟨by simp only [P4.pv, P4.pe, HP.out]; rfl, _, rfl⟩
      | true =>
        have hbd := P4.fv_bd r
        by_cases h0 : P4.fv r = 0
        · have h0b : (P4.fv r == 0) = true := by rw [beq_iff_eq]; exact h0
          have HP := Lib.hid (P4.parse_zero hm.out hr1 hb h0)
          clear h0 hr
          go_enter Tryd.func24, Tryd.ntmps24
          go_wp2_with (go_at_call 31; refine (hc.out _).mono ?_; rintro e w' ⟨rfl, n1, rfl⟩)
          go_ret2
          exact ⟨by simp only [P4.pv, P4.pe, HP.out]; rfl, _, rfl⟩
        · have h0b : (P4.fv r == 0) = false := by rw [beq_eq_false_iff_ne]; exact h0
          by_cases h1 : 604799 < P4.fv r
          · skip
            have HP := Lib.hid (P4.parse_far (l := P4.bl s) hr hb h1)
            clear hr
            go_enter Tryd.func24, Tryd.ntmps24
            go_wp2_with (go_at_call 31; refine (hc.out _).mono ?_; rintro e w' ⟨rfl, n1, rfl⟩)
            go_ret2
            exact ⟨by simp only [P4.pv, P4.pe, HP.out]; rfl, _, rfl⟩
          · skip
            have HP := Lib.hid (P4.parse_minus hm.out hr1 hb h0 (by omega))
            clear hr
            go_enter Tryd.func24, Tryd.ntmps24
            go_wp2_with (go_at_call 31; refine (hc.out _).mono ?_; rintro e w' ⟨rfl, n1, rfl⟩)
            go_ret2
            exact ⟨by simp only [P4.pv, P4.pe, HP.out]; rfl, _, rfl⟩
    · have hmb : (((s[0]'hpos).toNat : Int) == 45) = false := by rw [beq_eq_false_iff_ne]; omega
      exact plus (by simp only [P4.minusB, hg, beq_eq_false_iff_ne]; exact fun h => hmm (by injection h with h; rw [h]; rfl)) (.inr ⟨hpos, hmb⟩)
end Go.Proofs.YtoabengifbokdaaDoor
