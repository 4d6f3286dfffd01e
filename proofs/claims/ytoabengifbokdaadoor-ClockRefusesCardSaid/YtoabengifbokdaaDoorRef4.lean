/- The walks of the reference of chapter 4 (amounts of time): each function of the document's answer, once. -/
import Derived.Test.YtoabengifbokdaaDoorPlain4
import Derived.Test.YtoabengifbokdaaDoorCom
import Derived.Test.YtoabengifbokdaaDoorChecked
namespace Go.Proofs.YtoabengifbokdaaDoor
open Go.RowKit
set_option linter.unusedVariables false

theorem digit_yes (c : Int) (w : World) (h0 : 48 ≤ c) (h1 : c ≤ 57) :
    Calls Tryd.prog 37 #[.int .u8 c] w fun e w' => e = .returned (.int .i64 (c - 48)) ∧ w = w' := by
  go_enter Tryd.func37, Tryd.ntmps37
  go_wp2
  go_ret
  exact ⟨rfl, rfl⟩
theorem digit_no (c : Int) (w : World) (h : c < 48 ∨ 57 < c) :
    Calls Tryd.prog 37 #[.int .u8 c] w fun e w' => e = .returned (.int .i64 (-1)) ∧ w = w' := by
  rcases h with h | h
  · go_enter Tryd.func37, Tryd.ntmps37
    go_wp2
    go_ret
    exact ⟨rfl, rfl⟩
  · have h' : ¬ c < 48 := by omega
    go_enter Tryd.func37, Tryd.ntmps37
    go_wp2
    go_ret
    exact ⟨rfl, rfl⟩
/-- digit, whatever the byte -/
theorem digit_any (c : Int) (w : World) :
    Calls Tryd.prog 37 #[.int .u8 c] w fun e w' => e = .returned (.int .i64 (P4.dig c)) ∧ w = w' := by
  by_cases h : 48 ≤ c ∧ c ≤ 57
  · rw [P4.dig, if_pos h]; exact digit_yes c w h.1 h.2
  · rw [P4.dig, if_neg h]; exact digit_no c w (by omega)

set_option maxHeartbeats 400000 in
theorem pair_short (s : ByteArray) (k : Nat) (w : World) (hs : s.size ≤ 1000000) (hk : k ≤ 2000000) (h : s.size < k + 2) :
    Calls Tryd.prog 38 #[.string s, .int .i64 k] w fun e w' => e = .returned (.int .i64 (-1)) ∧ Q w w' := by
  have hd : (s.size : Int) < (k : Int) + 2 := by omega
  go_enter Tryd.func38, Tryd.ntmps38
  go_wp2_with fail
  go_ret
  exact ⟨rfl, Q.refl _⟩
set_option maxHeartbeats 400000 in
theorem pair_long (s : ByteArray) (k : Nat) (a b : Int) (w : World) (hs : s.size ≤ 1000000) (h : k + 2 ≤ s.size) (ha : ∀ h, ((s[k]'h).toNat : Int) = a) (hb : ∀ h, ((s[k+1]'h).toNat : Int) = b) :
    Calls Tryd.prog 38 #[.string s, .int .i64 k] w fun e w' => e = .returned (.int .i64 (if 48 ≤ a ∧ a ≤ 53 ∧ 48 ≤ b ∧ b ≤ 57 then 10 * (a - 48) + (b - 48) else -1)) ∧ Q w w' := by
  have hd : (k : Int) + 2 ≤ (s.size : Int) := by omega
  have h0 : k < s.size := by omega
  have h1 : k + 1 < s.size := by omega
  have ha' : ((s[k]'h0).toNat : Int) = a := ha h0
  have hb' : ((s[k+1]'h1).toNat : Int) = b := hb h1
  clear ha hb
  have hq : ∀ (x : Int) (w : World) (n : Nat), 48 ≤ x → x ≤ 57 → Calls Tryd.prog 37 #[.int .u8 x] (w.drewN n) fun e w'' => e = .returned (.int .i64 (x - 48)) ∧ ∃ m, w'' = w.drewN m := fun x w n p q => quiet_s (digit_yes x _ p q)
  by_cases c1 : 48 ≤ a ∧ a ≤ 57
  · by_cases c2 : 48 ≤ b ∧ b ≤ 57
    · by_cases c3 : a ≤ 53
      · rw [if_pos ⟨c1.1, c3, c2⟩]
        go_enter Tryd.func38, Tryd.ntmps38
        go_wp2_with (go_at_call 37; first | (refine (digit_yes _ _ (by omega) (by omega)).mono ?_; rintro e w' ⟨rfl, rfl⟩) | (refine (digit_no _ _ (by omega)).mono ?_; rintro e w' ⟨rfl, rfl⟩))
        go_quiet ((go_at_call 37; exact hq _ _ _ (by omega) (by omega)))
        go_wp2
        go_ret
        exact ⟨rfl, Q.drewN _ _⟩
      · rw [if_neg (fun h => c3 h.2.1)]
        go_enter Tryd.func38, Tryd.ntmps38
        go_wp2_with (go_at_call 37; first | (refine (digit_yes _ _ (by omega) (by omega)).mono ?_; rintro e w' ⟨rfl, rfl⟩) | (refine (digit_no _ _ (by omega)).mono ?_; rintro e w' ⟨rfl, rfl⟩))
        go_ret
        exact ⟨rfl, Q.refl _⟩
    · rw [if_neg (fun h => c2 h.2.2)]
      go_enter Tryd.func38, Tryd.ntmps38
      go_wp2_with (go_at_call 37; first | (refine (digit_yes _ _ (by omega) (by omega)).mono ?_; rintro e w' ⟨rfl, rfl⟩) | (refine (digit_no _ _ (by omega)).mono ?_; rintro e w' ⟨rfl, rfl⟩))
      go_ret
      exact ⟨rfl, Q.refl _⟩
  · rw [if_neg (fun h => c1 ⟨h.1, by omega⟩)]
    go_enter Tryd.func38, Tryd.ntmps38
    go_wp2_with (go_at_call 37; first | (refine (digit_yes _ _ (by omega) (by omega)).mono ?_; rintro e w' ⟨rfl, rfl⟩) | (refine (digit_no _ _ (by omega)).mono ?_; rintro e w' ⟨rfl, rfl⟩))
    go_ret
    exact ⟨rfl, Q.refl _⟩

theorem pair_any (s : ByteArray) (k : Nat) (K : Int) (hK : K = k) (w : World) (hs : s.size ≤ 1000000) (hk : k ≤ 2000000) :
    Calls Tryd.prog 38 #[.string s, .int .i64 K] w fun e w' => e = .returned (.int .i64 (P4.pr (P4.bl s) k)) ∧ Q w w' := by
  subst hK
  by_cases h : s.size < k + 2
  · rw [P4.pr_short _ _ (by rw [P4.bl_len]; exact h)]; exact pair_short s k w hs hk h
  · rw [P4.pr_long _ k _ _ (P4.bl_get s k (by omega)) (P4.bl_get s (k + 1) (by omega))]
    exact pair_long s k _ _ w hs (by omega) (fun _ => rfl) (fun _ => rfl)

set_option maxHeartbeats 4000000 in -- form
set_option maxRecDepth 100000 in
theorem form_any (s : ByteArray) (w : World) (hs : s.size ≤ 1000000) :
    Calls Tryd.prog 31 #[.string s] w fun e w' => e = .returned (.tuple #[.int .i64 (P4.fv (P4.bl s)), .bool (P4.fb (P4.bl s))]) ∧ Q w w' := by
  have hlen := P4.bl_len s
  go_enter Tryd.func31, Tryd.ntmps31
  go_wp2
  go_loopw [4, 5] (fun n h wr => ∃ k : Nat, k ≤ 3 ∧ k ≤ s.size ∧ n = .int .i64 k ∧ h = .int .i64 (P4.val ((P4.bl s).take k)) ∧ (∀ i, i < k → ∀ c, (P4.bl s)[i]? = some c → P4.isD c = true) ∧ Q w wr) (fun n _ _ => 4 - (intOf n).toNat)
  case atStart => exact ⟨0, by omega, by omega, rfl, rfl, fun i hi => absurd hi (by omega), Q.refl _⟩
  case round =>
    obtain ⟨k, hk3, hks, rfl, rfl, hdig, n0, rfl⟩ := hrel
    have hvb := P4.val_bd (P4.bl s) k (by omega) hdig (by omega)
    by_cases hlt : k < s.size
    · have hget := P4.bl_get s k hlt
      by_cases hd : P4.isD (s[k]'hlt) = true
      · have hd1 : 48 ≤ ((s[k]'hlt).toNat : Int) ∧ ((s[k]'hlt).toNat : Int) ≤ 57 := by simp only [P4.isD, decide_eq_true_eq] at hd; omega
        have hdig' : ∀ i, i < k + 1 → ∀ c, (P4.bl s)[i]? = some c → P4.isD c = true := by
          intro i hi c hc
          by_cases e : i = k
          · subst e; rw [hget] at hc; injection hc with hc; subst hc; exact hd
          · exact hdig i (by omega) c hc
        have HV : Hid (P4.val ((P4.bl s).take (k + 1)) = 10 * P4.val ((P4.bl s).take k) + (((s[k]'hlt).toNat : Int) - 48)) := P4.val_take _ _ _ hget
        have HD := Lib.hid hdig'
        have HG := Lib.hid hget
        clear hdig hdig' hget hd
        have hv0 := hvb.1
        have hv1 := hvb.2.1
        clear hvb
        by_cases hk : k ≤ 2
        · go_wp2_with (first | (go_at_call 37; first | (refine (digit_yes _ _ (by omega) (by omega)).mono ?_; rintro e w' ⟨rfl, rfl⟩) | (refine (digit_no _ _ (by omega)).mono ?_; rintro e w' ⟨rfl, rfl⟩)) | (go_at_call 38; first | (refine (pair_any s (k + 1) _ (by omega) _ hs (by omega)).mono ?_; rintro e w' ⟨rfl, n1, rfl⟩) | (refine (pair_any s (k + 4) _ (by omega) _ hs (by omega)).mono ?_; rintro e w' ⟨rfl, n2, rfl⟩)))
          go_roundw
          case rel => exact ⟨k + 1, by omega, by omega, by go_num, by rw [HV.out], HD.out, _, rfl⟩
          case measure => simp [intOf]; omega
        · obtain rfl : k = 3 := by omega
          have hl4 := P4.lead_ge (P4.bl s) 4 (by omega) HD.out
          have ham : P4.amount (P4.bl s) = none := P4.am_no rfl (by simp [P4.headB]; omega)
          have HF := Lib.hid (P4.fv_none ham)
          have HB := Lib.hid (P4.fb_none ham)
          clear ham hl4 hlen
          go_wp2_with (first | (go_at_call 37; first | (refine (digit_yes _ _ (by omega) (by omega)).mono ?_; rintro e w' ⟨rfl, rfl⟩) | (refine (digit_no _ _ (by omega)).mono ?_; rintro e w' ⟨rfl, rfl⟩)) | (go_at_call 38; first | (refine (pair_any s (k + 1) _ (by omega) _ hs (by omega)).mono ?_; rintro e w' ⟨rfl, n1, rfl⟩) | (refine (pair_any s (k + 4) _ (by omega) _ hs (by omega)).mono ?_; rintro e w' ⟨rfl, n2, rfl⟩)))
          go_ret2
          exact ⟨by rw [HF.out, HB.out]; try rfl, _, rfl⟩
      · have hd1 : ((s[k]'hlt).toNat : Int) < 48 ∨ 57 < ((s[k]'hlt).toNat : Int) := by simp only [P4.isD, decide_eq_true_eq] at hd; omega
        have hlead : ((P4.bl s).takeWhile P4.isD).length = k := P4.lead_eq _ k (by omega) hdig (fun c hc => by rw [hget] at hc; injection hc with hc; subst hc; simpa using hd)
        have HL := Lib.hid hlead
        have hb1 := P4.pr_bd (P4.bl s) (k + 1)
        have hb4 := P4.pr_bd (P4.bl s) (k + 4)
        have hv0 := hvb.1
        have hv1 := hvb.2.1
        clear hlead hget hdig hvb hd
        by_cases h0 : k = 0
        · subst h0
          have HF := Lib.hid (P4.fv_none (P4.am_no HL.out (by simp [P4.headB])))
          have HB := Lib.hid (P4.fb_none (P4.am_no HL.out (by simp [P4.headB])))
          clear hlen
          go_wp2_with (first | (go_at_call 37; first | (refine (digit_yes _ _ (by omega) (by omega)).mono ?_; rintro e w' ⟨rfl, rfl⟩) | (refine (digit_no _ _ (by omega)).mono ?_; rintro e w' ⟨rfl, rfl⟩)) | (go_at_call 38; first | (refine (pair_any s (0 + 1) _ (by omega) _ hs (by omega)).mono ?_; rintro e w' ⟨rfl, n1, rfl⟩) | (refine (pair_any s (0 + 4) _ (by omega) _ hs (by omega)).mono ?_; rintro e w' ⟨rfl, n2, rfl⟩)))
          go_ret2
          exact ⟨by rw [HF.out, HB.out]; try rfl, _, rfl⟩
        · have hz : ((k : Int) == 0) = false := by rw [beq_eq_false_iff_ne]; omega
          by_cases h1 : 1 < k
          · have h1i : (1 : Int) < (k : Int) := by omega
            have hpos : 0 < s.size := by omega
            have hg0 := P4.bl_get s 0 hpos
            by_cases h48 : (s[0]'hpos).toNat = 48
            · have h48b : (((s[0]'hpos).toNat : Int) == 48) = true := by rw [h48]; rfl
              have HZ : Hid ((P4.bl s)[0]? = some 48) := by rw [hg0]; exact congrArg some (UInt8.toNat_inj.1 h48)
              clear hg0 h48
              have HF := Lib.hid (P4.fv_none (P4.am_no HL.out (by simp only [P4.headB, decide_eq_false_iff_not]; exact fun q => q.2.2 ⟨h1, HZ.out⟩)))
              have HB := Lib.hid (P4.fb_none (P4.am_no HL.out (by simp only [P4.headB, decide_eq_false_iff_not]; exact fun q => q.2.2 ⟨h1, HZ.out⟩)))
              clear hlen
              go_wp2_with (first | (go_at_call 37; first | (refine (digit_yes _ _ (by omega) (by omega)).mono ?_; rintro e w' ⟨rfl, rfl⟩) | (refine (digit_no _ _ (by omega)).mono ?_; rintro e w' ⟨rfl, rfl⟩)) | (go_at_call 38; first | (refine (pair_any s (k + 1) _ (by omega) _ hs (by omega)).mono ?_; rintro e w' ⟨rfl, n1, rfl⟩) | (refine (pair_any s (k + 4) _ (by omega) _ hs (by omega)).mono ?_; rintro e w' ⟨rfl, n2, rfl⟩)))
              go_ret2
              exact ⟨by rw [HF.out, HB.out]; try rfl, _, rfl⟩
            · have h48b : (((s[0]'hpos).toNat : Int) == 48) = false := by rw [beq_eq_false_iff_ne]; omega
              have HZ : Hid ((P4.bl s)[0]? ≠ some 48) := by rw [hg0]; exact fun h => h48 (by injection h with h; rw [h]; rfl)
              clear hg0 h48
              have HH : Hid (P4.headB (P4.bl s) k = true) := by simp only [P4.headB, decide_eq_true_eq]; exact ⟨by omega, by omega, fun q => HZ.out q.2⟩
              have hsz : ((s.size : Int) == (k : Int)) = false := by rw [beq_eq_false_iff_ne]; omega
              have hne : (P4.bl s).length ≠ k := by omega
              have HN := Lib.hid hne
              clear hne
              have hghc := P4.bl_get s (k) (by omega)
              by_cases hc : (s[k]'(by omega)).toNat = 58
              · have hcb : (((s[k]'(by omega)).toNat : Int) != 58) = false := by rw [hc]; rfl
                have HChc : Hid ((P4.bl s)[k]? = some 58) := by rw [hghc]; exact congrArg some (UInt8.toNat_inj.1 hc)
                clear hghc hc
                by_cases hp : P4.pr (P4.bl s) (k + 1) < 0
                · skip
                  have HF := Lib.hid (P4.fv_none (P4.am_np HL.out HN.out hp))
                  have HB := Lib.hid (P4.fb_none (P4.am_np HL.out HN.out hp))
                  clear hlen
                  go_wp2_with (first | (go_at_call 37; first | (refine (digit_yes _ _ (by omega) (by omega)).mono ?_; rintro e w' ⟨rfl, rfl⟩) | (refine (digit_no _ _ (by omega)).mono ?_; rintro e w' ⟨rfl, rfl⟩)) | (go_at_call 38; first | (refine (pair_any s (k + 1) _ (by omega) _ hs (by omega)).mono ?_; rintro e w' ⟨rfl, n1, rfl⟩) | (refine (pair_any s (k + 4) _ (by omega) _ hs (by omega)).mono ?_; rintro e w' ⟨rfl, n2, rfl⟩)))
                  go_ret2
                  exact ⟨by rw [HF.out, HB.out]; try rfl, _, rfl⟩
                · have hp0 : 0 ≤ P4.pr (P4.bl s) (k + 1) := by omega
                  have hk3s : k + 3 ≤ s.size := by
                    rcases Nat.lt_or_ge s.size (k + 3) with q | q
                    · exact absurd (P4.pr_short (P4.bl s) (k + 1) (by omega)) (by omega)
                    · exact q
                  by_cases h3 : s.size = k + 3
                  · have h3b : ((s.size : Int) == (k : Int) + 3) = true := by rw [beq_iff_eq]; omega
                    have h3l : (P4.bl s).length = k + 3 := by omega
                    have H3 := Lib.hid h3l
                    clear h3l h3
                    have HF := Lib.hid (P4.fv_some (P4.am_m HL.out HH.out H3.out HChc.out hp0))
                    have HB := Lib.hid (P4.fb_some (P4.am_m HL.out HH.out H3.out HChc.out hp0))
                    clear hlen
                    go_wp2_with (first | (go_at_call 37; first | (refine (digit_yes _ _ (by omega) (by omega)).mono ?_; rintro e w' ⟨rfl, rfl⟩) | (refine (digit_no _ _ (by omega)).mono ?_; rintro e w' ⟨rfl, rfl⟩)) | (go_at_call 38; first | (refine (pair_any s (k + 1) _ (by omega) _ hs (by omega)).mono ?_; rintro e w' ⟨rfl, n1, rfl⟩) | (refine (pair_any s (k + 4) _ (by omega) _ hs (by omega)).mono ?_; rintro e w' ⟨rfl, n2, rfl⟩)))
                    go_ret2
                    exact ⟨by rw [HF.out, HB.out]; try rfl, _, rfl⟩
                  · have h3b : ((s.size : Int) == (k : Int) + 3) = false := by rw [beq_eq_false_iff_ne]; omega
                    have H3 : Hid ((P4.bl s).length ≠ k + 3) := (by omega : (P4.bl s).length ≠ k + 3)
                    have hlt3 : k + 3 < s.size := by omega
                    clear h3
                    have hghc2 := P4.bl_get s (k + 3) (by omega)
                    by_cases hc2 : (s[k + 3]'(by omega)).toNat = 58
                    · have hc2b : (((s[k + 3]'(by omega)).toNat : Int) != 58) = false := by rw [hc2]; rfl
                      have HChc2 : Hid ((P4.bl s)[k + 3]? = some 58) := by rw [hghc2]; exact congrArg some (UInt8.toNat_inj.1 hc2)
                      clear hghc2 hc2
                      by_cases hp2 : P4.pr (P4.bl s) (k + 4) < 0
                      · skip
                        have HF := Lib.hid (P4.fv_none (P4.am_np2 HL.out HN.out H3.out hp2))
                        have HB := Lib.hid (P4.fb_none (P4.am_np2 HL.out HN.out H3.out hp2))
                        clear hlen
                        go_wp2_with (first | (go_at_call 37; first | (refine (digit_yes _ _ (by omega) (by omega)).mono ?_; rintro e w' ⟨rfl, rfl⟩) | (refine (digit_no _ _ (by omega)).mono ?_; rintro e w' ⟨rfl, rfl⟩)) | (go_at_call 38; first | (refine (pair_any s (k + 1) _ (by omega) _ hs (by omega)).mono ?_; rintro e w' ⟨rfl, n1, rfl⟩) | (refine (pair_any s (k + 4) _ (by omega) _ hs (by omega)).mono ?_; rintro e w' ⟨rfl, n2, rfl⟩)))
                        go_ret2
                        exact ⟨by rw [HF.out, HB.out]; try rfl, _, rfl⟩
                      · have hp20 : 0 ≤ P4.pr (P4.bl s) (k + 4) := by omega
                        by_cases h6 : s.size = k + 6
                        · have h6b : ((s.size : Int) != (k : Int) + 6) = false := by rw [bne_eq_false_iff_eq]; omega
                          have h6l : (P4.bl s).length = k + 6 := by omega
                          have H6 := Lib.hid h6l
                          clear h6l h6
                          have HF := Lib.hid (P4.fv_some (P4.am_s HL.out HH.out H6.out HChc.out hp0 HChc2.out hp20))
                          have HB := Lib.hid (P4.fb_some (P4.am_s HL.out HH.out H6.out HChc.out hp0 HChc2.out hp20))
                          clear hlen
                          go_wp2_with (first | (go_at_call 37; first | (refine (digit_yes _ _ (by omega) (by omega)).mono ?_; rintro e w' ⟨rfl, rfl⟩) | (refine (digit_no _ _ (by omega)).mono ?_; rintro e w' ⟨rfl, rfl⟩)) | (go_at_call 38; first | (refine (pair_any s (k + 1) _ (by omega) _ hs (by omega)).mono ?_; rintro e w' ⟨rfl, n1, rfl⟩) | (refine (pair_any s (k + 4) _ (by omega) _ hs (by omega)).mono ?_; rintro e w' ⟨rfl, n2, rfl⟩)))
                          go_ret2
                          exact ⟨by rw [HF.out, HB.out]; try rfl, _, rfl⟩
                        · have h6b : ((s.size : Int) != (k : Int) + 6) = true := by rw [bne_iff_ne]; omega
                          have H6 : Hid ((P4.bl s).length ≠ k + 6) := (by omega : (P4.bl s).length ≠ k + 6)
                          clear h6
                          have HF := Lib.hid (P4.fv_none (P4.am_nl HL.out HN.out H3.out H6.out))
                          have HB := Lib.hid (P4.fb_none (P4.am_nl HL.out HN.out H3.out H6.out))
                          clear hlen
                          go_wp2_with (first | (go_at_call 37; first | (refine (digit_yes _ _ (by omega) (by omega)).mono ?_; rintro e w' ⟨rfl, rfl⟩) | (refine (digit_no _ _ (by omega)).mono ?_; rintro e w' ⟨rfl, rfl⟩)) | (go_at_call 38; first | (refine (pair_any s (k + 1) _ (by omega) _ hs (by omega)).mono ?_; rintro e w' ⟨rfl, n1, rfl⟩) | (refine (pair_any s (k + 4) _ (by omega) _ hs (by omega)).mono ?_; rintro e w' ⟨rfl, n2, rfl⟩)))
                          go_ret2
                          exact ⟨by rw [HF.out, HB.out]; try rfl, _, rfl⟩
                    · have hc2b : (((s[k + 3]'(by omega)).toNat : Int) != 58) = true := by rw [bne_iff_ne]; omega
                      have HChc2 : Hid ((P4.bl s)[k + 3]? ≠ some 58) := by rw [hghc2]; exact fun h => hc2 (by injection h with h; rw [h]; rfl)
                      clear hghc2 hc2
                      have HF := Lib.hid (P4.fv_none (P4.am_nc2 HL.out HN.out H3.out HChc2.out))
                      have HB := Lib.hid (P4.fb_none (P4.am_nc2 HL.out HN.out H3.out HChc2.out))
                      clear hlen
                      go_wp2_with (first | (go_at_call 37; first | (refine (digit_yes _ _ (by omega) (by omega)).mono ?_; rintro e w' ⟨rfl, rfl⟩) | (refine (digit_no _ _ (by omega)).mono ?_; rintro e w' ⟨rfl, rfl⟩)) | (go_at_call 38; first | (refine (pair_any s (k + 1) _ (by omega) _ hs (by omega)).mono ?_; rintro e w' ⟨rfl, n1, rfl⟩) | (refine (pair_any s (k + 4) _ (by omega) _ hs (by omega)).mono ?_; rintro e w' ⟨rfl, n2, rfl⟩)))
                      go_ret2
                      exact ⟨by rw [HF.out, HB.out]; try rfl, _, rfl⟩
              · have hcb : (((s[k]'(by omega)).toNat : Int) != 58) = true := by rw [bne_iff_ne]; omega
                have HChc : Hid ((P4.bl s)[k]? ≠ some 58) := by rw [hghc]; exact fun h => hc (by injection h with h; rw [h]; rfl)
                clear hghc hc
                have HF := Lib.hid (P4.fv_none (P4.am_nc HL.out HN.out HChc.out))
                have HB := Lib.hid (P4.fb_none (P4.am_nc HL.out HN.out HChc.out))
                clear hlen
                go_wp2_with (first | (go_at_call 37; first | (refine (digit_yes _ _ (by omega) (by omega)).mono ?_; rintro e w' ⟨rfl, rfl⟩) | (refine (digit_no _ _ (by omega)).mono ?_; rintro e w' ⟨rfl, rfl⟩)) | (go_at_call 38; first | (refine (pair_any s (k + 1) _ (by omega) _ hs (by omega)).mono ?_; rintro e w' ⟨rfl, n1, rfl⟩) | (refine (pair_any s (k + 4) _ (by omega) _ hs (by omega)).mono ?_; rintro e w' ⟨rfl, n2, rfl⟩)))
                go_ret2
                exact ⟨by rw [HF.out, HB.out]; try rfl, _, rfl⟩
          · have h1i : (k : Int) ≤ 1 := by omega
            have HH : Hid (P4.headB (P4.bl s) k = true) := by simp only [P4.headB, decide_eq_true_eq]; exact ⟨by omega, by omega, fun q => absurd q.1 h1⟩
            have hsz : ((s.size : Int) == (k : Int)) = false := by rw [beq_eq_false_iff_ne]; omega
            have hne : (P4.bl s).length ≠ k := by omega
            have HN := Lib.hid hne
            clear hne
            have hghc := P4.bl_get s (k) (by omega)
            by_cases hc : (s[k]'(by omega)).toNat = 58
            · have hcb : (((s[k]'(by omega)).toNat : Int) != 58) = false := by rw [hc]; rfl
              have HChc : Hid ((P4.bl s)[k]? = some 58) := by rw [hghc]; exact congrArg some (UInt8.toNat_inj.1 hc)
              clear hghc hc
              by_cases hp : P4.pr (P4.bl s) (k + 1) < 0
              · skip
                have HF := Lib.hid (P4.fv_none (P4.am_np HL.out HN.out hp))
                have HB := Lib.hid (P4.fb_none (P4.am_np HL.out HN.out hp))
                clear hlen
                go_wp2_with (first | (go_at_call 37; first | (refine (digit_yes _ _ (by omega) (by omega)).mono ?_; rintro e w' ⟨rfl, rfl⟩) | (refine (digit_no _ _ (by omega)).mono ?_; rintro e w' ⟨rfl, rfl⟩)) | (go_at_call 38; first | (refine (pair_any s (k + 1) _ (by omega) _ hs (by omega)).mono ?_; rintro e w' ⟨rfl, n1, rfl⟩) | (refine (pair_any s (k + 4) _ (by omega) _ hs (by omega)).mono ?_; rintro e w' ⟨rfl, n2, rfl⟩)))
                go_ret2
                exact ⟨by rw [HF.out, HB.out]; try rfl, _, rfl⟩
              · have hp0 : 0 ≤ P4.pr (P4.bl s) (k + 1) := by omega
                have hk3s : k + 3 ≤ s.size := by
                  rcases Nat.lt_or_ge s.size (k + 3) with q | q
                  · exact absurd (P4.pr_short (P4.bl s) (k + 1) (by omega)) (by omega)
                  · exact q
                by_cases h3 : s.size = k + 3
                · have h3b : ((s.size : Int) == (k : Int) + 3) = true := by rw [beq_iff_eq]; omega
                  have h3l : (P4.bl s).length = k + 3 := by omega
                  have H3 := Lib.hid h3l
                  clear h3l h3
                  have HF := Lib.hid (P4.fv_some (P4.am_m HL.out HH.out H3.out HChc.out hp0))
                  have HB := Lib.hid (P4.fb_some (P4.am_m HL.out HH.out H3.out HChc.out hp0))
                  clear hlen
                  go_wp2_with (first | (go_at_call 37; first | (refine (digit_yes _ _ (by omega) (by omega)).mono ?_; rintro e w' ⟨rfl, rfl⟩) | (refine (digit_no _ _ (by omega)).mono ?_; rintro e w' ⟨rfl, rfl⟩)) | (go_at_call 38; first | (refine (pair_any s (k + 1) _ (by omega) _ hs (by omega)).mono ?_; rintro e w' ⟨rfl, n1, rfl⟩) | (refine (pair_any s (k + 4) _ (by omega) _ hs (by omega)).mono ?_; rintro e w' ⟨rfl, n2, rfl⟩)))
                  go_ret2
                  exact ⟨by rw [HF.out, HB.out]; try rfl, _, rfl⟩
                · have h3b : ((s.size : Int) == (k : Int) + 3) = false := by rw [beq_eq_false_iff_ne]; omega
                  have H3 : Hid ((P4.bl s).length ≠ k + 3) := (by omega : (P4.bl s).length ≠ k + 3)
                  have hlt3 : k + 3 < s.size := by omega
                  clear h3
                  have hghc2 := P4.bl_get s (k + 3) (by omega)
                  by_cases hc2 : (s[k + 3]'(by omega)).toNat = 58
                  · have hc2b : (((s[k + 3]'(by omega)).toNat : Int) != 58) = false := by rw [hc2]; rfl
                    have HChc2 : Hid ((P4.bl s)[k + 3]? = some 58) := by rw [hghc2]; exact congrArg some (UInt8.toNat_inj.1 hc2)
                    clear hghc2 hc2
                    by_cases hp2 : P4.pr (P4.bl s) (k + 4) < 0
                    · skip
                      have HF := Lib.hid (P4.fv_none (P4.am_np2 HL.out HN.out H3.out hp2))
                      have HB := Lib.hid (P4.fb_none (P4.am_np2 HL.out HN.out H3.out hp2))
                      clear hlen
                      go_wp2_with (first | (go_at_call 37; first | (refine (digit_yes _ _ (by omega) (by omega)).mono ?_; rintro e w' ⟨rfl, rfl⟩) | (refine (digit_no _ _ (by omega)).mono ?_; rintro e w' ⟨rfl, rfl⟩)) | (go_at_call 38; first | (refine (pair_any s (k + 1) _ (by omega) _ hs (by omega)).mono ?_; rintro e w' ⟨rfl, n1, rfl⟩) | (refine (pair_any s (k + 4) _ (by omega) _ hs (by omega)).mono ?_; rintro e w' ⟨rfl, n2, rfl⟩)))
                      go_ret2
                      exact ⟨by rw [HF.out, HB.out]; try rfl, _, rfl⟩
                    · have hp20 : 0 ≤ P4.pr (P4.bl s) (k + 4) := by omega
                      by_cases h6 : s.size = k + 6
                      · have h6b : ((s.size : Int) != (k : Int) + 6) = false := by rw [bne_eq_false_iff_eq]; omega
                        have h6l : (P4.bl s).length = k + 6 := by omega
                        have H6 := Lib.hid h6l
                        clear h6l h6
                        have HF := Lib.hid (P4.fv_some (P4.am_s HL.out HH.out H6.out HChc.out hp0 HChc2.out hp20))
                        have HB := Lib.hid (P4.fb_some (P4.am_s HL.out HH.out H6.out HChc.out hp0 HChc2.out hp20))
                        clear hlen
                        go_wp2_with (first | (go_at_call 37; first | (refine (digit_yes _ _ (by omega) (by omega)).mono ?_; rintro e w' ⟨rfl, rfl⟩) | (refine (digit_no _ _ (by omega)).mono ?_; rintro e w' ⟨rfl, rfl⟩)) | (go_at_call 38; first | (refine (pair_any s (k + 1) _ (by omega) _ hs (by omega)).mono ?_; rintro e w' ⟨rfl, n1, rfl⟩) | (refine (pair_any s (k + 4) _ (by omega) _ hs (by omega)).mono ?_; rintro e w' ⟨rfl, n2, rfl⟩)))
                        go_ret2
                        exact ⟨by rw [HF.out, HB.out]; try rfl, _, rfl⟩
                      · have h6b : ((s.size : Int) != (k : Int) + 6) = true := by rw [bne_iff_ne]; omega
                        have H6 : Hid ((P4.bl s).length ≠ k + 6) := (by omega : (P4.bl s).length ≠ k + 6)
                        clear h6
                        have HF := Lib.hid (P4.fv_none (P4.am_nl HL.out HN.out H3.out H6.out))
                        have HB := Lib.hid (P4.fb_none (P4.am_nl HL.out HN.out H3.out H6.out))
                        clear hlen
                        go_wp2_with (first | (go_at_call 37; first | (refine (digit_yes _ _ (by omega) (by omega)).mono ?_; rintro e w' ⟨rfl, rfl⟩) | (refine (digit_no _ _ (by omega)).mono ?_; rintro e w' ⟨rfl, rfl⟩)) | (go_at_call 38; first | (refine (pair_any s (k + 1) _ (by omega) _ hs (by omega)).mono ?_; rintro e w' ⟨rfl, n1, rfl⟩) | (refine (pair_any s (k + 4) _ (by omega) _ hs (by omega)).mono ?_; rintro e w' ⟨rfl, n2, rfl⟩)))
                        go_ret2
                        exact ⟨by rw [HF.out, HB.out]; try rfl, _, rfl⟩
                  · have hc2b : (((s[k + 3]'(by omega)).toNat : Int) != 58) = true := by rw [bne_iff_ne]; omega
                    have HChc2 : Hid ((P4.bl s)[k + 3]? ≠ some 58) := by rw [hghc2]; exact fun h => hc2 (by injection h with h; rw [h]; rfl)
                    clear hghc2 hc2
                    have HF := Lib.hid (P4.fv_none (P4.am_nc2 HL.out HN.out H3.out HChc2.out))
                    have HB := Lib.hid (P4.fb_none (P4.am_nc2 HL.out HN.out H3.out HChc2.out))
                    clear hlen
                    go_wp2_with (first | (go_at_call 37; first | (refine (digit_yes _ _ (by omega) (by omega)).mono ?_; rintro e w' ⟨rfl, rfl⟩) | (refine (digit_no _ _ (by omega)).mono ?_; rintro e w' ⟨rfl, rfl⟩)) | (go_at_call 38; first | (refine (pair_any s (k + 1) _ (by omega) _ hs (by omega)).mono ?_; rintro e w' ⟨rfl, n1, rfl⟩) | (refine (pair_any s (k + 4) _ (by omega) _ hs (by omega)).mono ?_; rintro e w' ⟨rfl, n2, rfl⟩)))
                    go_ret2
                    exact ⟨by rw [HF.out, HB.out]; try rfl, _, rfl⟩
            · have hcb : (((s[k]'(by omega)).toNat : Int) != 58) = true := by rw [bne_iff_ne]; omega
              have HChc : Hid ((P4.bl s)[k]? ≠ some 58) := by rw [hghc]; exact fun h => hc (by injection h with h; rw [h]; rfl)
              clear hghc hc
              have HF := Lib.hid (P4.fv_none (P4.am_nc HL.out HN.out HChc.out))
              have HB := Lib.hid (P4.fb_none (P4.am_nc HL.out HN.out HChc.out))
              clear hlen
              go_wp2_with (first | (go_at_call 37; first | (refine (digit_yes _ _ (by omega) (by omega)).mono ?_; rintro e w' ⟨rfl, rfl⟩) | (refine (digit_no _ _ (by omega)).mono ?_; rintro e w' ⟨rfl, rfl⟩)) | (go_at_call 38; first | (refine (pair_any s (k + 1) _ (by omega) _ hs (by omega)).mono ?_; rintro e w' ⟨rfl, n1, rfl⟩) | (refine (pair_any s (k + 4) _ (by omega) _ hs (by omega)).mono ?_; rintro e w' ⟨rfl, n2, rfl⟩)))
              go_ret2
              exact ⟨by rw [HF.out, HB.out]; try rfl, _, rfl⟩
    · obtain rfl : k = s.size := by omega
      have hlead : ((P4.bl s).takeWhile P4.isD).length = s.size := P4.lead_eq _ s.size (by omega) hdig (fun c hc => by rw [List.getElem?_eq_none (by omega)] at hc; cases hc)
      have HL := Lib.hid hlead
      have hv0 := hvb.1
      have hv1 := hvb.2.1
      clear hlead hdig hvb
      by_cases h0 : s.size = 0
      · have hz : ((s.size : Int) == 0) = true := by rw [beq_iff_eq]; omega
        have HZ0 := Lib.hid h0
        clear h0
        have HF := Lib.hid (P4.fv_none (P4.am_no HL.out (by simp only [P4.headB, decide_eq_false_iff_not]; exact fun q => q.1 HZ0.out)))
        have HB := Lib.hid (P4.fb_none (P4.am_no HL.out (by simp only [P4.headB, decide_eq_false_iff_not]; exact fun q => q.1 HZ0.out)))
        clear hlen
        go_wp2_with (first | (go_at_call 37; first | (refine (digit_yes _ _ (by omega) (by omega)).mono ?_; rintro e w' ⟨rfl, rfl⟩) | (refine (digit_no _ _ (by omega)).mono ?_; rintro e w' ⟨rfl, rfl⟩)) | (go_at_call 38; first | (refine (pair_any s (s.size + 1) _ (by omega) _ hs (by omega)).mono ?_; rintro e w' ⟨rfl, n1, rfl⟩) | (refine (pair_any s (s.size + 4) _ (by omega) _ hs (by omega)).mono ?_; rintro e w' ⟨rfl, n2, rfl⟩)))
        go_ret2
        exact ⟨by rw [HF.out, HB.out]; try rfl, _, rfl⟩
      · have hz : ((s.size : Int) == 0) = false := by rw [beq_eq_false_iff_ne]; omega
        by_cases h1 : 1 < s.size
        · have h1i : (1 : Int) < (s.size : Int) := by omega
          have hpos : 0 < s.size := by omega
          have hg0 := P4.bl_get s 0 hpos
          by_cases h48 : (s[0]'hpos).toNat = 48
          · have h48b : (((s[0]'hpos).toNat : Int) == 48) = true := by rw [h48]; rfl
            have HZ : Hid ((P4.bl s)[0]? = some 48) := by rw [hg0]; exact congrArg some (UInt8.toNat_inj.1 h48)
            clear hg0 h48
            have HF := Lib.hid (P4.fv_none (P4.am_no HL.out (by simp only [P4.headB, decide_eq_false_iff_not]; exact fun q => q.2.2 ⟨h1, HZ.out⟩)))
            have HB := Lib.hid (P4.fb_none (P4.am_no HL.out (by simp only [P4.headB, decide_eq_false_iff_not]; exact fun q => q.2.2 ⟨h1, HZ.out⟩)))
            clear hlen
            go_wp2_with (first | (go_at_call 37; first | (refine (digit_yes _ _ (by omega) (by omega)).mono ?_; rintro e w' ⟨rfl, rfl⟩) | (refine (digit_no _ _ (by omega)).mono ?_; rintro e w' ⟨rfl, rfl⟩)) | (go_at_call 38; first | (refine (pair_any s (s.size + 1) _ (by omega) _ hs (by omega)).mono ?_; rintro e w' ⟨rfl, n1, rfl⟩) | (refine (pair_any s (s.size + 4) _ (by omega) _ hs (by omega)).mono ?_; rintro e w' ⟨rfl, n2, rfl⟩)))
            go_ret2
            exact ⟨by rw [HF.out, HB.out]; try rfl, _, rfl⟩
          · have h48b : (((s[0]'hpos).toNat : Int) == 48) = false := by rw [beq_eq_false_iff_ne]; omega
            have HZ : Hid ((P4.bl s)[0]? ≠ some 48) := by rw [hg0]; exact fun h => h48 (by injection h with h; rw [h]; rfl)
            clear hg0 h48
            have hsz : ((s.size : Int) == (s.size : Int)) = true := by rw [beq_iff_eq]
            have HH : Hid (P4.headB (P4.bl s) s.size = true) := by simp only [P4.headB, decide_eq_true_eq]; exact ⟨by omega, by omega, fun q => HZ.out q.2⟩
            have HF := Lib.hid (P4.fv_some (P4.am_h HL.out HH.out hlen))
            have HB := Lib.hid (P4.fb_some (P4.am_h HL.out HH.out hlen))
            clear hlen
            go_wp2_with (first | (go_at_call 37; first | (refine (digit_yes _ _ (by omega) (by omega)).mono ?_; rintro e w' ⟨rfl, rfl⟩) | (refine (digit_no _ _ (by omega)).mono ?_; rintro e w' ⟨rfl, rfl⟩)) | (go_at_call 38; first | (refine (pair_any s (s.size + 1) _ (by omega) _ hs (by omega)).mono ?_; rintro e w' ⟨rfl, n1, rfl⟩) | (refine (pair_any s (s.size + 4) _ (by omega) _ hs (by omega)).mono ?_; rintro e w' ⟨rfl, n2, rfl⟩)))
            go_ret2
            exact ⟨by rw [HF.out, HB.out]; try rfl, _, rfl⟩
        · have h1i : (s.size : Int) ≤ 1 := by omega
          have hsz : ((s.size : Int) == (s.size : Int)) = true := by rw [beq_iff_eq]
          have HH : Hid (P4.headB (P4.bl s) s.size = true) := by simp only [P4.headB, decide_eq_true_eq]; exact ⟨by omega, by omega, fun q => absurd q.1 h1⟩
          have HF := Lib.hid (P4.fv_some (P4.am_h HL.out HH.out hlen))
          have HB := Lib.hid (P4.fb_some (P4.am_h HL.out HH.out hlen))
          clear hlen
          go_wp2_with (first | (go_at_call 37; first | (refine (digit_yes _ _ (by omega) (by omega)).mono ?_; rintro e w' ⟨rfl, rfl⟩) | (refine (digit_no _ _ (by omega)).mono ?_; rintro e w' ⟨rfl, rfl⟩)) | (go_at_call 38; first | (refine (pair_any s (s.size + 1) _ (by omega) _ hs (by omega)).mono ?_; rintro e w' ⟨rfl, n1, rfl⟩) | (refine (pair_any s (s.size + 4) _ (by omega) _ hs (by omega)).mono ?_; rintro e w' ⟨rfl, n2, rfl⟩)))
          go_ret2
          exact ⟨by rw [HF.out, HB.out]; try rfl, _, rfl⟩
end Go.Proofs.YtoabengifbokdaaDoor
