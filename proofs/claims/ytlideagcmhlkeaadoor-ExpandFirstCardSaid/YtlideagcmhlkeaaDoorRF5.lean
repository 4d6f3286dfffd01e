/- Texts of one proof, one behind the other: Nam21c; Fmt21d; Exp30; Expand30; Work30; Has30; Plain21k; Plain17; Fmt21e. -/
import Derived.Test.YtlideagcmhlkeaaDoorRF4
import Derived.BigQuiet

/- The walk of name.Abbr: the closure over the table. -/
namespace Go.Proofs.YtlideagcmhlkeaaDoor
open Go.RowKit Go.Lib
set_option linter.unusedVariables false

/-- what the closure has captured -/
structure OfBox (w : World) (b0 b1 bk b2 : Nat) : Prop where
  least : w.cell? ⟨b0, 0, none⟩ = some (.int .i64 3)
  most : w.cell? ⟨b1, 0, none⟩ = some (.int .i64 6)
  kinds : Blk w bk 174 kAll
  some_ : w.cell? ⟨b2, 0, none⟩ = some (.int .u8 1)
theorem kAll_and (c : UInt8) {w : World} {b : Nat} (h : Blk w b 174 kAll) : ∃ n : Int, w.cell? ⟨b, c.toNat, none⟩ = some (.int .u8 n) ∧ ((P21.isL c = true ∧ n = 1) ∨ (P21.isL c = false ∧ (n = 0 ∨ n = 2 ∨ n = 4 ∨ n = 8 ∨ n = 16))) :=
  ⟨kTab c.toNat, (h.cell _).trans (kAll_at _ (UInt8.toNat_lt c)), kTab_cases c.toNat⟩
set_option maxRecDepth 100000 in
set_option maxHeartbeats 8000000 in
theorem of1_any (s : ByteArray) (b0 b1 bk b2 : Nat) (w : World) (hs : s.size ≤ 1000000) (hO : OfBox w b0 b1 bk b2) :
    Calls Tryd.prog 108 #[.string s, .pointer (some ⟨b0, 0, none⟩), .pointer (some ⟨b1, 0, none⟩), .pointer (some ⟨bk, 0, none⟩), .pointer (some ⟨b2, 0, none⟩)] w fun e w' => e = .returned (.bool (P21.abbr (P4.bl s))) ∧ Q w w' := by
  obtain ⟨R, hR⟩ : ∃ R, P21.abbr (P4.bl s) = R := ⟨_, rfl⟩
  rw [hR]
  have HR := Lib.hid hR
  clear hR
  obtain ⟨c0, c1, hK, c2⟩ := hO
  have hsi : (s.size : Int) ≤ 1000000 := by omega
  have hln := P4.bl_len s
  by_cases h3 : s.size < 3
  · have h3i : (s.size : Int) < 3 := by omega
    have HN : Hid (R = false) := by
      have r := HR.out
      unfold P21.abbr at r
      rw [decide_eq_false (by omega)] at r
      exact Lib.hid r.symm
    go_enter Tryd.func108, Tryd.ntmps108
    go_wp2_with fail
    go_ret
    exact ⟨by rw [HN.out]; rfl, Q.refl _⟩
  · by_cases h6 : 6 < s.size
    · have h3i : ¬ (s.size : Int) < 3 := by omega
      have h6i : (6 : Int) < (s.size : Int) := by omega
      have HN : Hid (R = false) := by
        have r := HR.out
        unfold P21.abbr at r
        rw [decide_eq_false (p := (P4.bl s).length ≤ 6) (by omega), Bool.and_false] at r
        exact Lib.hid r.symm
      go_enter Tryd.func108, Tryd.ntmps108
      go_wp2_with fail
      go_ret
      exact ⟨by rw [HN.out]; rfl, Q.refl _⟩
    · have h3i : ¬ (s.size : Int) < 3 := by omega
      have h6i : ¬ (6 : Int) < (s.size : Int) := by omega
      have HN : Hid (R = (P4.bl s).all P21.isL) := by
        have r := HR.out
        unfold P21.abbr at r
        rw [decide_eq_true (p := (P4.bl s).length ≤ 6) (by omega), decide_eq_true (p := 3 ≤ (P4.bl s).length) (by omega)] at r
        exact Lib.hid r.symm
      clear HR
      go_enter Tryd.func108, Tryd.ntmps108
      go_wp2_with fail
      go_loopw [20] (fun i wr => ∃ k : Nat, k ≤ s.size ∧ i = .int .i64 (k : Int) ∧ Hid (((P4.bl s).take k).all P21.isL = true) ∧ ∃ n, wr = w.drewN n) (fun i _ => s.size - (intOf i).toNat)
      case atStart => exact ⟨0, Nat.zero_le _, rfl, Lib.hid rfl, 0, rfl⟩
      case round =>
        obtain ⟨k, hk, rfl, HA, n, rfl⟩ := hrel
        by_cases hlt : k < s.size
        · have hki : (k : Int) < (s.size : Int) := by omega
          have hb := P4.bl_get s k hlt
          obtain ⟨c, hc⟩ : ∃ c, s[k]'hlt = c := ⟨_, rfl⟩
          rw [hc] at hb
          have HB := Lib.hid hb
          clear hb
          obtain ⟨v, cv, hvv⟩ := kAll_and c hK
          have hcb := UInt8.toNat_lt c
          have hcb2 : (c.toNat : Int) < 256 := by omega
          clear hcb
          rcases hvv with ⟨hL, rfl⟩ | ⟨hL, hvv⟩
          · have HS := Lib.hid (all_take_succ HB.out HA.out hL)
            clear hL hK
            go_wp2_with fail
            go_quiet (fail)
            go_wp2_with fail
            go_roundw
            case rel => exact ⟨k + 1, by omega, by go_num, HS, _, rfl⟩
            case measure => simp [intOf]; omega
          · have HF : Hid (R = false) := by
              have q := all_no HB.out hL
              have r := HN.out
              rw [q] at r
              exact Lib.hid r
            clear hL hK
            rcases hvv with rfl | rfl | rfl | rfl | rfl
            all_goals
              go_wp2_with fail
              go_quiet (fail)
              go_wp2_with fail
              go_ret
              exact ⟨by rw [HF.out]; rfl, by first | exact ⟨_, rfl⟩ | exact ⟨n + nq, by rw [World.drewN_drewN]⟩⟩
        · obtain rfl : k = s.size := by omega
          have HF : Hid (R = true) := by
            have q := HA.out
            rw [List.take_of_length_le (by rw [P4.bl_len]; exact Nat.le_refl _)] at q
            have r := HN.out
            rw [q] at r
            exact Lib.hid r
          clear hK
          go_wp2_with fail
          go_ret
          exact ⟨by rw [HF.out]; rfl, ⟨n, rfl⟩⟩
/-- the box that 'of' hands back -/
def ofFn (b0 b1 bk b2 : Nat) : Value := .func (.func 108) #[] #[.pointer (some ⟨b0, 0, none⟩), .pointer (some ⟨b1, 0, none⟩), .pointer (some ⟨bk, 0, none⟩), .pointer (some ⟨b2, 0, none⟩)]
set_option maxRecDepth 1000000 in
set_option maxHeartbeats 4000000 in
theorem of_any (w : World) :
    Calls Tryd.prog 90 #[.int .i64 3, .int .i64 6, .int .u8 1] w fun e w' => ∃ b0 b1 bk b2, e = .returned (ofFn b0 b1 bk b2) ∧ OfBox w' b0 b1 bk b2 ∧ Below w.heap.size w w' := by
  have hmf : ∀ (fn : Fn) (first cap : Array Value) (w : World), (Instr.makeFunc fn first cap).run Tryd.prog w = .ok (.func fn first cap) w := fun _ _ _ _ => rfl
  obtain ⟨hz, hi⟩ := zero_of_info zeroK
  have hb0 := Blk.new w 3 #[.int .i64 3]
  have hw0 := (Below.refl w.heap.size w).alloc (Nat.le_refl _) (.cells #[.int .i64 3] 3)
  have hb1 := Blk.newAt (w.alloc (.cells #[.int .i64 3] 3)) (w.heap.size + 1) (by simp) 3 #[.int .i64 6]
  have hw1 := hw0.alloc (by simp) (.cells #[.int .i64 6] 3)
  have hb2 := Blk.newAt ((w.alloc (.cells #[.int .i64 3] 3)).alloc (.cells #[.int .i64 6] 3)) (w.heap.size + 1 + 1) (by simp) 5 #[.int .u8 1]
  have hw2 := hw1.alloc (by simp; omega) (.cells #[.int .u8 1] 5)
  have hb0' := (hb0.alloc (.cells #[.int .i64 6] 3)).alloc (.cells #[.int .u8 1] 5)
  have hb1' := hb1.alloc (.cells #[.int .u8 1] 5)
  clear hb0 hb1 hw0 hw1
  go_enter Tryd.func90, Tryd.ntmps90
  go_wp2_with fail
  generalize ((w.alloc (.cells #[.int .i64 3] 3)).alloc (.cells #[.int .i64 6] 3)).alloc (.cells #[.int .u8 1] 5) = W2 at hb2 hw2 hb0' hb1' ⊢
  refine (kinds_any _).mono ?_
  rintro e w1 ⟨rfl, hc⟩
  have H0 := (hb0'.below hc hb0'.lt).alloc (.cells (kA 0) 174)
  have H1 := (hb1'.below hc hb1'.lt).alloc (.cells (kA 0) 174)
  have H2 := (hb2.below hc hb2.lt).alloc (.cells (kA 0) 174)
  have HW := (hw2.trans (hc.mono hw2.size)).alloc (Nat.le_trans hw2.size hc.size) (.cells (kA 0) 174)
  have HK := Blk.new w1 174 (kA 0)
  have hlt : w.heap.size ≤ w1.heap.size := Nat.le_trans hw2.size hc.size
  have hlt2 : w.heap.size + 1 + 1 < w1.heap.size := Nat.lt_of_lt_of_le hb2.lt hc.size
  clear hb2 hw2 hb0' hb1' hc
  have hks := kAll_size
  obtain ⟨W3, hW3⟩ : ∃ W3, w1.alloc (.cells (kA 0) 174) = W3 := ⟨_, rfl⟩
  rw [hW3] at H0 H1 H2 HW HK
  have hsc : (storeCells ⟨w1.heap.size, 0, none⟩ kAll.toList 0).run Tryd.prog W3 = .ok () (W3.setRow w1.heap.size kAll) := store_blk HK (by rw [kA_size, kAll_size]) kAll_one
  go_wp2_with fail
  go_ret
  refine ⟨w.heap.size, w.heap.size + 1, w1.heap.size, w.heap.size + 1 + 1, rfl, ⟨?_, ?_, blk_setRow HK, ?_⟩, below_setRow HW hlt _⟩
  · rw [cell_setRow_other _ _ _ _ (by simp; omega)]; exact (H0.cell 0).trans rfl
  · rw [cell_setRow_other _ _ _ _ (by simp; omega)]; exact (H1.cell 0).trans rfl
  · rw [cell_setRow_other _ _ _ _ (by simp; omega)]; exact (H2.cell 0).trans rfl
set_option maxRecDepth 1000000 in
set_option maxHeartbeats 4000000 in
theorem abbr_any (s : ByteArray) (w : World) (hs : s.size ≤ 1000000) :
    Calls Tryd.prog 52 #[.string s] w fun e w' => e = .returned (.bool (P21.abbr (P4.bl s))) ∧ Below w.heap.size w w' := by
  have c2 := fun b0 b1 bk b2 W h => of1_any s b0 b1 bk b2 W hs h
  generalize P21.abbr (P4.bl s) = R at c2 ⊢
  have C2 := Lib.hid c2
  clear c2
  go_enter Tryd.func52, Tryd.ntmps52
  go_wp2_with fail
  refine (of_any _).mono ?_
  rintro e w1 ⟨b0, b1, bk, b2, rfl, hO, hb⟩
  unfold ofFn
  go_wp2_with fail
  refine (C2.out _ _ _ _ _ hO).mono ?_
  rintro e w2 ⟨rfl, n, rfl⟩
  go_wp2_with fail
  go_ret
  exact ⟨rfl, below_drewN hb n⟩
end Go.Proofs.YtlideagcmhlkeaaDoor

/- The walks of the kinds, the parts and the abbreviations of FORMATs (chapter 21). -/
namespace Go.Proofs.YtlideagcmhlkeaaDoor
open Go.RowKit Go.Lib
set_option linter.unusedVariables false

theorem str_toList (l : List UInt8) : (str l).toList = l := by rw [ByteArray.toList_eq]; rfl
theorem ne_size {s : ByteArray} {l : List UInt8} (h : P4.bl s ≠ l) : ¬ s = str l := fun q => h (by rw [q]; exact str_data l)
theorem lss_cut (s : ByteArray) : (str (P21.slash (P4.bl s)).1).size + (str (P21.slash (P4.bl s)).2.1).size ≤ s.size := by
  have := cut_len (P4.bl s) [47]
  rw [P4.bl_len] at this
  rw [str_size, str_size]; exact this
/-- one name for the tests of a kind -/
theorem kind_tests (l : List UInt8) : P21.kind l = if P21.abbr l = true then 1 else if ((P21.slash l).2.2 && P21.abbr (P21.slash l).1 && P21.abbr (P21.slash l).2.1) = true then 2 else if P21.letter l = true then 3 else if l = [37, 122] then 4 else if (P21.num l || ((P21.slash l).2.2 && P21.num (P21.slash l).1 && P21.num (P21.slash l).2.1)) = true then 5 else 0 := rfl
set_option maxRecDepth 100000 in
set_option maxHeartbeats 8000000 in
theorem kind_any (s : ByteArray) (w : World) (hs : s.size ≤ 1000000) (hv : Vars21 w) :
    Calls Tryd.prog 36 #[.string s] w fun e w' => e = .returned (.int .i64 (P21.kind (P4.bl s))) ∧ Below w.heap.size w w' := by
  have cC : Hid (∀ W, Vars21 W → Calls Tryd.prog 66 #[.string s, .string (str [47])] W fun e w' => e = .returned (.tuple #[.string (str (P21.slash (P4.bl s)).1), .string (str (P21.slash (P4.bl s)).2.1), .bool (P21.slash (P4.bl s)).2.2]) ∧ Q W w') := fun W h => cut21 s [47] W hs h
  have cL : Hid (∀ W, Vars21 W → Calls Tryd.prog 50 #[.string s] W fun e w' => e = .returned (.tuple #[.string (str (P21.pct (P4.bl s)).1), .string (str (P21.pct (P4.bl s)).2.1), .bool (P21.letter (P4.bl s))]) ∧ Below W.heap.size W w') := fun W h => around_any s W hs h
  have cA : Hid (∀ W, Calls Tryd.prog 52 #[.string s] W fun e w' => e = .returned (.bool (P21.abbr (P4.bl s))) ∧ Below W.heap.size W w') := fun W => abbr_any s W hs
  have cI : Hid (∀ W, Vars21 W → Calls Tryd.prog 67 #[.string s] W fun e w' => e = .returned (.bool (P21.num (P4.bl s))) ∧ Below W.heap.size W w') := fun W h => is_any s W hs h.num
  have hsl := lss_cut s
  have cA1 : Hid (∀ W, Calls Tryd.prog 52 #[.string (str (P21.slash (P4.bl s)).1)] W fun e w' => e = .returned (.bool (P21.abbr (P21.slash (P4.bl s)).1)) ∧ Below W.heap.size W w') := fun W => abbr_any (str (P21.slash (P4.bl s)).1) W (by omega)
  have cA2 : Hid (∀ W, Calls Tryd.prog 52 #[.string (str (P21.slash (P4.bl s)).2.1)] W fun e w' => e = .returned (.bool (P21.abbr (P21.slash (P4.bl s)).2.1)) ∧ Below W.heap.size W w') := fun W => abbr_any (str (P21.slash (P4.bl s)).2.1) W (by omega)
  have cI1 : Hid (∀ W, Vars21 W → Calls Tryd.prog 67 #[.string (str (P21.slash (P4.bl s)).1)] W fun e w' => e = .returned (.bool (P21.num (P21.slash (P4.bl s)).1)) ∧ Below W.heap.size W w') := fun W h => is_any (str (P21.slash (P4.bl s)).1) W (by omega) h.num
  have cI2 : Hid (∀ W, Vars21 W → Calls Tryd.prog 67 #[.string (str (P21.slash (P4.bl s)).2.1)] W fun e w' => e = .returned (.bool (P21.num (P21.slash (P4.bl s)).2.1)) ∧ Below W.heap.size W w') := fun W h => is_any (str (P21.slash (P4.bl s)).2.1) W (by omega) h.num
  obtain ⟨R, hR⟩ : ∃ R, P21.kind (P4.bl s) = R := ⟨_, rfl⟩
  rw [hR]
  rw [kind_tests] at hR
  have hz : (P4.bl s = [37, 122] ∧ (s.toList == [37, 122]) = true) ∨ (¬ P4.bl s = [37, 122] ∧ (s.toList == [37, 122]) = false) := by
    by_cases q : P4.bl s = [37, 122]
    · refine .inl ⟨q, ?_⟩
      have : s = str [37, 122] := by rw [← q]; exact (str_bl s).symm
      rw [this, str_toList]; rfl
    · exact .inr ⟨q, by have x := eq_b s (str [37, 122]) (ne_size q); rwa [str_toList] at x⟩
  generalize P21.abbr (P4.bl s) = A at hR cA
  generalize P21.letter (P4.bl s) = L at hR cL
  generalize P21.num (P4.bl s) = I at hR cI
  generalize P21.abbr (P21.slash (P4.bl s)).1 = A1 at hR cA1
  generalize P21.abbr (P21.slash (P4.bl s)).2.1 = A2 at hR cA2
  generalize P21.num (P21.slash (P4.bl s)).1 = I1 at hR cI1
  generalize P21.num (P21.slash (P4.bl s)).2.1 = I2 at hR cI2
  generalize (P21.slash (P4.bl s)).2.2 = T at hR cC
  generalize str (P21.slash (P4.bl s)).1 = SA at cC cA1 cI1
  generalize str (P21.slash (P4.bl s)).2.1 = SB at cC cA2 cI2
  generalize str (P21.pct (P4.bl s)).1 = PA at cL
  generalize str (P21.pct (P4.bl s)).2.1 = PB at cL
  have HR := Lib.hid hR
  clear hR hsl hs
  cases A with
  | true =>
    go_enter Tryd.func36, Tryd.ntmps36
    go_wp2_with fail
    refine (cC.out _ hv).mono ?_
    rintro e w1 ⟨rfl, hc10⟩
    have hc1 := hc10.below w.heap.size
    have hb1 := hc1
    have hv2 := hv.below hb1
    go_wp2_with fail
    refine (cL.out _ hv2).mono ?_
    rintro e w2 ⟨rfl, hc2⟩
    have hb2 := hb1.trans (hc2.mono hb1.size)
    go_wp2_with fail
    refine (cA.out _).mono ?_
    rintro e w3 ⟨rfl, hc3⟩
    have hb3 := hb2.trans (hc3.mono hb2.size)
    go_wp2_with fail
    go_ret
    exact ⟨by rw [show R = 1 from HR.out.symm.trans (by simp)]; rfl, hb3⟩
  | false =>
    cases T with
    | true =>
      cases A1 with
      | true =>
        cases A2 with
        | true =>
          go_enter Tryd.func36, Tryd.ntmps36
          go_wp2_with fail
          refine (cC.out _ hv).mono ?_
          rintro e w1 ⟨rfl, hc10⟩
          have hc1 := hc10.below w.heap.size
          have hb1 := hc1
          have hv2 := hv.below hb1
          go_wp2_with fail
          refine (cL.out _ hv2).mono ?_
          rintro e w2 ⟨rfl, hc2⟩
          have hb2 := hb1.trans (hc2.mono hb1.size)
          go_wp2_with fail
          refine (cA.out _).mono ?_
          rintro e w3 ⟨rfl, hc3⟩
          have hb3 := hb2.trans (hc3.mono hb2.size)
          go_wp2_with fail
          refine (cA1.out _).mono ?_
          rintro e w4 ⟨rfl, hc4⟩
          have hb4 := hb3.trans (hc4.mono hb3.size)
          go_wp2_with fail
          refine (cA2.out _).mono ?_
          rintro e w5 ⟨rfl, hc5⟩
          have hb5 := hb4.trans (hc5.mono hb4.size)
          go_wp2_with fail
          go_ret
          exact ⟨by rw [show R = 2 from HR.out.symm.trans (by simp)]; rfl, hb5⟩
        | false =>
          cases L with
          | true =>
            go_enter Tryd.func36, Tryd.ntmps36
            go_wp2_with fail
            refine (cC.out _ hv).mono ?_
            rintro e w1 ⟨rfl, hc10⟩
            have hc1 := hc10.below w.heap.size
            have hb1 := hc1
            have hv2 := hv.below hb1
            go_wp2_with fail
            refine (cL.out _ hv2).mono ?_
            rintro e w2 ⟨rfl, hc2⟩
            have hb2 := hb1.trans (hc2.mono hb1.size)
            go_wp2_with fail
            refine (cA.out _).mono ?_
            rintro e w3 ⟨rfl, hc3⟩
            have hb3 := hb2.trans (hc3.mono hb2.size)
            go_wp2_with fail
            refine (cA1.out _).mono ?_
            rintro e w4 ⟨rfl, hc4⟩
            have hb4 := hb3.trans (hc4.mono hb3.size)
            go_wp2_with fail
            refine (cA2.out _).mono ?_
            rintro e w5 ⟨rfl, hc5⟩
            have hb5 := hb4.trans (hc5.mono hb4.size)
            go_wp2_with fail
            go_ret
            exact ⟨by rw [show R = 3 from HR.out.symm.trans (by simp)]; rfl, hb5⟩
          | false =>
            rcases hz with ⟨hz1, hz2⟩ | ⟨hz1, hz2⟩
            · skip
              go_enter Tryd.func36, Tryd.ntmps36
              go_wp2_with fail
              refine (cC.out _ hv).mono ?_
              rintro e w1 ⟨rfl, hc10⟩
              have hc1 := hc10.below w.heap.size
              have hb1 := hc1
              have hv2 := hv.below hb1
              go_wp2_with fail
              refine (cL.out _ hv2).mono ?_
              rintro e w2 ⟨rfl, hc2⟩
              have hb2 := hb1.trans (hc2.mono hb1.size)
              go_wp2_with fail
              refine (cA.out _).mono ?_
              rintro e w3 ⟨rfl, hc3⟩
              have hb3 := hb2.trans (hc3.mono hb2.size)
              go_wp2_with fail
              refine (cA1.out _).mono ?_
              rintro e w4 ⟨rfl, hc4⟩
              have hb4 := hb3.trans (hc4.mono hb3.size)
              go_wp2_with fail
              refine (cA2.out _).mono ?_
              rintro e w5 ⟨rfl, hc5⟩
              have hb5 := hb4.trans (hc5.mono hb4.size)
              go_wp2_with fail
              go_ret
              exact ⟨by rw [show R = 4 from HR.out.symm.trans (by simp [hz1])]; rfl, hb5⟩
            · skip
              cases I with
              | true =>
                go_enter Tryd.func36, Tryd.ntmps36
                go_wp2_with fail
                refine (cC.out _ hv).mono ?_
                rintro e w1 ⟨rfl, hc10⟩
                have hc1 := hc10.below w.heap.size
                have hb1 := hc1
                have hv2 := hv.below hb1
                go_wp2_with fail
                refine (cL.out _ hv2).mono ?_
                rintro e w2 ⟨rfl, hc2⟩
                have hb2 := hb1.trans (hc2.mono hb1.size)
                go_wp2_with fail
                refine (cA.out _).mono ?_
                rintro e w3 ⟨rfl, hc3⟩
                have hb3 := hb2.trans (hc3.mono hb2.size)
                go_wp2_with fail
                refine (cA1.out _).mono ?_
                rintro e w4 ⟨rfl, hc4⟩
                have hb4 := hb3.trans (hc4.mono hb3.size)
                go_wp2_with fail
                refine (cA2.out _).mono ?_
                rintro e w5 ⟨rfl, hc5⟩
                have hb5 := hb4.trans (hc5.mono hb4.size)
                have hv6 := hv.below hb5
                go_wp2_with fail
                refine (cI.out _ hv6).mono ?_
                rintro e w6 ⟨rfl, hc6⟩
                have hb6 := hb5.trans (hc6.mono hb5.size)
                go_wp2_with fail
                go_ret
                exact ⟨by rw [show R = 5 from HR.out.symm.trans (by simp [hz1])]; rfl, hb6⟩
              | false =>
                cases I1 with
                | true =>
                  cases I2 with
                  | true =>
                    go_enter Tryd.func36, Tryd.ntmps36
                    go_wp2_with fail
                    refine (cC.out _ hv).mono ?_
                    rintro e w1 ⟨rfl, hc10⟩
                    have hc1 := hc10.below w.heap.size
                    have hb1 := hc1
                    have hv2 := hv.below hb1
                    go_wp2_with fail
                    refine (cL.out _ hv2).mono ?_
                    rintro e w2 ⟨rfl, hc2⟩
                    have hb2 := hb1.trans (hc2.mono hb1.size)
                    go_wp2_with fail
                    refine (cA.out _).mono ?_
                    rintro e w3 ⟨rfl, hc3⟩
                    have hb3 := hb2.trans (hc3.mono hb2.size)
                    go_wp2_with fail
                    refine (cA1.out _).mono ?_
                    rintro e w4 ⟨rfl, hc4⟩
                    have hb4 := hb3.trans (hc4.mono hb3.size)
                    go_wp2_with fail
                    refine (cA2.out _).mono ?_
                    rintro e w5 ⟨rfl, hc5⟩
                    have hb5 := hb4.trans (hc5.mono hb4.size)
                    have hv6 := hv.below hb5
                    go_wp2_with fail
                    refine (cI.out _ hv6).mono ?_
                    rintro e w6 ⟨rfl, hc6⟩
                    have hb6 := hb5.trans (hc6.mono hb5.size)
                    have hv7 := hv.below hb6
                    go_wp2_with fail
                    refine (cI1.out _ hv7).mono ?_
                    rintro e w7 ⟨rfl, hc7⟩
                    have hb7 := hb6.trans (hc7.mono hb6.size)
                    have hv8 := hv.below hb7
                    go_wp2_with fail
                    refine (cI2.out _ hv8).mono ?_
                    rintro e w8 ⟨rfl, hc8⟩
                    have hb8 := hb7.trans (hc8.mono hb7.size)
                    go_wp2_with fail
                    go_ret
                    exact ⟨by rw [show R = 5 from HR.out.symm.trans (by simp [hz1])]; rfl, hb8⟩
                  | false =>
                    go_enter Tryd.func36, Tryd.ntmps36
                    go_wp2_with fail
                    refine (cC.out _ hv).mono ?_
                    rintro e w1 ⟨rfl, hc10⟩
                    have hc1 := hc10.below w.heap.size
                    have hb1 := hc1
                    have hv2 := hv.below hb1
                    go_wp2_with fail
                    refine (cL.out _ hv2).mono ?_
                    rintro e w2 ⟨rfl, hc2⟩
                    have hb2 := hb1.trans (hc2.mono hb1.size)
                    go_wp2_with fail
                    refine (cA.out _).mono ?_
                    rintro e w3 ⟨rfl, hc3⟩
                    have hb3 := hb2.trans (hc3.mono hb2.size)
                    go_wp2_with fail
                    refine (cA1.out _).mono ?_
                    rintro e w4 ⟨rfl, hc4⟩
                    have hb4 := hb3.trans (hc4.mono hb3.size)
                    go_wp2_with fail
                    refine (cA2.out _).mono ?_
                    rintro e w5 ⟨rfl, hc5⟩
                    have hb5 := hb4.trans (hc5.mono hb4.size)
                    have hv6 := hv.below hb5
                    go_wp2_with fail
                    refine (cI.out _ hv6).mono ?_
                    rintro e w6 ⟨rfl, hc6⟩
                    have hb6 := hb5.trans (hc6.mono hb5.size)
                    have hv7 := hv.below hb6
                    go_wp2_with fail
                    refine (cI1.out _ hv7).mono ?_
                    rintro e w7 ⟨rfl, hc7⟩
                    have hb7 := hb6.trans (hc7.mono hb6.size)
                    have hv8 := hv.below hb7
                    go_wp2_with fail
                    refine (cI2.out _ hv8).mono ?_
                    rintro e w8 ⟨rfl, hc8⟩
                    have hb8 := hb7.trans (hc8.mono hb7.size)
                    go_wp2_with fail
                    go_ret
                    exact ⟨by rw [show R = 0 from HR.out.symm.trans (by simp [hz1])]; rfl, hb8⟩
                | false =>
                  go_enter Tryd.func36, Tryd.ntmps36
                  go_wp2_with fail
                  refine (cC.out _ hv).mono ?_
                  rintro e w1 ⟨rfl, hc10⟩
                  have hc1 := hc10.below w.heap.size
                  have hb1 := hc1
                  have hv2 := hv.below hb1
                  go_wp2_with fail
                  refine (cL.out _ hv2).mono ?_
                  rintro e w2 ⟨rfl, hc2⟩
                  have hb2 := hb1.trans (hc2.mono hb1.size)
                  go_wp2_with fail
                  refine (cA.out _).mono ?_
                  rintro e w3 ⟨rfl, hc3⟩
                  have hb3 := hb2.trans (hc3.mono hb2.size)
                  go_wp2_with fail
                  refine (cA1.out _).mono ?_
                  rintro e w4 ⟨rfl, hc4⟩
                  have hb4 := hb3.trans (hc4.mono hb3.size)
                  go_wp2_with fail
                  refine (cA2.out _).mono ?_
                  rintro e w5 ⟨rfl, hc5⟩
                  have hb5 := hb4.trans (hc5.mono hb4.size)
                  have hv6 := hv.below hb5
                  go_wp2_with fail
                  refine (cI.out _ hv6).mono ?_
                  rintro e w6 ⟨rfl, hc6⟩
                  have hb6 := hb5.trans (hc6.mono hb5.size)
                  have hv7 := hv.below hb6
                  go_wp2_with fail
                  refine (cI1.out _ hv7).mono ?_
                  rintro e w7 ⟨rfl, hc7⟩
                  have hb7 := hb6.trans (hc7.mono hb6.size)
                  go_wp2_with fail
                  go_ret
                  exact ⟨by rw [show R = 0 from HR.out.symm.trans (by simp [hz1])]; rfl, hb7⟩
      | false =>
        cases L with
        | true =>
          go_enter Tryd.func36, Tryd.ntmps36
          go_wp2_with fail
          refine (cC.out _ hv).mono ?_
          rintro e w1 ⟨rfl, hc10⟩
          have hc1 := hc10.below w.heap.size
          have hb1 := hc1
          have hv2 := hv.below hb1
          go_wp2_with fail
          refine (cL.out _ hv2).mono ?_
          rintro e w2 ⟨rfl, hc2⟩
          have hb2 := hb1.trans (hc2.mono hb1.size)
          go_wp2_with fail
          refine (cA.out _).mono ?_
          rintro e w3 ⟨rfl, hc3⟩
          have hb3 := hb2.trans (hc3.mono hb2.size)
          go_wp2_with fail
          refine (cA1.out _).mono ?_
          rintro e w4 ⟨rfl, hc4⟩
          have hb4 := hb3.trans (hc4.mono hb3.size)
          go_wp2_with fail
          go_ret
          exact ⟨by rw [show R = 3 from HR.out.symm.trans (by simp)]; rfl, hb4⟩
        | false =>
          rcases hz with ⟨hz1, hz2⟩ | ⟨hz1, hz2⟩
          · skip
            go_enter Tryd.func36, Tryd.ntmps36
            go_wp2_with fail
            refine (cC.out _ hv).mono ?_
            rintro e w1 ⟨rfl, hc10⟩
            have hc1 := hc10.below w.heap.size
            have hb1 := hc1
            have hv2 := hv.below hb1
            go_wp2_with fail
            refine (cL.out _ hv2).mono ?_
            rintro e w2 ⟨rfl, hc2⟩
            have hb2 := hb1.trans (hc2.mono hb1.size)
            go_wp2_with fail
            refine (cA.out _).mono ?_
            rintro e w3 ⟨rfl, hc3⟩
            have hb3 := hb2.trans (hc3.mono hb2.size)
            go_wp2_with fail
            refine (cA1.out _).mono ?_
            rintro e w4 ⟨rfl, hc4⟩
            have hb4 := hb3.trans (hc4.mono hb3.size)
            go_wp2_with fail
            go_ret
            exact ⟨by rw [show R = 4 from HR.out.symm.trans (by simp [hz1])]; rfl, hb4⟩
          · skip
            cases I with
            | true =>
              go_enter Tryd.func36, Tryd.ntmps36
              go_wp2_with fail
              refine (cC.out _ hv).mono ?_
              rintro e w1 ⟨rfl, hc10⟩
              have hc1 := hc10.below w.heap.size
              have hb1 := hc1
              have hv2 := hv.below hb1
              go_wp2_with fail
              refine (cL.out _ hv2).mono ?_
              rintro e w2 ⟨rfl, hc2⟩
              have hb2 := hb1.trans (hc2.mono hb1.size)
              go_wp2_with fail
              refine (cA.out _).mono ?_
              rintro e w3 ⟨rfl, hc3⟩
              have hb3 := hb2.trans (hc3.mono hb2.size)
              go_wp2_with fail
              refine (cA1.out _).mono ?_
              rintro e w4 ⟨rfl, hc4⟩
              have hb4 := hb3.trans (hc4.mono hb3.size)
              have hv5 := hv.below hb4
              go_wp2_with fail
              refine (cI.out _ hv5).mono ?_
              rintro e w5 ⟨rfl, hc5⟩
              have hb5 := hb4.trans (hc5.mono hb4.size)
              go_wp2_with fail
              go_ret
              exact ⟨by rw [show R = 5 from HR.out.symm.trans (by simp [hz1])]; rfl, hb5⟩
            | false =>
              cases I1 with
              | true =>
                cases I2 with
                | true =>
                  go_enter Tryd.func36, Tryd.ntmps36
                  go_wp2_with fail
                  refine (cC.out _ hv).mono ?_
                  rintro e w1 ⟨rfl, hc10⟩
                  have hc1 := hc10.below w.heap.size
                  have hb1 := hc1
                  have hv2 := hv.below hb1
                  go_wp2_with fail
                  refine (cL.out _ hv2).mono ?_
                  rintro e w2 ⟨rfl, hc2⟩
                  have hb2 := hb1.trans (hc2.mono hb1.size)
                  go_wp2_with fail
                  refine (cA.out _).mono ?_
                  rintro e w3 ⟨rfl, hc3⟩
                  have hb3 := hb2.trans (hc3.mono hb2.size)
                  go_wp2_with fail
                  refine (cA1.out _).mono ?_
                  rintro e w4 ⟨rfl, hc4⟩
                  have hb4 := hb3.trans (hc4.mono hb3.size)
                  have hv5 := hv.below hb4
                  go_wp2_with fail
                  refine (cI.out _ hv5).mono ?_
                  rintro e w5 ⟨rfl, hc5⟩
                  have hb5 := hb4.trans (hc5.mono hb4.size)
                  have hv6 := hv.below hb5
                  go_wp2_with fail
                  refine (cI1.out _ hv6).mono ?_
                  rintro e w6 ⟨rfl, hc6⟩
                  have hb6 := hb5.trans (hc6.mono hb5.size)
                  have hv7 := hv.below hb6
                  go_wp2_with fail
                  refine (cI2.out _ hv7).mono ?_
                  rintro e w7 ⟨rfl, hc7⟩
                  have hb7 := hb6.trans (hc7.mono hb6.size)
                  go_wp2_with fail
                  go_ret
                  exact ⟨by rw [show R = 5 from HR.out.symm.trans (by simp [hz1])]; rfl, hb7⟩
                | false =>
                  go_enter Tryd.func36, Tryd.ntmps36
                  go_wp2_with fail
                  refine (cC.out _ hv).mono ?_
                  rintro e w1 ⟨rfl, hc10⟩
                  have hc1 := hc10.below w.heap.size
                  have hb1 := hc1
                  have hv2 := hv.below hb1
                  go_wp2_with fail
                  refine (cL.out _ hv2).mono ?_
                  rintro e w2 ⟨rfl, hc2⟩
                  have hb2 := hb1.trans (hc2.mono hb1.size)
                  go_wp2_with fail
                  refine (cA.out _).mono ?_
                  rintro e w3 ⟨rfl, hc3⟩
                  have hb3 := hb2.trans (hc3.mono hb2.size)
                  go_wp2_with fail
                  refine (cA1.out _).mono ?_
                  rintro e w4 ⟨rfl, hc4⟩
                  have hb4 := hb3.trans (hc4.mono hb3.size)
                  have hv5 := hv.below hb4
                  go_wp2_with fail
                  refine (cI.out _ hv5).mono ?_
                  rintro e w5 ⟨rfl, hc5⟩
                  have hb5 := hb4.trans (hc5.mono hb4.size)
                  have hv6 := hv.below hb5
                  go_wp2_with fail
                  refine (cI1.out _ hv6).mono ?_
                  rintro e w6 ⟨rfl, hc6⟩
                  have hb6 := hb5.trans (hc6.mono hb5.size)
                  have hv7 := hv.below hb6
                  go_wp2_with fail
                  refine (cI2.out _ hv7).mono ?_
                  rintro e w7 ⟨rfl, hc7⟩
                  have hb7 := hb6.trans (hc7.mono hb6.size)
                  go_wp2_with fail
                  go_ret
                  exact ⟨by rw [show R = 0 from HR.out.symm.trans (by simp [hz1])]; rfl, hb7⟩
              | false =>
                go_enter Tryd.func36, Tryd.ntmps36
                go_wp2_with fail
                refine (cC.out _ hv).mono ?_
                rintro e w1 ⟨rfl, hc10⟩
                have hc1 := hc10.below w.heap.size
                have hb1 := hc1
                have hv2 := hv.below hb1
                go_wp2_with fail
                refine (cL.out _ hv2).mono ?_
                rintro e w2 ⟨rfl, hc2⟩
                have hb2 := hb1.trans (hc2.mono hb1.size)
                go_wp2_with fail
                refine (cA.out _).mono ?_
                rintro e w3 ⟨rfl, hc3⟩
                have hb3 := hb2.trans (hc3.mono hb2.size)
                go_wp2_with fail
                refine (cA1.out _).mono ?_
                rintro e w4 ⟨rfl, hc4⟩
                have hb4 := hb3.trans (hc4.mono hb3.size)
                have hv5 := hv.below hb4
                go_wp2_with fail
                refine (cI.out _ hv5).mono ?_
                rintro e w5 ⟨rfl, hc5⟩
                have hb5 := hb4.trans (hc5.mono hb4.size)
                have hv6 := hv.below hb5
                go_wp2_with fail
                refine (cI1.out _ hv6).mono ?_
                rintro e w6 ⟨rfl, hc6⟩
                have hb6 := hb5.trans (hc6.mono hb5.size)
                go_wp2_with fail
                go_ret
                exact ⟨by rw [show R = 0 from HR.out.symm.trans (by simp [hz1])]; rfl, hb6⟩
    | false =>
      cases L with
      | true =>
        go_enter Tryd.func36, Tryd.ntmps36
        go_wp2_with fail
        refine (cC.out _ hv).mono ?_
        rintro e w1 ⟨rfl, hc10⟩
        have hc1 := hc10.below w.heap.size
        have hb1 := hc1
        have hv2 := hv.below hb1
        go_wp2_with fail
        refine (cL.out _ hv2).mono ?_
        rintro e w2 ⟨rfl, hc2⟩
        have hb2 := hb1.trans (hc2.mono hb1.size)
        go_wp2_with fail
        refine (cA.out _).mono ?_
        rintro e w3 ⟨rfl, hc3⟩
        have hb3 := hb2.trans (hc3.mono hb2.size)
        go_wp2_with fail
        go_ret
        exact ⟨by rw [show R = 3 from HR.out.symm.trans (by simp)]; rfl, hb3⟩
      | false =>
        rcases hz with ⟨hz1, hz2⟩ | ⟨hz1, hz2⟩
        · skip
          go_enter Tryd.func36, Tryd.ntmps36
          go_wp2_with fail
          refine (cC.out _ hv).mono ?_
          rintro e w1 ⟨rfl, hc10⟩
          have hc1 := hc10.below w.heap.size
          have hb1 := hc1
          have hv2 := hv.below hb1
          go_wp2_with fail
          refine (cL.out _ hv2).mono ?_
          rintro e w2 ⟨rfl, hc2⟩
          have hb2 := hb1.trans (hc2.mono hb1.size)
          go_wp2_with fail
          refine (cA.out _).mono ?_
          rintro e w3 ⟨rfl, hc3⟩
          have hb3 := hb2.trans (hc3.mono hb2.size)
          go_wp2_with fail
          go_ret
          exact ⟨by rw [show R = 4 from HR.out.symm.trans (by simp [hz1])]; rfl, hb3⟩
        · skip
          cases I with
          | true =>
            go_enter Tryd.func36, Tryd.ntmps36
            go_wp2_with fail
            refine (cC.out _ hv).mono ?_
            rintro e w1 ⟨rfl, hc10⟩
            have hc1 := hc10.below w.heap.size
            have hb1 := hc1
            have hv2 := hv.below hb1
            go_wp2_with fail
            refine (cL.out _ hv2).mono ?_
            rintro e w2 ⟨rfl, hc2⟩
            have hb2 := hb1.trans (hc2.mono hb1.size)
            go_wp2_with fail
            refine (cA.out _).mono ?_
            rintro e w3 ⟨rfl, hc3⟩
            have hb3 := hb2.trans (hc3.mono hb2.size)
            have hv4 := hv.below hb3
            go_wp2_with fail
            refine (cI.out _ hv4).mono ?_
            rintro e w4 ⟨rfl, hc4⟩
            have hb4 := hb3.trans (hc4.mono hb3.size)
            go_wp2_with fail
            go_ret
            exact ⟨by rw [show R = 5 from HR.out.symm.trans (by simp [hz1])]; rfl, hb4⟩
          | false =>
            go_enter Tryd.func36, Tryd.ntmps36
            go_wp2_with fail
            refine (cC.out _ hv).mono ?_
            rintro e w1 ⟨rfl, hc10⟩
            have hc1 := hc10.below w.heap.size
            have hb1 := hc1
            have hv2 := hv.below hb1
            go_wp2_with fail
            refine (cL.out _ hv2).mono ?_
            rintro e w2 ⟨rfl, hc2⟩
            have hb2 := hb1.trans (hc2.mono hb1.size)
            go_wp2_with fail
            refine (cA.out _).mono ?_
            rintro e w3 ⟨rfl, hc3⟩
            have hb3 := hb2.trans (hc3.mono hb2.size)
            have hv4 := hv.below hb3
            go_wp2_with fail
            refine (cI.out _ hv4).mono ?_
            rintro e w4 ⟨rfl, hc4⟩
            have hb4 := hb3.trans (hc4.mono hb3.size)
            go_wp2_with fail
            go_ret
            exact ⟨by rw [show R = 0 from HR.out.symm.trans (by simp [hz1])]; rfl, hb4⟩
end Go.Proofs.YtlideagcmhlkeaaDoor

/- The changes of FORMATs that Expand and Contract make: their closures. -/
namespace Go.Proofs.YtlideagcmhlkeaaDoor
open Go.RowKit Go.Lib
set_option linter.unusedVariables false
set_option linter.unusedSimpArgs false

set_option maxRecDepth 100000 in
set_option maxHeartbeats 8000000 in
theorem ex_any (s : SV) (e : EV) (B : Nat) (w : World) (hS : SrcIn w s) (hbk : Blk w B 32 #[.slice s.rA s.rules.length s.rc, .slice s.zA s.zones.length s.zc, .slice s.kA s.links.length s.kc, .slice s.hA s.shifts.length s.hc]) (hl : s.rules.length ≤ 1000) (hsv : SvOk s.rules) (h1 : -9223372036854775808 ≤ e.off ∧ e.off ≤ 9223372036854775807) (h2 : -9223372036854775808 ≤ e.save ∧ e.save ≤ 9223372036854775807) :
    Calls Tryd.prog 48 #[.agg #[.int .i64 e.off, .int .i64 e.kind, .int .i64 e.save, .string e.set, .string e.fmt, .bool e.ui, .int .i64 e.uy, .int .i64 e.um, .int .i64 e.dk, .int .i64 e.dw, .int .i64 e.dd, .int .i64 e.asec, .int .i64 e.ab], .pointer (some ⟨B, 0, none⟩)] w fun x w' => x = .returned (.tuple #[.string (exF s.rules e).1, .int .i64 (exF s.rules e).2]) ∧ Below w.heap.size w w' := by
  have hE := Blk.new w 47 #[.int .i64 e.off, .int .i64 e.kind, .int .i64 e.save, .string e.set, .string e.fmt, .bool e.ui, .int .i64 e.uy, .int .i64 e.um, .int .i64 e.dk, .int .i64 e.dw, .int .i64 e.dd, .int .i64 e.asec, .int .i64 e.ab]
  have hb0 := (Below.refl _ w).alloc (Nat.le_refl _) (.cells #[.int .i64 e.off, .int .i64 e.kind, .int .i64 e.save, .string e.set, .string e.fmt, .bool e.ui, .int .i64 e.uy, .int .i64 e.um, .int .i64 e.dk, .int .i64 e.dw, .int .i64 e.dd, .int .i64 e.asec, .int .i64 e.ab] 47)
  have hB := hbk.alloc (.cells #[.int .i64 e.off, .int .i64 e.kind, .int .i64 e.save, .string e.set, .string e.fmt, .bool e.ui, .int .i64 e.uy, .int .i64 e.um, .int .i64 e.dk, .int .i64 e.dw, .int .i64 e.dd, .int .i64 e.asec, .int .i64 e.ab] 47)
  have cN : Hid (∀ W, Below w.heap.size w W → Calls Tryd.prog 49 #[.agg #[.slice s.rA s.rules.length s.rc, .slice s.zA s.zones.length s.zc, .slice s.kA s.links.length s.kc, .slice s.hA s.shifts.length s.hc], .agg #[.int .i64 e.off, .int .i64 e.kind, .int .i64 e.save, .string e.set, .string e.fmt, .bool e.ui, .int .i64 e.uy, .int .i64 e.um, .int .i64 e.dk, .int .i64 e.dw, .int .i64 e.dd, .int .i64 e.asec, .int .i64 e.ab]] W fun x w' => x = .returned (.tuple #[.string (num30 s.rules e).1, .int .i64 (num30 s.rules e).2]) ∧ Below W.heap.size W w') := Lib.hid fun W hb => number_any s e W (hS.below hb) hl hsv h1 h2
  have HE := Lib.hid hE; have HB := Lib.hid hB; have HBL := Lib.hid hb0
  obtain ⟨X, Y, hXY⟩ : ∃ X Y, num30 s.rules e = (X, Y) := ⟨_, _, rfl⟩
  rw [hXY] at cN
  clear hS hbk hl hsv h1 h2 hE hB hb0
  by_cases hz : e.fmt = ⟨#[37, 122]⟩
  · have hR : exF s.rules e = (X, Y) := by unfold exF; rw [if_pos hz, hXY]
    rw [hR]
    have hd : (e.fmt.toList == [37, 122]) = true := by rw [hz]; decide +kernel
    clear hz hR hXY
    have b0 := (HB.out.cell 0).trans rfl
    have b1 := (HB.out.cell 1).trans rfl
    have b2 := (HB.out.cell 2).trans rfl
    have b3 := (HB.out.cell 3).trans rfl
    have e0 := (HE.out.cell 0).trans rfl
    have e1 := (HE.out.cell 1).trans rfl
    have e2 := (HE.out.cell 2).trans rfl
    have e3 := (HE.out.cell 3).trans rfl
    have e4 := (HE.out.cell 4).trans rfl
    have e5 := (HE.out.cell 5).trans rfl
    have e6 := (HE.out.cell 6).trans rfl
    have e7 := (HE.out.cell 7).trans rfl
    have e8 := (HE.out.cell 8).trans rfl
    have e9 := (HE.out.cell 9).trans rfl
    have e10 := (HE.out.cell 10).trans rfl
    have e11 := (HE.out.cell 11).trans rfl
    have e12 := (HE.out.cell 12).trans rfl
    go_enter Tryd.func48, Tryd.ntmps48
    go_wp2_with fail
    refine (cN.out _ HBL.out).mono ?_
    rintro x w2 ⟨rfl, hc⟩
    go_wp2_with fail
    go_ret2
    exact ⟨rfl, HBL.out.trans (hc.mono HBL.out.size)⟩
  · have hR : exF s.rules e = (e.fmt, 0) := by unfold exF; rw [if_neg hz]
    rw [hR]
    have hd : (e.fmt.toList == [37, 122]) = false := by have q := eq_b e.fmt (str [37, 122]) hz; rwa [str_toList] at q
    clear hz hR hXY
    have e4 := (HE.out.cell 4).trans rfl
    go_enter Tryd.func48, Tryd.ntmps48
    go_wp2_with fail
    go_ret2
    exact ⟨rfl, HBL.out⟩
set_option maxRecDepth 100000 in
set_option maxHeartbeats 8000000 in
theorem co_any (s : SV) (e : EV) (B : Nat) (w : World) (hS : SrcIn w s) (hbk : Blk w B 32 #[.slice s.rA s.rules.length s.rc, .slice s.zA s.zones.length s.zc, .slice s.kA s.links.length s.kc, .slice s.hA s.shifts.length s.hc]) (hl : s.rules.length ≤ 1000) (hsv : SvOk s.rules) (h1 : -9223372036854775808 ≤ e.off ∧ e.off ≤ 9223372036854775807) (h2 : -9223372036854775808 ≤ e.save ∧ e.save ≤ 9223372036854775807) (hsz : e.fmt.size ≤ 1000000) (hv : Vars21 w) :
    Calls Tryd.prog 55 #[.agg #[.int .i64 e.off, .int .i64 e.kind, .int .i64 e.save, .string e.set, .string e.fmt, .bool e.ui, .int .i64 e.uy, .int .i64 e.um, .int .i64 e.dk, .int .i64 e.dw, .int .i64 e.dd, .int .i64 e.asec, .int .i64 e.ab], .pointer (some ⟨B, 0, none⟩)] w fun x w' => x = .returned (.tuple #[.string (coF s.rules e).1, .int .i64 (coF s.rules e).2]) ∧ Below w.heap.size w w' := by
  have hE := Blk.new w 47 #[.int .i64 e.off, .int .i64 e.kind, .int .i64 e.save, .string e.set, .string e.fmt, .bool e.ui, .int .i64 e.uy, .int .i64 e.um, .int .i64 e.dk, .int .i64 e.dw, .int .i64 e.dd, .int .i64 e.asec, .int .i64 e.ab]
  have hb0 := (Below.refl _ w).alloc (Nat.le_refl _) (.cells #[.int .i64 e.off, .int .i64 e.kind, .int .i64 e.save, .string e.set, .string e.fmt, .bool e.ui, .int .i64 e.uy, .int .i64 e.um, .int .i64 e.dk, .int .i64 e.dw, .int .i64 e.dd, .int .i64 e.asec, .int .i64 e.ab] 47)
  have hB := hbk.alloc (.cells #[.int .i64 e.off, .int .i64 e.kind, .int .i64 e.save, .string e.set, .string e.fmt, .bool e.ui, .int .i64 e.uy, .int .i64 e.um, .int .i64 e.dk, .int .i64 e.dw, .int .i64 e.dd, .int .i64 e.asec, .int .i64 e.ab] 47)
  have cN : Hid (∀ W, Below w.heap.size w W → Calls Tryd.prog 49 #[.agg #[.slice s.rA s.rules.length s.rc, .slice s.zA s.zones.length s.zc, .slice s.kA s.links.length s.kc, .slice s.hA s.shifts.length s.hc], .agg #[.int .i64 e.off, .int .i64 e.kind, .int .i64 e.save, .string e.set, .string e.fmt, .bool e.ui, .int .i64 e.uy, .int .i64 e.um, .int .i64 e.dk, .int .i64 e.dw, .int .i64 e.dd, .int .i64 e.asec, .int .i64 e.ab]] W fun x w' => x = .returned (.tuple #[.string (num30 s.rules e).1, .int .i64 (num30 s.rules e).2]) ∧ Below W.heap.size W w') := Lib.hid fun W hb => number_any s e W (hS.below hb) hl hsv h1 h2
  have HE := Lib.hid hE; have HB := Lib.hid hB; have HBL := Lib.hid hb0
  obtain ⟨X, Y, hXY⟩ : ∃ X Y, num30 s.rules e = (X, Y) := ⟨_, _, rfl⟩
  rw [hXY] at cN
  have cK : Hid (∀ W, Below w.heap.size w W → Calls Tryd.prog 36 #[.string e.fmt] W fun x w' => x = .returned (.int .i64 (P21.kind (P4.bl e.fmt))) ∧ Below W.heap.size W w') := Lib.hid fun W hb => kind_any e.fmt W hsz (hv.below hb)
  have e4 := (HE.out.cell 4).trans rfl
  by_cases hk : P21.kind (P4.bl e.fmt) = 5
  · have hR : coF s.rules e = (if Y = 0 then (if X = e.fmt then (⟨#[37, 122]⟩, 0) else (⟨#[]⟩, 15)) else (⟨#[]⟩, Y)) := by unfold coF; rw [if_pos hk, hXY]
    rw [hk] at cK
    obtain ⟨R1, R2, hRR⟩ : ∃ R1 R2, coF s.rules e = (R1, R2) := ⟨_, _, rfl⟩
    have HR := Lib.hid (hR.symm.trans hRR)
    rw [hRR]
    clear hk hR hRR hXY hS hbk hl hsv h1 h2 hE hB hb0 hsz hv
    go_enter Tryd.func55, Tryd.ntmps55
    go_wp2_with fail
    refine (cK.out _ HBL.out).mono ?_
    rintro x w2 ⟨rfl, hc⟩
    have HB2 := Lib.hid (HB.out.below hc HB.out.lt)
    have HE2 := Lib.hid (HE.out.below hc HE.out.lt)
    have HBL2 := Lib.hid (HBL.out.trans (hc.mono HBL.out.size))
    clear e4 hc HB HE HBL
    have b0 := (HB2.out.cell 0).trans rfl
    have b1 := (HB2.out.cell 1).trans rfl
    have b2 := (HB2.out.cell 2).trans rfl
    have b3 := (HB2.out.cell 3).trans rfl
    have e0 := (HE2.out.cell 0).trans rfl
    have e1 := (HE2.out.cell 1).trans rfl
    have e2 := (HE2.out.cell 2).trans rfl
    have e3 := (HE2.out.cell 3).trans rfl
    have e4 := (HE2.out.cell 4).trans rfl
    have e5 := (HE2.out.cell 5).trans rfl
    have e6 := (HE2.out.cell 6).trans rfl
    have e7 := (HE2.out.cell 7).trans rfl
    have e8 := (HE2.out.cell 8).trans rfl
    have e9 := (HE2.out.cell 9).trans rfl
    have e10 := (HE2.out.cell 10).trans rfl
    have e11 := (HE2.out.cell 11).trans rfl
    have e12 := (HE2.out.cell 12).trans rfl
    go_wp2_with fail
    refine (cN.out _ HBL2.out).mono ?_
    rintro x w3 ⟨rfl, hc⟩
    have HE3 := Lib.hid (HE2.out.below hc HE2.out.lt)
    have HBL3 := Lib.hid (HBL2.out.trans (hc.mono HBL2.out.size))
    clear b0 b1 b2 b3 e0 e1 e2 e3 e4 e5 e6 e7 e8 e9 e10 e11 e12 hc HB2 HE2 HBL2
    have e4 := (HE3.out.cell 4).trans rfl
    by_cases hy : Y = 0
    · have hdy : (Y == 0) = true := by rw [hy]; rfl
      by_cases hx : X = e.fmt
      · have hdx : (X.toList == e.fmt.toList) = true := by rw [hx]; simp
        have HQ1 := Lib.hid (show (⟨#[37, 122]⟩ : ByteArray) = R1 by have q := HR.out; rw [if_pos hy, if_pos hx] at q; exact congrArg Prod.fst q)
        have HQ2 := Lib.hid (show (0 : Int) = R2 by have q := HR.out; rw [if_pos hy, if_pos hx] at q; exact congrArg Prod.snd q)
        clear hx hy
        go_wp2_with fail
        go_ret2
        exact ⟨by rw [← HQ1.out, ← HQ2.out]; rfl, HBL3.out⟩
      · have hdx : (X.toList == e.fmt.toList) = false := eq_b _ _ hx
        have HQ1 := Lib.hid (show (⟨#[]⟩ : ByteArray) = R1 by have q := HR.out; rw [if_pos hy, if_neg hx] at q; exact congrArg Prod.fst q)
        have HQ2 := Lib.hid (show (15 : Int) = R2 by have q := HR.out; rw [if_pos hy, if_neg hx] at q; exact congrArg Prod.snd q)
        clear hx hy
        go_wp2_with fail
        go_ret2
        exact ⟨by rw [← HQ1.out, ← HQ2.out]; rfl, HBL3.out⟩
    · have hdy : (Y == 0) = false := by simpa using hy
      have HQ1 := Lib.hid (show (⟨#[]⟩ : ByteArray) = R1 by have q := HR.out; rw [if_neg hy] at q; exact congrArg Prod.fst q)
      have HQ2 := Lib.hid (show (Y : Int) = R2 by have q := HR.out; rw [if_neg hy] at q; exact congrArg Prod.snd q)
      clear hy
      go_wp2_with fail
      go_ret2
      exact ⟨by rw [← HQ1.out, ← HQ2.out]; rfl, HBL3.out⟩
  · have hR : coF s.rules e = (e.fmt, 0) := by unfold coF; rw [if_neg hk]
    obtain ⟨K, hK⟩ : ∃ K : Int, P21.kind (P4.bl e.fmt) = K := ⟨_, rfl⟩
    have hdk : (K == 5) = false := by rw [← hK]; simpa using hk
    rw [hK] at cK
    rw [hR]
    clear hk hK hR hXY hS hbk hl hsv h1 h2 hE hB hb0 hsz hv
    go_enter Tryd.func55, Tryd.ntmps55
    go_wp2_with fail
    refine (cK.out _ HBL.out).mono ?_
    rintro x w2 ⟨rfl, hc⟩
    have HE2 := Lib.hid (HE.out.below hc HE.out.lt)
    have HBL2 := Lib.hid (HBL.out.trans (hc.mono HBL.out.size))
    clear e4 hc HB HE HBL
    have e4 := (HE2.out.cell 4).trans rfl
    go_wp2_with fail
    go_ret2
    exact ⟨rfl, HBL2.out⟩
end Go.Proofs.YtlideagcmhlkeaaDoor

/- Expand and Contract (chapter 30): the FORMATs changed, or the first error. -/
namespace Go.Proofs.YtlideagcmhlkeaaDoor
open Go.RowKit Go.Lib
set_option linter.unusedVariables false
set_option linter.unusedSimpArgs false

set_option maxRecDepth 100000 in
set_option maxHeartbeats 8000000 in
theorem expand_any (s : SV) (w : World) (hS : SrcIn w s) (hf : Few30 s) :
    Calls Tryd.prog 14 #[.agg #[.slice s.rA s.rules.length s.rc, .slice s.zA s.zones.length s.zc, .slice s.kA s.links.length s.kc, .slice s.hA s.shifts.length s.hc]] w fun x w' => ∃ (t : SV) (n : Int), x = .returned (.tuple #[.agg #[.slice t.rA t.rules.length t.rc, .slice t.zA t.zones.length t.zc, .slice t.kA t.links.length t.kc, .slice t.hA t.shifts.length t.hc], .int .i64 n]) ∧ SrcG w' t ∧ Res30 (exF s.rules) s t n ∧ Below w.heap.size w w' := by
  have hb0 := ((Below.refl w.heap.size w).alloc (Nat.le_refl _) (.cells #[.slice s.rA s.rules.length s.rc, .slice s.zA s.zones.length s.zc, .slice s.kA s.links.length s.kc, .slice s.hA s.shifts.length s.hc] 32)).alloc (by simp) (.cells #[.slice none 0 0, .slice none 0 0, .slice none 0 0, .slice none 0 0] 32)
  have hx0 := (Blk.new w 32 #[.slice s.rA s.rules.length s.rc, .slice s.zA s.zones.length s.zc, .slice s.kA s.links.length s.kc, .slice s.hA s.shifts.length s.hc]).alloc (.cells #[.slice none 0 0, .slice none 0 0, .slice none 0 0, .slice none 0 0] 32)
  have hr0 := Blk.newAt (w.alloc (.cells #[.slice s.rA s.rules.length s.rc, .slice s.zA s.zones.length s.zc, .slice s.kA s.links.length s.kc, .slice s.hA s.shifts.length s.hc] 32)) (w.heap.size + 1) (by simp) 32 #[.slice none 0 0, .slice none 0 0, .slice none 0 0, .slice none 0 0]
  have c0 := (hx0.cell 0).trans rfl; have c1 := (hx0.cell 1).trans rfl; have c2 := (hx0.cell 2).trans rfl; have c3 := (hx0.cell 3).trans rfl
  have cE := Lib.hid (each_any (exF s.rules) 48 #[.pointer (some ⟨w.heap.size, 0, none⟩)] s _ (hS.below hb0) hf (enters_of Tryd.func48 (by kernel_rfl) rfl)
    (fun z hz e he W hb => ex_any s e w.heap.size W (hS.below (hb0.trans (hb.mono hb0.size))) (hx0.below hb hx0.lt) hf.lens.1 hf.saves (hf.nums z hz e he).1 (hf.nums z hz e he).2.1))
  have HR0 := Lib.hid hr0; have HB0 := Lib.hid hb0
  have hmf : ∀ (fn : Fn) (first cap : Array Value) (W : World), (Instr.makeFunc fn first cap).run Tryd.prog W = .ok (.func fn first cap) W := fun _ _ _ _ => rfl
  clear hS hf hb0 hx0 hr0
  go_enter Tryd.func14, Tryd.ntmps14
  go_wp2_with fail
  refine cE.out.mono ?_
  rintro x W2 ⟨t, n, rfl, hT, hR, hc⟩
  have hr := HR0.out.below hc HR0.out.lt
  have hb := HB0.out.trans (hc.mono HB0.out.size)
  have r0 := (hr.cell 0).trans rfl; have r1 := (hr.cell 1).trans rfl; have r2 := (hr.cell 2).trans rfl; have r3 := (hr.cell 3).trans rfl
  have g0 := hr.frozen 0; have g1 := hr.frozen 1; have g2 := hr.frozen 2; have g3 := hr.frozen 3
  have t4 := GS.set4 hr (.slice t.rA t.rules.length t.rc) (.slice t.zA t.zones.length t.zc) (.slice t.kA t.links.length t.kc) (.slice t.hA t.shifts.length t.hc)
  have k0 := (t4.2.cell 0).trans rfl; have k1 := (t4.2.cell 1).trans rfl; have k2 := (t4.2.cell 2).trans rfl; have k3 := (t4.2.cell 3).trans rfl
  have HT := Lib.hid (hT.step t4.1); have HR := Lib.hid hR; have HB := Lib.hid hb
  clear cE hT hR hc hr hb t4 hmf c0 c1 c2 c3
  go_wp2_with fail
  refine bodyPost_ret (v := .tuple #[.agg #[.slice t.rA t.rules.length t.rc, .slice t.zA t.zones.length t.zc, .slice t.kA t.links.length t.kc, .slice t.hA t.shifts.length t.hc], .int .i64 n]) (by simp [results, Tryd.results14, go_sem, k0, k1, k2, k3]) rfl ?_
  exact ⟨t, n, rfl, HT.out, HR.out, below_set4 HB.out (Nat.le_succ _) _ _ _ _⟩
set_option maxRecDepth 100000 in
set_option maxHeartbeats 8000000 in
theorem contract_any (s : SV) (w : World) (hS : SrcIn w s) (hf : Few30 s) (hv : Vars21 w) :
    Calls Tryd.prog 20 #[.agg #[.slice s.rA s.rules.length s.rc, .slice s.zA s.zones.length s.zc, .slice s.kA s.links.length s.kc, .slice s.hA s.shifts.length s.hc]] w fun x w' => ∃ (t : SV) (n : Int), x = .returned (.tuple #[.agg #[.slice t.rA t.rules.length t.rc, .slice t.zA t.zones.length t.zc, .slice t.kA t.links.length t.kc, .slice t.hA t.shifts.length t.hc], .int .i64 n]) ∧ SrcG w' t ∧ Res30 (coF s.rules) s t n ∧ Below w.heap.size w w' := by
  have hb0 := ((Below.refl w.heap.size w).alloc (Nat.le_refl _) (.cells #[.slice s.rA s.rules.length s.rc, .slice s.zA s.zones.length s.zc, .slice s.kA s.links.length s.kc, .slice s.hA s.shifts.length s.hc] 32)).alloc (by simp) (.cells #[.slice none 0 0, .slice none 0 0, .slice none 0 0, .slice none 0 0] 32)
  have hx0 := (Blk.new w 32 #[.slice s.rA s.rules.length s.rc, .slice s.zA s.zones.length s.zc, .slice s.kA s.links.length s.kc, .slice s.hA s.shifts.length s.hc]).alloc (.cells #[.slice none 0 0, .slice none 0 0, .slice none 0 0, .slice none 0 0] 32)
  have hr0 := Blk.newAt (w.alloc (.cells #[.slice s.rA s.rules.length s.rc, .slice s.zA s.zones.length s.zc, .slice s.kA s.links.length s.kc, .slice s.hA s.shifts.length s.hc] 32)) (w.heap.size + 1) (by simp) 32 #[.slice none 0 0, .slice none 0 0, .slice none 0 0, .slice none 0 0]
  have c0 := (hx0.cell 0).trans rfl; have c1 := (hx0.cell 1).trans rfl; have c2 := (hx0.cell 2).trans rfl; have c3 := (hx0.cell 3).trans rfl
  have cE := Lib.hid (each_any (coF s.rules) 55 #[.pointer (some ⟨w.heap.size, 0, none⟩)] s _ (hS.below hb0) hf (enters_of Tryd.func55 (by kernel_rfl) rfl)
    (fun z hz e he W hb => co_any s e w.heap.size W (hS.below (hb0.trans (hb.mono hb0.size))) (hx0.below hb hx0.lt) hf.lens.1 hf.saves (hf.nums z hz e he).1 (hf.nums z hz e he).2.1 (hf.nums z hz e he).2.2 (hv.below (hb0.trans (hb.mono hb0.size)))))
  have HR0 := Lib.hid hr0; have HB0 := Lib.hid hb0
  have hmf : ∀ (fn : Fn) (first cap : Array Value) (W : World), (Instr.makeFunc fn first cap).run Tryd.prog W = .ok (.func fn first cap) W := fun _ _ _ _ => rfl
  clear hS hf hb0 hx0 hr0 hv
  go_enter Tryd.func20, Tryd.ntmps20
  go_wp2_with fail
  refine cE.out.mono ?_
  rintro x W2 ⟨t, n, rfl, hT, hR, hc⟩
  have hr := HR0.out.below hc HR0.out.lt
  have hb := HB0.out.trans (hc.mono HB0.out.size)
  have r0 := (hr.cell 0).trans rfl; have r1 := (hr.cell 1).trans rfl; have r2 := (hr.cell 2).trans rfl; have r3 := (hr.cell 3).trans rfl
  have g0 := hr.frozen 0; have g1 := hr.frozen 1; have g2 := hr.frozen 2; have g3 := hr.frozen 3
  have t4 := GS.set4 hr (.slice t.rA t.rules.length t.rc) (.slice t.zA t.zones.length t.zc) (.slice t.kA t.links.length t.kc) (.slice t.hA t.shifts.length t.hc)
  have k0 := (t4.2.cell 0).trans rfl; have k1 := (t4.2.cell 1).trans rfl; have k2 := (t4.2.cell 2).trans rfl; have k3 := (t4.2.cell 3).trans rfl
  have HT := Lib.hid (hT.step t4.1); have HR := Lib.hid hR; have HB := Lib.hid hb
  clear cE hT hR hc hr hb t4 hmf c0 c1 c2 c3
  go_wp2_with fail
  refine bodyPost_ret (v := .tuple #[.agg #[.slice t.rA t.rules.length t.rc, .slice t.zA t.zones.length t.zc, .slice t.kA t.links.length t.kc, .slice t.hA t.shifts.length t.hc], .int .i64 n]) (by simp [results, Tryd.results20, go_sem, k0, k1, k2, k3]) rfl ?_
  exact ⟨t, n, rfl, HT.out, HR.out, below_set4 HB.out (Nat.le_succ _) _ _ _ _⟩
end Go.Proofs.YtlideagcmhlkeaaDoor

/- The examples of chapter 30 (works), and turns for Expand and Contract. -/
namespace Go.Proofs.YtlideagcmhlkeaaDoor
open Go.RowKit Go.Lib
set_option linter.unusedVariables false
set_option linter.unusedSimpArgs false

/-- what the sources of the examples keep within -/
def BdE (e : EV) (sv : List Int) : Prop := (-9223372036854775808 ≤ e.off ∧ e.off ≤ 9223372036854775807) ∧ (-9223372036854775808 ≤ e.save ∧ e.save ≤ 9223372036854775807) ∧ e.fmt.size ≤ 1000000 ∧ sv.length ≤ 100 ∧ ∀ y ∈ sv, -9223372036854775808 ≤ y ∧ y ≤ 9223372036854775807
theorem svs_one (sv : List Int) : svs (oneRs sv) = sv := by
  refine List.ext_getElem? fun i => ?_
  unfold svs oneRs
  rw [List.getElem?_map, List.getElem?_mapIdx]
  cases sv[i]? <;> rfl
theorem few_one {t : SV} {e : EV} {sv : List Int} {eA : Option Addr} {ec : Nat} (hr : t.rules = oneRs sv) (hz : t.zones = [⟨⟨#[65]⟩, eA, ec, [e]⟩]) (hk : t.links = []) (hh : t.shifts = []) (hb : BdE e sv) : Few30 t := by
  obtain ⟨h1, h2, h3, h4, h5⟩ := hb
  refine ⟨⟨by rw [hr, oneRs_len]; omega, by rw [hz]; exact (by decide : 1 ≤ 1000), by rw [hk]; decide, by rw [hh]; decide⟩, fun z hm => ?_, fun z hm x hx => ?_, fun y hy => ?_⟩
  · rw [hz] at hm
    obtain rfl := List.mem_singleton.1 hm
    show 1 ≤ 1000
    decide
  · rw [hz] at hm
    obtain rfl := List.mem_singleton.1 hm
    obtain rfl := List.mem_singleton.1 hx
    exact ⟨h1, h2, h3⟩
  · rw [hr, svs_one] at hy
    exact h5 y hy
theorem turns_ex {t : SV} (e : EV) (sv : List Int) (want : ByteArray) (n : Int) (w : World) (hS : SrcG w t) (hq : t.rules = oneRs sv ∧ (∃ eA ec, t.zones = [⟨⟨#[65]⟩, eA, ec, [e]⟩]) ∧ t.links = [] ∧ t.shifts = []) (hb : BdE e sv) (hn : (exF (oneRs sv) e).2 = n) (hw : n = 0 → (exF (oneRs sv) e).1 = want) :
    Calls Tryd.prog 27 #[.func (.func 14) #[] #[], .agg #[.slice t.rA t.rules.length t.rc, .slice t.zA t.zones.length t.zc, .slice t.kA t.links.length t.kc, .slice t.hA t.shifts.length t.hc], .string want, .int .i64 n] w fun x w' => x = .returned (.bool true) ∧ Below w.heap.size w w' := by
  obtain ⟨hr, ⟨eA, ec, hz⟩, hk, hh⟩ := hq
  have hf := few_one hr hz hk hh hb
  exact turns_any _ (exF t.rules) t want n _ eA ec e w hS hf hz (enters_of Tryd.func14 (by kernel_rfl) rfl) (fun W h => expand_any t W (hS.below h).src hf) (by rw [hr]; exact hn) (fun h => by rw [hr]; exact hw h)
theorem turns_co {t : SV} (e : EV) (sv : List Int) (want : ByteArray) (n : Int) (w : World) (hv : Vars21 w) (hS : SrcG w t) (hq : t.rules = oneRs sv ∧ (∃ eA ec, t.zones = [⟨⟨#[65]⟩, eA, ec, [e]⟩]) ∧ t.links = [] ∧ t.shifts = []) (hb : BdE e sv) (hn : (coF (oneRs sv) e).2 = n) (hw : n = 0 → (coF (oneRs sv) e).1 = want) :
    Calls Tryd.prog 27 #[.func (.func 20) #[] #[], .agg #[.slice t.rA t.rules.length t.rc, .slice t.zA t.zones.length t.zc, .slice t.kA t.links.length t.kc, .slice t.hA t.shifts.length t.hc], .string want, .int .i64 n] w fun x w' => x = .returned (.bool true) ∧ Below w.heap.size w w' := by
  obtain ⟨hr, ⟨eA, ec, hz⟩, hk, hh⟩ := hq
  have hf := few_one hr hz hk hh hb
  exact turns_any _ (coF t.rules) t want n _ eA ec e w hS hf hz (enters_of Tryd.func20 (by kernel_rfl) rfl) (fun W h => contract_any t W (hS.below h).src hf (hv.below h)) (by rw [hr]; exact hn) (fun h => by rw [hr]; exact hw h)
theorem saves_in {w : World} {sv : List Int} (g : Nat) (t : TypeId) {cs : Array Value} (h : Blk w g t cs) (hc : cs.toList = sv.map (fun y => Value.int .i64 y)) : CellsIn 1 (fun y : Int => [Value.int .i64 y]) w (some ⟨g, 0, none⟩) sv := by
  intro k r hr
  refine ⟨g, 0, rfl, h.lt, fun j u hu => ?_⟩
  have hj : j = 0 := by have := (List.getElem?_eq_some_iff.1 hu).1; simp at this; omega
  subst hj
  injection hu with hu
  subst hu
  rw [show 0 + k * 1 + 0 = k by omega]
  refine (h.cell k).trans ?_
  rw [← Array.getElem?_toList, hc, List.getElem?_map, hr]
  rfl
theorem saves_nil (w : World) : CellsIn 1 (fun y : Int => [Value.int .i64 y]) w none [] := fun k r h => by simp at h
instance (e : EV) (sv : List Int) : Decidable (BdE e sv) := by unfold BdE; infer_instance
def nmE (off : Int) (f : ByteArray) : EV := ⟨off, 2, 0, ⟨#[82]⟩, f, false, 0, 0, 0, 0, 0, 0, 0⟩
set_option maxRecDepth 100000 in
set_option maxHeartbeats 16000000 in
theorem works30_any (w : World) (hv : Vars21 w) : Calls Tryd.prog 19 #[] w fun x w' => x = .returned (.bool true) ∧ Below w.heap.size w w' := by
  go_enter Tryd.func19, Tryd.ntmps19
  go_wp2_with fail
  refine (named_any 18000 ⟨#[37, 122]⟩ _).mono ?_
  rintro x Wn0 ⟨rfl, hc⟩
  have hn0 : Below w.heap.size w Wn0 := (Below.refl w.heap.size w).trans (hc.mono (Below.refl w.heap.size w).size)
  clear hc
  have hk0 := Blk.new Wn0 2 #[.int .i64 0, .int .i64 3600]
  have hm0 := hn0.alloc hn0.size (.cells #[.int .i64 0, .int .i64 3600] 2)
  have HK := Lib.hid hk0; have HM := Lib.hid hm0; clear hk0 hm0
  go_wp2_with fail
  refine (one_any (nmE 18000 ⟨#[37, 122]⟩) (some ⟨Wn0.heap.size, 0, none⟩) 2 [0, 3600] _ (by decide) (saves_in _ _ HK.out rfl)).mono ?_
  rintro x Wo0 ⟨t0, rfl, hS, hq, hc⟩
  have HS := Lib.hid hS; have HQ := Lib.hid hq; have HO := Lib.hid (HM.out.trans (hc.mono HM.out.size)); clear hS hq hc HM HK hn0
  go_wp2_with fail
  refine (turns_ex (nmE 18000 ⟨#[37, 122]⟩) [0, 3600] ⟨#[43, 48, 53, 47, 43, 48, 54]⟩ 0 _ HS.out HQ.out (by decide) (by decide +kernel) (by decide +kernel)).mono ?_
  rintro x Wt0 ⟨rfl, hc⟩
  have ht0 := HO.out.trans (hc.mono HO.out.size)
  clear hc HS HQ HO
  go_wp2_with fail
  refine (named_any 18000 ⟨#[43, 48, 53, 47, 43, 48, 54]⟩ _).mono ?_
  rintro x Wn1 ⟨rfl, hc⟩
  have hn1 : Below w.heap.size w Wn1 := ht0.trans (hc.mono ht0.size)
  clear hc ht0
  have hk1 := Blk.new Wn1 2 #[.int .i64 0, .int .i64 3600]
  have hm1 := hn1.alloc hn1.size (.cells #[.int .i64 0, .int .i64 3600] 2)
  have HK := Lib.hid hk1; have HM := Lib.hid hm1; clear hk1 hm1
  go_wp2_with fail
  refine (one_any (nmE 18000 ⟨#[43, 48, 53, 47, 43, 48, 54]⟩) (some ⟨Wn1.heap.size, 0, none⟩) 2 [0, 3600] _ (by decide) (saves_in _ _ HK.out rfl)).mono ?_
  rintro x Wo1 ⟨t1, rfl, hS, hq, hc⟩
  have HS := Lib.hid hS; have HQ := Lib.hid hq; have HO := Lib.hid (HM.out.trans (hc.mono HM.out.size)); clear hS hq hc HM HK hn1
  go_wp2_with fail
  refine (turns_co (nmE 18000 ⟨#[43, 48, 53, 47, 43, 48, 54]⟩) [0, 3600] ⟨#[37, 122]⟩ 0 _ (hv.below HO.out) HS.out HQ.out (by decide) (by decide +kernel) (by decide +kernel)).mono ?_
  rintro x Wt1 ⟨rfl, hc⟩
  have ht1 := HO.out.trans (hc.mono HO.out.size)
  clear hc HS HQ HO
  go_wp2_with fail
  have HM := Lib.hid ht1; clear ht1
  refine (one_any (⟨19800, 0, 0, ⟨#[]⟩, ⟨#[37, 122]⟩, false, 0, 0, 0, 0, 0, 0, 0⟩ : EV) none 0 [] _ (by decide) (saves_nil _)).mono ?_
  rintro x Wo2 ⟨t2, rfl, hS, hq, hc⟩
  have HS := Lib.hid hS; have HQ := Lib.hid hq; have HO := Lib.hid (HM.out.trans (hc.mono HM.out.size)); clear hS hq hc HM
  go_wp2_with fail
  refine (turns_ex (⟨19800, 0, 0, ⟨#[]⟩, ⟨#[37, 122]⟩, false, 0, 0, 0, 0, 0, 0, 0⟩ : EV) [] ⟨#[43, 48, 53, 51, 48]⟩ 0 _ HS.out HQ.out (by decide) (by decide +kernel) (by decide +kernel)).mono ?_
  rintro x Wt2 ⟨rfl, hc⟩
  have ht2 := HO.out.trans (hc.mono HO.out.size)
  clear hc HS HQ HO
  go_wp2_with fail
  have HM := Lib.hid ht2; clear ht2
  refine (one_any (⟨(-10800), 1, 3600, ⟨#[]⟩, ⟨#[37, 122]⟩, false, 0, 0, 0, 0, 0, 0, 0⟩ : EV) none 0 [] _ (by decide) (saves_nil _)).mono ?_
  rintro x Wo3 ⟨t3, rfl, hS, hq, hc⟩
  have HS := Lib.hid hS; have HQ := Lib.hid hq; have HO := Lib.hid (HM.out.trans (hc.mono HM.out.size)); clear hS hq hc HM
  go_wp2_with fail
  refine (turns_ex (⟨(-10800), 1, 3600, ⟨#[]⟩, ⟨#[37, 122]⟩, false, 0, 0, 0, 0, 0, 0, 0⟩ : EV) [] ⟨#[45, 48, 50]⟩ 0 _ HS.out HQ.out (by decide) (by decide +kernel) (by decide +kernel)).mono ?_
  rintro x Wt3 ⟨rfl, hc⟩
  have ht3 := HO.out.trans (hc.mono HO.out.size)
  clear hc HS HQ HO
  go_wp2_with fail
  refine (named_any 18000 ⟨#[37, 122]⟩ _).mono ?_
  rintro x Wn4 ⟨rfl, hc⟩
  have hn4 : Below w.heap.size w Wn4 := ht3.trans (hc.mono ht3.size)
  clear hc ht3
  have hk4 := Blk.new Wn4 2 #[.int .i64 0]
  have hm4 := hn4.alloc hn4.size (.cells #[.int .i64 0] 2)
  have HK := Lib.hid hk4; have HM := Lib.hid hm4; clear hk4 hm4
  go_wp2_with fail
  refine (one_any (nmE 18000 ⟨#[37, 122]⟩) (some ⟨Wn4.heap.size, 0, none⟩) 1 [0] _ (by decide) (saves_in _ _ HK.out rfl)).mono ?_
  rintro x Wo4 ⟨t4, rfl, hS, hq, hc⟩
  have HS := Lib.hid hS; have HQ := Lib.hid hq; have HO := Lib.hid (HM.out.trans (hc.mono HM.out.size)); clear hS hq hc HM HK hn4
  go_wp2_with fail
  refine (turns_ex (nmE 18000 ⟨#[37, 122]⟩) [0] ⟨#[43, 48, 53]⟩ 0 _ HS.out HQ.out (by decide) (by decide +kernel) (by decide +kernel)).mono ?_
  rintro x Wt4 ⟨rfl, hc⟩
  have ht4 := HO.out.trans (hc.mono HO.out.size)
  clear hc HS HQ HO
  go_wp2_with fail
  refine (named_any 18000 ⟨#[37, 122]⟩ _).mono ?_
  rintro x Wn5 ⟨rfl, hc⟩
  have hn5 : Below w.heap.size w Wn5 := ht4.trans (hc.mono ht4.size)
  clear hc ht4
  have hk5 := Blk.new Wn5 2 #[.int .i64 0, .int .i64 3600, .int .i64 7200]
  have hm5 := hn5.alloc hn5.size (.cells #[.int .i64 0, .int .i64 3600, .int .i64 7200] 2)
  have HK := Lib.hid hk5; have HM := Lib.hid hm5; clear hk5 hm5
  go_wp2_with fail
  refine (one_any (nmE 18000 ⟨#[37, 122]⟩) (some ⟨Wn5.heap.size, 0, none⟩) 3 [0, 3600, 7200] _ (by decide) (saves_in _ _ HK.out rfl)).mono ?_
  rintro x Wo5 ⟨t5, rfl, hS, hq, hc⟩
  have HS := Lib.hid hS; have HQ := Lib.hid hq; have HO := Lib.hid (HM.out.trans (hc.mono HM.out.size)); clear hS hq hc HM HK hn5
  go_wp2_with fail
  refine (turns_ex (nmE 18000 ⟨#[37, 122]⟩) [0, 3600, 7200] ⟨#[]⟩ 14 _ HS.out HQ.out (by decide) (by decide +kernel) (by decide +kernel)).mono ?_
  rintro x Wt5 ⟨rfl, hc⟩
  have ht5 := HO.out.trans (hc.mono HO.out.size)
  clear hc HS HQ HO
  go_wp2_with fail
  refine (named_any 18000 ⟨#[43, 48, 53, 47, 43, 48, 55]⟩ _).mono ?_
  rintro x Wn6 ⟨rfl, hc⟩
  have hn6 : Below w.heap.size w Wn6 := ht5.trans (hc.mono ht5.size)
  clear hc ht5
  have hk6 := Blk.new Wn6 2 #[.int .i64 0, .int .i64 3600]
  have hm6 := hn6.alloc hn6.size (.cells #[.int .i64 0, .int .i64 3600] 2)
  have HK := Lib.hid hk6; have HM := Lib.hid hm6; clear hk6 hm6
  go_wp2_with fail
  refine (one_any (nmE 18000 ⟨#[43, 48, 53, 47, 43, 48, 55]⟩) (some ⟨Wn6.heap.size, 0, none⟩) 2 [0, 3600] _ (by decide) (saves_in _ _ HK.out rfl)).mono ?_
  rintro x Wo6 ⟨t6, rfl, hS, hq, hc⟩
  have HS := Lib.hid hS; have HQ := Lib.hid hq; have HO := Lib.hid (HM.out.trans (hc.mono HM.out.size)); clear hS hq hc HM HK hn6
  go_wp2_with fail
  refine (turns_co (nmE 18000 ⟨#[43, 48, 53, 47, 43, 48, 55]⟩) [0, 3600] ⟨#[]⟩ 15 _ (hv.below HO.out) HS.out HQ.out (by decide) (by decide +kernel) (by decide +kernel)).mono ?_
  rintro x Wt6 ⟨rfl, hc⟩
  have ht6 := HO.out.trans (hc.mono HO.out.size)
  clear hc HS HQ HO
  go_wp2_with fail
  have HM := Lib.hid ht6; clear ht6
  refine (one_any (⟨18000, 0, 0, ⟨#[]⟩, ⟨#[71, 77, 84]⟩, false, 0, 0, 0, 0, 0, 0, 0⟩ : EV) none 0 [] _ (by decide) (saves_nil _)).mono ?_
  rintro x Wo7 ⟨t7, rfl, hS, hq, hc⟩
  have HS := Lib.hid hS; have HQ := Lib.hid hq; have HO := Lib.hid (HM.out.trans (hc.mono HM.out.size)); clear hS hq hc HM
  go_wp2_with fail
  refine (turns_co (⟨18000, 0, 0, ⟨#[]⟩, ⟨#[71, 77, 84]⟩, false, 0, 0, 0, 0, 0, 0, 0⟩ : EV) [] ⟨#[71, 77, 84]⟩ 0 _ (hv.below HO.out) HS.out HQ.out (by decide) (by decide +kernel) (by decide +kernel)).mono ?_
  rintro x Wt7 ⟨rfl, hc⟩
  have ht7 := HO.out.trans (hc.mono HO.out.size)
  clear hc HS HQ HO
  go_wp2_with fail
  have HM := Lib.hid ht7; clear ht7
  refine (one_any (⟨86400, 0, 0, ⟨#[]⟩, ⟨#[37, 122]⟩, false, 0, 0, 0, 0, 0, 0, 0⟩ : EV) none 0 [] _ (by decide) (saves_nil _)).mono ?_
  rintro x Wo8 ⟨t8, rfl, hS, hq, hc⟩
  have HS := Lib.hid hS; have HQ := Lib.hid hq; have HO := Lib.hid (HM.out.trans (hc.mono HM.out.size)); clear hS hq hc HM
  go_wp2_with fail
  refine (turns_ex (⟨86400, 0, 0, ⟨#[]⟩, ⟨#[37, 122]⟩, false, 0, 0, 0, 0, 0, 0, 0⟩ : EV) [] ⟨#[]⟩ 3 _ HS.out HQ.out (by decide) (by decide +kernel) (by decide +kernel)).mono ?_
  rintro x Wt8 ⟨rfl, hc⟩
  have ht8 := HO.out.trans (hc.mono HO.out.size)
  clear hc HS HQ HO
  go_wp2_with fail
  go_ret
  exact ⟨rfl, ht8⟩
end Go.Proofs.YtlideagcmhlkeaaDoor

/- The walks of has and plain (chapter 30). -/
namespace Go.Proofs.YtlideagcmhlkeaaDoor
open Go.RowKit Go.Lib
set_option linter.unusedVariables false
set_option linter.unusedSimpArgs false

/-- where the walk of plain stands: the box holds the copy, whose zones are Y -/
structure Rp (w W : World) (s c : SV) (F : EV → ByteArray × Int) (base : Nat) (Y : List ZV) (i k : Nat) : Prop where
  res : Blk W (w.heap.size + 1) 32 #[.slice none 0 0, .slice none 0 0, .slice none 0 0, .slice none 0 0]
  box : Blk W w.heap.size 32 #[.slice c.rA c.rules.length c.rc, .slice c.zA c.zones.length c.zc, .slice c.kA c.links.length c.kc, .slice c.hA c.shifts.length c.hc]
  cp : CopyOf W base { c with zones := Y } { c with zones := Y }
  par : part30 (fmtE F) s.zones Y i k
  bel : Below w.heap.size w W
  le : w.heap.size + 2 ≤ base
theorem Rp.at_ {w W : World} {s c : SV} {F : EV → ByteArray × Int} {base : Nat} {Y : List ZV} {i k : Nat} {z : ZV} (h : Rp w W s c F base Y i k) (hz : s.zones[i]? = some z) :
    ∃ (y : ZV) (zg : Nat), Y[i]? = some y ∧ c.zA = some ⟨zg, 0, none⟩ ∧ W.cell? ⟨zg, i * 2 + 1, none⟩ = some (.slice y.A z.eras.length y.c) ∧ y.eras.length = z.eras.length := by
  have hyl := (List.getElem?_eq_some_iff.1 hz).1
  obtain ⟨y, hy⟩ : ∃ y, Y[i]? = some y := ⟨_, List.getElem?_eq_getElem (by rw [h.par.1]; exact hyl)⟩
  obtain ⟨zg, hzA, _, _⟩ := h.cp.zones.1.addr (by show 0 < Y.length; rw [h.par.1]; omega)
  have hzr : RowOf W base 39 2 ZV.cells c.zA c.zc Y := h.cp.zones.1
  rw [show c.zA = some ⟨zg, 0, none⟩ from hzA] at hzr
  have q1 := hzr.cellAt len_zone hy 1 _ rfl
  have hq := (h.par.2 i z y hz hy).2.1
  rw [hq] at q1
  exact ⟨y, zg, hy, hzA, q1, hq⟩
theorem Rp.set_ {w W : World} {s c : SV} {F : EV → ByteArray × Int} {base : Nat} {Y : List ZV} {i k : Nat} {z y : ZV} {e : EV} {yg : Nat} (h : Rp w W s c F base Y i k) (hz : s.zones[i]? = some z) (he : z.eras[k]? = some e) (hy : Y[i]? = some y) (hA : y.A = some ⟨yg, 0, none⟩) :
    Rp w (W.setCell ⟨yg, k * 13 + 4, none⟩ (.string (F e).1)) s c F base (Y.set i { y with eras := y.eras.set k (fmtE F e) }) i (k + 1) := by
  have her := h.cp.zones.2.eras i y hy
  rw [hA] at her
  have hO : (Value.slice (some ⟨yg, 0, none⟩) y.eras.length y.c).ownBlock = some yg := rfl
  obtain ⟨y', hy', hye⟩ := h.par.at_ hz he
  rw [hy] at hy'
  injection hy' with hy'
  subst hy'
  have hge := (World.ownsRow.lt her yg rfl).1
  have hl := h.le
  refine ⟨blk_set_other h.res her hO (by decide) _, blk_set_other h.box her hO (by decide) _, ?_, h.par.step hz hy he, h.bel.setCell (by show w.heap.size ≤ yg; omega) _, h.le⟩
  exact h.cp.setCell (t := { c with zones := Y }) hy hA hye (.string (F e).1) (by decide) rfl
end Go.Proofs.YtlideagcmhlkeaaDoor

/- Plain mathematics for FormatKinds (chapter 21): what strings of some words are; no program in sight. -/
namespace Go.Proofs.YtlideagcmhlkeaaDoor.P21
set_option linter.unusedVariables false

/-- a word: three to six letters -/
def Wd (l : List UInt8) : Prop := 3 ≤ l.length ∧ l.length ≤ 6 ∧ ∀ c ∈ l, isL c = true
theorem Wd.abbr {l : List UInt8} (h : Wd l) : abbr l = true := abbr_of h.1 h.2.1 h.2.2
theorem Wd.ne {l : List UInt8} (h : Wd l) {d : UInt8} (hd : isL d = false) : ∀ c ∈ l, c ≠ d := fun c hc => isL_ne (h.2.2 c hc) hd
theorem Wd.num {l : List UInt8} (h : Wd l) : num l = false := abbr_num h.abbr
end Go.Proofs.YtlideagcmhlkeaaDoor.P21

/- The rules that a draft of chapter 17 makes, as a function of its bytes; no program in sight. -/
namespace Go.Proofs.YtlideagcmhlkeaaDoor
set_option linter.unusedVariables false

namespace P17
/-- a number of the draft, below m -/
def at_ (D : List Int) (i m : Nat) : Nat := if D.length = 0 then 0 else ((D[i % D.length]?).getD 0).toNat % m
theorem at_lt (D : List Int) (i : Nat) {m : Nat} (h : 0 < m) : at_ D i m < m := by
  unfold at_
  split
  · exact h
  · exact Nat.mod_lt _ h
def day (D : List Int) (i : Nat) : Int × Int × Int :=
  if at_ D (i + 2) 3 = 0 then (2, (at_ D i 7 : Int), 0) else if at_ D (i + 2) 3 = 1 then (3, (at_ D i 7 : Int), 1 + 7 * (at_ D (i + 1) 4 : Int)) else (1, 0, 1 + (at_ D (i + 1) 28 : Int))
def sLet (n : Nat) : ByteArray := if n = 0 then ⟨#[83]⟩ else if n = 1 then ⟨#[68]⟩ else ⟨#[68, 84]⟩
def bLet (n : Nat) : ByteArray := if n = 0 then ⟨#[]⟩ else ⟨#[83]⟩
def pairA (D : List Int) (i : Nat) (from_ to_ sv : Int) : RV :=
  ⟨⟨#[]⟩, from_, to_, 2 + (at_ D i 3 : Int), (day D (i + 3)).1, (day D (i + 3)).2.1, (day D (i + 3)).2.2, (at_ D (i + 6) 49 : Int) * 1800, (at_ D (i + 7) 3 : Int), if at_ D (i + 2) 4 = 0 then 0 else sv, sLet (at_ D (i + 8) 3)⟩
def pairB (D : List Int) (i : Nat) (from_ to_ sv : Int) : RV :=
  ⟨⟨#[]⟩, from_, to_, 8 + (at_ D (i + 1) 3 : Int), (day D (i + 9)).1, (day D (i + 9)).2.1, (day D (i + 9)).2.2, (at_ D (i + 12) 49 : Int) * 1800, (at_ D (i + 13) 3 : Int), if at_ D (i + 2) 4 = 0 then sv else 0, bLet (at_ D (i + 14) 2)⟩
def pair (D : List Int) (i : Nat) (from_ to_ sv : Int) : List RV := [pairA D i from_ to_ sv, pairB D i from_ to_ sv]
def svOf (n : Nat) : Int := if n = 0 then 3600 else if n = 1 then 3600 else if n = 2 then 1800 else if n = 3 then 7200 else -3600
def sv (D : List Int) : Int := svOf (at_ D 0 5)
def from0 (D : List Int) : Int := 1900 + (at_ D 1 80 : Int)
def oneR (D : List Int) : RV := ⟨⟨#[]⟩, from0 D, from0 D, 6, 1, 0, 1 + (at_ D 3 28 : Int), (at_ D 4 49 : Int) * 1800, (at_ D 5 3 : Int), 0, ⟨#[83]⟩⟩
def part1 (D : List Int) : List RV := if at_ D 2 3 = 0 then [oneR D] else []
def from1 (D : List Int) : Int := if at_ D 2 3 = 0 then from0 D + 1 else from0 D
def to1 (D : List Int) : Int := from1 D + (at_ D 6 12 : Int)
def part2 (D : List Int) : List RV := if at_ D 5 2 = 0 then pair D 7 (from1 D) (to1 D) (sv D) else []
def from2 (D : List Int) : Int := if at_ D 5 2 = 0 then to1 D + 1 + (at_ D 8 5 : Int) else from1 D
def to2 (D : List Int) : Int := if at_ D 10 3 = 0 then from2 D + (at_ D 9 6 : Int) else 1048576
def raw (D : List Int) : List RV := part1 D ++ part2 D ++ pair D 11 (from2 D) (to2 D) (sv D)
def named (nm : ByteArray) (r : RV) : RV := { r with name := nm }
/-- the rules of a set with a name -/
def made (D : List Int) (nm : ByteArray) : List RV := (raw D).map (named nm)
theorem sv_cases (D : List Int) : sv D = 3600 ∨ sv D = 1800 ∨ sv D = 7200 ∨ sv D = -3600 := by
  unfold sv svOf
  split
  · exact .inl rfl
  · split
    · exact .inl rfl
    · split
      · exact .inr (.inl rfl)
      · split
        · exact .inr (.inr (.inl rfl))
        · exact .inr (.inr (.inr rfl))
theorem sv_ne (D : List Int) : sv D ≠ 0 := by have := sv_cases D; omega
def isLet (b : ByteArray) : Prop := b = ⟨#[]⟩ ∨ b = ⟨#[83]⟩ ∨ b = ⟨#[68]⟩ ∨ b = ⟨#[68, 84]⟩
theorem sLet_is (n : Nat) : isLet (sLet n) := by
  unfold sLet isLet
  split
  · exact .inr (.inl rfl)
  · split
    · exact .inr (.inr (.inl rfl))
    · exact .inr (.inr (.inr rfl))
theorem bLet_is (n : Nat) : isLet (bLet n) := by
  unfold bLet isLet
  split
  · exact .inl rfl
  · exact .inr (.inl rfl)
/-- what the laws want of a set -/
structure Good (D : List Int) (nm : ByteArray) (L : List RV) : Prop where
  two : 2 ≤ L.length
  five : L.length ≤ 5
  names : ∀ r ∈ L, r.name = nm
  saves : ∀ r ∈ L, r.save = 0 ∨ r.save = sv D
  has : ∃ r ∈ L, r.save = sv D
  letters : ∀ r ∈ L, isLet r.letter
theorem pair_good (D : List Int) (i : Nat) (f t s : Int) : (∀ r ∈ pair D i f t s, (r.save = 0 ∨ r.save = s) ∧ isLet r.letter) ∧ ∃ r ∈ pair D i f t s, r.save = s := by
  refine ⟨fun r hr => ?_, ?_⟩
  · unfold pair at hr
    simp only [List.mem_cons, List.not_mem_nil, or_false] at hr
    rcases hr with rfl | rfl
    · refine ⟨?_, sLet_is _⟩
      show (if _ then (0 : Int) else s) = 0 ∨ (if _ then (0 : Int) else s) = s
      split
      · exact .inl rfl
      · exact .inr rfl
    · refine ⟨?_, bLet_is _⟩
      show (if _ then s else (0 : Int)) = 0 ∨ (if _ then s else (0 : Int)) = s
      split
      · exact .inr rfl
      · exact .inl rfl
  · by_cases h : at_ D (i + 2) 4 = 0
    · exact ⟨pairB D i f t s, by simp [pair], by unfold pairB; simp only; rw [if_pos h]⟩
    · exact ⟨pairA D i f t s, by simp [pair], by unfold pairA; simp only; rw [if_neg h]⟩
theorem raw_good (D : List Int) : 2 ≤ (raw D).length ∧ (raw D).length ≤ 5 ∧ (∀ r ∈ raw D, (r.save = 0 ∨ r.save = sv D) ∧ isLet r.letter) ∧ ∃ r ∈ raw D, r.save = sv D := by
  have p1 := pair_good D 11 (from2 D) (to2 D) (sv D)
  have p2 := pair_good D 7 (from1 D) (to1 D) (sv D)
  have l1 : (part1 D).length ≤ 1 := by unfold part1; split <;> simp
  have l2 : (part2 D).length ≤ 2 := by unfold part2 pair; split <;> simp
  have e : (raw D).length = (part1 D).length + (part2 D).length + 2 := by unfold raw; rw [List.length_append, List.length_append]; rfl
  refine ⟨by omega, by omega, fun r hr => ?_, ?_⟩
  · unfold raw at hr
    rw [List.mem_append, List.mem_append] at hr
    rcases hr with (hr | hr) | hr
    · unfold part1 at hr
      split at hr
      · rw [List.mem_singleton] at hr; subst hr; exact ⟨.inl rfl, .inr (.inl rfl)⟩
      · cases hr
    · unfold part2 at hr
      split at hr
      · exact p2.1 r hr
      · cases hr
    · exact p1.1 r hr
  · obtain ⟨r, hr, h⟩ := p1.2
    exact ⟨r, by unfold raw; exact List.mem_append_right _ hr, h⟩
theorem made_good (D : List Int) (nm : ByteArray) : Good D nm (made D nm) := by
  obtain ⟨h1, h2, h3, r, hr, h4⟩ := raw_good D
  have key : ∀ r ∈ made D nm, ∃ q ∈ raw D, r = named nm q := fun r hr => by
    unfold made at hr
    obtain ⟨q, hq, h⟩ := List.mem_map.1 hr
    exact ⟨q, hq, h.symm⟩
  refine ⟨by unfold made; rw [List.length_map]; exact h1, by unfold made; rw [List.length_map]; exact h2, fun r hr => ?_, fun r hr => ?_, ⟨named nm r, List.mem_map.2 ⟨r, hr, rfl⟩, h4⟩, fun r hr => ?_⟩
  · obtain ⟨q, hq, rfl⟩ := key r hr; rfl
  · obtain ⟨q, hq, rfl⟩ := key r hr; exact (h3 q hq).1
  · obtain ⟨q, hq, rfl⟩ := key r hr; exact (h3 q hq).2
end P17
end Go.Proofs.YtlideagcmhlkeaaDoor

/- The walks of the reference's Kind, of both Parts, of right and Add (chapter 21). -/
namespace Go.Proofs.YtlideagcmhlkeaaDoor
open Go.RowKit Go.Lib
set_option linter.unusedVariables false

end Go.Proofs.YtlideagcmhlkeaaDoor
