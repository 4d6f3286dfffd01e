/- Texts of one proof, one behind the other: Nam21c; Fmt21d; Exp30; Expand30; Work30; Num20i; Ref30; Fmt21e. -/
import Derived.Test.YtlideagcmhlkeaaGreatDoorQ4
import Derived.BigQuiet
import Derived.IntWalk

/- The walk of name.Abbr: the closure over the table. -/
namespace Go.Proofs.YtlideagcmhlkeaaGreatDoor
open Go.RowKit Go.Lib
set_option linter.unusedVariables false

/-- what the closure has captured -/
structure OfBox (w : World) (b0 b1 bk b2 : Nat) : Prop where
  least : w.cell? ⟨b0, 0, none⟩ = some (.int .i64 3)
  most : w.cell? ⟨b1, 0, none⟩ = some (.int .i64 6)
  kinds : Blk w bk 86 kAll
  some_ : w.cell? ⟨b2, 0, none⟩ = some (.int .u8 1)
theorem kAll_and (c : UInt8) {w : World} {b : Nat} (h : Blk w b 86 kAll) : ∃ n : Int, w.cell? ⟨b, c.toNat, none⟩ = some (.int .u8 n) ∧ ((P21.isL c = true ∧ n = 1) ∨ (P21.isL c = false ∧ (n = 0 ∨ n = 2 ∨ n = 4 ∨ n = 8 ∨ n = 16))) :=
  ⟨kTab c.toNat, (h.cell _).trans (kAll_at _ (UInt8.toNat_lt c)), kTab_cases c.toNat⟩
set_option maxRecDepth 100000 in
set_option maxHeartbeats 8000000 in
theorem of1_any (s : ByteArray) (b0 b1 bk b2 : Nat) (w : World) (hs : s.size ≤ 1000000) (hO : OfBox w b0 b1 bk b2) :
    Calls Tryz.prog 59 #[.string s, .pointer (some ⟨b0, 0, none⟩), .pointer (some ⟨b1, 0, none⟩), .pointer (some ⟨bk, 0, none⟩), .pointer (some ⟨b2, 0, none⟩)] w fun e w' => e = .returned (.bool (P21.abbr (P4.bl s))) ∧ Q w w' := by
  obtain ⟨R, hR⟩ : ∃ R, P21.abbr (P4.bl s) = R := ⟨_, rfl⟩
  rw [hR]
  have HR := Lib.hid hR
  clear hR
  obtain ⟨c0, c1, hK, c2⟩ := hO
  have hsi : (s.size : Int) ≤ 1000000 := by omega
  have hln := P4.bl_len s
  by_cases h3 : s.size < 3
  · have h3i : (s.size : Int) < 3 := by omega
    have HN : Hid (R = false) := by
      have r := HR.out
      unfold P21.abbr at r
      rw [decide_eq_false (by omega)] at r
      exact Lib.hid r.symm
    go_enter Tryz.func59, Tryz.ntmps59
    go_wp2_with fail
    go_ret
    exact ⟨by rw [HN.out]; rfl, Q.refl _⟩
  · by_cases h6 : 6 < s.size
    · have h3i : ¬ (s.size : Int) < 3 := by omega
      have h6i : (6 : Int) < (s.size : Int) := by omega
      have HN : Hid (R = false) := by
        have r := HR.out
        unfold P21.abbr at r
        rw [decide_eq_false (p := (P4.bl s).length ≤ 6) (by omega), Bool.and_false] at r
        exact Lib.hid r.symm
      go_enter Tryz.func59, Tryz.ntmps59
      go_wp2_with fail
      go_ret
      exact ⟨by rw [HN.out]; rfl, Q.refl _⟩
    · have h3i : ¬ (s.size : Int) < 3 := by omega
      have h6i : ¬ (6 : Int) < (s.size : Int) := by omega
      have HN : Hid (R = (P4.bl s).all P21.isL) := by
        have r := HR.out
        unfold P21.abbr at r
        rw [decide_eq_true (p := (P4.bl s).length ≤ 6) (by omega), decide_eq_true (p := 3 ≤ (P4.bl s).length) (by omega)] at r
        exact Lib.hid r.symm
      clear HR
      go_enter Tryz.func59, Tryz.ntmps59
      go_wp2_with fail
      go_loopw [20] (fun i wr => ∃ k : Nat, k ≤ s.size ∧ i = .int .i64 (k : Int) ∧ Hid (((P4.bl s).take k).all P21.isL = true) ∧ ∃ n, wr = w.drewN n) (fun i _ => s.size - (intOf i).toNat)
      case atStart => exact ⟨0, Nat.zero_le _, rfl, Lib.hid rfl, 0, rfl⟩
      case round =>
        obtain ⟨k, hk, rfl, HA, n, rfl⟩ := hrel
        by_cases hlt : k < s.size
        · have hki : (k : Int) < (s.size : Int) := by omega
          have hb := P4.bl_get s k hlt
          obtain ⟨c, hc⟩ : ∃ c, s[k]'hlt = c := ⟨_, rfl⟩
          rw [hc] at hb
          have HB := Lib.hid hb
          clear hb
          obtain ⟨v, cv, hvv⟩ := kAll_and c hK
          have hcb := UInt8.toNat_lt c
          have hcb2 : (c.toNat : Int) < 256 := by omega
          clear hcb
          rcases hvv with ⟨hL, rfl⟩ | ⟨hL, hvv⟩
          · have HS := Lib.hid (all_take_succ HB.out HA.out hL)
            clear hL hK
            go_wp2_with fail
            go_quiet (fail)
            go_wp2_with fail
            go_roundw
            case rel => exact ⟨k + 1, by omega, by go_num, HS, _, rfl⟩
            case measure => simp [intOf]; omega
          · have HF : Hid (R = false) := by
              have q := all_no HB.out hL
              have r := HN.out
              rw [q] at r
              exact Lib.hid r
            clear hL hK
            rcases hvv with rfl | rfl | rfl | rfl | rfl
            all_goals
              go_wp2_with fail
              go_quiet (fail)
              go_wp2_with fail
              go_ret
              exact ⟨by rw [HF.out]; rfl, by first | exact ⟨_, rfl⟩ | exact ⟨n + nq, by rw [World.drewN_drewN]⟩⟩
        · obtain rfl : k = s.size := by omega
          have HF : Hid (R = true) := by
            have q := HA.out
            rw [List.take_of_length_le (by rw [P4.bl_len]; exact Nat.le_refl _)] at q
            have r := HN.out
            rw [q] at r
            exact Lib.hid r
          clear hK
          go_wp2_with fail
          go_ret
          exact ⟨by rw [HF.out]; rfl, ⟨n, rfl⟩⟩
/-- the box that 'of' hands back -/
def ofFn (b0 b1 bk b2 : Nat) : Value := .func (.func 59) #[] #[.pointer (some ⟨b0, 0, none⟩), .pointer (some ⟨b1, 0, none⟩), .pointer (some ⟨bk, 0, none⟩), .pointer (some ⟨b2, 0, none⟩)]
set_option maxRecDepth 1000000 in
set_option maxHeartbeats 4000000 in
theorem of_any (w : World) :
    Calls Tryz.prog 48 #[.int .i64 3, .int .i64 6, .int .u8 1] w fun e w' => ∃ b0 b1 bk b2, e = .returned (ofFn b0 b1 bk b2) ∧ OfBox w' b0 b1 bk b2 ∧ Below w.heap.size w w' := by
  have hmf : ∀ (fn : Fn) (first cap : Array Value) (w : World), (Instr.makeFunc fn first cap).run Tryz.prog w = .ok (.func fn first cap) w := fun _ _ _ _ => rfl
  obtain ⟨hz, hi⟩ := zero_of_info zeroK
  have hb0 := Blk.new w 3 #[.int .i64 3]
  have hw0 := (Below.refl w.heap.size w).alloc (Nat.le_refl _) (.cells #[.int .i64 3] 3)
  have hb1 := Blk.newAt (w.alloc (.cells #[.int .i64 3] 3)) (w.heap.size + 1) (by simp) 3 #[.int .i64 6]
  have hw1 := hw0.alloc (by simp) (.cells #[.int .i64 6] 3)
  have hb2 := Blk.newAt ((w.alloc (.cells #[.int .i64 3] 3)).alloc (.cells #[.int .i64 6] 3)) (w.heap.size + 1 + 1) (by simp) 5 #[.int .u8 1]
  have hw2 := hw1.alloc (by simp; omega) (.cells #[.int .u8 1] 5)
  have hb0' := (hb0.alloc (.cells #[.int .i64 6] 3)).alloc (.cells #[.int .u8 1] 5)
  have hb1' := hb1.alloc (.cells #[.int .u8 1] 5)
  clear hb0 hb1 hw0 hw1
  go_enter Tryz.func48, Tryz.ntmps48
  go_wp2_with fail
  generalize ((w.alloc (.cells #[.int .i64 3] 3)).alloc (.cells #[.int .i64 6] 3)).alloc (.cells #[.int .u8 1] 5) = W2 at hb2 hw2 hb0' hb1' ⊢
  refine (kinds_any _).mono ?_
  rintro e w1 ⟨rfl, hc⟩
  have H0 := (hb0'.below hc hb0'.lt).alloc (.cells (kA 0) 86)
  have H1 := (hb1'.below hc hb1'.lt).alloc (.cells (kA 0) 86)
  have H2 := (hb2.below hc hb2.lt).alloc (.cells (kA 0) 86)
  have HW := (hw2.trans (hc.mono hw2.size)).alloc (Nat.le_trans hw2.size hc.size) (.cells (kA 0) 86)
  have HK := Blk.new w1 86 (kA 0)
  have hlt : w.heap.size ≤ w1.heap.size := Nat.le_trans hw2.size hc.size
  have hlt2 : w.heap.size + 1 + 1 < w1.heap.size := Nat.lt_of_lt_of_le hb2.lt hc.size
  clear hb2 hw2 hb0' hb1' hc
  have hks := kAll_size
  obtain ⟨W3, hW3⟩ : ∃ W3, w1.alloc (.cells (kA 0) 86) = W3 := ⟨_, rfl⟩
  rw [hW3] at H0 H1 H2 HW HK
  have hsc : (storeCells ⟨w1.heap.size, 0, none⟩ kAll.toList 0).run Tryz.prog W3 = .ok () (W3.setRow w1.heap.size kAll) := store_blk HK (by rw [kA_size, kAll_size]) kAll_one
  go_wp2_with fail
  go_ret
  refine ⟨w.heap.size, w.heap.size + 1, w1.heap.size, w.heap.size + 1 + 1, rfl, ⟨?_, ?_, blk_setRow HK, ?_⟩, below_setRow HW hlt _⟩
  · rw [cell_setRow_other _ _ _ _ (by simp; omega)]; exact (H0.cell 0).trans rfl
  · rw [cell_setRow_other _ _ _ _ (by simp; omega)]; exact (H1.cell 0).trans rfl
  · rw [cell_setRow_other _ _ _ _ (by simp; omega)]; exact (H2.cell 0).trans rfl
set_option maxRecDepth 1000000 in
set_option maxHeartbeats 4000000 in
theorem abbr_any (s : ByteArray) (w : World) (hs : s.size ≤ 1000000) :
    Calls Tryz.prog 34 #[.string s] w fun e w' => e = .returned (.bool (P21.abbr (P4.bl s))) ∧ Below w.heap.size w w' := by
  have c2 := fun b0 b1 bk b2 W h => of1_any s b0 b1 bk b2 W hs h
  generalize P21.abbr (P4.bl s) = R at c2 ⊢
  have C2 := Lib.hid c2
  clear c2
  go_enter Tryz.func34, Tryz.ntmps34
  go_wp2_with fail
  refine (of_any _).mono ?_
  rintro e w1 ⟨b0, b1, bk, b2, rfl, hO, hb⟩
  unfold ofFn
  go_wp2_with fail
  refine (C2.out _ _ _ _ _ hO).mono ?_
  rintro e w2 ⟨rfl, n, rfl⟩
  go_wp2_with fail
  go_ret
  exact ⟨rfl, below_drewN hb n⟩
end Go.Proofs.YtlideagcmhlkeaaGreatDoor

/- The walks of the kinds, the parts and the abbreviations of FORMATs (chapter 21). -/
namespace Go.Proofs.YtlideagcmhlkeaaGreatDoor
open Go.RowKit Go.Lib
set_option linter.unusedVariables false

theorem str_toList (l : List UInt8) : (str l).toList = l := by rw [ByteArray.toList_eq]; rfl
theorem ne_size {s : ByteArray} {l : List UInt8} (h : P4.bl s ≠ l) : ¬ s = str l := fun q => h (by rw [q]; exact str_data l)
theorem lss_cut (s : ByteArray) : (str (P21.slash (P4.bl s)).1).size + (str (P21.slash (P4.bl s)).2.1).size ≤ s.size := by
  have := cut_len (P4.bl s) [47]
  rw [P4.bl_len] at this
  rw [str_size, str_size]; exact this
/-- one name for the tests of a kind -/
theorem kind_tests (l : List UInt8) : P21.kind l = if P21.abbr l = true then 1 else if ((P21.slash l).2.2 && P21.abbr (P21.slash l).1 && P21.abbr (P21.slash l).2.1) = true then 2 else if P21.letter l = true then 3 else if l = [37, 122] then 4 else if (P21.num l || ((P21.slash l).2.2 && P21.num (P21.slash l).1 && P21.num (P21.slash l).2.1)) = true then 5 else 0 := rfl
set_option maxRecDepth 100000 in
set_option maxHeartbeats 8000000 in
theorem kind_any (s : ByteArray) (w : World) (hs : s.size ≤ 1000000) (hv : Vars21 w) :
    Calls Tryz.prog 21 #[.string s] w fun e w' => e = .returned (.int .i64 (P21.kind (P4.bl s))) ∧ Below w.heap.size w w' := by
  have cC : Hid (∀ W, Vars21 W → Calls Tryz.prog 32 #[.string s, .string (str [47])] W fun e w' => e = .returned (.tuple #[.string (str (P21.slash (P4.bl s)).1), .string (str (P21.slash (P4.bl s)).2.1), .bool (P21.slash (P4.bl s)).2.2]) ∧ Q W w') := fun W h => cut21 s [47] W hs h
  have cL : Hid (∀ W, Vars21 W → Calls Tryz.prog 33 #[.string s] W fun e w' => e = .returned (.tuple #[.string (str (P21.pct (P4.bl s)).1), .string (str (P21.pct (P4.bl s)).2.1), .bool (P21.letter (P4.bl s))]) ∧ Below W.heap.size W w') := fun W h => around_any s W hs h
  have cA : Hid (∀ W, Calls Tryz.prog 34 #[.string s] W fun e w' => e = .returned (.bool (P21.abbr (P4.bl s))) ∧ Below W.heap.size W w') := fun W => abbr_any s W hs
  have cI : Hid (∀ W, Vars21 W → Calls Tryz.prog 35 #[.string s] W fun e w' => e = .returned (.bool (P21.num (P4.bl s))) ∧ Below W.heap.size W w') := fun W h => is_any s W hs h.num
  have hsl := lss_cut s
  have cA1 : Hid (∀ W, Calls Tryz.prog 34 #[.string (str (P21.slash (P4.bl s)).1)] W fun e w' => e = .returned (.bool (P21.abbr (P21.slash (P4.bl s)).1)) ∧ Below W.heap.size W w') := fun W => abbr_any (str (P21.slash (P4.bl s)).1) W (by omega)
  have cA2 : Hid (∀ W, Calls Tryz.prog 34 #[.string (str (P21.slash (P4.bl s)).2.1)] W fun e w' => e = .returned (.bool (P21.abbr (P21.slash (P4.bl s)).2.1)) ∧ Below W.heap.size W w') := fun W => abbr_any (str (P21.slash (P4.bl s)).2.1) W (by omega)
  have cI1 : Hid (∀ W, Vars21 W → Calls Tryz.prog 35 #[.string (str (P21.slash (P4.bl s)).1)] W fun e w' => e = .returned (.bool (P21.num (P21.slash (P4.bl s)).1)) ∧ Below W.heap.size W w') := fun W h => is_any (str (P21.slash (P4.bl s)).1) W (by omega) h.num
  have cI2 : Hid (∀ W, Vars21 W → Calls Tryz.prog 35 #[.string (str (P21.slash (P4.bl s)).2.1)] W fun e w' => e = .returned (.bool (P21.num (P21.slash (P4.bl s)).2.1)) ∧ Below W.heap.size W w') := fun W h => is_any (str (P21.slash (P4.bl s)).2.1) W (by omega) h.num
  obtain ⟨R, hR⟩ : ∃ R, P21.kind (P4.bl s) = R := ⟨_, rfl⟩
  rw [hR]
  rw [kind_tests] at hR
  have hz : (P4.bl s = [37, 122] ∧ (s.toList == [37, 122]) = true) ∨ (¬ P4.bl s = [37, 122] ∧ (s.toList == [37, 122]) = false) := by
    by_cases q : P4.bl s = [37, 122]
    · refine .inl ⟨q, ?_⟩
      have : s = str [37, 122] := by rw [← q]; exact (str_bl s).symm
      rw [this, str_toList]; rfl
    · exact .inr ⟨q, by have x := eq_b s (str [37, 122]) (ne_size q); rwa [str_toList] at x⟩
  generalize P21.abbr (P4.bl s) = A at hR cA
  generalize P21.letter (P4.bl s) = L at hR cL
  generalize P21.num (P4.bl s) = I at hR cI
  generalize P21.abbr (P21.slash (P4.bl s)).1 = A1 at hR cA1
  generalize P21.abbr (P21.slash (P4.bl s)).2.1 = A2 at hR cA2
  generalize P21.num (P21.slash (P4.bl s)).1 = I1 at hR cI1
  generalize P21.num (P21.slash (P4.bl s)).2.1 = I2 at hR cI2
  generalize (P21.slash (P4.bl s)).2.2 = T at hR cC
  generalize str (P21.slash (P4.bl s)).1 = SA at cC cA1 cI1
  generalize str (P21.slash (P4.bl s)).2.1 = SB at cC cA2 cI2
  generalize str (P21.pct (P4.bl s)).1 = PA at cL
  generalize str (P21.pct (P4.bl s)).2.1 = PB at cL
  have HR := Lib.hid hR
  clear hR hsl hs
  cases A with
  | true =>
    go_enter Tryz.func21, Tryz.ntmps21
    go_wp2_with fail
    refine (cC.out _ hv).mono ?_
    rintro e w1 ⟨rfl, hc10⟩
    have hc1 := hc10.below w.heap.size
    have hb1 := hc1
    have hv2 := hv.below hb1
    go_wp2_with fail
    refine (cL.out _ hv2).mono ?_
    rintro e w2 ⟨rfl, hc2⟩
    have hb2 := hb1.trans (hc2.mono hb1.size)
    go_wp2_with fail
    refine (cA.out _).mono ?_
    rintro e w3 ⟨rfl, hc3⟩
    have hb3 := hb2.trans (hc3.mono hb2.size)
    go_wp2_with fail
    go_ret
    exact ⟨by rw [show R = 1 from HR.out.symm.trans (by simp)]; rfl, hb3⟩
  | false =>
    cases T with
    | true =>
      cases A1 with
      | true =>
        cases A2 with
        | true =>
          go_enter Tryz.func21, Tryz.ntmps21
          go_wp2_with fail
          refine (cC.out _ hv).mono ?_
          rintro e w1 ⟨rfl, hc10⟩
          have hc1 := hc10.below w.heap.size
          have hb1 := hc1
          have hv2 := hv.below hb1
          go_wp2_with fail
          refine (cL.out _ hv2).mono ?_
          rintro e w2 ⟨rfl, hc2⟩
          have hb2 := hb1.trans (hc2.mono hb1.size)
          go_wp2_with fail
          refine (cA.out _).mono ?_
          rintro e w3 ⟨rfl, hc3⟩
          have hb3 := hb2.trans (hc3.mono hb2.size)
          go_wp2_with fail
          refine (cA1.out _).mono ?_
          rintro e w4 ⟨rfl, hc4⟩
          have hb4 := hb3.trans (hc4.mono hb3.size)
          go_wp2_with fail
          refine (cA2.out _).mono ?_
          rintro e w5 ⟨rfl, hc5⟩
          have hb5 := hb4.trans (hc5.mono hb4.size)
          go_wp2_with fail
          go_ret
          exact ⟨by rw [show R = 2 from HR.out.symm.trans (by simp)]; rfl, hb5⟩
        | false =>
          cases L with
          | true =>
            go_enter Tryz.func21, Tryz.ntmps21
            go_wp2_with fail
            refine (cC.out _ hv).mono ?_
            rintro e w1 ⟨rfl, hc10⟩
            have hc1 := hc10.below w.heap.size
            have hb1 := hc1
            have hv2 := hv.below hb1
            go_wp2_with fail
            refine (cL.out _ hv2).mono ?_
            rintro e w2 ⟨rfl, hc2⟩
            have hb2 := hb1.trans (hc2.mono hb1.size)
            go_wp2_with fail
            refine (cA.out _).mono ?_
            rintro e w3 ⟨rfl, hc3⟩
            have hb3 := hb2.trans (hc3.mono hb2.size)
            go_wp2_with fail
            refine (cA1.out _).mono ?_
            rintro e w4 ⟨rfl, hc4⟩
            have hb4 := hb3.trans (hc4.mono hb3.size)
            go_wp2_with fail
            refine (cA2.out _).mono ?_
            rintro e w5 ⟨rfl, hc5⟩
            have hb5 := hb4.trans (hc5.mono hb4.size)
            go_wp2_with fail
            go_ret
            exact ⟨by rw [show R = 3 from HR.out.symm.trans (by simp)]; rfl, hb5⟩
          | false =>
            rcases hz with ⟨hz1, hz2⟩ | ⟨hz1, hz2⟩
            · skip
              go_enter Tryz.func21, Tryz.ntmps21
              go_wp2_with fail
              refine (cC.out _ hv).mono ?_
              rintro e w1 ⟨rfl, hc10⟩
              have hc1 := hc10.below w.heap.size
              have hb1 := hc1
              have hv2 := hv.below hb1
              go_wp2_with fail
              refine (cL.out _ hv2).mono ?_
              rintro e w2 ⟨rfl, hc2⟩
              have hb2 := hb1.trans (hc2.mono hb1.size)
              go_wp2_with fail
              refine (cA.out _).mono ?_
              rintro e w3 ⟨rfl, hc3⟩
              have hb3 := hb2.trans (hc3.mono hb2.size)
              go_wp2_with fail
              refine (cA1.out _).mono ?_
              rintro e w4 ⟨rfl, hc4⟩
              have hb4 := hb3.trans (hc4.mono hb3.size)
              go_wp2_with fail
              refine (cA2.out _).mono ?_
              rintro e w5 ⟨rfl, hc5⟩
              have hb5 := hb4.trans (hc5.mono hb4.size)
              go_wp2_with fail
              go_ret
              exact ⟨by rw [show R = 4 from HR.out.symm.trans (by simp [hz1])]; rfl, hb5⟩
            · skip
              cases I with
              | true =>
                go_enter Tryz.func21, Tryz.ntmps21
                go_wp2_with fail
                refine (cC.out _ hv).mono ?_
                rintro e w1 ⟨rfl, hc10⟩
                have hc1 := hc10.below w.heap.size
                have hb1 := hc1
                have hv2 := hv.below hb1
                go_wp2_with fail
                refine (cL.out _ hv2).mono ?_
                rintro e w2 ⟨rfl, hc2⟩
                have hb2 := hb1.trans (hc2.mono hb1.size)
                go_wp2_with fail
                refine (cA.out _).mono ?_
                rintro e w3 ⟨rfl, hc3⟩
                have hb3 := hb2.trans (hc3.mono hb2.size)
                go_wp2_with fail
                refine (cA1.out _).mono ?_
                rintro e w4 ⟨rfl, hc4⟩
                have hb4 := hb3.trans (hc4.mono hb3.size)
                go_wp2_with fail
                refine (cA2.out _).mono ?_
                rintro e w5 ⟨rfl, hc5⟩
                have hb5 := hb4.trans (hc5.mono hb4.size)
                have hv6 := hv.below hb5
                go_wp2_with fail
                refine (cI.out _ hv6).mono ?_
                rintro e w6 ⟨rfl, hc6⟩
                have hb6 := hb5.trans (hc6.mono hb5.size)
                go_wp2_with fail
                go_ret
                exact ⟨by rw [show R = 5 from HR.out.symm.trans (by simp [hz1])]; rfl, hb6⟩
              | false =>
                cases I1 with
                | true =>
                  cases I2 with
                  | true =>
                    go_enter Tryz.func21, Tryz.ntmps21
                    go_wp2_with fail
                    refine (cC.out _ hv).mono ?_
                    rintro e w1 ⟨rfl, hc10⟩
                    have hc1 := hc10.below w.heap.size
                    have hb1 := hc1
                    have hv2 := hv.below hb1
                    go_wp2_with fail
                    refine (cL.out _ hv2).mono ?_
                    rintro e w2 ⟨rfl, hc2⟩
                    have hb2 := hb1.trans (hc2.mono hb1.size)
                    go_wp2_with fail
                    refine (cA.out _).mono ?_
                    rintro e w3 ⟨rfl, hc3⟩
                    have hb3 := hb2.trans (hc3.mono hb2.size)
                    go_wp2_with fail
                    refine (cA1.out _).mono ?_
                    rintro e w4 ⟨rfl, hc4⟩
                    have hb4 := hb3.trans (hc4.mono hb3.size)
                    go_wp2_with fail
                    refine (cA2.out _).mono ?_
                    rintro e w5 ⟨rfl, hc5⟩
                    have hb5 := hb4.trans (hc5.mono hb4.size)
                    have hv6 := hv.below hb5
                    go_wp2_with fail
                    refine (cI.out _ hv6).mono ?_
                    rintro e w6 ⟨rfl, hc6⟩
                    have hb6 := hb5.trans (hc6.mono hb5.size)
                    have hv7 := hv.below hb6
                    go_wp2_with fail
                    refine (cI1.out _ hv7).mono ?_
                    rintro e w7 ⟨rfl, hc7⟩
                    have hb7 := hb6.trans (hc7.mono hb6.size)
                    have hv8 := hv.below hb7
                    go_wp2_with fail
                    refine (cI2.out _ hv8).mono ?_
                    rintro e w8 ⟨rfl, hc8⟩
                    have hb8 := hb7.trans (hc8.mono hb7.size)
                    go_wp2_with fail
                    go_ret
                    exact ⟨by rw [show R = 5 from HR.out.symm.trans (by simp [hz1])]; rfl, hb8⟩
                  | false =>
                    go_enter Tryz.func21, Tryz.ntmps21
                    go_wp2_with fail
                    refine (cC.out _ hv).mono ?_
                    rintro e w1 ⟨rfl, hc10⟩
                    have hc1 := hc10.below w.heap.size
                    have hb1 := hc1
                    have hv2 := hv.below hb1
                    go_wp2_with fail
                    refine (cL.out _ hv2).mono ?_
                    rintro e w2 ⟨rfl, hc2⟩
                    have hb2 := hb1.trans (hc2.mono hb1.size)
                    go_wp2_with fail
                    refine (cA.out _).mono ?_
                    rintro e w3 ⟨rfl, hc3⟩
                    have hb3 := hb2.trans (hc3.mono hb2.size)
                    go_wp2_with fail
                    refine (cA1.out _).mono ?_
                    rintro e w4 ⟨rfl, hc4⟩
                    have hb4 := hb3.trans (hc4.mono hb3.size)
                    go_wp2_with fail
                    refine (cA2.out _).mono ?_
                    rintro e w5 ⟨rfl, hc5⟩
                    have hb5 := hb4.trans (hc5.mono hb4.size)
                    have hv6 := hv.below hb5
                    go_wp2_with fail
                    refine (cI.out _ hv6).mono ?_
                    rintro e w6 ⟨rfl, hc6⟩
                    have hb6 := hb5.trans (hc6.mono hb5.size)
                    have hv7 := hv.below hb6
                    go_wp2_with fail
                    refine (cI1.out _ hv7).mono ?_
                    rintro e w7 ⟨rfl, hc7⟩
                    have hb7 := hb6.trans (hc7.mono hb6.size)
                    have hv8 := hv.below hb7
                    go_wp2_with fail
                    refine (cI2.out _ hv8).mono ?_
                    rintro e w8 ⟨rfl, hc8⟩
                    have hb8 := hb7.trans (hc8.mono hb7.size)
                    go_wp2_with fail
                    go_ret
                    exact ⟨by rw [show R = 0 from HR.out.symm.trans (by simp [hz1])]; rfl, hb8⟩
                | false =>
                  go_enter Tryz.func21, Tryz.ntmps21
                  go_wp2_with fail
                  refine (cC.out _ hv).mono ?_
                  rintro e w1 ⟨rfl, hc10⟩
                  have hc1 := hc10.below w.heap.size
                  have hb1 := hc1
                  have hv2 := hv.below hb1
                  go_wp2_with fail
                  refine (cL.out _ hv2).mono ?_
                  rintro e w2 ⟨rfl, hc2⟩
                  have hb2 := hb1.trans (hc2.mono hb1.size)
                  go_wp2_with fail
                  refine (cA.out _).mono ?_
                  rintro e w3 ⟨rfl, hc3⟩
                  have hb3 := hb2.trans (hc3.mono hb2.size)
                  go_wp2_with fail
                  refine (cA1.out _).mono ?_
                  rintro e w4 ⟨rfl, hc4⟩
                  have hb4 := hb3.trans (hc4.mono hb3.size)
                  go_wp2_with fail
                  refine (cA2.out _).mono ?_
                  rintro e w5 ⟨rfl, hc5⟩
                  have hb5 := hb4.trans (hc5.mono hb4.size)
                  have hv6 := hv.below hb5
                  go_wp2_with fail
                  refine (cI.out _ hv6).mono ?_
                  rintro e w6 ⟨rfl, hc6⟩
                  have hb6 := hb5.trans (hc6.mono hb5.size)
                  have hv7 := hv.below hb6
                  go_wp2_with fail
                  refine (cI1.out _ hv7).mono ?_
                  rintro e w7 ⟨rfl, hc7⟩
                  have hb7 := hb6.trans (hc7.mono hb6.size)
                  go_wp2_with fail
                  go_ret
                  exact ⟨by rw [show R = 0 from HR.out.symm.trans (by simp [hz1])]; rfl, hb7⟩
      | false =>
        cases L with
        | true =>
          go_enter Tryz.func21, Tryz.ntmps21
          go_wp2_with fail
          refine (cC.out _ hv).mono ?_
          rintro e w1 ⟨rfl, hc10⟩
          have hc1 := hc10.below w.heap.size
          have hb1 := hc1
          have hv2 := hv.below hb1
          go_wp2_with fail
          refine (cL.out _ hv2).mono ?_
          rintro e w2 ⟨rfl, hc2⟩
          have hb2 := hb1.trans (hc2.mono hb1.size)
          go_wp2_with fail
          refine (cA.out _).mono ?_
          rintro e w3 ⟨rfl, hc3⟩
          have hb3 := hb2.trans (hc3.mono hb2.size)
          go_wp2_with fail
          refine (cA1.out _).mono ?_
          rintro e w4 ⟨rfl, hc4⟩
          have hb4 := hb3.trans (hc4.mono hb3.size)
          go_wp2_with fail
          go_ret
          exact ⟨by rw [show R = 3 from HR.out.symm.trans (by simp)]; rfl, hb4⟩
        | false =>
          rcases hz with ⟨hz1, hz2⟩ | ⟨hz1, hz2⟩
          · skip
            go_enter Tryz.func21, Tryz.ntmps21
            go_wp2_with fail
            refine (cC.out _ hv).mono ?_
            rintro e w1 ⟨rfl, hc10⟩
            have hc1 := hc10.below w.heap.size
            have hb1 := hc1
            have hv2 := hv.below hb1
            go_wp2_with fail
            refine (cL.out _ hv2).mono ?_
            rintro e w2 ⟨rfl, hc2⟩
            have hb2 := hb1.trans (hc2.mono hb1.size)
            go_wp2_with fail
            refine (cA.out _).mono ?_
            rintro e w3 ⟨rfl, hc3⟩
            have hb3 := hb2.trans (hc3.mono hb2.size)
            go_wp2_with fail
            refine (cA1.out _).mono ?_
            rintro e w4 ⟨rfl, hc4⟩
            have hb4 := hb3.trans (hc4.mono hb3.size)
            go_wp2_with fail
            go_ret
            exact ⟨by rw [show R = 4 from HR.out.symm.trans (by simp [hz1])]; rfl, hb4⟩
          · skip
            cases I with
            | true =>
              go_enter Tryz.func21, Tryz.ntmps21
              go_wp2_with fail
              refine (cC.out _ hv).mono ?_
              rintro e w1 ⟨rfl, hc10⟩
              have hc1 := hc10.below w.heap.size
              have hb1 := hc1
              have hv2 := hv.below hb1
              go_wp2_with fail
              refine (cL.out _ hv2).mono ?_
              rintro e w2 ⟨rfl, hc2⟩
              have hb2 := hb1.trans (hc2.mono hb1.size)
              go_wp2_with fail
              refine (cA.out _).mono ?_
              rintro e w3 ⟨rfl, hc3⟩
              have hb3 := hb2.trans (hc3.mono hb2.size)
              go_wp2_with fail
              refine (cA1.out _).mono ?_
              rintro e w4 ⟨rfl, hc4⟩
              have hb4 := hb3.trans (hc4.mono hb3.size)
              have hv5 := hv.below hb4
              go_wp2_with fail
              refine (cI.out _ hv5).mono ?_
              rintro e w5 ⟨rfl, hc5⟩
              have hb5 := hb4.trans (hc5.mono hb4.size)
              go_wp2_with fail
              go_ret
              exact ⟨by rw [show R = 5 from HR.out.symm.trans (by simp [hz1])]; rfl, hb5⟩
            | false =>
              cases I1 with
              | true =>
                cases I2 with
                | true =>
                  go_enter Tryz.func21, Tryz.ntmps21
                  go_wp2_with fail
                  refine (cC.out _ hv).mono ?_
                  rintro e w1 ⟨rfl, hc10⟩
                  have hc1 := hc10.below w.heap.size
                  have hb1 := hc1
                  have hv2 := hv.below hb1
                  go_wp2_with fail
                  refine (cL.out _ hv2).mono ?_
                  rintro e w2 ⟨rfl, hc2⟩
                  have hb2 := hb1.trans (hc2.mono hb1.size)
                  go_wp2_with fail
                  refine (cA.out _).mono ?_
                  rintro e w3 ⟨rfl, hc3⟩
                  have hb3 := hb2.trans (hc3.mono hb2.size)
                  go_wp2_with fail
                  refine (cA1.out _).mono ?_
                  rintro e w4 ⟨rfl, hc4⟩
                  have hb4 := hb3.trans (hc4.mono hb3.size)
                  have hv5 := hv.below hb4
                  go_wp2_with fail
                  refine (cI.out _ hv5).mono ?_
                  rintro e w5 ⟨rfl, hc5⟩
                  have hb5 := hb4.trans (hc5.mono hb4.size)
                  have hv6 := hv.below hb5
                  go_wp2_with fail
                  refine (cI1.out _ hv6).mono ?_
                  rintro e w6 ⟨rfl, hc6⟩
                  have hb6 := hb5.trans (hc6.mono hb5.size)
                  have hv7 := hv.below hb6
                  go_wp2_with fail
                  refine (cI2.out _ hv7).mono ?_
                  rintro e w7 ⟨rfl, hc7⟩
                  have hb7 := hb6.trans (hc7.mono hb6.size)
                  go_wp2_with fail
                  go_ret
                  exact ⟨by rw [show R = 5 from HR.out.symm.trans (by simp [hz1])]; rfl, hb7⟩
                | false =>
                  go_enter Tryz.func21, Tryz.ntmps21
                  go_wp2_with fail
                  refine (cC.out _ hv).mono ?_
                  rintro e w1 ⟨rfl, hc10⟩
                  have hc1 := hc10.below w.heap.size
                  have hb1 := hc1
                  have hv2 := hv.below hb1
                  go_wp2_with fail
                  refine (cL.out _ hv2).mono ?_
                  rintro e w2 ⟨rfl, hc2⟩
                  have hb2 := hb1.trans (hc2.mono hb1.size)
                  go_wp2_with fail
                  refine (cA.out _).mono ?_
                  rintro e w3 ⟨rfl, hc3⟩
                  have hb3 := hb2.trans (hc3.mono hb2.size)
                  go_wp2_with fail
                  refine (cA1.out _).mono ?_
                  rintro e w4 ⟨rfl, hc4⟩
                  have hb4 := hb3.trans (hc4.mono hb3.size)
                  have hv5 := hv.below hb4
                  go_wp2_with fail
                  refine (cI.out _ hv5).mono ?_
                  rintro e w5 ⟨rfl, hc5⟩
                  have hb5 := hb4.trans (hc5.mono hb4.size)
                  have hv6 := hv.below hb5
                  go_wp2_with fail
                  refine (cI1.out _ hv6).mono ?_
                  rintro e w6 ⟨rfl, hc6⟩
                  have hb6 := hb5.trans (hc6.mono hb5.size)
                  have hv7 := hv.below hb6
                  go_wp2_with fail
                  refine (cI2.out _ hv7).mono ?_
                  rintro e w7 ⟨rfl, hc7⟩
                  have hb7 := hb6.trans (hc7.mono hb6.size)
                  go_wp2_with fail
                  go_ret
                  exact ⟨by rw [show R = 0 from HR.out.symm.trans (by simp [hz1])]; rfl, hb7⟩
              | false =>
                go_enter Tryz.func21, Tryz.ntmps21
                go_wp2_with fail
                refine (cC.out _ hv).mono ?_
                rintro e w1 ⟨rfl, hc10⟩
                have hc1 := hc10.below w.heap.size
                have hb1 := hc1
                have hv2 := hv.below hb1
                go_wp2_with fail
                refine (cL.out _ hv2).mono ?_
                rintro e w2 ⟨rfl, hc2⟩
                have hb2 := hb1.trans (hc2.mono hb1.size)
                go_wp2_with fail
                refine (cA.out _).mono ?_
                rintro e w3 ⟨rfl, hc3⟩
                have hb3 := hb2.trans (hc3.mono hb2.size)
                go_wp2_with fail
                refine (cA1.out _).mono ?_
                rintro e w4 ⟨rfl, hc4⟩
                have hb4 := hb3.trans (hc4.mono hb3.size)
                have hv5 := hv.below hb4
                go_wp2_with fail
                refine (cI.out _ hv5).mono ?_
                rintro e w5 ⟨rfl, hc5⟩
                have hb5 := hb4.trans (hc5.mono hb4.size)
                have hv6 := hv.below hb5
                go_wp2_with fail
                refine (cI1.out _ hv6).mono ?_
                rintro e w6 ⟨rfl, hc6⟩
                have hb6 := hb5.trans (hc6.mono hb5.size)
                go_wp2_with fail
                go_ret
                exact ⟨by rw [show R = 0 from HR.out.symm.trans (by simp [hz1])]; rfl, hb6⟩
    | false =>
      cases L with
      | true =>
        go_enter Tryz.func21, Tryz.ntmps21
        go_wp2_with fail
        refine (cC.out _ hv).mono ?_
        rintro e w1 ⟨rfl, hc10⟩
        have hc1 := hc10.below w.heap.size
        have hb1 := hc1
        have hv2 := hv.below hb1
        go_wp2_with fail
        refine (cL.out _ hv2).mono ?_
        rintro e w2 ⟨rfl, hc2⟩
        have hb2 := hb1.trans (hc2.mono hb1.size)
        go_wp2_with fail
        refine (cA.out _).mono ?_
        rintro e w3 ⟨rfl, hc3⟩
        have hb3 := hb2.trans (hc3.mono hb2.size)
        go_wp2_with fail
        go_ret
        exact ⟨by rw [show R = 3 from HR.out.symm.trans (by simp)]; rfl, hb3⟩
      | false =>
        rcases hz with ⟨hz1, hz2⟩ | ⟨hz1, hz2⟩
        · skip
          go_enter Tryz.func21, Tryz.ntmps21
          go_wp2_with fail
          refine (cC.out _ hv).mono ?_
          rintro e w1 ⟨rfl, hc10⟩
          have hc1 := hc10.below w.heap.size
          have hb1 := hc1
          have hv2 := hv.below hb1
          go_wp2_with fail
          refine (cL.out _ hv2).mono ?_
          rintro e w2 ⟨rfl, hc2⟩
          have hb2 := hb1.trans (hc2.mono hb1.size)
          go_wp2_with fail
          refine (cA.out _).mono ?_
          rintro e w3 ⟨rfl, hc3⟩
          have hb3 := hb2.trans (hc3.mono hb2.size)
          go_wp2_with fail
          go_ret
          exact ⟨by rw [show R = 4 from HR.out.symm.trans (by simp [hz1])]; rfl, hb3⟩
        · skip
          cases I with
          | true =>
            go_enter Tryz.func21, Tryz.ntmps21
            go_wp2_with fail
            refine (cC.out _ hv).mono ?_
            rintro e w1 ⟨rfl, hc10⟩
            have hc1 := hc10.below w.heap.size
            have hb1 := hc1
            have hv2 := hv.below hb1
            go_wp2_with fail
            refine (cL.out _ hv2).mono ?_
            rintro e w2 ⟨rfl, hc2⟩
            have hb2 := hb1.trans (hc2.mono hb1.size)
            go_wp2_with fail
            refine (cA.out _).mono ?_
            rintro e w3 ⟨rfl, hc3⟩
            have hb3 := hb2.trans (hc3.mono hb2.size)
            have hv4 := hv.below hb3
            go_wp2_with fail
            refine (cI.out _ hv4).mono ?_
            rintro e w4 ⟨rfl, hc4⟩
            have hb4 := hb3.trans (hc4.mono hb3.size)
            go_wp2_with fail
            go_ret
            exact ⟨by rw [show R = 5 from HR.out.symm.trans (by simp [hz1])]; rfl, hb4⟩
          | false =>
            go_enter Tryz.func21, Tryz.ntmps21
            go_wp2_with fail
            refine (cC.out _ hv).mono ?_
            rintro e w1 ⟨rfl, hc10⟩
            have hc1 := hc10.below w.heap.size
            have hb1 := hc1
            have hv2 := hv.below hb1
            go_wp2_with fail
            refine (cL.out _ hv2).mono ?_
            rintro e w2 ⟨rfl, hc2⟩
            have hb2 := hb1.trans (hc2.mono hb1.size)
            go_wp2_with fail
            refine (cA.out _).mono ?_
            rintro e w3 ⟨rfl, hc3⟩
            have hb3 := hb2.trans (hc3.mono hb2.size)
            have hv4 := hv.below hb3
            go_wp2_with fail
            refine (cI.out _ hv4).mono ?_
            rintro e w4 ⟨rfl, hc4⟩
            have hb4 := hb3.trans (hc4.mono hb3.size)
            go_wp2_with fail
            go_ret
            exact ⟨by rw [show R = 0 from HR.out.symm.trans (by simp [hz1])]; rfl, hb4⟩
end Go.Proofs.YtlideagcmhlkeaaGreatDoor

/- The changes of FORMATs that Expand and Contract make: their closures. -/
namespace Go.Proofs.YtlideagcmhlkeaaGreatDoor
open Go.RowKit Go.Lib
set_option linter.unusedVariables false
set_option linter.unusedSimpArgs false

set_option maxRecDepth 100000 in
set_option maxHeartbeats 8000000 in
theorem ex_any (s : SV) (e : EV) (B : Nat) (w : World) (hS : SrcIn w s) (hbk : Blk w B 27 #[.slice s.rA s.rules.length s.rc, .slice s.zA s.zones.length s.zc, .slice s.kA s.links.length s.kc, .slice s.hA s.shifts.length s.hc]) (hl : s.rules.length ≤ 1000) (hsv : SvOk s.rules) (h1 : -9223372036854775808 ≤ e.off ∧ e.off ≤ 9223372036854775807) (h2 : -9223372036854775808 ≤ e.save ∧ e.save ≤ 9223372036854775807) :
    Calls Tryz.prog 17 #[.agg #[.int .i64 e.off, .int .i64 e.kind, .int .i64 e.save, .string e.set, .string e.fmt, .bool e.ui, .int .i64 e.uy, .int .i64 e.um, .int .i64 e.dk, .int .i64 e.dw, .int .i64 e.dd, .int .i64 e.asec, .int .i64 e.ab], .pointer (some ⟨B, 0, none⟩)] w fun x w' => x = .returned (.tuple #[.string (exF s.rules e).1, .int .i64 (exF s.rules e).2]) ∧ Below w.heap.size w w' := by
  have hE := Blk.new w 48 #[.int .i64 e.off, .int .i64 e.kind, .int .i64 e.save, .string e.set, .string e.fmt, .bool e.ui, .int .i64 e.uy, .int .i64 e.um, .int .i64 e.dk, .int .i64 e.dw, .int .i64 e.dd, .int .i64 e.asec, .int .i64 e.ab]
  have hb0 := (Below.refl _ w).alloc (Nat.le_refl _) (.cells #[.int .i64 e.off, .int .i64 e.kind, .int .i64 e.save, .string e.set, .string e.fmt, .bool e.ui, .int .i64 e.uy, .int .i64 e.um, .int .i64 e.dk, .int .i64 e.dw, .int .i64 e.dd, .int .i64 e.asec, .int .i64 e.ab] 48)
  have hB := hbk.alloc (.cells #[.int .i64 e.off, .int .i64 e.kind, .int .i64 e.save, .string e.set, .string e.fmt, .bool e.ui, .int .i64 e.uy, .int .i64 e.um, .int .i64 e.dk, .int .i64 e.dw, .int .i64 e.dd, .int .i64 e.asec, .int .i64 e.ab] 48)
  have cN : Hid (∀ W, Below w.heap.size w W → Calls Tryz.prog 18 #[.agg #[.slice s.rA s.rules.length s.rc, .slice s.zA s.zones.length s.zc, .slice s.kA s.links.length s.kc, .slice s.hA s.shifts.length s.hc], .agg #[.int .i64 e.off, .int .i64 e.kind, .int .i64 e.save, .string e.set, .string e.fmt, .bool e.ui, .int .i64 e.uy, .int .i64 e.um, .int .i64 e.dk, .int .i64 e.dw, .int .i64 e.dd, .int .i64 e.asec, .int .i64 e.ab]] W fun x w' => x = .returned (.tuple #[.string (num30 s.rules e).1, .int .i64 (num30 s.rules e).2]) ∧ Below W.heap.size W w') := Lib.hid fun W hb => number_any s e W (hS.below hb) hl hsv h1 h2
  have HE := Lib.hid hE; have HB := Lib.hid hB; have HBL := Lib.hid hb0
  obtain ⟨X, Y, hXY⟩ : ∃ X Y, num30 s.rules e = (X, Y) := ⟨_, _, rfl⟩
  rw [hXY] at cN
  clear hS hbk hl hsv h1 h2 hE hB hb0
  by_cases hz : e.fmt = ⟨#[37, 122]⟩
  · have hR : exF s.rules e = (X, Y) := by unfold exF; rw [if_pos hz, hXY]
    rw [hR]
    have hd : (e.fmt.toList == [37, 122]) = true := by rw [hz]; decide +kernel
    clear hz hR hXY
    have b0 := (HB.out.cell 0).trans rfl
    have b1 := (HB.out.cell 1).trans rfl
    have b2 := (HB.out.cell 2).trans rfl
    have b3 := (HB.out.cell 3).trans rfl
    have e0 := (HE.out.cell 0).trans rfl
    have e1 := (HE.out.cell 1).trans rfl
    have e2 := (HE.out.cell 2).trans rfl
    have e3 := (HE.out.cell 3).trans rfl
    have e4 := (HE.out.cell 4).trans rfl
    have e5 := (HE.out.cell 5).trans rfl
    have e6 := (HE.out.cell 6).trans rfl
    have e7 := (HE.out.cell 7).trans rfl
    have e8 := (HE.out.cell 8).trans rfl
    have e9 := (HE.out.cell 9).trans rfl
    have e10 := (HE.out.cell 10).trans rfl
    have e11 := (HE.out.cell 11).trans rfl
    have e12 := (HE.out.cell 12).trans rfl
    go_enter Tryz.func17, Tryz.ntmps17
    go_wp2_with fail
    refine (cN.out _ HBL.out).mono ?_
    rintro x w2 ⟨rfl, hc⟩
    go_wp2_with fail
    go_ret2
    exact ⟨rfl, HBL.out.trans (hc.mono HBL.out.size)⟩
  · have hR : exF s.rules e = (e.fmt, 0) := by unfold exF; rw [if_neg hz]
    rw [hR]
    have hd : (e.fmt.toList == [37, 122]) = false := by have q := eq_b e.fmt (str [37, 122]) hz; rwa [str_toList] at q
    clear hz hR hXY
    have e4 := (HE.out.cell 4).trans rfl
    go_enter Tryz.func17, Tryz.ntmps17
    go_wp2_with fail
    go_ret2
    exact ⟨rfl, HBL.out⟩
set_option maxRecDepth 100000 in
set_option maxHeartbeats 8000000 in
theorem co_any (s : SV) (e : EV) (B : Nat) (w : World) (hS : SrcIn w s) (hbk : Blk w B 27 #[.slice s.rA s.rules.length s.rc, .slice s.zA s.zones.length s.zc, .slice s.kA s.links.length s.kc, .slice s.hA s.shifts.length s.hc]) (hl : s.rules.length ≤ 1000) (hsv : SvOk s.rules) (h1 : -9223372036854775808 ≤ e.off ∧ e.off ≤ 9223372036854775807) (h2 : -9223372036854775808 ≤ e.save ∧ e.save ≤ 9223372036854775807) (hsz : e.fmt.size ≤ 1000000) (hv : Vars21 w) :
    Calls Tryz.prog 20 #[.agg #[.int .i64 e.off, .int .i64 e.kind, .int .i64 e.save, .string e.set, .string e.fmt, .bool e.ui, .int .i64 e.uy, .int .i64 e.um, .int .i64 e.dk, .int .i64 e.dw, .int .i64 e.dd, .int .i64 e.asec, .int .i64 e.ab], .pointer (some ⟨B, 0, none⟩)] w fun x w' => x = .returned (.tuple #[.string (coF s.rules e).1, .int .i64 (coF s.rules e).2]) ∧ Below w.heap.size w w' := by
  have hE := Blk.new w 48 #[.int .i64 e.off, .int .i64 e.kind, .int .i64 e.save, .string e.set, .string e.fmt, .bool e.ui, .int .i64 e.uy, .int .i64 e.um, .int .i64 e.dk, .int .i64 e.dw, .int .i64 e.dd, .int .i64 e.asec, .int .i64 e.ab]
  have hb0 := (Below.refl _ w).alloc (Nat.le_refl _) (.cells #[.int .i64 e.off, .int .i64 e.kind, .int .i64 e.save, .string e.set, .string e.fmt, .bool e.ui, .int .i64 e.uy, .int .i64 e.um, .int .i64 e.dk, .int .i64 e.dw, .int .i64 e.dd, .int .i64 e.asec, .int .i64 e.ab] 48)
  have hB := hbk.alloc (.cells #[.int .i64 e.off, .int .i64 e.kind, .int .i64 e.save, .string e.set, .string e.fmt, .bool e.ui, .int .i64 e.uy, .int .i64 e.um, .int .i64 e.dk, .int .i64 e.dw, .int .i64 e.dd, .int .i64 e.asec, .int .i64 e.ab] 48)
  have cN : Hid (∀ W, Below w.heap.size w W → Calls Tryz.prog 18 #[.agg #[.slice s.rA s.rules.length s.rc, .slice s.zA s.zones.length s.zc, .slice s.kA s.links.length s.kc, .slice s.hA s.shifts.length s.hc], .agg #[.int .i64 e.off, .int .i64 e.kind, .int .i64 e.save, .string e.set, .string e.fmt, .bool e.ui, .int .i64 e.uy, .int .i64 e.um, .int .i64 e.dk, .int .i64 e.dw, .int .i64 e.dd, .int .i64 e.asec, .int .i64 e.ab]] W fun x w' => x = .returned (.tuple #[.string (num30 s.rules e).1, .int .i64 (num30 s.rules e).2]) ∧ Below W.heap.size W w') := Lib.hid fun W hb => number_any s e W (hS.below hb) hl hsv h1 h2
  have HE := Lib.hid hE; have HB := Lib.hid hB; have HBL := Lib.hid hb0
  obtain ⟨X, Y, hXY⟩ : ∃ X Y, num30 s.rules e = (X, Y) := ⟨_, _, rfl⟩
  rw [hXY] at cN
  have cK : Hid (∀ W, Below w.heap.size w W → Calls Tryz.prog 21 #[.string e.fmt] W fun x w' => x = .returned (.int .i64 (P21.kind (P4.bl e.fmt))) ∧ Below W.heap.size W w') := Lib.hid fun W hb => kind_any e.fmt W hsz (hv.below hb)
  have e4 := (HE.out.cell 4).trans rfl
  by_cases hk : P21.kind (P4.bl e.fmt) = 5
  · have hR : coF s.rules e = (if Y = 0 then (if X = e.fmt then (⟨#[37, 122]⟩, 0) else (⟨#[]⟩, 15)) else (⟨#[]⟩, Y)) := by unfold coF; rw [if_pos hk, hXY]
    rw [hk] at cK
    obtain ⟨R1, R2, hRR⟩ : ∃ R1 R2, coF s.rules e = (R1, R2) := ⟨_, _, rfl⟩
    have HR := Lib.hid (hR.symm.trans hRR)
    rw [hRR]
    clear hk hR hRR hXY hS hbk hl hsv h1 h2 hE hB hb0 hsz hv
    go_enter Tryz.func20, Tryz.ntmps20
    go_wp2_with fail
    refine (cK.out _ HBL.out).mono ?_
    rintro x w2 ⟨rfl, hc⟩
    have HB2 := Lib.hid (HB.out.below hc HB.out.lt)
    have HE2 := Lib.hid (HE.out.below hc HE.out.lt)
    have HBL2 := Lib.hid (HBL.out.trans (hc.mono HBL.out.size))
    clear e4 hc HB HE HBL
    have b0 := (HB2.out.cell 0).trans rfl
    have b1 := (HB2.out.cell 1).trans rfl
    have b2 := (HB2.out.cell 2).trans rfl
    have b3 := (HB2.out.cell 3).trans rfl
    have e0 := (HE2.out.cell 0).trans rfl
    have e1 := (HE2.out.cell 1).trans rfl
    have e2 := (HE2.out.cell 2).trans rfl
    have e3 := (HE2.out.cell 3).trans rfl
    have e4 := (HE2.out.cell 4).trans rfl
    have e5 := (HE2.out.cell 5).trans rfl
    have e6 := (HE2.out.cell 6).trans rfl
    have e7 := (HE2.out.cell 7).trans rfl
    have e8 := (HE2.out.cell 8).trans rfl
    have e9 := (HE2.out.cell 9).trans rfl
    have e10 := (HE2.out.cell 10).trans rfl
    have e11 := (HE2.out.cell 11).trans rfl
    have e12 := (HE2.out.cell 12).trans rfl
    go_wp2_with fail
    refine (cN.out _ HBL2.out).mono ?_
    rintro x w3 ⟨rfl, hc⟩
    have HE3 := Lib.hid (HE2.out.below hc HE2.out.lt)
    have HBL3 := Lib.hid (HBL2.out.trans (hc.mono HBL2.out.size))
    clear b0 b1 b2 b3 e0 e1 e2 e3 e4 e5 e6 e7 e8 e9 e10 e11 e12 hc HB2 HE2 HBL2
    have e4 := (HE3.out.cell 4).trans rfl
    by_cases hy : Y = 0
    · have hdy : (Y == 0) = true := by rw [hy]; rfl
      by_cases hx : X = e.fmt
      · have hdx : (X.toList == e.fmt.toList) = true := by rw [hx]; simp
        have HQ1 := Lib.hid (show (⟨#[37, 122]⟩ : ByteArray) = R1 by have q := HR.out; rw [if_pos hy, if_pos hx] at q; exact congrArg Prod.fst q)
        have HQ2 := Lib.hid (show (0 : Int) = R2 by have q := HR.out; rw [if_pos hy, if_pos hx] at q; exact congrArg Prod.snd q)
        clear hx hy
        go_wp2_with fail
        go_ret2
        exact ⟨by rw [← HQ1.out, ← HQ2.out]; rfl, HBL3.out⟩
      · have hdx : (X.toList == e.fmt.toList) = false := eq_b _ _ hx
        have HQ1 := Lib.hid (show (⟨#[]⟩ : ByteArray) = R1 by have q := HR.out; rw [if_pos hy, if_neg hx] at q; exact congrArg Prod.fst q)
        have HQ2 := Lib.hid (show (15 : Int) = R2 by have q := HR.out; rw [if_pos hy, if_neg hx] at q; exact congrArg Prod.snd q)
        clear hx hy
        go_wp2_with fail
        go_ret2
        exact ⟨by rw [← HQ1.out, ← HQ2.out]; rfl, HBL3.out⟩
    · have hdy : (Y == 0) = false := by simpa using hy
      have HQ1 := Lib.hid (show (⟨#[]⟩ : ByteArray) = R1 by have q := HR.out; rw [if_neg hy] at q; exact congrArg Prod.fst q)
      have HQ2 := Lib.hid (show (Y : Int) = R2 by have q := HR.out; rw [if_neg hy] at q; exact congrArg Prod.snd q)
      clear hy
      go_wp2_with fail
      go_ret2
      exact ⟨by rw [← HQ1.out, ← HQ2.out]; rfl, HBL3.out⟩
  · have hR : coF s.rules e = (e.fmt, 0) := by unfold coF; rw [if_neg hk]
    obtain ⟨K, hK⟩ : ∃ K : Int, P21.kind (P4.bl e.fmt) = K := ⟨_, rfl⟩
    have hdk : (K == 5) = false := by rw [← hK]; simpa using hk
    rw [hK] at cK
    rw [hR]
    clear hk hK hR hXY hS hbk hl hsv h1 h2 hE hB hb0 hsz hv
    go_enter Tryz.func20, Tryz.ntmps20
    go_wp2_with fail
    refine (cK.out _ HBL.out).mono ?_
    rintro x w2 ⟨rfl, hc⟩
    have HE2 := Lib.hid (HE.out.below hc HE.out.lt)
    have HBL2 := Lib.hid (HBL.out.trans (hc.mono HBL.out.size))
    clear e4 hc HB HE HBL
    have e4 := (HE2.out.cell 4).trans rfl
    go_wp2_with fail
    go_ret2
    exact ⟨rfl, HBL2.out⟩
end Go.Proofs.YtlideagcmhlkeaaGreatDoor

/- Expand and Contract (chapter 30): the FORMATs changed, or the first error. -/
namespace Go.Proofs.YtlideagcmhlkeaaGreatDoor
open Go.RowKit Go.Lib
set_option linter.unusedVariables false
set_option linter.unusedSimpArgs false

set_option maxRecDepth 100000 in
set_option maxHeartbeats 8000000 in
theorem expand_any (s : SV) (w : World) (hS : SrcIn w s) (hf : Few30 s) :
    Calls Tryz.prog 7 #[.agg #[.slice s.rA s.rules.length s.rc, .slice s.zA s.zones.length s.zc, .slice s.kA s.links.length s.kc, .slice s.hA s.shifts.length s.hc]] w fun x w' => ∃ (t : SV) (n : Int), x = .returned (.tuple #[.agg #[.slice t.rA t.rules.length t.rc, .slice t.zA t.zones.length t.zc, .slice t.kA t.links.length t.kc, .slice t.hA t.shifts.length t.hc], .int .i64 n]) ∧ SrcG w' t ∧ Res30 (exF s.rules) s t n ∧ Below w.heap.size w w' := by
  have hb0 := ((Below.refl w.heap.size w).alloc (Nat.le_refl _) (.cells #[.slice s.rA s.rules.length s.rc, .slice s.zA s.zones.length s.zc, .slice s.kA s.links.length s.kc, .slice s.hA s.shifts.length s.hc] 27)).alloc (by simp) (.cells #[.slice none 0 0, .slice none 0 0, .slice none 0 0, .slice none 0 0] 27)
  have hx0 := (Blk.new w 27 #[.slice s.rA s.rules.length s.rc, .slice s.zA s.zones.length s.zc, .slice s.kA s.links.length s.kc, .slice s.hA s.shifts.length s.hc]).alloc (.cells #[.slice none 0 0, .slice none 0 0, .slice none 0 0, .slice none 0 0] 27)
  have hr0 := Blk.newAt (w.alloc (.cells #[.slice s.rA s.rules.length s.rc, .slice s.zA s.zones.length s.zc, .slice s.kA s.links.length s.kc, .slice s.hA s.shifts.length s.hc] 27)) (w.heap.size + 1) (by simp) 27 #[.slice none 0 0, .slice none 0 0, .slice none 0 0, .slice none 0 0]
  have c0 := (hx0.cell 0).trans rfl; have c1 := (hx0.cell 1).trans rfl; have c2 := (hx0.cell 2).trans rfl; have c3 := (hx0.cell 3).trans rfl
  have cE := Lib.hid (each_any (exF s.rules) 17 #[.pointer (some ⟨w.heap.size, 0, none⟩)] s _ (hS.below hb0) hf (enters_of Tryz.func17 (by kernel_rfl) rfl)
    (fun z hz e he W hb => ex_any s e w.heap.size W (hS.below (hb0.trans (hb.mono hb0.size))) (hx0.below hb hx0.lt) hf.lens.1 hf.saves (hf.nums z hz e he).1 (hf.nums z hz e he).2.1))
  have HR0 := Lib.hid hr0; have HB0 := Lib.hid hb0
  have hmf : ∀ (fn : Fn) (first cap : Array Value) (W : World), (Instr.makeFunc fn first cap).run Tryz.prog W = .ok (.func fn first cap) W := fun _ _ _ _ => rfl
  clear hS hf hb0 hx0 hr0
  go_enter Tryz.func7, Tryz.ntmps7
  go_wp2_with fail
  refine cE.out.mono ?_
  rintro x W2 ⟨t, n, rfl, hT, hR, hc⟩
  have hr := HR0.out.below hc HR0.out.lt
  have hb := HB0.out.trans (hc.mono HB0.out.size)
  have r0 := (hr.cell 0).trans rfl; have r1 := (hr.cell 1).trans rfl; have r2 := (hr.cell 2).trans rfl; have r3 := (hr.cell 3).trans rfl
  have g0 := hr.frozen 0; have g1 := hr.frozen 1; have g2 := hr.frozen 2; have g3 := hr.frozen 3
  have t4 := GS.set4 hr (.slice t.rA t.rules.length t.rc) (.slice t.zA t.zones.length t.zc) (.slice t.kA t.links.length t.kc) (.slice t.hA t.shifts.length t.hc)
  have k0 := (t4.2.cell 0).trans rfl; have k1 := (t4.2.cell 1).trans rfl; have k2 := (t4.2.cell 2).trans rfl; have k3 := (t4.2.cell 3).trans rfl
  have HT := Lib.hid (hT.step t4.1); have HR := Lib.hid hR; have HB := Lib.hid hb
  clear cE hT hR hc hr hb t4 hmf c0 c1 c2 c3
  go_wp2_with fail
  refine bodyPost_ret (v := .tuple #[.agg #[.slice t.rA t.rules.length t.rc, .slice t.zA t.zones.length t.zc, .slice t.kA t.links.length t.kc, .slice t.hA t.shifts.length t.hc], .int .i64 n]) (by simp [results, Tryz.results7, go_sem, k0, k1, k2, k3]) rfl ?_
  exact ⟨t, n, rfl, HT.out, HR.out, below_set4 HB.out (Nat.le_succ _) _ _ _ _⟩
set_option maxRecDepth 100000 in
set_option maxHeartbeats 8000000 in
theorem contract_any (s : SV) (w : World) (hS : SrcIn w s) (hf : Few30 s) (hv : Vars21 w) :
    Calls Tryz.prog 9 #[.agg #[.slice s.rA s.rules.length s.rc, .slice s.zA s.zones.length s.zc, .slice s.kA s.links.length s.kc, .slice s.hA s.shifts.length s.hc]] w fun x w' => ∃ (t : SV) (n : Int), x = .returned (.tuple #[.agg #[.slice t.rA t.rules.length t.rc, .slice t.zA t.zones.length t.zc, .slice t.kA t.links.length t.kc, .slice t.hA t.shifts.length t.hc], .int .i64 n]) ∧ SrcG w' t ∧ Res30 (coF s.rules) s t n ∧ Below w.heap.size w w' := by
  have hb0 := ((Below.refl w.heap.size w).alloc (Nat.le_refl _) (.cells #[.slice s.rA s.rules.length s.rc, .slice s.zA s.zones.length s.zc, .slice s.kA s.links.length s.kc, .slice s.hA s.shifts.length s.hc] 27)).alloc (by simp) (.cells #[.slice none 0 0, .slice none 0 0, .slice none 0 0, .slice none 0 0] 27)
  have hx0 := (Blk.new w 27 #[.slice s.rA s.rules.length s.rc, .slice s.zA s.zones.length s.zc, .slice s.kA s.links.length s.kc, .slice s.hA s.shifts.length s.hc]).alloc (.cells #[.slice none 0 0, .slice none 0 0, .slice none 0 0, .slice none 0 0] 27)
  have hr0 := Blk.newAt (w.alloc (.cells #[.slice s.rA s.rules.length s.rc, .slice s.zA s.zones.length s.zc, .slice s.kA s.links.length s.kc, .slice s.hA s.shifts.length s.hc] 27)) (w.heap.size + 1) (by simp) 27 #[.slice none 0 0, .slice none 0 0, .slice none 0 0, .slice none 0 0]
  have c0 := (hx0.cell 0).trans rfl; have c1 := (hx0.cell 1).trans rfl; have c2 := (hx0.cell 2).trans rfl; have c3 := (hx0.cell 3).trans rfl
  have cE := Lib.hid (each_any (coF s.rules) 20 #[.pointer (some ⟨w.heap.size, 0, none⟩)] s _ (hS.below hb0) hf (enters_of Tryz.func20 (by kernel_rfl) rfl)
    (fun z hz e he W hb => co_any s e w.heap.size W (hS.below (hb0.trans (hb.mono hb0.size))) (hx0.below hb hx0.lt) hf.lens.1 hf.saves (hf.nums z hz e he).1 (hf.nums z hz e he).2.1 (hf.nums z hz e he).2.2 (hv.below (hb0.trans (hb.mono hb0.size)))))
  have HR0 := Lib.hid hr0; have HB0 := Lib.hid hb0
  have hmf : ∀ (fn : Fn) (first cap : Array Value) (W : World), (Instr.makeFunc fn first cap).run Tryz.prog W = .ok (.func fn first cap) W := fun _ _ _ _ => rfl
  clear hS hf hb0 hx0 hr0 hv
  go_enter Tryz.func9, Tryz.ntmps9
  go_wp2_with fail
  refine cE.out.mono ?_
  rintro x W2 ⟨t, n, rfl, hT, hR, hc⟩
  have hr := HR0.out.below hc HR0.out.lt
  have hb := HB0.out.trans (hc.mono HB0.out.size)
  have r0 := (hr.cell 0).trans rfl; have r1 := (hr.cell 1).trans rfl; have r2 := (hr.cell 2).trans rfl; have r3 := (hr.cell 3).trans rfl
  have g0 := hr.frozen 0; have g1 := hr.frozen 1; have g2 := hr.frozen 2; have g3 := hr.frozen 3
  have t4 := GS.set4 hr (.slice t.rA t.rules.length t.rc) (.slice t.zA t.zones.length t.zc) (.slice t.kA t.links.length t.kc) (.slice t.hA t.shifts.length t.hc)
  have k0 := (t4.2.cell 0).trans rfl; have k1 := (t4.2.cell 1).trans rfl; have k2 := (t4.2.cell 2).trans rfl; have k3 := (t4.2.cell 3).trans rfl
  have HT := Lib.hid (hT.step t4.1); have HR := Lib.hid hR; have HB := Lib.hid hb
  clear cE hT hR hc hr hb t4 hmf c0 c1 c2 c3
  go_wp2_with fail
  refine bodyPost_ret (v := .tuple #[.agg #[.slice t.rA t.rules.length t.rc, .slice t.zA t.zones.length t.zc, .slice t.kA t.links.length t.kc, .slice t.hA t.shifts.length t.hc], .int .i64 n]) (by simp [results, Tryz.results9, go_sem, k0, k1, k2, k3]) rfl ?_
  exact ⟨t, n, rfl, HT.out, HR.out, below_set4 HB.out (Nat.le_succ _) _ _ _ _⟩
end Go.Proofs.YtlideagcmhlkeaaGreatDoor

/- The examples of chapter 30 (works), and turns for Expand and Contract. -/
namespace Go.Proofs.YtlideagcmhlkeaaGreatDoor
open Go.RowKit Go.Lib
set_option linter.unusedVariables false
set_option linter.unusedSimpArgs false

/-- what the sources of the examples keep within -/
def BdE (e : EV) (sv : List Int) : Prop := (-9223372036854775808 ≤ e.off ∧ e.off ≤ 9223372036854775807) ∧ (-9223372036854775808 ≤ e.save ∧ e.save ≤ 9223372036854775807) ∧ e.fmt.size ≤ 1000000 ∧ sv.length ≤ 100 ∧ ∀ y ∈ sv, -9223372036854775808 ≤ y ∧ y ≤ 9223372036854775807
theorem svs_one (sv : List Int) : svs (oneRs sv) = sv := by
  refine List.ext_getElem? fun i => ?_
  unfold svs oneRs
  rw [List.getElem?_map, List.getElem?_mapIdx]
  cases sv[i]? <;> rfl
theorem set_one (sv : List Int) : ofSet (oneRs sv) ⟨#[82]⟩ = oneRs sv := by
  unfold ofSet
  rw [List.filter_eq_self]
  intro r hr
  unfold oneRs at hr
  obtain ⟨i, hi, rfl⟩ := List.mem_mapIdx.1 hr
  exact decide_eq_true rfl
theorem few_one {t : SV} {e : EV} {sv : List Int} {eA : Option Addr} {ec : Nat} (hr : t.rules = oneRs sv) (hz : t.zones = [⟨⟨#[65]⟩, eA, ec, [e]⟩]) (hk : t.links = []) (hh : t.shifts = []) (hb : BdE e sv) : Few30 t := by
  obtain ⟨h1, h2, h3, h4, h5⟩ := hb
  refine ⟨⟨by rw [hr, oneRs_len]; omega, by rw [hz]; exact (by decide : 1 ≤ 1000), by rw [hk]; decide, by rw [hh]; decide⟩, fun z hm => ?_, fun z hm x hx => ?_, fun y hy => ?_⟩
  · rw [hz] at hm
    obtain rfl := List.mem_singleton.1 hm
    show 1 ≤ 1000
    decide
  · rw [hz] at hm
    obtain rfl := List.mem_singleton.1 hm
    obtain rfl := List.mem_singleton.1 hx
    exact ⟨h1, h2, h3⟩
  · rw [hr, svs_one] at hy
    exact h5 y hy
theorem turns_ex {t : SV} (e : EV) (sv : List Int) (want : ByteArray) (n : Int) (w : World) (hS : SrcG w t) (hq : t.rules = oneRs sv ∧ (∃ eA ec, t.zones = [⟨⟨#[65]⟩, eA, ec, [e]⟩]) ∧ t.links = [] ∧ t.shifts = []) (hb : BdE e sv) (hn : (exF (oneRs sv) e).2 = n) (hw : n = 0 → (exF (oneRs sv) e).1 = want) :
    Calls Tryz.prog 13 #[.func (.func 7) #[] #[], .agg #[.slice t.rA t.rules.length t.rc, .slice t.zA t.zones.length t.zc, .slice t.kA t.links.length t.kc, .slice t.hA t.shifts.length t.hc], .string want, .int .i64 n] w fun x w' => x = .returned (.bool true) ∧ Below w.heap.size w w' := by
  obtain ⟨hr, ⟨eA, ec, hz⟩, hk, hh⟩ := hq
  have hf := few_one hr hz hk hh hb
  exact turns_any _ (exF t.rules) t want n _ eA ec e w hS hf hz (enters_of Tryz.func7 (by kernel_rfl) rfl) (fun W h => expand_any t W (hS.below h).src hf) (by rw [hr]; exact hn) (fun h => by rw [hr]; exact hw h)
theorem turns_co {t : SV} (e : EV) (sv : List Int) (want : ByteArray) (n : Int) (w : World) (hv : Vars21 w) (hS : SrcG w t) (hq : t.rules = oneRs sv ∧ (∃ eA ec, t.zones = [⟨⟨#[65]⟩, eA, ec, [e]⟩]) ∧ t.links = [] ∧ t.shifts = []) (hb : BdE e sv) (hn : (coF (oneRs sv) e).2 = n) (hw : n = 0 → (coF (oneRs sv) e).1 = want) :
    Calls Tryz.prog 13 #[.func (.func 9) #[] #[], .agg #[.slice t.rA t.rules.length t.rc, .slice t.zA t.zones.length t.zc, .slice t.kA t.links.length t.kc, .slice t.hA t.shifts.length t.hc], .string want, .int .i64 n] w fun x w' => x = .returned (.bool true) ∧ Below w.heap.size w w' := by
  obtain ⟨hr, ⟨eA, ec, hz⟩, hk, hh⟩ := hq
  have hf := few_one hr hz hk hh hb
  exact turns_any _ (coF t.rules) t want n _ eA ec e w hS hf hz (enters_of Tryz.func9 (by kernel_rfl) rfl) (fun W h => contract_any t W (hS.below h).src hf (hv.below h)) (by rw [hr]; exact hn) (fun h => by rw [hr]; exact hw h)
theorem saves_in {w : World} {sv : List Int} (g : Nat) (t : TypeId) {cs : Array Value} (h : Blk w g t cs) (hc : cs.toList = sv.map (fun y => Value.int .i64 y)) : CellsIn 1 (fun y : Int => [Value.int .i64 y]) w (some ⟨g, 0, none⟩) sv := by
  intro k r hr
  refine ⟨g, 0, rfl, h.lt, fun j u hu => ?_⟩
  have hj : j = 0 := by have := (List.getElem?_eq_some_iff.1 hu).1; simp at this; omega
  subst hj
  injection hu with hu
  subst hu
  rw [show 0 + k * 1 + 0 = k by omega]
  refine (h.cell k).trans ?_
  rw [← Array.getElem?_toList, hc, List.getElem?_map, hr]
  rfl
theorem saves_nil (w : World) : CellsIn 1 (fun y : Int => [Value.int .i64 y]) w none [] := fun k r h => by simp at h
instance (e : EV) (sv : List Int) : Decidable (BdE e sv) := by unfold BdE; infer_instance
def nmE (off : Int) (f : ByteArray) : EV := ⟨off, 2, 0, ⟨#[82]⟩, f, false, 0, 0, 0, 0, 0, 0, 0⟩
set_option maxRecDepth 100000 in
set_option maxHeartbeats 16000000 in
theorem works30_any (w : World) (hv : Vars21 w) : Calls Tryz.prog 5 #[] w fun x w' => x = .returned (.bool true) ∧ Below w.heap.size w w' := by
  go_enter Tryz.func5, Tryz.ntmps5
  go_wp2_with fail
  refine (named_any 18000 ⟨#[37, 122]⟩ _).mono ?_
  rintro x Wn0 ⟨rfl, hc⟩
  have hn0 : Below w.heap.size w Wn0 := (Below.refl w.heap.size w).trans (hc.mono (Below.refl w.heap.size w).size)
  clear hc
  have hk0 := Blk.new Wn0 2 #[.int .i64 0, .int .i64 3600]
  have hm0 := hn0.alloc hn0.size (.cells #[.int .i64 0, .int .i64 3600] 2)
  have HK := Lib.hid hk0; have HM := Lib.hid hm0; clear hk0 hm0
  go_wp2_with fail
  refine (one_any (nmE 18000 ⟨#[37, 122]⟩) (some ⟨Wn0.heap.size, 0, none⟩) 2 [0, 3600] _ (by decide) (saves_in _ _ HK.out rfl)).mono ?_
  rintro x Wo0 ⟨t0, rfl, hS, hq, hc⟩
  have HS := Lib.hid hS; have HQ := Lib.hid hq; have HO := Lib.hid (HM.out.trans (hc.mono HM.out.size)); clear hS hq hc HM HK hn0
  go_wp2_with fail
  refine (turns_ex (nmE 18000 ⟨#[37, 122]⟩) [0, 3600] ⟨#[43, 48, 53, 47, 43, 48, 54]⟩ 0 _ HS.out HQ.out (by decide) (by decide +kernel) (by decide +kernel)).mono ?_
  rintro x Wt0 ⟨rfl, hc⟩
  have ht0 := HO.out.trans (hc.mono HO.out.size)
  clear hc HS HQ HO
  go_wp2_with fail
  refine (named_any 18000 ⟨#[43, 48, 53, 47, 43, 48, 54]⟩ _).mono ?_
  rintro x Wn1 ⟨rfl, hc⟩
  have hn1 : Below w.heap.size w Wn1 := ht0.trans (hc.mono ht0.size)
  clear hc ht0
  have hk1 := Blk.new Wn1 2 #[.int .i64 0, .int .i64 3600]
  have hm1 := hn1.alloc hn1.size (.cells #[.int .i64 0, .int .i64 3600] 2)
  have HK := Lib.hid hk1; have HM := Lib.hid hm1; clear hk1 hm1
  go_wp2_with fail
  refine (one_any (nmE 18000 ⟨#[43, 48, 53, 47, 43, 48, 54]⟩) (some ⟨Wn1.heap.size, 0, none⟩) 2 [0, 3600] _ (by decide) (saves_in _ _ HK.out rfl)).mono ?_
  rintro x Wo1 ⟨t1, rfl, hS, hq, hc⟩
  have HS := Lib.hid hS; have HQ := Lib.hid hq; have HO := Lib.hid (HM.out.trans (hc.mono HM.out.size)); clear hS hq hc HM HK hn1
  go_wp2_with fail
  refine (turns_co (nmE 18000 ⟨#[43, 48, 53, 47, 43, 48, 54]⟩) [0, 3600] ⟨#[37, 122]⟩ 0 _ (hv.below HO.out) HS.out HQ.out (by decide) (by decide +kernel) (by decide +kernel)).mono ?_
  rintro x Wt1 ⟨rfl, hc⟩
  have ht1 := HO.out.trans (hc.mono HO.out.size)
  clear hc HS HQ HO
  go_wp2_with fail
  have HM := Lib.hid ht1; clear ht1
  refine (one_any (⟨19800, 0, 0, ⟨#[]⟩, ⟨#[37, 122]⟩, false, 0, 0, 0, 0, 0, 0, 0⟩ : EV) none 0 [] _ (by decide) (saves_nil _)).mono ?_
  rintro x Wo2 ⟨t2, rfl, hS, hq, hc⟩
  have HS := Lib.hid hS; have HQ := Lib.hid hq; have HO := Lib.hid (HM.out.trans (hc.mono HM.out.size)); clear hS hq hc HM
  go_wp2_with fail
  refine (turns_ex (⟨19800, 0, 0, ⟨#[]⟩, ⟨#[37, 122]⟩, false, 0, 0, 0, 0, 0, 0, 0⟩ : EV) [] ⟨#[43, 48, 53, 51, 48]⟩ 0 _ HS.out HQ.out (by decide) (by decide +kernel) (by decide +kernel)).mono ?_
  rintro x Wt2 ⟨rfl, hc⟩
  have ht2 := HO.out.trans (hc.mono HO.out.size)
  clear hc HS HQ HO
  go_wp2_with fail
  have HM := Lib.hid ht2; clear ht2
  refine (one_any (⟨(-10800), 1, 3600, ⟨#[]⟩, ⟨#[37, 122]⟩, false, 0, 0, 0, 0, 0, 0, 0⟩ : EV) none 0 [] _ (by decide) (saves_nil _)).mono ?_
  rintro x Wo3 ⟨t3, rfl, hS, hq, hc⟩
  have HS := Lib.hid hS; have HQ := Lib.hid hq; have HO := Lib.hid (HM.out.trans (hc.mono HM.out.size)); clear hS hq hc HM
  go_wp2_with fail
  refine (turns_ex (⟨(-10800), 1, 3600, ⟨#[]⟩, ⟨#[37, 122]⟩, false, 0, 0, 0, 0, 0, 0, 0⟩ : EV) [] ⟨#[45, 48, 50]⟩ 0 _ HS.out HQ.out (by decide) (by decide +kernel) (by decide +kernel)).mono ?_
  rintro x Wt3 ⟨rfl, hc⟩
  have ht3 := HO.out.trans (hc.mono HO.out.size)
  clear hc HS HQ HO
  go_wp2_with fail
  refine (named_any 18000 ⟨#[37, 122]⟩ _).mono ?_
  rintro x Wn4 ⟨rfl, hc⟩
  have hn4 : Below w.heap.size w Wn4 := ht3.trans (hc.mono ht3.size)
  clear hc ht3
  have hk4 := Blk.new Wn4 2 #[.int .i64 0]
  have hm4 := hn4.alloc hn4.size (.cells #[.int .i64 0] 2)
  have HK := Lib.hid hk4; have HM := Lib.hid hm4; clear hk4 hm4
  go_wp2_with fail
  refine (one_any (nmE 18000 ⟨#[37, 122]⟩) (some ⟨Wn4.heap.size, 0, none⟩) 1 [0] _ (by decide) (saves_in _ _ HK.out rfl)).mono ?_
  rintro x Wo4 ⟨t4, rfl, hS, hq, hc⟩
  have HS := Lib.hid hS; have HQ := Lib.hid hq; have HO := Lib.hid (HM.out.trans (hc.mono HM.out.size)); clear hS hq hc HM HK hn4
  go_wp2_with fail
  refine (turns_ex (nmE 18000 ⟨#[37, 122]⟩) [0] ⟨#[43, 48, 53]⟩ 0 _ HS.out HQ.out (by decide) (by decide +kernel) (by decide +kernel)).mono ?_
  rintro x Wt4 ⟨rfl, hc⟩
  have ht4 := HO.out.trans (hc.mono HO.out.size)
  clear hc HS HQ HO
  go_wp2_with fail
  refine (named_any 18000 ⟨#[37, 122]⟩ _).mono ?_
  rintro x Wn5 ⟨rfl, hc⟩
  have hn5 : Below w.heap.size w Wn5 := ht4.trans (hc.mono ht4.size)
  clear hc ht4
  have hk5 := Blk.new Wn5 2 #[.int .i64 0, .int .i64 3600, .int .i64 7200]
  have hm5 := hn5.alloc hn5.size (.cells #[.int .i64 0, .int .i64 3600, .int .i64 7200] 2)
  have HK := Lib.hid hk5; have HM := Lib.hid hm5; clear hk5 hm5
  go_wp2_with fail
  refine (one_any (nmE 18000 ⟨#[37, 122]⟩) (some ⟨Wn5.heap.size, 0, none⟩) 3 [0, 3600, 7200] _ (by decide) (saves_in _ _ HK.out rfl)).mono ?_
  rintro x Wo5 ⟨t5, rfl, hS, hq, hc⟩
  have HS := Lib.hid hS; have HQ := Lib.hid hq; have HO := Lib.hid (HM.out.trans (hc.mono HM.out.size)); clear hS hq hc HM HK hn5
  go_wp2_with fail
  refine (turns_ex (nmE 18000 ⟨#[37, 122]⟩) [0, 3600, 7200] ⟨#[]⟩ 14 _ HS.out HQ.out (by decide) (by decide +kernel) (by decide +kernel)).mono ?_
  rintro x Wt5 ⟨rfl, hc⟩
  have ht5 := HO.out.trans (hc.mono HO.out.size)
  clear hc HS HQ HO
  go_wp2_with fail
  refine (named_any 18000 ⟨#[43, 48, 53, 47, 43, 48, 55]⟩ _).mono ?_
  rintro x Wn6 ⟨rfl, hc⟩
  have hn6 : Below w.heap.size w Wn6 := ht5.trans (hc.mono ht5.size)
  clear hc ht5
  have hk6 := Blk.new Wn6 2 #[.int .i64 0, .int .i64 3600]
  have hm6 := hn6.alloc hn6.size (.cells #[.int .i64 0, .int .i64 3600] 2)
  have HK := Lib.hid hk6; have HM := Lib.hid hm6; clear hk6 hm6
  go_wp2_with fail
  refine (one_any (nmE 18000 ⟨#[43, 48, 53, 47, 43, 48, 55]⟩) (some ⟨Wn6.heap.size, 0, none⟩) 2 [0, 3600] _ (by decide) (saves_in _ _ HK.out rfl)).mono ?_
  rintro x Wo6 ⟨t6, rfl, hS, hq, hc⟩
  have HS := Lib.hid hS; have HQ := Lib.hid hq; have HO := Lib.hid (HM.out.trans (hc.mono HM.out.size)); clear hS hq hc HM HK hn6
  go_wp2_with fail
  refine (turns_co (nmE 18000 ⟨#[43, 48, 53, 47, 43, 48, 55]⟩) [0, 3600] ⟨#[]⟩ 15 _ (hv.below HO.out) HS.out HQ.out (by decide) (by decide +kernel) (by decide +kernel)).mono ?_
  rintro x Wt6 ⟨rfl, hc⟩
  have ht6 := HO.out.trans (hc.mono HO.out.size)
  clear hc HS HQ HO
  go_wp2_with fail
  have HM := Lib.hid ht6; clear ht6
  refine (one_any (⟨18000, 0, 0, ⟨#[]⟩, ⟨#[71, 77, 84]⟩, false, 0, 0, 0, 0, 0, 0, 0⟩ : EV) none 0 [] _ (by decide) (saves_nil _)).mono ?_
  rintro x Wo7 ⟨t7, rfl, hS, hq, hc⟩
  have HS := Lib.hid hS; have HQ := Lib.hid hq; have HO := Lib.hid (HM.out.trans (hc.mono HM.out.size)); clear hS hq hc HM
  go_wp2_with fail
  refine (turns_co (⟨18000, 0, 0, ⟨#[]⟩, ⟨#[71, 77, 84]⟩, false, 0, 0, 0, 0, 0, 0, 0⟩ : EV) [] ⟨#[71, 77, 84]⟩ 0 _ (hv.below HO.out) HS.out HQ.out (by decide) (by decide +kernel) (by decide +kernel)).mono ?_
  rintro x Wt7 ⟨rfl, hc⟩
  have ht7 := HO.out.trans (hc.mono HO.out.size)
  clear hc HS HQ HO
  go_wp2_with fail
  have HM := Lib.hid ht7; clear ht7
  refine (one_any (⟨86400, 0, 0, ⟨#[]⟩, ⟨#[37, 122]⟩, false, 0, 0, 0, 0, 0, 0, 0⟩ : EV) none 0 [] _ (by decide) (saves_nil _)).mono ?_
  rintro x Wo8 ⟨t8, rfl, hS, hq, hc⟩
  have HS := Lib.hid hS; have HQ := Lib.hid hq; have HO := Lib.hid (HM.out.trans (hc.mono HM.out.size)); clear hS hq hc HM
  go_wp2_with fail
  refine (turns_ex (⟨86400, 0, 0, ⟨#[]⟩, ⟨#[37, 122]⟩, false, 0, 0, 0, 0, 0, 0, 0⟩ : EV) [] ⟨#[]⟩ 3 _ HS.out HQ.out (by decide) (by decide +kernel) (by decide +kernel)).mono ?_
  rintro x Wt8 ⟨rfl, hc⟩
  have ht8 := HO.out.trans (hc.mono HO.out.size)
  clear hc HS HQ HO
  go_wp2_with fail
  go_ret
  exact ⟨rfl, ht8⟩
end Go.Proofs.YtlideagcmhlkeaaGreatDoor

/- The walk of the reference's Expansion (chapter 20). -/
namespace Go.Proofs.YtlideagcmhlkeaaGreatDoor
open Go.RowKit
set_option linter.unusedVariables false

theorem ref_one (off save : Int) (l : List Int) : P20.expansion 0 off save l = P20.one (P20.text off) := rfl
theorem ref_fixed (off save : Int) (l : List Int) : P20.expansion 1 off save l = P20.one (P20.text (off + save)) := rfl
theorem ref_is (off save : Int) (l : List Int) (h : (P20.other l).2 = true) : P20.expansion 2 off save l = P20.both (P20.text off) (P20.text (off + (P20.other l).1)) := by
  show (if (P20.other l).2 = true then _ else _) = _
  rw [if_pos h]
theorem ref_isnt (off save : Int) (l : List Int) (h : (P20.other l).2 = false) : P20.expansion 2 off save l = if l.any (fun r => decide (r ≠ 0)) then ([], 14) else P20.one (P20.text off) := by
  show (if (P20.other l).2 = true then _ else _) = _
  rw [if_neg (by rw [h]; decide)]
theorem str_nil' : (str []).toList = [] := by rw [ByteArray.toList_eq]; rfl
theorem below_alloc_drewN (w : World) (ob : Obj) (n : Nat) : Below w.heap.size w ((w.alloc ob).drewN n) := below_drewN ((Below.refl _ _).alloc (Nat.le_refl _) _) n
theorem slash_str (S T : List UInt8) : str S ++ ByteArray.mk #[47] ++ str T = str (S ++ 47 :: T) := by
  rw [show ByteArray.mk #[47] = str [47] from rfl, str_append, str_append, List.append_assoc]; rfl
set_option maxRecDepth 100000 in
set_option maxHeartbeats 8000000 in
theorem rexpansion_any (off kind save : Int) (set fmt : ByteArray) (ui : Bool) (uy um dk dw dd asec ab : Int) (A : Option Addr) (L : List RV) (c : Nat) (w : World) (o64 : -9223372036854775808 ≤ off ∧ off ≤ 9223372036854775807) (s64 : -9223372036854775808 ≤ save ∧ save ≤ 9223372036854775807) (hl : L.length ≤ 1000000) (hsv : SvOk L) (hR : RulesIn w A L) :
    Calls Tryz.prog 31 #[.agg #[.int .i64 off, .int .i64 kind, .int .i64 save, .string set, .string fmt, .bool ui, .int .i64 uy, .int .i64 um, .int .i64 dk, .int .i64 dw, .int .i64 dd, .int .i64 asec, .int .i64 ab], .slice A L.length c] w fun e w' => e = .returned (.tuple #[.string (str (P20.expansion kind off save (svs L)).1), .int .i64 (P20.expansion kind off save (svs L)).2]) ∧ Below w.heap.size w w' := by
  have hR0 := hR.alloc (.cells #[.int .i64 off, .int .i64 kind, .int .i64 save, .string set, .string fmt, .bool ui, .int .i64 uy, .int .i64 um, .int .i64 dk, .int .i64 dw, .int .i64 dd, .int .i64 asec, .int .i64 ab] 48)
  have hli : (L.length : Int) ≤ 1000000 := by omega
  have c1 : Hid (∀ W, Calls Tryz.prog 42 #[.int .i64 off] W fun e w' => e = .returned (.string (str (P20.text off))) ∧ Q W w') := fun W => rtext_any off W o64.1 o64.2
  have ht7 := text_le off
  by_cases hk0 : kind = 0
  · subst hk0
    rw [ref_one, P20.one]
    generalize P20.text off = T at c1 ht7 ⊢
    clear hR hR0
    by_cases hT : T = []
    · subst hT
      have n1 := str_nil'
      rw [if_pos rfl]
      go_enter Tryz.func31, Tryz.ntmps31
      go_wp2_with fail
      refine (c1.out _).mono ?_
      rintro e w' ⟨rfl, m1, rfl⟩
      go_wp2_with fail
      go_ret2
      exact ⟨rfl, below_alloc_drewN _ _ _⟩
    · obtain ⟨n1, n2⟩ := str_ne (List.length_pos_iff.2 hT)
      rw [if_neg hT]
      clear hT
      go_enter Tryz.func31, Tryz.ntmps31
      go_wp2_with fail
      refine (c1.out _).mono ?_
      rintro e w' ⟨rfl, m1, rfl⟩
      go_wp2_with fail
      go_ret2
      exact ⟨rfl, below_alloc_drewN _ _ _⟩
  by_cases hk1 : kind = 1
  · subst hk1
    rw [ref_fixed, P20.one]
    have c2 : Hid (∀ W, Calls Tryz.prog 43 #[.int .i64 off, .int .i64 save] W fun e w' => e = .returned (.string (str (P20.text (off + save)))) ∧ Q W w') := fun W => rsum_any off save W o64.1 o64.2 s64.1 s64.2
    generalize P20.text (off + save) = T at c2 ⊢
    generalize P20.text off = T0 at c1 ht7
    clear hR hR0
    by_cases hT : T = []
    · subst hT
      have n1 := str_nil'
      rw [if_pos rfl]
      go_enter Tryz.func31, Tryz.ntmps31
      go_wp2_with fail
      refine (c1.out _).mono ?_
      rintro e w' ⟨rfl, m1, rfl⟩
      go_wp2_with fail
      refine (c2.out _).mono ?_
      rintro e w' ⟨rfl, m2, rfl⟩
      go_wp2_with fail
      go_ret2
      exact ⟨rfl, below_alloc_drewN _ _ _⟩
    · obtain ⟨n1, n2⟩ := str_ne (List.length_pos_iff.2 hT)
      rw [if_neg hT]
      clear hT
      go_enter Tryz.func31, Tryz.ntmps31
      go_wp2_with fail
      refine (c1.out _).mono ?_
      rintro e w' ⟨rfl, m1, rfl⟩
      go_wp2_with fail
      refine (c2.out _).mono ?_
      rintro e w' ⟨rfl, m2, rfl⟩
      go_wp2_with fail
      go_ret2
      exact ⟨rfl, below_alloc_drewN _ _ _⟩
  by_cases hk2 : kind = 2
  · subst hk2
    have cO : Hid (∀ W, RulesIn W A L → Calls Tryz.prog 44 #[.slice A L.length c] W fun e w' => e = .returned (.tuple #[.int .i64 (P20.other (svs L)).1, .bool (P20.other (svs L)).2]) ∧ Q W w') := fun W h => rother_any A L c W hl h
    obtain ⟨x0, x1⟩ := other_bd (svs L) hsv
    have e1 := ref_is off save (svs L)
    have e2 := ref_isnt off save (svs L)
    obtain ⟨X, hX⟩ : ∃ X, X = (P20.other (svs L)).1 := ⟨_, rfl⟩
    rw [← hX] at x0 x1 e1 cO
    clear hX hR
    have c2 : Hid (∀ W, Calls Tryz.prog 43 #[.int .i64 off, .int .i64 X] W fun e w' => e = .returned (.string (str (P20.text (off + X)))) ∧ Q W w') := fun W => rsum_any off X W o64.1 o64.2 x0 x1
    have hu7 := text_le (off + X)
    obtain ⟨R, hRR⟩ : ∃ R, R = P20.expansion 2 off save (svs L) := ⟨_, rfl⟩
    rw [← hRR] at e1 e2 ⊢
    clear hRR
    generalize P20.text (off + X) = U at e1 c2 hu7
    generalize P20.text off = T at e1 e2 c1 ht7
    generalize (P20.other (svs L)).2 = I at e1 e2 cO
    have hts : (str T).size ≤ 7 := ht7
    have hus : (str U).size ≤ 7 := hu7
    cases I with
    | true =>
      have HR : Hid (R = P20.both T U) := Lib.hid (e1 rfl)
      clear e1 e2
      go_enter Tryz.func31, Tryz.ntmps31
      go_wp2_with fail
      refine (c1.out _).mono ?_
      rintro e w' ⟨rfl, m1, rfl⟩
      have hR1 := hR0.drewN m1
      go_wp2_with fail
      refine (cO.out _ hR1).mono ?_
      rintro e w' ⟨rfl, m2, rfl⟩
      clear hR0
      have hR0 := hR1.drewN m2
      rw [World.drewN_drewN] at hR0
      clear hR1 cO c1
      go_wp2_with fail
      go_loop [11] (fun i => ∃ k : Nat, k ≤ L.length ∧ i = .int .i64 k) (fun i => L.length - (intOf i).toNat)
      case atStart => exact ⟨0, Nat.zero_le _, rfl⟩
      case round =>
        obtain ⟨k, hk, rfl⟩ := hrel
        by_cases hlt : k < L.length
        · obtain ⟨r, hr⟩ : ∃ r, L[k]? = some r := ⟨_, List.getElem?_eq_getElem hlt⟩
          obtain ⟨b, o, rfl, hlb, c0, c1', c2', c3, c4, c5, c6, c7, c8, c9, c10⟩ := hR0.get k r hr
          clear c0 c1' c2' c3 c4 c5 c6 c7 c8 c10
          have hki : (k : Int) < (L.length : Int) := by omega
          by_cases hz : r.save = 0
          · have e1 : (r.save != 0) = false := by rw [bne_eq_false_iff_eq]; exact hz
            clear hz hr hR0
            generalize r.save = sv at e1 c9
            go_wp2_with fail
            go_round
            case rel => exact ⟨k + 1, by omega, by go_num⟩
            case measure => simp [intOf]; omega
          · have e1 : (r.save != 0) = true := by rw [bne_iff_ne]; exact hz
            clear hz hr hR0
            generalize r.save = sv at e1 c9
            go_wp2_with fail
            go_round
            case rel => exact ⟨k + 1, by omega, by go_num⟩
            case measure => simp [intOf]; omega
        · obtain rfl : k = L.length := by omega
          have hki : ¬ (L.length : Int) < (L.length : Int) := by omega
          clear hR0
          by_cases hT : T = []
          · subst hT
            have n1 := str_nil'
            have HG : Hid (R = ([], 3)) := Lib.hid (HR.out.trans (if_pos (.inl rfl)))
            clear HR
            go_wp2_with fail
            refine (c2.out _).mono ?_
            rintro e w' ⟨rfl, m3, rfl⟩
            go_wp2_with fail
            go_ret2
            exact ⟨by rw [HG.out]; rfl, below_alloc_drewN _ _ _⟩
          · obtain ⟨n1, n2⟩ := str_ne (List.length_pos_iff.2 hT)
            by_cases hU : U = []
            · have HG : Hid (R = ([], 3)) := Lib.hid (HR.out.trans (if_pos (.inr hU)))
              subst hU
              have n3 := str_nil'
              clear HR hT
              go_wp2_with fail
              refine (c2.out _).mono ?_
              rintro e w' ⟨rfl, m3, rfl⟩
              go_wp2_with fail
              go_ret2
              exact ⟨by rw [HG.out]; rfl, below_alloc_drewN _ _ _⟩
            · obtain ⟨n3, n4⟩ := str_ne (List.length_pos_iff.2 hU)
              have HG : Hid (R = (T ++ 47 :: U, 0)) := Lib.hid (HR.out.trans (if_neg (fun q => q.elim hT hU)))
              have HS := Lib.hid (slash_str T U)
              clear HR hT hU
              go_wp2_with fail
              refine (c2.out _).mono ?_
              rintro e w' ⟨rfl, m3, rfl⟩
              go_wp2_with fail
              go_ret2
              exact ⟨by rw [HG.out, ← HS.out]; rfl, below_alloc_drewN _ _ _⟩
    | false =>
      have HR := Lib.hid (e2 rfl)
      clear e1 e2
      go_enter Tryz.func31, Tryz.ntmps31
      go_wp2_with fail
      refine (c1.out _).mono ?_
      rintro e w' ⟨rfl, m1, rfl⟩
      have hR1 := hR0.drewN m1
      go_wp2_with fail
      refine (cO.out _ hR1).mono ?_
      rintro e w' ⟨rfl, m2, rfl⟩
      clear hR0
      have hR0 := hR1.drewN m2
      rw [World.drewN_drewN] at hR0
      clear hR1 cO c1
      go_wp2_with fail
      go_loop [11] (fun i => ∃ k : Nat, k ≤ L.length ∧ i = .int .i64 k ∧ Hid (∀ j r, j < k → L[j]? = some r → r.save = 0)) (fun i => L.length - (intOf i).toNat)
      case atStart => exact ⟨0, Nat.zero_le _, rfl, fun j r hj => absurd hj (Nat.not_lt_zero _)⟩
      case round =>
        obtain ⟨k, hk, rfl, HN⟩ := hrel
        by_cases hlt : k < L.length
        · obtain ⟨r, hr⟩ : ∃ r, L[k]? = some r := ⟨_, List.getElem?_eq_getElem hlt⟩
          obtain ⟨b, o, rfl, hlb, c0, c1', c2', c3, c4, c5, c6, c7, c8, c9, c10⟩ := hR0.get k r hr
          clear c0 c1' c2' c3 c4 c5 c6 c7 c8 c10
          have hki : (k : Int) < (L.length : Int) := by omega
          have z0 := fun q => any_hit hr q
          have z1 : r.save = 0 → ∀ j r', j < k + 1 → L[j]? = some r' → r'.save = 0 := fun q j r' hj hr' => by
            rcases Nat.lt_succ_iff_lt_or_eq.mp hj with hj | hj
            · exact HN.out j r' hj hr'
            · rw [hj, hr] at hr'; injection hr' with hr'; rw [← hr']; exact q
          by_cases hz : r.save = 0
          · have HZ := Lib.hid (z1 hz)
            have e1 : (r.save != 0) = false := by rw [bne_eq_false_iff_eq]; exact hz
            clear hz hr z0 z1 hR0 HN
            generalize r.save = sv at e1 c9
            go_wp2_with fail
            go_round
            case rel => exact ⟨k + 1, by omega, by go_num, HZ⟩
            case measure => simp [intOf]; omega
          · have HG : Hid (R = ([], 14)) := Lib.hid (HR.out.trans (if_pos (z0 hz)))
            have e1 : (r.save != 0) = true := by rw [bne_iff_ne]; exact hz
            clear hz hr z0 z1 hR0 HN
            generalize r.save = sv at e1 c9
            go_wp2_with fail
            go_ret2
            exact ⟨by rw [HG.out]; rfl, below_alloc_drewN _ _ _⟩
        · obtain rfl : k = L.length := by omega
          have hki : ¬ (L.length : Int) < (L.length : Int) := by omega
          clear hR0
          have hno := any_no HN.out
          have HQ : Hid (R = P20.one T) := Lib.hid (HR.out.trans (if_neg (by rw [hno]; decide)))
          clear hno HR HN
          by_cases hT : T = []
          · have HG : Hid (R = ([], 3)) := Lib.hid (HQ.out.trans (if_pos hT))
            subst hT
            have n1 := str_nil'
            clear HQ
            go_wp2_with fail
            refine (c2.out _).mono ?_
            rintro e w' ⟨rfl, m3, rfl⟩
            go_wp2_with fail
            go_ret2
            exact ⟨by rw [HG.out]; rfl, below_alloc_drewN _ _ _⟩
          · obtain ⟨n1, n2⟩ := str_ne (List.length_pos_iff.2 hT)
            have HG : Hid (R = (T, 0)) := Lib.hid (HQ.out.trans (if_neg hT))
            clear HQ hT
            go_wp2_with fail
            refine (c2.out _).mono ?_
            rintro e w' ⟨rfl, m3, rfl⟩
            go_wp2_with fail
            go_ret2
            exact ⟨by rw [HG.out]; rfl, below_alloc_drewN _ _ _⟩
  have hq : kind < 0 ∨ 2 < kind := by omega
  rw [exp_else kind off save (svs L) hq]
  clear hk0 hk1 hk2 hR hR0
  rcases hq with hq | hq
  · skip
    go_enter Tryz.func31, Tryz.ntmps31
    go_wp2_with fail
    go_ret2
    exact ⟨rfl, (Below.refl _ _).alloc (Nat.le_refl _) _⟩
  · have hq' : ¬ kind < 0 := by omega
    go_enter Tryz.func31, Tryz.ntmps31
    go_wp2_with fail
    go_ret2
    exact ⟨rfl, (Below.refl _ _).alloc (Nat.le_refl _) _⟩
end Go.Proofs.YtlideagcmhlkeaaGreatDoor

/- The reference of chapter 30: the rules of a set, what stands for %z. -/
namespace Go.Proofs.YtlideagcmhlkeaaGreatDoor
open Go.RowKit Go.Lib
set_option linter.unusedVariables false
set_option linter.unusedSimpArgs false

set_option maxRecDepth 100000 in
set_option maxHeartbeats 8000000 in
theorem rsetof_any (s : SV) (nm : ByteArray) (w : World) (hS : SrcIn w s) (hl : s.rules.length ≤ 100000) :
    Calls Tryz.prog 30 #[.agg #[.slice s.rA s.rules.length s.rc, .slice s.zA s.zones.length s.zc, .slice s.kA s.links.length s.kc, .slice s.hA s.shifts.length s.hc], .string nm] w fun e w' => ∃ A c, e = .returned (.slice A (ofSet s.rules nm).length c) ∧ RulesIn w' A (ofSet s.rules nm) ∧ Below w.heap.size w w' := by
  have HS := Lib.hid hS
  clear hS
  have hB := Blk.new w 27 #[.slice s.rA s.rules.length s.rc, .slice s.zA s.zones.length s.zc, .slice s.kA s.links.length s.kc, .slice s.hA s.shifts.length s.hc]
  have hb0 := (Below.refl _ w).alloc (Nat.le_refl _) (.cells #[.slice s.rA s.rules.length s.rc, .slice s.zA s.zones.length s.zc, .slice s.kA s.links.length s.kc, .slice s.hA s.shifts.length s.hc] 27)
  have HB := Lib.hid hB; have HBL := Lib.hid hb0
  have hL2 : (s.rules.length : Int) ≤ 100000 := by omega
  clear hB hb0
  go_enter Tryz.func30, Tryz.ntmps30
  go_wp2_with fail
  go_loopw [5, 6] (fun v i W => ∃ k : Nat, k ≤ s.rules.length ∧ i = .int .i64 k ∧ W.ownsRow (w.heap.size + 1) 41 11 v (ofSet (s.rules.take k) nm).length ((ofSet (s.rules.take k) nm).flatMap RV.cells) ∧ Below w.heap.size w W ∧ Blk W w.heap.size 27 #[.slice s.rA s.rules.length s.rc, .slice s.zA s.zones.length s.zc, .slice s.kA s.links.length s.kc, .slice s.hA s.shifts.length s.hc]) (fun _ i _ => s.rules.length - (intOf i).toNat)
  case atStart => exact ⟨0, Nat.zero_le _, rfl, by simpa [ofSet] using World.ownsRow_nil .., HBL.out, HB.out⟩
  case round =>
    clear HB HBL
    obtain ⟨k, hk, rfl, hrow, hbl, hbk⟩ := hrel
    have c0 := (hbk.cell 0).trans rfl
    by_cases hlt : k < s.rules.length
    · have hki : (k : Int) < (s.rules.length : Int) := by omega
      obtain ⟨r, hr⟩ : ∃ r, s.rules[k]? = some r := ⟨_, List.getElem?_eq_getElem hlt⟩
      obtain ⟨g, o, hA, hg, hc⟩ := (HS.out.rules.below hbl) k r hr
      have x0 : wr.cell? ⟨g, o + k * 11, none⟩ = some (.string r.name) := hc 0 _ rfl
      have x1 := hc 1 _ rfl
      have x2 := hc 2 _ rfl
      have x3 := hc 3 _ rfl
      have x4 := hc 4 _ rfl
      have x5 := hc 5 _ rfl
      have x6 := hc 6 _ rfl
      have x7 := hc 7 _ rfl
      have x8 := hc 8 _ rfl
      have x9 := hc 9 _ rfl
      have x10 := hc 10 _ rfl
      have HSN := Lib.hid (ofSet_snoc (nm := nm) hr)
      have HLN := Lib.hid (ofSet_len s.rules k nm)
      have HL := Lib.hid hl; have HLT := Lib.hid hlt
      have HBL := Lib.hid hbl; have HBK := Lib.hid hbk
      have HRW := Lib.hid hrow
      rw [hA] at c0
      clear hc hr hrow hbl hbk hlt hl hA
      by_cases hq : r.name = nm
      · have hd : (r.name.toList == nm.toList) = true := by rw [hq]; simp
        have HQ := Lib.hid hq
        clear hq
        obtain ⟨i1, hi, hz0, hz1, hz2⟩ := info_parts infoRuleC
        have hal := (Below.refl wr.heap.size wr).alloc (Nat.le_refl _) (.cells #[.string r.name, .int .i64 r.frm, .int .i64 r.til, .int .i64 r.month, .int .i64 r.dk, .int .i64 r.dw, .int .i64 r.dd, .int .i64 r.asec, .int .i64 r.abase, .int .i64 r.save, .string r.letter] 41)
        have HO := Lib.hid (own_below HRW.out hal)
        have HB2 := Lib.hid (HBL.out.trans (hal.mono HBL.out.size))
        have HK2 := Lib.hid (HBK.out.below hal HBK.out.lt)
        have HNB := Lib.hid (Blk.new wr 41 #[.string r.name, .int .i64 r.frm, .int .i64 r.til, .int .i64 r.month, .int .i64 r.dk, .int .i64 r.dw, .int .i64 r.dd, .int .i64 r.asec, .int .i64 r.abase, .int .i64 r.save, .string r.letter])
        have HSB := Lib.hid (show w.heap.size + 1 ≤ (wr.alloc (.cells #[.string r.name, .int .i64 r.frm, .int .i64 r.til, .int .i64 r.month, .int .i64 r.dk, .int .i64 r.dw, .int .i64 r.dd, .int .i64 r.asec, .int .i64 r.abase, .int .i64 r.save, .string r.letter] 41)).heap.size from HK2.out.lt)
        clear hal HRW
        go_wp2_with (at_builtin; refine wpList_append_own _ rfl _ _ 22 rfl (w.heap.size + 1) 41 i1 _ 11 104 Tryz.underlying22 hi hz0 hz1 hz2 rfl (by decide) _ _ _ rfl HO.out ⟨wr.heap.size, 0, none⟩ 1 1 r.cells rfl rfl (blk_cells HNB.out) (one_rule r) (by have := HLN.out; have := HL.out; simp only [maxLen]; omega) (by have := HLN.out; have := HL.out; omega) HSB.out ?_)
        intro v1 W6 hown hgr hne
        have HOW := Lib.hid hown
        have HGR := Lib.hid (own_grown HB2.out HO.out hgr HB2.out.size (by omega))
        have HK6 := Lib.hid (blk_grown HK2.out HO.out hgr (Nat.lt_succ_self _))
        clear hown hgr hne hi hz0 hz1 hz2 HNB HO c0 x0 x1 x2 x3 x4 x5 x6 x7 x8 x9 x10
        go_wp2_with fail
        go_roundw
        case rel => exact ⟨k + 1, by have := HLT.out; omega, by go_num, by rw [HSN.out, if_pos HQ.out, List.length_append, List.flatMap_append, List.flatMap_singleton]; exact HOW.out, HGR.out, HK6.out⟩
        case measure => have := HLT.out; simp [intOf]; omega
      · have hd : (r.name.toList == nm.toList) = false := eq_b _ _ hq
        have HQ := Lib.hid hq
        clear hq
        go_wp2_with fail
        go_roundw
        case rel => exact ⟨k + 1, by have := HLT.out; omega, by go_num, by rw [HSN.out, if_neg HQ.out, List.append_nil]; exact HRW.out, HBL.out, HBK.out⟩
        case measure => have := HLT.out; simp [intOf]; omega
    · obtain rfl : k = s.rules.length := by omega
      have hrow2 := hrow
      rw [List.take_length] at hrow2
      obtain ⟨A, c, rfl⟩ := row_is hrow2
      have HR := Lib.hid (RowOf.cellsIn (show RowOf wr (w.heap.size + 1) 41 11 RV.cells A c (ofSet s.rules nm) from hrow2) len_rule)
      have HBL := Lib.hid hbl
      clear hrow hrow2 hbl hbk
      go_wp2_with fail
      go_ret
      exact ⟨A, c, rfl, HR.out, HBL.out⟩
set_option maxRecDepth 100000 in
set_option maxHeartbeats 8000000 in
theorem rnum30_any (s : SV) (e : EV) (w : World) (hS : SrcIn w s) (hl : s.rules.length ≤ 1000) (hsv : SvOk s.rules) (h1 : -9223372036854775808 ≤ e.off ∧ e.off ≤ 9223372036854775807) (h2 : -9223372036854775808 ≤ e.save ∧ e.save ≤ 9223372036854775807) :
    Calls Tryz.prog 19 #[.agg #[.slice s.rA s.rules.length s.rc, .slice s.zA s.zones.length s.zc, .slice s.kA s.links.length s.kc, .slice s.hA s.shifts.length s.hc], .agg #[.int .i64 e.off, .int .i64 e.kind, .int .i64 e.save, .string e.set, .string e.fmt, .bool e.ui, .int .i64 e.uy, .int .i64 e.um, .int .i64 e.dk, .int .i64 e.dw, .int .i64 e.dd, .int .i64 e.asec, .int .i64 e.ab]] w fun x w' => x = .returned (.tuple #[.string (num30 s.rules e).1, .int .i64 (num30 s.rules e).2]) ∧ Below w.heap.size w w' := by
  have hB := (Blk.new w 27 #[.slice s.rA s.rules.length s.rc, .slice s.zA s.zones.length s.zc, .slice s.kA s.links.length s.kc, .slice s.hA s.shifts.length s.hc]).alloc (.cells #[.int .i64 e.off, .int .i64 e.kind, .int .i64 e.save, .string e.set, .string e.fmt, .bool e.ui, .int .i64 e.uy, .int .i64 e.um, .int .i64 e.dk, .int .i64 e.dw, .int .i64 e.dd, .int .i64 e.asec, .int .i64 e.ab] 48)
  have hE := Blk.newAt (w.alloc (.cells #[.slice s.rA s.rules.length s.rc, .slice s.zA s.zones.length s.zc, .slice s.kA s.links.length s.kc, .slice s.hA s.shifts.length s.hc] 27)) (w.heap.size + 1) (by simp) 48 #[.int .i64 e.off, .int .i64 e.kind, .int .i64 e.save, .string e.set, .string e.fmt, .bool e.ui, .int .i64 e.uy, .int .i64 e.um, .int .i64 e.dk, .int .i64 e.dw, .int .i64 e.dd, .int .i64 e.asec, .int .i64 e.ab]
  have hb0 := ((Below.refl _ w).alloc (Nat.le_refl _) (.cells #[.slice s.rA s.rules.length s.rc, .slice s.zA s.zones.length s.zc, .slice s.kA s.links.length s.kc, .slice s.hA s.shifts.length s.hc] 27)).alloc (by simp) (.cells #[.int .i64 e.off, .int .i64 e.kind, .int .i64 e.save, .string e.set, .string e.fmt, .bool e.ui, .int .i64 e.uy, .int .i64 e.um, .int .i64 e.dk, .int .i64 e.dw, .int .i64 e.dd, .int .i64 e.asec, .int .i64 e.ab] 48)
  have cX : Hid (∀ (A : Option Addr) (L : List RV) (c : Nat) (W : World), L.length ≤ 1000000 → SvOk L → RulesIn W A L → Calls Tryz.prog 31 #[.agg #[.int .i64 e.off, .int .i64 e.kind, .int .i64 e.save, .string e.set, .string e.fmt, .bool e.ui, .int .i64 e.uy, .int .i64 e.um, .int .i64 e.dk, .int .i64 e.dw, .int .i64 e.dd, .int .i64 e.asec, .int .i64 e.ab], .slice A L.length c] W fun x w' => x = .returned (.tuple #[.string (str (P20.expansion e.kind e.off e.save (svs L)).1), .int .i64 (P20.expansion e.kind e.off e.save (svs L)).2]) ∧ Below W.heap.size W w') := Lib.hid fun A L c W a b d => rexpansion_any e.off e.kind e.save e.set e.fmt e.ui e.uy e.um e.dk e.dw e.dd e.asec e.ab A L c W h1 h2 a b d
  have cO : Hid (∀ W, Below w.heap.size w W → Calls Tryz.prog 30 #[.agg #[.slice s.rA s.rules.length s.rc, .slice s.zA s.zones.length s.zc, .slice s.kA s.links.length s.kc, .slice s.hA s.shifts.length s.hc], .string e.set] W fun x w' => ∃ A c, x = .returned (.slice A (ofSet s.rules e.set).length c) ∧ RulesIn w' A (ofSet s.rules e.set) ∧ Below W.heap.size W w') := Lib.hid fun W hb => rsetof_any s e.set W (hS.below hb) (by omega)
  have HOL := Lib.hid (show (ofSet s.rules e.set).length ≤ 1000000 from Nat.le_trans (List.length_filter_le ..) (by omega))
  have HOS := Lib.hid (show SvOk (ofSet s.rules e.set) from fun y hy => by
    obtain ⟨r, hr, rfl⟩ := List.mem_map.1 hy
    exact hsv _ (List.mem_map.2 ⟨r, (List.mem_filter.1 hr).1, rfl⟩))
  have HB := Lib.hid hB; have HE := Lib.hid hE; have HBL := Lib.hid hb0
  have e1 := (HE.out.cell 1).trans rfl
  clear hS hl hsv h1 h2 hB hE hb0
  by_cases hk : e.kind = 2
  · have HN := Lib.hid (show num30 s.rules e = (str (P20.expansion e.kind e.off e.save (svs (ofSet s.rules e.set))).1, (P20.expansion e.kind e.off e.save (svs (ofSet s.rules e.set))).2) from by unfold num30; rw [if_pos hk])
    have hd : (e.kind == 2) = true := by rw [hk]; rfl
    have b0 := (HB.out.cell 0).trans rfl
    have b1 := (HB.out.cell 1).trans rfl
    have b2 := (HB.out.cell 2).trans rfl
    have b3 := (HB.out.cell 3).trans rfl
    have e3 := (HE.out.cell 3).trans rfl
    clear hk
    go_enter Tryz.func19, Tryz.ntmps19
    go_wp2_with fail
    refine (cO.out _ HBL.out).mono ?_
    rintro x w2 ⟨A, c, rfl, hR2, hc2⟩
    have HE2 := Lib.hid (HE.out.below hc2 HE.out.lt)
    have HBL2 := Lib.hid (HBL.out.trans (hc2.mono HBL.out.size)); have HR2 := Lib.hid hR2
    clear hR2 hc2 b0 b1 b2 b3 e1 e3
    have e0 := (HE2.out.cell 0).trans rfl
    have e1 := (HE2.out.cell 1).trans rfl
    have e2 := (HE2.out.cell 2).trans rfl
    have e3 := (HE2.out.cell 3).trans rfl
    have e4 := (HE2.out.cell 4).trans rfl
    have e5 := (HE2.out.cell 5).trans rfl
    have e6 := (HE2.out.cell 6).trans rfl
    have e7 := (HE2.out.cell 7).trans rfl
    have e8 := (HE2.out.cell 8).trans rfl
    have e9 := (HE2.out.cell 9).trans rfl
    have e10 := (HE2.out.cell 10).trans rfl
    have e11 := (HE2.out.cell 11).trans rfl
    have e12 := (HE2.out.cell 12).trans rfl
    go_wp2_with fail
    refine (cX.out _ _ _ _ HOL.out HOS.out HR2.out).mono ?_
    rintro x w3 ⟨rfl, hc3⟩
    go_wp2_with fail
    go_ret2
    exact ⟨by rw [HN.out]; rfl, HBL2.out.trans (hc3.mono HBL2.out.size)⟩
  · have HN := Lib.hid (show num30 s.rules e = (str (P20.expansion e.kind e.off e.save (svs [])).1, (P20.expansion e.kind e.off e.save (svs [])).2) from by unfold num30; rw [if_neg hk])
    have hd : (e.kind == 2) = false := by simpa using hk
    clear e1 hk
    have e0 := (HE.out.cell 0).trans rfl
    have e1 := (HE.out.cell 1).trans rfl
    have e2 := (HE.out.cell 2).trans rfl
    have e3 := (HE.out.cell 3).trans rfl
    have e4 := (HE.out.cell 4).trans rfl
    have e5 := (HE.out.cell 5).trans rfl
    have e6 := (HE.out.cell 6).trans rfl
    have e7 := (HE.out.cell 7).trans rfl
    have e8 := (HE.out.cell 8).trans rfl
    have e9 := (HE.out.cell 9).trans rfl
    have e10 := (HE.out.cell 10).trans rfl
    have e11 := (HE.out.cell 11).trans rfl
    have e12 := (HE.out.cell 12).trans rfl
    go_enter Tryz.func19, Tryz.ntmps19
    go_wp2_with fail
    refine (cX.out none [] 0 _ (by simp) (fun y hy => by simp [svs] at hy) (RulesIn.nil _ _)).mono ?_
    rintro x w3 ⟨rfl, hc3⟩
    go_wp2_with fail
    go_ret2
    exact ⟨by rw [HN.out]; rfl, HBL.out.trans (hc3.mono HBL.out.size)⟩
end Go.Proofs.YtlideagcmhlkeaaGreatDoor

/- The walks of the reference's Kind, of both Parts, of right and Add (chapter 21). -/
namespace Go.Proofs.YtlideagcmhlkeaaGreatDoor
open Go.RowKit Go.Lib
set_option linter.unusedVariables false

theorem slashR_is (l : List UInt8) : (slashR l).2.2 = (P21.slash l).2.2 := by
  unfold slashR
  cases h : (P21.slash l).2.2 with
  | true => rw [if_pos rfl, h]
  | false => rw [if_neg (by simp)]
theorem slashR_hit {l : List UInt8} (h : (P21.slash l).2.2 = true) : slashR l = P21.slash l := by unfold slashR; rw [if_pos h]
theorem slashR_len (s : ByteArray) : (str (slashR (P4.bl s)).1).size + (str (slashR (P4.bl s)).2.1).size ≤ s.size := by
  cases h : (P21.slash (P4.bl s)).2.2 with
  | true => rw [slashR_hit h]; exact lss_cut s
  | false => unfold slashR; rw [h, if_neg (by simp)]; simp [str_size]
theorem kind_testsR (l : List UInt8) : P21.kind l = if P21.abbr l = true then 1 else if ((slashR l).2.2 && P21.abbr (slashR l).1 && P21.abbr (slashR l).2.1) = true then 2 else if (letterR l).2.2 = true then 3 else if l = [37, 122] then 4 else if (P21.num l || ((slashR l).2.2 && P21.num (slashR l).1 && P21.num (slashR l).2.1)) = true then 5 else 0 := by
  rw [kind_tests, letterR_is, slashR_is]
  cases h : (P21.slash l).2.2 with
  | true => rw [slashR_hit h]
  | false => rfl
set_option maxRecDepth 100000 in
set_option maxHeartbeats 8000000 in
theorem rkind_any (s : ByteArray) (w : World) (hs : s.size ≤ 1000000) :
    Calls Tryz.prog 22 #[.string s] w fun e w' => e = .returned (.int .i64 (P21.kind (P4.bl s))) ∧ Below w.heap.size w w' := by
  have cC : Hid (∀ W, Calls Tryz.prog 36 #[.string s] W fun e w' => e = .returned (.tuple #[.string (str (slashR (P4.bl s)).1), .string (str (slashR (P4.bl s)).2.1), .bool (slashR (P4.bl s)).2.2]) ∧ Q W w') := fun W => rslash_any s W hs
  have cL : Hid (∀ W, Calls Tryz.prog 37 #[.string s] W fun e w' => e = .returned (.tuple #[.string (str (letterR (P4.bl s)).1), .string (str (letterR (P4.bl s)).2.1), .bool (letterR (P4.bl s)).2.2]) ∧ Q W w') := fun W => rletter21_any s W hs
  have rA : ∀ (t : ByteArray) (W : World), t.size ≤ 1000000 → Calls Tryz.prog 38 #[.string t] W fun e w' => e = .returned (.bool (P21.abbr (P4.bl t))) ∧ Q W w' := fun t W h => (rabbr_any t W h).mono fun _ _ ⟨h1, h2⟩ => ⟨h1, h2 ▸ Q.refl _⟩
  have cA : Hid (∀ W, Calls Tryz.prog 38 #[.string s] W fun e w' => e = .returned (.bool (P21.abbr (P4.bl s))) ∧ Q W w') := fun W => rA s W hs
  have cI : Hid (∀ W, Calls Tryz.prog 39 #[.string s] W fun e w' => e = .returned (.bool (P21.num (P4.bl s))) ∧ Q W w') := fun W => rnumber_any s W hs
  have hsl := slashR_len s
  have cA1 : Hid (∀ W, Calls Tryz.prog 38 #[.string (str (slashR (P4.bl s)).1)] W fun e w' => e = .returned (.bool (P21.abbr (slashR (P4.bl s)).1)) ∧ Q W w') := fun W => rA (str (slashR (P4.bl s)).1) W (by omega)
  have cA2 : Hid (∀ W, Calls Tryz.prog 38 #[.string (str (slashR (P4.bl s)).2.1)] W fun e w' => e = .returned (.bool (P21.abbr (slashR (P4.bl s)).2.1)) ∧ Q W w') := fun W => rA (str (slashR (P4.bl s)).2.1) W (by omega)
  have cI1 : Hid (∀ W, Calls Tryz.prog 39 #[.string (str (slashR (P4.bl s)).1)] W fun e w' => e = .returned (.bool (P21.num (slashR (P4.bl s)).1)) ∧ Q W w') := fun W => rnumber_any (str (slashR (P4.bl s)).1) W (by omega)
  have cI2 : Hid (∀ W, Calls Tryz.prog 39 #[.string (str (slashR (P4.bl s)).2.1)] W fun e w' => e = .returned (.bool (P21.num (slashR (P4.bl s)).2.1)) ∧ Q W w') := fun W => rnumber_any (str (slashR (P4.bl s)).2.1) W (by omega)
  obtain ⟨R, hR⟩ : ∃ R, P21.kind (P4.bl s) = R := ⟨_, rfl⟩
  rw [hR]
  rw [kind_testsR] at hR
  have hz : (P4.bl s = [37, 122] ∧ (s.toList == [37, 122]) = true) ∨ (¬ P4.bl s = [37, 122] ∧ (s.toList == [37, 122]) = false) := by
    by_cases q : P4.bl s = [37, 122]
    · refine .inl ⟨q, ?_⟩
      have : s = str [37, 122] := by rw [← q]; exact (str_bl s).symm
      rw [this, str_toList]; rfl
    · exact .inr ⟨q, by have x := eq_b s (str [37, 122]) (ne_size q); rwa [str_toList] at x⟩
  clear rA
  generalize P21.abbr (P4.bl s) = A at hR cA
  generalize P21.num (P4.bl s) = I at hR cI
  generalize P21.abbr (slashR (P4.bl s)).1 = A1 at hR cA1
  generalize P21.abbr (slashR (P4.bl s)).2.1 = A2 at hR cA2
  generalize P21.num (slashR (P4.bl s)).1 = I1 at hR cI1
  generalize P21.num (slashR (P4.bl s)).2.1 = I2 at hR cI2
  generalize (slashR (P4.bl s)).2.2 = T at hR cC
  generalize (letterR (P4.bl s)).2.2 = L at hR cL
  generalize str (slashR (P4.bl s)).1 = SA at cC cA1 cI1
  generalize str (slashR (P4.bl s)).2.1 = SB at cC cA2 cI2
  generalize str (letterR (P4.bl s)).1 = PA at cL
  generalize str (letterR (P4.bl s)).2.1 = PB at cL
  have HR := Lib.hid hR
  clear hR hsl hs
  cases A with
  | true =>
    go_enter Tryz.func22, Tryz.ntmps22
    go_wp2_with fail
    refine (cC.out _).mono ?_
    rintro e w1 ⟨rfl, hc10⟩
    have hc1 := hc10.below w.heap.size
    have hb1 := hc1
    go_wp2_with fail
    refine (cL.out _).mono ?_
    rintro e w2 ⟨rfl, hc20⟩
    have hc2 := hc20.below w1.heap.size
    have hb2 := hb1.trans (hc2.mono hb1.size)
    go_wp2_with fail
    refine (cA.out _).mono ?_
    rintro e w3 ⟨rfl, hc30⟩
    have hc3 := hc30.below w2.heap.size
    have hb3 := hb2.trans (hc3.mono hb2.size)
    go_wp2_with fail
    go_ret
    exact ⟨by rw [show R = 1 from HR.out.symm.trans (by simp)]; rfl, hb3⟩
  | false =>
    cases T with
    | true =>
      cases A1 with
      | true =>
        cases A2 with
        | true =>
          go_enter Tryz.func22, Tryz.ntmps22
          go_wp2_with fail
          refine (cC.out _).mono ?_
          rintro e w1 ⟨rfl, hc10⟩
          have hc1 := hc10.below w.heap.size
          have hb1 := hc1
          go_wp2_with fail
          refine (cL.out _).mono ?_
          rintro e w2 ⟨rfl, hc20⟩
          have hc2 := hc20.below w1.heap.size
          have hb2 := hb1.trans (hc2.mono hb1.size)
          go_wp2_with fail
          refine (cA.out _).mono ?_
          rintro e w3 ⟨rfl, hc30⟩
          have hc3 := hc30.below w2.heap.size
          have hb3 := hb2.trans (hc3.mono hb2.size)
          go_wp2_with fail
          refine (cA1.out _).mono ?_
          rintro e w4 ⟨rfl, hc40⟩
          have hc4 := hc40.below w3.heap.size
          have hb4 := hb3.trans (hc4.mono hb3.size)
          go_wp2_with fail
          refine (cA2.out _).mono ?_
          rintro e w5 ⟨rfl, hc50⟩
          have hc5 := hc50.below w4.heap.size
          have hb5 := hb4.trans (hc5.mono hb4.size)
          go_wp2_with fail
          go_ret
          exact ⟨by rw [show R = 2 from HR.out.symm.trans (by simp)]; rfl, hb5⟩
        | false =>
          cases L with
          | true =>
            go_enter Tryz.func22, Tryz.ntmps22
            go_wp2_with fail
            refine (cC.out _).mono ?_
            rintro e w1 ⟨rfl, hc10⟩
            have hc1 := hc10.below w.heap.size
            have hb1 := hc1
            go_wp2_with fail
            refine (cL.out _).mono ?_
            rintro e w2 ⟨rfl, hc20⟩
            have hc2 := hc20.below w1.heap.size
            have hb2 := hb1.trans (hc2.mono hb1.size)
            go_wp2_with fail
            refine (cA.out _).mono ?_
            rintro e w3 ⟨rfl, hc30⟩
            have hc3 := hc30.below w2.heap.size
            have hb3 := hb2.trans (hc3.mono hb2.size)
            go_wp2_with fail
            refine (cA1.out _).mono ?_
            rintro e w4 ⟨rfl, hc40⟩
            have hc4 := hc40.below w3.heap.size
            have hb4 := hb3.trans (hc4.mono hb3.size)
            go_wp2_with fail
            refine (cA2.out _).mono ?_
            rintro e w5 ⟨rfl, hc50⟩
            have hc5 := hc50.below w4.heap.size
            have hb5 := hb4.trans (hc5.mono hb4.size)
            go_wp2_with fail
            go_ret
            exact ⟨by rw [show R = 3 from HR.out.symm.trans (by simp)]; rfl, hb5⟩
          | false =>
            rcases hz with ⟨hz1, hz2⟩ | ⟨hz1, hz2⟩
            · skip
              go_enter Tryz.func22, Tryz.ntmps22
              go_wp2_with fail
              refine (cC.out _).mono ?_
              rintro e w1 ⟨rfl, hc10⟩
              have hc1 := hc10.below w.heap.size
              have hb1 := hc1
              go_wp2_with fail
              refine (cL.out _).mono ?_
              rintro e w2 ⟨rfl, hc20⟩
              have hc2 := hc20.below w1.heap.size
              have hb2 := hb1.trans (hc2.mono hb1.size)
              go_wp2_with fail
              refine (cA.out _).mono ?_
              rintro e w3 ⟨rfl, hc30⟩
              have hc3 := hc30.below w2.heap.size
              have hb3 := hb2.trans (hc3.mono hb2.size)
              go_wp2_with fail
              refine (cA1.out _).mono ?_
              rintro e w4 ⟨rfl, hc40⟩
              have hc4 := hc40.below w3.heap.size
              have hb4 := hb3.trans (hc4.mono hb3.size)
              go_wp2_with fail
              refine (cA2.out _).mono ?_
              rintro e w5 ⟨rfl, hc50⟩
              have hc5 := hc50.below w4.heap.size
              have hb5 := hb4.trans (hc5.mono hb4.size)
              go_wp2_with fail
              go_ret
              exact ⟨by rw [show R = 4 from HR.out.symm.trans (by simp [hz1])]; rfl, hb5⟩
            · skip
              cases I with
              | true =>
                go_enter Tryz.func22, Tryz.ntmps22
                go_wp2_with fail
                refine (cC.out _).mono ?_
                rintro e w1 ⟨rfl, hc10⟩
                have hc1 := hc10.below w.heap.size
                have hb1 := hc1
                go_wp2_with fail
                refine (cL.out _).mono ?_
                rintro e w2 ⟨rfl, hc20⟩
                have hc2 := hc20.below w1.heap.size
                have hb2 := hb1.trans (hc2.mono hb1.size)
                go_wp2_with fail
                refine (cA.out _).mono ?_
                rintro e w3 ⟨rfl, hc30⟩
                have hc3 := hc30.below w2.heap.size
                have hb3 := hb2.trans (hc3.mono hb2.size)
                go_wp2_with fail
                refine (cA1.out _).mono ?_
                rintro e w4 ⟨rfl, hc40⟩
                have hc4 := hc40.below w3.heap.size
                have hb4 := hb3.trans (hc4.mono hb3.size)
                go_wp2_with fail
                refine (cA2.out _).mono ?_
                rintro e w5 ⟨rfl, hc50⟩
                have hc5 := hc50.below w4.heap.size
                have hb5 := hb4.trans (hc5.mono hb4.size)
                go_wp2_with fail
                refine (cI.out _).mono ?_
                rintro e w6 ⟨rfl, hc60⟩
                have hc6 := hc60.below w5.heap.size
                have hb6 := hb5.trans (hc6.mono hb5.size)
                go_wp2_with fail
                go_ret
                exact ⟨by rw [show R = 5 from HR.out.symm.trans (by simp [hz1])]; rfl, hb6⟩
              | false =>
                cases I1 with
                | true =>
                  cases I2 with
                  | true =>
                    go_enter Tryz.func22, Tryz.ntmps22
                    go_wp2_with fail
                    refine (cC.out _).mono ?_
                    rintro e w1 ⟨rfl, hc10⟩
                    have hc1 := hc10.below w.heap.size
                    have hb1 := hc1
                    go_wp2_with fail
                    refine (cL.out _).mono ?_
                    rintro e w2 ⟨rfl, hc20⟩
                    have hc2 := hc20.below w1.heap.size
                    have hb2 := hb1.trans (hc2.mono hb1.size)
                    go_wp2_with fail
                    refine (cA.out _).mono ?_
                    rintro e w3 ⟨rfl, hc30⟩
                    have hc3 := hc30.below w2.heap.size
                    have hb3 := hb2.trans (hc3.mono hb2.size)
                    go_wp2_with fail
                    refine (cA1.out _).mono ?_
                    rintro e w4 ⟨rfl, hc40⟩
                    have hc4 := hc40.below w3.heap.size
                    have hb4 := hb3.trans (hc4.mono hb3.size)
                    go_wp2_with fail
                    refine (cA2.out _).mono ?_
                    rintro e w5 ⟨rfl, hc50⟩
                    have hc5 := hc50.below w4.heap.size
                    have hb5 := hb4.trans (hc5.mono hb4.size)
                    go_wp2_with fail
                    refine (cI.out _).mono ?_
                    rintro e w6 ⟨rfl, hc60⟩
                    have hc6 := hc60.below w5.heap.size
                    have hb6 := hb5.trans (hc6.mono hb5.size)
                    go_wp2_with fail
                    refine (cI1.out _).mono ?_
                    rintro e w7 ⟨rfl, hc70⟩
                    have hc7 := hc70.below w6.heap.size
                    have hb7 := hb6.trans (hc7.mono hb6.size)
                    go_wp2_with fail
                    refine (cI2.out _).mono ?_
                    rintro e w8 ⟨rfl, hc80⟩
                    have hc8 := hc80.below w7.heap.size
                    have hb8 := hb7.trans (hc8.mono hb7.size)
                    go_wp2_with fail
                    go_ret
                    exact ⟨by rw [show R = 5 from HR.out.symm.trans (by simp [hz1])]; rfl, hb8⟩
                  | false =>
                    go_enter Tryz.func22, Tryz.ntmps22
                    go_wp2_with fail
                    refine (cC.out _).mono ?_
                    rintro e w1 ⟨rfl, hc10⟩
                    have hc1 := hc10.below w.heap.size
                    have hb1 := hc1
                    go_wp2_with fail
                    refine (cL.out _).mono ?_
                    rintro e w2 ⟨rfl, hc20⟩
                    have hc2 := hc20.below w1.heap.size
                    have hb2 := hb1.trans (hc2.mono hb1.size)
                    go_wp2_with fail
                    refine (cA.out _).mono ?_
                    rintro e w3 ⟨rfl, hc30⟩
                    have hc3 := hc30.below w2.heap.size
                    have hb3 := hb2.trans (hc3.mono hb2.size)
                    go_wp2_with fail
                    refine (cA1.out _).mono ?_
                    rintro e w4 ⟨rfl, hc40⟩
                    have hc4 := hc40.below w3.heap.size
                    have hb4 := hb3.trans (hc4.mono hb3.size)
                    go_wp2_with fail
                    refine (cA2.out _).mono ?_
                    rintro e w5 ⟨rfl, hc50⟩
                    have hc5 := hc50.below w4.heap.size
                    have hb5 := hb4.trans (hc5.mono hb4.size)
                    go_wp2_with fail
                    refine (cI.out _).mono ?_
                    rintro e w6 ⟨rfl, hc60⟩
                    have hc6 := hc60.below w5.heap.size
                    have hb6 := hb5.trans (hc6.mono hb5.size)
                    go_wp2_with fail
                    refine (cI1.out _).mono ?_
                    rintro e w7 ⟨rfl, hc70⟩
                    have hc7 := hc70.below w6.heap.size
                    have hb7 := hb6.trans (hc7.mono hb6.size)
                    go_wp2_with fail
                    refine (cI2.out _).mono ?_
                    rintro e w8 ⟨rfl, hc80⟩
                    have hc8 := hc80.below w7.heap.size
                    have hb8 := hb7.trans (hc8.mono hb7.size)
                    go_wp2_with fail
                    go_ret
                    exact ⟨by rw [show R = 0 from HR.out.symm.trans (by simp [hz1])]; rfl, hb8⟩
                | false =>
                  go_enter Tryz.func22, Tryz.ntmps22
                  go_wp2_with fail
                  refine (cC.out _).mono ?_
                  rintro e w1 ⟨rfl, hc10⟩
                  have hc1 := hc10.below w.heap.size
                  have hb1 := hc1
                  go_wp2_with fail
                  refine (cL.out _).mono ?_
                  rintro e w2 ⟨rfl, hc20⟩
                  have hc2 := hc20.below w1.heap.size
                  have hb2 := hb1.trans (hc2.mono hb1.size)
                  go_wp2_with fail
                  refine (cA.out _).mono ?_
                  rintro e w3 ⟨rfl, hc30⟩
                  have hc3 := hc30.below w2.heap.size
                  have hb3 := hb2.trans (hc3.mono hb2.size)
                  go_wp2_with fail
                  refine (cA1.out _).mono ?_
                  rintro e w4 ⟨rfl, hc40⟩
                  have hc4 := hc40.below w3.heap.size
                  have hb4 := hb3.trans (hc4.mono hb3.size)
                  go_wp2_with fail
                  refine (cA2.out _).mono ?_
                  rintro e w5 ⟨rfl, hc50⟩
                  have hc5 := hc50.below w4.heap.size
                  have hb5 := hb4.trans (hc5.mono hb4.size)
                  go_wp2_with fail
                  refine (cI.out _).mono ?_
                  rintro e w6 ⟨rfl, hc60⟩
                  have hc6 := hc60.below w5.heap.size
                  have hb6 := hb5.trans (hc6.mono hb5.size)
                  go_wp2_with fail
                  refine (cI1.out _).mono ?_
                  rintro e w7 ⟨rfl, hc70⟩
                  have hc7 := hc70.below w6.heap.size
                  have hb7 := hb6.trans (hc7.mono hb6.size)
                  go_wp2_with fail
                  go_ret
                  exact ⟨by rw [show R = 0 from HR.out.symm.trans (by simp [hz1])]; rfl, hb7⟩
      | false =>
        cases L with
        | true =>
          go_enter Tryz.func22, Tryz.ntmps22
          go_wp2_with fail
          refine (cC.out _).mono ?_
          rintro e w1 ⟨rfl, hc10⟩
          have hc1 := hc10.below w.heap.size
          have hb1 := hc1
          go_wp2_with fail
          refine (cL.out _).mono ?_
          rintro e w2 ⟨rfl, hc20⟩
          have hc2 := hc20.below w1.heap.size
          have hb2 := hb1.trans (hc2.mono hb1.size)
          go_wp2_with fail
          refine (cA.out _).mono ?_
          rintro e w3 ⟨rfl, hc30⟩
          have hc3 := hc30.below w2.heap.size
          have hb3 := hb2.trans (hc3.mono hb2.size)
          go_wp2_with fail
          refine (cA1.out _).mono ?_
          rintro e w4 ⟨rfl, hc40⟩
          have hc4 := hc40.below w3.heap.size
          have hb4 := hb3.trans (hc4.mono hb3.size)
          go_wp2_with fail
          go_ret
          exact ⟨by rw [show R = 3 from HR.out.symm.trans (by simp)]; rfl, hb4⟩
        | false =>
          rcases hz with ⟨hz1, hz2⟩ | ⟨hz1, hz2⟩
          · skip
            go_enter Tryz.func22, Tryz.ntmps22
            go_wp2_with fail
            refine (cC.out _).mono ?_
            rintro e w1 ⟨rfl, hc10⟩
            have hc1 := hc10.below w.heap.size
            have hb1 := hc1
            go_wp2_with fail
            refine (cL.out _).mono ?_
            rintro e w2 ⟨rfl, hc20⟩
            have hc2 := hc20.below w1.heap.size
            have hb2 := hb1.trans (hc2.mono hb1.size)
            go_wp2_with fail
            refine (cA.out _).mono ?_
            rintro e w3 ⟨rfl, hc30⟩
            have hc3 := hc30.below w2.heap.size
            have hb3 := hb2.trans (hc3.mono hb2.size)
            go_wp2_with fail
            refine (cA1.out _).mono ?_
            rintro e w4 ⟨rfl, hc40⟩
            have hc4 := hc40.below w3.heap.size
            have hb4 := hb3.trans (hc4.mono hb3.size)
            go_wp2_with fail
            go_ret
            exact ⟨by rw [show R = 4 from HR.out.symm.trans (by simp [hz1])]; rfl, hb4⟩
          · skip
            cases I with
            | true =>
              go_enter Tryz.func22, Tryz.ntmps22
              go_wp2_with fail
              refine (cC.out _).mono ?_
              rintro e w1 ⟨rfl, hc10⟩
              have hc1 := hc10.below w.heap.size
              have hb1 := hc1
              go_wp2_with fail
              refine (cL.out _).mono ?_
              rintro e w2 ⟨rfl, hc20⟩
              have hc2 := hc20.below w1.heap.size
              have hb2 := hb1.trans (hc2.mono hb1.size)
              go_wp2_with fail
              refine (cA.out _).mono ?_
              rintro e w3 ⟨rfl, hc30⟩
              have hc3 := hc30.below w2.heap.size
              have hb3 := hb2.trans (hc3.mono hb2.size)
              go_wp2_with fail
              refine (cA1.out _).mono ?_
              rintro e w4 ⟨rfl, hc40⟩
              have hc4 := hc40.below w3.heap.size
              have hb4 := hb3.trans (hc4.mono hb3.size)
              go_wp2_with fail
              refine (cI.out _).mono ?_
              rintro e w5 ⟨rfl, hc50⟩
              have hc5 := hc50.below w4.heap.size
              have hb5 := hb4.trans (hc5.mono hb4.size)
              go_wp2_with fail
              go_ret
              exact ⟨by rw [show R = 5 from HR.out.symm.trans (by simp [hz1])]; rfl, hb5⟩
            | false =>
              cases I1 with
              | true =>
                cases I2 with
                | true =>
                  go_enter Tryz.func22, Tryz.ntmps22
                  go_wp2_with fail
                  refine (cC.out _).mono ?_
                  rintro e w1 ⟨rfl, hc10⟩
                  have hc1 := hc10.below w.heap.size
                  have hb1 := hc1
                  go_wp2_with fail
                  refine (cL.out _).mono ?_
                  rintro e w2 ⟨rfl, hc20⟩
                  have hc2 := hc20.below w1.heap.size
                  have hb2 := hb1.trans (hc2.mono hb1.size)
                  go_wp2_with fail
                  refine (cA.out _).mono ?_
                  rintro e w3 ⟨rfl, hc30⟩
                  have hc3 := hc30.below w2.heap.size
                  have hb3 := hb2.trans (hc3.mono hb2.size)
                  go_wp2_with fail
                  refine (cA1.out _).mono ?_
                  rintro e w4 ⟨rfl, hc40⟩
                  have hc4 := hc40.below w3.heap.size
                  have hb4 := hb3.trans (hc4.mono hb3.size)
                  go_wp2_with fail
                  refine (cI.out _).mono ?_
                  rintro e w5 ⟨rfl, hc50⟩
                  have hc5 := hc50.below w4.heap.size
                  have hb5 := hb4.trans (hc5.mono hb4.size)
                  go_wp2_with fail
                  refine (cI1.out _).mono ?_
                  rintro e w6 ⟨rfl, hc60⟩
                  have hc6 := hc60.below w5.heap.size
                  have hb6 := hb5.trans (hc6.mono hb5.size)
                  go_wp2_with fail
                  refine (cI2.out _).mono ?_
                  rintro e w7 ⟨rfl, hc70⟩
                  have hc7 := hc70.below w6.heap.size
                  have hb7 := hb6.trans (hc7.mono hb6.size)
                  go_wp2_with fail
                  go_ret
                  exact ⟨by rw [show R = 5 from HR.out.symm.trans (by simp [hz1])]; rfl, hb7⟩
                | false =>
                  go_enter Tryz.func22, Tryz.ntmps22
                  go_wp2_with fail
                  refine (cC.out _).mono ?_
                  rintro e w1 ⟨rfl, hc10⟩
                  have hc1 := hc10.below w.heap.size
                  have hb1 := hc1
                  go_wp2_with fail
                  refine (cL.out _).mono ?_
                  rintro e w2 ⟨rfl, hc20⟩
                  have hc2 := hc20.below w1.heap.size
                  have hb2 := hb1.trans (hc2.mono hb1.size)
                  go_wp2_with fail
                  refine (cA.out _).mono ?_
                  rintro e w3 ⟨rfl, hc30⟩
                  have hc3 := hc30.below w2.heap.size
                  have hb3 := hb2.trans (hc3.mono hb2.size)
                  go_wp2_with fail
                  refine (cA1.out _).mono ?_
                  rintro e w4 ⟨rfl, hc40⟩
                  have hc4 := hc40.below w3.heap.size
                  have hb4 := hb3.trans (hc4.mono hb3.size)
                  go_wp2_with fail
                  refine (cI.out _).mono ?_
                  rintro e w5 ⟨rfl, hc50⟩
                  have hc5 := hc50.below w4.heap.size
                  have hb5 := hb4.trans (hc5.mono hb4.size)
                  go_wp2_with fail
                  refine (cI1.out _).mono ?_
                  rintro e w6 ⟨rfl, hc60⟩
                  have hc6 := hc60.below w5.heap.size
                  have hb6 := hb5.trans (hc6.mono hb5.size)
                  go_wp2_with fail
                  refine (cI2.out _).mono ?_
                  rintro e w7 ⟨rfl, hc70⟩
                  have hc7 := hc70.below w6.heap.size
                  have hb7 := hb6.trans (hc7.mono hb6.size)
                  go_wp2_with fail
                  go_ret
                  exact ⟨by rw [show R = 0 from HR.out.symm.trans (by simp [hz1])]; rfl, hb7⟩
              | false =>
                go_enter Tryz.func22, Tryz.ntmps22
                go_wp2_with fail
                refine (cC.out _).mono ?_
                rintro e w1 ⟨rfl, hc10⟩
                have hc1 := hc10.below w.heap.size
                have hb1 := hc1
                go_wp2_with fail
                refine (cL.out _).mono ?_
                rintro e w2 ⟨rfl, hc20⟩
                have hc2 := hc20.below w1.heap.size
                have hb2 := hb1.trans (hc2.mono hb1.size)
                go_wp2_with fail
                refine (cA.out _).mono ?_
                rintro e w3 ⟨rfl, hc30⟩
                have hc3 := hc30.below w2.heap.size
                have hb3 := hb2.trans (hc3.mono hb2.size)
                go_wp2_with fail
                refine (cA1.out _).mono ?_
                rintro e w4 ⟨rfl, hc40⟩
                have hc4 := hc40.below w3.heap.size
                have hb4 := hb3.trans (hc4.mono hb3.size)
                go_wp2_with fail
                refine (cI.out _).mono ?_
                rintro e w5 ⟨rfl, hc50⟩
                have hc5 := hc50.below w4.heap.size
                have hb5 := hb4.trans (hc5.mono hb4.size)
                go_wp2_with fail
                refine (cI1.out _).mono ?_
                rintro e w6 ⟨rfl, hc60⟩
                have hc6 := hc60.below w5.heap.size
                have hb6 := hb5.trans (hc6.mono hb5.size)
                go_wp2_with fail
                go_ret
                exact ⟨by rw [show R = 0 from HR.out.symm.trans (by simp [hz1])]; rfl, hb6⟩
    | false =>
      cases L with
      | true =>
        go_enter Tryz.func22, Tryz.ntmps22
        go_wp2_with fail
        refine (cC.out _).mono ?_
        rintro e w1 ⟨rfl, hc10⟩
        have hc1 := hc10.below w.heap.size
        have hb1 := hc1
        go_wp2_with fail
        refine (cL.out _).mono ?_
        rintro e w2 ⟨rfl, hc20⟩
        have hc2 := hc20.below w1.heap.size
        have hb2 := hb1.trans (hc2.mono hb1.size)
        go_wp2_with fail
        refine (cA.out _).mono ?_
        rintro e w3 ⟨rfl, hc30⟩
        have hc3 := hc30.below w2.heap.size
        have hb3 := hb2.trans (hc3.mono hb2.size)
        go_wp2_with fail
        go_ret
        exact ⟨by rw [show R = 3 from HR.out.symm.trans (by simp)]; rfl, hb3⟩
      | false =>
        rcases hz with ⟨hz1, hz2⟩ | ⟨hz1, hz2⟩
        · skip
          go_enter Tryz.func22, Tryz.ntmps22
          go_wp2_with fail
          refine (cC.out _).mono ?_
          rintro e w1 ⟨rfl, hc10⟩
          have hc1 := hc10.below w.heap.size
          have hb1 := hc1
          go_wp2_with fail
          refine (cL.out _).mono ?_
          rintro e w2 ⟨rfl, hc20⟩
          have hc2 := hc20.below w1.heap.size
          have hb2 := hb1.trans (hc2.mono hb1.size)
          go_wp2_with fail
          refine (cA.out _).mono ?_
          rintro e w3 ⟨rfl, hc30⟩
          have hc3 := hc30.below w2.heap.size
          have hb3 := hb2.trans (hc3.mono hb2.size)
          go_wp2_with fail
          go_ret
          exact ⟨by rw [show R = 4 from HR.out.symm.trans (by simp [hz1])]; rfl, hb3⟩
        · skip
          cases I with
          | true =>
            go_enter Tryz.func22, Tryz.ntmps22
            go_wp2_with fail
            refine (cC.out _).mono ?_
            rintro e w1 ⟨rfl, hc10⟩
            have hc1 := hc10.below w.heap.size
            have hb1 := hc1
            go_wp2_with fail
            refine (cL.out _).mono ?_
            rintro e w2 ⟨rfl, hc20⟩
            have hc2 := hc20.below w1.heap.size
            have hb2 := hb1.trans (hc2.mono hb1.size)
            go_wp2_with fail
            refine (cA.out _).mono ?_
            rintro e w3 ⟨rfl, hc30⟩
            have hc3 := hc30.below w2.heap.size
            have hb3 := hb2.trans (hc3.mono hb2.size)
            go_wp2_with fail
            refine (cI.out _).mono ?_
            rintro e w4 ⟨rfl, hc40⟩
            have hc4 := hc40.below w3.heap.size
            have hb4 := hb3.trans (hc4.mono hb3.size)
            go_wp2_with fail
            go_ret
            exact ⟨by rw [show R = 5 from HR.out.symm.trans (by simp [hz1])]; rfl, hb4⟩
          | false =>
            go_enter Tryz.func22, Tryz.ntmps22
            go_wp2_with fail
            refine (cC.out _).mono ?_
            rintro e w1 ⟨rfl, hc10⟩
            have hc1 := hc10.below w.heap.size
            have hb1 := hc1
            go_wp2_with fail
            refine (cL.out _).mono ?_
            rintro e w2 ⟨rfl, hc20⟩
            have hc2 := hc20.below w1.heap.size
            have hb2 := hb1.trans (hc2.mono hb1.size)
            go_wp2_with fail
            refine (cA.out _).mono ?_
            rintro e w3 ⟨rfl, hc30⟩
            have hc3 := hc30.below w2.heap.size
            have hb3 := hb2.trans (hc3.mono hb2.size)
            go_wp2_with fail
            refine (cI.out _).mono ?_
            rintro e w4 ⟨rfl, hc40⟩
            have hc4 := hc40.below w3.heap.size
            have hb4 := hb3.trans (hc4.mono hb3.size)
            go_wp2_with fail
            go_ret
            exact ⟨by rw [show R = 0 from HR.out.symm.trans (by simp [hz1])]; rfl, hb4⟩
/-- the sum of two numbers, if it is one -/
def inZ (x : Int) : Bool := decide (-9223372036854775808 ≤ x) && decide (x ≤ 9223372036854775807)
end Go.Proofs.YtlideagcmhlkeaaGreatDoor
