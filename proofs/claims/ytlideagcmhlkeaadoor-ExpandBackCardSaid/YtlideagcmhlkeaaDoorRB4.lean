/- Texts of one proof, one behind the other: Nam21c; Fmt21d; Exp30; Expand30; Work30; Has30; Plain21k; Plain17; Fmt21e; Fmt21f; Fmt21h; Plain21m; Plain23; Era23; Mad17a. -/
import Derived.Test.YtlideagcmhlkeaaDoorRB3
import Derived.BigQuiet
import Derived.Deep.RegionHeld3
import Derived.Deep.CutBlock
import Derived.BigRegion
import Derived.IntWalk
import Derived.Lib.ItoaNum
import Derived.Lib.LaidTab
import Derived.Lib.AppendIntMem
import Derived.Deep.DeepCutAuto

/- The walk of name.Abbr: the closure over the table. -/
namespace Go.Proofs.YtlideagcmhlkeaaDoor
open Go.RowKit Go.Lib
set_option linter.unusedVariables false

/-- what the closure has captured -/
structure OfBox (w : World) (b0 b1 bk b2 : Nat) : Prop where
  least : w.cell? ⟨b0, 0, none⟩ = some (.int .i64 3)
  most : w.cell? ⟨b1, 0, none⟩ = some (.int .i64 6)
  kinds : Blk w bk 174 kAll
  some_ : w.cell? ⟨b2, 0, none⟩ = some (.int .u8 1)
theorem kAll_and (c : UInt8) {w : World} {b : Nat} (h : Blk w b 174 kAll) : ∃ n : Int, w.cell? ⟨b, c.toNat, none⟩ = some (.int .u8 n) ∧ ((P21.isL c = true ∧ n = 1) ∨ (P21.isL c = false ∧ (n = 0 ∨ n = 2 ∨ n = 4 ∨ n = 8 ∨ n = 16))) :=
  ⟨kTab c.toNat, (h.cell _).trans (kAll_at _ (UInt8.toNat_lt c)), kTab_cases c.toNat⟩
set_option maxRecDepth 100000 in
set_option maxHeartbeats 8000000 in
theorem of1_any (s : ByteArray) (b0 b1 bk b2 : Nat) (w : World) (hs : s.size ≤ 1000000) (hO : OfBox w b0 b1 bk b2) :
    Calls Tryd.prog 108 #[.string s, .pointer (some ⟨b0, 0, none⟩), .pointer (some ⟨b1, 0, none⟩), .pointer (some ⟨bk, 0, none⟩), .pointer (some ⟨b2, 0, none⟩)] w fun e w' => e = .returned (.bool (P21.abbr (P4.bl s))) ∧ Q w w' := by
  obtain ⟨R, hR⟩ : ∃ R, P21.abbr (P4.bl s) = R := ⟨_, rfl⟩
  rw [hR]
  have HR := Lib.hid hR
  clear hR
  obtain ⟨c0, c1, hK, c2⟩ := hO
  have hsi : (s.size : Int) ≤ 1000000 := by omega
  have hln := P4.bl_len s
  by_cases h3 : s.size < 3
  · have h3i : (s.size : Int) < 3 := by omega
    have HN : Hid (R = false) := by
      have r := HR.out
      unfold P21.abbr at r
      rw [decide_eq_false (by omega)] at r
      exact Lib.hid r.symm
    go_enter Tryd.func108, Tryd.ntmps108
    go_wp2_with fail
    go_ret
    exact ⟨by rw [HN.out]; rfl, Q.refl _⟩
  · by_cases h6 : 6 < s.size
    · have h3i : ¬ (s.size : Int) < 3 := by omega
      have h6i : (6 : Int) < (s.size : Int) := by omega
      have HN : Hid (R = false) := by
        have r := HR.out
        unfold P21.abbr at r
        rw [decide_eq_false (p := (P4.bl s).length ≤ 6) (by omega), Bool.and_false] at r
        exact Lib.hid r.symm
      go_enter Tryd.func108, Tryd.ntmps108
      go_wp2_with fail
      go_ret
      exact ⟨by rw [HN.out]; rfl, Q.refl _⟩
    · have h3i : ¬ (s.size : Int) < 3 := by omega
      have h6i : ¬ (6 : Int) < (s.size : Int) := by omega
      have HN : Hid (R = (P4.bl s).all P21.isL) := by
        have r := HR.out
        unfold P21.abbr at r
        rw [decide_eq_true (p := (P4.bl s).length ≤ 6) (by omega), decide_eq_true (p := 3 ≤ (P4.bl s).length) (by omega)] at r
        exact Lib.hid r.symm
      clear HR
      go_enter Tryd.func108, Tryd.ntmps108
      go_wp2_with fail
      go_loopw [20] (fun i wr => ∃ k : Nat, k ≤ s.size ∧ i = .int .i64 (k : Int) ∧ Hid (((P4.bl s).take k).all P21.isL = true) ∧ ∃ n, wr = w.drewN n) (fun i _ => s.size - (intOf i).toNat)
      case atStart => exact ⟨0, Nat.zero_le _, rfl, Lib.hid rfl, 0, rfl⟩
      case round =>
        obtain ⟨k, hk, rfl, HA, n, rfl⟩ := hrel
        by_cases hlt : k < s.size
        · have hki : (k : Int) < (s.size : Int) := by omega
          have hb := P4.bl_get s k hlt
          obtain ⟨c, hc⟩ : ∃ c, s[k]'hlt = c := ⟨_, rfl⟩
          rw [hc] at hb
          have HB := Lib.hid hb
          clear hb
          obtain ⟨v, cv, hvv⟩ := kAll_and c hK
          have hcb := UInt8.toNat_lt c
          have hcb2 : (c.toNat : Int) < 256 := by omega
          clear hcb
          rcases hvv with ⟨hL, rfl⟩ | ⟨hL, hvv⟩
          · have HS := Lib.hid (all_take_succ HB.out HA.out hL)
            clear hL hK
            go_wp2_with fail
            go_quiet (fail)
            go_wp2_with fail
            go_roundw
            case rel => exact ⟨k + 1, by omega, by go_num, HS, _, rfl⟩
            case measure => simp [intOf]; omega
          · have HF : Hid (R = false) := by
              have q := all_no HB.out hL
              have r := HN.out
              rw [q] at r
              exact Lib.hid r
            clear hL hK
            rcases hvv with rfl | rfl | rfl | rfl | rfl
            all_goals
              go_wp2_with fail
              go_quiet (fail)
              go_wp2_with fail
              go_ret
              exact ⟨by rw [HF.out]; rfl, by first | exact ⟨_, rfl⟩ | exact ⟨n + nq, by rw [World.drewN_drewN]⟩⟩
        · obtain rfl : k = s.size := by omega
          have HF : Hid (R = true) := by
            have q := HA.out
            rw [List.take_of_length_le (by rw [P4.bl_len]; exact Nat.le_refl _)] at q
            have r := HN.out
            rw [q] at r
            exact Lib.hid r
          clear hK
          go_wp2_with fail
          go_ret
          exact ⟨by rw [HF.out]; rfl, ⟨n, rfl⟩⟩
/-- the box that 'of' hands back -/
def ofFn (b0 b1 bk b2 : Nat) : Value := .func (.func 108) #[] #[.pointer (some ⟨b0, 0, none⟩), .pointer (some ⟨b1, 0, none⟩), .pointer (some ⟨bk, 0, none⟩), .pointer (some ⟨b2, 0, none⟩)]
set_option maxRecDepth 1000000 in
set_option maxHeartbeats 4000000 in
theorem of_any (w : World) :
    Calls Tryd.prog 90 #[.int .i64 3, .int .i64 6, .int .u8 1] w fun e w' => ∃ b0 b1 bk b2, e = .returned (ofFn b0 b1 bk b2) ∧ OfBox w' b0 b1 bk b2 ∧ Below w.heap.size w w' := by
  have hmf : ∀ (fn : Fn) (first cap : Array Value) (w : World), (Instr.makeFunc fn first cap).run Tryd.prog w = .ok (.func fn first cap) w := fun _ _ _ _ => rfl
  obtain ⟨hz, hi⟩ := zero_of_info zeroK
  have hb0 := Blk.new w 3 #[.int .i64 3]
  have hw0 := (Below.refl w.heap.size w).alloc (Nat.le_refl _) (.cells #[.int .i64 3] 3)
  have hb1 := Blk.newAt (w.alloc (.cells #[.int .i64 3] 3)) (w.heap.size + 1) (by simp) 3 #[.int .i64 6]
  have hw1 := hw0.alloc (by simp) (.cells #[.int .i64 6] 3)
  have hb2 := Blk.newAt ((w.alloc (.cells #[.int .i64 3] 3)).alloc (.cells #[.int .i64 6] 3)) (w.heap.size + 1 + 1) (by simp) 5 #[.int .u8 1]
  have hw2 := hw1.alloc (by simp; omega) (.cells #[.int .u8 1] 5)
  have hb0' := (hb0.alloc (.cells #[.int .i64 6] 3)).alloc (.cells #[.int .u8 1] 5)
  have hb1' := hb1.alloc (.cells #[.int .u8 1] 5)
  clear hb0 hb1 hw0 hw1
  go_enter Tryd.func90, Tryd.ntmps90
  go_wp2_with fail
  generalize ((w.alloc (.cells #[.int .i64 3] 3)).alloc (.cells #[.int .i64 6] 3)).alloc (.cells #[.int .u8 1] 5) = W2 at hb2 hw2 hb0' hb1' ⊢
  refine (kinds_any _).mono ?_
  rintro e w1 ⟨rfl, hc⟩
  have H0 := (hb0'.below hc hb0'.lt).alloc (.cells (kA 0) 174)
  have H1 := (hb1'.below hc hb1'.lt).alloc (.cells (kA 0) 174)
  have H2 := (hb2.below hc hb2.lt).alloc (.cells (kA 0) 174)
  have HW := (hw2.trans (hc.mono hw2.size)).alloc (Nat.le_trans hw2.size hc.size) (.cells (kA 0) 174)
  have HK := Blk.new w1 174 (kA 0)
  have hlt : w.heap.size ≤ w1.heap.size := Nat.le_trans hw2.size hc.size
  have hlt2 : w.heap.size + 1 + 1 < w1.heap.size := Nat.lt_of_lt_of_le hb2.lt hc.size
  clear hb2 hw2 hb0' hb1' hc
  have hks := kAll_size
  obtain ⟨W3, hW3⟩ : ∃ W3, w1.alloc (.cells (kA 0) 174) = W3 := ⟨_, rfl⟩
  rw [hW3] at H0 H1 H2 HW HK
  have hsc : (storeCells ⟨w1.heap.size, 0, none⟩ kAll.toList 0).run Tryd.prog W3 = .ok () (W3.setRow w1.heap.size kAll) := store_blk HK (by rw [kA_size, kAll_size]) kAll_one
  go_wp2_with fail
  go_ret
  refine ⟨w.heap.size, w.heap.size + 1, w1.heap.size, w.heap.size + 1 + 1, rfl, ⟨?_, ?_, blk_setRow HK, ?_⟩, below_setRow HW hlt _⟩
  · rw [cell_setRow_other _ _ _ _ (by simp; omega)]; exact (H0.cell 0).trans rfl
  · rw [cell_setRow_other _ _ _ _ (by simp; omega)]; exact (H1.cell 0).trans rfl
  · rw [cell_setRow_other _ _ _ _ (by simp; omega)]; exact (H2.cell 0).trans rfl
set_option maxRecDepth 1000000 in
set_option maxHeartbeats 4000000 in
theorem abbr_any (s : ByteArray) (w : World) (hs : s.size ≤ 1000000) :
    Calls Tryd.prog 52 #[.string s] w fun e w' => e = .returned (.bool (P21.abbr (P4.bl s))) ∧ Below w.heap.size w w' := by
  have c2 := fun b0 b1 bk b2 W h => of1_any s b0 b1 bk b2 W hs h
  generalize P21.abbr (P4.bl s) = R at c2 ⊢
  have C2 := Lib.hid c2
  clear c2
  go_enter Tryd.func52, Tryd.ntmps52
  go_wp2_with fail
  refine (of_any _).mono ?_
  rintro e w1 ⟨b0, b1, bk, b2, rfl, hO, hb⟩
  unfold ofFn
  go_wp2_with fail
  refine (C2.out _ _ _ _ _ hO).mono ?_
  rintro e w2 ⟨rfl, n, rfl⟩
  go_wp2_with fail
  go_ret
  exact ⟨rfl, below_drewN hb n⟩
end Go.Proofs.YtlideagcmhlkeaaDoor

/- The walks of the kinds, the parts and the abbreviations of FORMATs (chapter 21). -/
namespace Go.Proofs.YtlideagcmhlkeaaDoor
open Go.RowKit Go.Lib
set_option linter.unusedVariables false

theorem str_toList (l : List UInt8) : (str l).toList = l := by rw [ByteArray.toList_eq]; rfl
theorem ne_size {s : ByteArray} {l : List UInt8} (h : P4.bl s ≠ l) : ¬ s = str l := fun q => h (by rw [q]; exact str_data l)
theorem lss_cut (s : ByteArray) : (str (P21.slash (P4.bl s)).1).size + (str (P21.slash (P4.bl s)).2.1).size ≤ s.size := by
  have := cut_len (P4.bl s) [47]
  rw [P4.bl_len] at this
  rw [str_size, str_size]; exact this
/-- one name for the tests of a kind -/
theorem kind_tests (l : List UInt8) : P21.kind l = if P21.abbr l = true then 1 else if ((P21.slash l).2.2 && P21.abbr (P21.slash l).1 && P21.abbr (P21.slash l).2.1) = true then 2 else if P21.letter l = true then 3 else if l = [37, 122] then 4 else if (P21.num l || ((P21.slash l).2.2 && P21.num (P21.slash l).1 && P21.num (P21.slash l).2.1)) = true then 5 else 0 := rfl
set_option maxRecDepth 100000 in
set_option maxHeartbeats 8000000 in
theorem kind_any (s : ByteArray) (w : World) (hs : s.size ≤ 1000000) (hv : Vars21 w) :
    Calls Tryd.prog 36 #[.string s] w fun e w' => e = .returned (.int .i64 (P21.kind (P4.bl s))) ∧ Below w.heap.size w w' := by
  have cC : Hid (∀ W, Vars21 W → Calls Tryd.prog 66 #[.string s, .string (str [47])] W fun e w' => e = .returned (.tuple #[.string (str (P21.slash (P4.bl s)).1), .string (str (P21.slash (P4.bl s)).2.1), .bool (P21.slash (P4.bl s)).2.2]) ∧ Q W w') := fun W h => cut21 s [47] W hs h
  have cL : Hid (∀ W, Vars21 W → Calls Tryd.prog 50 #[.string s] W fun e w' => e = .returned (.tuple #[.string (str (P21.pct (P4.bl s)).1), .string (str (P21.pct (P4.bl s)).2.1), .bool (P21.letter (P4.bl s))]) ∧ Below W.heap.size W w') := fun W h => around_any s W hs h
  have cA : Hid (∀ W, Calls Tryd.prog 52 #[.string s] W fun e w' => e = .returned (.bool (P21.abbr (P4.bl s))) ∧ Below W.heap.size W w') := fun W => abbr_any s W hs
  have cI : Hid (∀ W, Vars21 W → Calls Tryd.prog 67 #[.string s] W fun e w' => e = .returned (.bool (P21.num (P4.bl s))) ∧ Below W.heap.size W w') := fun W h => is_any s W hs h.num
  have hsl := lss_cut s
  have cA1 : Hid (∀ W, Calls Tryd.prog 52 #[.string (str (P21.slash (P4.bl s)).1)] W fun e w' => e = .returned (.bool (P21.abbr (P21.slash (P4.bl s)).1)) ∧ Below W.heap.size W w') := fun W => abbr_any (str (P21.slash (P4.bl s)).1) W (by omega)
  have cA2 : Hid (∀ W, Calls Tryd.prog 52 #[.string (str (P21.slash (P4.bl s)).2.1)] W fun e w' => e = .returned (.bool (P21.abbr (P21.slash (P4.bl s)).2.1)) ∧ Below W.heap.size W w') := fun W => abbr_any (str (P21.slash (P4.bl s)).2.1) W (by omega)
  have cI1 : Hid (∀ W, Vars21 W → Calls Tryd.prog 67 #[.string (str (P21.slash (P4.bl s)).1)] W fun e w' => e = .returned (.bool (P21.num (P21.slash (P4.bl s)).1)) ∧ Below W.heap.size W w') := fun W h => is_any (str (P21.slash (P4.bl s)).1) W (by omega) h.num
  have cI2 : Hid (∀ W, Vars21 W → Calls Tryd.prog 67 #[.string (str (P21.slash (P4.bl s)).2.1)] W fun e w' => e = .returned (.bool (P21.num (P21.slash (P4.bl s)).2.1)) ∧ Below W.heap.size W w') := fun W h => is_any (str (P21.slash (P4.bl s)).2.1) W (by omega) h.num
  obtain ⟨R, hR⟩ : ∃ R, P21.kind (P4.bl s) = R := ⟨_, rfl⟩
  rw [hR]
  rw [kind_tests] at hR
  have hz : (P4.bl s = [37, 122] ∧ (s.toList == [37, 122]) = true) ∨ (¬ P4.bl s = [37, 122] ∧ (s.toList == [37, 122]) = false) := by
    by_cases q : P4.bl s = [37, 122]
    · refine .inl ⟨q, ?_⟩
      have : s = str [37, 122] := by rw [← q]; exact (str_bl s).symm
      rw [this, str_toList]; rfl
    · exact .inr ⟨q, by have x := eq_b s (str [37, 122]) (ne_size q); rwa [str_toList] at x⟩
  generalize P21.abbr (P4.bl s) = A at hR cA
  generalize P21.letter (P4.bl s) = L at hR cL
  generalize P21.num (P4.bl s) = I at hR cI
  generalize P21.abbr (P21.slash (P4.bl s)).1 = A1 at hR cA1
  generalize P21.abbr (P21.slash (P4.bl s)).2.1 = A2 at hR cA2
  generalize P21.num (P21.slash (P4.bl s)).1 = I1 at hR cI1
  generalize P21.num (P21.slash (P4.bl s)).2.1 = I2 at hR cI2
  generalize (P21.slash (P4.bl s)).2.2 = T at hR cC
  generalize str (P21.slash (P4.bl s)).1 = SA at cC cA1 cI1
  generalize str (P21.slash (P4.bl s)).2.1 = SB at cC cA2 cI2
  generalize str (P21.pct (P4.bl s)).1 = PA at cL
  generalize str (P21.pct (P4.bl s)).2.1 = PB at cL
  have HR := Lib.hid hR
  clear hR hsl hs
  cases A with
  | true =>
    go_enter Tryd.func36, Tryd.ntmps36
    go_wp2_with fail
    refine (cC.out _ hv).mono ?_
    rintro e w1 ⟨rfl, hc10⟩
    have hc1 := hc10.below w.heap.size
    have hb1 := hc1
    have hv2 := hv.below hb1
    go_wp2_with fail
    refine (cL.out _ hv2).mono ?_
    rintro e w2 ⟨rfl, hc2⟩
    have hb2 := hb1.trans (hc2.mono hb1.size)
    go_wp2_with fail
    refine (cA.out _).mono ?_
    rintro e w3 ⟨rfl, hc3⟩
    have hb3 := hb2.trans (hc3.mono hb2.size)
    go_wp2_with fail
    go_ret
    exact ⟨by rw [show R = 1 from HR.out.symm.trans (by simp)]; rfl, hb3⟩
  | false =>
    cases T with
    | true =>
      cases A1 with
      | true =>
        cases A2 with
        | true =>
          go_enter Tryd.func36, Tryd.ntmps36
          go_wp2_with fail
          refine (cC.out _ hv).mono ?_
          rintro e w1 ⟨rfl, hc10⟩
          have hc1 := hc10.below w.heap.size
          have hb1 := hc1
          have hv2 := hv.below hb1
          go_wp2_with fail
          refine (cL.out _ hv2).mono ?_
          rintro e w2 ⟨rfl, hc2⟩
          have hb2 := hb1.trans (hc2.mono hb1.size)
          go_wp2_with fail
          refine (cA.out _).mono ?_
          rintro e w3 ⟨rfl, hc3⟩
          have hb3 := hb2.trans (hc3.mono hb2.size)
          go_wp2_with fail
          refine (cA1.out _).mono ?_
          rintro e w4 ⟨rfl, hc4⟩
          have hb4 := hb3.trans (hc4.mono hb3.size)
          go_wp2_with fail
          refine (cA2.out _).mono ?_
          rintro e w5 ⟨rfl, hc5⟩
          have hb5 := hb4.trans (hc5.mono hb4.size)
          go_wp2_with fail
          go_ret
          exact ⟨by rw [show R = 2 from HR.out.symm.trans (by simp)]; rfl, hb5⟩
        | false =>
          cases L with
          | true =>
            go_enter Tryd.func36, Tryd.ntmps36
            go_wp2_with fail
            refine (cC.out _ hv).mono ?_
            rintro e w1 ⟨rfl, hc10⟩
            have hc1 := hc10.below w.heap.size
            have hb1 := hc1
            have hv2 := hv.below hb1
            go_wp2_with fail
            refine (cL.out _ hv2).mono ?_
            rintro e w2 ⟨rfl, hc2⟩
            have hb2 := hb1.trans (hc2.mono hb1.size)
            go_wp2_with fail
            refine (cA.out _).mono ?_
            rintro e w3 ⟨rfl, hc3⟩
            have hb3 := hb2.trans (hc3.mono hb2.size)
            go_wp2_with fail
            refine (cA1.out _).mono ?_
            rintro e w4 ⟨rfl, hc4⟩
            have hb4 := hb3.trans (hc4.mono hb3.size)
            go_wp2_with fail
            refine (cA2.out _).mono ?_
            rintro e w5 ⟨rfl, hc5⟩
            have hb5 := hb4.trans (hc5.mono hb4.size)
            go_wp2_with fail
            go_ret
            exact ⟨by rw [show R = 3 from HR.out.symm.trans (by simp)]; rfl, hb5⟩
          | false =>
            rcases hz with ⟨hz1, hz2⟩ | ⟨hz1, hz2⟩
            · skip
              go_enter Tryd.func36, Tryd.ntmps36
              go_wp2_with fail
              refine (cC.out _ hv).mono ?_
              rintro e w1 ⟨rfl, hc10⟩
              have hc1 := hc10.below w.heap.size
              have hb1 := hc1
              have hv2 := hv.below hb1
              go_wp2_with fail
              refine (cL.out _ hv2).mono ?_
              rintro e w2 ⟨rfl, hc2⟩
              have hb2 := hb1.trans (hc2.mono hb1.size)
              go_wp2_with fail
              refine (cA.out _).mono ?_
              rintro e w3 ⟨rfl, hc3⟩
              have hb3 := hb2.trans (hc3.mono hb2.size)
              go_wp2_with fail
              refine (cA1.out _).mono ?_
              rintro e w4 ⟨rfl, hc4⟩
              have hb4 := hb3.trans (hc4.mono hb3.size)
              go_wp2_with fail
              refine (cA2.out _).mono ?_
              rintro e w5 ⟨rfl, hc5⟩
              have hb5 := hb4.trans (hc5.mono hb4.size)
              go_wp2_with fail
              go_ret
              exact ⟨by rw [show R = 4 from HR.out.symm.trans (by simp [hz1])]; rfl, hb5⟩
            · skip
              cases I with
              | true =>
                go_enter Tryd.func36, Tryd.ntmps36
                go_wp2_with fail
                refine (cC.out _ hv).mono ?_
                rintro e w1 ⟨rfl, hc10⟩
                have hc1 := hc10.below w.heap.size
                have hb1 := hc1
                have hv2 := hv.below hb1
                go_wp2_with fail
                refine (cL.out _ hv2).mono ?_
                rintro e w2 ⟨rfl, hc2⟩
                have hb2 := hb1.trans (hc2.mono hb1.size)
                go_wp2_with fail
                refine (cA.out _).mono ?_
                rintro e w3 ⟨rfl, hc3⟩
                have hb3 := hb2.trans (hc3.mono hb2.size)
                go_wp2_with fail
                refine (cA1.out _).mono ?_
                rintro e w4 ⟨rfl, hc4⟩
                have hb4 := hb3.trans (hc4.mono hb3.size)
                go_wp2_with fail
                refine (cA2.out _).mono ?_
                rintro e w5 ⟨rfl, hc5⟩
                have hb5 := hb4.trans (hc5.mono hb4.size)
                have hv6 := hv.below hb5
                go_wp2_with fail
                refine (cI.out _ hv6).mono ?_
                rintro e w6 ⟨rfl, hc6⟩
                have hb6 := hb5.trans (hc6.mono hb5.size)
                go_wp2_with fail
                go_ret
                exact ⟨by rw [show R = 5 from HR.out.symm.trans (by simp [hz1])]; rfl, hb6⟩
              | false =>
                cases I1 with
                | true =>
                  cases I2 with
                  | true =>
                    go_enter Tryd.func36, Tryd.ntmps36
                    go_wp2_with fail
                    refine (cC.out _ hv).mono ?_
                    rintro e w1 ⟨rfl, hc10⟩
                    have hc1 := hc10.below w.heap.size
                    have hb1 := hc1
                    have hv2 := hv.below hb1
                    go_wp2_with fail
                    refine (cL.out _ hv2).mono ?_
                    rintro e w2 ⟨rfl, hc2⟩
                    have hb2 := hb1.trans (hc2.mono hb1.size)
                    go_wp2_with fail
                    refine (cA.out _).mono ?_
                    rintro e w3 ⟨rfl, hc3⟩
                    have hb3 := hb2.trans (hc3.mono hb2.size)
                    go_wp2_with fail
                    refine (cA1.out _).mono ?_
                    rintro e w4 ⟨rfl, hc4⟩
                    have hb4 := hb3.trans (hc4.mono hb3.size)
                    go_wp2_with fail
                    refine (cA2.out _).mono ?_
                    rintro e w5 ⟨rfl, hc5⟩
                    have hb5 := hb4.trans (hc5.mono hb4.size)
                    have hv6 := hv.below hb5
                    go_wp2_with fail
                    refine (cI.out _ hv6).mono ?_
                    rintro e w6 ⟨rfl, hc6⟩
                    have hb6 := hb5.trans (hc6.mono hb5.size)
                    have hv7 := hv.below hb6
                    go_wp2_with fail
                    refine (cI1.out _ hv7).mono ?_
                    rintro e w7 ⟨rfl, hc7⟩
                    have hb7 := hb6.trans (hc7.mono hb6.size)
                    have hv8 := hv.below hb7
                    go_wp2_with fail
                    refine (cI2.out _ hv8).mono ?_
                    rintro e w8 ⟨rfl, hc8⟩
                    have hb8 := hb7.trans (hc8.mono hb7.size)
                    go_wp2_with fail
                    go_ret
                    exact ⟨by rw [show R = 5 from HR.out.symm.trans (by simp [hz1])]; rfl, hb8⟩
                  | false =>
                    go_enter Tryd.func36, Tryd.ntmps36
                    go_wp2_with fail
                    refine (cC.out _ hv).mono ?_
                    rintro e w1 ⟨rfl, hc10⟩
                    have hc1 := hc10.below w.heap.size
                    have hb1 := hc1
                    have hv2 := hv.below hb1
                    go_wp2_with fail
                    refine (cL.out _ hv2).mono ?_
                    rintro e w2 ⟨rfl, hc2⟩
                    have hb2 := hb1.trans (hc2.mono hb1.size)
                    go_wp2_with fail
                    refine (cA.out _).mono ?_
                    rintro e w3 ⟨rfl, hc3⟩
                    have hb3 := hb2.trans (hc3.mono hb2.size)
                    go_wp2_with fail
                    refine (cA1.out _).mono ?_
                    rintro e w4 ⟨rfl, hc4⟩
                    have hb4 := hb3.trans (hc4.mono hb3.size)
                    go_wp2_with fail
                    refine (cA2.out _).mono ?_
                    rintro e w5 ⟨rfl, hc5⟩
                    have hb5 := hb4.trans (hc5.mono hb4.size)
                    have hv6 := hv.below hb5
                    go_wp2_with fail
                    refine (cI.out _ hv6).mono ?_
                    rintro e w6 ⟨rfl, hc6⟩
                    have hb6 := hb5.trans (hc6.mono hb5.size)
                    have hv7 := hv.below hb6
                    go_wp2_with fail
                    refine (cI1.out _ hv7).mono ?_
                    rintro e w7 ⟨rfl, hc7⟩
                    have hb7 := hb6.trans (hc7.mono hb6.size)
                    have hv8 := hv.below hb7
                    go_wp2_with fail
                    refine (cI2.out _ hv8).mono ?_
                    rintro e w8 ⟨rfl, hc8⟩
                    have hb8 := hb7.trans (hc8.mono hb7.size)
                    go_wp2_with fail
                    go_ret
                    exact ⟨by rw [show R = 0 from HR.out.symm.trans (by simp [hz1])]; rfl, hb8⟩
                | false =>
                  go_enter Tryd.func36, Tryd.ntmps36
                  go_wp2_with fail
                  refine (cC.out _ hv).mono ?_
                  rintro e w1 ⟨rfl, hc10⟩
                  have hc1 := hc10.below w.heap.size
                  have hb1 := hc1
                  have hv2 := hv.below hb1
                  go_wp2_with fail
                  refine (cL.out _ hv2).mono ?_
                  rintro e w2 ⟨rfl, hc2⟩
                  have hb2 := hb1.trans (hc2.mono hb1.size)
                  go_wp2_with fail
                  refine (cA.out _).mono ?_
                  rintro e w3 ⟨rfl, hc3⟩
                  have hb3 := hb2.trans (hc3.mono hb2.size)
                  go_wp2_with fail
                  refine (cA1.out _).mono ?_
                  rintro e w4 ⟨rfl, hc4⟩
                  have hb4 := hb3.trans (hc4.mono hb3.size)
                  go_wp2_with fail
                  refine (cA2.out _).mono ?_
                  rintro e w5 ⟨rfl, hc5⟩
                  have hb5 := hb4.trans (hc5.mono hb4.size)
                  have hv6 := hv.below hb5
                  go_wp2_with fail
                  refine (cI.out _ hv6).mono ?_
                  rintro e w6 ⟨rfl, hc6⟩
                  have hb6 := hb5.trans (hc6.mono hb5.size)
                  have hv7 := hv.below hb6
                  go_wp2_with fail
                  refine (cI1.out _ hv7).mono ?_
                  rintro e w7 ⟨rfl, hc7⟩
                  have hb7 := hb6.trans (hc7.mono hb6.size)
                  go_wp2_with fail
                  go_ret
                  exact ⟨by rw [show R = 0 from HR.out.symm.trans (by simp [hz1])]; rfl, hb7⟩
      | false =>
        cases L with
        | true =>
          go_enter Tryd.func36, Tryd.ntmps36
          go_wp2_with fail
          refine (cC.out _ hv).mono ?_
          rintro e w1 ⟨rfl, hc10⟩
          have hc1 := hc10.below w.heap.size
          have hb1 := hc1
          have hv2 := hv.below hb1
          go_wp2_with fail
          refine (cL.out _ hv2).mono ?_
          rintro e w2 ⟨rfl, hc2⟩
          have hb2 := hb1.trans (hc2.mono hb1.size)
          go_wp2_with fail
          refine (cA.out _).mono ?_
          rintro e w3 ⟨rfl, hc3⟩
          have hb3 := hb2.trans (hc3.mono hb2.size)
          go_wp2_with fail
          refine (cA1.out _).mono ?_
          rintro e w4 ⟨rfl, hc4⟩
          have hb4 := hb3.trans (hc4.mono hb3.size)
          go_wp2_with fail
          go_ret
          exact ⟨by rw [show R = 3 from HR.out.symm.trans (by simp)]; rfl, hb4⟩
        | false =>
          rcases hz with ⟨hz1, hz2⟩ | ⟨hz1, hz2⟩
          · skip
            go_enter Tryd.func36, Tryd.ntmps36
            go_wp2_with fail
            refine (cC.out _ hv).mono ?_
            rintro e w1 ⟨rfl, hc10⟩
            have hc1 := hc10.below w.heap.size
            have hb1 := hc1
            have hv2 := hv.below hb1
            go_wp2_with fail
            refine (cL.out _ hv2).mono ?_
            rintro e w2 ⟨rfl, hc2⟩
            have hb2 := hb1.trans (hc2.mono hb1.size)
            go_wp2_with fail
            refine (cA.out _).mono ?_
            rintro e w3 ⟨rfl, hc3⟩
            have hb3 := hb2.trans (hc3.mono hb2.size)
            go_wp2_with fail
            refine (cA1.out _).mono ?_
            rintro e w4 ⟨rfl, hc4⟩
            have hb4 := hb3.trans (hc4.mono hb3.size)
            go_wp2_with fail
            go_ret
            exact ⟨by rw [show R = 4 from HR.out.symm.trans (by simp [hz1])]; rfl, hb4⟩
          · skip
            cases I with
            | true =>
              go_enter Tryd.func36, Tryd.ntmps36
              go_wp2_with fail
              refine (cC.out _ hv).mono ?_
              rintro e w1 ⟨rfl, hc10⟩
              have hc1 := hc10.below w.heap.size
              have hb1 := hc1
              have hv2 := hv.below hb1
              go_wp2_with fail
              refine (cL.out _ hv2).mono ?_
              rintro e w2 ⟨rfl, hc2⟩
              have hb2 := hb1.trans (hc2.mono hb1.size)
              go_wp2_with fail
              refine (cA.out _).mono ?_
              rintro e w3 ⟨rfl, hc3⟩
              have hb3 := hb2.trans (hc3.mono hb2.size)
              go_wp2_with fail
              refine (cA1.out _).mono ?_
              rintro e w4 ⟨rfl, hc4⟩
              have hb4 := hb3.trans (hc4.mono hb3.size)
              have hv5 := hv.below hb4
              go_wp2_with fail
              refine (cI.out _ hv5).mono ?_
              rintro e w5 ⟨rfl, hc5⟩
              have hb5 := hb4.trans (hc5.mono hb4.size)
              go_wp2_with fail
              go_ret
              exact ⟨by rw [show R = 5 from HR.out.symm.trans (by simp [hz1])]; rfl, hb5⟩
            | false =>
              cases I1 with
              | true =>
                cases I2 with
                | true =>
                  go_enter Tryd.func36, Tryd.ntmps36
                  go_wp2_with fail
                  refine (cC.out _ hv).mono ?_
                  rintro e w1 ⟨rfl, hc10⟩
                  have hc1 := hc10.below w.heap.size
                  have hb1 := hc1
                  have hv2 := hv.below hb1
                  go_wp2_with fail
                  refine (cL.out _ hv2).mono ?_
                  rintro e w2 ⟨rfl, hc2⟩
                  have hb2 := hb1.trans (hc2.mono hb1.size)
                  go_wp2_with fail
                  refine (cA.out _).mono ?_
                  rintro e w3 ⟨rfl, hc3⟩
                  have hb3 := hb2.trans (hc3.mono hb2.size)
                  go_wp2_with fail
                  refine (cA1.out _).mono ?_
                  rintro e w4 ⟨rfl, hc4⟩
                  have hb4 := hb3.trans (hc4.mono hb3.size)
                  have hv5 := hv.below hb4
                  go_wp2_with fail
                  refine (cI.out _ hv5).mono ?_
                  rintro e w5 ⟨rfl, hc5⟩
                  have hb5 := hb4.trans (hc5.mono hb4.size)
                  have hv6 := hv.below hb5
                  go_wp2_with fail
                  refine (cI1.out _ hv6).mono ?_
                  rintro e w6 ⟨rfl, hc6⟩
                  have hb6 := hb5.trans (hc6.mono hb5.size)
                  have hv7 := hv.below hb6
                  go_wp2_with fail
                  refine (cI2.out _ hv7).mono ?_
                  rintro e w7 ⟨rfl, hc7⟩
                  have hb7 := hb6.trans (hc7.mono hb6.size)
                  go_wp2_with fail
                  go_ret
                  exact ⟨by rw [show R = 5 from HR.out.symm.trans (by simp [hz1])]; rfl, hb7⟩
                | false =>
                  go_enter Tryd.func36, Tryd.ntmps36
                  go_wp2_with fail
                  refine (cC.out _ hv).mono ?_
                  rintro e w1 ⟨rfl, hc10⟩
                  have hc1 := hc10.below w.heap.size
                  have hb1 := hc1
                  have hv2 := hv.below hb1
                  go_wp2_with fail
                  refine (cL.out _ hv2).mono ?_
                  rintro e w2 ⟨rfl, hc2⟩
                  have hb2 := hb1.trans (hc2.mono hb1.size)
                  go_wp2_with fail
                  refine (cA.out _).mono ?_
                  rintro e w3 ⟨rfl, hc3⟩
                  have hb3 := hb2.trans (hc3.mono hb2.size)
                  go_wp2_with fail
                  refine (cA1.out _).mono ?_
                  rintro e w4 ⟨rfl, hc4⟩
                  have hb4 := hb3.trans (hc4.mono hb3.size)
                  have hv5 := hv.below hb4
                  go_wp2_with fail
                  refine (cI.out _ hv5).mono ?_
                  rintro e w5 ⟨rfl, hc5⟩
                  have hb5 := hb4.trans (hc5.mono hb4.size)
                  have hv6 := hv.below hb5
                  go_wp2_with fail
                  refine (cI1.out _ hv6).mono ?_
                  rintro e w6 ⟨rfl, hc6⟩
                  have hb6 := hb5.trans (hc6.mono hb5.size)
                  have hv7 := hv.below hb6
                  go_wp2_with fail
                  refine (cI2.out _ hv7).mono ?_
                  rintro e w7 ⟨rfl, hc7⟩
                  have hb7 := hb6.trans (hc7.mono hb6.size)
                  go_wp2_with fail
                  go_ret
                  exact ⟨by rw [show R = 0 from HR.out.symm.trans (by simp [hz1])]; rfl, hb7⟩
              | false =>
                go_enter Tryd.func36, Tryd.ntmps36
                go_wp2_with fail
                refine (cC.out _ hv).mono ?_
                rintro e w1 ⟨rfl, hc10⟩
                have hc1 := hc10.below w.heap.size
                have hb1 := hc1
                have hv2 := hv.below hb1
                go_wp2_with fail
                refine (cL.out _ hv2).mono ?_
                rintro e w2 ⟨rfl, hc2⟩
                have hb2 := hb1.trans (hc2.mono hb1.size)
                go_wp2_with fail
                refine (cA.out _).mono ?_
                rintro e w3 ⟨rfl, hc3⟩
                have hb3 := hb2.trans (hc3.mono hb2.size)
                go_wp2_with fail
                refine (cA1.out _).mono ?_
                rintro e w4 ⟨rfl, hc4⟩
                have hb4 := hb3.trans (hc4.mono hb3.size)
                have hv5 := hv.below hb4
                go_wp2_with fail
                refine (cI.out _ hv5).mono ?_
                rintro e w5 ⟨rfl, hc5⟩
                have hb5 := hb4.trans (hc5.mono hb4.size)
                have hv6 := hv.below hb5
                go_wp2_with fail
                refine (cI1.out _ hv6).mono ?_
                rintro e w6 ⟨rfl, hc6⟩
                have hb6 := hb5.trans (hc6.mono hb5.size)
                go_wp2_with fail
                go_ret
                exact ⟨by rw [show R = 0 from HR.out.symm.trans (by simp [hz1])]; rfl, hb6⟩
    | false =>
      cases L with
      | true =>
        go_enter Tryd.func36, Tryd.ntmps36
        go_wp2_with fail
        refine (cC.out _ hv).mono ?_
        rintro e w1 ⟨rfl, hc10⟩
        have hc1 := hc10.below w.heap.size
        have hb1 := hc1
        have hv2 := hv.below hb1
        go_wp2_with fail
        refine (cL.out _ hv2).mono ?_
        rintro e w2 ⟨rfl, hc2⟩
        have hb2 := hb1.trans (hc2.mono hb1.size)
        go_wp2_with fail
        refine (cA.out _).mono ?_
        rintro e w3 ⟨rfl, hc3⟩
        have hb3 := hb2.trans (hc3.mono hb2.size)
        go_wp2_with fail
        go_ret
        exact ⟨by rw [show R = 3 from HR.out.symm.trans (by simp)]; rfl, hb3⟩
      | false =>
        rcases hz with ⟨hz1, hz2⟩ | ⟨hz1, hz2⟩
        · skip
          go_enter Tryd.func36, Tryd.ntmps36
          go_wp2_with fail
          refine (cC.out _ hv).mono ?_
          rintro e w1 ⟨rfl, hc10⟩
          have hc1 := hc10.below w.heap.size
          have hb1 := hc1
          have hv2 := hv.below hb1
          go_wp2_with fail
          refine (cL.out _ hv2).mono ?_
          rintro e w2 ⟨rfl, hc2⟩
          have hb2 := hb1.trans (hc2.mono hb1.size)
          go_wp2_with fail
          refine (cA.out _).mono ?_
          rintro e w3 ⟨rfl, hc3⟩
          have hb3 := hb2.trans (hc3.mono hb2.size)
          go_wp2_with fail
          go_ret
          exact ⟨by rw [show R = 4 from HR.out.symm.trans (by simp [hz1])]; rfl, hb3⟩
        · skip
          cases I with
          | true =>
            go_enter Tryd.func36, Tryd.ntmps36
            go_wp2_with fail
            refine (cC.out _ hv).mono ?_
            rintro e w1 ⟨rfl, hc10⟩
            have hc1 := hc10.below w.heap.size
            have hb1 := hc1
            have hv2 := hv.below hb1
            go_wp2_with fail
            refine (cL.out _ hv2).mono ?_
            rintro e w2 ⟨rfl, hc2⟩
            have hb2 := hb1.trans (hc2.mono hb1.size)
            go_wp2_with fail
            refine (cA.out _).mono ?_
            rintro e w3 ⟨rfl, hc3⟩
            have hb3 := hb2.trans (hc3.mono hb2.size)
            have hv4 := hv.below hb3
            go_wp2_with fail
            refine (cI.out _ hv4).mono ?_
            rintro e w4 ⟨rfl, hc4⟩
            have hb4 := hb3.trans (hc4.mono hb3.size)
            go_wp2_with fail
            go_ret
            exact ⟨by rw [show R = 5 from HR.out.symm.trans (by simp [hz1])]; rfl, hb4⟩
          | false =>
            go_enter Tryd.func36, Tryd.ntmps36
            go_wp2_with fail
            refine (cC.out _ hv).mono ?_
            rintro e w1 ⟨rfl, hc10⟩
            have hc1 := hc10.below w.heap.size
            have hb1 := hc1
            have hv2 := hv.below hb1
            go_wp2_with fail
            refine (cL.out _ hv2).mono ?_
            rintro e w2 ⟨rfl, hc2⟩
            have hb2 := hb1.trans (hc2.mono hb1.size)
            go_wp2_with fail
            refine (cA.out _).mono ?_
            rintro e w3 ⟨rfl, hc3⟩
            have hb3 := hb2.trans (hc3.mono hb2.size)
            have hv4 := hv.below hb3
            go_wp2_with fail
            refine (cI.out _ hv4).mono ?_
            rintro e w4 ⟨rfl, hc4⟩
            have hb4 := hb3.trans (hc4.mono hb3.size)
            go_wp2_with fail
            go_ret
            exact ⟨by rw [show R = 0 from HR.out.symm.trans (by simp [hz1])]; rfl, hb4⟩
end Go.Proofs.YtlideagcmhlkeaaDoor

/- The changes of FORMATs that Expand and Contract make: their closures. -/
namespace Go.Proofs.YtlideagcmhlkeaaDoor
open Go.RowKit Go.Lib
set_option linter.unusedVariables false
set_option linter.unusedSimpArgs false

set_option maxRecDepth 100000 in
set_option maxHeartbeats 8000000 in
theorem ex_any (s : SV) (e : EV) (B : Nat) (w : World) (hS : SrcIn w s) (hbk : Blk w B 32 #[.slice s.rA s.rules.length s.rc, .slice s.zA s.zones.length s.zc, .slice s.kA s.links.length s.kc, .slice s.hA s.shifts.length s.hc]) (hl : s.rules.length ≤ 1000) (hsv : SvOk s.rules) (h1 : -9223372036854775808 ≤ e.off ∧ e.off ≤ 9223372036854775807) (h2 : -9223372036854775808 ≤ e.save ∧ e.save ≤ 9223372036854775807) :
    Calls Tryd.prog 48 #[.agg #[.int .i64 e.off, .int .i64 e.kind, .int .i64 e.save, .string e.set, .string e.fmt, .bool e.ui, .int .i64 e.uy, .int .i64 e.um, .int .i64 e.dk, .int .i64 e.dw, .int .i64 e.dd, .int .i64 e.asec, .int .i64 e.ab], .pointer (some ⟨B, 0, none⟩)] w fun x w' => x = .returned (.tuple #[.string (exF s.rules e).1, .int .i64 (exF s.rules e).2]) ∧ Below w.heap.size w w' := by
  have hE := Blk.new w 47 #[.int .i64 e.off, .int .i64 e.kind, .int .i64 e.save, .string e.set, .string e.fmt, .bool e.ui, .int .i64 e.uy, .int .i64 e.um, .int .i64 e.dk, .int .i64 e.dw, .int .i64 e.dd, .int .i64 e.asec, .int .i64 e.ab]
  have hb0 := (Below.refl _ w).alloc (Nat.le_refl _) (.cells #[.int .i64 e.off, .int .i64 e.kind, .int .i64 e.save, .string e.set, .string e.fmt, .bool e.ui, .int .i64 e.uy, .int .i64 e.um, .int .i64 e.dk, .int .i64 e.dw, .int .i64 e.dd, .int .i64 e.asec, .int .i64 e.ab] 47)
  have hB := hbk.alloc (.cells #[.int .i64 e.off, .int .i64 e.kind, .int .i64 e.save, .string e.set, .string e.fmt, .bool e.ui, .int .i64 e.uy, .int .i64 e.um, .int .i64 e.dk, .int .i64 e.dw, .int .i64 e.dd, .int .i64 e.asec, .int .i64 e.ab] 47)
  have cN : Hid (∀ W, Below w.heap.size w W → Calls Tryd.prog 49 #[.agg #[.slice s.rA s.rules.length s.rc, .slice s.zA s.zones.length s.zc, .slice s.kA s.links.length s.kc, .slice s.hA s.shifts.length s.hc], .agg #[.int .i64 e.off, .int .i64 e.kind, .int .i64 e.save, .string e.set, .string e.fmt, .bool e.ui, .int .i64 e.uy, .int .i64 e.um, .int .i64 e.dk, .int .i64 e.dw, .int .i64 e.dd, .int .i64 e.asec, .int .i64 e.ab]] W fun x w' => x = .returned (.tuple #[.string (num30 s.rules e).1, .int .i64 (num30 s.rules e).2]) ∧ Below W.heap.size W w') := Lib.hid fun W hb => number_any s e W (hS.below hb) hl hsv h1 h2
  have HE := Lib.hid hE; have HB := Lib.hid hB; have HBL := Lib.hid hb0
  obtain ⟨X, Y, hXY⟩ : ∃ X Y, num30 s.rules e = (X, Y) := ⟨_, _, rfl⟩
  rw [hXY] at cN
  clear hS hbk hl hsv h1 h2 hE hB hb0
  by_cases hz : e.fmt = ⟨#[37, 122]⟩
  · have hR : exF s.rules e = (X, Y) := by unfold exF; rw [if_pos hz, hXY]
    rw [hR]
    have hd : (e.fmt.toList == [37, 122]) = true := by rw [hz]; decide +kernel
    clear hz hR hXY
    have b0 := (HB.out.cell 0).trans rfl
    have b1 := (HB.out.cell 1).trans rfl
    have b2 := (HB.out.cell 2).trans rfl
    have b3 := (HB.out.cell 3).trans rfl
    have e0 := (HE.out.cell 0).trans rfl
    have e1 := (HE.out.cell 1).trans rfl
    have e2 := (HE.out.cell 2).trans rfl
    have e3 := (HE.out.cell 3).trans rfl
    have e4 := (HE.out.cell 4).trans rfl
    have e5 := (HE.out.cell 5).trans rfl
    have e6 := (HE.out.cell 6).trans rfl
    have e7 := (HE.out.cell 7).trans rfl
    have e8 := (HE.out.cell 8).trans rfl
    have e9 := (HE.out.cell 9).trans rfl
    have e10 := (HE.out.cell 10).trans rfl
    have e11 := (HE.out.cell 11).trans rfl
    have e12 := (HE.out.cell 12).trans rfl
    go_enter Tryd.func48, Tryd.ntmps48
    go_wp2_with fail
    refine (cN.out _ HBL.out).mono ?_
    rintro x w2 ⟨rfl, hc⟩
    go_wp2_with fail
    go_ret2
    exact ⟨rfl, HBL.out.trans (hc.mono HBL.out.size)⟩
  · have hR : exF s.rules e = (e.fmt, 0) := by unfold exF; rw [if_neg hz]
    rw [hR]
    have hd : (e.fmt.toList == [37, 122]) = false := by have q := eq_b e.fmt (str [37, 122]) hz; rwa [str_toList] at q
    clear hz hR hXY
    have e4 := (HE.out.cell 4).trans rfl
    go_enter Tryd.func48, Tryd.ntmps48
    go_wp2_with fail
    go_ret2
    exact ⟨rfl, HBL.out⟩
set_option maxRecDepth 100000 in
set_option maxHeartbeats 8000000 in
theorem co_any (s : SV) (e : EV) (B : Nat) (w : World) (hS : SrcIn w s) (hbk : Blk w B 32 #[.slice s.rA s.rules.length s.rc, .slice s.zA s.zones.length s.zc, .slice s.kA s.links.length s.kc, .slice s.hA s.shifts.length s.hc]) (hl : s.rules.length ≤ 1000) (hsv : SvOk s.rules) (h1 : -9223372036854775808 ≤ e.off ∧ e.off ≤ 9223372036854775807) (h2 : -9223372036854775808 ≤ e.save ∧ e.save ≤ 9223372036854775807) (hsz : e.fmt.size ≤ 1000000) (hv : Vars21 w) :
    Calls Tryd.prog 55 #[.agg #[.int .i64 e.off, .int .i64 e.kind, .int .i64 e.save, .string e.set, .string e.fmt, .bool e.ui, .int .i64 e.uy, .int .i64 e.um, .int .i64 e.dk, .int .i64 e.dw, .int .i64 e.dd, .int .i64 e.asec, .int .i64 e.ab], .pointer (some ⟨B, 0, none⟩)] w fun x w' => x = .returned (.tuple #[.string (coF s.rules e).1, .int .i64 (coF s.rules e).2]) ∧ Below w.heap.size w w' := by
  have hE := Blk.new w 47 #[.int .i64 e.off, .int .i64 e.kind, .int .i64 e.save, .string e.set, .string e.fmt, .bool e.ui, .int .i64 e.uy, .int .i64 e.um, .int .i64 e.dk, .int .i64 e.dw, .int .i64 e.dd, .int .i64 e.asec, .int .i64 e.ab]
  have hb0 := (Below.refl _ w).alloc (Nat.le_refl _) (.cells #[.int .i64 e.off, .int .i64 e.kind, .int .i64 e.save, .string e.set, .string e.fmt, .bool e.ui, .int .i64 e.uy, .int .i64 e.um, .int .i64 e.dk, .int .i64 e.dw, .int .i64 e.dd, .int .i64 e.asec, .int .i64 e.ab] 47)
  have hB := hbk.alloc (.cells #[.int .i64 e.off, .int .i64 e.kind, .int .i64 e.save, .string e.set, .string e.fmt, .bool e.ui, .int .i64 e.uy, .int .i64 e.um, .int .i64 e.dk, .int .i64 e.dw, .int .i64 e.dd, .int .i64 e.asec, .int .i64 e.ab] 47)
  have cN : Hid (∀ W, Below w.heap.size w W → Calls Tryd.prog 49 #[.agg #[.slice s.rA s.rules.length s.rc, .slice s.zA s.zones.length s.zc, .slice s.kA s.links.length s.kc, .slice s.hA s.shifts.length s.hc], .agg #[.int .i64 e.off, .int .i64 e.kind, .int .i64 e.save, .string e.set, .string e.fmt, .bool e.ui, .int .i64 e.uy, .int .i64 e.um, .int .i64 e.dk, .int .i64 e.dw, .int .i64 e.dd, .int .i64 e.asec, .int .i64 e.ab]] W fun x w' => x = .returned (.tuple #[.string (num30 s.rules e).1, .int .i64 (num30 s.rules e).2]) ∧ Below W.heap.size W w') := Lib.hid fun W hb => number_any s e W (hS.below hb) hl hsv h1 h2
  have HE := Lib.hid hE; have HB := Lib.hid hB; have HBL := Lib.hid hb0
  obtain ⟨X, Y, hXY⟩ : ∃ X Y, num30 s.rules e = (X, Y) := ⟨_, _, rfl⟩
  rw [hXY] at cN
  have cK : Hid (∀ W, Below w.heap.size w W → Calls Tryd.prog 36 #[.string e.fmt] W fun x w' => x = .returned (.int .i64 (P21.kind (P4.bl e.fmt))) ∧ Below W.heap.size W w') := Lib.hid fun W hb => kind_any e.fmt W hsz (hv.below hb)
  have e4 := (HE.out.cell 4).trans rfl
  by_cases hk : P21.kind (P4.bl e.fmt) = 5
  · have hR : coF s.rules e = (if Y = 0 then (if X = e.fmt then (⟨#[37, 122]⟩, 0) else (⟨#[]⟩, 15)) else (⟨#[]⟩, Y)) := by unfold coF; rw [if_pos hk, hXY]
    rw [hk] at cK
    obtain ⟨R1, R2, hRR⟩ : ∃ R1 R2, coF s.rules e = (R1, R2) := ⟨_, _, rfl⟩
    have HR := Lib.hid (hR.symm.trans hRR)
    rw [hRR]
    clear hk hR hRR hXY hS hbk hl hsv h1 h2 hE hB hb0 hsz hv
    go_enter Tryd.func55, Tryd.ntmps55
    go_wp2_with fail
    refine (cK.out _ HBL.out).mono ?_
    rintro x w2 ⟨rfl, hc⟩
    have HB2 := Lib.hid (HB.out.below hc HB.out.lt)
    have HE2 := Lib.hid (HE.out.below hc HE.out.lt)
    have HBL2 := Lib.hid (HBL.out.trans (hc.mono HBL.out.size))
    clear e4 hc HB HE HBL
    have b0 := (HB2.out.cell 0).trans rfl
    have b1 := (HB2.out.cell 1).trans rfl
    have b2 := (HB2.out.cell 2).trans rfl
    have b3 := (HB2.out.cell 3).trans rfl
    have e0 := (HE2.out.cell 0).trans rfl
    have e1 := (HE2.out.cell 1).trans rfl
    have e2 := (HE2.out.cell 2).trans rfl
    have e3 := (HE2.out.cell 3).trans rfl
    have e4 := (HE2.out.cell 4).trans rfl
    have e5 := (HE2.out.cell 5).trans rfl
    have e6 := (HE2.out.cell 6).trans rfl
    have e7 := (HE2.out.cell 7).trans rfl
    have e8 := (HE2.out.cell 8).trans rfl
    have e9 := (HE2.out.cell 9).trans rfl
    have e10 := (HE2.out.cell 10).trans rfl
    have e11 := (HE2.out.cell 11).trans rfl
    have e12 := (HE2.out.cell 12).trans rfl
    go_wp2_with fail
    refine (cN.out _ HBL2.out).mono ?_
    rintro x w3 ⟨rfl, hc⟩
    have HE3 := Lib.hid (HE2.out.below hc HE2.out.lt)
    have HBL3 := Lib.hid (HBL2.out.trans (hc.mono HBL2.out.size))
    clear b0 b1 b2 b3 e0 e1 e2 e3 e4 e5 e6 e7 e8 e9 e10 e11 e12 hc HB2 HE2 HBL2
    have e4 := (HE3.out.cell 4).trans rfl
    by_cases hy : Y = 0
    · have hdy : (Y == 0) = true := by rw [hy]; rfl
      by_cases hx : X = e.fmt
      · have hdx : (X.toList == e.fmt.toList) = true := by rw [hx]; simp
        have HQ1 := Lib.hid (show (⟨#[37, 122]⟩ : ByteArray) = R1 by have q := HR.out; rw [if_pos hy, if_pos hx] at q; exact congrArg Prod.fst q)
        have HQ2 := Lib.hid (show (0 : Int) = R2 by have q := HR.out; rw [if_pos hy, if_pos hx] at q; exact congrArg Prod.snd q)
        clear hx hy
        go_wp2_with fail
        go_ret2
        exact ⟨by rw [← HQ1.out, ← HQ2.out]; rfl, HBL3.out⟩
      · have hdx : (X.toList == e.fmt.toList) = false := eq_b _ _ hx
        have HQ1 := Lib.hid (show (⟨#[]⟩ : ByteArray) = R1 by have q := HR.out; rw [if_pos hy, if_neg hx] at q; exact congrArg Prod.fst q)
        have HQ2 := Lib.hid (show (15 : Int) = R2 by have q := HR.out; rw [if_pos hy, if_neg hx] at q; exact congrArg Prod.snd q)
        clear hx hy
        go_wp2_with fail
        go_ret2
        exact ⟨by rw [← HQ1.out, ← HQ2.out]; rfl, HBL3.out⟩
    · have hdy : (Y == 0) = false := by simpa using hy
      have HQ1 := Lib.hid (show (⟨#[]⟩ : ByteArray) = R1 by have q := HR.out; rw [if_neg hy] at q; exact congrArg Prod.fst q)
      have HQ2 := Lib.hid (show (Y : Int) = R2 by have q := HR.out; rw [if_neg hy] at q; exact congrArg Prod.snd q)
      clear hy
      go_wp2_with fail
      go_ret2
      exact ⟨by rw [← HQ1.out, ← HQ2.out]; rfl, HBL3.out⟩
  · have hR : coF s.rules e = (e.fmt, 0) := by unfold coF; rw [if_neg hk]
    obtain ⟨K, hK⟩ : ∃ K : Int, P21.kind (P4.bl e.fmt) = K := ⟨_, rfl⟩
    have hdk : (K == 5) = false := by rw [← hK]; simpa using hk
    rw [hK] at cK
    rw [hR]
    clear hk hK hR hXY hS hbk hl hsv h1 h2 hE hB hb0 hsz hv
    go_enter Tryd.func55, Tryd.ntmps55
    go_wp2_with fail
    refine (cK.out _ HBL.out).mono ?_
    rintro x w2 ⟨rfl, hc⟩
    have HE2 := Lib.hid (HE.out.below hc HE.out.lt)
    have HBL2 := Lib.hid (HBL.out.trans (hc.mono HBL.out.size))
    clear e4 hc HB HE HBL
    have e4 := (HE2.out.cell 4).trans rfl
    go_wp2_with fail
    go_ret2
    exact ⟨rfl, HBL2.out⟩
end Go.Proofs.YtlideagcmhlkeaaDoor

/- Expand and Contract (chapter 30): the FORMATs changed, or the first error. -/
namespace Go.Proofs.YtlideagcmhlkeaaDoor
open Go.RowKit Go.Lib
set_option linter.unusedVariables false
set_option linter.unusedSimpArgs false

set_option maxRecDepth 100000 in
set_option maxHeartbeats 8000000 in
theorem expand_any (s : SV) (w : World) (hS : SrcIn w s) (hf : Few30 s) :
    Calls Tryd.prog 14 #[.agg #[.slice s.rA s.rules.length s.rc, .slice s.zA s.zones.length s.zc, .slice s.kA s.links.length s.kc, .slice s.hA s.shifts.length s.hc]] w fun x w' => ∃ (t : SV) (n : Int), x = .returned (.tuple #[.agg #[.slice t.rA t.rules.length t.rc, .slice t.zA t.zones.length t.zc, .slice t.kA t.links.length t.kc, .slice t.hA t.shifts.length t.hc], .int .i64 n]) ∧ SrcG w' t ∧ Res30 (exF s.rules) s t n ∧ Below w.heap.size w w' := by
  have hb0 := ((Below.refl w.heap.size w).alloc (Nat.le_refl _) (.cells #[.slice s.rA s.rules.length s.rc, .slice s.zA s.zones.length s.zc, .slice s.kA s.links.length s.kc, .slice s.hA s.shifts.length s.hc] 32)).alloc (by simp) (.cells #[.slice none 0 0, .slice none 0 0, .slice none 0 0, .slice none 0 0] 32)
  have hx0 := (Blk.new w 32 #[.slice s.rA s.rules.length s.rc, .slice s.zA s.zones.length s.zc, .slice s.kA s.links.length s.kc, .slice s.hA s.shifts.length s.hc]).alloc (.cells #[.slice none 0 0, .slice none 0 0, .slice none 0 0, .slice none 0 0] 32)
  have hr0 := Blk.newAt (w.alloc (.cells #[.slice s.rA s.rules.length s.rc, .slice s.zA s.zones.length s.zc, .slice s.kA s.links.length s.kc, .slice s.hA s.shifts.length s.hc] 32)) (w.heap.size + 1) (by simp) 32 #[.slice none 0 0, .slice none 0 0, .slice none 0 0, .slice none 0 0]
  have c0 := (hx0.cell 0).trans rfl; have c1 := (hx0.cell 1).trans rfl; have c2 := (hx0.cell 2).trans rfl; have c3 := (hx0.cell 3).trans rfl
  have cE := Lib.hid (each_any (exF s.rules) 48 #[.pointer (some ⟨w.heap.size, 0, none⟩)] s _ (hS.below hb0) hf (enters_of Tryd.func48 (by kernel_rfl) rfl)
    (fun z hz e he W hb => ex_any s e w.heap.size W (hS.below (hb0.trans (hb.mono hb0.size))) (hx0.below hb hx0.lt) hf.lens.1 hf.saves (hf.nums z hz e he).1 (hf.nums z hz e he).2.1))
  have HR0 := Lib.hid hr0; have HB0 := Lib.hid hb0
  have hmf : ∀ (fn : Fn) (first cap : Array Value) (W : World), (Instr.makeFunc fn first cap).run Tryd.prog W = .ok (.func fn first cap) W := fun _ _ _ _ => rfl
  clear hS hf hb0 hx0 hr0
  go_enter Tryd.func14, Tryd.ntmps14
  go_wp2_with fail
  refine cE.out.mono ?_
  rintro x W2 ⟨t, n, rfl, hT, hR, hc⟩
  have hr := HR0.out.below hc HR0.out.lt
  have hb := HB0.out.trans (hc.mono HB0.out.size)
  have r0 := (hr.cell 0).trans rfl; have r1 := (hr.cell 1).trans rfl; have r2 := (hr.cell 2).trans rfl; have r3 := (hr.cell 3).trans rfl
  have g0 := hr.frozen 0; have g1 := hr.frozen 1; have g2 := hr.frozen 2; have g3 := hr.frozen 3
  have t4 := GS.set4 hr (.slice t.rA t.rules.length t.rc) (.slice t.zA t.zones.length t.zc) (.slice t.kA t.links.length t.kc) (.slice t.hA t.shifts.length t.hc)
  have k0 := (t4.2.cell 0).trans rfl; have k1 := (t4.2.cell 1).trans rfl; have k2 := (t4.2.cell 2).trans rfl; have k3 := (t4.2.cell 3).trans rfl
  have HT := Lib.hid (hT.step t4.1); have HR := Lib.hid hR; have HB := Lib.hid hb
  clear cE hT hR hc hr hb t4 hmf c0 c1 c2 c3
  go_wp2_with fail
  refine bodyPost_ret (v := .tuple #[.agg #[.slice t.rA t.rules.length t.rc, .slice t.zA t.zones.length t.zc, .slice t.kA t.links.length t.kc, .slice t.hA t.shifts.length t.hc], .int .i64 n]) (by simp [results, Tryd.results14, go_sem, k0, k1, k2, k3]) rfl ?_
  exact ⟨t, n, rfl, HT.out, HR.out, below_set4 HB.out (Nat.le_succ _) _ _ _ _⟩
set_option maxRecDepth 100000 in
set_option maxHeartbeats 8000000 in
theorem contract_any (s : SV) (w : World) (hS : SrcIn w s) (hf : Few30 s) (hv : Vars21 w) :
    Calls Tryd.prog 20 #[.agg #[.slice s.rA s.rules.length s.rc, .slice s.zA s.zones.length s.zc, .slice s.kA s.links.length s.kc, .slice s.hA s.shifts.length s.hc]] w fun x w' => ∃ (t : SV) (n : Int), x = .returned (.tuple #[.agg #[.slice t.rA t.rules.length t.rc, .slice t.zA t.zones.length t.zc, .slice t.kA t.links.length t.kc, .slice t.hA t.shifts.length t.hc], .int .i64 n]) ∧ SrcG w' t ∧ Res30 (coF s.rules) s t n ∧ Below w.heap.size w w' := by
  have hb0 := ((Below.refl w.heap.size w).alloc (Nat.le_refl _) (.cells #[.slice s.rA s.rules.length s.rc, .slice s.zA s.zones.length s.zc, .slice s.kA s.links.length s.kc, .slice s.hA s.shifts.length s.hc] 32)).alloc (by simp) (.cells #[.slice none 0 0, .slice none 0 0, .slice none 0 0, .slice none 0 0] 32)
  have hx0 := (Blk.new w 32 #[.slice s.rA s.rules.length s.rc, .slice s.zA s.zones.length s.zc, .slice s.kA s.links.length s.kc, .slice s.hA s.shifts.length s.hc]).alloc (.cells #[.slice none 0 0, .slice none 0 0, .slice none 0 0, .slice none 0 0] 32)
  have hr0 := Blk.newAt (w.alloc (.cells #[.slice s.rA s.rules.length s.rc, .slice s.zA s.zones.length s.zc, .slice s.kA s.links.length s.kc, .slice s.hA s.shifts.length s.hc] 32)) (w.heap.size + 1) (by simp) 32 #[.slice none 0 0, .slice none 0 0, .slice none 0 0, .slice none 0 0]
  have c0 := (hx0.cell 0).trans rfl; have c1 := (hx0.cell 1).trans rfl; have c2 := (hx0.cell 2).trans rfl; have c3 := (hx0.cell 3).trans rfl
  have cE := Lib.hid (each_any (coF s.rules) 55 #[.pointer (some ⟨w.heap.size, 0, none⟩)] s _ (hS.below hb0) hf (enters_of Tryd.func55 (by kernel_rfl) rfl)
    (fun z hz e he W hb => co_any s e w.heap.size W (hS.below (hb0.trans (hb.mono hb0.size))) (hx0.below hb hx0.lt) hf.lens.1 hf.saves (hf.nums z hz e he).1 (hf.nums z hz e he).2.1 (hf.nums z hz e he).2.2 (hv.below (hb0.trans (hb.mono hb0.size)))))
  have HR0 := Lib.hid hr0; have HB0 := Lib.hid hb0
  have hmf : ∀ (fn : Fn) (first cap : Array Value) (W : World), (Instr.makeFunc fn first cap).run Tryd.prog W = .ok (.func fn first cap) W := fun _ _ _ _ => rfl
  clear hS hf hb0 hx0 hr0 hv
  go_enter Tryd.func20, Tryd.ntmps20
  go_wp2_with fail
  refine cE.out.mono ?_
  rintro x W2 ⟨t, n, rfl, hT, hR, hc⟩
  have hr := HR0.out.below hc HR0.out.lt
  have hb := HB0.out.trans (hc.mono HB0.out.size)
  have r0 := (hr.cell 0).trans rfl; have r1 := (hr.cell 1).trans rfl; have r2 := (hr.cell 2).trans rfl; have r3 := (hr.cell 3).trans rfl
  have g0 := hr.frozen 0; have g1 := hr.frozen 1; have g2 := hr.frozen 2; have g3 := hr.frozen 3
  have t4 := GS.set4 hr (.slice t.rA t.rules.length t.rc) (.slice t.zA t.zones.length t.zc) (.slice t.kA t.links.length t.kc) (.slice t.hA t.shifts.length t.hc)
  have k0 := (t4.2.cell 0).trans rfl; have k1 := (t4.2.cell 1).trans rfl; have k2 := (t4.2.cell 2).trans rfl; have k3 := (t4.2.cell 3).trans rfl
  have HT := Lib.hid (hT.step t4.1); have HR := Lib.hid hR; have HB := Lib.hid hb
  clear cE hT hR hc hr hb t4 hmf c0 c1 c2 c3
  go_wp2_with fail
  refine bodyPost_ret (v := .tuple #[.agg #[.slice t.rA t.rules.length t.rc, .slice t.zA t.zones.length t.zc, .slice t.kA t.links.length t.kc, .slice t.hA t.shifts.length t.hc], .int .i64 n]) (by simp [results, Tryd.results20, go_sem, k0, k1, k2, k3]) rfl ?_
  exact ⟨t, n, rfl, HT.out, HR.out, below_set4 HB.out (Nat.le_succ _) _ _ _ _⟩
end Go.Proofs.YtlideagcmhlkeaaDoor

/- The examples of chapter 30 (works), and turns for Expand and Contract. -/
namespace Go.Proofs.YtlideagcmhlkeaaDoor
open Go.RowKit Go.Lib
set_option linter.unusedVariables false
set_option linter.unusedSimpArgs false

/-- what the sources of the examples keep within -/
def BdE (e : EV) (sv : List Int) : Prop := (-9223372036854775808 ≤ e.off ∧ e.off ≤ 9223372036854775807) ∧ (-9223372036854775808 ≤ e.save ∧ e.save ≤ 9223372036854775807) ∧ e.fmt.size ≤ 1000000 ∧ sv.length ≤ 100 ∧ ∀ y ∈ sv, -9223372036854775808 ≤ y ∧ y ≤ 9223372036854775807
theorem svs_one (sv : List Int) : svs (oneRs sv) = sv := by
  refine List.ext_getElem? fun i => ?_
  unfold svs oneRs
  rw [List.getElem?_map, List.getElem?_mapIdx]
  cases sv[i]? <;> rfl
theorem few_one {t : SV} {e : EV} {sv : List Int} {eA : Option Addr} {ec : Nat} (hr : t.rules = oneRs sv) (hz : t.zones = [⟨⟨#[65]⟩, eA, ec, [e]⟩]) (hk : t.links = []) (hh : t.shifts = []) (hb : BdE e sv) : Few30 t := by
  obtain ⟨h1, h2, h3, h4, h5⟩ := hb
  refine ⟨⟨by rw [hr, oneRs_len]; omega, by rw [hz]; exact (by decide : 1 ≤ 1000), by rw [hk]; decide, by rw [hh]; decide⟩, fun z hm => ?_, fun z hm x hx => ?_, fun y hy => ?_⟩
  · rw [hz] at hm
    obtain rfl := List.mem_singleton.1 hm
    show 1 ≤ 1000
    decide
  · rw [hz] at hm
    obtain rfl := List.mem_singleton.1 hm
    obtain rfl := List.mem_singleton.1 hx
    exact ⟨h1, h2, h3⟩
  · rw [hr, svs_one] at hy
    exact h5 y hy
theorem turns_ex {t : SV} (e : EV) (sv : List Int) (want : ByteArray) (n : Int) (w : World) (hS : SrcG w t) (hq : t.rules = oneRs sv ∧ (∃ eA ec, t.zones = [⟨⟨#[65]⟩, eA, ec, [e]⟩]) ∧ t.links = [] ∧ t.shifts = []) (hb : BdE e sv) (hn : (exF (oneRs sv) e).2 = n) (hw : n = 0 → (exF (oneRs sv) e).1 = want) :
    Calls Tryd.prog 27 #[.func (.func 14) #[] #[], .agg #[.slice t.rA t.rules.length t.rc, .slice t.zA t.zones.length t.zc, .slice t.kA t.links.length t.kc, .slice t.hA t.shifts.length t.hc], .string want, .int .i64 n] w fun x w' => x = .returned (.bool true) ∧ Below w.heap.size w w' := by
  obtain ⟨hr, ⟨eA, ec, hz⟩, hk, hh⟩ := hq
  have hf := few_one hr hz hk hh hb
  exact turns_any _ (exF t.rules) t want n _ eA ec e w hS hf hz (enters_of Tryd.func14 (by kernel_rfl) rfl) (fun W h => expand_any t W (hS.below h).src hf) (by rw [hr]; exact hn) (fun h => by rw [hr]; exact hw h)
theorem turns_co {t : SV} (e : EV) (sv : List Int) (want : ByteArray) (n : Int) (w : World) (hv : Vars21 w) (hS : SrcG w t) (hq : t.rules = oneRs sv ∧ (∃ eA ec, t.zones = [⟨⟨#[65]⟩, eA, ec, [e]⟩]) ∧ t.links = [] ∧ t.shifts = []) (hb : BdE e sv) (hn : (coF (oneRs sv) e).2 = n) (hw : n = 0 → (coF (oneRs sv) e).1 = want) :
    Calls Tryd.prog 27 #[.func (.func 20) #[] #[], .agg #[.slice t.rA t.rules.length t.rc, .slice t.zA t.zones.length t.zc, .slice t.kA t.links.length t.kc, .slice t.hA t.shifts.length t.hc], .string want, .int .i64 n] w fun x w' => x = .returned (.bool true) ∧ Below w.heap.size w w' := by
  obtain ⟨hr, ⟨eA, ec, hz⟩, hk, hh⟩ := hq
  have hf := few_one hr hz hk hh hb
  exact turns_any _ (coF t.rules) t want n _ eA ec e w hS hf hz (enters_of Tryd.func20 (by kernel_rfl) rfl) (fun W h => contract_any t W (hS.below h).src hf (hv.below h)) (by rw [hr]; exact hn) (fun h => by rw [hr]; exact hw h)
theorem saves_in {w : World} {sv : List Int} (g : Nat) (t : TypeId) {cs : Array Value} (h : Blk w g t cs) (hc : cs.toList = sv.map (fun y => Value.int .i64 y)) : CellsIn 1 (fun y : Int => [Value.int .i64 y]) w (some ⟨g, 0, none⟩) sv := by
  intro k r hr
  refine ⟨g, 0, rfl, h.lt, fun j u hu => ?_⟩
  have hj : j = 0 := by have := (List.getElem?_eq_some_iff.1 hu).1; simp at this; omega
  subst hj
  injection hu with hu
  subst hu
  rw [show 0 + k * 1 + 0 = k by omega]
  refine (h.cell k).trans ?_
  rw [← Array.getElem?_toList, hc, List.getElem?_map, hr]
  rfl
theorem saves_nil (w : World) : CellsIn 1 (fun y : Int => [Value.int .i64 y]) w none [] := fun k r h => by simp at h
instance (e : EV) (sv : List Int) : Decidable (BdE e sv) := by unfold BdE; infer_instance
def nmE (off : Int) (f : ByteArray) : EV := ⟨off, 2, 0, ⟨#[82]⟩, f, false, 0, 0, 0, 0, 0, 0, 0⟩
set_option maxRecDepth 100000 in
set_option maxHeartbeats 16000000 in
theorem works30_any (w : World) (hv : Vars21 w) : Calls Tryd.prog 19 #[] w fun x w' => x = .returned (.bool true) ∧ Below w.heap.size w w' := by
  go_enter Tryd.func19, Tryd.ntmps19
  go_wp2_with fail
  refine (named_any 18000 ⟨#[37, 122]⟩ _).mono ?_
  rintro x Wn0 ⟨rfl, hc⟩
  have hn0 : Below w.heap.size w Wn0 := (Below.refl w.heap.size w).trans (hc.mono (Below.refl w.heap.size w).size)
  clear hc
  have hk0 := Blk.new Wn0 2 #[.int .i64 0, .int .i64 3600]
  have hm0 := hn0.alloc hn0.size (.cells #[.int .i64 0, .int .i64 3600] 2)
  have HK := Lib.hid hk0; have HM := Lib.hid hm0; clear hk0 hm0
  go_wp2_with fail
  refine (one_any (nmE 18000 ⟨#[37, 122]⟩) (some ⟨Wn0.heap.size, 0, none⟩) 2 [0, 3600] _ (by decide) (saves_in _ _ HK.out rfl)).mono ?_
  rintro x Wo0 ⟨t0, rfl, hS, hq, hc⟩
  have HS := Lib.hid hS; have HQ := Lib.hid hq; have HO := Lib.hid (HM.out.trans (hc.mono HM.out.size)); clear hS hq hc HM HK hn0
  go_wp2_with fail
  refine (turns_ex (nmE 18000 ⟨#[37, 122]⟩) [0, 3600] ⟨#[43, 48, 53, 47, 43, 48, 54]⟩ 0 _ HS.out HQ.out (by decide) (by decide +kernel) (by decide +kernel)).mono ?_
  rintro x Wt0 ⟨rfl, hc⟩
  have ht0 := HO.out.trans (hc.mono HO.out.size)
  clear hc HS HQ HO
  go_wp2_with fail
  refine (named_any 18000 ⟨#[43, 48, 53, 47, 43, 48, 54]⟩ _).mono ?_
  rintro x Wn1 ⟨rfl, hc⟩
  have hn1 : Below w.heap.size w Wn1 := ht0.trans (hc.mono ht0.size)
  clear hc ht0
  have hk1 := Blk.new Wn1 2 #[.int .i64 0, .int .i64 3600]
  have hm1 := hn1.alloc hn1.size (.cells #[.int .i64 0, .int .i64 3600] 2)
  have HK := Lib.hid hk1; have HM := Lib.hid hm1; clear hk1 hm1
  go_wp2_with fail
  refine (one_any (nmE 18000 ⟨#[43, 48, 53, 47, 43, 48, 54]⟩) (some ⟨Wn1.heap.size, 0, none⟩) 2 [0, 3600] _ (by decide) (saves_in _ _ HK.out rfl)).mono ?_
  rintro x Wo1 ⟨t1, rfl, hS, hq, hc⟩
  have HS := Lib.hid hS; have HQ := Lib.hid hq; have HO := Lib.hid (HM.out.trans (hc.mono HM.out.size)); clear hS hq hc HM HK hn1
  go_wp2_with fail
  refine (turns_co (nmE 18000 ⟨#[43, 48, 53, 47, 43, 48, 54]⟩) [0, 3600] ⟨#[37, 122]⟩ 0 _ (hv.below HO.out) HS.out HQ.out (by decide) (by decide +kernel) (by decide +kernel)).mono ?_
  rintro x Wt1 ⟨rfl, hc⟩
  have ht1 := HO.out.trans (hc.mono HO.out.size)
  clear hc HS HQ HO
  go_wp2_with fail
  have HM := Lib.hid ht1; clear ht1
  refine (one_any (⟨19800, 0, 0, ⟨#[]⟩, ⟨#[37, 122]⟩, false, 0, 0, 0, 0, 0, 0, 0⟩ : EV) none 0 [] _ (by decide) (saves_nil _)).mono ?_
  rintro x Wo2 ⟨t2, rfl, hS, hq, hc⟩
  have HS := Lib.hid hS; have HQ := Lib.hid hq; have HO := Lib.hid (HM.out.trans (hc.mono HM.out.size)); clear hS hq hc HM
  go_wp2_with fail
  refine (turns_ex (⟨19800, 0, 0, ⟨#[]⟩, ⟨#[37, 122]⟩, false, 0, 0, 0, 0, 0, 0, 0⟩ : EV) [] ⟨#[43, 48, 53, 51, 48]⟩ 0 _ HS.out HQ.out (by decide) (by decide +kernel) (by decide +kernel)).mono ?_
  rintro x Wt2 ⟨rfl, hc⟩
  have ht2 := HO.out.trans (hc.mono HO.out.size)
  clear hc HS HQ HO
  go_wp2_with fail
  have HM := Lib.hid ht2; clear ht2
  refine (one_any (⟨(-10800), 1, 3600, ⟨#[]⟩, ⟨#[37, 122]⟩, false, 0, 0, 0, 0, 0, 0, 0⟩ : EV) none 0 [] _ (by decide) (saves_nil _)).mono ?_
  rintro x Wo3 ⟨t3, rfl, hS, hq, hc⟩
  have HS := Lib.hid hS; have HQ := Lib.hid hq; have HO := Lib.hid (HM.out.trans (hc.mono HM.out.size)); clear hS hq hc HM
  go_wp2_with fail
  refine (turns_ex (⟨(-10800), 1, 3600, ⟨#[]⟩, ⟨#[37, 122]⟩, false, 0, 0, 0, 0, 0, 0, 0⟩ : EV) [] ⟨#[45, 48, 50]⟩ 0 _ HS.out HQ.out (by decide) (by decide +kernel) (by decide +kernel)).mono ?_
  rintro x Wt3 ⟨rfl, hc⟩
  have ht3 := HO.out.trans (hc.mono HO.out.size)
  clear hc HS HQ HO
  go_wp2_with fail
  refine (named_any 18000 ⟨#[37, 122]⟩ _).mono ?_
  rintro x Wn4 ⟨rfl, hc⟩
  have hn4 : Below w.heap.size w Wn4 := ht3.trans (hc.mono ht3.size)
  clear hc ht3
  have hk4 := Blk.new Wn4 2 #[.int .i64 0]
  have hm4 := hn4.alloc hn4.size (.cells #[.int .i64 0] 2)
  have HK := Lib.hid hk4; have HM := Lib.hid hm4; clear hk4 hm4
  go_wp2_with fail
  refine (one_any (nmE 18000 ⟨#[37, 122]⟩) (some ⟨Wn4.heap.size, 0, none⟩) 1 [0] _ (by decide) (saves_in _ _ HK.out rfl)).mono ?_
  rintro x Wo4 ⟨t4, rfl, hS, hq, hc⟩
  have HS := Lib.hid hS; have HQ := Lib.hid hq; have HO := Lib.hid (HM.out.trans (hc.mono HM.out.size)); clear hS hq hc HM HK hn4
  go_wp2_with fail
  refine (turns_ex (nmE 18000 ⟨#[37, 122]⟩) [0] ⟨#[43, 48, 53]⟩ 0 _ HS.out HQ.out (by decide) (by decide +kernel) (by decide +kernel)).mono ?_
  rintro x Wt4 ⟨rfl, hc⟩
  have ht4 := HO.out.trans (hc.mono HO.out.size)
  clear hc HS HQ HO
  go_wp2_with fail
  refine (named_any 18000 ⟨#[37, 122]⟩ _).mono ?_
  rintro x Wn5 ⟨rfl, hc⟩
  have hn5 : Below w.heap.size w Wn5 := ht4.trans (hc.mono ht4.size)
  clear hc ht4
  have hk5 := Blk.new Wn5 2 #[.int .i64 0, .int .i64 3600, .int .i64 7200]
  have hm5 := hn5.alloc hn5.size (.cells #[.int .i64 0, .int .i64 3600, .int .i64 7200] 2)
  have HK := Lib.hid hk5; have HM := Lib.hid hm5; clear hk5 hm5
  go_wp2_with fail
  refine (one_any (nmE 18000 ⟨#[37, 122]⟩) (some ⟨Wn5.heap.size, 0, none⟩) 3 [0, 3600, 7200] _ (by decide) (saves_in _ _ HK.out rfl)).mono ?_
  rintro x Wo5 ⟨t5, rfl, hS, hq, hc⟩
  have HS := Lib.hid hS; have HQ := Lib.hid hq; have HO := Lib.hid (HM.out.trans (hc.mono HM.out.size)); clear hS hq hc HM HK hn5
  go_wp2_with fail
  refine (turns_ex (nmE 18000 ⟨#[37, 122]⟩) [0, 3600, 7200] ⟨#[]⟩ 14 _ HS.out HQ.out (by decide) (by decide +kernel) (by decide +kernel)).mono ?_
  rintro x Wt5 ⟨rfl, hc⟩
  have ht5 := HO.out.trans (hc.mono HO.out.size)
  clear hc HS HQ HO
  go_wp2_with fail
  refine (named_any 18000 ⟨#[43, 48, 53, 47, 43, 48, 55]⟩ _).mono ?_
  rintro x Wn6 ⟨rfl, hc⟩
  have hn6 : Below w.heap.size w Wn6 := ht5.trans (hc.mono ht5.size)
  clear hc ht5
  have hk6 := Blk.new Wn6 2 #[.int .i64 0, .int .i64 3600]
  have hm6 := hn6.alloc hn6.size (.cells #[.int .i64 0, .int .i64 3600] 2)
  have HK := Lib.hid hk6; have HM := Lib.hid hm6; clear hk6 hm6
  go_wp2_with fail
  refine (one_any (nmE 18000 ⟨#[43, 48, 53, 47, 43, 48, 55]⟩) (some ⟨Wn6.heap.size, 0, none⟩) 2 [0, 3600] _ (by decide) (saves_in _ _ HK.out rfl)).mono ?_
  rintro x Wo6 ⟨t6, rfl, hS, hq, hc⟩
  have HS := Lib.hid hS; have HQ := Lib.hid hq; have HO := Lib.hid (HM.out.trans (hc.mono HM.out.size)); clear hS hq hc HM HK hn6
  go_wp2_with fail
  refine (turns_co (nmE 18000 ⟨#[43, 48, 53, 47, 43, 48, 55]⟩) [0, 3600] ⟨#[]⟩ 15 _ (hv.below HO.out) HS.out HQ.out (by decide) (by decide +kernel) (by decide +kernel)).mono ?_
  rintro x Wt6 ⟨rfl, hc⟩
  have ht6 := HO.out.trans (hc.mono HO.out.size)
  clear hc HS HQ HO
  go_wp2_with fail
  have HM := Lib.hid ht6; clear ht6
  refine (one_any (⟨18000, 0, 0, ⟨#[]⟩, ⟨#[71, 77, 84]⟩, false, 0, 0, 0, 0, 0, 0, 0⟩ : EV) none 0 [] _ (by decide) (saves_nil _)).mono ?_
  rintro x Wo7 ⟨t7, rfl, hS, hq, hc⟩
  have HS := Lib.hid hS; have HQ := Lib.hid hq; have HO := Lib.hid (HM.out.trans (hc.mono HM.out.size)); clear hS hq hc HM
  go_wp2_with fail
  refine (turns_co (⟨18000, 0, 0, ⟨#[]⟩, ⟨#[71, 77, 84]⟩, false, 0, 0, 0, 0, 0, 0, 0⟩ : EV) [] ⟨#[71, 77, 84]⟩ 0 _ (hv.below HO.out) HS.out HQ.out (by decide) (by decide +kernel) (by decide +kernel)).mono ?_
  rintro x Wt7 ⟨rfl, hc⟩
  have ht7 := HO.out.trans (hc.mono HO.out.size)
  clear hc HS HQ HO
  go_wp2_with fail
  have HM := Lib.hid ht7; clear ht7
  refine (one_any (⟨86400, 0, 0, ⟨#[]⟩, ⟨#[37, 122]⟩, false, 0, 0, 0, 0, 0, 0, 0⟩ : EV) none 0 [] _ (by decide) (saves_nil _)).mono ?_
  rintro x Wo8 ⟨t8, rfl, hS, hq, hc⟩
  have HS := Lib.hid hS; have HQ := Lib.hid hq; have HO := Lib.hid (HM.out.trans (hc.mono HM.out.size)); clear hS hq hc HM
  go_wp2_with fail
  refine (turns_ex (⟨86400, 0, 0, ⟨#[]⟩, ⟨#[37, 122]⟩, false, 0, 0, 0, 0, 0, 0, 0⟩ : EV) [] ⟨#[]⟩ 3 _ HS.out HQ.out (by decide) (by decide +kernel) (by decide +kernel)).mono ?_
  rintro x Wt8 ⟨rfl, hc⟩
  have ht8 := HO.out.trans (hc.mono HO.out.size)
  clear hc HS HQ HO
  go_wp2_with fail
  go_ret
  exact ⟨rfl, ht8⟩
end Go.Proofs.YtlideagcmhlkeaaDoor

/- The walks of has and plain (chapter 30). -/
namespace Go.Proofs.YtlideagcmhlkeaaDoor
open Go.RowKit Go.Lib
set_option linter.unusedVariables false
set_option linter.unusedSimpArgs false

set_option maxRecDepth 100000 in
set_option maxHeartbeats 8000000 in
theorem has_no (s : SV) (K : Int) (w : World) (hS : SrcIn w s) (hl : s.zones.length ≤ 1000 ∧ ∀ z ∈ s.zones, z.eras.length ≤ 1000) (hk : ∀ z ∈ s.zones, ∀ e ∈ z.eras, e.fmt.size ≤ 1000000 ∧ P21.kind (P4.bl e.fmt) ≠ K) (hv : Vars21 w) :
    Calls Tryd.prog 21 #[.agg #[.slice s.rA s.rules.length s.rc, .slice s.zA s.zones.length s.zc, .slice s.kA s.links.length s.kc, .slice s.hA s.shifts.length s.hc], .int .i64 K] w fun e w' => e = .returned (.bool false) ∧ Below w.heap.size w w' := by
  have HS := Lib.hid hS; have HK := Lib.hid hk; have HL := Lib.hid hl.2
  have hX := Blk.new w 32 #[.slice s.rA s.rules.length s.rc, .slice s.zA s.zones.length s.zc, .slice s.kA s.links.length s.kc, .slice s.hA s.shifts.length s.hc]
  have hb0 := (Below.refl w.heap.size w).alloc (Nat.le_refl _) (.cells #[.slice s.rA s.rules.length s.rc, .slice s.zA s.zones.length s.zc, .slice s.kA s.links.length s.kc, .slice s.hA s.shifts.length s.hc] 32)
  have HX := Lib.hid hX; have HB := Lib.hid hb0
  have hl2 : (s.zones.length : Int) ≤ 1000 := by omega
  clear hS hk hl hX hb0
  go_enter Tryd.func21, Tryd.ntmps21
  go_wp2_with fail
  go_loopw [5] (fun i W => ∃ a : Nat, a ≤ s.zones.length ∧ i = .int .i64 a ∧ Blk W w.heap.size 32 #[.slice s.rA s.rules.length s.rc, .slice s.zA s.zones.length s.zc, .slice s.kA s.links.length s.kc, .slice s.hA s.shifts.length s.hc] ∧ Below w.heap.size w W) (fun i _ => s.zones.length - (intOf i).toNat)
  case atStart => exact ⟨0, Nat.zero_le _, rfl, HX.out, HB.out⟩
  case round =>
    clear HX HB
    obtain ⟨wo, hwo⟩ : ∃ x, x = wr := ⟨_, rfl⟩
    subst hwo
    obtain ⟨a, ha, rfl, hx, hb⟩ := hrel
    have c1 := (hx.cell 1).trans rfl
    have HX := Lib.hid hx; have HB := Lib.hid hb
    by_cases hlt : a < s.zones.length
    · have hki : (a : Int) < (s.zones.length : Int) := by omega
      have hk0 : (0 : Int) ≤ (a : Int) := by omega
      obtain ⟨z, hz⟩ : ∃ z, s.zones[a]? = some z := ⟨_, List.getElem?_eq_getElem hlt⟩
      have HZM := Lib.hid (List.mem_of_getElem? hz); have HKZ := Lib.hid hz; have HLT := Lib.hid hlt
      have hle := HL.out z HZM.out
      have hle2 : (z.eras.length : Int) ≤ 1000 := by omega
      clear hx hb hz hlt
      go_wp2_with fail
      clear c1
      go_loopw [6] (fun i W => ∃ k : Nat, k ≤ z.eras.length ∧ i = .int .i64 k ∧ Blk W w.heap.size 32 #[.slice s.rA s.rules.length s.rc, .slice s.zA s.zones.length s.zc, .slice s.kA s.links.length s.kc, .slice s.hA s.shifts.length s.hc] ∧ Below w.heap.size w W) (fun i _ => z.eras.length - (intOf i).toNat)
      case atStart => exact ⟨0, Nat.zero_le _, rfl, HX.out, HB.out⟩
      case round =>
        clear HX HB
        obtain ⟨k, hk, rfl, hx, hb⟩ := hrel
        obtain ⟨gz, oz, hzA, hgz, haz⟩ := (HS.out.zones.below hb) a z HKZ.out
        have n1 : wr.cell? ⟨gz, oz + a * 2 + 1, none⟩ = some (.slice z.A z.eras.length z.c) := haz 1 _ rfl
        have c1 := (hx.cell 1).trans rfl
        rw [hzA] at c1
        have HX := Lib.hid hx; have HB := Lib.hid hb
        by_cases hlk : k < z.eras.length
        · have hkk : (k : Int) < (z.eras.length : Int) := by omega
          have hk1 : (0 : Int) ≤ (k : Int) := by omega
          obtain ⟨e, he⟩ : ∃ e, z.eras[k]? = some e := ⟨_, List.getElem?_eq_getElem hlk⟩
          obtain ⟨ge, oe, heA, hge, hae⟩ := ((HS.out.eras z HZM.out).below hb) k e he
          rw [heA] at n1
          have y4 : wr.cell? ⟨ge, oe + k * 13 + 4, none⟩ = some (.string e.fmt) := hae 4 _ rfl
          have hkd := HK.out z HZM.out e (List.mem_of_getElem? he)
          have HLK := Lib.hid hlk
          have cK := Lib.hid (fun W (h : Below w.heap.size w W) => kind_any e.fmt W hkd.1 (hv.below h))
          obtain ⟨Q, hQ⟩ : ∃ Q : Int, P21.kind (P4.bl e.fmt) = Q := ⟨_, rfl⟩
          have hd : (Q == K) = false := by rw [← hQ]; simpa using hkd.2
          rw [hQ] at cK
          clear hx hb haz hae hzA heA hgz hge he hlk hkd hQ
          go_wp2_with fail
          refine (cK.out _ HB.out).mono ?_
          rintro x W3 ⟨rfl, hc⟩
          have HX3 := Lib.hid (HX.out.below hc HX.out.lt); have HB3 := Lib.hid (HB.out.trans (hc.mono HB.out.size))
          clear hc cK y4 n1 c1 HX HB
          go_wp2_with fail
          go_roundw
          case rel => exact ⟨k + 1, by have := HLK.out; omega, by go_num, HX3.out, HB3.out⟩
          case measure => have := HLK.out; simp [intOf]; omega
        · obtain rfl : k = z.eras.length := by omega
          clear hx hb haz hzA hgz hlk hk
          go_wp2_with fail
          go_roundw
          case rel => exact ⟨a + 1, by have := HLT.out; omega, by go_num, HX.out, HB.out⟩
          case measure => have := HLT.out; simp [intOf]; omega
    · obtain rfl : a = s.zones.length := by omega
      clear hx hb
      go_wp2_with fail
      go_ret
      exact ⟨rfl, HB.out⟩
/-- where the walk of plain stands: the box holds the copy, whose zones are Y -/
structure Rp (w W : World) (s c : SV) (F : EV → ByteArray × Int) (base : Nat) (Y : List ZV) (i k : Nat) : Prop where
  res : Blk W (w.heap.size + 1) 32 #[.slice none 0 0, .slice none 0 0, .slice none 0 0, .slice none 0 0]
  box : Blk W w.heap.size 32 #[.slice c.rA c.rules.length c.rc, .slice c.zA c.zones.length c.zc, .slice c.kA c.links.length c.kc, .slice c.hA c.shifts.length c.hc]
  cp : CopyOf W base { c with zones := Y } { c with zones := Y }
  par : part30 (fmtE F) s.zones Y i k
  bel : Below w.heap.size w W
  le : w.heap.size + 2 ≤ base
theorem Rp.at_ {w W : World} {s c : SV} {F : EV → ByteArray × Int} {base : Nat} {Y : List ZV} {i k : Nat} {z : ZV} (h : Rp w W s c F base Y i k) (hz : s.zones[i]? = some z) :
    ∃ (y : ZV) (zg : Nat), Y[i]? = some y ∧ c.zA = some ⟨zg, 0, none⟩ ∧ W.cell? ⟨zg, i * 2 + 1, none⟩ = some (.slice y.A z.eras.length y.c) ∧ y.eras.length = z.eras.length := by
  have hyl := (List.getElem?_eq_some_iff.1 hz).1
  obtain ⟨y, hy⟩ : ∃ y, Y[i]? = some y := ⟨_, List.getElem?_eq_getElem (by rw [h.par.1]; exact hyl)⟩
  obtain ⟨zg, hzA, _, _⟩ := h.cp.zones.1.addr (by show 0 < Y.length; rw [h.par.1]; omega)
  have hzr : RowOf W base 39 2 ZV.cells c.zA c.zc Y := h.cp.zones.1
  rw [show c.zA = some ⟨zg, 0, none⟩ from hzA] at hzr
  have q1 := hzr.cellAt len_zone hy 1 _ rfl
  have hq := (h.par.2 i z y hz hy).2.1
  rw [hq] at q1
  exact ⟨y, zg, hy, hzA, q1, hq⟩
theorem Rp.set_ {w W : World} {s c : SV} {F : EV → ByteArray × Int} {base : Nat} {Y : List ZV} {i k : Nat} {z y : ZV} {e : EV} {yg : Nat} (h : Rp w W s c F base Y i k) (hz : s.zones[i]? = some z) (he : z.eras[k]? = some e) (hy : Y[i]? = some y) (hA : y.A = some ⟨yg, 0, none⟩) :
    Rp w (W.setCell ⟨yg, k * 13 + 4, none⟩ (.string (F e).1)) s c F base (Y.set i { y with eras := y.eras.set k (fmtE F e) }) i (k + 1) := by
  have her := h.cp.zones.2.eras i y hy
  rw [hA] at her
  have hO : (Value.slice (some ⟨yg, 0, none⟩) y.eras.length y.c).ownBlock = some yg := rfl
  obtain ⟨y', hy', hye⟩ := h.par.at_ hz he
  rw [hy] at hy'
  injection hy' with hy'
  subst hy'
  have hge := (World.ownsRow.lt her yg rfl).1
  have hl := h.le
  refine ⟨blk_set_other h.res her hO (by decide) _, blk_set_other h.box her hO (by decide) _, ?_, h.par.step hz hy he, h.bel.setCell (by show w.heap.size ≤ yg; omega) _, h.le⟩
  exact h.cp.setCell (t := { c with zones := Y }) hy hA hye (.string (F e).1) (by decide) rfl
def noF : EV → ByteArray × Int := fun _ => (⟨#[]⟩, 0)
set_option maxRecDepth 100000 in
set_option maxHeartbeats 8000000 in
theorem plain30_any (s : SV) (w : World) (hS : SrcIn w s) (hf : Few30 s) :
    Calls Tryd.prog 23 #[.agg #[.slice s.rA s.rules.length s.rc, .slice s.zA s.zones.length s.zc, .slice s.kA s.links.length s.kc, .slice s.hA s.shifts.length s.hc]] w fun x w' => ∃ t : SV, x = .returned (.agg #[.slice t.rA t.rules.length t.rc, .slice t.zA t.zones.length t.zc, .slice t.kA t.links.length t.kc, .slice t.hA t.shifts.length t.hc]) ∧ SrcG w' t ∧ sSame14 t (mapS (fmtE noF) s) ∧ Below w.heap.size w w' := by
  have HFW := Lib.hid hf
  have hl2 : (s.zones.length : Int) ≤ 1000 := by have := hf.lens.2.1; omega
  have hb0 := ((Below.refl w.heap.size w).alloc (Nat.le_refl _) (.cells #[.slice s.rA s.rules.length s.rc, .slice s.zA s.zones.length s.zc, .slice s.kA s.links.length s.kc, .slice s.hA s.shifts.length s.hc] 32)).alloc (by simp) (.cells #[.slice none 0 0, .slice none 0 0, .slice none 0 0, .slice none 0 0] 32)
  have hx0 := (Blk.new w 32 #[.slice s.rA s.rules.length s.rc, .slice s.zA s.zones.length s.zc, .slice s.kA s.links.length s.kc, .slice s.hA s.shifts.length s.hc]).alloc (.cells #[.slice none 0 0, .slice none 0 0, .slice none 0 0, .slice none 0 0] 32)
  have hr0 := Blk.newAt (w.alloc (.cells #[.slice s.rA s.rules.length s.rc, .slice s.zA s.zones.length s.zc, .slice s.kA s.links.length s.kc, .slice s.hA s.shifts.length s.hc] 32)) (w.heap.size + 1) (by simp) 32 #[.slice none 0 0, .slice none 0 0, .slice none 0 0, .slice none 0 0]
  have HX0 := Lib.hid hx0; have HR0 := Lib.hid hr0; have HB0 := Lib.hid hb0
  have cC := Lib.hid (copy14 s _ (hS.below hb0) hf)
  have c0 := (hx0.cell 0).trans rfl
  have c1 := (hx0.cell 1).trans rfl
  have c2 := (hx0.cell 2).trans rfl
  have c3 := (hx0.cell 3).trans rfl
  clear hS hf hb0 hx0 hr0
  go_enter Tryd.func23, Tryd.ntmps23
  go_wp2_with fail
  refine cC.out.mono ?_
  rintro x W2 ⟨c, rfl, hC, hc⟩
  have hx2 := HX0.out.below hc HX0.out.lt
  have hr2 := HR0.out.below hc HR0.out.lt
  clear c0 c1 c2 c3
  have c0 := (hx2.cell 0).trans rfl
  have c1 := (hx2.cell 1).trans rfl
  have c2 := (hx2.cell 2).trans rfl
  have c3 := (hx2.cell 3).trans rfl
  have f0 := hx2.frozen 0
  have f1 := hx2.frozen 1
  have f2 := hx2.frozen 2
  have f3 := hx2.frozen 3
  have q4 := GS.set4 hx2 (.slice c.rA c.rules.length c.rc) (.slice c.zA c.zones.length c.zc) (.slice c.kA c.links.length c.kc) (.slice c.hA c.shifts.length c.hc)
  have HRX := Lib.hid (show Rp w _ s c noF (w.heap.size + 4) c.zones 0 0 from ⟨(((hr2.far (p := ⟨w.heap.size, 0, none⟩) (by show w.heap.size + 1 ≠ w.heap.size; omega) (.slice c.rA c.rules.length c.rc)).far (p := ⟨w.heap.size, 1, none⟩) (by show w.heap.size + 1 ≠ w.heap.size; omega) (.slice c.zA c.zones.length c.zc)).far (p := ⟨w.heap.size, 2, none⟩) (by show w.heap.size + 1 ≠ w.heap.size; omega) (.slice c.kA c.links.length c.kc)).far (p := ⟨w.heap.size, 3, none⟩) (by show w.heap.size + 1 ≠ w.heap.size; omega) (.slice c.hA c.shifts.length c.hc), q4.2, (by have q := (hC.self).gs q4.1; rw [show ((w.alloc (.cells #[.slice s.rA s.rules.length s.rc, .slice s.zA s.zones.length s.zc, .slice s.kA s.links.length s.kc, .slice s.hA s.shifts.length s.hc] 32)).alloc (.cells #[.slice none 0 0, .slice none 0 0, .slice none 0 0, .slice none 0 0] 32)).heap.size + 2 = w.heap.size + 4 by simp] at q; exact q), part30.start hC.same.zones, below_set4 (HB0.out.trans (hc.mono HB0.out.size)) (Nat.le_refl _) _ _ _ _, by omega⟩)
  have HCS := Lib.hid hC.same
  clear hC hc cC HX0 HR0 HB0 hx2 hr2 q4
  go_wp2_with fail
  clear c0 c1 c2 c3 f0 f1 f2 f3
  go_loopw [3] (fun i W => ∃ a : Nat, a ≤ s.zones.length ∧ i = .int .i64 a ∧ ∃ Y, Rp w W s c noF (w.heap.size + 4) Y a 0) (fun i _ => s.zones.length - (intOf i).toNat)
  case atStart => exact ⟨0, Nat.zero_le _, rfl, c.zones, HRX.out⟩
  case round =>
    clear HRX
    obtain ⟨wo, hwo⟩ : ∃ x, x = wr := ⟨_, rfl⟩
    subst hwo
    obtain ⟨a, ha, rfl, Y, hrx⟩ := hrel
    have HRX := Lib.hid hrx
    have hcl : c.zones.length = s.zones.length := HCS.out.zones.1
    have c1 := (hrx.box.cell 1).trans rfl
    rw [hcl] at c1
    by_cases hlt : a < s.zones.length
    · have hki : (a : Int) < (s.zones.length : Int) := by omega
      have hk0 : (0 : Int) ≤ (a : Int) := by omega
      obtain ⟨z, hz⟩ : ∃ z, s.zones[a]? = some z := ⟨_, List.getElem?_eq_getElem hlt⟩
      have HKZ := Lib.hid hz; have HLT := Lib.hid hlt
      have hle : z.eras.length ≤ 1000 := HFW.out.eras z (List.mem_of_getElem? hz)
      have hle2 : (z.eras.length : Int) ≤ 1000 := by omega
      clear hrx hz hlt hcl
      go_wp2_with fail
      clear c1
      go_loopw [4] (fun i W => ∃ k : Nat, k ≤ z.eras.length ∧ i = .int .i64 k ∧ ∃ Y, Rp w W s c noF (w.heap.size + 4) Y a k) (fun i _ => z.eras.length - (intOf i).toNat)
      case atStart => exact ⟨0, Nat.zero_le _, rfl, Y, HRX.out⟩
      case round =>
        clear HRX
        obtain ⟨k, hk, rfl, Y, hrx⟩ := hrel
        obtain ⟨y, zg, hy, hcA, q1, hyl⟩ := hrx.at_ HKZ.out
        have c1 := (hrx.box.cell 1).trans rfl
        rw [hcA, HCS.out.zones.1] at c1
        by_cases hlk : k < z.eras.length
        · have hkk : (k : Int) < (z.eras.length : Int) := by omega
          have hk1 : (0 : Int) ≤ (k : Int) := by omega
          obtain ⟨e, he⟩ : ∃ e, z.eras[k]? = some e := ⟨_, List.getElem?_eq_getElem hlk⟩
          obtain ⟨y', hy', hye⟩ := hrx.par.at_ HKZ.out he
          rw [hy] at hy'
          injection hy' with hy'
          subst hy'
          obtain ⟨yg, hyA, _, _⟩ := hrx.cp.eraAddr (show ({ c with zones := Y } : SV).zones[a]? = some y from hy) (by omega)
          have her := hrx.cp.zones.2.eras a y hy
          rw [hyA] at her
          have p4 := her.cellAt len_era hye 4 _ rfl
          have f4 := her.frozenAt (k * 13 + 4)
          rw [hyA] at q1
          have HRX2 := Lib.hid (hrx.set_ HKZ.out he hy hyA)
          have HLK := Lib.hid hlk
          clear hrx hy hcA hyl he hye hyA her hlk
          go_wp2_with fail
          go_roundw
          case rel => exact ⟨k + 1, by have := HLK.out; omega, by go_num, _, HRX2.out⟩
          case measure => have := HLK.out; simp [intOf]; omega
        · obtain rfl : k = z.eras.length := by omega
          have HRX2 := Lib.hid (show Rp w wr s c noF (w.heap.size + 4) Y (a + 1) 0 from ⟨hrx.res, hrx.box, hrx.cp, hrx.par.zone HKZ.out (Nat.le_refl _), hrx.bel, hrx.le⟩)
          clear hrx hy hcA hyl hlk hk
          go_wp2_with fail
          go_roundw
          case rel => exact ⟨a + 1, by have := HLT.out; omega, by go_num, _, HRX2.out⟩
          case measure => have := HLT.out; simp [intOf]; omega
    · obtain rfl : a = s.zones.length := by omega
      have hdn := hrx.par.all (Nat.le_refl _)
      clear c1
      have p0 := (hrx.box.cell 0).trans rfl
      have p1 := (hrx.box.cell 1).trans rfl
      have p2 := (hrx.box.cell 2).trans rfl
      have p3 := (hrx.box.cell 3).trans rfl
      have r0 := (hrx.res.cell 0).trans rfl
      have r1 := (hrx.res.cell 1).trans rfl
      have r2 := (hrx.res.cell 2).trans rfl
      have r3 := (hrx.res.cell 3).trans rfl
      have g0 := hrx.res.frozen 0
      have g1 := hrx.res.frozen 1
      have g2 := hrx.res.frozen 2
      have g3 := hrx.res.frozen 3
      have q4 := GS.set4 hrx.res (.slice c.rA c.rules.length c.rc) (.slice c.zA c.zones.length c.zc) (.slice c.kA c.links.length c.kc) (.slice c.hA c.shifts.length c.hc)
      have k0 := (q4.2.cell 0).trans rfl; have k1 := (q4.2.cell 1).trans rfl; have k2 := (q4.2.cell 2).trans rfl; have k3 := (q4.2.cell 3).trans rfl
      have HQ := Lib.hid q4.1; have HD := Lib.hid hdn
      have hnl : ¬ (s.zones.length : Int) < (c.zones.length : Int) := by omega
      clear q4 hdn hrx hcl
      go_wp2_with fail
      refine bodyPost_ret (v := .agg #[.slice c.rA c.rules.length c.rc, .slice c.zA c.zones.length c.zc, .slice c.kA c.links.length c.kc, .slice c.hA c.shifts.length c.hc]) (by simp [results, Tryd.results23, go_sem, k0, k1, k2, k3]) rfl ?_
      have hYl : Y.length = c.zones.length := HRX.out.par.1.trans HCS.out.zones.1.symm
      exact ⟨{ c with zones := Y }, by show _ = Ending.returned (.agg #[.slice c.rA c.rules.length c.rc, .slice c.zA Y.length c.zc, .slice c.kA c.links.length c.kc, .slice c.hA c.shifts.length c.hc]); rw [hYl], (HRX.out.cp.gs HQ.out).srcG, ⟨HCS.out.rules, HCS.out.links, HCS.out.shifts, HD.out⟩, below_set4 HRX.out.bel (Nat.le_succ _) _ _ _ _⟩
end Go.Proofs.YtlideagcmhlkeaaDoor

/- Plain mathematics for FormatKinds (chapter 21): what strings of some words are; no program in sight. -/
namespace Go.Proofs.YtlideagcmhlkeaaDoor.P21
set_option linter.unusedVariables false

/-- a word: three to six letters -/
def Wd (l : List UInt8) : Prop := 3 ≤ l.length ∧ l.length ≤ 6 ∧ ∀ c ∈ l, isL c = true
theorem Wd.abbr {l : List UInt8} (h : Wd l) : abbr l = true := abbr_of h.1 h.2.1 h.2.2
theorem Wd.num {l : List UInt8} (h : Wd l) : num l = false := abbr_num h.abbr
end Go.Proofs.YtlideagcmhlkeaaDoor.P21

/- The rules that a draft of chapter 17 makes, as a function of its bytes; no program in sight. -/
namespace Go.Proofs.YtlideagcmhlkeaaDoor
set_option linter.unusedVariables false

namespace P17
/-- a number of the draft, below m -/
def at_ (D : List Int) (i m : Nat) : Nat := if D.length = 0 then 0 else ((D[i % D.length]?).getD 0).toNat % m
theorem at_lt (D : List Int) (i : Nat) {m : Nat} (h : 0 < m) : at_ D i m < m := by
  unfold at_
  split
  · exact h
  · exact Nat.mod_lt _ h
def day (D : List Int) (i : Nat) : Int × Int × Int :=
  if at_ D (i + 2) 3 = 0 then (2, (at_ D i 7 : Int), 0) else if at_ D (i + 2) 3 = 1 then (3, (at_ D i 7 : Int), 1 + 7 * (at_ D (i + 1) 4 : Int)) else (1, 0, 1 + (at_ D (i + 1) 28 : Int))
def sLet (n : Nat) : ByteArray := if n = 0 then ⟨#[83]⟩ else if n = 1 then ⟨#[68]⟩ else ⟨#[68, 84]⟩
def bLet (n : Nat) : ByteArray := if n = 0 then ⟨#[]⟩ else ⟨#[83]⟩
def pairA (D : List Int) (i : Nat) (from_ to_ sv : Int) : RV :=
  ⟨⟨#[]⟩, from_, to_, 2 + (at_ D i 3 : Int), (day D (i + 3)).1, (day D (i + 3)).2.1, (day D (i + 3)).2.2, (at_ D (i + 6) 49 : Int) * 1800, (at_ D (i + 7) 3 : Int), if at_ D (i + 2) 4 = 0 then 0 else sv, sLet (at_ D (i + 8) 3)⟩
def pairB (D : List Int) (i : Nat) (from_ to_ sv : Int) : RV :=
  ⟨⟨#[]⟩, from_, to_, 8 + (at_ D (i + 1) 3 : Int), (day D (i + 9)).1, (day D (i + 9)).2.1, (day D (i + 9)).2.2, (at_ D (i + 12) 49 : Int) * 1800, (at_ D (i + 13) 3 : Int), if at_ D (i + 2) 4 = 0 then sv else 0, bLet (at_ D (i + 14) 2)⟩
def pair (D : List Int) (i : Nat) (from_ to_ sv : Int) : List RV := [pairA D i from_ to_ sv, pairB D i from_ to_ sv]
def svOf (n : Nat) : Int := if n = 0 then 3600 else if n = 1 then 3600 else if n = 2 then 1800 else if n = 3 then 7200 else -3600
def sv (D : List Int) : Int := svOf (at_ D 0 5)
def from0 (D : List Int) : Int := 1900 + (at_ D 1 80 : Int)
def oneR (D : List Int) : RV := ⟨⟨#[]⟩, from0 D, from0 D, 6, 1, 0, 1 + (at_ D 3 28 : Int), (at_ D 4 49 : Int) * 1800, (at_ D 5 3 : Int), 0, ⟨#[83]⟩⟩
def part1 (D : List Int) : List RV := if at_ D 2 3 = 0 then [oneR D] else []
def from1 (D : List Int) : Int := if at_ D 2 3 = 0 then from0 D + 1 else from0 D
def to1 (D : List Int) : Int := from1 D + (at_ D 6 12 : Int)
def part2 (D : List Int) : List RV := if at_ D 5 2 = 0 then pair D 7 (from1 D) (to1 D) (sv D) else []
def from2 (D : List Int) : Int := if at_ D 5 2 = 0 then to1 D + 1 + (at_ D 8 5 : Int) else from1 D
def to2 (D : List Int) : Int := if at_ D 10 3 = 0 then from2 D + (at_ D 9 6 : Int) else 1048576
def raw (D : List Int) : List RV := part1 D ++ part2 D ++ pair D 11 (from2 D) (to2 D) (sv D)
def named (nm : ByteArray) (r : RV) : RV := { r with name := nm }
/-- the rules of a set with a name -/
def made (D : List Int) (nm : ByteArray) : List RV := (raw D).map (named nm)
theorem sv_cases (D : List Int) : sv D = 3600 ∨ sv D = 1800 ∨ sv D = 7200 ∨ sv D = -3600 := by
  unfold sv svOf
  split
  · exact .inl rfl
  · split
    · exact .inl rfl
    · split
      · exact .inr (.inl rfl)
      · split
        · exact .inr (.inr (.inl rfl))
        · exact .inr (.inr (.inr rfl))
theorem sv_ne (D : List Int) : sv D ≠ 0 := by have := sv_cases D; omega
def isLet (b : ByteArray) : Prop := b = ⟨#[]⟩ ∨ b = ⟨#[83]⟩ ∨ b = ⟨#[68]⟩ ∨ b = ⟨#[68, 84]⟩
theorem sLet_is (n : Nat) : isLet (sLet n) := by
  unfold sLet isLet
  split
  · exact .inr (.inl rfl)
  · split
    · exact .inr (.inr (.inl rfl))
    · exact .inr (.inr (.inr rfl))
theorem bLet_is (n : Nat) : isLet (bLet n) := by
  unfold bLet isLet
  split
  · exact .inl rfl
  · exact .inr (.inl rfl)
/-- what the laws want of a set -/
structure Good (D : List Int) (nm : ByteArray) (L : List RV) : Prop where
  two : 2 ≤ L.length
  five : L.length ≤ 5
  names : ∀ r ∈ L, r.name = nm
  saves : ∀ r ∈ L, r.save = 0 ∨ r.save = sv D
  has : ∃ r ∈ L, r.save = sv D
  letters : ∀ r ∈ L, isLet r.letter
theorem pair_good (D : List Int) (i : Nat) (f t s : Int) : (∀ r ∈ pair D i f t s, (r.save = 0 ∨ r.save = s) ∧ isLet r.letter) ∧ ∃ r ∈ pair D i f t s, r.save = s := by
  refine ⟨fun r hr => ?_, ?_⟩
  · unfold pair at hr
    simp only [List.mem_cons, List.not_mem_nil, or_false] at hr
    rcases hr with rfl | rfl
    · refine ⟨?_, sLet_is _⟩
      show (if _ then (0 : Int) else s) = 0 ∨ (if _ then (0 : Int) else s) = s
      split
      · exact .inl rfl
      · exact .inr rfl
    · refine ⟨?_, bLet_is _⟩
      show (if _ then s else (0 : Int)) = 0 ∨ (if _ then s else (0 : Int)) = s
      split
      · exact .inr rfl
      · exact .inl rfl
  · by_cases h : at_ D (i + 2) 4 = 0
    · exact ⟨pairB D i f t s, by simp [pair], by unfold pairB; simp only; rw [if_pos h]⟩
    · exact ⟨pairA D i f t s, by simp [pair], by unfold pairA; simp only; rw [if_neg h]⟩
theorem raw_good (D : List Int) : 2 ≤ (raw D).length ∧ (raw D).length ≤ 5 ∧ (∀ r ∈ raw D, (r.save = 0 ∨ r.save = sv D) ∧ isLet r.letter) ∧ ∃ r ∈ raw D, r.save = sv D := by
  have p1 := pair_good D 11 (from2 D) (to2 D) (sv D)
  have p2 := pair_good D 7 (from1 D) (to1 D) (sv D)
  have l1 : (part1 D).length ≤ 1 := by unfold part1; split <;> simp
  have l2 : (part2 D).length ≤ 2 := by unfold part2 pair; split <;> simp
  have e : (raw D).length = (part1 D).length + (part2 D).length + 2 := by unfold raw; rw [List.length_append, List.length_append]; rfl
  refine ⟨by omega, by omega, fun r hr => ?_, ?_⟩
  · unfold raw at hr
    rw [List.mem_append, List.mem_append] at hr
    rcases hr with (hr | hr) | hr
    · unfold part1 at hr
      split at hr
      · rw [List.mem_singleton] at hr; subst hr; exact ⟨.inl rfl, .inr (.inl rfl)⟩
      · cases hr
    · unfold part2 at hr
      split at hr
      · exact p2.1 r hr
      · cases hr
    · exact p1.1 r hr
  · obtain ⟨r, hr, h⟩ := p1.2
    exact ⟨r, by unfold raw; exact List.mem_append_right _ hr, h⟩
theorem made_good (D : List Int) (nm : ByteArray) : Good D nm (made D nm) := by
  obtain ⟨h1, h2, h3, r, hr, h4⟩ := raw_good D
  have key : ∀ r ∈ made D nm, ∃ q ∈ raw D, r = named nm q := fun r hr => by
    unfold made at hr
    obtain ⟨q, hq, h⟩ := List.mem_map.1 hr
    exact ⟨q, hq, h.symm⟩
  refine ⟨by unfold made; rw [List.length_map]; exact h1, by unfold made; rw [List.length_map]; exact h2, fun r hr => ?_, fun r hr => ?_, ⟨named nm r, List.mem_map.2 ⟨r, hr, rfl⟩, h4⟩, fun r hr => ?_⟩
  · obtain ⟨q, hq, rfl⟩ := key r hr; rfl
  · obtain ⟨q, hq, rfl⟩ := key r hr; exact (h3 q hq).1
  · obtain ⟨q, hq, rfl⟩ := key r hr; exact (h3 q hq).2
end P17
end Go.Proofs.YtlideagcmhlkeaaDoor

/- The walks of the reference's Kind, of both Parts, of right and Add (chapter 21). -/
namespace Go.Proofs.YtlideagcmhlkeaaDoor
open Go.RowKit Go.Lib
set_option linter.unusedVariables false

end Go.Proofs.YtlideagcmhlkeaaDoor

/- The walks of the abbreviations of FORMATs (chapter 21): format.Abbr and the reference's. -/
namespace Go.Proofs.YtlideagcmhlkeaaDoor
open Go.RowKit Go.Lib
set_option linter.unusedVariables false

end Go.Proofs.YtlideagcmhlkeaaDoor

/- The walk of format.Check (chapter 21). -/
namespace Go.Proofs.YtlideagcmhlkeaaDoor
open Go.RowKit Go.Lib
set_option linter.unusedVariables false

end Go.Proofs.YtlideagcmhlkeaaDoor

/- The plain law of FORMATs of sets that are made by numbers (chapter 21): %z, what stands for it, letters; no program in sight. -/
namespace Go.Proofs.YtlideagcmhlkeaaDoor
set_option linter.unusedVariables false

namespace P21
theorem ofrom_y {y : Int} (hy : y ≠ 0) : ∀ l : List Int, (∀ x ∈ l, x = 0 ∨ x = y) → P20.otherFrom y l = (y, true)
  | [], _ => by rw [P20.otherFrom, decide_eq_true hy]
  | a :: l, h => by
    have ih := ofrom_y hy l fun x hx => h x (List.mem_cons_of_mem _ hx)
    rw [P20.otherFrom]
    rcases h a (List.mem_cons_self ..) with rfl | rfl
    · rw [if_pos rfl, ih]
    · rw [if_neg hy, if_neg (by simp), ih]
theorem other_good {y : Int} (hy : y ≠ 0) : ∀ l : List Int, (∀ x ∈ l, x = 0 ∨ x = y) → y ∈ l → P20.other l = (y, true)
  | [], _, hm => by cases hm
  | a :: l, h, hm => by
    have hl : ∀ x ∈ l, x = 0 ∨ x = y := fun x hx => h x (List.mem_cons_of_mem _ hx)
    unfold P20.other
    rw [P20.otherFrom]
    by_cases h0 : a = 0
    · rw [if_pos h0]
      refine other_good hy l hl ?_
      rcases List.mem_cons.1 hm with h1 | h1
      · exact absurd (h1.trans h0) hy
      · exact h1
    · rw [if_neg h0, if_neg (by simp)]
      rcases h a (List.mem_cons_self ..) with h1 | rfl
      · exact absurd h1 h0
      · exact ofrom_y hy l hl
/-- what stands for %z -/
def xt (off y : Int) : List UInt8 := P20.text off ++ 47 :: P20.text (off + y)
/-- offset and save within a day, and with each other -/
structure Fits (off y : Int) : Prop where
  o0 : -86399 ≤ off
  o1 : off ≤ 86399
  s0 : -86399 ≤ off + y
  s1 : off + y ≤ 86399
section
variable {off y : Int} (h : Fits off y)
include h
theorem Fits.n1 : num (P20.text off) = true := num_of_text h.o0 h.o1
theorem Fits.n2 : num (P20.text (off + y)) = true := num_of_text h.s0 h.s1
theorem xt_slash : slash (xt off y) = (P20.text off, P20.text (off + y), true) := slash_at fun c hc q => by
  rw [q] at hc; have := num_mem h.n1 _ hc; revert this; decide
theorem xt_kind : kind (xt off y) = 5 := kind5s (xt_slash h) h.n1 h.n2
theorem xt_two : two (xt off y) = true := by unfold two; rw [xt_slash h, xt_kind h]; rfl
theorem xt_exp {l : List Int} (s : Int) (hl : P20.other l = (y, true)) : P20.expansion 2 off s l = (xt off y, 0) := by
  unfold P20.expansion
  rw [if_neg (by decide), if_neg (by decide), if_pos rfl, hl, if_pos rfl]
  unfold P20.both
  rw [if_neg (by rintro (q | q); exact P20.text_ne h.o0 h.o1 q; exact P20.text_ne h.s0 h.s1 q)]
  rfl
theorem xt_abbr (s : Int) (lt : List UInt8) : abbrv (xt off y) off s lt = (if s = 0 then P20.text off else P20.text (off + y), 0) := by
  unfold abbrv
  rw [if_pos (xt_two h), xt_slash h]
  by_cases h0 : s = 0 <;> simp [h0]
theorem z_abbr {s : Int} (hs : s = 0 ∨ s = y) (lt : List UInt8) : abbrv [37, 122] off s lt = (if s = 0 then P20.text off else P20.text (off + y), 0) := by
  have ht : two [37, 122] = false := by decide +kernel
  unfold abbrv
  rw [if_neg (by rw [ht]; decide), if_neg (by rw [kind_z]; decide), if_pos kind_z]
  by_cases h0 : s = 0
  · subst h0
    rw [if_pos rfl, Int.add_zero, out, decide_eq_true (P20.text_ne h.o0 h.o1)]; rfl
  · rw [hs.resolve_left h0, if_neg (by rw [← hs.resolve_left h0]; exact h0), out, decide_eq_true (P20.text_ne h.s0 h.s1)]; rfl
end
end P21
theorem P17.Good.other {D : List Int} {nm : ByteArray} {L : List RV} (h : P17.Good D nm L) : P20.other (svs L) = (P17.sv D, true) := by
  refine P21.other_good (P17.sv_ne D) _ (fun x hx => ?_) ?_
  · unfold svs at hx
    obtain ⟨r, hr, rfl⟩ := List.mem_map.1 hx
    exact h.saves r hr
  · obtain ⟨r, hr, e⟩ := h.has
    exact List.mem_map.2 ⟨r, hr, e⟩
theorem P17.Good.sv {D : List Int} {nm : ByteArray} {L : List RV} (h : P17.Good D nm L) : ∀ x ∈ svs L, x = 0 ∨ x = P17.sv D := fun x hx => by
  unfold svs at hx
  obtain ⟨r, hr, rfl⟩ := List.mem_map.1 hx
  exact h.saves r hr
end Go.Proofs.YtlideagcmhlkeaaDoor

/- Sources of layer 23, made of numbers: what Expand and Contract answer there (the plain law of chapter 30). No function of the program. -/
namespace Go.Proofs.YtlideagcmhlkeaaDoor
set_option linter.unusedVariables false

/-- the FORMATs of layer 23 -/
def isFmt23 (b : ByteArray) : Prop := b = ⟨#[76, 77, 84]⟩ ∨ b = ⟨#[71, 77, 84, 47, 66, 83, 84]⟩ ∨ b = ⟨#[69, 37, 115, 83, 84]⟩ ∨ b = ⟨#[37, 122]⟩ ∨ b = ⟨#[67, 69, 84, 47, 67, 69, 83, 84]⟩ ∨ b = ⟨#[87, 83, 84]⟩
/-- an era of layer 23, whose set has one save other than 0 -/
structure GoodE (R : List RV) (e : EV) : Prop where
  off : -42300 ≤ e.off ∧ e.off ≤ 42300
  kind : e.kind = 0 ∨ e.kind = 1 ∨ e.kind = 2
  fmt : isFmt23 e.fmt
  save : 0 ≤ e.save ∧ e.save ≤ 7200
  set : e.kind = 2 → ∃ y, (y = 3600 ∨ y = 1800 ∨ y = 7200 ∨ y = -3600) ∧ P20.other (svs (ofSet R e.set)) = (y, true)
/-- FORMATs of layer 23: %z, or one that is no number -/
theorem fmt23_kind {b : ByteArray} (h : isFmt23 b) : b = ⟨#[37, 122]⟩ ∨ (P21.kind (P4.bl b) ≠ 4 ∧ P21.kind (P4.bl b) ≠ 5 ∧ b ≠ ⟨#[37, 122]⟩) := by
  rcases h with rfl | rfl | rfl | rfl | rfl | rfl
  · exact .inr (by decide +kernel)
  · exact .inr (by decide +kernel)
  · exact .inr (by decide +kernel)
  · exact .inl rfl
  · exact .inr (by decide +kernel)
  · exact .inr (by decide +kernel)
theorem fmt23_size {b : ByteArray} (h : isFmt23 b) : b.size ≤ 8 := by
  rcases h with rfl | rfl | rfl | rfl | rfl | rfl <;> decide
theorem abbrv_num {o : Int} (h0 : -86399 ≤ o) (h1 : o ≤ 86399) (off s : Int) (lt : List UInt8) : P21.abbrv (P20.text o) off s lt = (P20.text o, 0) := by
  have hn := P21.num_of_text h0 h1
  have hk := P21.kind5 hn
  have ht : P21.two (P20.text o) = false := by
    have hs : (P21.slash (P20.text o)).2.2 = false := P21.slash_no fun c hc q => by
      rw [q] at hc; have := P21.num_mem hn _ hc; revert this; decide
    rw [P21.two_eq, hs]; rfl
  unfold P21.abbrv
  rw [if_neg (by rw [ht]; decide), if_neg (by rw [hk]; decide), if_neg (by rw [hk]; decide), if_neg (by rw [hk]; decide)]
theorem abbrv_z {o s : Int} (h0 : -86399 ≤ o + s) (h1 : o + s ≤ 86399) (lt : List UInt8) : P21.abbrv [37, 122] o s lt = (P20.text (o + s), 0) := by
  have ht : P21.two [37, 122] = false := by decide +kernel
  unfold P21.abbrv
  rw [if_neg (by rw [ht]; decide), if_neg (by rw [P21.kind_z]; decide), if_pos P21.kind_z, P21.out, decide_eq_true (P20.text_ne h0 h1)]
  rfl
/-- the saves that are asked of an era -/
def saves23 (R : List RV) (e : EV) : List Int := if e.kind = 2 then [0, (P20.other (svs (ofSet R e.set))).1] else if e.kind = 1 then [e.save] else [0]
theorem GoodE.num {R : List RV} {e : EV} (h : GoodE R e) : ∃ l : List UInt8, num30 R e = (str l, 0) ∧ P21.kind l = 5 ∧ ∀ s ∈ saves23 R e, ∀ lt, P21.abbrv [37, 122] e.off s lt = P21.abbrv l e.off s lt := by
  have h1 := h.off; have h2 := h.save
  rcases h.kind with k | k | k
  · refine ⟨P20.text e.off, ?_, P21.kind5 (P21.num_of_text (by omega) (by omega)), fun s hs lt => ?_⟩
    · unfold num30
      rw [k]
      have : P20.expansion 0 e.off e.save (svs (if (0 : Int) = 2 then ofSet R e.set else [])) = (P20.text e.off, 0) := by
        unfold P20.expansion P20.one
        rw [if_pos rfl, if_neg (P20.text_ne (by omega) (by omega))]
      rw [this]
    · unfold saves23 at hs
      rw [if_neg (by omega), if_neg (by omega)] at hs
      obtain rfl := List.mem_singleton.1 hs
      rw [abbrv_num (by omega) (by omega), abbrv_z (by omega) (by omega), Int.add_zero]
  · refine ⟨P20.text (e.off + e.save), ?_, P21.kind5 (P21.num_of_text (by omega) (by omega)), fun s hs lt => ?_⟩
    · unfold num30
      rw [k]
      have : P20.expansion 1 e.off e.save (svs (if (1 : Int) = 2 then ofSet R e.set else [])) = (P20.text (e.off + e.save), 0) := by
        unfold P20.expansion P20.one
        rw [if_neg (by decide), if_pos rfl, if_neg (P20.text_ne (by omega) (by omega))]
      rw [this]
    · unfold saves23 at hs
      rw [if_neg (by omega), if_pos k] at hs
      obtain rfl := List.mem_singleton.1 hs
      rw [abbrv_num (by omega) (by omega), abbrv_z (by omega) (by omega)]
  · obtain ⟨y, hy, ho⟩ := h.set k
    have hF : P21.Fits e.off y := ⟨by omega, by omega, by omega, by omega⟩
    refine ⟨P21.xt e.off y, ?_, P21.xt_kind hF, fun s hs lt => ?_⟩
    · unfold num30
      rw [k, if_pos rfl, P21.xt_exp hF e.save ho]
    · unfold saves23 at hs
      rw [if_pos k, ho] at hs
      have hs2 : s = 0 ∨ s = y := by simpa using hs
      rw [P21.z_abbr hF hs2, P21.xt_abbr hF]
/-- what Expand makes of an era of layer 23 -/
theorem GoodE.ex {R : List RV} {e : EV} (h : GoodE R e) : (exF R e).2 = 0 ∧ P21.kind (P4.bl (exF R e).1) ≠ 4 ∧ (e.fmt ≠ ⟨#[37, 122]⟩ → (exF R e).1 = e.fmt) ∧ (e.fmt = ⟨#[37, 122]⟩ → exF R e = num30 R e ∧ P21.kind (P4.bl (exF R e).1) = 5) := by
  obtain ⟨l, hn, hk, _⟩ := h.num
  rcases fmt23_kind h.fmt with hz | ⟨k4, k5, hz⟩
  · have he : exF R e = num30 R e := by unfold exF; rw [if_pos hz]
    refine ⟨by rw [he, hn], by rw [he, hn]; show P21.kind l ≠ 4; rw [hk]; decide, fun q => absurd hz q, fun _ => ⟨he, ?_⟩⟩
    rw [he, hn]
    exact hk
  · have he : exF R e = (e.fmt, 0) := by unfold exF; rw [if_neg hz]
    exact ⟨by rw [he], by rw [he]; exact k4, fun _ => by rw [he], fun q => absurd q hz⟩
theorem exF_no (R : List RV) (e : EV) (h : e.fmt ≠ ⟨#[37, 122]⟩) : exF R e = (e.fmt, 0) := by unfold exF; rw [if_neg h]
/-- ... twice: as once -/
theorem GoodE.ex2 {R : List RV} {e : EV} (h : GoodE R e) : exF R (fmtE (exF R) e) = ((exF R e).1, 0) := by
  have hne : (exF R e).1 ≠ ⟨#[37, 122]⟩ := fun q => by
    have := h.ex.2.1
    rw [q] at this
    exact this (by decide +kernel)
  exact exF_no R (fmtE (exF R) e) hne
theorem coF_yes (R : List RV) (e : EV) (h : P21.kind (P4.bl e.fmt) = 5) (h0 : (num30 R e).2 = 0) (h1 : (num30 R e).1 = e.fmt) : coF R e = (⟨#[37, 122]⟩, 0) := by unfold coF; rw [if_pos h, if_pos h0, if_pos h1]
theorem coF_no (R : List RV) (e : EV) (h : P21.kind (P4.bl e.fmt) ≠ 5) : coF R e = (e.fmt, 0) := by unfold coF; rw [if_neg h]
/-- ... and contracted again: as before -/
theorem GoodE.co {R : List RV} {e : EV} (h : GoodE R e) : coF R (fmtE (exF R) e) = (e.fmt, 0) := by
  obtain ⟨l, hn, hk, _⟩ := h.num
  rcases fmt23_kind h.fmt with hz | ⟨k4, k5, hz⟩
  · have hx := (h.ex.2.2.2 hz)
    have h1 : num30 R (fmtE (exF R) e) = num30 R e := rfl
    rw [coF_yes R (fmtE (exF R) e) hx.2 (by rw [h1, hn]) (by rw [h1]; show _ = (exF R e).1; rw [hx.1]), hz]
  · have hx := h.ex.2.2.1 hz
    rw [coF_no R (fmtE (exF R) e) (show ¬ P21.kind (P4.bl (exF R e).1) = 5 by rw [hx]; exact k5)]
    show ((exF R e).1, 0) = _
    rw [hx]
theorem GoodE.co0 {R : List RV} {e : EV} (h : GoodE R e) : coF R e = (e.fmt, 0) := by
  unfold coF
  rw [if_neg ?_]
  rcases fmt23_kind h.fmt with hz | ⟨k4, k5, hz⟩
  · rw [hz]; decide +kernel
  · exact k5
theorem GoodE.no5 {R : List RV} {e : EV} (h : GoodE R e) : P21.kind (P4.bl e.fmt) ≠ 5 := by
  rcases fmt23_kind h.fmt with hz | ⟨k4, k5, hz⟩
  · rw [hz]; decide +kernel
  · exact k5
end Go.Proofs.YtlideagcmhlkeaaDoor

/- An era of layer 23, made of numbers: FORMAT, end, and the era. -/
namespace Go.Proofs.YtlideagcmhlkeaaDoor
open Go.RowKit Go.Lib
set_option linter.unusedVariables false
set_option linter.unusedSimpArgs false

/-- an era by numbers -/
structure E23 where
  kind : Int
  set : Int
  fmt : Int
  years : Int
  day : Int
  base : Int
  off : Int
  at_ : Int
def E23.cells (d : E23) : List Value := [.int .u8 d.kind, .int .u8 d.set, .int .u8 d.fmt, .int .u8 d.years, .int .u8 d.day, .int .u8 d.base, .int .i8 d.off, .int .i8 d.at_]
structure E23.ok (d : E23) : Prop where
  k : 0 ≤ d.kind ∧ d.kind ≤ 255
  s : 0 ≤ d.set ∧ d.set ≤ 255
  f : 0 ≤ d.fmt ∧ d.fmt ≤ 255
  y : 0 ≤ d.years ∧ d.years ≤ 255
  dy : 0 ≤ d.day ∧ d.day ≤ 255
  b : 0 ≤ d.base ∧ d.base ≤ 255
  o : -128 ≤ d.off ∧ d.off ≤ 127
  a : -128 ≤ d.at_ ∧ d.at_ ≤ 127
/-- the name of a set -/
def rn (k : Nat) : ByteArray := str [82, UInt8.ofNat (48 + k)]
/-- an era that is right but for what its set says -/
structure GE23 (N : Nat) (e : EV) : Prop where
  off : -42300 ≤ e.off ∧ e.off ≤ 42300
  kind : e.kind = 0 ∨ e.kind = 1 ∨ e.kind = 2
  fmt : isFmt23 e.fmt
  save : 0 ≤ e.save ∧ e.save ≤ 7200
  set : e.kind = 2 → ∃ k, k < N ∧ e.set = rn k
/-- what a step of the region keeps: boxes of eras stay boxes of eras -/
def GE (W W' : World) : Prop := ∀ g, (∃ v0 v1 v2 v3 v4 v5 v6 v7 v8 v9 v10 v11 v12, Blk W g 47 #[v0, v1, v2, v3, v4, v5, v6, v7, v8, v9, v10, v11, v12]) → ∃ v0 v1 v2 v3 v4 v5 v6 v7 v8 v9 v10 v11 v12, Blk W' g 47 #[v0, v1, v2, v3, v4, v5, v6, v7, v8, v9, v10, v11, v12]
theorem GE.refl (W : World) : GE W W := fun _ h => h
theorem GE.below {W W' : World} (h : Below W.heap.size W W') : GE W W' := fun g ⟨v0, v1, v2, v3, v4, v5, v6, v7, v8, v9, v10, v11, v12, hb⟩ => ⟨v0, v1, v2, v3, v4, v5, v6, v7, v8, v9, v10, v11, v12, hb.below h hb.lt⟩
theorem GE.alloc (W : World) (ob : Obj) : GE W (W.alloc ob) := GE.below ((Below.refl _ W).alloc (Nat.le_refl _) ob)
theorem GE.trans {A B C : World} (h : GE A B) (k : GE B C) : GE A C := fun g hb => k g (h g hb)
theorem GE.set_ {W : World} {g : Nat} {v0 v1 v2 v3 v4 v5 v6 v7 v8 v9 v10 v11 v12 : Value} (hb : Blk W g 47 #[v0, v1, v2, v3, v4, v5, v6, v7, v8, v9, v10, v11, v12]) (z : Nat) (u : Value) : GE W (W.setCell ⟨g, z, none⟩ u) := by
  intro g' ⟨v0', v1', v2', v3', v4', v5', v6', v7', v8', v9', v10', v11', v12', hb'⟩
  by_cases q : g' = g
  · subst q
    have := hb.set_ z u
    match z with
    | 0 | 1 | 2 | 3 | 4 | 5 | 6 | 7 | 8 | 9 | 10 | 11 | 12 => exact ⟨_, _, _, _, _, _, _, _, _, _, _, _, _, this⟩
    | z + 13 =>
      rw [Array.setIfInBounds, dif_neg (by simp)] at this
      exact ⟨_, _, _, _, _, _, _, _, _, _, _, _, _, this⟩
  · exact ⟨v0', v1', v2', v3', v4', v5', v6', v7', v8', v9', v10', v11', v12', hb'.far q u⟩
theorem gPow23 : Tryd.prog.globalNamed "internal/strconv.uint64pow10" = some 2 := by kernel_rfl
theorem var_below23 {P : Program} {B g : Nat} {W W' : World} {n : String} {cs : Array Value} (h : Below B W W') (hg : P.globalNamed n = some g) (hgB : g < B) (hv : W.var? P n = some cs) : W'.var? P n = some cs := by
  unfold World.var? at hv ⊢
  simp only [hg, Option.bind_some] at hv ⊢
  rw [h.block g hgB]
  exact hv
/-- the table of powers of ten -/
structure VarsP (w : World) : Prop where
  pow : Lib.TabIs Tryd.prog w "internal/strconv.uint64pow10" .u64 Lib.pow10Tab
  big : 2 < w.heap.size
theorem VarsP.below {w w' : World} (h : VarsP w) (hb : Below w.heap.size w w') : VarsP w' := ⟨var_below23 hb gPow23 h.big h.pow, Nat.lt_of_lt_of_le h.big hb.size⟩
theorem dec_one : ∀ k : Nat, k < 10 → Lib.decDigits k = [UInt8.ofNat (48 + k)] := by decide +kernel
theorem itoa23 (k : Nat) (i : Int) (hi : i = k) (hk : k < 10) (w : World) (hv : VarsP w) :
    Calls Tryd.prog 45 #[.int .i64 i] w fun e w' => e = .returned (.string (str [UInt8.ofNat (48 + k)])) ∧ Below w.heap.size w w' := by
  subst hi
  refine (Tryd.strconv_Itoa k (by omega) (by omega) w hv.pow).mono ?_
  rintro e w' ⟨rfl, m, os, rfl⟩
  refine ⟨by simp only [Lib.itoa]; rw [if_neg (by omega), show ((k : Int)).toNat = k from rfl, dec_one k hk]; rfl, Lib.below_grow _ _ (Nat.le_refl _) _ _⟩
set_option maxRecDepth 100000 in
set_option maxHeartbeats 4000000 in
theorem format23_any (n : Int) (w : World) (hn : 0 ≤ n ∧ n ≤ 255) :
    Calls Tryd.prog 82 #[.int .u8 n] w fun e w' => ∃ S, e = .returned (.string S) ∧ isFmt23 S ∧ Below w.heap.size w w' := by
  obtain ⟨K, hK, hK6⟩ : ∃ K : Nat, n.tmod 6 = (K : Int) ∧ K < 6 := ⟨(n % 6).toNat, by rw [Int.tmod_eq_emod_of_nonneg hn.1]; omega, by omega⟩
  have hk2 : (K : Int) < 6 := by omega
  have hn0 := hn.1; have hn1 := hn.2
  clear hn
  have hb := (Below.refl w.heap.size w).alloc (Nat.le_refl _) (.cells #[.string ⟨#[76, 77, 84]⟩, .string ⟨#[71, 77, 84, 47, 66, 83, 84]⟩, .string ⟨#[69, 37, 115, 83, 84]⟩, .string ⟨#[37, 122]⟩, .string ⟨#[67, 69, 84, 47, 67, 69, 83, 84]⟩, .string ⟨#[87, 83, 84]⟩] 9)
  have hB := Blk.new w 9 #[.string ⟨#[76, 77, 84]⟩, .string ⟨#[71, 77, 84, 47, 66, 83, 84]⟩, .string ⟨#[69, 37, 115, 83, 84]⟩, .string ⟨#[37, 122]⟩, .string ⟨#[67, 69, 84, 47, 67, 69, 83, 84]⟩, .string ⟨#[87, 83, 84]⟩]
  obtain ⟨S, hS, hf⟩ : ∃ S, (#[.string ⟨#[76, 77, 84]⟩, .string ⟨#[71, 77, 84, 47, 66, 83, 84]⟩, .string ⟨#[69, 37, 115, 83, 84]⟩, .string ⟨#[37, 122]⟩, .string ⟨#[67, 69, 84, 47, 67, 69, 83, 84]⟩, .string ⟨#[87, 83, 84]⟩] : Array Value)[K]? = some (.string S) ∧ isFmt23 S := by
    unfold isFmt23
    match K, hK6 with
    | 0, _ => exact ⟨_, rfl, .inl rfl⟩
    | 1, _ => exact ⟨_, rfl, .inr (.inl rfl)⟩
    | 2, _ => exact ⟨_, rfl, .inr (.inr (.inl rfl))⟩
    | 3, _ => exact ⟨_, rfl, .inr (.inr (.inr (.inl rfl)))⟩
    | 4, _ => exact ⟨_, rfl, .inr (.inr (.inr (.inr (.inl rfl))))⟩
    | 5, _ => exact ⟨_, rfl, .inr (.inr (.inr (.inr (.inr rfl))))⟩
  have c0 := (hB.cell K).trans hS
  have HB := Lib.hid hb; have HF := Lib.hid hf
  clear hb hB hS hf
  go_enter Tryd.func82, Tryd.ntmps82
  go_wp2_with fail
  go_ret
  exact ⟨S, rfl, HF.out, HB.out⟩
set_option maxRecDepth 100000 in
set_option maxHeartbeats 4000000 in
theorem until23_any (y m d : Int) (w : World) :
    Calls Tryd.prog 83 #[.int .i64 y, .int .i64 m, .int .i64 d] w fun e w' => e = .returned (.agg #[.bool true, .int .i64 y, .int .i64 m, .int .i64 1, .int .i64 0, .int .i64 d, .int .i64 0, .int .i64 0]) ∧ Below w.heap.size w w' := by
  go_enter Tryd.func83, Tryd.ntmps83
  go_wp2_with fail
  refine bodyPost_ret (v := .agg #[.bool true, .int .i64 y, .int .i64 m, .int .i64 1, .int .i64 0, .int .i64 d, .int .i64 0, .int .i64 0]) (by simp [results, Tryd.results83, go_sem]) rfl ?_
  exact ⟨rfl, (Below.refl _ _).alloc (Nat.le_refl _) _⟩
/-- the numbers of an era -/
theorem nums23 (d : E23) (N : Nat) (hd : d.ok) (hN : 1 ≤ N ∧ N ≤ 3) : ∃ (O K S4 D20 D7 A24 B3 : Int) (k : Nat), (d.off.tmod 48 = O ∧ d.kind.tmod 3 = K ∧ d.set.tmod 4 = S4 ∧ d.day.tmod 20 = D20 ∧ d.day.tmod 7 = D7 ∧ d.at_.tmod 24 = A24 ∧ d.base.tmod 3 = B3 ∧ d.set.tmod N = (k : Int)) ∧
    (-48 < O ∧ O < 48) ∧ (K = 0 ∨ K = 1 ∨ K = 2) ∧ (0 ≤ S4 ∧ S4 ≤ 3) ∧ (0 ≤ D20 ∧ D20 ≤ 19) ∧ (0 ≤ D7 ∧ D7 ≤ 6) ∧ (-24 < A24 ∧ A24 < 24) ∧ (0 ≤ B3 ∧ B3 ≤ 2) ∧ k < N := by
  have f : ∀ (x m : Int), 0 ≤ x → 0 < m → 0 ≤ x.tmod m ∧ x.tmod m < m := fun x m h0 h1 => by
    rw [Int.tmod_eq_emod_of_nonneg h0]
    exact ⟨Int.emod_nonneg _ (by omega), Int.emod_lt_of_pos _ h1⟩
  have g : ∀ (m z : Int), 0 < z → -z < m.tmod z ∧ m.tmod z < z := fun m z h => ⟨Int.lt_tmod_of_pos m h, Int.tmod_lt_of_pos m h⟩
  have a1 : ∀ x : Int, 0 ≤ x ∧ x < 3 → x = 0 ∨ x = 1 ∨ x = 2 := fun x h => by omega
  have a2 : ∀ (x m : Int), 0 ≤ x ∧ x < m + 1 → 0 ≤ x ∧ x ≤ m := fun x m h => by omega
  have a3 : ∀ x : Int, 0 ≤ x ∧ x < N → x = (x.toNat : Int) ∧ x.toNat < N := fun x h => by omega
  have hk := a3 _ (f d.set N hd.s.1 (by omega))
  exact ⟨d.off.tmod 48, d.kind.tmod 3, d.set.tmod 4, d.day.tmod 20, d.day.tmod 7, d.at_.tmod 24, d.base.tmod 3, (d.set.tmod N).toNat, ⟨rfl, rfl, rfl, rfl, rfl, rfl, rfl, hk.1⟩, g _ _ (by decide), a1 _ (f _ _ hd.k.1 (by decide)), a2 _ 3 (f _ _ hd.s.1 (by decide)), a2 _ 19 (f _ _ hd.dy.1 (by decide)), a2 _ 6 (f _ _ hd.dy.1 (by decide)), g _ _ (by decide), a2 _ 2 (f _ _ hd.b.1 (by decide)), hk.2⟩
end Go.Proofs.YtlideagcmhlkeaaDoor

/- The walks of the numbers and times of a draft (chapter 17). -/
namespace Go.Proofs.YtlideagcmhlkeaaDoor
open Go.RowKit Go.Lib
set_option linter.unusedVariables false

/-- the bytes of a draft -/
structure Dr (w : World) (A : Option Addr) (D : List Int) : Prop where
  len : D.length ≤ maxLen
  cells : CellsIn 1 u8Cell w A D
  bytes : ∀ n ∈ D, 0 ≤ n ∧ n ≤ 255
theorem Dr.below {w w' : World} {A : Option Addr} {D : List Int} (h : Dr w A D) (hb : Below w.heap.size w w') : Dr w' A D := ⟨h.len, h.cells.below hb, h.bytes⟩
theorem Dr.alloc {w : World} {A : Option Addr} {D : List Int} (h : Dr w A D) (ob : Obj) : Dr (w.alloc ob) A D := h.below ((Below.refl _ _).alloc (Nat.le_refl _) ob)
theorem at_zero {D : List Int} (h : D.length = 0) (i m : Nat) : P17.at_ D i m = 0 := by unfold P17.at_; rw [if_pos h]
theorem at_pos {D : List Int} {n : Int} {i : Nat} (h : D[i % D.length]? = some n) (m : Nat) : P17.at_ D i m = n.toNat % m := by
  have h0 : 0 < D.length := Nat.lt_of_le_of_lt (Nat.zero_le _) (List.getElem?_eq_some_iff.mp h).1
  unfold P17.at_; rw [if_neg (by omega), h]; rfl
set_option maxRecDepth 100000 in
set_option maxHeartbeats 8000000 in
theorem at17_any (A : Option Addr) (c : Nat) (D : List Int) (i m : Nat) (w : World) (hm : 1 ≤ m ∧ m ≤ 1000) (hi : i ≤ 1000) (hD : Dr w A D) :
    Calls Tryd.prog 78 #[.slice A D.length c, .int .i64 (i : Int), .int .i64 (m : Int)] w fun e w' => e = .returned (.int .i64 (P17.at_ D i m : Int)) ∧ w' = w := by
  obtain ⟨hl, hF, hG⟩ := hD
  unfold maxLen at hl
  have hli : (D.length : Int) ≤ 9223372036854775807 := by omega
  obtain ⟨m1, m2⟩ := hm
  have hm0 : ¬ ((m : Int) = 0) := by omega
  have hi2 : (i : Int) ≤ 1000 := by omega
  rcases Nat.eq_zero_or_pos D.length with h0 | h0
  · rw [at_zero h0, h0]
    clear hF hG hl hli h0
    go_enter Tryd.func78, Tryd.ntmps78
    go_wp2_with fail
    go_ret
    exact ⟨rfl, rfl⟩
  · have hjl : i % D.length < D.length := Nat.mod_lt _ h0
    obtain ⟨n, hn⟩ : ∃ n, D[i % D.length]? = some n := ⟨_, List.getElem?_eq_getElem hjl⟩
    rw [at_pos hn]
    obtain ⟨b, o, rfl, hbl, hcc⟩ := hF (i % D.length) n hn
    have c0 : w.cell? ⟨b, o + i % D.length, none⟩ = some (.int .u8 n) := by
      have q := hcc 0 _ rfl
      rwa [Nat.mul_one, Nat.add_zero] at q
    obtain ⟨n0, n255⟩ := hG n (List.mem_of_getElem? hn)
    have eR : n.tmod (m : Int) = ((n.toNat % m : Nat) : Int) := by
      rw [Int.tmod_eq_emod_of_nonneg n0]
      have : n = (n.toNat : Int) := by omega
      rw [this]; exact (Int.natCast_emod _ _).symm
    have hrm : ((n.toNat % m : Nat) : Int) ≤ 255 := by
      have := Nat.mod_le n.toNat m
      omega
    have eJ : (i : Int).tmod (D.length : Int) = ((i % D.length : Nat) : Int) := by rw [Int.tmod_eq_emod_of_nonneg (by omega)]; exact (Int.natCast_emod i D.length).symm
    have hj2 : ((i % D.length : Nat) : Int) < (D.length : Int) := by omega
    have b0 : ((D.length : Int) == 0) = false := by rw [beq_eq_false_iff_ne]; omega
    have d0 : ¬ ((D.length : Int) = 0) := by omega
    clear hcc hn hG hF hl
    generalize n.toNat % m = r at *
    generalize i % D.length = j at *
    generalize D.length = N at *
    go_enter Tryd.func78, Tryd.ntmps78
    go_wp2_with fail
    go_ret
    exact ⟨rfl, rfl⟩
/-- the same, with the place as an Int -/
theorem at17_at (A : Option Addr) (c : Nat) (D : List Int) (i m : Nat) (J : Int) (hJ : J = i) (w : World) (hm : 1 ≤ m ∧ m ≤ 1000) (hi : i ≤ 1000) (hD : Dr w A D) :
    Calls Tryd.prog 78 #[.slice A D.length c, .int .i64 J, .int .i64 (m : Int)] w fun e w' => e = .returned (.int .i64 (P17.at_ D i m : Int)) ∧ w' = w := by
  rw [hJ]; exact at17_any A c D i m w hm hi hD
end Go.Proofs.YtlideagcmhlkeaaDoor
