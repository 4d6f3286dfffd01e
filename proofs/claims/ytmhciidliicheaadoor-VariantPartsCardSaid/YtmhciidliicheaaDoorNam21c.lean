/- The walk of name.Abbr: the closure over the table. -/
import Derived.Test.YtmhciidliicheaaDoorNam21b
import Derived.BigQuiet
namespace Go.Proofs.YtmhciidliicheaaDoor
open Go.RowKit Go.Lib
set_option linter.unusedVariables false

/-- what the closure has captured -/
structure OfBox (w : World) (b0 b1 bk b2 : Nat) : Prop where
  least : w.cell? ⟨b0, 0, none⟩ = some (.int .i64 3)
  most : w.cell? ⟨b1, 0, none⟩ = some (.int .i64 6)
  kinds : Blk w bk 167 kAll
  some_ : w.cell? ⟨b2, 0, none⟩ = some (.int .u8 1)
theorem kAll_and (c : UInt8) {w : World} {b : Nat} (h : Blk w b 167 kAll) : ∃ n : Int, w.cell? ⟨b, c.toNat, none⟩ = some (.int .u8 n) ∧ ((P21.isL c = true ∧ n = 1) ∨ (P21.isL c = false ∧ (n = 0 ∨ n = 2 ∨ n = 4 ∨ n = 8 ∨ n = 16))) :=
  ⟨kTab c.toNat, (h.cell _).trans (kAll_at _ (UInt8.toNat_lt c)), kTab_cases c.toNat⟩
set_option maxRecDepth 100000 in
set_option maxHeartbeats 8000000 in
theorem of1_any (s : ByteArray) (b0 b1 bk b2 : Nat) (w : World) (hs : s.size ≤ 1000000) (hO : OfBox w b0 b1 bk b2) :
    Calls Tryd.prog 90 #[.string s, .pointer (some ⟨b0, 0, none⟩), .pointer (some ⟨b1, 0, none⟩), .pointer (some ⟨bk, 0, none⟩), .pointer (some ⟨b2, 0, none⟩)] w fun e w' => e = .returned (.bool (P21.abbr (P4.bl s))) ∧ Q w w' := by
  obtain ⟨R, hR⟩ : ∃ R, P21.abbr (P4.bl s) = R := ⟨_, rfl⟩
  rw [hR]
  have HR := Lib.hid hR
  clear hR
  obtain ⟨c0, c1, hK, c2⟩ := hO
  have hsi : (s.size : Int) ≤ 1000000 := by omega
  have hln := P4.bl_len s
  by_cases h3 : s.size < 3
  · have h3i : (s.size : Int) < 3 := by omega
    have HN : Hid (R = false) := by
      have r := HR.out
      unfold P21.abbr at r
      rw [decide_eq_false (by omega)] at r
      exact Lib.hid r.symm
    go_enter Tryd.func90, Tryd.ntmps90
    go_wp2_with fail
    go_ret
    exact ⟨by rw [HN.out]; rfl, Q.refl _⟩
  · by_cases h6 : 6 < s.size
    · have h3i : ¬ (s.size : Int) < 3 := by omega
      have h6i : (6 : Int) < (s.size : Int) := by omega
      have HN : Hid (R = false) := by
        have r := HR.out
        unfold P21.abbr at r
        rw [decide_eq_false (p := (P4.bl s).length ≤ 6) (by omega), Bool.and_false] at r
        exact Lib.hid r.symm
      go_enter Tryd.func90, Tryd.ntmps90
      go_wp2_with fail
      go_ret
      exact ⟨by rw [HN.out]; rfl, Q.refl _⟩
    · have h3i : ¬ (s.size : Int) < 3 := by omega
      have h6i : ¬ (6 : Int) < (s.size : Int) := by omega
      have HN : Hid (R = (P4.bl s).all P21.isL) := by
        have r := HR.out
        unfold P21.abbr at r
        rw [decide_eq_true (p := (P4.bl s).length ≤ 6) (by omega), decide_eq_true (p := 3 ≤ (P4.bl s).length) (by omega)] at r
        exact Lib.hid r.symm
      clear HR
      go_enter Tryd.func90, Tryd.ntmps90
      go_wp2_with fail
      go_loopw [20] (fun i wr => ∃ k : Nat, k ≤ s.size ∧ i = .int .i64 (k : Int) ∧ Hid (((P4.bl s).take k).all P21.isL = true) ∧ ∃ n, wr = w.drewN n) (fun i _ => s.size - (intOf i).toNat)
      case atStart => exact ⟨0, Nat.zero_le _, rfl, Lib.hid rfl, 0, rfl⟩
      case round =>
        obtain ⟨k, hk, rfl, HA, n, rfl⟩ := hrel
        by_cases hlt : k < s.size
        · have hki : (k : Int) < (s.size : Int) := by omega
          have hb := P4.bl_get s k hlt
          obtain ⟨c, hc⟩ : ∃ c, s[k]'hlt = c := ⟨_, rfl⟩
          rw [hc] at hb
          have HB := Lib.hid hb
          clear hb
          obtain ⟨v, cv, hvv⟩ := kAll_and c hK
          have hcb := UInt8.toNat_lt c
          have hcb2 : (c.toNat : Int) < 256 := by omega
          clear hcb
          rcases hvv with ⟨hL, rfl⟩ | ⟨hL, hvv⟩
          · have HS := Lib.hid (all_take_succ HB.out HA.out hL)
            clear hL hK
            go_wp2_with fail
            go_quiet (fail)
            go_wp2_with fail
            go_roundw
            case rel => exact ⟨k + 1, by omega, by go_num, HS, _, rfl⟩
            case measure => simp [intOf]; omega
          · have HF : Hid (R = false) := by
              have q := all_no HB.out hL
              have r := HN.out
              rw [q] at r
              exact Lib.hid r
            clear hL hK
            rcases hvv with rfl | rfl | rfl | rfl | rfl
            all_goals
              go_wp2_with fail
              go_quiet (fail)
              go_wp2_with fail
              go_ret
              exact ⟨by rw [HF.out]; rfl, by first | exact ⟨_, rfl⟩ | exact ⟨n + nq, by rw [World.drewN_drewN]⟩⟩
        · obtain rfl : k = s.size := by omega
          have HF : Hid (R = true) := by
            have q := HA.out
            rw [List.take_of_length_le (by rw [P4.bl_len]; exact Nat.le_refl _)] at q
            have r := HN.out
            rw [q] at r
            exact Lib.hid r
          clear hK
          go_wp2_with fail
          go_ret
          exact ⟨by rw [HF.out]; rfl, ⟨n, rfl⟩⟩
/-- the box that 'of' hands back -/
def ofFn (b0 b1 bk b2 : Nat) : Value := .func (.func 90) #[] #[.pointer (some ⟨b0, 0, none⟩), .pointer (some ⟨b1, 0, none⟩), .pointer (some ⟨bk, 0, none⟩), .pointer (some ⟨b2, 0, none⟩)]
set_option maxRecDepth 1000000 in
set_option maxHeartbeats 4000000 in
theorem of_any (w : World) :
    Calls Tryd.prog 57 #[.int .i64 3, .int .i64 6, .int .u8 1] w fun e w' => ∃ b0 b1 bk b2, e = .returned (ofFn b0 b1 bk b2) ∧ OfBox w' b0 b1 bk b2 ∧ Below w.heap.size w w' := by
  have hmf : ∀ (fn : Fn) (first cap : Array Value) (w : World), (Instr.makeFunc fn first cap).run Tryd.prog w = .ok (.func fn first cap) w := fun _ _ _ _ => rfl
  obtain ⟨hz, hi⟩ := zero_of_info zeroK
  have hb0 := Blk.new w 3 #[.int .i64 3]
  have hw0 := (Below.refl w.heap.size w).alloc (Nat.le_refl _) (.cells #[.int .i64 3] 3)
  have hb1 := Blk.newAt (w.alloc (.cells #[.int .i64 3] 3)) (w.heap.size + 1) (by simp) 3 #[.int .i64 6]
  have hw1 := hw0.alloc (by simp) (.cells #[.int .i64 6] 3)
  have hb2 := Blk.newAt ((w.alloc (.cells #[.int .i64 3] 3)).alloc (.cells #[.int .i64 6] 3)) (w.heap.size + 1 + 1) (by simp) 5 #[.int .u8 1]
  have hw2 := hw1.alloc (by simp; omega) (.cells #[.int .u8 1] 5)
  have hb0' := (hb0.alloc (.cells #[.int .i64 6] 3)).alloc (.cells #[.int .u8 1] 5)
  have hb1' := hb1.alloc (.cells #[.int .u8 1] 5)
  clear hb0 hb1 hw0 hw1
  go_enter Tryd.func57, Tryd.ntmps57
  go_wp2_with fail
  generalize ((w.alloc (.cells #[.int .i64 3] 3)).alloc (.cells #[.int .i64 6] 3)).alloc (.cells #[.int .u8 1] 5) = W2 at hb2 hw2 hb0' hb1' ⊢
  refine (kinds_any _).mono ?_
  rintro e w1 ⟨rfl, hc⟩
  have H0 := (hb0'.below hc hb0'.lt).alloc (.cells (kA 0) 167)
  have H1 := (hb1'.below hc hb1'.lt).alloc (.cells (kA 0) 167)
  have H2 := (hb2.below hc hb2.lt).alloc (.cells (kA 0) 167)
  have HW := (hw2.trans (hc.mono hw2.size)).alloc (Nat.le_trans hw2.size hc.size) (.cells (kA 0) 167)
  have HK := Blk.new w1 167 (kA 0)
  have hlt : w.heap.size ≤ w1.heap.size := Nat.le_trans hw2.size hc.size
  have hlt2 : w.heap.size + 1 + 1 < w1.heap.size := Nat.lt_of_lt_of_le hb2.lt hc.size
  clear hb2 hw2 hb0' hb1' hc
  have hks := kAll_size
  obtain ⟨W3, hW3⟩ : ∃ W3, w1.alloc (.cells (kA 0) 167) = W3 := ⟨_, rfl⟩
  rw [hW3] at H0 H1 H2 HW HK
  have hsc : (storeCells ⟨w1.heap.size, 0, none⟩ kAll.toList 0).run Tryd.prog W3 = .ok () (W3.setRow w1.heap.size kAll) := store_blk HK (by rw [kA_size, kAll_size]) kAll_one
  go_wp2_with fail
  go_ret
  refine ⟨w.heap.size, w.heap.size + 1, w1.heap.size, w.heap.size + 1 + 1, rfl, ⟨?_, ?_, blk_setRow HK, ?_⟩, below_setRow HW hlt _⟩
  · rw [cell_setRow_other _ _ _ _ (by simp; omega)]; exact (H0.cell 0).trans rfl
  · rw [cell_setRow_other _ _ _ _ (by simp; omega)]; exact (H1.cell 0).trans rfl
  · rw [cell_setRow_other _ _ _ _ (by simp; omega)]; exact (H2.cell 0).trans rfl
set_option maxRecDepth 1000000 in
set_option maxHeartbeats 4000000 in
theorem abbr_any (s : ByteArray) (w : World) (hs : s.size ≤ 1000000) :
    Calls Tryd.prog 20 #[.string s] w fun e w' => e = .returned (.bool (P21.abbr (P4.bl s))) ∧ Below w.heap.size w w' := by
  have c2 := fun b0 b1 bk b2 W h => of1_any s b0 b1 bk b2 W hs h
  generalize P21.abbr (P4.bl s) = R at c2 ⊢
  have C2 := Lib.hid c2
  clear c2
  go_enter Tryd.func20, Tryd.ntmps20
  go_wp2_with fail
  refine (of_any _).mono ?_
  rintro e w1 ⟨b0, b1, bk, b2, rfl, hO, hb⟩
  unfold ofFn
  go_wp2_with fail
  refine (C2.out _ _ _ _ _ hO).mono ?_
  rintro e w2 ⟨rfl, n, rfl⟩
  go_wp2_with fail
  go_ret
  exact ⟨rfl, below_drewN hb n⟩
end Go.Proofs.YtmhciidliicheaaDoor
