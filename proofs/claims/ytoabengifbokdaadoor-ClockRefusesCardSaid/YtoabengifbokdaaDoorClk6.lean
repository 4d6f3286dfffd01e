/- The walks of clock.Check, clock.Parse and clock.Print, and of the reference's functions (chapter 6). -/
import Derived.Test.YtoabengifbokdaaDoorCut6
import Derived.Test.YtoabengifbokdaaDoorPlain6b
import Derived.Test.YtoabengifbokdaaDoorOff4b
import Derived.Test.YtoabengifbokdaaDoorOff4c
import Derived.Test.YtoabengifbokdaaDoorRef4b
import Derived.Laws.Runes
namespace Go.Proofs.YtoabengifbokdaaDoor
open Go.RowKit
set_option linter.unusedVariables false

set_option maxHeartbeats 1000000 in
theorem ccheck_any (x b : Int) (w : World) :
    Calls Tryd.prog 14 #[.agg #[.int .i64 x, .int .i64 b]] w fun e w' => e = .returned (.int .i64 (P6.check x b)) ∧ Below w.heap.size w w' := by
  by_cases h0 : x < -604799
  · have HP := Lib.hid (P6.check_bad (x := x) (b := b) (by omega))
    go_enter Tryd.func14, Tryd.ntmps14
    go_wp2_with fail
    go_ret
    exact ⟨by rw [HP.out]; rfl, (Below.refl _ _).alloc (Nat.le_refl _) _⟩
  · skip
    by_cases h1 : 604799 < x
    · have HP := Lib.hid (P6.check_bad (x := x) (b := b) (by omega))
      go_enter Tryd.func14, Tryd.ntmps14
      go_wp2_with fail
      go_ret
      exact ⟨by rw [HP.out]; rfl, (Below.refl _ _).alloc (Nat.le_refl _) _⟩
    · skip
      by_cases h2 : b < 0
      · have HP := Lib.hid (P6.check_bad (x := x) (b := b) (by omega))
        go_enter Tryd.func14, Tryd.ntmps14
        go_wp2_with fail
        go_ret
        exact ⟨by rw [HP.out]; rfl, (Below.refl _ _).alloc (Nat.le_refl _) _⟩
      · skip
        by_cases h3 : 2 < b
        · have HP := Lib.hid (P6.check_bad (x := x) (b := b) (by omega))
          go_enter Tryd.func14, Tryd.ntmps14
          go_wp2_with fail
          go_ret
          exact ⟨by rw [HP.out]; rfl, (Below.refl _ _).alloc (Nat.le_refl _) _⟩
        · skip
          have HP := Lib.hid (P6.check_ok (x := x) (b := b) (by omega) (by omega) (by omega) (by omega))
          go_enter Tryd.func14, Tryd.ntmps14
          go_wp2_with fail
          go_ret
          exact ⟨by rw [HP.out]; rfl, (Below.refl _ _).alloc (Nat.le_refl _) _⟩
set_option maxHeartbeats 1000000 in
theorem rccheck_any (x b : Int) (w : World) :
    Calls Tryd.prog 15 #[.agg #[.int .i64 x, .int .i64 b]] w fun e w' => e = .returned (.int .i64 (P6.check x b)) ∧ Below w.heap.size w w' := by
  by_cases h0 : x < -604799
  · have HP := Lib.hid (P6.check_bad (x := x) (b := b) (by omega))
    go_enter Tryd.func15, Tryd.ntmps15
    go_wp2_with fail
    go_ret
    exact ⟨by rw [HP.out]; rfl, (Below.refl _ _).alloc (Nat.le_refl _) _⟩
  · skip
    by_cases h1 : 604799 < x
    · have HP := Lib.hid (P6.check_bad (x := x) (b := b) (by omega))
      go_enter Tryd.func15, Tryd.ntmps15
      go_wp2_with fail
      go_ret
      exact ⟨by rw [HP.out]; rfl, (Below.refl _ _).alloc (Nat.le_refl _) _⟩
    · skip
      by_cases h2 : b < 0
      · have HP := Lib.hid (P6.check_bad (x := x) (b := b) (by omega))
        go_enter Tryd.func15, Tryd.ntmps15
        go_wp2_with fail
        go_ret
        exact ⟨by rw [HP.out]; rfl, (Below.refl _ _).alloc (Nat.le_refl _) _⟩
      · skip
        by_cases h3 : 2 < b
        · have HP := Lib.hid (P6.check_bad (x := x) (b := b) (by omega))
          go_enter Tryd.func15, Tryd.ntmps15
          go_wp2_with fail
          go_ret
          exact ⟨by rw [HP.out]; rfl, (Below.refl _ _).alloc (Nat.le_refl _) _⟩
        · skip
          have HP := Lib.hid (P6.check_ok (x := x) (b := b) (by omega) (by omega) (by omega) (by omega))
          go_enter Tryd.func15, Tryd.ntmps15
          go_wp2_with fail
          go_ret
          exact ⟨by rw [HP.out]; rfl, (Below.refl _ _).alloc (Nat.le_refl _) _⟩

theorem cval (s : ByteArray) : (P6.parse s = (P4.pv (P4.bl (P6.front s)), P6.cbase s, 0) ∧ P4.pe (P4.bl (P6.front s)) = 0) ∨ ∃ e, (e = 3 ∨ e = 5) ∧ P6.parse s = (0, 0, e) ∧ P4.pe (P4.bl (P6.front s)) = e := by
  rcases P4.parse_cases (P4.bl (P6.front s)) with ⟨h, _, _⟩ | ⟨_, h⟩
  · exact .inl ⟨if_pos h, h⟩
  · exact .inr ⟨_, h, if_neg (by omega), rfl⟩
set_option maxRecDepth 100000 in
set_option maxHeartbeats 2000000 in
theorem cparse_any (s : ByteArray) (w : World) (hs : s.size ≤ 1000000) (hv : Vars w) :
    Calls Tryd.prog 10 #[.string s] w fun e w' => e = .returned (.tuple #[.agg #[.int .i64 (P6.parse s).1, .int .i64 (P6.parse s).2.1], .int .i64 (P6.parse s).2.2]) ∧ Below w.heap.size w w' := by
  have c1 : Hid (∀ W, Calls Tryd.prog 21 #[.string s] W fun e w' => e = .returned (.tuple #[.string (P6.front s), .int .i64 (P6.cbase s)]) ∧ Below W.heap.size W w') := fun W => ccut_any s W hs
  have c2 : Hid (∀ W, Vars W → Calls Tryd.prog 22 #[.string (P6.front s)] W fun e w' => e = .returned (.tuple #[.int .i64 (P4.pv (P4.bl (P6.front s))), .int .i64 (P4.pe (P4.bl (P6.front s)))]) ∧ Below W.heap.size W w') := fun W h => parse_any _ W (Nat.le_trans (P6.front_size s) hs) h
  rcases cval s with ⟨hp, he⟩ | ⟨E, hE, hp, he⟩
  · rw [he] at c2
    rw [hp]
    generalize P4.pv (P4.bl (P6.front s)) = Y at c2 ⊢
    generalize P6.front s = F at c1 c2
    generalize P6.cbase s = C at c1 ⊢
    clear hp he
    have hw1 := (Below.refl w.heap.size w).alloc (Nat.le_refl _) (.cells #[.int .i64 0, .int .i64 0] 24)
    have hB0 := Blk.new w 24 #[.int .i64 0, .int .i64 0]
    go_enter Tryd.func10, Tryd.ntmps10
    go_wp2_with fail
    refine (c1.out _).mono ?_
    rintro e w1 ⟨rfl, hb1⟩
    have hB1 := hB0.below hb1 hB0.lt
    have hw2 := hw1.trans (hb1.mono hw1.size)
    have hv1 := hv.below hw2
    clear hw1 hb1 hB0
    go_wp2_with fail
    refine (c2.out _ hv1).mono ?_
    rintro e w2 ⟨rfl, hb2⟩
    have hB2 := hB1.below hb2 hB1.lt
    have hb3 := hw2.trans (hb2.mono hw2.size)
    have k0 : w2.cell? ⟨w.heap.size, 0, none⟩ = some (.int .i64 0) := (hB2.cell 0).trans rfl
    have k1 : w2.cell? ⟨w.heap.size, 1, none⟩ = some (.int .i64 0) := (hB2.cell 1).trans rfl
    have f0 : w2.frozen? ⟨w.heap.size, 0, none⟩ = false := hB2.frozen 0
    have f1 : w2.frozen? ⟨w.heap.size, 1, none⟩ = false := hB2.frozen 1
    have HB := Lib.hid ((hB2.set_ 0 (.int .i64 Y)).set_ 1 (.int .i64 C))
    clear hB1 hB2 hw2 hb2 hv1
    go_wp2_with fail
    have k2 := (HB.out.cell 0)
    have k3 := (HB.out.cell 1)
    exact bodyPost_ret (v := .tuple #[.agg #[.int .i64 Y, .int .i64 C], .int .i64 0]) (by simp [results, Tryd.results10, go_sem, k2, k3]) rfl ⟨rfl, (hb3.setCell (Nat.le_refl _) _).setCell (Nat.le_refl _) _⟩
  · rw [he] at c2
    rw [hp]
    generalize P4.pv (P4.bl (P6.front s)) = Y at c2
    generalize P6.front s = F at c1 c2
    generalize P6.cbase s = C at c1
    clear hp he
    rcases hE with rfl | rfl
    · skip
      have hw1 := (Below.refl w.heap.size w).alloc (Nat.le_refl _) (.cells #[.int .i64 0, .int .i64 0] 24)
      have hB0 := Blk.new w 24 #[.int .i64 0, .int .i64 0]
      go_enter Tryd.func10, Tryd.ntmps10
      go_wp2_with fail
      refine (c1.out _).mono ?_
      rintro e w1 ⟨rfl, hb1⟩
      have hB1 := hB0.below hb1 hB0.lt
      have hw2 := hw1.trans (hb1.mono hw1.size)
      have hv1 := hv.below hw2
      clear hw1 hb1 hB0
      go_wp2_with fail
      refine (c2.out _ hv1).mono ?_
      rintro e w2 ⟨rfl, hb2⟩
      have hB2 := hB1.below hb2 hB1.lt
      have hb3 := hw2.trans (hb2.mono hw2.size)
      have k0 : w2.cell? ⟨w.heap.size, 0, none⟩ = some (.int .i64 0) := (hB2.cell 0).trans rfl
      have k1 : w2.cell? ⟨w.heap.size, 1, none⟩ = some (.int .i64 0) := (hB2.cell 1).trans rfl
      have f0 : w2.frozen? ⟨w.heap.size, 0, none⟩ = false := hB2.frozen 0
      have f1 : w2.frozen? ⟨w.heap.size, 1, none⟩ = false := hB2.frozen 1
      have HB := Lib.hid ((hB2.set_ 0 (.int .i64 0)).set_ 1 (.int .i64 0))
      clear hB1 hB2 hw2 hb2 hv1
      go_wp2_with fail
      have k2 := (HB.out.cell 0)
      have k3 := (HB.out.cell 1)
      exact bodyPost_ret (v := .tuple #[.agg #[.int .i64 0, .int .i64 0], .int .i64 3]) (by simp [results, Tryd.results10, go_sem, k2, k3]) rfl ⟨rfl, (hb3.setCell (Nat.le_refl _) _).setCell (Nat.le_refl _) _⟩
    · skip
      have hw1 := (Below.refl w.heap.size w).alloc (Nat.le_refl _) (.cells #[.int .i64 0, .int .i64 0] 24)
      have hB0 := Blk.new w 24 #[.int .i64 0, .int .i64 0]
      go_enter Tryd.func10, Tryd.ntmps10
      go_wp2_with fail
      refine (c1.out _).mono ?_
      rintro e w1 ⟨rfl, hb1⟩
      have hB1 := hB0.below hb1 hB0.lt
      have hw2 := hw1.trans (hb1.mono hw1.size)
      have hv1 := hv.below hw2
      clear hw1 hb1 hB0
      go_wp2_with fail
      refine (c2.out _ hv1).mono ?_
      rintro e w2 ⟨rfl, hb2⟩
      have hB2 := hB1.below hb2 hB1.lt
      have hb3 := hw2.trans (hb2.mono hw2.size)
      have k0 : w2.cell? ⟨w.heap.size, 0, none⟩ = some (.int .i64 0) := (hB2.cell 0).trans rfl
      have k1 : w2.cell? ⟨w.heap.size, 1, none⟩ = some (.int .i64 0) := (hB2.cell 1).trans rfl
      have f0 : w2.frozen? ⟨w.heap.size, 0, none⟩ = false := hB2.frozen 0
      have f1 : w2.frozen? ⟨w.heap.size, 1, none⟩ = false := hB2.frozen 1
      have HB := Lib.hid ((hB2.set_ 0 (.int .i64 0)).set_ 1 (.int .i64 0))
      clear hB1 hB2 hw2 hb2 hv1
      go_wp2_with fail
      have k2 := (HB.out.cell 0)
      have k3 := (HB.out.cell 1)
      exact bodyPost_ret (v := .tuple #[.agg #[.int .i64 0, .int .i64 0], .int .i64 5]) (by simp [results, Tryd.results10, go_sem, k2, k3]) rfl ⟨rfl, (hb3.setCell (Nat.le_refl _) _).setCell (Nat.le_refl _) _⟩

-- PRINT
theorem enc_one : (Utf8.encode 115).size ≤ 1 ∧ (Utf8.encode 117).size ≤ 1 := ⟨by decide, by decide⟩
theorem enc_s (S : List UInt8) : str (S ++ P6.suf 1) = str S ++ Utf8.encode 115 := by
  rw [show Utf8.encode 115 = str [115] by decide, str_append]; rfl
theorem enc_u (S : List UInt8) : str (S ++ P6.suf 2) = str S ++ Utf8.encode 117 := by
  rw [show Utf8.encode 117 = str [117] by decide, str_append]; rfl
set_option maxRecDepth 100000 in
set_option maxHeartbeats 4000000 in
theorem cprint_good (x b : Int) (w : World) (h0 : -604799 ≤ x) (h1 : x ≤ 604799) (h2 : 0 ≤ b) (h3 : b ≤ 2) (hv : Vars w) :
    Calls Tryd.prog 12 #[.agg #[.int .i64 x, .int .i64 b]] w fun e w' => e = .returned (.tuple #[.string (str ((P4.print x).1 ++ P6.suf b)), .int .i64 0]) ∧ Below w.heap.size w w' := by
  have c1 : Hid (∀ W, Calls Tryd.prog 14 #[.agg #[.int .i64 x, .int .i64 b]] W fun e w' => e = .returned (.int .i64 0) ∧ Below W.heap.size W w') := fun W => by have q := ccheck_any x b W; rw [P6.check_ok h0 h1 h2 h3] at q; exact q
  have c2 : Hid (∀ W, Vars W → Calls Tryd.prog 17 #[.int .i64 x] W fun e w' => e = .returned (.tuple #[.string (str (P4.print x).1), .int .i64 0]) ∧ Below W.heap.size W w') := fun W h => by
    have q := print_any x W (by omega) (by omega) h; rw [(P4.parse_print x h0 h1).1] at q; exact q
  have hl := (P6.print_len x h0 h1).2
  have hl2 : (str (P4.print x).1).size ≤ 21 := hl
  generalize (P4.print x).1 = S at c2 hl2 ⊢
  clear hl
  have hS : Hid (str (S ++ P6.suf b) = str S ++ str (P6.suf b)) := (str_append _ _).symm
  have hB0 : Blk (w.alloc (.cells #[.int .i64 x, .int .i64 b] 24)) w.heap.size 24 #[.int .i64 x, .int .i64 b] := Blk.new _ _ _
  have hal : Below w.heap.size w (w.alloc (.cells #[.int .i64 x, .int .i64 b] 24)) := (Below.refl _ _).alloc (Nat.le_refl _) _
  go_enter Tryd.func12, Tryd.ntmps12
  go_wp2_with fail
  refine (c1.out _).mono ?_
  rintro e w1 ⟨rfl, hb1⟩
  have hB1 := hB0.below hb1 hB0.lt
  have hw1 := hal.trans (hb1.mono hal.size)
  have k0 : w1.cell? ⟨w.heap.size, 0, none⟩ = some (.int .i64 x) := (hB1.cell 0).trans rfl
  clear hB0 hal hb1
  go_wp2_with fail
  refine (c2.out _ (hv.below hw1)).mono ?_
  rintro e w2 ⟨rfl, hb2⟩
  have hB2 := hB1.below hb2 hB1.lt
  have hw2 := hw1.trans (hb2.mono hw1.size)
  clear hB1 hb2 k0
  go_wp2_with fail
  refine (letters_any _).mono ?_
  rintro e w3 ⟨rfl, hw3⟩
  have hL : Blk w3 w2.heap.size 53 arrL := by rw [hw3]; exact Blk.new _ _ _
  have hB3 : Blk w3 w.heap.size 24 #[.int .i64 x, .int .i64 b] := by rw [hw3]; exact hB2.alloc _
  have hb3 : Below w.heap.size w w3 := by rw [hw3]; exact hw2.alloc hw2.size _
  clear hw3 hB2 hw2 hw1
  generalize w2.heap.size = B at hL
  clear hv
  obtain ⟨z1, z2⟩ := enc_one
  rcases (by omega : b = 0 ∨ b = 1 ∨ b = 2) with rfl | rfl | rfl
  · go_wp2_with fail
    go_loopw [25] (fun i wr => ∃ k : Int, (k = 0 ∨ k = 1 ∨ k = 2 ∨ k = 3 ∨ k = 4 ∨ k = 5) ∧ i = .int .i64 k ∧ Blk wr B 53 arrL ∧ Blk wr w.heap.size 24 #[.int .i64 x, .int .i64 0] ∧ Below w.heap.size w wr) (fun i _ => 5 - (intOf i).toNat)
    case atStart => exact ⟨0, .inl rfl, rfl, hL, hB3, hb3⟩
    case round =>
      clear hL hB3 hb3
      obtain ⟨k, hk, rfl, hL, hB3, hb3⟩ := hrel
      rcases hk with rfl | rfl | rfl | rfl | rfl | rfl
      · have e0 : wr.cell? ⟨B, 0, none⟩ = some (.int .i32 119) := (hL.cell _).trans rfl
        have e1 : wr.cell? ⟨B, 1, none⟩ = some (.int .i64 0) := (hL.cell _).trans rfl
        have hb4 := hb3.alloc hb3.size (.cells #[.int .i32 119, .int .i64 0] 53)
        have hL4 := hL.alloc (.cells #[.int .i32 119, .int .i64 0] 53)
        have hB4 := hB3.alloc (.cells #[.int .i32 119, .int .i64 0] 53)
        have d1 : (wr.alloc (.cells #[.int .i32 119, .int .i64 0] 53)).cell? ⟨w.heap.size, 1, none⟩ = some (.int .i64 0) := (hB4.cell 1).trans rfl
        go_wp2_with fail
        go_roundw
        case rel => exact ⟨1, by omega, by go_num, hL4, hB4, hb4⟩
        case measure => simp [intOf]
      · have e0 : wr.cell? ⟨B, 2, none⟩ = some (.int .i32 115) := (hL.cell _).trans rfl
        have e1 : wr.cell? ⟨B, 3, none⟩ = some (.int .i64 1) := (hL.cell _).trans rfl
        have hb4 := hb3.alloc hb3.size (.cells #[.int .i32 115, .int .i64 1] 53)
        have hL4 := hL.alloc (.cells #[.int .i32 115, .int .i64 1] 53)
        have hB4 := hB3.alloc (.cells #[.int .i32 115, .int .i64 1] 53)
        have d1 : (wr.alloc (.cells #[.int .i32 115, .int .i64 1] 53)).cell? ⟨w.heap.size, 1, none⟩ = some (.int .i64 0) := (hB4.cell 1).trans rfl
        go_wp2_with fail
        go_roundw
        case rel => exact ⟨2, by omega, by go_num, hL4, hB4, hb4⟩
        case measure => simp [intOf]
      · have e0 : wr.cell? ⟨B, 4, none⟩ = some (.int .i32 117) := (hL.cell _).trans rfl
        have e1 : wr.cell? ⟨B, 5, none⟩ = some (.int .i64 2) := (hL.cell _).trans rfl
        have hb4 := hb3.alloc hb3.size (.cells #[.int .i32 117, .int .i64 2] 53)
        have hL4 := hL.alloc (.cells #[.int .i32 117, .int .i64 2] 53)
        have hB4 := hB3.alloc (.cells #[.int .i32 117, .int .i64 2] 53)
        have d1 : (wr.alloc (.cells #[.int .i32 117, .int .i64 2] 53)).cell? ⟨w.heap.size, 1, none⟩ = some (.int .i64 0) := (hB4.cell 1).trans rfl
        go_wp2_with fail
        go_roundw
        case rel => exact ⟨3, by omega, by go_num, hL4, hB4, hb4⟩
        case measure => simp [intOf]
      · have e0 : wr.cell? ⟨B, 6, none⟩ = some (.int .i32 103) := (hL.cell _).trans rfl
        have e1 : wr.cell? ⟨B, 7, none⟩ = some (.int .i64 2) := (hL.cell _).trans rfl
        have hb4 := hb3.alloc hb3.size (.cells #[.int .i32 103, .int .i64 2] 53)
        have hL4 := hL.alloc (.cells #[.int .i32 103, .int .i64 2] 53)
        have hB4 := hB3.alloc (.cells #[.int .i32 103, .int .i64 2] 53)
        have d1 : (wr.alloc (.cells #[.int .i32 103, .int .i64 2] 53)).cell? ⟨w.heap.size, 1, none⟩ = some (.int .i64 0) := (hB4.cell 1).trans rfl
        go_wp2_with fail
        go_roundw
        case rel => exact ⟨4, by omega, by go_num, hL4, hB4, hb4⟩
        case measure => simp [intOf]
      · have e0 : wr.cell? ⟨B, 8, none⟩ = some (.int .i32 122) := (hL.cell _).trans rfl
        have e1 : wr.cell? ⟨B, 9, none⟩ = some (.int .i64 2) := (hL.cell _).trans rfl
        have hb4 := hb3.alloc hb3.size (.cells #[.int .i32 122, .int .i64 2] 53)
        have hL4 := hL.alloc (.cells #[.int .i32 122, .int .i64 2] 53)
        have hB4 := hB3.alloc (.cells #[.int .i32 122, .int .i64 2] 53)
        have d1 : (wr.alloc (.cells #[.int .i32 122, .int .i64 2] 53)).cell? ⟨w.heap.size, 1, none⟩ = some (.int .i64 0) := (hB4.cell 1).trans rfl
        go_wp2_with fail
        go_roundw
        case rel => exact ⟨5, by omega, by go_num, hL4, hB4, hb4⟩
        case measure => simp [intOf]
      · go_wp2_with fail
        go_ret2
        exact ⟨by rw [show str (S ++ P6.suf 0) = str S from congrArg str (List.append_nil S)]; rfl, hb3⟩
  · go_wp2_with fail
    go_loopw [25] (fun i wr => ∃ k : Int, (k = 0 ∨ k = 1) ∧ i = .int .i64 k ∧ Blk wr B 53 arrL ∧ Blk wr w.heap.size 24 #[.int .i64 x, .int .i64 1] ∧ Below w.heap.size w wr) (fun i _ => 5 - (intOf i).toNat)
    case atStart => exact ⟨0, .inl rfl, rfl, hL, hB3, hb3⟩
    case round =>
      clear hL hB3 hb3
      obtain ⟨k, hk, rfl, hL, hB3, hb3⟩ := hrel
      rcases hk with rfl | rfl
      · have e0 : wr.cell? ⟨B, 0, none⟩ = some (.int .i32 119) := (hL.cell _).trans rfl
        have e1 : wr.cell? ⟨B, 1, none⟩ = some (.int .i64 0) := (hL.cell _).trans rfl
        have hb4 := hb3.alloc hb3.size (.cells #[.int .i32 119, .int .i64 0] 53)
        have hL4 := hL.alloc (.cells #[.int .i32 119, .int .i64 0] 53)
        have hB4 := hB3.alloc (.cells #[.int .i32 119, .int .i64 0] 53)
        have d1 : (wr.alloc (.cells #[.int .i32 119, .int .i64 0] 53)).cell? ⟨w.heap.size, 1, none⟩ = some (.int .i64 1) := (hB4.cell 1).trans rfl
        go_wp2_with fail
        go_roundw
        case rel => exact ⟨1, by omega, by go_num, hL4, hB4, hb4⟩
        case measure => simp [intOf]
      · have e0 : wr.cell? ⟨B, 2, none⟩ = some (.int .i32 115) := (hL.cell _).trans rfl
        have e1 : wr.cell? ⟨B, 3, none⟩ = some (.int .i64 1) := (hL.cell _).trans rfl
        have hb4 := hb3.alloc hb3.size (.cells #[.int .i32 115, .int .i64 1] 53)
        have hL4 := hL.alloc (.cells #[.int .i32 115, .int .i64 1] 53)
        have hB4 := hB3.alloc (.cells #[.int .i32 115, .int .i64 1] 53)
        have d1 : (wr.alloc (.cells #[.int .i32 115, .int .i64 1] 53)).cell? ⟨w.heap.size, 1, none⟩ = some (.int .i64 1) := (hB4.cell 1).trans rfl
        go_wp2_with fail
        go_ret2
        exact ⟨by rw [enc_s]; rfl, hb4⟩
  · go_wp2_with fail
    go_loopw [25] (fun i wr => ∃ k : Int, (k = 0 ∨ k = 1 ∨ k = 2) ∧ i = .int .i64 k ∧ Blk wr B 53 arrL ∧ Blk wr w.heap.size 24 #[.int .i64 x, .int .i64 2] ∧ Below w.heap.size w wr) (fun i _ => 5 - (intOf i).toNat)
    case atStart => exact ⟨0, .inl rfl, rfl, hL, hB3, hb3⟩
    case round =>
      clear hL hB3 hb3
      obtain ⟨k, hk, rfl, hL, hB3, hb3⟩ := hrel
      rcases hk with rfl | rfl | rfl
      · have e0 : wr.cell? ⟨B, 0, none⟩ = some (.int .i32 119) := (hL.cell _).trans rfl
        have e1 : wr.cell? ⟨B, 1, none⟩ = some (.int .i64 0) := (hL.cell _).trans rfl
        have hb4 := hb3.alloc hb3.size (.cells #[.int .i32 119, .int .i64 0] 53)
        have hL4 := hL.alloc (.cells #[.int .i32 119, .int .i64 0] 53)
        have hB4 := hB3.alloc (.cells #[.int .i32 119, .int .i64 0] 53)
        have d1 : (wr.alloc (.cells #[.int .i32 119, .int .i64 0] 53)).cell? ⟨w.heap.size, 1, none⟩ = some (.int .i64 2) := (hB4.cell 1).trans rfl
        go_wp2_with fail
        go_roundw
        case rel => exact ⟨1, by omega, by go_num, hL4, hB4, hb4⟩
        case measure => simp [intOf]
      · have e0 : wr.cell? ⟨B, 2, none⟩ = some (.int .i32 115) := (hL.cell _).trans rfl
        have e1 : wr.cell? ⟨B, 3, none⟩ = some (.int .i64 1) := (hL.cell _).trans rfl
        have hb4 := hb3.alloc hb3.size (.cells #[.int .i32 115, .int .i64 1] 53)
        have hL4 := hL.alloc (.cells #[.int .i32 115, .int .i64 1] 53)
        have hB4 := hB3.alloc (.cells #[.int .i32 115, .int .i64 1] 53)
        have d1 : (wr.alloc (.cells #[.int .i32 115, .int .i64 1] 53)).cell? ⟨w.heap.size, 1, none⟩ = some (.int .i64 2) := (hB4.cell 1).trans rfl
        go_wp2_with fail
        go_roundw
        case rel => exact ⟨2, by omega, by go_num, hL4, hB4, hb4⟩
        case measure => simp [intOf]
      · have e0 : wr.cell? ⟨B, 4, none⟩ = some (.int .i32 117) := (hL.cell _).trans rfl
        have e1 : wr.cell? ⟨B, 5, none⟩ = some (.int .i64 2) := (hL.cell _).trans rfl
        have hb4 := hb3.alloc hb3.size (.cells #[.int .i32 117, .int .i64 2] 53)
        have hL4 := hL.alloc (.cells #[.int .i32 117, .int .i64 2] 53)
        have hB4 := hB3.alloc (.cells #[.int .i32 117, .int .i64 2] 53)
        have d1 : (wr.alloc (.cells #[.int .i32 117, .int .i64 2] 53)).cell? ⟨w.heap.size, 1, none⟩ = some (.int .i64 2) := (hB4.cell 1).trans rfl
        go_wp2_with fail
        go_ret2
        exact ⟨by rw [enc_u]; rfl, hb4⟩
end Go.Proofs.YtoabengifbokdaaDoor
