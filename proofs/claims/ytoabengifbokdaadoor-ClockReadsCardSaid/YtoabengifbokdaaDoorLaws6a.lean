/- The walks of the laws ClockStrings, ClockTimes, ClockReads (chapter 6). -/
import Derived.Test.YtoabengifbokdaaDoorWorks6
import Derived.OpenShut
import Derived.Deep.RegionHeld3
namespace Go.Proofs.YtoabengifbokdaaDoor
open Go.RowKit
set_option linter.unusedVariables false

set_option maxRecDepth 100000 in
set_option maxHeartbeats 1000000 in
theorem walkClockStrings (s : ByteArray) (w : World) (hs : s.size ≤ maxLen) (hv : Vars w) :
    Calls Tryd.prog 3 #[.string s] w fun e w' => e = .returned (.bool true) ∧ Below w.heap.size w w' := by
  unfold maxLen at hs
  by_cases hl : 1000 < s.size
  · have hli : (1000 : Int) < (s.size : Int) := by omega
    go_enter Tryd.func3, Tryd.ntmps3
    go_wp2_with fail
    refine (works6_any _ hv).mono ?_
    rintro e w1 ⟨rfl, hb⟩
    go_wp2_with fail
    go_ret
    exact ⟨rfl, hb⟩
  · have hli : ¬ (1000 : Int) < (s.size : Int) := by omega
    have hs2 : s.size ≤ 1000000 := by omega
    have c1 : Hid (∀ W, Vars W → Calls Tryd.prog 10 #[.string s] W fun e w' => e = .returned (.tuple #[.agg #[.int .i64 (P6.parse s).1, .int .i64 (P6.parse s).2.1], .int .i64 (P6.parse s).2.2]) ∧ Below W.heap.size W w') := fun W h => cparse_any s W hs2 h
    have c2 : Hid (∀ W, Calls Tryd.prog 11 #[.string s] W fun e w' => e = .returned (.tuple #[.agg #[.int .i64 (P6.parse s).1, .int .i64 (P6.parse s).2.1], .int .i64 (P6.parse s).2.2]) ∧ Below W.heap.size W w') := fun W => rcparse_any s W hs2
    generalize P6.parse s = y at c1 c2
    obtain ⟨x, b, E⟩ := y
    go_enter Tryd.func3, Tryd.ntmps3
    go_wp2_with fail
    refine (c1.out _ hv).mono ?_
    rintro e w1 ⟨rfl, hb1⟩
    have hB1 := Blk.new w1 24 #[.int .i64 x, .int .i64 b]
    have ha1 := hb1.alloc hb1.size (.cells #[.int .i64 x, .int .i64 b] 24)
    go_wp2_with fail
    refine (c2.out _).mono ?_
    rintro e w2 ⟨rfl, hb2⟩
    have hB2 := (hB1.below hb2 hB1.lt).alloc (.cells #[.int .i64 x, .int .i64 b] 24)
    have hb3 := ha1.trans (hb2.mono ha1.size)
    have hb4 := hb3.alloc hb3.size (.cells #[.int .i64 x, .int .i64 b] 24)
    have k0 := (hB2.cell 0).trans rfl
    have k1 := (hB2.cell 1).trans rfl
    have hv4 := hv.below hb4
    clear hB1 hB2 hb3 ha1 hb1 hb2
    go_wp2_with fail
    refine (works6_any _ hv4).mono ?_
    rintro e w3 ⟨rfl, hb5⟩
    have hb6 := hb4.trans (hb5.mono hb4.size)
    go_wp2_with fail
    go_ret
    exact ⟨rfl, hb6⟩

theorem startC {w W : World} {x b : Int} (h : Blk W w.heap.size 24 #[.int .i64 x, .int .i64 b]) (hv : Vars W) (hb : Below w.heap.size w W) :
    W.cell? ⟨w.heap.size, 0, none⟩ = some (.int .i64 x) ∧ W.cell? ⟨w.heap.size, 1, none⟩ = some (.int .i64 b) ∧ w.heap.size < W.heap.size ∧ Vars W ∧ Below w.heap.size w W := ⟨(h.cell 0).trans rfl, (h.cell 1).trans rfl, h.lt, hv, hb⟩
theorem keepC {w W w' : World} {x b : Int} (hb : Below W.heap.size W w') (h : W.cell? ⟨w.heap.size, 0, none⟩ = some (.int .i64 x) ∧ W.cell? ⟨w.heap.size, 1, none⟩ = some (.int .i64 b) ∧ w.heap.size < W.heap.size ∧ Vars W ∧ Below w.heap.size w W) :
    w'.cell? ⟨w.heap.size, 0, none⟩ = some (.int .i64 x) ∧ w'.cell? ⟨w.heap.size, 1, none⟩ = some (.int .i64 b) ∧ w.heap.size < w'.heap.size ∧ Vars w' ∧ Below w.heap.size w w' :=
  ⟨(hb.cell (p := ⟨w.heap.size, 0, none⟩) h.2.2.1).trans h.1, (hb.cell (p := ⟨w.heap.size, 1, none⟩) h.2.2.1).trans h.2.1, Nat.lt_of_lt_of_le h.2.2.1 hb.size, h.2.2.2.1.below hb, h.2.2.2.2.trans (hb.mono h.2.2.2.2.size)⟩
theorem varsC {w W : World} {x b : Int} (h : W.cell? ⟨w.heap.size, 0, none⟩ = some (.int .i64 x) ∧ W.cell? ⟨w.heap.size, 1, none⟩ = some (.int .i64 b) ∧ w.heap.size < W.heap.size ∧ Vars W ∧ Below w.heap.size w W) : Vars W := h.2.2.2.1
theorem belowC {w W : World} {x b : Int} (h : W.cell? ⟨w.heap.size, 0, none⟩ = some (.int .i64 x) ∧ W.cell? ⟨w.heap.size, 1, none⟩ = some (.int .i64 b) ∧ w.heap.size < W.heap.size ∧ Vars W ∧ Below w.heap.size w W) : Below w.heap.size w W := h.2.2.2.2
theorem bounds_two {x b : Int} (hx : (Lit.int .i64 x).wf = true) (hb : (Lit.int .i64 b).wf = true) : (-9223372036854775808 ≤ x ∧ x ≤ 9223372036854775807) ∧ (-9223372036854775808 ≤ b ∧ b ≤ 9223372036854775807) := ⟨bounds_i64 hx, bounds_i64 hb⟩
set_option maxRecDepth 100000 in
set_option maxHeartbeats 2000000 in
theorem walkClockTimes (x b : Int) (w : World) (hx : (Lit.int .i64 x).wf = true) (hb : (Lit.int .i64 b).wf = true) (hv : Vars w) :
    Calls Tryd.prog 4 #[.agg #[.int .i64 x, .int .i64 b]] w fun e w' => e = .returned (.bool true) ∧ Below w.heap.size w w' := by
  clear hx hb
  have c1 : Hid (∀ W, Vars W → Calls Tryd.prog 12 #[.agg #[.int .i64 x, .int .i64 b]] W fun e w' => e = .returned (.tuple #[.string (str (P6.print x b).1), .int .i64 (P6.print x b).2]) ∧ Below W.heap.size W w') := fun W h => cprint_any x b W h
  have c2 : Hid (∀ W, Calls Tryd.prog 13 #[.agg #[.int .i64 x, .int .i64 b]] W fun e w' => e = .returned (.tuple #[.string (str (P6.print x b).1), .int .i64 (P6.print x b).2]) ∧ Below W.heap.size W w') := fun W => rcprint_any x b W
  have c3 : Hid (∀ W, Calls Tryd.prog 14 #[.agg #[.int .i64 x, .int .i64 b]] W fun e w' => e = .returned (.int .i64 (P6.check x b)) ∧ Below W.heap.size W w') := fun W => ccheck_any x b W
  have c4 : Hid (∀ W, Calls Tryd.prog 15 #[.agg #[.int .i64 x, .int .i64 b]] W fun e w' => e = .returned (.int .i64 (P6.check x b)) ∧ Below W.heap.size W w') := fun W => rccheck_any x b W
  generalize P6.print x b = y at c1 c2
  generalize P6.check x b = C at c3 c4
  obtain ⟨Y, E⟩ := y
  go_enter Tryd.func4, Tryd.ntmps4
  have hb1 := (Below.refl w.heap.size w).alloc (Nat.le_refl _) (.cells #[.int .i64 x, .int .i64 b] 24)
  have hB2 := Blk.new w 24 #[.int .i64 x, .int .i64 b]
  have hv3 := hv.below hb1
  go_wp2_with fail
  refine (c1.out _ hv3).mono ?_
  clear hv3
  rintro e w1 ⟨rfl, hc4⟩
  have hB5 := hB2.below hc4 hB2.lt
  clear hB2
  have hb6 := hb1.trans (hc4.mono hb1.size)
  clear hb1 hc4
  have k7 := (hB5.cell 0).trans rfl
  have k8 := (hB5.cell 1).trans rfl
  go_wp2_with fail
  refine (c2.out _).mono ?_
  clear k7 k8
  rintro e w2 ⟨rfl, hc9⟩
  have hB10 := hB5.below hc9 hB5.lt
  clear hB5
  have hb11 := hb6.trans (hc9.mono hb6.size)
  clear hb6 hc9
  have k12 := (hB10.cell 0).trans rfl
  have k13 := (hB10.cell 1).trans rfl
  go_wp2_with fail
  clear k12 k13
  have hS := startC (x := x) (b := b) hB10 (hv.below hb11) hb11
  clear hB10 hb11
  go_region_held3 (fun W => W.cell? ⟨w.heap.size, 0, none⟩ = some (.int .i64 x) ∧ W.cell? ⟨w.heap.size, 1, none⟩ = some (.int .i64 b) ∧ w.heap.size < W.heap.size ∧ Vars W ∧ Below w.heap.size w W) (first | exact keepC ((Below.refl _ _).drew) hS | exact keepC (by assumption) (by assumption) | assumption) (first | (go_at_call 14; refine (c3.out _).mono ?_; rintro e w' ⟨rfl, hb⟩) | (go_at_call 15; refine (c4.out _).mono ?_; rintro e w' ⟨rfl, hb⟩) | (go_at_call 9; refine (works6_any _ (varsC (by assumption))).mono ?_; rintro e w' ⟨rfl, hb⟩))
  go_wp2_with fail
  go_ret
  exact ⟨rfl, belowC (by assumption)⟩

set_option maxRecDepth 100000 in
set_option maxHeartbeats 2000000 in
theorem walkClockReads (s : ByteArray) (w : World) (hs : s.size ≤ maxLen) (hv : Vars w) :
    Calls Tryd.prog 6 #[.string s] w fun e w' => e = .returned (.bool true) ∧ Below w.heap.size w w' := by
  unfold maxLen at hs
  by_cases hl : 200 < s.size
  · have hli : (200 : Int) < (s.size : Int) := by omega
    go_enter Tryd.func6, Tryd.ntmps6
    go_wp2_with fail
    refine (works6_any _ hv).mono ?_
    rintro e w1 ⟨rfl, hc1⟩
    have hb2 := hc1
    go_wp2_with fail
    go_ret
    exact ⟨rfl, hb2⟩
  · have hli : ¬ (200 : Int) < (s.size : Int) := by omega
    have hs2 : s.size ≤ 1000000 := by omega
    have c1 : Hid (∀ W, Vars W → Calls Tryd.prog 10 #[.string s] W fun e w' => e = .returned (.tuple #[.agg #[.int .i64 (P6.parse s).1, .int .i64 (P6.parse s).2.1], .int .i64 (P6.parse s).2.2]) ∧ Below W.heap.size W w') := fun W h => cparse_any s W hs2 h
    have hcs := P6.parse_cases s
    generalize P6.parse s = y at c1 hcs
    obtain ⟨x, b, E⟩ := y
    rcases hcs with ⟨h, h0, h1, h2, h3⟩ | ⟨h0, h1, h2⟩
    · simp only at h h0 h1 h2 h3
      subst h
      have c2 : Hid (∀ W, Vars W → Calls Tryd.prog 12 #[.agg #[.int .i64 x, .int .i64 b]] W fun e w' => e = .returned (.tuple #[.string (str ((P4.print x).1 ++ P6.suf b)), .int .i64 0]) ∧ Below W.heap.size W w') := fun W h => cprint_good x b W h0 h1 h2 h3 h
      have c3 : Hid (∀ W, Vars W → Calls Tryd.prog 10 #[.string (str ((P4.print x).1 ++ P6.suf b))] W fun e w' => e = .returned (.tuple #[.agg #[.int .i64 x, .int .i64 b], .int .i64 0]) ∧ Below W.heap.size W w') := fun W h => by
        have l1 := (P6.print_len x h0 h1).2
        have l2 := P6.suf_len b
        have q := cparse_any (str ((P4.print x).1 ++ P6.suf b)) W (by rw [str_size, List.length_append]; omega) h; rw [P6.parse_print h0 h1 h2 h3] at q; exact q
      have c4 : Hid (∀ W, Calls Tryd.prog 14 #[.agg #[.int .i64 x, .int .i64 b]] W fun e w' => e = .returned (.int .i64 0) ∧ Below W.heap.size W w') := fun W => by have q := ccheck_any x b W; rw [P6.check_ok h0 h1 h2 h3] at q; exact q
      generalize str ((P4.print x).1 ++ P6.suf b) = T at c2 c3
      clear h0 h1 h2 h3
      go_enter Tryd.func6, Tryd.ntmps6
      go_wp2_with fail
      refine (c1.out _ hv).mono ?_
      rintro e w1 ⟨rfl, hc1⟩
      have hb2 := hc1
      have hb3 := hb2.alloc hb2.size (.cells #[.int .i64 x, .int .i64 b] 24)
      have hB4 := Blk.new w1 24 #[.int .i64 x, .int .i64 b]
      clear hb2
      have k5 := (hB4.cell 0).trans rfl
      have k6 := (hB4.cell 1).trans rfl
      have hv7 := hv.below hb3
      go_wp2_with fail
      refine (c2.out _ hv7).mono ?_
      clear k5 k6
      clear hv7
      rintro e w2 ⟨rfl, hc8⟩
      have hB9 := hB4.below hc8 hB4.lt
      clear hB4
      have hb10 := hb3.trans (hc8.mono hb3.size)
      clear hb3 hc8
      have hv11 := hv.below hb10
      go_wp2_with fail
      refine (c3.out _ hv11).mono ?_
      clear hv11
      rintro e w3 ⟨rfl, hc12⟩
      have hB13 := hB9.below hc12 hB9.lt
      clear hB9
      have hb14 := hb10.trans (hc12.mono hb10.size)
      clear hb10 hc12
      have hb15 := hb14.alloc hb14.size (.cells #[.int .i64 x, .int .i64 b] 24)
      have hB16 := hB13.alloc (.cells #[.int .i64 x, .int .i64 b] 24)
      clear hB13
      have hB17 := Blk.new w3 24 #[.int .i64 x, .int .i64 b]
      clear hb14
      have k18 := (hB16.cell 0).trans rfl
      have k19 := (hB16.cell 1).trans rfl
      go_wp2_with fail
      refine (c4.out _).mono ?_
      clear k18 k19
      rintro e w4 ⟨rfl, hc20⟩
      have hB21 := hB16.below hc20 hB16.lt
      clear hB16
      have hB22 := hB17.below hc20 hB17.lt
      clear hB17
      have hb23 := hb15.trans (hc20.mono hb15.size)
      clear hb15 hc20
      have k24 := (hB21.cell 0).trans rfl
      have k25 := (hB21.cell 1).trans rfl
      have k26 := (hB22.cell 0).trans rfl
      have k27 := (hB22.cell 1).trans rfl
      have hv28 := hv.below hb23
      go_wp2_with fail
      refine (works6_any _ hv28).mono ?_
      clear k24 k25 k26 k27
      clear hv28
      rintro e w5 ⟨rfl, hc29⟩
      have hB30 := hB21.below hc29 hB21.lt
      clear hB21
      have hB31 := hB22.below hc29 hB22.lt
      clear hB22
      have hb32 := hb23.trans (hc29.mono hb23.size)
      clear hb23 hc29
      go_wp2_with fail
      go_ret
      exact ⟨rfl, hb32⟩
    · simp only at h0 h1 h2
      subst h0 h1
      rcases h2 with rfl | rfl
      · skip
        go_enter Tryd.func6, Tryd.ntmps6
        go_wp2_with fail
        refine (c1.out _ hv).mono ?_
        rintro e w1 ⟨rfl, hc1⟩
        have hb2 := hc1
        have hb3 := hb2.alloc hb2.size (.cells #[.int .i64 0, .int .i64 0] 24)
        have hB4 := Blk.new w1 24 #[.int .i64 0, .int .i64 0]
        clear hb2
        have k5 := (hB4.cell 0).trans rfl
        have k6 := (hB4.cell 1).trans rfl
        have hv7 := hv.below hb3
        go_wp2_with fail
        refine (works6_any _ hv7).mono ?_
        clear k5 k6
        clear hv7
        rintro e w2 ⟨rfl, hc8⟩
        have hB9 := hB4.below hc8 hB4.lt
        clear hB4
        have hb10 := hb3.trans (hc8.mono hb3.size)
        clear hb3 hc8
        go_wp2_with fail
        go_ret
        exact ⟨rfl, hb10⟩
      · skip
        go_enter Tryd.func6, Tryd.ntmps6
        go_wp2_with fail
        refine (c1.out _ hv).mono ?_
        rintro e w1 ⟨rfl, hc1⟩
        have hb2 := hc1
        have hb3 := hb2.alloc hb2.size (.cells #[.int .i64 0, .int .i64 0] 24)
        have hB4 := Blk.new w1 24 #[.int .i64 0, .int .i64 0]
        clear hb2
        have k5 := (hB4.cell 0).trans rfl
        have k6 := (hB4.cell 1).trans rfl
        have hv7 := hv.below hb3
        go_wp2_with fail
        refine (works6_any _ hv7).mono ?_
        clear k5 k6
        clear hv7
        rintro e w2 ⟨rfl, hc8⟩
        have hB9 := hB4.below hc8 hB4.lt
        clear hB4
        have hb10 := hb3.trans (hc8.mono hb3.size)
        clear hb3 hc8
        go_wp2_with fail
        go_ret
        exact ⟨rfl, hb10⟩
end Go.Proofs.YtoabengifbokdaaDoor
