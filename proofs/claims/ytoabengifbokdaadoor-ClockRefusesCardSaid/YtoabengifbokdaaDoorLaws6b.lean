/- The walks of the laws ClockBack and ClockRefuses (chapter 6). -/
import Derived.Test.YtoabengifbokdaaDoorWorks6
import Derived.OpenShut
namespace Go.Proofs.YtoabengifbokdaaDoor
open Go.RowKit
set_option linter.unusedVariables false

theorem tmod_bd (m : Int) (h0 : -2147483648 ≤ m) (h1 : m ≤ 2147483647) : -604799 ≤ m.tmod 604800 ∧ m.tmod 604800 ≤ 604799 := by
  rcases Int.le_total 0 m with h | h
  · rw [Int.tmod_eq_emod_of_nonneg h]; omega
  · obtain ⟨k, rfl⟩ : ∃ k, m = -k := ⟨-m, by omega⟩
    rw [Int.neg_tmod, Int.tmod_eq_emod_of_nonneg (by omega)]; omega
set_option maxHeartbeats 1000000 in
theorem made_any (m a X A : Int) (w : World) (h0 : -2147483648 ≤ m) (h1 : m ≤ 2147483647) (h2 : 0 ≤ a) (h3 : a ≤ 255) (hX : m.tmod 604800 = X) (hA : a % 3 = A) :
    Calls Tryd.prog 16 #[.int .i32 m, .int .u8 a] w fun e w' => e = .returned (.agg #[.int .i64 X, .int .i64 A]) ∧ Below w.heap.size w w' := by
  go_enter Tryd.func16, Tryd.ntmps16
  go_wp2_with fail
  refine bodyPost_ret (v := .agg #[.int .i64 X, .int .i64 A]) (by simp [results, Tryd.results16, go_sem]) rfl ⟨rfl, ?_⟩
  exact (Below.refl _ _).alloc (Nat.le_refl _) _

-- BACK
theorem eq_b (a b : ByteArray) (h : ¬ a = b) : (a.toList == b.toList) = false := by
  rw [beq_eq_false_iff_ne]
  intro q
  rw [ByteArray.toList_eq, ByteArray.toList_eq] at q
  exact h (ByteArray.ext (Array.toList_inj.mp q))
set_option maxRecDepth 100000 in
set_option maxHeartbeats 4000000 in
theorem walkClockBack (m n a b : Int) (w : World) (hm : (Lit.int .i32 m).wf = true) (hn : (Lit.int .i32 n).wf = true) (ha : (Lit.int .u8 a).wf = true) (hb : (Lit.int .u8 b).wf = true) (hv : Vars w) :
    Calls Tryd.prog 5 #[.int .i32 m, .int .i32 n, .int .u8 a, .int .u8 b] w fun e w' => e = .returned (.bool true) ∧ Below w.heap.size w w' := by
  have hm2 := bounds_i32 hm
  have hn2 := bounds_i32 hn
  have ha2 := bounds_u8 ha
  have hb2 := bounds_u8 hb
  clear hm hn ha hb
  obtain ⟨X, hX⟩ : ∃ X, m.tmod 604800 = X := ⟨_, rfl⟩
  obtain ⟨Y, hY⟩ : ∃ Y, n.tmod 604800 = Y := ⟨_, rfl⟩
  obtain ⟨A, hA⟩ : ∃ A, a % 3 = A := ⟨_, rfl⟩
  obtain ⟨B, hB⟩ : ∃ B, b % 3 = B := ⟨_, rfl⟩
  have x0 := tmod_bd m hm2.1 hm2.2
  have y0 := tmod_bd n hn2.1 hn2.2
  rw [hX] at x0
  rw [hY] at y0
  have A0 : 0 ≤ A := by omega
  have A2 : A ≤ 2 := by omega
  have B0 : 0 ≤ B := by omega
  have B2 : B ≤ 2 := by omega
  have d1 : Hid (∀ W, Calls Tryd.prog 16 #[.int .i32 m, .int .u8 a] W fun e w' => e = .returned (.agg #[.int .i64 X, .int .i64 A]) ∧ Below W.heap.size W w') := fun W => made_any m a X A W hm2.1 hm2.2 ha2.1 ha2.2 hX hA
  have d2 : Hid (∀ W, Calls Tryd.prog 16 #[.int .i32 n, .int .u8 b] W fun e w' => e = .returned (.agg #[.int .i64 Y, .int .i64 B]) ∧ Below W.heap.size W w') := fun W => made_any n b Y B W hn2.1 hn2.2 hb2.1 hb2.2 hY hB
  have c1 : Hid (∀ W, Vars W → Calls Tryd.prog 12 #[.agg #[.int .i64 X, .int .i64 A]] W fun e w' => e = .returned (.tuple #[.string (str ((P4.print X).1 ++ P6.suf A)), .int .i64 0]) ∧ Below W.heap.size W w') := fun W h => cprint_good X A W x0.1 x0.2 A0 A2 h
  have c2 : Hid (∀ W, Vars W → Calls Tryd.prog 12 #[.agg #[.int .i64 Y, .int .i64 B]] W fun e w' => e = .returned (.tuple #[.string (str ((P4.print Y).1 ++ P6.suf B)), .int .i64 0]) ∧ Below W.heap.size W w') := fun W h => cprint_good Y B W y0.1 y0.2 B0 B2 h
  have l1 := P6.print_len X x0.1 x0.2
  have l2 := P6.suf_len A
  have c3 : Hid (∀ W, Vars W → Calls Tryd.prog 10 #[.string (str ((P4.print X).1 ++ P6.suf A))] W fun e w' => e = .returned (.tuple #[.agg #[.int .i64 X, .int .i64 A], .int .i64 0]) ∧ Below W.heap.size W w') := fun W h => by
    have q := cparse_any (str ((P4.print X).1 ++ P6.suf A)) W (by rw [str_size, List.length_append]; omega) h; rw [P6.parse_print x0.1 x0.2 A0 A2] at q; exact q
  have c4 : Hid (∀ W, Calls Tryd.prog 14 #[.agg #[.int .i64 X, .int .i64 A]] W fun e w' => e = .returned (.int .i64 0) ∧ Below W.heap.size W w') := fun W => by have q := ccheck_any X A W; rw [P6.check_ok x0.1 x0.2 A0 A2] at q; exact q
  have inj := fun h => P6.print_inj x0.1 x0.2 A0 A2 y0.1 y0.2 B0 B2 h
  obtain ⟨n1, n2⟩ := str_ne (l := (P4.print X).1 ++ P6.suf A) (by rw [List.length_append]; omega)
  clear hX hY hA hB l1 l2 hm2 hn2 ha2 hb2
  by_cases hxy : X = Y
  · subst hxy
    by_cases hab : A = B
    · subst hab
      clear inj x0 y0 A0 A2 B0 B2
      generalize str ((P4.print X).1 ++ P6.suf A) = S at n1 n2 c1 c2 c3
      go_enter Tryd.func5, Tryd.ntmps5
      go_wp2_with fail
      refine (d1.out _).mono ?_
      rintro e w1 ⟨rfl, hc1⟩
      have hb2 := hc1
      go_wp2_with fail
      refine (d2.out _).mono ?_
      rintro e w2 ⟨rfl, hc3⟩
      have hb4 := hb2.trans (hc3.mono hb2.size)
      clear hb2 hc3
      have hb5 := hb4.alloc hb4.size (.cells #[.int .i64 X, .int .i64 A] 24)
      have hB6 := Blk.new w2 24 #[.int .i64 X, .int .i64 A]
      clear hb4
      have hb7 := hb5.alloc hb5.size (.cells #[.int .i64 X, .int .i64 A] 24)
      have hB8 := hB6.alloc (.cells #[.int .i64 X, .int .i64 A] 24)
      clear hB6
      have hB9 := Blk.newAt (w2.alloc (.cells #[.int .i64 X, .int .i64 A] 24)) (w2.heap.size + 1) (by simp) 24 #[.int .i64 X, .int .i64 A]
      clear hb5
      have k10 := (hB8.cell 0).trans rfl
      have k11 := (hB8.cell 1).trans rfl
      have hv12 := hv.below hb7
      go_wp2_with fail
      refine (c1.out _ hv12).mono ?_
      clear k10 k11
      clear hv12
      rintro e w3 ⟨rfl, hc13⟩
      have hB14 := hB8.below hc13 hB8.lt
      clear hB8
      have hB15 := hB9.below hc13 hB9.lt
      clear hB9
      have hb16 := hb7.trans (hc13.mono hb7.size)
      clear hb7 hc13
      have k17 := (hB15.cell 0).trans rfl
      have k18 := (hB15.cell 1).trans rfl
      have hv19 := hv.below hb16
      go_wp2_with fail
      refine (c2.out _ hv19).mono ?_
      clear k17 k18
      clear hv19
      rintro e w4 ⟨rfl, hc20⟩
      have hB21 := hB14.below hc20 hB14.lt
      clear hB14
      have hB22 := hB15.below hc20 hB15.lt
      clear hB15
      have hb23 := hb16.trans (hc20.mono hb16.size)
      clear hb16 hc20
      have hv24 := hv.below hb23
      go_wp2_with fail
      refine (c3.out _ hv24).mono ?_
      clear hv24
      rintro e w5 ⟨rfl, hc25⟩
      have hB26 := hB21.below hc25 hB21.lt
      clear hB21
      have hB27 := hB22.below hc25 hB22.lt
      clear hB22
      have hb28 := hb23.trans (hc25.mono hb23.size)
      clear hb23 hc25
      have hb29 := hb28.alloc hb28.size (.cells #[.int .i64 X, .int .i64 A] 24)
      have hB30 := hB26.alloc (.cells #[.int .i64 X, .int .i64 A] 24)
      clear hB26
      have hB31 := hB27.alloc (.cells #[.int .i64 X, .int .i64 A] 24)
      clear hB27
      have hB32 := Blk.new w5 24 #[.int .i64 X, .int .i64 A]
      clear hb28
      have k33 := (hB30.cell 0).trans rfl
      have k34 := (hB30.cell 1).trans rfl
      go_wp2_with fail
      refine (c4.out _).mono ?_
      clear k33 k34
      rintro e w6 ⟨rfl, hc35⟩
      have hB36 := hB30.below hc35 hB30.lt
      clear hB30
      have hB37 := hB31.below hc35 hB31.lt
      clear hB31
      have hB38 := hB32.below hc35 hB32.lt
      clear hB32
      have hb39 := hb29.trans (hc35.mono hb29.size)
      clear hb29 hc35
      have k40 := (hB36.cell 0).trans rfl
      have k41 := (hB36.cell 1).trans rfl
      have k42 := (hB37.cell 0).trans rfl
      have k43 := (hB37.cell 1).trans rfl
      have k44 := (hB38.cell 0).trans rfl
      have k45 := (hB38.cell 1).trans rfl
      have hv46 := hv.below hb39
      go_wp2_with fail
      refine (works6_any _ hv46).mono ?_
      clear k40 k41 k42 k43 k44 k45
      clear hv46
      rintro e w7 ⟨rfl, hc47⟩
      have hB48 := hB36.below hc47 hB36.lt
      clear hB36
      have hB49 := hB37.below hc47 hB37.lt
      clear hB37
      have hB50 := hB38.below hc47 hB38.lt
      clear hB38
      have hb51 := hb39.trans (hc47.mono hb39.size)
      clear hb39 hc47
      go_wp2_with fail
      go_ret
      exact ⟨rfl, hb51⟩
    · have hne : ¬ str ((P4.print X).1 ++ P6.suf A) = str ((P4.print X).1 ++ P6.suf B) := fun h => hab (inj h).2
      have qf : (A == B) = false := by rw [beq_eq_false_iff_ne]; exact hab
      clear inj x0 y0 A0 A2 B0 B2
      generalize str ((P4.print X).1 ++ P6.suf A) = S at n1 n2 c1 c3 hne
      generalize str ((P4.print X).1 ++ P6.suf B) = T at c2 hne
      have qs := eq_b S T hne
      clear hne
      clear hab
      go_enter Tryd.func5, Tryd.ntmps5
      go_wp2_with fail
      refine (d1.out _).mono ?_
      rintro e w1 ⟨rfl, hc1⟩
      have hb2 := hc1
      go_wp2_with fail
      refine (d2.out _).mono ?_
      rintro e w2 ⟨rfl, hc3⟩
      have hb4 := hb2.trans (hc3.mono hb2.size)
      clear hb2 hc3
      have hb5 := hb4.alloc hb4.size (.cells #[.int .i64 X, .int .i64 A] 24)
      have hB6 := Blk.new w2 24 #[.int .i64 X, .int .i64 A]
      clear hb4
      have hb7 := hb5.alloc hb5.size (.cells #[.int .i64 X, .int .i64 B] 24)
      have hB8 := hB6.alloc (.cells #[.int .i64 X, .int .i64 B] 24)
      clear hB6
      have hB9 := Blk.newAt (w2.alloc (.cells #[.int .i64 X, .int .i64 A] 24)) (w2.heap.size + 1) (by simp) 24 #[.int .i64 X, .int .i64 B]
      clear hb5
      have k10 := (hB8.cell 0).trans rfl
      have k11 := (hB8.cell 1).trans rfl
      have hv12 := hv.below hb7
      go_wp2_with fail
      refine (c1.out _ hv12).mono ?_
      clear k10 k11
      clear hv12
      rintro e w3 ⟨rfl, hc13⟩
      have hB14 := hB8.below hc13 hB8.lt
      clear hB8
      have hB15 := hB9.below hc13 hB9.lt
      clear hB9
      have hb16 := hb7.trans (hc13.mono hb7.size)
      clear hb7 hc13
      have k17 := (hB15.cell 0).trans rfl
      have k18 := (hB15.cell 1).trans rfl
      have hv19 := hv.below hb16
      go_wp2_with fail
      refine (c2.out _ hv19).mono ?_
      clear k17 k18
      clear hv19
      rintro e w4 ⟨rfl, hc20⟩
      have hB21 := hB14.below hc20 hB14.lt
      clear hB14
      have hB22 := hB15.below hc20 hB15.lt
      clear hB15
      have hb23 := hb16.trans (hc20.mono hb16.size)
      clear hb16 hc20
      have hv24 := hv.below hb23
      go_wp2_with fail
      refine (c3.out _ hv24).mono ?_
      clear hv24
      rintro e w5 ⟨rfl, hc25⟩
      have hB26 := hB21.below hc25 hB21.lt
      clear hB21
      have hB27 := hB22.below hc25 hB22.lt
      clear hB22
      have hb28 := hb23.trans (hc25.mono hb23.size)
      clear hb23 hc25
      have hb29 := hb28.alloc hb28.size (.cells #[.int .i64 X, .int .i64 A] 24)
      have hB30 := hB26.alloc (.cells #[.int .i64 X, .int .i64 A] 24)
      clear hB26
      have hB31 := hB27.alloc (.cells #[.int .i64 X, .int .i64 A] 24)
      clear hB27
      have hB32 := Blk.new w5 24 #[.int .i64 X, .int .i64 A]
      clear hb28
      have k33 := (hB30.cell 0).trans rfl
      have k34 := (hB30.cell 1).trans rfl
      go_wp2_with fail
      refine (c4.out _).mono ?_
      clear k33 k34
      rintro e w6 ⟨rfl, hc35⟩
      have hB36 := hB30.below hc35 hB30.lt
      clear hB30
      have hB37 := hB31.below hc35 hB31.lt
      clear hB31
      have hB38 := hB32.below hc35 hB32.lt
      clear hB32
      have hb39 := hb29.trans (hc35.mono hb29.size)
      clear hb29 hc35
      have k40 := (hB36.cell 0).trans rfl
      have k41 := (hB36.cell 1).trans rfl
      have k42 := (hB37.cell 0).trans rfl
      have k43 := (hB37.cell 1).trans rfl
      have k44 := (hB38.cell 0).trans rfl
      have k45 := (hB38.cell 1).trans rfl
      have hv46 := hv.below hb39
      go_wp2_with fail
      refine (works6_any _ hv46).mono ?_
      clear k40 k41 k42 k43 k44 k45
      clear hv46
      rintro e w7 ⟨rfl, hc47⟩
      have hB48 := hB36.below hc47 hB36.lt
      clear hB36
      have hB49 := hB37.below hc47 hB37.lt
      clear hB37
      have hB50 := hB38.below hc47 hB38.lt
      clear hB38
      have hb51 := hb39.trans (hc47.mono hb39.size)
      clear hb39 hc47
      go_wp2_with fail
      go_ret
      exact ⟨rfl, hb51⟩
  · have hne : ¬ str ((P4.print X).1 ++ P6.suf A) = str ((P4.print Y).1 ++ P6.suf B) := fun h => hxy (inj h).1
    have qf : (X == Y) = false := by rw [beq_eq_false_iff_ne]; exact hxy
    clear inj x0 y0 A0 A2 B0 B2
    generalize str ((P4.print X).1 ++ P6.suf A) = S at n1 n2 c1 c3 hne
    generalize str ((P4.print Y).1 ++ P6.suf B) = T at c2 hne
    have qs := eq_b S T hne
    clear hne
    clear hxy
    go_enter Tryd.func5, Tryd.ntmps5
    go_wp2_with fail
    refine (d1.out _).mono ?_
    rintro e w1 ⟨rfl, hc1⟩
    have hb2 := hc1
    go_wp2_with fail
    refine (d2.out _).mono ?_
    rintro e w2 ⟨rfl, hc3⟩
    have hb4 := hb2.trans (hc3.mono hb2.size)
    clear hb2 hc3
    have hb5 := hb4.alloc hb4.size (.cells #[.int .i64 X, .int .i64 A] 24)
    have hB6 := Blk.new w2 24 #[.int .i64 X, .int .i64 A]
    clear hb4
    have hb7 := hb5.alloc hb5.size (.cells #[.int .i64 Y, .int .i64 B] 24)
    have hB8 := hB6.alloc (.cells #[.int .i64 Y, .int .i64 B] 24)
    clear hB6
    have hB9 := Blk.newAt (w2.alloc (.cells #[.int .i64 X, .int .i64 A] 24)) (w2.heap.size + 1) (by simp) 24 #[.int .i64 Y, .int .i64 B]
    clear hb5
    have k10 := (hB8.cell 0).trans rfl
    have k11 := (hB8.cell 1).trans rfl
    have hv12 := hv.below hb7
    go_wp2_with fail
    refine (c1.out _ hv12).mono ?_
    clear k10 k11
    clear hv12
    rintro e w3 ⟨rfl, hc13⟩
    have hB14 := hB8.below hc13 hB8.lt
    clear hB8
    have hB15 := hB9.below hc13 hB9.lt
    clear hB9
    have hb16 := hb7.trans (hc13.mono hb7.size)
    clear hb7 hc13
    have k17 := (hB15.cell 0).trans rfl
    have k18 := (hB15.cell 1).trans rfl
    have hv19 := hv.below hb16
    go_wp2_with fail
    refine (c2.out _ hv19).mono ?_
    clear k17 k18
    clear hv19
    rintro e w4 ⟨rfl, hc20⟩
    have hB21 := hB14.below hc20 hB14.lt
    clear hB14
    have hB22 := hB15.below hc20 hB15.lt
    clear hB15
    have hb23 := hb16.trans (hc20.mono hb16.size)
    clear hb16 hc20
    have hv24 := hv.below hb23
    go_wp2_with fail
    refine (c3.out _ hv24).mono ?_
    clear hv24
    rintro e w5 ⟨rfl, hc25⟩
    have hB26 := hB21.below hc25 hB21.lt
    clear hB21
    have hB27 := hB22.below hc25 hB22.lt
    clear hB22
    have hb28 := hb23.trans (hc25.mono hb23.size)
    clear hb23 hc25
    have hb29 := hb28.alloc hb28.size (.cells #[.int .i64 X, .int .i64 A] 24)
    have hB30 := hB26.alloc (.cells #[.int .i64 X, .int .i64 A] 24)
    clear hB26
    have hB31 := hB27.alloc (.cells #[.int .i64 X, .int .i64 A] 24)
    clear hB27
    have hB32 := Blk.new w5 24 #[.int .i64 X, .int .i64 A]
    clear hb28
    have k33 := (hB30.cell 0).trans rfl
    have k34 := (hB30.cell 1).trans rfl
    go_wp2_with fail
    refine (c4.out _).mono ?_
    clear k33 k34
    rintro e w6 ⟨rfl, hc35⟩
    have hB36 := hB30.below hc35 hB30.lt
    clear hB30
    have hB37 := hB31.below hc35 hB31.lt
    clear hB31
    have hB38 := hB32.below hc35 hB32.lt
    clear hB32
    have hb39 := hb29.trans (hc35.mono hb29.size)
    clear hb29 hc35
    have k40 := (hB36.cell 0).trans rfl
    have k41 := (hB36.cell 1).trans rfl
    have k42 := (hB37.cell 0).trans rfl
    have k43 := (hB37.cell 1).trans rfl
    have k44 := (hB38.cell 0).trans rfl
    have k45 := (hB38.cell 1).trans rfl
    have hv46 := hv.below hb39
    go_wp2_with fail
    refine (works6_any _ hv46).mono ?_
    clear k40 k41 k42 k43 k44 k45
    clear hv46
    rintro e w7 ⟨rfl, hc47⟩
    have hB48 := hB36.below hc47 hB36.lt
    clear hB36
    have hB49 := hB37.below hc47 hB37.lt
    clear hB37
    have hB50 := hB38.below hc47 hB38.lt
    clear hB38
    have hb51 := hb39.trans (hc47.mono hb39.size)
    clear hb39 hc47
    go_wp2_with fail
    go_ret
    exact ⟨rfl, hb51⟩

def arrC (X A F : Int) : Array Value := #[.int .i64 (604800 + F), .int .i64 A, .int .i64 (-604800 - F), .int .i64 A, .int .i64 X, .int .i64 (3 + F), .int .i64 X, .int .i64 (-1 - F)]
theorem arrC_at (X A F : Int) (hF : 0 ≤ F) : ∀ k, k < 4 → ∃ x b : Int, (arrC X A F)[k * 2]? = some (.int .i64 x) ∧ (arrC X A F)[k * 2 + 1]? = some (.int .i64 b) ∧ (x < -604799 ∨ 604799 < x ∨ b < 0 ∨ 2 < b) := by
  intro k hk
  match k, hk with
  | 0, _ => exact ⟨_, _, rfl, rfl, by omega⟩
  | 1, _ => exact ⟨_, _, rfl, rfl, by omega⟩
  | 2, _ => exact ⟨_, _, rfl, rfl, by omega⟩
  | 3, _ => exact ⟨_, _, rfl, rfl, by omega⟩
set_option maxRecDepth 100000 in
set_option maxHeartbeats 4000000 in
theorem walkClockRefuses (m a f : Int) (w : World) (hm : (Lit.int .i32 m).wf = true) (ha : (Lit.int .u8 a).wf = true) (hf : (Lit.int .u32 f).wf = true) (hv : Vars w) :
    Calls Tryd.prog 8 #[.int .i32 m, .int .u8 a, .int .u32 f] w fun e w' => e = .returned (.bool true) ∧ Below w.heap.size w w' := by
  have hm2 := bounds_i32 hm
  have ha2 := bounds_u8 ha
  have hf2 := bounds_u32 hf
  clear hm ha hf
  obtain ⟨X, hX⟩ : ∃ X, m.tmod 604800 = X := ⟨_, rfl⟩
  obtain ⟨A, hA⟩ : ∃ A, a % 3 = A := ⟨_, rfl⟩
  have x0 := tmod_bd m hm2.1 hm2.2
  rw [hX] at x0
  have A0 : 0 ≤ A := by omega
  have A2 : A ≤ 2 := by omega
  have d1 : Hid (∀ W, Calls Tryd.prog 16 #[.int .i32 m, .int .u8 a] W fun e w' => e = .returned (.agg #[.int .i64 X, .int .i64 A]) ∧ Below W.heap.size W w') := fun W => made_any m a X A W hm2.1 hm2.2 ha2.1 ha2.2 hX hA
  have c4 : Hid (∀ W, Calls Tryd.prog 14 #[.agg #[.int .i64 X, .int .i64 A]] W fun e w' => e = .returned (.int .i64 0) ∧ Below W.heap.size W w') := fun W => by have q := ccheck_any X A W; rw [P6.check_ok x0.1 x0.2 A0 A2] at q; exact q
  have hC := Lib.hid (arrC_at X A f hf2.1)
  clear hX hA
  obtain ⟨hf0, hf1⟩ := hf2
  obtain ⟨hx0, hx1⟩ := x0
  clear hm2 ha2
  go_enter Tryd.func8, Tryd.ntmps8
  go_wp2_with fail
  refine (d1.out _).mono ?_
  rintro e w1 ⟨rfl, hc1⟩
  have hb2 := hc1
  have hb3 := hb2.alloc hb2.size (.cells #[.int .i64 X, .int .i64 A] 24)
  have hB4 := Blk.new w1 24 #[.int .i64 X, .int .i64 A]
  clear hb2
  have hT := Blk.newAt (w1.alloc (.cells #[.int .i64 X, .int .i64 A] 24)) (w1.heap.size + 1) (by simp) 24 (arrC X A f)
  have hG := hB4.alloc (.cells (arrC X A f) 24)
  have hb := hb3.alloc hb3.size (.cells (arrC X A f) 24)
  clear hB4 hb3
  go_wp2_with fail
  go_loopw [42] (fun i w2 => ∃ k : Nat, k ≤ 4 ∧ i = .int .i64 k ∧ Blk w2 (w1.heap.size + 1) 24 (arrC X A f) ∧ Blk w2 w1.heap.size 24 #[.int .i64 X, .int .i64 A] ∧ Below w.heap.size w w2) (fun i _ => 4 - (intOf i).toNat)
  case atStart => exact ⟨0, by omega, rfl, hT, hG, hb⟩
  case round =>
    clear hT hG hb
    obtain ⟨k, hk, rfl, hT, hG, hb⟩ := hrel
    by_cases hlt : k < 4
    · obtain ⟨x, b, a0, a1, hbad⟩ := hC.out k hlt
      have e0 : wr.cell? ⟨w1.heap.size + 1, k * 2, none⟩ = some (.int .i64 x) := (hT.cell _).trans a0
      have e1 : wr.cell? ⟨w1.heap.size + 1, k * 2 + 1, none⟩ = some (.int .i64 b) := (hT.cell _).trans a1
      have cP : Hid (∀ W, Vars W → Calls Tryd.prog 12 #[.agg #[.int .i64 x, .int .i64 b]] W fun e w' => e = .returned (.tuple #[.string ⟨#[]⟩, .int .i64 2]) ∧ Below W.heap.size W w') := fun W h => by have q := cprint_any x b W h; rw [P6.print_bad hbad] at q; exact q
      have cC : Hid (∀ W, Calls Tryd.prog 14 #[.agg #[.int .i64 x, .int .i64 b]] W fun e w' => e = .returned (.int .i64 2) ∧ Below W.heap.size W w') := fun W => by have q := ccheck_any x b W; rw [P6.check_bad hbad] at q; exact q
      have hki : (k : Int) < 4 := by omega
      clear hbad a0 a1
      have hbr1 := hb.alloc hb.size (.cells #[.int .i64 x, .int .i64 b] 24)
      have hBr2 := hT.alloc (.cells #[.int .i64 x, .int .i64 b] 24)
      clear hT
      have hBr3 := hG.alloc (.cells #[.int .i64 x, .int .i64 b] 24)
      clear hG
      have hBr4 := Blk.new wr 24 #[.int .i64 x, .int .i64 b]
      clear hb
      have hvr5 := hv.below hbr1
      go_wp2_with fail
      refine (cP.out _ hvr5).mono ?_
      clear hvr5
      rintro e wr1 ⟨rfl, hcr6⟩
      have hBr7 := hBr2.below hcr6 hBr2.lt
      clear hBr2
      have hBr8 := hBr3.below hcr6 hBr3.lt
      clear hBr3
      have hBr9 := hBr4.below hcr6 hBr4.lt
      clear hBr4
      have hbr10 := hbr1.trans (hcr6.mono hbr1.size)
      clear hbr1 hcr6
      have kr11 := (hBr9.cell 0).trans rfl
      have kr12 := (hBr9.cell 1).trans rfl
      go_wp2_with fail
      refine (cC.out _).mono ?_
      clear kr11 kr12
      rintro e wr2 ⟨rfl, hcr13⟩
      have hBr14 := hBr7.below hcr13 hBr7.lt
      clear hBr7
      have hBr15 := hBr8.below hcr13 hBr8.lt
      clear hBr8
      have hBr16 := hBr9.below hcr13 hBr9.lt
      clear hBr9
      have hbr17 := hbr10.trans (hcr13.mono hbr10.size)
      clear hbr10 hcr13
      go_wp2_with fail
      go_roundw
      case rel => exact ⟨k + 1, by omega, by go_num, hBr14, hBr15, hbr17⟩
      case measure => simp [intOf]; omega
    · obtain rfl : k = 4 := by omega
      have ks1 := (hG.cell 0).trans rfl
      have ks2 := (hG.cell 1).trans rfl
      go_wp2_with fail
      refine (c4.out _).mono ?_
      clear ks1 ks2
      rintro e ws1 ⟨rfl, hcs3⟩
      have hBs4 := hT.below hcs3 hT.lt
      clear hT
      have hBs5 := hG.below hcs3 hG.lt
      clear hG
      have hbs6 := hb.trans (hcs3.mono hb.size)
      clear hb hcs3
      have hvs7 := hv.below hbs6
      go_wp2_with fail
      refine (works6_any _ hvs7).mono ?_
      clear hvs7
      rintro e ws2 ⟨rfl, hcs8⟩
      have hBs9 := hBs4.below hcs8 hBs4.lt
      clear hBs4
      have hBs10 := hBs5.below hcs8 hBs5.lt
      clear hBs5
      have hbs11 := hbs6.trans (hcs8.mono hbs6.size)
      clear hbs6 hcs8
      go_wp2_with fail
      go_ret
      exact ⟨rfl, hbs11⟩
end Go.Proofs.YtoabengifbokdaaDoor
