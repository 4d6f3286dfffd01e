/- The walks of the examples of chapter 6. -/
import Derived.Test.YtoabengifbokdaaDoorRef6
namespace Go.Proofs.YtoabengifbokdaaDoor
open Go.RowKit
set_option linter.unusedVariables false

set_option maxHeartbeats 1000000 in
theorem reads_true (s : ByteArray) (x b : Int) (w : World) (hs : s.size ≤ 1000000) (hp : P6.parse s = (x, b, 0)) (hv : Vars w) :
    Calls Tryd.prog 18 #[.string s, .int .i64 x, .int .i64 b] w fun e w' => e = .returned (.bool true) ∧ Below w.heap.size w w' := by
  have c1 : Hid (∀ W, Vars W → Calls Tryd.prog 10 #[.string s] W fun e w' => e = .returned (.tuple #[.agg #[.int .i64 x, .int .i64 b], .int .i64 0]) ∧ Below W.heap.size W w') := fun W h => by have q := cparse_any s W hs h; rw [hp] at q; exact q
  clear hp
  go_enter Tryd.func18, Tryd.ntmps18
  go_wp2_with fail
  refine (c1.out _ hv).mono ?_
  rintro e w1 ⟨rfl, hb1⟩
  go_wp2_with fail
  go_ret
  exact ⟨rfl, hb1.alloc hb1.size _⟩
set_option maxHeartbeats 1000000 in
theorem fails_true (s : ByteArray) (k : Int) (w : World) (hs : s.size ≤ 1000000) (hp : P6.parse s = (0, 0, k)) (hv : Vars w) :
    Calls Tryd.prog 19 #[.string s, .int .i64 k] w fun e w' => e = .returned (.bool true) ∧ Below w.heap.size w w' := by
  have c1 : Hid (∀ W, Vars W → Calls Tryd.prog 10 #[.string s] W fun e w' => e = .returned (.tuple #[.agg #[.int .i64 0, .int .i64 0], .int .i64 k]) ∧ Below W.heap.size W w') := fun W h => by have q := cparse_any s W hs h; rw [hp] at q; exact q
  clear hp
  go_enter Tryd.func19, Tryd.ntmps19
  go_wp2_with fail
  refine (c1.out _ hv).mono ?_
  rintro e w1 ⟨rfl, hb1⟩
  go_wp2_with fail
  go_ret
  exact ⟨rfl, hb1.alloc hb1.size _⟩
-- PRINTS
theorem str_ne {l : List UInt8} (h : 0 < l.length) : (str l).toList.isEmpty = false ∧ ¬ (str l).toList = [] := by
  have e : (str l).toList = l := by rw [ByteArray.toList_eq]; rfl
  rw [e]
  cases l with
  | nil => simp at h
  | cons a l => exact ⟨rfl, by simp⟩
set_option maxHeartbeats 1000000 in
theorem prints_yes (x b : Int) (l : List UInt8) (w : World) (hl : 0 < l.length) (hp : P6.print x b = (l, 0)) (hv : Vars w) :
    Calls Tryd.prog 20 #[.int .i64 x, .int .i64 b, .string (str l)] w fun e w' => e = .returned (.bool true) ∧ Below w.heap.size w w' := by
  have c1 : Hid (∀ W, Vars W → Calls Tryd.prog 12 #[.agg #[.int .i64 x, .int .i64 b]] W fun e w' => e = .returned (.tuple #[.string (str l), .int .i64 0]) ∧ Below W.heap.size W w') := fun W h => by have q := cprint_any x b W h; rw [hp] at q; exact q
  obtain ⟨n1, n2⟩ := str_ne hl
  generalize str l = S at n1 n2 c1 ⊢
  clear hp
  go_enter Tryd.func20, Tryd.ntmps20
  go_wp2_with fail
  refine (c1.out _ hv).mono ?_
  rintro e w1 ⟨rfl, hb1⟩
  go_wp2_with fail
  go_ret
  exact ⟨rfl, hb1⟩
set_option maxHeartbeats 1000000 in
theorem prints_no (x b : Int) (w : World) (hp : P6.print x b = ([], 2)) (hv : Vars w) :
    Calls Tryd.prog 20 #[.int .i64 x, .int .i64 b, .string ⟨#[]⟩] w fun e w' => e = .returned (.bool true) ∧ Below w.heap.size w w' := by
  have c1 : Hid (∀ W, Vars W → Calls Tryd.prog 12 #[.agg #[.int .i64 x, .int .i64 b]] W fun e w' => e = .returned (.tuple #[.string ⟨#[]⟩, .int .i64 2]) ∧ Below W.heap.size W w') := fun W h => by have q := cprint_any x b W h; rw [hp] at q; exact q
  clear hp
  go_enter Tryd.func20, Tryd.ntmps20
  go_wp2_with fail
  refine (c1.out _ hv).mono ?_
  rintro e w1 ⟨rfl, hb1⟩
  go_wp2_with fail
  go_ret
  exact ⟨rfl, hb1⟩

theorem ex_reads : P6.parse (str [50, 58, 48, 48]) = (7200, 0, 0) ∧ P6.parse (str [50, 58, 48, 48, 115]) = (7200, 1, 0) ∧ P6.parse (str [49, 58, 48, 48, 117]) = (3600, 2, 0) ∧ P6.parse (str [48, 122]) = (0, 2, 0) ∧ P6.parse (str [45, 49, 58, 51, 48, 119]) = (-5400, 0, 0) := by decide +kernel
theorem ex_fails : P6.parse (str []) = (0, 0, 5) ∧ P6.parse (str [115]) = (0, 0, 5) ∧ P6.parse (str [50, 58, 48, 48, 120]) = (0, 0, 5) ∧ P6.parse (str [50, 58, 48, 48, 115, 115]) = (0, 0, 5) ∧ P6.parse (str [48, 50, 58, 48, 48]) = (0, 0, 5) ∧ P6.parse (str [49, 54, 56, 58, 48, 48, 117]) = (0, 0, 3) := by decide +kernel
theorem ex_print0 : P6.print (7200) 1 = ([50, 58, 48, 48, 115], 0) := by
  rw [P6.print_ok (by omega) (by omega) (by omega) (by omega), P4.print, if_neg (by omega), if_neg (by omega)]
  show (P4.showN 7200 ++ P6.suf 1, (0 : Int)) = _
  rw [P4.showN, P4.dec_one _ (by decide)]; decide
theorem ex_print1 : P6.print (0) 2 = ([48, 58, 48, 48, 117], 0) := by
  rw [P6.print_ok (by omega) (by omega) (by omega) (by omega), P4.print, if_neg (by omega), if_neg (by omega)]
  show (P4.showN 0 ++ P6.suf 2, (0 : Int)) = _
  rw [P4.showN, P4.dec_one _ (by decide)]; decide
theorem ex_print2 : P6.print (-1) 0 = ([45, 48, 58, 48, 48, 58, 48, 49], 0) := by
  rw [P6.print_ok (by omega) (by omega) (by omega) (by omega), P4.print, if_neg (by omega), if_pos (by omega)]
  show (45 :: P4.showN 1 ++ P6.suf 0, (0 : Int)) = _
  rw [P4.showN, P4.dec_one _ (by decide)]; decide
theorem ex_no : P6.print 0 3 = ([], 2) ∧ P6.print 604800 0 = ([], 2) := ⟨P6.print_bad (by omega), P6.print_bad (by omega)⟩
set_option maxRecDepth 100000 in
set_option maxHeartbeats 4000000 in
theorem works6_any (w : World) (hv : Vars w) :
    Calls Tryd.prog 9 #[] w fun e w' => e = .returned (.bool true) ∧ Below w.heap.size w w' := by
  obtain ⟨r0, r1, r2, r3, r4⟩ := ex_reads
  obtain ⟨f0, f1, f2, f3, f4, f5⟩ := ex_fails
  have p0 := ex_print0
  have p1 := ex_print1
  have p2 := ex_print2
  obtain ⟨p3, p4⟩ := ex_no
  have H0 := Lib.hid r0
  clear r0
  have H1 := Lib.hid r1
  clear r1
  have H2 := Lib.hid r2
  clear r2
  have H3 := Lib.hid r3
  clear r3
  have H4 := Lib.hid r4
  clear r4
  have H5 := Lib.hid f0
  clear f0
  have H6 := Lib.hid f1
  clear f1
  have H7 := Lib.hid f2
  clear f2
  have H8 := Lib.hid f3
  clear f3
  have H9 := Lib.hid f4
  clear f4
  have H10 := Lib.hid f5
  clear f5
  have H11 := Lib.hid p0
  clear p0
  have H12 := Lib.hid p1
  clear p1
  have H13 := Lib.hid p2
  clear p2
  have H14 := Lib.hid p3
  clear p3
  have H15 := Lib.hid p4
  clear p4
  go_enter Tryd.func9, Tryd.ntmps9
  go_wp2_with fail
  refine (reads_true (str [50, 58, 48, 48]) (7200) 0 _ (by decide) H0.out hv).mono ?_
  rintro e w1 ⟨rfl, hc1⟩
  have hb1 := hc1
  have hv1 := hv.below hb1
  skip
  go_wp2_with fail
  refine (reads_true (str [50, 58, 48, 48, 115]) (7200) 1 _ (by decide) H1.out hv1).mono ?_
  rintro e w2 ⟨rfl, hc2⟩
  have hb2 := hb1.trans (hc2.mono hb1.size)
  have hv2 := hv.below hb2
  clear hc2
  clear hv1
  go_wp2_with fail
  refine (reads_true (str [49, 58, 48, 48, 117]) (3600) 2 _ (by decide) H2.out hv2).mono ?_
  rintro e w3 ⟨rfl, hc3⟩
  have hb3 := hb2.trans (hc3.mono hb2.size)
  have hv3 := hv.below hb3
  clear hc3
  clear hv2
  go_wp2_with fail
  refine (reads_true (str [48, 122]) (0) 2 _ (by decide) H3.out hv3).mono ?_
  rintro e w4 ⟨rfl, hc4⟩
  have hb4 := hb3.trans (hc4.mono hb3.size)
  have hv4 := hv.below hb4
  clear hc4
  clear hv3
  go_wp2_with fail
  refine (reads_true (str [45, 49, 58, 51, 48, 119]) (-5400) 0 _ (by decide) H4.out hv4).mono ?_
  rintro e w5 ⟨rfl, hc5⟩
  have hb5 := hb4.trans (hc5.mono hb4.size)
  have hv5 := hv.below hb5
  clear hc5
  clear hv4
  go_wp2_with fail
  refine (fails_true (str []) 5 _ (by decide) H5.out hv5).mono ?_
  rintro e w6 ⟨rfl, hc6⟩
  have hb6 := hb5.trans (hc6.mono hb5.size)
  have hv6 := hv.below hb6
  clear hc6
  clear hv5
  go_wp2_with fail
  refine (fails_true (str [115]) 5 _ (by decide) H6.out hv6).mono ?_
  rintro e w7 ⟨rfl, hc7⟩
  have hb7 := hb6.trans (hc7.mono hb6.size)
  have hv7 := hv.below hb7
  clear hc7
  clear hv6
  go_wp2_with fail
  refine (fails_true (str [50, 58, 48, 48, 120]) 5 _ (by decide) H7.out hv7).mono ?_
  rintro e w8 ⟨rfl, hc8⟩
  have hb8 := hb7.trans (hc8.mono hb7.size)
  have hv8 := hv.below hb8
  clear hc8
  clear hv7
  go_wp2_with fail
  refine (fails_true (str [50, 58, 48, 48, 115, 115]) 5 _ (by decide) H8.out hv8).mono ?_
  rintro e w9 ⟨rfl, hc9⟩
  have hb9 := hb8.trans (hc9.mono hb8.size)
  have hv9 := hv.below hb9
  clear hc9
  clear hv8
  go_wp2_with fail
  refine (fails_true (str [48, 50, 58, 48, 48]) 5 _ (by decide) H9.out hv9).mono ?_
  rintro e w10 ⟨rfl, hc10⟩
  have hb10 := hb9.trans (hc10.mono hb9.size)
  have hv10 := hv.below hb10
  clear hc10
  clear hv9
  go_wp2_with fail
  refine (fails_true (str [49, 54, 56, 58, 48, 48, 117]) 3 _ (by decide) H10.out hv10).mono ?_
  rintro e w11 ⟨rfl, hc11⟩
  have hb11 := hb10.trans (hc11.mono hb10.size)
  have hv11 := hv.below hb11
  clear hc11
  clear hv10
  go_wp2_with fail
  refine (prints_yes (7200) 1 [50, 58, 48, 48, 115] _ (by decide) H11.out hv11).mono ?_
  rintro e w12 ⟨rfl, hc12⟩
  have hb12 := hb11.trans (hc12.mono hb11.size)
  have hv12 := hv.below hb12
  clear hc12
  clear hv11
  go_wp2_with fail
  refine (prints_yes (0) 2 [48, 58, 48, 48, 117] _ (by decide) H12.out hv12).mono ?_
  rintro e w13 ⟨rfl, hc13⟩
  have hb13 := hb12.trans (hc13.mono hb12.size)
  have hv13 := hv.below hb13
  clear hc13
  clear hv12
  go_wp2_with fail
  refine (prints_yes (-1) 0 [45, 48, 58, 48, 48, 58, 48, 49] _ (by decide) H13.out hv13).mono ?_
  rintro e w14 ⟨rfl, hc14⟩
  have hb14 := hb13.trans (hc14.mono hb13.size)
  have hv14 := hv.below hb14
  clear hc14
  clear hv13
  go_wp2_with fail
  refine (prints_no (0) 3 _ H14.out hv14).mono ?_
  rintro e w15 ⟨rfl, hc15⟩
  have hb15 := hb14.trans (hc15.mono hb14.size)
  have hv15 := hv.below hb15
  clear hc15
  clear hv14
  go_wp2_with fail
  refine (prints_no (604800) 0 _ H15.out hv15).mono ?_
  rintro e w16 ⟨rfl, hc16⟩
  have hb16 := hb15.trans (hc16.mono hb15.size)
  have hv16 := hv.below hb16
  clear hc16
  clear hv15
  go_wp2_with fail
  go_ret
  exact ⟨rfl, hb16⟩
end Go.Proofs.YtoabengifbokdaaDoor
