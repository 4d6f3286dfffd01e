/- Texts of one proof, one behind the other: Era23n. -/
import Derived.Test.YtlideagcmhlkeaaDoorRF7
import Derived.BigRegion
import Derived.IntWalk
import Derived.Deep.DeepCutAuto

/- Eras of layer 23 without an end. -/
namespace Go.Proofs.YtlideagcmhlkeaaDoor
open Go.RowKit Go.Lib
set_option linter.unusedVariables false
set_option linter.unusedSimpArgs false

set_option maxRecDepth 100000 in
set_option maxHeartbeats 16000000 in
theorem era23_n0 (d : E23) (first : Bool) (N : Nat) (year : Int) (en : Bool) (w : World) (hKK : d.kind.tmod 3 = 0) (hen : en = false) (hd : d.ok) (hN : 1 ≤ N ∧ N ≤ 3) (hv : VarsP w) :
    Calls Tryd.prog 46 #[.agg #[.int .u8 d.kind, .int .u8 d.set, .int .u8 d.fmt, .int .u8 d.years, .int .u8 d.day, .int .u8 d.base, .int .i8 d.off, .int .i8 d.at_], .bool first, .int .i64 N, .int .i64 year, .bool en] w fun x w' => ∃ e : EV, x = .returned (.agg #[.int .i64 e.off, .int .i64 e.kind, .int .i64 e.save, .string e.set, .string e.fmt, .bool e.ui, .int .i64 e.uy, .int .i64 e.um, .int .i64 e.dk, .int .i64 e.dw, .int .i64 e.dd, .int .i64 e.asec, .int .i64 e.ab]) ∧ GE23 N e ∧ Below w.heap.size w w' := by
  obtain ⟨O, K, S4, D20, D7, A24, B3, k, hEq, bO, bK, bS, bD, bE, bA, bB, bk⟩ := nums23 d N hd hN
  subst hen
  have BK2 := Lib.hid (show K = 0 from hEq.2.1.symm.trans hKK)
  clear hKK
  have HEQ := Lib.hid hEq
  have h2f := hd.f
  have hN3 : (N : Int) ≤ 3 := by omega
  have hNe : ¬ (N : Int) = 0 := by omega
  have hNz : ((N : Int) == 0) = false := by simpa using hNe
  have hN1 : (1 : Int) ≤ N := by omega
  have hk3 : (k : Int) ≤ 3 := by omega
  have hk10 : k < 10 := by omega
  have BO := Lib.hid bO; have BS := Lib.hid bS; have Bk := Lib.hid bk
  have q1 := hd.k.1; have q2 := hd.k.2; have q3 := hd.s.1; have q4 := hd.s.2; have q5 := hd.dy.1; have q6 := hd.dy.2; have q7 := hd.b.1; have q8 := hd.b.2; have q9 := hd.o.1; have q10 := hd.o.2; have q11 := hd.a.1; have q12 := hd.a.2
  have r1 := bO.1; have r2 := bO.2; have r3 := bS.1; have r4 := bS.2; have r5 := bD.1; have r6 := bD.2; have r7 := bE.1; have r8 := bE.2; have r9 := bA.1; have r10 := bA.2; have r11 := bB.1; have r12 := bB.2
  have rk1 : 0 ≤ K := by omega
  have rk2 : K ≤ 2 := by omega
  have w1 : IntKind.u8.wrap (1 + S4) = 1 + S4 := IntWalk.u8_in _ (by omega)
  have wO : IntKind.i64.wrap O = O := IntWalk.i64_in _ (by omega)
  have wM : IntKind.i64.wrap (900 * O) = 900 * O := IntWalk.i64_in _ (by omega)
  have wK : IntKind.i64.wrap K = K := IntWalk.i64_in _ (by omega)
  have hb0 := ((Below.refl w.heap.size w).alloc (Nat.le_refl _) (.cells #[.int .u8 d.kind, .int .u8 d.set, .int .u8 d.fmt, .int .u8 d.years, .int .u8 d.day, .int .u8 d.base, .int .i8 d.off, .int .i8 d.at_] 104)).alloc (by simp) (.cells #[.int .i64 0, .int .i64 0, .int .i64 0, .string ⟨#[]⟩, .string ⟨#[]⟩, .bool false, .int .i64 0, .int .i64 0, .int .i64 0, .int .i64 0, .int .i64 0, .int .i64 0, .int .i64 0] 47)
  have hx0 := (Blk.new w 104 #[.int .u8 d.kind, .int .u8 d.set, .int .u8 d.fmt, .int .u8 d.years, .int .u8 d.day, .int .u8 d.base, .int .i8 d.off, .int .i8 d.at_]).alloc (.cells #[.int .i64 0, .int .i64 0, .int .i64 0, .string ⟨#[]⟩, .string ⟨#[]⟩, .bool false, .int .i64 0, .int .i64 0, .int .i64 0, .int .i64 0, .int .i64 0, .int .i64 0, .int .i64 0] 47)
  have hr0 := Blk.newAt (w.alloc (.cells #[.int .u8 d.kind, .int .u8 d.set, .int .u8 d.fmt, .int .u8 d.years, .int .u8 d.day, .int .u8 d.base, .int .i8 d.off, .int .i8 d.at_] 104)) (w.heap.size + 1) (by simp) 47 #[.int .i64 0, .int .i64 0, .int .i64 0, .string ⟨#[]⟩, .string ⟨#[]⟩, .bool false, .int .i64 0, .int .i64 0, .int .i64 0, .int .i64 0, .int .i64 0, .int .i64 0, .int .i64 0]
  obtain ⟨KS, RN, hKS, hsum0, hRN⟩ : ∃ KS RN : ByteArray, KS = str [UInt8.ofNat (48 + k)] ∧ (∀ W : World, (Op.stringOp .add ⟨#[82]⟩ KS).run Tryd.prog W = .ok (.string RN) W) ∧ RN = rn k := ⟨_, rn k, rfl, cat_run [82] [UInt8.ofNat (48 + k)] (by simp), rfl⟩
  have HSUM := Lib.hid hsum0; have HRN := Lib.hid hRN
  have cI : Hid (∀ W, VarsP W → Calls Tryd.prog 45 #[.int .i64 (k : Int)] W fun e w' => e = .returned (.string KS) ∧ Below W.heap.size W w') := Lib.hid fun W h => by rw [hKS]; exact itoa23 k _ rfl hk10 W h
  clear hEq bO bS bD bE bA bB bk hd hN hKS hsum0 hRN
  go_enter Tryd.func46, Tryd.ntmps46
  go_upto_region 1 with fail
  obtain ⟨hO, hK, hS4, hD20, hD7, hA24, hB3, hkN⟩ := HEQ.out
  refine wp_region_shape [(some 12, []), (some 13, [0]), (some 14, [1]), (some 15, [2]), (some 16, [3]), (some 17, []), (some 18, [5]), (some 19, [6]), (some 20, [7]), (some 21, []), (some 22, [9]), (some 23, [10]), (some 24, [4, 8, 11]), (some 11, []), (none, [13, 12, 11, 0, 1, 2, 3, 4, 5, 6, 7, 8, 9, 10, 11, 12, 13])] (fun y => { tmps := #[.agg #[.int .u8 d.kind, .int .u8 d.set, .int .u8 d.fmt, .int .u8 d.years, .int .u8 d.day, .int .u8 d.base, .int .i8 d.off, .int .i8 d.at_], .bool first, .int .i64 N, .int .i64 year, .bool false, .pointer (some ⟨w.heap.size, 0, none⟩), undef, undef, undef, undef, .pointer (some ⟨w.heap.size + 1, 0, none⟩), y 11, y 12, y 13, y 14, y 15, y 16, y 17, y 18, y 19, y 20, y 21, y 22, y 23, y 24, undef, undef, undef, undef, undef, undef, undef, undef, undef, undef, undef, undef, undef, undef, undef, undef, undef, undef, undef, undef, undef, undef, undef, undef, undef, undef, undef, undef, undef, undef, undef, undef, undef, undef, undef, undef, undef, undef, undef, undef, undef, undef, undef, undef, undef, undef, undef, undef, undef, undef, undef, undef, undef, undef, undef, undef, undef, undef, undef, undef, undef], defers := [] }) (fun _ => undef) (fun j => j == 11 || j == 12 || j == 13 || j == 14) [.pointer (some ⟨w.heap.size, 6, none⟩), .int .i8 d.off, .int .i8 O, .int .i64 O, .int .i64 (900 * O), .pointer (some ⟨w.heap.size, 0, none⟩), .int .u8 d.kind, .int .u8 K, .int .i64 K, .pointer (some ⟨w.heap.size, 2, none⟩), .int .u8 d.fmt, undef, undef, undef, undef] (fun j y W => match j with | 11 => ∃ S, y 23 = .string S ∧ isFmt23 S | 12 => ∃ S, y 24 = .agg #[.int .i64 (900 * O), .int .i64 K, .int .i64 0, .string ⟨#[]⟩, .string S, .bool false, .int .i64 0, .int .i64 0, .int .i64 0, .int .i64 0, .int .i64 0, .int .i64 0, .int .i64 0] ∧ isFmt23 S | 13 => ∃ g, (y 11 = .pointer (some ⟨g, 0, none⟩) ∧ w.heap.size + 2 ≤ g) ∧ ∃ v0 v1 v2 v3 v4 v5 v6 v7 v8 v9 v10 v11 v12, Blk W g 47 #[v0, v1, v2, v3, v4, v5, v6, v7, v8, v9, v10, v11, v12] | 14 => ∃ g S, (y 11 = .pointer (some ⟨g, 0, none⟩) ∧ w.heap.size + 2 ≤ g) ∧ isFmt23 S ∧ Blk W g 47 #[.int .i64 (900 * O), .int .i64 K, .int .i64 0, .string ⟨#[]⟩, .string S, .bool false, .int .i64 0, .int .i64 0, .int .i64 0, .int .i64 0, .int .i64 0, .int .i64 0, .int .i64 0] | _ => True) (fun j => match j with | 11 => [23] | 12 => [24] | 13 => [11] | 14 => [11] | _ => []) (GE) (fun W => Below w.heap.size w W ∧ Blk W w.heap.size 104 #[.int .u8 d.kind, .int .u8 d.set, .int .u8 d.fmt, .int .u8 d.years, .int .u8 d.day, .int .u8 d.base, .int .i8 d.off, .int .i8 d.at_] ∧ Blk W (w.heap.size + 1) 47 #[.int .i64 0, .int .i64 0, .int .i64 0, .string ⟨#[]⟩, .string ⟨#[]⟩, .bool false, .int .i64 0, .int .i64 0, .int .i64 0, .int .i64 0, .int .i64 0, .int .i64 0, .int .i64 0]) (by kernel_rfl) (by kernel_rfl) (by decide +kernel) rfl ⟨hb0.drew, hx0, hr0⟩ ?hput1 ?hloc1 ?hmono1 ?hstep1 ?hdone1
  case hput1 =>
    intro d hd y v
    simp only [List.filterMap_cons, List.filterMap_nil, List.mem_cons, List.not_mem_nil, or_false] at hd
    rcases hd with rfl | rfl | rfl | rfl | rfl | rfl | rfl | rfl | rfl | rfl | rfl | rfl | rfl | rfl
    all_goals rfl
  case hloc1 =>
    intro j hj y y' W hk hx
    have hj' : j = 11 ∨ j = 12 ∨ j = 13 ∨ j = 14 := by simpa [or_assoc] using hj
    rcases hj' with rfl | rfl | rfl | rfl
    · simp only [List.forall_mem_cons, List.not_mem_nil, false_imp_iff, implies_true, and_true] at hk
      show _
      simpa only [hk] using hx
    · simp only [List.forall_mem_cons, List.not_mem_nil, false_imp_iff, implies_true, and_true] at hk
      show _
      simpa only [hk] using hx
    · simp only [List.forall_mem_cons, List.not_mem_nil, false_imp_iff, implies_true, and_true] at hk
      show _
      simpa only [hk] using hx
    · simp only [List.forall_mem_cons, List.not_mem_nil, false_imp_iff, implies_true, and_true] at hk
      show _
      simpa only [hk] using hx
  case hmono1 =>
    intro j hj hlast y W W' hg hx
    have hj' : j = 11 ∨ j = 12 ∨ j = 13 ∨ j = 14 := by simpa [or_assoc] using hj
    rcases hj' with rfl | rfl | rfl | rfl
    · exact hx
    · exact hx
    · obtain ⟨g, h1, h2⟩ := hx; exact ⟨g, h1, hg g h2⟩
    · exact absurd hlast (by decide)
  case hdone1 =>
    intro yy W1 hS hd
    have x14 : (fun (y : Nat → Value) (W : World) => ∃ g S, (y 11 = .pointer (some ⟨g, 0, none⟩) ∧ w.heap.size + 2 ≤ g) ∧ isFmt23 S ∧ Blk W g 47 #[.int .i64 (900 * O), .int .i64 K, .int .i64 0, .string ⟨#[]⟩, .string S, .bool false, .int .i64 0, .int .i64 0, .int .i64 0, .int .i64 0, .int .i64 0, .int .i64 0, .int .i64 0]) yy W1 := (hd 14 (by decide)).ex rfl
    obtain ⟨hb, hx, hr⟩ := hS
    obtain ⟨g, S, ⟨e11, hg2⟩, hf, hbg⟩ := x14
    rw [e11]
    clear hd e11 hb0 hx0 hr0
    obtain rfl := BK2.out
    cases first
    · skip
      have hg00 := hbg; have hx00 := hx; have hr00 := hr; have hb00 := hb
      have z1 := (hg00.cell 1).trans rfl
      have z2 := (hg00.cell 0).trans rfl
      have z3 := (hg00.cell 1).trans rfl
      have z4 := (hg00.cell 2).trans rfl
      have z5 := (hg00.cell 3).trans rfl
      have z6 := (hg00.cell 4).trans rfl
      have z7 := (hg00.cell 5).trans rfl
      have z8 := (hg00.cell 6).trans rfl
      have z9 := (hg00.cell 7).trans rfl
      have z10 := (hg00.cell 8).trans rfl
      have z11 := (hg00.cell 9).trans rfl
      have z12 := (hg00.cell 10).trans rfl
      have z13 := (hg00.cell 11).trans rfl
      have z14 := (hg00.cell 12).trans rfl
      have z15 := (hr00.cell 0).trans rfl
      have z16 := hr00.frozen 0
      have z17 := (hr00.cell 1).trans rfl
      have z18 := hr00.frozen 1
      have z19 := (hr00.cell 2).trans rfl
      have z20 := hr00.frozen 2
      have z21 := (hr00.cell 3).trans rfl
      have z22 := hr00.frozen 3
      have z23 := (hr00.cell 4).trans rfl
      have z24 := hr00.frozen 4
      have z25 := (hr00.cell 5).trans rfl
      have z26 := hr00.frozen 5
      have z27 := (hr00.cell 6).trans rfl
      have z28 := hr00.frozen 6
      have z29 := (hr00.cell 7).trans rfl
      have z30 := hr00.frozen 7
      have z31 := (hr00.cell 8).trans rfl
      have z32 := hr00.frozen 8
      have z33 := (hr00.cell 9).trans rfl
      have z34 := hr00.frozen 9
      have z35 := (hr00.cell 10).trans rfl
      have z36 := hr00.frozen 10
      have z37 := (hr00.cell 11).trans rfl
      have z38 := hr00.frozen 11
      have z39 := (hr00.cell 12).trans rfl
      have z40 := hr00.frozen 12
      have t410 : Blk _ (w.heap.size + 1) 47 #[.int .i64 (900 * O), .int .i64 0, .int .i64 0, .string ⟨#[]⟩, .string ⟨#[]⟩, .bool false, .int .i64 0, .int .i64 0, .int .i64 0, .int .i64 0, .int .i64 0, .int .i64 0, .int .i64 0] := hr00.set_ 0 (.int .i64 (900 * O))
      have t411 : Blk _ (w.heap.size + 1) 47 #[.int .i64 (900 * O), .int .i64 0, .int .i64 0, .string ⟨#[]⟩, .string ⟨#[]⟩, .bool false, .int .i64 0, .int .i64 0, .int .i64 0, .int .i64 0, .int .i64 0, .int .i64 0, .int .i64 0] := t410.set_ 1 (.int .i64 0)
      have t412 : Blk _ (w.heap.size + 1) 47 #[.int .i64 (900 * O), .int .i64 0, .int .i64 0, .string ⟨#[]⟩, .string ⟨#[]⟩, .bool false, .int .i64 0, .int .i64 0, .int .i64 0, .int .i64 0, .int .i64 0, .int .i64 0, .int .i64 0] := t411.set_ 2 (.int .i64 0)
      have t413 : Blk _ (w.heap.size + 1) 47 #[.int .i64 (900 * O), .int .i64 0, .int .i64 0, .string ⟨#[]⟩, .string ⟨#[]⟩, .bool false, .int .i64 0, .int .i64 0, .int .i64 0, .int .i64 0, .int .i64 0, .int .i64 0, .int .i64 0] := t412.set_ 3 (.string ⟨#[]⟩)
      have t414 : Blk _ (w.heap.size + 1) 47 #[.int .i64 (900 * O), .int .i64 0, .int .i64 0, .string ⟨#[]⟩, .string S, .bool false, .int .i64 0, .int .i64 0, .int .i64 0, .int .i64 0, .int .i64 0, .int .i64 0, .int .i64 0] := t413.set_ 4 (.string S)
      have t415 : Blk _ (w.heap.size + 1) 47 #[.int .i64 (900 * O), .int .i64 0, .int .i64 0, .string ⟨#[]⟩, .string S, .bool false, .int .i64 0, .int .i64 0, .int .i64 0, .int .i64 0, .int .i64 0, .int .i64 0, .int .i64 0] := t414.set_ 5 (.bool false)
      have t416 : Blk _ (w.heap.size + 1) 47 #[.int .i64 (900 * O), .int .i64 0, .int .i64 0, .string ⟨#[]⟩, .string S, .bool false, .int .i64 0, .int .i64 0, .int .i64 0, .int .i64 0, .int .i64 0, .int .i64 0, .int .i64 0] := t415.set_ 6 (.int .i64 0)
      have t417 : Blk _ (w.heap.size + 1) 47 #[.int .i64 (900 * O), .int .i64 0, .int .i64 0, .string ⟨#[]⟩, .string S, .bool false, .int .i64 0, .int .i64 0, .int .i64 0, .int .i64 0, .int .i64 0, .int .i64 0, .int .i64 0] := t416.set_ 7 (.int .i64 0)
      have t418 : Blk _ (w.heap.size + 1) 47 #[.int .i64 (900 * O), .int .i64 0, .int .i64 0, .string ⟨#[]⟩, .string S, .bool false, .int .i64 0, .int .i64 0, .int .i64 0, .int .i64 0, .int .i64 0, .int .i64 0, .int .i64 0] := t417.set_ 8 (.int .i64 0)
      have t419 : Blk _ (w.heap.size + 1) 47 #[.int .i64 (900 * O), .int .i64 0, .int .i64 0, .string ⟨#[]⟩, .string S, .bool false, .int .i64 0, .int .i64 0, .int .i64 0, .int .i64 0, .int .i64 0, .int .i64 0, .int .i64 0] := t418.set_ 9 (.int .i64 0)
      have t4110 : Blk _ (w.heap.size + 1) 47 #[.int .i64 (900 * O), .int .i64 0, .int .i64 0, .string ⟨#[]⟩, .string S, .bool false, .int .i64 0, .int .i64 0, .int .i64 0, .int .i64 0, .int .i64 0, .int .i64 0, .int .i64 0] := t419.set_ 10 (.int .i64 0)
      have t4111 : Blk _ (w.heap.size + 1) 47 #[.int .i64 (900 * O), .int .i64 0, .int .i64 0, .string ⟨#[]⟩, .string S, .bool false, .int .i64 0, .int .i64 0, .int .i64 0, .int .i64 0, .int .i64 0, .int .i64 0, .int .i64 0] := t4110.set_ 11 (.int .i64 0)
      have t4112 : Blk _ (w.heap.size + 1) 47 #[.int .i64 (900 * O), .int .i64 0, .int .i64 0, .string ⟨#[]⟩, .string S, .bool false, .int .i64 0, .int .i64 0, .int .i64 0, .int .i64 0, .int .i64 0, .int .i64 0, .int .i64 0] := t4111.set_ 12 (.int .i64 0)
      have kk0 := (t4112.cell 0).trans rfl
      have kk1 := (t4112.cell 1).trans rfl
      have kk2 := (t4112.cell 2).trans rfl
      have kk3 := (t4112.cell 3).trans rfl
      have kk4 := (t4112.cell 4).trans rfl
      have kk5 := (t4112.cell 5).trans rfl
      have kk6 := (t4112.cell 6).trans rfl
      have kk7 := (t4112.cell 7).trans rfl
      have kk8 := (t4112.cell 8).trans rfl
      have kk9 := (t4112.cell 9).trans rfl
      have kk10 := (t4112.cell 10).trans rfl
      have kk11 := (t4112.cell 11).trans rfl
      have kk12 := (t4112.cell 12).trans rfl
      have HBF := Lib.hid (((((((((((((hb00.setCell (p := ⟨w.heap.size + 1, 0, none⟩) (Nat.le_succ _) (.int .i64 (900 * O))).setCell (p := ⟨w.heap.size + 1, 1, none⟩) (Nat.le_succ _) (.int .i64 0)).setCell (p := ⟨w.heap.size + 1, 2, none⟩) (Nat.le_succ _) (.int .i64 0)).setCell (p := ⟨w.heap.size + 1, 3, none⟩) (Nat.le_succ _) (.string ⟨#[]⟩)).setCell (p := ⟨w.heap.size + 1, 4, none⟩) (Nat.le_succ _) (.string S)).setCell (p := ⟨w.heap.size + 1, 5, none⟩) (Nat.le_succ _) (.bool false)).setCell (p := ⟨w.heap.size + 1, 6, none⟩) (Nat.le_succ _) (.int .i64 0)).setCell (p := ⟨w.heap.size + 1, 7, none⟩) (Nat.le_succ _) (.int .i64 0)).setCell (p := ⟨w.heap.size + 1, 8, none⟩) (Nat.le_succ _) (.int .i64 0)).setCell (p := ⟨w.heap.size + 1, 9, none⟩) (Nat.le_succ _) (.int .i64 0)).setCell (p := ⟨w.heap.size + 1, 10, none⟩) (Nat.le_succ _) (.int .i64 0)).setCell (p := ⟨w.heap.size + 1, 11, none⟩) (Nat.le_succ _) (.int .i64 0)).setCell (p := ⟨w.heap.size + 1, 12, none⟩) (Nat.le_succ _) (.int .i64 0))
      clear t410 t411 t412 t413 t414 t415 t416 t417 t418 t419 t4110 t4111 t4112
      have H42g := Lib.hid hg00; have H42x := Lib.hid hx00; have H42r := Lib.hid hr00; have H42b := Lib.hid hb00
      clear hg00 hx00 hr00 hb00
      go_wp2_with fail
      refine bodyPost_ret (v := .agg #[.int .i64 (900 * O), .int .i64 0, .int .i64 0, .string ⟨#[]⟩, .string S, .bool false, .int .i64 0, .int .i64 0, .int .i64 0, .int .i64 0, .int .i64 0, .int .i64 0, .int .i64 0]) (by simp [results, Tryd.results46, go_sem, kk0, kk1, kk2, kk3, kk4, kk5, kk6, kk7, kk8, kk9, kk10, kk11, kk12]) rfl ?_
      exact ⟨⟨(900 * O), 0, 0, ⟨#[]⟩, S, false, 0, 0, 0, 0, 0, 0, 0⟩, rfl, ⟨(by show -42300 ≤ 900 * O ∧ 900 * O ≤ 42300; have := BO.out; omega), .inl rfl, hf, (show (0 : Int) ≤ 0 ∧ (0 : Int) ≤ 7200 by decide), fun h => by cases h⟩, HBF.out⟩
    · skip
      have hg00 := hbg; have hx00 := hx; have hr00 := hr; have hb00 := hb
      have z1 := (hg00.cell 1).trans rfl
      have z2 := (hg00.cell 1).trans rfl
      have z3 := (hg00.cell 0).trans rfl
      have z4 := (hg00.cell 1).trans rfl
      have z5 := (hg00.cell 2).trans rfl
      have z6 := (hg00.cell 3).trans rfl
      have z7 := (hg00.cell 4).trans rfl
      have z8 := (hg00.cell 5).trans rfl
      have z9 := (hg00.cell 6).trans rfl
      have z10 := (hg00.cell 7).trans rfl
      have z11 := (hg00.cell 8).trans rfl
      have z12 := (hg00.cell 9).trans rfl
      have z13 := (hg00.cell 10).trans rfl
      have z14 := (hg00.cell 11).trans rfl
      have z15 := (hg00.cell 12).trans rfl
      have z16 := (hr00.cell 0).trans rfl
      have z17 := hr00.frozen 0
      have z18 := (hr00.cell 1).trans rfl
      have z19 := hr00.frozen 1
      have z20 := (hr00.cell 2).trans rfl
      have z21 := hr00.frozen 2
      have z22 := (hr00.cell 3).trans rfl
      have z23 := hr00.frozen 3
      have z24 := (hr00.cell 4).trans rfl
      have z25 := hr00.frozen 4
      have z26 := (hr00.cell 5).trans rfl
      have z27 := hr00.frozen 5
      have z28 := (hr00.cell 6).trans rfl
      have z29 := hr00.frozen 6
      have z30 := (hr00.cell 7).trans rfl
      have z31 := hr00.frozen 7
      have z32 := (hr00.cell 8).trans rfl
      have z33 := hr00.frozen 8
      have z34 := (hr00.cell 9).trans rfl
      have z35 := hr00.frozen 9
      have z36 := (hr00.cell 10).trans rfl
      have z37 := hr00.frozen 10
      have z38 := (hr00.cell 11).trans rfl
      have z39 := hr00.frozen 11
      have z40 := (hr00.cell 12).trans rfl
      have z41 := hr00.frozen 12
      have t420 : Blk _ (w.heap.size + 1) 47 #[.int .i64 (900 * O), .int .i64 0, .int .i64 0, .string ⟨#[]⟩, .string ⟨#[]⟩, .bool false, .int .i64 0, .int .i64 0, .int .i64 0, .int .i64 0, .int .i64 0, .int .i64 0, .int .i64 0] := hr00.set_ 0 (.int .i64 (900 * O))
      have t421 : Blk _ (w.heap.size + 1) 47 #[.int .i64 (900 * O), .int .i64 0, .int .i64 0, .string ⟨#[]⟩, .string ⟨#[]⟩, .bool false, .int .i64 0, .int .i64 0, .int .i64 0, .int .i64 0, .int .i64 0, .int .i64 0, .int .i64 0] := t420.set_ 1 (.int .i64 0)
      have t422 : Blk _ (w.heap.size + 1) 47 #[.int .i64 (900 * O), .int .i64 0, .int .i64 0, .string ⟨#[]⟩, .string ⟨#[]⟩, .bool false, .int .i64 0, .int .i64 0, .int .i64 0, .int .i64 0, .int .i64 0, .int .i64 0, .int .i64 0] := t421.set_ 2 (.int .i64 0)
      have t423 : Blk _ (w.heap.size + 1) 47 #[.int .i64 (900 * O), .int .i64 0, .int .i64 0, .string ⟨#[]⟩, .string ⟨#[]⟩, .bool false, .int .i64 0, .int .i64 0, .int .i64 0, .int .i64 0, .int .i64 0, .int .i64 0, .int .i64 0] := t422.set_ 3 (.string ⟨#[]⟩)
      have t424 : Blk _ (w.heap.size + 1) 47 #[.int .i64 (900 * O), .int .i64 0, .int .i64 0, .string ⟨#[]⟩, .string S, .bool false, .int .i64 0, .int .i64 0, .int .i64 0, .int .i64 0, .int .i64 0, .int .i64 0, .int .i64 0] := t423.set_ 4 (.string S)
      have t425 : Blk _ (w.heap.size + 1) 47 #[.int .i64 (900 * O), .int .i64 0, .int .i64 0, .string ⟨#[]⟩, .string S, .bool false, .int .i64 0, .int .i64 0, .int .i64 0, .int .i64 0, .int .i64 0, .int .i64 0, .int .i64 0] := t424.set_ 5 (.bool false)
      have t426 : Blk _ (w.heap.size + 1) 47 #[.int .i64 (900 * O), .int .i64 0, .int .i64 0, .string ⟨#[]⟩, .string S, .bool false, .int .i64 0, .int .i64 0, .int .i64 0, .int .i64 0, .int .i64 0, .int .i64 0, .int .i64 0] := t425.set_ 6 (.int .i64 0)
      have t427 : Blk _ (w.heap.size + 1) 47 #[.int .i64 (900 * O), .int .i64 0, .int .i64 0, .string ⟨#[]⟩, .string S, .bool false, .int .i64 0, .int .i64 0, .int .i64 0, .int .i64 0, .int .i64 0, .int .i64 0, .int .i64 0] := t426.set_ 7 (.int .i64 0)
      have t428 : Blk _ (w.heap.size + 1) 47 #[.int .i64 (900 * O), .int .i64 0, .int .i64 0, .string ⟨#[]⟩, .string S, .bool false, .int .i64 0, .int .i64 0, .int .i64 0, .int .i64 0, .int .i64 0, .int .i64 0, .int .i64 0] := t427.set_ 8 (.int .i64 0)
      have t429 : Blk _ (w.heap.size + 1) 47 #[.int .i64 (900 * O), .int .i64 0, .int .i64 0, .string ⟨#[]⟩, .string S, .bool false, .int .i64 0, .int .i64 0, .int .i64 0, .int .i64 0, .int .i64 0, .int .i64 0, .int .i64 0] := t428.set_ 9 (.int .i64 0)
      have t4210 : Blk _ (w.heap.size + 1) 47 #[.int .i64 (900 * O), .int .i64 0, .int .i64 0, .string ⟨#[]⟩, .string S, .bool false, .int .i64 0, .int .i64 0, .int .i64 0, .int .i64 0, .int .i64 0, .int .i64 0, .int .i64 0] := t429.set_ 10 (.int .i64 0)
      have t4211 : Blk _ (w.heap.size + 1) 47 #[.int .i64 (900 * O), .int .i64 0, .int .i64 0, .string ⟨#[]⟩, .string S, .bool false, .int .i64 0, .int .i64 0, .int .i64 0, .int .i64 0, .int .i64 0, .int .i64 0, .int .i64 0] := t4210.set_ 11 (.int .i64 0)
      have t4212 : Blk _ (w.heap.size + 1) 47 #[.int .i64 (900 * O), .int .i64 0, .int .i64 0, .string ⟨#[]⟩, .string S, .bool false, .int .i64 0, .int .i64 0, .int .i64 0, .int .i64 0, .int .i64 0, .int .i64 0, .int .i64 0] := t4211.set_ 12 (.int .i64 0)
      have kk0 := (t4212.cell 0).trans rfl
      have kk1 := (t4212.cell 1).trans rfl
      have kk2 := (t4212.cell 2).trans rfl
      have kk3 := (t4212.cell 3).trans rfl
      have kk4 := (t4212.cell 4).trans rfl
      have kk5 := (t4212.cell 5).trans rfl
      have kk6 := (t4212.cell 6).trans rfl
      have kk7 := (t4212.cell 7).trans rfl
      have kk8 := (t4212.cell 8).trans rfl
      have kk9 := (t4212.cell 9).trans rfl
      have kk10 := (t4212.cell 10).trans rfl
      have kk11 := (t4212.cell 11).trans rfl
      have kk12 := (t4212.cell 12).trans rfl
      have HBF := Lib.hid (((((((((((((hb00.setCell (p := ⟨w.heap.size + 1, 0, none⟩) (Nat.le_succ _) (.int .i64 (900 * O))).setCell (p := ⟨w.heap.size + 1, 1, none⟩) (Nat.le_succ _) (.int .i64 0)).setCell (p := ⟨w.heap.size + 1, 2, none⟩) (Nat.le_succ _) (.int .i64 0)).setCell (p := ⟨w.heap.size + 1, 3, none⟩) (Nat.le_succ _) (.string ⟨#[]⟩)).setCell (p := ⟨w.heap.size + 1, 4, none⟩) (Nat.le_succ _) (.string S)).setCell (p := ⟨w.heap.size + 1, 5, none⟩) (Nat.le_succ _) (.bool false)).setCell (p := ⟨w.heap.size + 1, 6, none⟩) (Nat.le_succ _) (.int .i64 0)).setCell (p := ⟨w.heap.size + 1, 7, none⟩) (Nat.le_succ _) (.int .i64 0)).setCell (p := ⟨w.heap.size + 1, 8, none⟩) (Nat.le_succ _) (.int .i64 0)).setCell (p := ⟨w.heap.size + 1, 9, none⟩) (Nat.le_succ _) (.int .i64 0)).setCell (p := ⟨w.heap.size + 1, 10, none⟩) (Nat.le_succ _) (.int .i64 0)).setCell (p := ⟨w.heap.size + 1, 11, none⟩) (Nat.le_succ _) (.int .i64 0)).setCell (p := ⟨w.heap.size + 1, 12, none⟩) (Nat.le_succ _) (.int .i64 0))
      clear t420 t421 t422 t423 t424 t425 t426 t427 t428 t429 t4210 t4211 t4212
      have H43g := Lib.hid hg00; have H43x := Lib.hid hx00; have H43r := Lib.hid hr00; have H43b := Lib.hid hb00
      clear hg00 hx00 hr00 hb00
      go_wp2_with fail
      refine bodyPost_ret (v := .agg #[.int .i64 (900 * O), .int .i64 0, .int .i64 0, .string ⟨#[]⟩, .string S, .bool false, .int .i64 0, .int .i64 0, .int .i64 0, .int .i64 0, .int .i64 0, .int .i64 0, .int .i64 0]) (by simp [results, Tryd.results46, go_sem, kk0, kk1, kk2, kk3, kk4, kk5, kk6, kk7, kk8, kk9, kk10, kk11, kk12]) rfl ?_
      exact ⟨⟨(900 * O), 0, 0, ⟨#[]⟩, S, false, 0, 0, 0, 0, 0, 0, 0⟩, rfl, ⟨(by show -42300 ≤ 900 * O ∧ 900 * O ≤ 42300; have := BO.out; omega), .inl rfl, hf, (show (0 : Int) ≤ 0 ∧ (0 : Int) ≤ 7200 by decide), fun h => by cases h⟩, HBF.out⟩
  case hstep1 =>
    refine StepsOk.cons (StepOk.known rfl fun y W hS hd K' hK => ?_) ?_
    · skip
      clear hd
      go_simp
      exact hK.out _ _ rfl (GE.refl _) hS
    refine StepsOk.cons (StepOk.known rfl fun y W hS hd K' hK => ?_) ?_
    · skip
      have e12 : y 12 = .pointer (some ⟨w.heap.size, 6, none⟩) := (hd 0 rfl).val rfl rfl
      clear hd
      have hc := (hS.2.1.cell 6).trans rfl
      go_simp
      exact hK.out _ _ (by first | rfl | (simp only [e12]; done) | (simp only [e12]; rfl)) (GE.refl _) hS
    refine StepsOk.cons (StepOk.known rfl fun y W hS hd K' hK => ?_) ?_
    · skip
      have e13 : y 13 = .int .i8 d.off := (hd 1 rfl).val rfl rfl
      clear hd
      go_simp
      exact hK.out _ _ (by first | rfl | (simp only [e13]; done) | (simp only [e13]; rfl)) (GE.refl _) hS
    refine StepsOk.cons (StepOk.known rfl fun y W hS hd K' hK => ?_) ?_
    · skip
      have e14 : y 14 = .int .i8 O := (hd 2 rfl).val rfl rfl
      clear hd
      go_simp
      exact hK.out _ _ (by first | rfl | (simp only [e14]; done) | (simp only [e14]; rfl)) (GE.refl _) hS
    refine StepsOk.cons (StepOk.known rfl fun y W hS hd K' hK => ?_) ?_
    · skip
      have e15 : y 15 = .int .i64 O := (hd 3 rfl).val rfl rfl
      clear hd
      go_simp
      exact hK.out _ _ (by first | rfl | (simp only [e15]; done) | (simp only [e15]; rfl)) (GE.refl _) hS
    refine StepsOk.cons (StepOk.known rfl fun y W hS hd K' hK => ?_) ?_
    · skip
      clear hd
      go_simp
      exact hK.out _ _ rfl (GE.refl _) hS
    refine StepsOk.cons (StepOk.known rfl fun y W hS hd K' hK => ?_) ?_
    · skip
      have e17 : y 17 = .pointer (some ⟨w.heap.size, 0, none⟩) := (hd 5 rfl).val rfl rfl
      clear hd
      have hc := (hS.2.1.cell 0).trans rfl
      go_simp
      exact hK.out _ _ (by first | rfl | (simp only [e17]; done) | (simp only [e17]; rfl)) (GE.refl _) hS
    refine StepsOk.cons (StepOk.known rfl fun y W hS hd K' hK => ?_) ?_
    · skip
      have e18 : y 18 = .int .u8 d.kind := (hd 6 rfl).val rfl rfl
      clear hd
      go_simp
      exact hK.out _ _ (by first | rfl | (simp only [e18]; done) | (simp only [e18]; rfl)) (GE.refl _) hS
    refine StepsOk.cons (StepOk.known rfl fun y W hS hd K' hK => ?_) ?_
    · skip
      have e19 : y 19 = .int .u8 K := (hd 7 rfl).val rfl rfl
      clear hd
      go_simp
      exact hK.out _ _ (by first | rfl | (simp only [e19]; done) | (simp only [e19]; rfl)) (GE.refl _) hS
    refine StepsOk.cons (StepOk.known rfl fun y W hS hd K' hK => ?_) ?_
    · skip
      clear hd
      go_simp
      exact hK.out _ _ rfl (GE.refl _) hS
    refine StepsOk.cons (StepOk.known rfl fun y W hS hd K' hK => ?_) ?_
    · skip
      have e21 : y 21 = .pointer (some ⟨w.heap.size, 2, none⟩) := (hd 9 rfl).val rfl rfl
      clear hd
      have hc := (hS.2.1.cell 2).trans rfl
      go_simp
      exact hK.out _ _ (by first | rfl | (simp only [e21]; done) | (simp only [e21]; rfl)) (GE.refl _) hS
    refine StepsOk.cons (StepOk.other rfl fun y W hS hd K' hK => ?_) ?_
    · skip
      have e22 : y 22 = .int .u8 d.fmt := (hd 10 rfl).val rfl rfl
      clear hd
      go_simp
      obtain ⟨hb, hx, hr⟩ := hS
      refine (format23_any d.fmt W h2f).mono ?_
      rintro e W' ⟨S, rfl, hf, hc⟩
      go_wp2_with fail
      exact hK.out _ _ _ (by first | rfl | (simp only [e22]; done) | (simp only [e22]; rfl)) (GE.below hc) ⟨hb.trans (hc.mono hb.size), hx.below hc hx.lt, hr.below hc hr.lt⟩ (show ∃ S, _ = Value.string S ∧ isFmt23 S from ⟨S, rfl, hf⟩)
    refine StepsOk.cons (StepOk.other rfl fun y W hS hd K' hK => ?_) ?_
    · skip
      have e16 : y 16 = .int .i64 (900 * O) := (hd 4 rfl).val rfl rfl
      have e20 : y 20 = .int .i64 K := (hd 8 rfl).val rfl rfl
      have x11 : (fun (y : Nat → Value) (W : World) => ∃ S, y 23 = .string S ∧ isFmt23 S) y W := (hd 11 rfl).ex rfl
      clear hd
      obtain ⟨S, h1, h2⟩ := x11
      go_simp
      exact hK.out _ _ _ (by first | rfl | (simp only [h1, e16, e20]; done) | (simp only [h1, e16, e20]; rfl)) (GE.refl _) hS (show ∃ S, _ = Value.agg #[.int .i64 (900 * O), .int .i64 K, .int .i64 0, .string ⟨#[]⟩, .string S, .bool false, .int .i64 0, .int .i64 0, .int .i64 0, .int .i64 0, .int .i64 0, .int .i64 0, .int .i64 0] ∧ isFmt23 S from ⟨S, rfl, h2⟩)
    refine StepsOk.cons (StepOk.other rfl fun y W hS hd K' hK => ?_) ?_
    · skip
      clear hd
      obtain ⟨hb, hx, hr⟩ := hS
      have hle := hr.lt
      go_simp
      exact hK.out _ _ _ rfl (GE.alloc W _) ⟨hb.alloc hb.size _, hx.alloc _, hr.alloc _⟩ (show ∃ g, (_ = Value.pointer (some ⟨g, 0, none⟩) ∧ w.heap.size + 2 ≤ g) ∧ ∃ v0 v1 v2 v3 v4 v5 v6 v7 v8 v9 v10 v11 v12, Blk _ g 47 #[v0, v1, v2, v3, v4, v5, v6, v7, v8, v9, v10, v11, v12] from ⟨W.heap.size, ⟨rfl, by omega⟩, _, _, _, _, _, _, _, _, _, _, _, _, _, Blk.new W 47 #[.int .i64 0, .int .i64 0, .int .i64 0, .string ⟨#[]⟩, .string ⟨#[]⟩, .bool false, .int .i64 0, .int .i64 0, .int .i64 0, .int .i64 0, .int .i64 0, .int .i64 0, .int .i64 0]⟩)
    refine StepsOk.cons (StepOk.other rfl fun y W hS hd K' hK => ?_) ?_
    · skip
      have x12 : (fun (y : Nat → Value) (W : World) => ∃ S, y 24 = .agg #[.int .i64 (900 * O), .int .i64 K, .int .i64 0, .string ⟨#[]⟩, .string S, .bool false, .int .i64 0, .int .i64 0, .int .i64 0, .int .i64 0, .int .i64 0, .int .i64 0, .int .i64 0] ∧ isFmt23 S) y W := (hd 12 rfl).ex rfl
      have x13 : (fun (y : Nat → Value) (W : World) => ∃ g, (y 11 = .pointer (some ⟨g, 0, none⟩) ∧ w.heap.size + 2 ≤ g) ∧ ∃ v0 v1 v2 v3 v4 v5 v6 v7 v8 v9 v10 v11 v12, Blk W g 47 #[v0, v1, v2, v3, v4, v5, v6, v7, v8, v9, v10, v11, v12]) y W := (hd 13 rfl).ex rfl
      clear hd
      obtain ⟨g, ⟨h1, h2⟩, v0, v1, v2, v3, v4, v5, v6, v7, v8, v9, v10, v11, v12, hr0⟩ := x13
      obtain ⟨S, h3, h4⟩ := x12
      have k0 := (hr0.cell 0).trans rfl
      have k1 := (hr0.cell 1).trans rfl
      have k2 := (hr0.cell 2).trans rfl
      have k3 := (hr0.cell 3).trans rfl
      have k4 := (hr0.cell 4).trans rfl
      have k5 := (hr0.cell 5).trans rfl
      have k6 := (hr0.cell 6).trans rfl
      have k7 := (hr0.cell 7).trans rfl
      have k8 := (hr0.cell 8).trans rfl
      have k9 := (hr0.cell 9).trans rfl
      have k10 := (hr0.cell 10).trans rfl
      have k11 := (hr0.cell 11).trans rfl
      have k12 := (hr0.cell 12).trans rfl
      have f0 := hr0.frozen 0
      have f1 := hr0.frozen 1
      have f2 := hr0.frozen 2
      have f3 := hr0.frozen 3
      have f4 := hr0.frozen 4
      have f5 := hr0.frozen 5
      have f6 := hr0.frozen 6
      have f7 := hr0.frozen 7
      have f8 := hr0.frozen 8
      have f9 := hr0.frozen 9
      have f10 := hr0.frozen 10
      have f11 := hr0.frozen 11
      have f12 := hr0.frozen 12
      have hr1 : Blk _ g 47 #[.int .i64 (900 * O), v1, v2, v3, v4, v5, v6, v7, v8, v9, v10, v11, v12] := hr0.set_ 0 (.int .i64 (900 * O))
      have q1 := GE.set_ hr0 0 (.int .i64 (900 * O))
      have hr2 : Blk _ g 47 #[.int .i64 (900 * O), .int .i64 K, v2, v3, v4, v5, v6, v7, v8, v9, v10, v11, v12] := hr1.set_ 1 (.int .i64 K)
      have q2 := GE.set_ hr1 1 (.int .i64 K)
      have hr3 : Blk _ g 47 #[.int .i64 (900 * O), .int .i64 K, .int .i64 0, v3, v4, v5, v6, v7, v8, v9, v10, v11, v12] := hr2.set_ 2 (.int .i64 0)
      have q3 := GE.set_ hr2 2 (.int .i64 0)
      have hr4 : Blk _ g 47 #[.int .i64 (900 * O), .int .i64 K, .int .i64 0, .string ⟨#[]⟩, v4, v5, v6, v7, v8, v9, v10, v11, v12] := hr3.set_ 3 (.string ⟨#[]⟩)
      have q4 := GE.set_ hr3 3 (.string ⟨#[]⟩)
      have hr5 : Blk _ g 47 #[.int .i64 (900 * O), .int .i64 K, .int .i64 0, .string ⟨#[]⟩, .string S, v5, v6, v7, v8, v9, v10, v11, v12] := hr4.set_ 4 (.string S)
      have q5 := GE.set_ hr4 4 (.string S)
      have hr6 : Blk _ g 47 #[.int .i64 (900 * O), .int .i64 K, .int .i64 0, .string ⟨#[]⟩, .string S, .bool false, v6, v7, v8, v9, v10, v11, v12] := hr5.set_ 5 (.bool false)
      have q6 := GE.set_ hr5 5 (.bool false)
      have hr7 : Blk _ g 47 #[.int .i64 (900 * O), .int .i64 K, .int .i64 0, .string ⟨#[]⟩, .string S, .bool false, .int .i64 0, v7, v8, v9, v10, v11, v12] := hr6.set_ 6 (.int .i64 0)
      have q7 := GE.set_ hr6 6 (.int .i64 0)
      have hr8 : Blk _ g 47 #[.int .i64 (900 * O), .int .i64 K, .int .i64 0, .string ⟨#[]⟩, .string S, .bool false, .int .i64 0, .int .i64 0, v8, v9, v10, v11, v12] := hr7.set_ 7 (.int .i64 0)
      have q8 := GE.set_ hr7 7 (.int .i64 0)
      have hr9 : Blk _ g 47 #[.int .i64 (900 * O), .int .i64 K, .int .i64 0, .string ⟨#[]⟩, .string S, .bool false, .int .i64 0, .int .i64 0, .int .i64 0, v9, v10, v11, v12] := hr8.set_ 8 (.int .i64 0)
      have q9 := GE.set_ hr8 8 (.int .i64 0)
      have hr10 : Blk _ g 47 #[.int .i64 (900 * O), .int .i64 K, .int .i64 0, .string ⟨#[]⟩, .string S, .bool false, .int .i64 0, .int .i64 0, .int .i64 0, .int .i64 0, v10, v11, v12] := hr9.set_ 9 (.int .i64 0)
      have q10 := GE.set_ hr9 9 (.int .i64 0)
      have hr11 : Blk _ g 47 #[.int .i64 (900 * O), .int .i64 K, .int .i64 0, .string ⟨#[]⟩, .string S, .bool false, .int .i64 0, .int .i64 0, .int .i64 0, .int .i64 0, .int .i64 0, v11, v12] := hr10.set_ 10 (.int .i64 0)
      have q11 := GE.set_ hr10 10 (.int .i64 0)
      have hr12 : Blk _ g 47 #[.int .i64 (900 * O), .int .i64 K, .int .i64 0, .string ⟨#[]⟩, .string S, .bool false, .int .i64 0, .int .i64 0, .int .i64 0, .int .i64 0, .int .i64 0, .int .i64 0, v12] := hr11.set_ 11 (.int .i64 0)
      have q12 := GE.set_ hr11 11 (.int .i64 0)
      have hr13 : Blk _ g 47 #[.int .i64 (900 * O), .int .i64 K, .int .i64 0, .string ⟨#[]⟩, .string S, .bool false, .int .i64 0, .int .i64 0, .int .i64 0, .int .i64 0, .int .i64 0, .int .i64 0, .int .i64 0] := hr12.set_ 12 (.int .i64 0)
      have q13 := GE.set_ hr12 12 (.int .i64 0)
      have hG := q1.trans (q2.trans (q3.trans (q4.trans (q5.trans (q6.trans (q7.trans (q8.trans (q9.trans (q10.trans (q11.trans (q12.trans (q13))))))))))))
      obtain ⟨hb, hx, hr⟩ := hS
      have hb2 := ((((((((((((hb.setCell (p := ⟨g, 0, none⟩) (by show w.heap.size ≤ g; omega) (.int .i64 (900 * O))).setCell (p := ⟨g, 1, none⟩) (by show w.heap.size ≤ g; omega) (.int .i64 K)).setCell (p := ⟨g, 2, none⟩) (by show w.heap.size ≤ g; omega) (.int .i64 0)).setCell (p := ⟨g, 3, none⟩) (by show w.heap.size ≤ g; omega) (.string ⟨#[]⟩)).setCell (p := ⟨g, 4, none⟩) (by show w.heap.size ≤ g; omega) (.string S)).setCell (p := ⟨g, 5, none⟩) (by show w.heap.size ≤ g; omega) (.bool false)).setCell (p := ⟨g, 6, none⟩) (by show w.heap.size ≤ g; omega) (.int .i64 0)).setCell (p := ⟨g, 7, none⟩) (by show w.heap.size ≤ g; omega) (.int .i64 0)).setCell (p := ⟨g, 8, none⟩) (by show w.heap.size ≤ g; omega) (.int .i64 0)).setCell (p := ⟨g, 9, none⟩) (by show w.heap.size ≤ g; omega) (.int .i64 0)).setCell (p := ⟨g, 10, none⟩) (by show w.heap.size ≤ g; omega) (.int .i64 0)).setCell (p := ⟨g, 11, none⟩) (by show w.heap.size ≤ g; omega) (.int .i64 0)).setCell (p := ⟨g, 12, none⟩) (by show w.heap.size ≤ g; omega) (.int .i64 0)
      have hx' := ((((((((((((hx.far (p := ⟨g, 0, none⟩) (by show _ ≠ g; omega) (.int .i64 (900 * O))).far (p := ⟨g, 1, none⟩) (by show _ ≠ g; omega) (.int .i64 K)).far (p := ⟨g, 2, none⟩) (by show _ ≠ g; omega) (.int .i64 0)).far (p := ⟨g, 3, none⟩) (by show _ ≠ g; omega) (.string ⟨#[]⟩)).far (p := ⟨g, 4, none⟩) (by show _ ≠ g; omega) (.string S)).far (p := ⟨g, 5, none⟩) (by show _ ≠ g; omega) (.bool false)).far (p := ⟨g, 6, none⟩) (by show _ ≠ g; omega) (.int .i64 0)).far (p := ⟨g, 7, none⟩) (by show _ ≠ g; omega) (.int .i64 0)).far (p := ⟨g, 8, none⟩) (by show _ ≠ g; omega) (.int .i64 0)).far (p := ⟨g, 9, none⟩) (by show _ ≠ g; omega) (.int .i64 0)).far (p := ⟨g, 10, none⟩) (by show _ ≠ g; omega) (.int .i64 0)).far (p := ⟨g, 11, none⟩) (by show _ ≠ g; omega) (.int .i64 0)).far (p := ⟨g, 12, none⟩) (by show _ ≠ g; omega) (.int .i64 0)
      have hr' := ((((((((((((hr.far (p := ⟨g, 0, none⟩) (by show _ ≠ g; omega) (.int .i64 (900 * O))).far (p := ⟨g, 1, none⟩) (by show _ ≠ g; omega) (.int .i64 K)).far (p := ⟨g, 2, none⟩) (by show _ ≠ g; omega) (.int .i64 0)).far (p := ⟨g, 3, none⟩) (by show _ ≠ g; omega) (.string ⟨#[]⟩)).far (p := ⟨g, 4, none⟩) (by show _ ≠ g; omega) (.string S)).far (p := ⟨g, 5, none⟩) (by show _ ≠ g; omega) (.bool false)).far (p := ⟨g, 6, none⟩) (by show _ ≠ g; omega) (.int .i64 0)).far (p := ⟨g, 7, none⟩) (by show _ ≠ g; omega) (.int .i64 0)).far (p := ⟨g, 8, none⟩) (by show _ ≠ g; omega) (.int .i64 0)).far (p := ⟨g, 9, none⟩) (by show _ ≠ g; omega) (.int .i64 0)).far (p := ⟨g, 10, none⟩) (by show _ ≠ g; omega) (.int .i64 0)).far (p := ⟨g, 11, none⟩) (by show _ ≠ g; omega) (.int .i64 0)).far (p := ⟨g, 12, none⟩) (by show _ ≠ g; omega) (.int .i64 0)
      have HH := Lib.hid (And.intro hr13 (And.intro hG (And.intro hb2 (And.intro hx' hr'))))
      clear hr0 hr1 hr2 hr3 hr4 hr5 hr6 hr7 hr8 hr9 hr10 hr11 hr12 hr13 q1 q2 q3 q4 q5 q6 q7 q8 q9 q10 q11 q12 q13 hG hb2 hb hx hr hx' hr'
      go_simp
      exact hK.out undef _ _ (by first | rfl | (simp only [h1, h3]; done) | (simp only [h1, h3]; rfl)) HH.out.2.1 HH.out.2.2 (show ∃ g S, (y 11 = Value.pointer (some ⟨g, 0, none⟩) ∧ w.heap.size + 2 ≤ g) ∧ isFmt23 S ∧ Blk _ g 47 #[.int .i64 (900 * O), .int .i64 K, .int .i64 0, .string ⟨#[]⟩, .string S, .bool false, .int .i64 0, .int .i64 0, .int .i64 0, .int .i64 0, .int .i64 0, .int .i64 0, .int .i64 0] from ⟨g, S, ⟨h1, h2⟩, h4, HH.out.1⟩)
    exact StepsOk.nil

set_option maxRecDepth 100000 in
set_option maxHeartbeats 16000000 in
theorem era23_n1 (d : E23) (first : Bool) (N : Nat) (year : Int) (en : Bool) (w : World) (hKK : d.kind.tmod 3 = 1) (hen : en = false) (hd : d.ok) (hN : 1 ≤ N ∧ N ≤ 3) (hv : VarsP w) :
    Calls Tryd.prog 46 #[.agg #[.int .u8 d.kind, .int .u8 d.set, .int .u8 d.fmt, .int .u8 d.years, .int .u8 d.day, .int .u8 d.base, .int .i8 d.off, .int .i8 d.at_], .bool first, .int .i64 N, .int .i64 year, .bool en] w fun x w' => ∃ e : EV, x = .returned (.agg #[.int .i64 e.off, .int .i64 e.kind, .int .i64 e.save, .string e.set, .string e.fmt, .bool e.ui, .int .i64 e.uy, .int .i64 e.um, .int .i64 e.dk, .int .i64 e.dw, .int .i64 e.dd, .int .i64 e.asec, .int .i64 e.ab]) ∧ GE23 N e ∧ Below w.heap.size w w' := by
  obtain ⟨O, K, S4, D20, D7, A24, B3, k, hEq, bO, bK, bS, bD, bE, bA, bB, bk⟩ := nums23 d N hd hN
  subst hen
  have BK2 := Lib.hid (show K = 1 from hEq.2.1.symm.trans hKK)
  clear hKK
  have HEQ := Lib.hid hEq
  have h2f := hd.f
  have hN3 : (N : Int) ≤ 3 := by omega
  have hNe : ¬ (N : Int) = 0 := by omega
  have hNz : ((N : Int) == 0) = false := by simpa using hNe
  have hN1 : (1 : Int) ≤ N := by omega
  have hk3 : (k : Int) ≤ 3 := by omega
  have hk10 : k < 10 := by omega
  have BO := Lib.hid bO; have BS := Lib.hid bS; have Bk := Lib.hid bk
  have q1 := hd.k.1; have q2 := hd.k.2; have q3 := hd.s.1; have q4 := hd.s.2; have q5 := hd.dy.1; have q6 := hd.dy.2; have q7 := hd.b.1; have q8 := hd.b.2; have q9 := hd.o.1; have q10 := hd.o.2; have q11 := hd.a.1; have q12 := hd.a.2
  have r1 := bO.1; have r2 := bO.2; have r3 := bS.1; have r4 := bS.2; have r5 := bD.1; have r6 := bD.2; have r7 := bE.1; have r8 := bE.2; have r9 := bA.1; have r10 := bA.2; have r11 := bB.1; have r12 := bB.2
  have rk1 : 0 ≤ K := by omega
  have rk2 : K ≤ 2 := by omega
  have w1 : IntKind.u8.wrap (1 + S4) = 1 + S4 := IntWalk.u8_in _ (by omega)
  have wO : IntKind.i64.wrap O = O := IntWalk.i64_in _ (by omega)
  have wM : IntKind.i64.wrap (900 * O) = 900 * O := IntWalk.i64_in _ (by omega)
  have wK : IntKind.i64.wrap K = K := IntWalk.i64_in _ (by omega)
  have hb0 := ((Below.refl w.heap.size w).alloc (Nat.le_refl _) (.cells #[.int .u8 d.kind, .int .u8 d.set, .int .u8 d.fmt, .int .u8 d.years, .int .u8 d.day, .int .u8 d.base, .int .i8 d.off, .int .i8 d.at_] 104)).alloc (by simp) (.cells #[.int .i64 0, .int .i64 0, .int .i64 0, .string ⟨#[]⟩, .string ⟨#[]⟩, .bool false, .int .i64 0, .int .i64 0, .int .i64 0, .int .i64 0, .int .i64 0, .int .i64 0, .int .i64 0] 47)
  have hx0 := (Blk.new w 104 #[.int .u8 d.kind, .int .u8 d.set, .int .u8 d.fmt, .int .u8 d.years, .int .u8 d.day, .int .u8 d.base, .int .i8 d.off, .int .i8 d.at_]).alloc (.cells #[.int .i64 0, .int .i64 0, .int .i64 0, .string ⟨#[]⟩, .string ⟨#[]⟩, .bool false, .int .i64 0, .int .i64 0, .int .i64 0, .int .i64 0, .int .i64 0, .int .i64 0, .int .i64 0] 47)
  have hr0 := Blk.newAt (w.alloc (.cells #[.int .u8 d.kind, .int .u8 d.set, .int .u8 d.fmt, .int .u8 d.years, .int .u8 d.day, .int .u8 d.base, .int .i8 d.off, .int .i8 d.at_] 104)) (w.heap.size + 1) (by simp) 47 #[.int .i64 0, .int .i64 0, .int .i64 0, .string ⟨#[]⟩, .string ⟨#[]⟩, .bool false, .int .i64 0, .int .i64 0, .int .i64 0, .int .i64 0, .int .i64 0, .int .i64 0, .int .i64 0]
  obtain ⟨KS, RN, hKS, hsum0, hRN⟩ : ∃ KS RN : ByteArray, KS = str [UInt8.ofNat (48 + k)] ∧ (∀ W : World, (Op.stringOp .add ⟨#[82]⟩ KS).run Tryd.prog W = .ok (.string RN) W) ∧ RN = rn k := ⟨_, rn k, rfl, cat_run [82] [UInt8.ofNat (48 + k)] (by simp), rfl⟩
  have HSUM := Lib.hid hsum0; have HRN := Lib.hid hRN
  have cI : Hid (∀ W, VarsP W → Calls Tryd.prog 45 #[.int .i64 (k : Int)] W fun e w' => e = .returned (.string KS) ∧ Below W.heap.size W w') := Lib.hid fun W h => by rw [hKS]; exact itoa23 k _ rfl hk10 W h
  clear hEq bO bS bD bE bA bB bk hd hN hKS hsum0 hRN
  go_enter Tryd.func46, Tryd.ntmps46
  go_upto_region 1 with fail
  obtain ⟨hO, hK, hS4, hD20, hD7, hA24, hB3, hkN⟩ := HEQ.out
  refine wp_region_shape [(some 12, []), (some 13, [0]), (some 14, [1]), (some 15, [2]), (some 16, [3]), (some 17, []), (some 18, [5]), (some 19, [6]), (some 20, [7]), (some 21, []), (some 22, [9]), (some 23, [10]), (some 24, [4, 8, 11]), (some 11, []), (none, [13, 12, 11, 0, 1, 2, 3, 4, 5, 6, 7, 8, 9, 10, 11, 12, 13])] (fun y => { tmps := #[.agg #[.int .u8 d.kind, .int .u8 d.set, .int .u8 d.fmt, .int .u8 d.years, .int .u8 d.day, .int .u8 d.base, .int .i8 d.off, .int .i8 d.at_], .bool first, .int .i64 N, .int .i64 year, .bool false, .pointer (some ⟨w.heap.size, 0, none⟩), undef, undef, undef, undef, .pointer (some ⟨w.heap.size + 1, 0, none⟩), y 11, y 12, y 13, y 14, y 15, y 16, y 17, y 18, y 19, y 20, y 21, y 22, y 23, y 24, undef, undef, undef, undef, undef, undef, undef, undef, undef, undef, undef, undef, undef, undef, undef, undef, undef, undef, undef, undef, undef, undef, undef, undef, undef, undef, undef, undef, undef, undef, undef, undef, undef, undef, undef, undef, undef, undef, undef, undef, undef, undef, undef, undef, undef, undef, undef, undef, undef, undef, undef, undef, undef, undef, undef, undef, undef, undef, undef, undef, undef], defers := [] }) (fun _ => undef) (fun j => j == 11 || j == 12 || j == 13 || j == 14) [.pointer (some ⟨w.heap.size, 6, none⟩), .int .i8 d.off, .int .i8 O, .int .i64 O, .int .i64 (900 * O), .pointer (some ⟨w.heap.size, 0, none⟩), .int .u8 d.kind, .int .u8 K, .int .i64 K, .pointer (some ⟨w.heap.size, 2, none⟩), .int .u8 d.fmt, undef, undef, undef, undef] (fun j y W => match j with | 11 => ∃ S, y 23 = .string S ∧ isFmt23 S | 12 => ∃ S, y 24 = .agg #[.int .i64 (900 * O), .int .i64 K, .int .i64 0, .string ⟨#[]⟩, .string S, .bool false, .int .i64 0, .int .i64 0, .int .i64 0, .int .i64 0, .int .i64 0, .int .i64 0, .int .i64 0] ∧ isFmt23 S | 13 => ∃ g, (y 11 = .pointer (some ⟨g, 0, none⟩) ∧ w.heap.size + 2 ≤ g) ∧ ∃ v0 v1 v2 v3 v4 v5 v6 v7 v8 v9 v10 v11 v12, Blk W g 47 #[v0, v1, v2, v3, v4, v5, v6, v7, v8, v9, v10, v11, v12] | 14 => ∃ g S, (y 11 = .pointer (some ⟨g, 0, none⟩) ∧ w.heap.size + 2 ≤ g) ∧ isFmt23 S ∧ Blk W g 47 #[.int .i64 (900 * O), .int .i64 K, .int .i64 0, .string ⟨#[]⟩, .string S, .bool false, .int .i64 0, .int .i64 0, .int .i64 0, .int .i64 0, .int .i64 0, .int .i64 0, .int .i64 0] | _ => True) (fun j => match j with | 11 => [23] | 12 => [24] | 13 => [11] | 14 => [11] | _ => []) (GE) (fun W => Below w.heap.size w W ∧ Blk W w.heap.size 104 #[.int .u8 d.kind, .int .u8 d.set, .int .u8 d.fmt, .int .u8 d.years, .int .u8 d.day, .int .u8 d.base, .int .i8 d.off, .int .i8 d.at_] ∧ Blk W (w.heap.size + 1) 47 #[.int .i64 0, .int .i64 0, .int .i64 0, .string ⟨#[]⟩, .string ⟨#[]⟩, .bool false, .int .i64 0, .int .i64 0, .int .i64 0, .int .i64 0, .int .i64 0, .int .i64 0, .int .i64 0]) (by kernel_rfl) (by kernel_rfl) (by decide +kernel) rfl ⟨hb0.drew, hx0, hr0⟩ ?hput1 ?hloc1 ?hmono1 ?hstep1 ?hdone1
  case hput1 =>
    intro d hd y v
    simp only [List.filterMap_cons, List.filterMap_nil, List.mem_cons, List.not_mem_nil, or_false] at hd
    rcases hd with rfl | rfl | rfl | rfl | rfl | rfl | rfl | rfl | rfl | rfl | rfl | rfl | rfl | rfl
    all_goals rfl
  case hloc1 =>
    intro j hj y y' W hk hx
    have hj' : j = 11 ∨ j = 12 ∨ j = 13 ∨ j = 14 := by simpa [or_assoc] using hj
    rcases hj' with rfl | rfl | rfl | rfl
    · simp only [List.forall_mem_cons, List.not_mem_nil, false_imp_iff, implies_true, and_true] at hk
      show _
      simpa only [hk] using hx
    · simp only [List.forall_mem_cons, List.not_mem_nil, false_imp_iff, implies_true, and_true] at hk
      show _
      simpa only [hk] using hx
    · simp only [List.forall_mem_cons, List.not_mem_nil, false_imp_iff, implies_true, and_true] at hk
      show _
      simpa only [hk] using hx
    · simp only [List.forall_mem_cons, List.not_mem_nil, false_imp_iff, implies_true, and_true] at hk
      show _
      simpa only [hk] using hx
  case hmono1 =>
    intro j hj hlast y W W' hg hx
    have hj' : j = 11 ∨ j = 12 ∨ j = 13 ∨ j = 14 := by simpa [or_assoc] using hj
    rcases hj' with rfl | rfl | rfl | rfl
    · exact hx
    · exact hx
    · obtain ⟨g, h1, h2⟩ := hx; exact ⟨g, h1, hg g h2⟩
    · exact absurd hlast (by decide)
  case hdone1 =>
    intro yy W1 hS hd
    have x14 : (fun (y : Nat → Value) (W : World) => ∃ g S, (y 11 = .pointer (some ⟨g, 0, none⟩) ∧ w.heap.size + 2 ≤ g) ∧ isFmt23 S ∧ Blk W g 47 #[.int .i64 (900 * O), .int .i64 K, .int .i64 0, .string ⟨#[]⟩, .string S, .bool false, .int .i64 0, .int .i64 0, .int .i64 0, .int .i64 0, .int .i64 0, .int .i64 0, .int .i64 0]) yy W1 := (hd 14 (by decide)).ex rfl
    obtain ⟨hb, hx, hr⟩ := hS
    obtain ⟨g, S, ⟨e11, hg2⟩, hf, hbg⟩ := x14
    rw [e11]
    clear hd e11 hb0 hx0 hr0
    obtain rfl := BK2.out
    cases first
    · skip
      have hg00 := hbg; have hx00 := hx; have hr00 := hr; have hb00 := hb
      have z1 := (hg00.cell 1).trans rfl
      have z2 := (hx00.cell 1).trans rfl
      have z3 := (hg00.cell 2).trans rfl
      have z4 := hg00.frozen 2
      have h5g : Blk _ g 47 #[.int .i64 (900 * O), .int .i64 1, .int .i64 (1800 * (1 + S4)), .string ⟨#[]⟩, .string S, .bool false, .int .i64 0, .int .i64 0, .int .i64 0, .int .i64 0, .int .i64 0, .int .i64 0, .int .i64 0] := hg00.set_ 2 (.int .i64 (1800 * (1 + S4)))
      have h5x := hx00.far (p := ⟨g, 2, none⟩) (by show _ ≠ g; omega) (.int .i64 (1800 * (1 + S4)))
      have h5r := hr00.far (p := ⟨g, 2, none⟩) (by show _ ≠ g; omega) (.int .i64 (1800 * (1 + S4)))
      have h5b := hb00.setCell (p := ⟨g, 2, none⟩) (by show w.heap.size ≤ g; omega) (.int .i64 (1800 * (1 + S4)))
      have z6 := (h5g.cell 0).trans rfl
      have z7 := (h5g.cell 1).trans rfl
      have z8 := (h5g.cell 2).trans rfl
      have z9 := (h5g.cell 3).trans rfl
      have z10 := (h5g.cell 4).trans rfl
      have z11 := (h5g.cell 5).trans rfl
      have z12 := (h5g.cell 6).trans rfl
      have z13 := (h5g.cell 7).trans rfl
      have z14 := (h5g.cell 8).trans rfl
      have z15 := (h5g.cell 9).trans rfl
      have z16 := (h5g.cell 10).trans rfl
      have z17 := (h5g.cell 11).trans rfl
      have z18 := (h5g.cell 12).trans rfl
      have z19 := (h5r.cell 0).trans rfl
      have z20 := h5r.frozen 0
      have z21 := (h5r.cell 1).trans rfl
      have z22 := h5r.frozen 1
      have z23 := (h5r.cell 2).trans rfl
      have z24 := h5r.frozen 2
      have z25 := (h5r.cell 3).trans rfl
      have z26 := h5r.frozen 3
      have z27 := (h5r.cell 4).trans rfl
      have z28 := h5r.frozen 4
      have z29 := (h5r.cell 5).trans rfl
      have z30 := h5r.frozen 5
      have z31 := (h5r.cell 6).trans rfl
      have z32 := h5r.frozen 6
      have z33 := (h5r.cell 7).trans rfl
      have z34 := h5r.frozen 7
      have z35 := (h5r.cell 8).trans rfl
      have z36 := h5r.frozen 8
      have z37 := (h5r.cell 9).trans rfl
      have z38 := h5r.frozen 9
      have z39 := (h5r.cell 10).trans rfl
      have z40 := h5r.frozen 10
      have z41 := (h5r.cell 11).trans rfl
      have z42 := h5r.frozen 11
      have z43 := (h5r.cell 12).trans rfl
      have z44 := h5r.frozen 12
      have t450 : Blk _ (w.heap.size + 1) 47 #[.int .i64 (900 * O), .int .i64 0, .int .i64 0, .string ⟨#[]⟩, .string ⟨#[]⟩, .bool false, .int .i64 0, .int .i64 0, .int .i64 0, .int .i64 0, .int .i64 0, .int .i64 0, .int .i64 0] := h5r.set_ 0 (.int .i64 (900 * O))
      have t451 : Blk _ (w.heap.size + 1) 47 #[.int .i64 (900 * O), .int .i64 1, .int .i64 0, .string ⟨#[]⟩, .string ⟨#[]⟩, .bool false, .int .i64 0, .int .i64 0, .int .i64 0, .int .i64 0, .int .i64 0, .int .i64 0, .int .i64 0] := t450.set_ 1 (.int .i64 1)
      have t452 : Blk _ (w.heap.size + 1) 47 #[.int .i64 (900 * O), .int .i64 1, .int .i64 (1800 * (1 + S4)), .string ⟨#[]⟩, .string ⟨#[]⟩, .bool false, .int .i64 0, .int .i64 0, .int .i64 0, .int .i64 0, .int .i64 0, .int .i64 0, .int .i64 0] := t451.set_ 2 (.int .i64 (1800 * (1 + S4)))
      have t453 : Blk _ (w.heap.size + 1) 47 #[.int .i64 (900 * O), .int .i64 1, .int .i64 (1800 * (1 + S4)), .string ⟨#[]⟩, .string ⟨#[]⟩, .bool false, .int .i64 0, .int .i64 0, .int .i64 0, .int .i64 0, .int .i64 0, .int .i64 0, .int .i64 0] := t452.set_ 3 (.string ⟨#[]⟩)
      have t454 : Blk _ (w.heap.size + 1) 47 #[.int .i64 (900 * O), .int .i64 1, .int .i64 (1800 * (1 + S4)), .string ⟨#[]⟩, .string S, .bool false, .int .i64 0, .int .i64 0, .int .i64 0, .int .i64 0, .int .i64 0, .int .i64 0, .int .i64 0] := t453.set_ 4 (.string S)
      have t455 : Blk _ (w.heap.size + 1) 47 #[.int .i64 (900 * O), .int .i64 1, .int .i64 (1800 * (1 + S4)), .string ⟨#[]⟩, .string S, .bool false, .int .i64 0, .int .i64 0, .int .i64 0, .int .i64 0, .int .i64 0, .int .i64 0, .int .i64 0] := t454.set_ 5 (.bool false)
      have t456 : Blk _ (w.heap.size + 1) 47 #[.int .i64 (900 * O), .int .i64 1, .int .i64 (1800 * (1 + S4)), .string ⟨#[]⟩, .string S, .bool false, .int .i64 0, .int .i64 0, .int .i64 0, .int .i64 0, .int .i64 0, .int .i64 0, .int .i64 0] := t455.set_ 6 (.int .i64 0)
      have t457 : Blk _ (w.heap.size + 1) 47 #[.int .i64 (900 * O), .int .i64 1, .int .i64 (1800 * (1 + S4)), .string ⟨#[]⟩, .string S, .bool false, .int .i64 0, .int .i64 0, .int .i64 0, .int .i64 0, .int .i64 0, .int .i64 0, .int .i64 0] := t456.set_ 7 (.int .i64 0)
      have t458 : Blk _ (w.heap.size + 1) 47 #[.int .i64 (900 * O), .int .i64 1, .int .i64 (1800 * (1 + S4)), .string ⟨#[]⟩, .string S, .bool false, .int .i64 0, .int .i64 0, .int .i64 0, .int .i64 0, .int .i64 0, .int .i64 0, .int .i64 0] := t457.set_ 8 (.int .i64 0)
      have t459 : Blk _ (w.heap.size + 1) 47 #[.int .i64 (900 * O), .int .i64 1, .int .i64 (1800 * (1 + S4)), .string ⟨#[]⟩, .string S, .bool false, .int .i64 0, .int .i64 0, .int .i64 0, .int .i64 0, .int .i64 0, .int .i64 0, .int .i64 0] := t458.set_ 9 (.int .i64 0)
      have t4510 : Blk _ (w.heap.size + 1) 47 #[.int .i64 (900 * O), .int .i64 1, .int .i64 (1800 * (1 + S4)), .string ⟨#[]⟩, .string S, .bool false, .int .i64 0, .int .i64 0, .int .i64 0, .int .i64 0, .int .i64 0, .int .i64 0, .int .i64 0] := t459.set_ 10 (.int .i64 0)
      have t4511 : Blk _ (w.heap.size + 1) 47 #[.int .i64 (900 * O), .int .i64 1, .int .i64 (1800 * (1 + S4)), .string ⟨#[]⟩, .string S, .bool false, .int .i64 0, .int .i64 0, .int .i64 0, .int .i64 0, .int .i64 0, .int .i64 0, .int .i64 0] := t4510.set_ 11 (.int .i64 0)
      have t4512 : Blk _ (w.heap.size + 1) 47 #[.int .i64 (900 * O), .int .i64 1, .int .i64 (1800 * (1 + S4)), .string ⟨#[]⟩, .string S, .bool false, .int .i64 0, .int .i64 0, .int .i64 0, .int .i64 0, .int .i64 0, .int .i64 0, .int .i64 0] := t4511.set_ 12 (.int .i64 0)
      have kk0 := (t4512.cell 0).trans rfl
      have kk1 := (t4512.cell 1).trans rfl
      have kk2 := (t4512.cell 2).trans rfl
      have kk3 := (t4512.cell 3).trans rfl
      have kk4 := (t4512.cell 4).trans rfl
      have kk5 := (t4512.cell 5).trans rfl
      have kk6 := (t4512.cell 6).trans rfl
      have kk7 := (t4512.cell 7).trans rfl
      have kk8 := (t4512.cell 8).trans rfl
      have kk9 := (t4512.cell 9).trans rfl
      have kk10 := (t4512.cell 10).trans rfl
      have kk11 := (t4512.cell 11).trans rfl
      have kk12 := (t4512.cell 12).trans rfl
      have HBF := Lib.hid (((((((((((((h5b.setCell (p := ⟨w.heap.size + 1, 0, none⟩) (Nat.le_succ _) (.int .i64 (900 * O))).setCell (p := ⟨w.heap.size + 1, 1, none⟩) (Nat.le_succ _) (.int .i64 1)).setCell (p := ⟨w.heap.size + 1, 2, none⟩) (Nat.le_succ _) (.int .i64 (1800 * (1 + S4)))).setCell (p := ⟨w.heap.size + 1, 3, none⟩) (Nat.le_succ _) (.string ⟨#[]⟩)).setCell (p := ⟨w.heap.size + 1, 4, none⟩) (Nat.le_succ _) (.string S)).setCell (p := ⟨w.heap.size + 1, 5, none⟩) (Nat.le_succ _) (.bool false)).setCell (p := ⟨w.heap.size + 1, 6, none⟩) (Nat.le_succ _) (.int .i64 0)).setCell (p := ⟨w.heap.size + 1, 7, none⟩) (Nat.le_succ _) (.int .i64 0)).setCell (p := ⟨w.heap.size + 1, 8, none⟩) (Nat.le_succ _) (.int .i64 0)).setCell (p := ⟨w.heap.size + 1, 9, none⟩) (Nat.le_succ _) (.int .i64 0)).setCell (p := ⟨w.heap.size + 1, 10, none⟩) (Nat.le_succ _) (.int .i64 0)).setCell (p := ⟨w.heap.size + 1, 11, none⟩) (Nat.le_succ _) (.int .i64 0)).setCell (p := ⟨w.heap.size + 1, 12, none⟩) (Nat.le_succ _) (.int .i64 0))
      clear t450 t451 t452 t453 t454 t455 t456 t457 t458 t459 t4510 t4511 t4512
      have H46g := Lib.hid h5g; have H46x := Lib.hid h5x; have H46r := Lib.hid h5r; have H46b := Lib.hid h5b
      clear hg00 hx00 hr00 hb00 h5g h5x h5r h5b
      go_wp2_with fail
      refine bodyPost_ret (v := .agg #[.int .i64 (900 * O), .int .i64 1, .int .i64 (1800 * (1 + S4)), .string ⟨#[]⟩, .string S, .bool false, .int .i64 0, .int .i64 0, .int .i64 0, .int .i64 0, .int .i64 0, .int .i64 0, .int .i64 0]) (by simp [results, Tryd.results46, go_sem, kk0, kk1, kk2, kk3, kk4, kk5, kk6, kk7, kk8, kk9, kk10, kk11, kk12]) rfl ?_
      exact ⟨⟨(900 * O), 1, (1800 * (1 + S4)), ⟨#[]⟩, S, false, 0, 0, 0, 0, 0, 0, 0⟩, rfl, ⟨(by show -42300 ≤ 900 * O ∧ 900 * O ≤ 42300; have := BO.out; omega), .inr (.inl rfl), hf, (by show 0 ≤ 1800 * (1 + S4) ∧ 1800 * (1 + S4) ≤ 7200; have := BS.out; omega), fun h => by cases h⟩, HBF.out⟩
    · skip
      have hg00 := hbg; have hx00 := hx; have hr00 := hr; have hb00 := hb
      have z1 := (hg00.cell 1).trans rfl
      have z2 := (hg00.cell 1).trans rfl
      have z3 := (hx00.cell 1).trans rfl
      have z4 := (hg00.cell 2).trans rfl
      have z5 := hg00.frozen 2
      have h6g : Blk _ g 47 #[.int .i64 (900 * O), .int .i64 1, .int .i64 (1800 * (1 + S4)), .string ⟨#[]⟩, .string S, .bool false, .int .i64 0, .int .i64 0, .int .i64 0, .int .i64 0, .int .i64 0, .int .i64 0, .int .i64 0] := hg00.set_ 2 (.int .i64 (1800 * (1 + S4)))
      have h6x := hx00.far (p := ⟨g, 2, none⟩) (by show _ ≠ g; omega) (.int .i64 (1800 * (1 + S4)))
      have h6r := hr00.far (p := ⟨g, 2, none⟩) (by show _ ≠ g; omega) (.int .i64 (1800 * (1 + S4)))
      have h6b := hb00.setCell (p := ⟨g, 2, none⟩) (by show w.heap.size ≤ g; omega) (.int .i64 (1800 * (1 + S4)))
      have z7 := (h6g.cell 0).trans rfl
      have z8 := (h6g.cell 1).trans rfl
      have z9 := (h6g.cell 2).trans rfl
      have z10 := (h6g.cell 3).trans rfl
      have z11 := (h6g.cell 4).trans rfl
      have z12 := (h6g.cell 5).trans rfl
      have z13 := (h6g.cell 6).trans rfl
      have z14 := (h6g.cell 7).trans rfl
      have z15 := (h6g.cell 8).trans rfl
      have z16 := (h6g.cell 9).trans rfl
      have z17 := (h6g.cell 10).trans rfl
      have z18 := (h6g.cell 11).trans rfl
      have z19 := (h6g.cell 12).trans rfl
      have z20 := (h6r.cell 0).trans rfl
      have z21 := h6r.frozen 0
      have z22 := (h6r.cell 1).trans rfl
      have z23 := h6r.frozen 1
      have z24 := (h6r.cell 2).trans rfl
      have z25 := h6r.frozen 2
      have z26 := (h6r.cell 3).trans rfl
      have z27 := h6r.frozen 3
      have z28 := (h6r.cell 4).trans rfl
      have z29 := h6r.frozen 4
      have z30 := (h6r.cell 5).trans rfl
      have z31 := h6r.frozen 5
      have z32 := (h6r.cell 6).trans rfl
      have z33 := h6r.frozen 6
      have z34 := (h6r.cell 7).trans rfl
      have z35 := h6r.frozen 7
      have z36 := (h6r.cell 8).trans rfl
      have z37 := h6r.frozen 8
      have z38 := (h6r.cell 9).trans rfl
      have z39 := h6r.frozen 9
      have z40 := (h6r.cell 10).trans rfl
      have z41 := h6r.frozen 10
      have z42 := (h6r.cell 11).trans rfl
      have z43 := h6r.frozen 11
      have z44 := (h6r.cell 12).trans rfl
      have z45 := h6r.frozen 12
      have t460 : Blk _ (w.heap.size + 1) 47 #[.int .i64 (900 * O), .int .i64 0, .int .i64 0, .string ⟨#[]⟩, .string ⟨#[]⟩, .bool false, .int .i64 0, .int .i64 0, .int .i64 0, .int .i64 0, .int .i64 0, .int .i64 0, .int .i64 0] := h6r.set_ 0 (.int .i64 (900 * O))
      have t461 : Blk _ (w.heap.size + 1) 47 #[.int .i64 (900 * O), .int .i64 1, .int .i64 0, .string ⟨#[]⟩, .string ⟨#[]⟩, .bool false, .int .i64 0, .int .i64 0, .int .i64 0, .int .i64 0, .int .i64 0, .int .i64 0, .int .i64 0] := t460.set_ 1 (.int .i64 1)
      have t462 : Blk _ (w.heap.size + 1) 47 #[.int .i64 (900 * O), .int .i64 1, .int .i64 (1800 * (1 + S4)), .string ⟨#[]⟩, .string ⟨#[]⟩, .bool false, .int .i64 0, .int .i64 0, .int .i64 0, .int .i64 0, .int .i64 0, .int .i64 0, .int .i64 0] := t461.set_ 2 (.int .i64 (1800 * (1 + S4)))
      have t463 : Blk _ (w.heap.size + 1) 47 #[.int .i64 (900 * O), .int .i64 1, .int .i64 (1800 * (1 + S4)), .string ⟨#[]⟩, .string ⟨#[]⟩, .bool false, .int .i64 0, .int .i64 0, .int .i64 0, .int .i64 0, .int .i64 0, .int .i64 0, .int .i64 0] := t462.set_ 3 (.string ⟨#[]⟩)
      have t464 : Blk _ (w.heap.size + 1) 47 #[.int .i64 (900 * O), .int .i64 1, .int .i64 (1800 * (1 + S4)), .string ⟨#[]⟩, .string S, .bool false, .int .i64 0, .int .i64 0, .int .i64 0, .int .i64 0, .int .i64 0, .int .i64 0, .int .i64 0] := t463.set_ 4 (.string S)
      have t465 : Blk _ (w.heap.size + 1) 47 #[.int .i64 (900 * O), .int .i64 1, .int .i64 (1800 * (1 + S4)), .string ⟨#[]⟩, .string S, .bool false, .int .i64 0, .int .i64 0, .int .i64 0, .int .i64 0, .int .i64 0, .int .i64 0, .int .i64 0] := t464.set_ 5 (.bool false)
      have t466 : Blk _ (w.heap.size + 1) 47 #[.int .i64 (900 * O), .int .i64 1, .int .i64 (1800 * (1 + S4)), .string ⟨#[]⟩, .string S, .bool false, .int .i64 0, .int .i64 0, .int .i64 0, .int .i64 0, .int .i64 0, .int .i64 0, .int .i64 0] := t465.set_ 6 (.int .i64 0)
      have t467 : Blk _ (w.heap.size + 1) 47 #[.int .i64 (900 * O), .int .i64 1, .int .i64 (1800 * (1 + S4)), .string ⟨#[]⟩, .string S, .bool false, .int .i64 0, .int .i64 0, .int .i64 0, .int .i64 0, .int .i64 0, .int .i64 0, .int .i64 0] := t466.set_ 7 (.int .i64 0)
      have t468 : Blk _ (w.heap.size + 1) 47 #[.int .i64 (900 * O), .int .i64 1, .int .i64 (1800 * (1 + S4)), .string ⟨#[]⟩, .string S, .bool false, .int .i64 0, .int .i64 0, .int .i64 0, .int .i64 0, .int .i64 0, .int .i64 0, .int .i64 0] := t467.set_ 8 (.int .i64 0)
      have t469 : Blk _ (w.heap.size + 1) 47 #[.int .i64 (900 * O), .int .i64 1, .int .i64 (1800 * (1 + S4)), .string ⟨#[]⟩, .string S, .bool false, .int .i64 0, .int .i64 0, .int .i64 0, .int .i64 0, .int .i64 0, .int .i64 0, .int .i64 0] := t468.set_ 9 (.int .i64 0)
      have t4610 : Blk _ (w.heap.size + 1) 47 #[.int .i64 (900 * O), .int .i64 1, .int .i64 (1800 * (1 + S4)), .string ⟨#[]⟩, .string S, .bool false, .int .i64 0, .int .i64 0, .int .i64 0, .int .i64 0, .int .i64 0, .int .i64 0, .int .i64 0] := t469.set_ 10 (.int .i64 0)
      have t4611 : Blk _ (w.heap.size + 1) 47 #[.int .i64 (900 * O), .int .i64 1, .int .i64 (1800 * (1 + S4)), .string ⟨#[]⟩, .string S, .bool false, .int .i64 0, .int .i64 0, .int .i64 0, .int .i64 0, .int .i64 0, .int .i64 0, .int .i64 0] := t4610.set_ 11 (.int .i64 0)
      have t4612 : Blk _ (w.heap.size + 1) 47 #[.int .i64 (900 * O), .int .i64 1, .int .i64 (1800 * (1 + S4)), .string ⟨#[]⟩, .string S, .bool false, .int .i64 0, .int .i64 0, .int .i64 0, .int .i64 0, .int .i64 0, .int .i64 0, .int .i64 0] := t4611.set_ 12 (.int .i64 0)
      have kk0 := (t4612.cell 0).trans rfl
      have kk1 := (t4612.cell 1).trans rfl
      have kk2 := (t4612.cell 2).trans rfl
      have kk3 := (t4612.cell 3).trans rfl
      have kk4 := (t4612.cell 4).trans rfl
      have kk5 := (t4612.cell 5).trans rfl
      have kk6 := (t4612.cell 6).trans rfl
      have kk7 := (t4612.cell 7).trans rfl
      have kk8 := (t4612.cell 8).trans rfl
      have kk9 := (t4612.cell 9).trans rfl
      have kk10 := (t4612.cell 10).trans rfl
      have kk11 := (t4612.cell 11).trans rfl
      have kk12 := (t4612.cell 12).trans rfl
      have HBF := Lib.hid (((((((((((((h6b.setCell (p := ⟨w.heap.size + 1, 0, none⟩) (Nat.le_succ _) (.int .i64 (900 * O))).setCell (p := ⟨w.heap.size + 1, 1, none⟩) (Nat.le_succ _) (.int .i64 1)).setCell (p := ⟨w.heap.size + 1, 2, none⟩) (Nat.le_succ _) (.int .i64 (1800 * (1 + S4)))).setCell (p := ⟨w.heap.size + 1, 3, none⟩) (Nat.le_succ _) (.string ⟨#[]⟩)).setCell (p := ⟨w.heap.size + 1, 4, none⟩) (Nat.le_succ _) (.string S)).setCell (p := ⟨w.heap.size + 1, 5, none⟩) (Nat.le_succ _) (.bool false)).setCell (p := ⟨w.heap.size + 1, 6, none⟩) (Nat.le_succ _) (.int .i64 0)).setCell (p := ⟨w.heap.size + 1, 7, none⟩) (Nat.le_succ _) (.int .i64 0)).setCell (p := ⟨w.heap.size + 1, 8, none⟩) (Nat.le_succ _) (.int .i64 0)).setCell (p := ⟨w.heap.size + 1, 9, none⟩) (Nat.le_succ _) (.int .i64 0)).setCell (p := ⟨w.heap.size + 1, 10, none⟩) (Nat.le_succ _) (.int .i64 0)).setCell (p := ⟨w.heap.size + 1, 11, none⟩) (Nat.le_succ _) (.int .i64 0)).setCell (p := ⟨w.heap.size + 1, 12, none⟩) (Nat.le_succ _) (.int .i64 0))
      clear t460 t461 t462 t463 t464 t465 t466 t467 t468 t469 t4610 t4611 t4612
      have H47g := Lib.hid h6g; have H47x := Lib.hid h6x; have H47r := Lib.hid h6r; have H47b := Lib.hid h6b
      clear hg00 hx00 hr00 hb00 h6g h6x h6r h6b
      go_wp2_with fail
      refine bodyPost_ret (v := .agg #[.int .i64 (900 * O), .int .i64 1, .int .i64 (1800 * (1 + S4)), .string ⟨#[]⟩, .string S, .bool false, .int .i64 0, .int .i64 0, .int .i64 0, .int .i64 0, .int .i64 0, .int .i64 0, .int .i64 0]) (by simp [results, Tryd.results46, go_sem, kk0, kk1, kk2, kk3, kk4, kk5, kk6, kk7, kk8, kk9, kk10, kk11, kk12]) rfl ?_
      exact ⟨⟨(900 * O), 1, (1800 * (1 + S4)), ⟨#[]⟩, S, false, 0, 0, 0, 0, 0, 0, 0⟩, rfl, ⟨(by show -42300 ≤ 900 * O ∧ 900 * O ≤ 42300; have := BO.out; omega), .inr (.inl rfl), hf, (by show 0 ≤ 1800 * (1 + S4) ∧ 1800 * (1 + S4) ≤ 7200; have := BS.out; omega), fun h => by cases h⟩, HBF.out⟩
  case hstep1 =>
    refine StepsOk.cons (StepOk.known rfl fun y W hS hd K' hK => ?_) ?_
    · skip
      clear hd
      go_simp
      exact hK.out _ _ rfl (GE.refl _) hS
    refine StepsOk.cons (StepOk.known rfl fun y W hS hd K' hK => ?_) ?_
    · skip
      have e12 : y 12 = .pointer (some ⟨w.heap.size, 6, none⟩) := (hd 0 rfl).val rfl rfl
      clear hd
      have hc := (hS.2.1.cell 6).trans rfl
      go_simp
      exact hK.out _ _ (by first | rfl | (simp only [e12]; done) | (simp only [e12]; rfl)) (GE.refl _) hS
    refine StepsOk.cons (StepOk.known rfl fun y W hS hd K' hK => ?_) ?_
    · skip
      have e13 : y 13 = .int .i8 d.off := (hd 1 rfl).val rfl rfl
      clear hd
      go_simp
      exact hK.out _ _ (by first | rfl | (simp only [e13]; done) | (simp only [e13]; rfl)) (GE.refl _) hS
    refine StepsOk.cons (StepOk.known rfl fun y W hS hd K' hK => ?_) ?_
    · skip
      have e14 : y 14 = .int .i8 O := (hd 2 rfl).val rfl rfl
      clear hd
      go_simp
      exact hK.out _ _ (by first | rfl | (simp only [e14]; done) | (simp only [e14]; rfl)) (GE.refl _) hS
    refine StepsOk.cons (StepOk.known rfl fun y W hS hd K' hK => ?_) ?_
    · skip
      have e15 : y 15 = .int .i64 O := (hd 3 rfl).val rfl rfl
      clear hd
      go_simp
      exact hK.out _ _ (by first | rfl | (simp only [e15]; done) | (simp only [e15]; rfl)) (GE.refl _) hS
    refine StepsOk.cons (StepOk.known rfl fun y W hS hd K' hK => ?_) ?_
    · skip
      clear hd
      go_simp
      exact hK.out _ _ rfl (GE.refl _) hS
    refine StepsOk.cons (StepOk.known rfl fun y W hS hd K' hK => ?_) ?_
    · skip
      have e17 : y 17 = .pointer (some ⟨w.heap.size, 0, none⟩) := (hd 5 rfl).val rfl rfl
      clear hd
      have hc := (hS.2.1.cell 0).trans rfl
      go_simp
      exact hK.out _ _ (by first | rfl | (simp only [e17]; done) | (simp only [e17]; rfl)) (GE.refl _) hS
    refine StepsOk.cons (StepOk.known rfl fun y W hS hd K' hK => ?_) ?_
    · skip
      have e18 : y 18 = .int .u8 d.kind := (hd 6 rfl).val rfl rfl
      clear hd
      go_simp
      exact hK.out _ _ (by first | rfl | (simp only [e18]; done) | (simp only [e18]; rfl)) (GE.refl _) hS
    refine StepsOk.cons (StepOk.known rfl fun y W hS hd K' hK => ?_) ?_
    · skip
      have e19 : y 19 = .int .u8 K := (hd 7 rfl).val rfl rfl
      clear hd
      go_simp
      exact hK.out _ _ (by first | rfl | (simp only [e19]; done) | (simp only [e19]; rfl)) (GE.refl _) hS
    refine StepsOk.cons (StepOk.known rfl fun y W hS hd K' hK => ?_) ?_
    · skip
      clear hd
      go_simp
      exact hK.out _ _ rfl (GE.refl _) hS
    refine StepsOk.cons (StepOk.known rfl fun y W hS hd K' hK => ?_) ?_
    · skip
      have e21 : y 21 = .pointer (some ⟨w.heap.size, 2, none⟩) := (hd 9 rfl).val rfl rfl
      clear hd
      have hc := (hS.2.1.cell 2).trans rfl
      go_simp
      exact hK.out _ _ (by first | rfl | (simp only [e21]; done) | (simp only [e21]; rfl)) (GE.refl _) hS
    refine StepsOk.cons (StepOk.other rfl fun y W hS hd K' hK => ?_) ?_
    · skip
      have e22 : y 22 = .int .u8 d.fmt := (hd 10 rfl).val rfl rfl
      clear hd
      go_simp
      obtain ⟨hb, hx, hr⟩ := hS
      refine (format23_any d.fmt W h2f).mono ?_
      rintro e W' ⟨S, rfl, hf, hc⟩
      go_wp2_with fail
      exact hK.out _ _ _ (by first | rfl | (simp only [e22]; done) | (simp only [e22]; rfl)) (GE.below hc) ⟨hb.trans (hc.mono hb.size), hx.below hc hx.lt, hr.below hc hr.lt⟩ (show ∃ S, _ = Value.string S ∧ isFmt23 S from ⟨S, rfl, hf⟩)
    refine StepsOk.cons (StepOk.other rfl fun y W hS hd K' hK => ?_) ?_
    · skip
      have e16 : y 16 = .int .i64 (900 * O) := (hd 4 rfl).val rfl rfl
      have e20 : y 20 = .int .i64 K := (hd 8 rfl).val rfl rfl
      have x11 : (fun (y : Nat → Value) (W : World) => ∃ S, y 23 = .string S ∧ isFmt23 S) y W := (hd 11 rfl).ex rfl
      clear hd
      obtain ⟨S, h1, h2⟩ := x11
      go_simp
      exact hK.out _ _ _ (by first | rfl | (simp only [h1, e16, e20]; done) | (simp only [h1, e16, e20]; rfl)) (GE.refl _) hS (show ∃ S, _ = Value.agg #[.int .i64 (900 * O), .int .i64 K, .int .i64 0, .string ⟨#[]⟩, .string S, .bool false, .int .i64 0, .int .i64 0, .int .i64 0, .int .i64 0, .int .i64 0, .int .i64 0, .int .i64 0] ∧ isFmt23 S from ⟨S, rfl, h2⟩)
    refine StepsOk.cons (StepOk.other rfl fun y W hS hd K' hK => ?_) ?_
    · skip
      clear hd
      obtain ⟨hb, hx, hr⟩ := hS
      have hle := hr.lt
      go_simp
      exact hK.out _ _ _ rfl (GE.alloc W _) ⟨hb.alloc hb.size _, hx.alloc _, hr.alloc _⟩ (show ∃ g, (_ = Value.pointer (some ⟨g, 0, none⟩) ∧ w.heap.size + 2 ≤ g) ∧ ∃ v0 v1 v2 v3 v4 v5 v6 v7 v8 v9 v10 v11 v12, Blk _ g 47 #[v0, v1, v2, v3, v4, v5, v6, v7, v8, v9, v10, v11, v12] from ⟨W.heap.size, ⟨rfl, by omega⟩, _, _, _, _, _, _, _, _, _, _, _, _, _, Blk.new W 47 #[.int .i64 0, .int .i64 0, .int .i64 0, .string ⟨#[]⟩, .string ⟨#[]⟩, .bool false, .int .i64 0, .int .i64 0, .int .i64 0, .int .i64 0, .int .i64 0, .int .i64 0, .int .i64 0]⟩)
    refine StepsOk.cons (StepOk.other rfl fun y W hS hd K' hK => ?_) ?_
    · skip
      have x12 : (fun (y : Nat → Value) (W : World) => ∃ S, y 24 = .agg #[.int .i64 (900 * O), .int .i64 K, .int .i64 0, .string ⟨#[]⟩, .string S, .bool false, .int .i64 0, .int .i64 0, .int .i64 0, .int .i64 0, .int .i64 0, .int .i64 0, .int .i64 0] ∧ isFmt23 S) y W := (hd 12 rfl).ex rfl
      have x13 : (fun (y : Nat → Value) (W : World) => ∃ g, (y 11 = .pointer (some ⟨g, 0, none⟩) ∧ w.heap.size + 2 ≤ g) ∧ ∃ v0 v1 v2 v3 v4 v5 v6 v7 v8 v9 v10 v11 v12, Blk W g 47 #[v0, v1, v2, v3, v4, v5, v6, v7, v8, v9, v10, v11, v12]) y W := (hd 13 rfl).ex rfl
      clear hd
      obtain ⟨g, ⟨h1, h2⟩, v0, v1, v2, v3, v4, v5, v6, v7, v8, v9, v10, v11, v12, hr0⟩ := x13
      obtain ⟨S, h3, h4⟩ := x12
      have k0 := (hr0.cell 0).trans rfl
      have k1 := (hr0.cell 1).trans rfl
      have k2 := (hr0.cell 2).trans rfl
      have k3 := (hr0.cell 3).trans rfl
      have k4 := (hr0.cell 4).trans rfl
      have k5 := (hr0.cell 5).trans rfl
      have k6 := (hr0.cell 6).trans rfl
      have k7 := (hr0.cell 7).trans rfl
      have k8 := (hr0.cell 8).trans rfl
      have k9 := (hr0.cell 9).trans rfl
      have k10 := (hr0.cell 10).trans rfl
      have k11 := (hr0.cell 11).trans rfl
      have k12 := (hr0.cell 12).trans rfl
      have f0 := hr0.frozen 0
      have f1 := hr0.frozen 1
      have f2 := hr0.frozen 2
      have f3 := hr0.frozen 3
      have f4 := hr0.frozen 4
      have f5 := hr0.frozen 5
      have f6 := hr0.frozen 6
      have f7 := hr0.frozen 7
      have f8 := hr0.frozen 8
      have f9 := hr0.frozen 9
      have f10 := hr0.frozen 10
      have f11 := hr0.frozen 11
      have f12 := hr0.frozen 12
      have hr1 : Blk _ g 47 #[.int .i64 (900 * O), v1, v2, v3, v4, v5, v6, v7, v8, v9, v10, v11, v12] := hr0.set_ 0 (.int .i64 (900 * O))
      have q1 := GE.set_ hr0 0 (.int .i64 (900 * O))
      have hr2 : Blk _ g 47 #[.int .i64 (900 * O), .int .i64 K, v2, v3, v4, v5, v6, v7, v8, v9, v10, v11, v12] := hr1.set_ 1 (.int .i64 K)
      have q2 := GE.set_ hr1 1 (.int .i64 K)
      have hr3 : Blk _ g 47 #[.int .i64 (900 * O), .int .i64 K, .int .i64 0, v3, v4, v5, v6, v7, v8, v9, v10, v11, v12] := hr2.set_ 2 (.int .i64 0)
      have q3 := GE.set_ hr2 2 (.int .i64 0)
      have hr4 : Blk _ g 47 #[.int .i64 (900 * O), .int .i64 K, .int .i64 0, .string ⟨#[]⟩, v4, v5, v6, v7, v8, v9, v10, v11, v12] := hr3.set_ 3 (.string ⟨#[]⟩)
      have q4 := GE.set_ hr3 3 (.string ⟨#[]⟩)
      have hr5 : Blk _ g 47 #[.int .i64 (900 * O), .int .i64 K, .int .i64 0, .string ⟨#[]⟩, .string S, v5, v6, v7, v8, v9, v10, v11, v12] := hr4.set_ 4 (.string S)
      have q5 := GE.set_ hr4 4 (.string S)
      have hr6 : Blk _ g 47 #[.int .i64 (900 * O), .int .i64 K, .int .i64 0, .string ⟨#[]⟩, .string S, .bool false, v6, v7, v8, v9, v10, v11, v12] := hr5.set_ 5 (.bool false)
      have q6 := GE.set_ hr5 5 (.bool false)
      have hr7 : Blk _ g 47 #[.int .i64 (900 * O), .int .i64 K, .int .i64 0, .string ⟨#[]⟩, .string S, .bool false, .int .i64 0, v7, v8, v9, v10, v11, v12] := hr6.set_ 6 (.int .i64 0)
      have q7 := GE.set_ hr6 6 (.int .i64 0)
      have hr8 : Blk _ g 47 #[.int .i64 (900 * O), .int .i64 K, .int .i64 0, .string ⟨#[]⟩, .string S, .bool false, .int .i64 0, .int .i64 0, v8, v9, v10, v11, v12] := hr7.set_ 7 (.int .i64 0)
      have q8 := GE.set_ hr7 7 (.int .i64 0)
      have hr9 : Blk _ g 47 #[.int .i64 (900 * O), .int .i64 K, .int .i64 0, .string ⟨#[]⟩, .string S, .bool false, .int .i64 0, .int .i64 0, .int .i64 0, v9, v10, v11, v12] := hr8.set_ 8 (.int .i64 0)
      have q9 := GE.set_ hr8 8 (.int .i64 0)
      have hr10 : Blk _ g 47 #[.int .i64 (900 * O), .int .i64 K, .int .i64 0, .string ⟨#[]⟩, .string S, .bool false, .int .i64 0, .int .i64 0, .int .i64 0, .int .i64 0, v10, v11, v12] := hr9.set_ 9 (.int .i64 0)
      have q10 := GE.set_ hr9 9 (.int .i64 0)
      have hr11 : Blk _ g 47 #[.int .i64 (900 * O), .int .i64 K, .int .i64 0, .string ⟨#[]⟩, .string S, .bool false, .int .i64 0, .int .i64 0, .int .i64 0, .int .i64 0, .int .i64 0, v11, v12] := hr10.set_ 10 (.int .i64 0)
      have q11 := GE.set_ hr10 10 (.int .i64 0)
      have hr12 : Blk _ g 47 #[.int .i64 (900 * O), .int .i64 K, .int .i64 0, .string ⟨#[]⟩, .string S, .bool false, .int .i64 0, .int .i64 0, .int .i64 0, .int .i64 0, .int .i64 0, .int .i64 0, v12] := hr11.set_ 11 (.int .i64 0)
      have q12 := GE.set_ hr11 11 (.int .i64 0)
      have hr13 : Blk _ g 47 #[.int .i64 (900 * O), .int .i64 K, .int .i64 0, .string ⟨#[]⟩, .string S, .bool false, .int .i64 0, .int .i64 0, .int .i64 0, .int .i64 0, .int .i64 0, .int .i64 0, .int .i64 0] := hr12.set_ 12 (.int .i64 0)
      have q13 := GE.set_ hr12 12 (.int .i64 0)
      have hG := q1.trans (q2.trans (q3.trans (q4.trans (q5.trans (q6.trans (q7.trans (q8.trans (q9.trans (q10.trans (q11.trans (q12.trans (q13))))))))))))
      obtain ⟨hb, hx, hr⟩ := hS
      have hb2 := ((((((((((((hb.setCell (p := ⟨g, 0, none⟩) (by show w.heap.size ≤ g; omega) (.int .i64 (900 * O))).setCell (p := ⟨g, 1, none⟩) (by show w.heap.size ≤ g; omega) (.int .i64 K)).setCell (p := ⟨g, 2, none⟩) (by show w.heap.size ≤ g; omega) (.int .i64 0)).setCell (p := ⟨g, 3, none⟩) (by show w.heap.size ≤ g; omega) (.string ⟨#[]⟩)).setCell (p := ⟨g, 4, none⟩) (by show w.heap.size ≤ g; omega) (.string S)).setCell (p := ⟨g, 5, none⟩) (by show w.heap.size ≤ g; omega) (.bool false)).setCell (p := ⟨g, 6, none⟩) (by show w.heap.size ≤ g; omega) (.int .i64 0)).setCell (p := ⟨g, 7, none⟩) (by show w.heap.size ≤ g; omega) (.int .i64 0)).setCell (p := ⟨g, 8, none⟩) (by show w.heap.size ≤ g; omega) (.int .i64 0)).setCell (p := ⟨g, 9, none⟩) (by show w.heap.size ≤ g; omega) (.int .i64 0)).setCell (p := ⟨g, 10, none⟩) (by show w.heap.size ≤ g; omega) (.int .i64 0)).setCell (p := ⟨g, 11, none⟩) (by show w.heap.size ≤ g; omega) (.int .i64 0)).setCell (p := ⟨g, 12, none⟩) (by show w.heap.size ≤ g; omega) (.int .i64 0)
      have hx' := ((((((((((((hx.far (p := ⟨g, 0, none⟩) (by show _ ≠ g; omega) (.int .i64 (900 * O))).far (p := ⟨g, 1, none⟩) (by show _ ≠ g; omega) (.int .i64 K)).far (p := ⟨g, 2, none⟩) (by show _ ≠ g; omega) (.int .i64 0)).far (p := ⟨g, 3, none⟩) (by show _ ≠ g; omega) (.string ⟨#[]⟩)).far (p := ⟨g, 4, none⟩) (by show _ ≠ g; omega) (.string S)).far (p := ⟨g, 5, none⟩) (by show _ ≠ g; omega) (.bool false)).far (p := ⟨g, 6, none⟩) (by show _ ≠ g; omega) (.int .i64 0)).far (p := ⟨g, 7, none⟩) (by show _ ≠ g; omega) (.int .i64 0)).far (p := ⟨g, 8, none⟩) (by show _ ≠ g; omega) (.int .i64 0)).far (p := ⟨g, 9, none⟩) (by show _ ≠ g; omega) (.int .i64 0)).far (p := ⟨g, 10, none⟩) (by show _ ≠ g; omega) (.int .i64 0)).far (p := ⟨g, 11, none⟩) (by show _ ≠ g; omega) (.int .i64 0)).far (p := ⟨g, 12, none⟩) (by show _ ≠ g; omega) (.int .i64 0)
      have hr' := ((((((((((((hr.far (p := ⟨g, 0, none⟩) (by show _ ≠ g; omega) (.int .i64 (900 * O))).far (p := ⟨g, 1, none⟩) (by show _ ≠ g; omega) (.int .i64 K)).far (p := ⟨g, 2, none⟩) (by show _ ≠ g; omega) (.int .i64 0)).far (p := ⟨g, 3, none⟩) (by show _ ≠ g; omega) (.string ⟨#[]⟩)).far (p := ⟨g, 4, none⟩) (by show _ ≠ g; omega) (.string S)).far (p := ⟨g, 5, none⟩) (by show _ ≠ g; omega) (.bool false)).far (p := ⟨g, 6, none⟩) (by show _ ≠ g; omega) (.int .i64 0)).far (p := ⟨g, 7, none⟩) (by show _ ≠ g; omega) (.int .i64 0)).far (p := ⟨g, 8, none⟩) (by show _ ≠ g; omega) (.int .i64 0)).far (p := ⟨g, 9, none⟩) (by show _ ≠ g; omega) (.int .i64 0)).far (p := ⟨g, 10, none⟩) (by show _ ≠ g; omega) (.int .i64 0)).far (p := ⟨g, 11, none⟩) (by show _ ≠ g; omega) (.int .i64 0)).far (p := ⟨g, 12, none⟩) (by show _ ≠ g; omega) (.int .i64 0)
      have HH := Lib.hid (And.intro hr13 (And.intro hG (And.intro hb2 (And.intro hx' hr'))))
      clear hr0 hr1 hr2 hr3 hr4 hr5 hr6 hr7 hr8 hr9 hr10 hr11 hr12 hr13 q1 q2 q3 q4 q5 q6 q7 q8 q9 q10 q11 q12 q13 hG hb2 hb hx hr hx' hr'
      go_simp
      exact hK.out undef _ _ (by first | rfl | (simp only [h1, h3]; done) | (simp only [h1, h3]; rfl)) HH.out.2.1 HH.out.2.2 (show ∃ g S, (y 11 = Value.pointer (some ⟨g, 0, none⟩) ∧ w.heap.size + 2 ≤ g) ∧ isFmt23 S ∧ Blk _ g 47 #[.int .i64 (900 * O), .int .i64 K, .int .i64 0, .string ⟨#[]⟩, .string S, .bool false, .int .i64 0, .int .i64 0, .int .i64 0, .int .i64 0, .int .i64 0, .int .i64 0, .int .i64 0] from ⟨g, S, ⟨h1, h2⟩, h4, HH.out.1⟩)
    exact StepsOk.nil

set_option maxRecDepth 100000 in
set_option maxHeartbeats 16000000 in
theorem era23_n2 (d : E23) (first : Bool) (N : Nat) (year : Int) (en : Bool) (w : World) (hKK : d.kind.tmod 3 = 2) (hen : en = false) (hd : d.ok) (hN : 1 ≤ N ∧ N ≤ 3) (hv : VarsP w) :
    Calls Tryd.prog 46 #[.agg #[.int .u8 d.kind, .int .u8 d.set, .int .u8 d.fmt, .int .u8 d.years, .int .u8 d.day, .int .u8 d.base, .int .i8 d.off, .int .i8 d.at_], .bool first, .int .i64 N, .int .i64 year, .bool en] w fun x w' => ∃ e : EV, x = .returned (.agg #[.int .i64 e.off, .int .i64 e.kind, .int .i64 e.save, .string e.set, .string e.fmt, .bool e.ui, .int .i64 e.uy, .int .i64 e.um, .int .i64 e.dk, .int .i64 e.dw, .int .i64 e.dd, .int .i64 e.asec, .int .i64 e.ab]) ∧ GE23 N e ∧ Below w.heap.size w w' := by
  obtain ⟨O, K, S4, D20, D7, A24, B3, k, hEq, bO, bK, bS, bD, bE, bA, bB, bk⟩ := nums23 d N hd hN
  subst hen
  have BK2 := Lib.hid (show K = 2 from hEq.2.1.symm.trans hKK)
  clear hKK
  have HEQ := Lib.hid hEq
  have h2f := hd.f
  have hN3 : (N : Int) ≤ 3 := by omega
  have hNe : ¬ (N : Int) = 0 := by omega
  have hNz : ((N : Int) == 0) = false := by simpa using hNe
  have hN1 : (1 : Int) ≤ N := by omega
  have hk3 : (k : Int) ≤ 3 := by omega
  have hk10 : k < 10 := by omega
  have BO := Lib.hid bO; have BS := Lib.hid bS; have Bk := Lib.hid bk
  have q1 := hd.k.1; have q2 := hd.k.2; have q3 := hd.s.1; have q4 := hd.s.2; have q5 := hd.dy.1; have q6 := hd.dy.2; have q7 := hd.b.1; have q8 := hd.b.2; have q9 := hd.o.1; have q10 := hd.o.2; have q11 := hd.a.1; have q12 := hd.a.2
  have r1 := bO.1; have r2 := bO.2; have r3 := bS.1; have r4 := bS.2; have r5 := bD.1; have r6 := bD.2; have r7 := bE.1; have r8 := bE.2; have r9 := bA.1; have r10 := bA.2; have r11 := bB.1; have r12 := bB.2
  have rk1 : 0 ≤ K := by omega
  have rk2 : K ≤ 2 := by omega
  have w1 : IntKind.u8.wrap (1 + S4) = 1 + S4 := IntWalk.u8_in _ (by omega)
  have wO : IntKind.i64.wrap O = O := IntWalk.i64_in _ (by omega)
  have wM : IntKind.i64.wrap (900 * O) = 900 * O := IntWalk.i64_in _ (by omega)
  have wK : IntKind.i64.wrap K = K := IntWalk.i64_in _ (by omega)
  have hb0 := ((Below.refl w.heap.size w).alloc (Nat.le_refl _) (.cells #[.int .u8 d.kind, .int .u8 d.set, .int .u8 d.fmt, .int .u8 d.years, .int .u8 d.day, .int .u8 d.base, .int .i8 d.off, .int .i8 d.at_] 104)).alloc (by simp) (.cells #[.int .i64 0, .int .i64 0, .int .i64 0, .string ⟨#[]⟩, .string ⟨#[]⟩, .bool false, .int .i64 0, .int .i64 0, .int .i64 0, .int .i64 0, .int .i64 0, .int .i64 0, .int .i64 0] 47)
  have hx0 := (Blk.new w 104 #[.int .u8 d.kind, .int .u8 d.set, .int .u8 d.fmt, .int .u8 d.years, .int .u8 d.day, .int .u8 d.base, .int .i8 d.off, .int .i8 d.at_]).alloc (.cells #[.int .i64 0, .int .i64 0, .int .i64 0, .string ⟨#[]⟩, .string ⟨#[]⟩, .bool false, .int .i64 0, .int .i64 0, .int .i64 0, .int .i64 0, .int .i64 0, .int .i64 0, .int .i64 0] 47)
  have hr0 := Blk.newAt (w.alloc (.cells #[.int .u8 d.kind, .int .u8 d.set, .int .u8 d.fmt, .int .u8 d.years, .int .u8 d.day, .int .u8 d.base, .int .i8 d.off, .int .i8 d.at_] 104)) (w.heap.size + 1) (by simp) 47 #[.int .i64 0, .int .i64 0, .int .i64 0, .string ⟨#[]⟩, .string ⟨#[]⟩, .bool false, .int .i64 0, .int .i64 0, .int .i64 0, .int .i64 0, .int .i64 0, .int .i64 0, .int .i64 0]
  obtain ⟨KS, RN, hKS, hsum0, hRN⟩ : ∃ KS RN : ByteArray, KS = str [UInt8.ofNat (48 + k)] ∧ (∀ W : World, (Op.stringOp .add ⟨#[82]⟩ KS).run Tryd.prog W = .ok (.string RN) W) ∧ RN = rn k := ⟨_, rn k, rfl, cat_run [82] [UInt8.ofNat (48 + k)] (by simp), rfl⟩
  have HSUM := Lib.hid hsum0; have HRN := Lib.hid hRN
  have cI : Hid (∀ W, VarsP W → Calls Tryd.prog 45 #[.int .i64 (k : Int)] W fun e w' => e = .returned (.string KS) ∧ Below W.heap.size W w') := Lib.hid fun W h => by rw [hKS]; exact itoa23 k _ rfl hk10 W h
  clear hEq bO bS bD bE bA bB bk hd hN hKS hsum0 hRN
  go_enter Tryd.func46, Tryd.ntmps46
  go_upto_region 1 with fail
  obtain ⟨hO, hK, hS4, hD20, hD7, hA24, hB3, hkN⟩ := HEQ.out
  refine wp_region_shape [(some 12, []), (some 13, [0]), (some 14, [1]), (some 15, [2]), (some 16, [3]), (some 17, []), (some 18, [5]), (some 19, [6]), (some 20, [7]), (some 21, []), (some 22, [9]), (some 23, [10]), (some 24, [4, 8, 11]), (some 11, []), (none, [13, 12, 11, 0, 1, 2, 3, 4, 5, 6, 7, 8, 9, 10, 11, 12, 13])] (fun y => { tmps := #[.agg #[.int .u8 d.kind, .int .u8 d.set, .int .u8 d.fmt, .int .u8 d.years, .int .u8 d.day, .int .u8 d.base, .int .i8 d.off, .int .i8 d.at_], .bool first, .int .i64 N, .int .i64 year, .bool false, .pointer (some ⟨w.heap.size, 0, none⟩), undef, undef, undef, undef, .pointer (some ⟨w.heap.size + 1, 0, none⟩), y 11, y 12, y 13, y 14, y 15, y 16, y 17, y 18, y 19, y 20, y 21, y 22, y 23, y 24, undef, undef, undef, undef, undef, undef, undef, undef, undef, undef, undef, undef, undef, undef, undef, undef, undef, undef, undef, undef, undef, undef, undef, undef, undef, undef, undef, undef, undef, undef, undef, undef, undef, undef, undef, undef, undef, undef, undef, undef, undef, undef, undef, undef, undef, undef, undef, undef, undef, undef, undef, undef, undef, undef, undef, undef, undef, undef, undef, undef, undef], defers := [] }) (fun _ => undef) (fun j => j == 11 || j == 12 || j == 13 || j == 14) [.pointer (some ⟨w.heap.size, 6, none⟩), .int .i8 d.off, .int .i8 O, .int .i64 O, .int .i64 (900 * O), .pointer (some ⟨w.heap.size, 0, none⟩), .int .u8 d.kind, .int .u8 K, .int .i64 K, .pointer (some ⟨w.heap.size, 2, none⟩), .int .u8 d.fmt, undef, undef, undef, undef] (fun j y W => match j with | 11 => ∃ S, y 23 = .string S ∧ isFmt23 S | 12 => ∃ S, y 24 = .agg #[.int .i64 (900 * O), .int .i64 K, .int .i64 0, .string ⟨#[]⟩, .string S, .bool false, .int .i64 0, .int .i64 0, .int .i64 0, .int .i64 0, .int .i64 0, .int .i64 0, .int .i64 0] ∧ isFmt23 S | 13 => ∃ g, (y 11 = .pointer (some ⟨g, 0, none⟩) ∧ w.heap.size + 2 ≤ g) ∧ ∃ v0 v1 v2 v3 v4 v5 v6 v7 v8 v9 v10 v11 v12, Blk W g 47 #[v0, v1, v2, v3, v4, v5, v6, v7, v8, v9, v10, v11, v12] | 14 => ∃ g S, (y 11 = .pointer (some ⟨g, 0, none⟩) ∧ w.heap.size + 2 ≤ g) ∧ isFmt23 S ∧ Blk W g 47 #[.int .i64 (900 * O), .int .i64 K, .int .i64 0, .string ⟨#[]⟩, .string S, .bool false, .int .i64 0, .int .i64 0, .int .i64 0, .int .i64 0, .int .i64 0, .int .i64 0, .int .i64 0] | _ => True) (fun j => match j with | 11 => [23] | 12 => [24] | 13 => [11] | 14 => [11] | _ => []) (GE) (fun W => Below w.heap.size w W ∧ Blk W w.heap.size 104 #[.int .u8 d.kind, .int .u8 d.set, .int .u8 d.fmt, .int .u8 d.years, .int .u8 d.day, .int .u8 d.base, .int .i8 d.off, .int .i8 d.at_] ∧ Blk W (w.heap.size + 1) 47 #[.int .i64 0, .int .i64 0, .int .i64 0, .string ⟨#[]⟩, .string ⟨#[]⟩, .bool false, .int .i64 0, .int .i64 0, .int .i64 0, .int .i64 0, .int .i64 0, .int .i64 0, .int .i64 0]) (by kernel_rfl) (by kernel_rfl) (by decide +kernel) rfl ⟨hb0.drew, hx0, hr0⟩ ?hput1 ?hloc1 ?hmono1 ?hstep1 ?hdone1
  case hput1 =>
    intro d hd y v
    simp only [List.filterMap_cons, List.filterMap_nil, List.mem_cons, List.not_mem_nil, or_false] at hd
    rcases hd with rfl | rfl | rfl | rfl | rfl | rfl | rfl | rfl | rfl | rfl | rfl | rfl | rfl | rfl
    all_goals rfl
  case hloc1 =>
    intro j hj y y' W hk hx
    have hj' : j = 11 ∨ j = 12 ∨ j = 13 ∨ j = 14 := by simpa [or_assoc] using hj
    rcases hj' with rfl | rfl | rfl | rfl
    · simp only [List.forall_mem_cons, List.not_mem_nil, false_imp_iff, implies_true, and_true] at hk
      show _
      simpa only [hk] using hx
    · simp only [List.forall_mem_cons, List.not_mem_nil, false_imp_iff, implies_true, and_true] at hk
      show _
      simpa only [hk] using hx
    · simp only [List.forall_mem_cons, List.not_mem_nil, false_imp_iff, implies_true, and_true] at hk
      show _
      simpa only [hk] using hx
    · simp only [List.forall_mem_cons, List.not_mem_nil, false_imp_iff, implies_true, and_true] at hk
      show _
      simpa only [hk] using hx
  case hmono1 =>
    intro j hj hlast y W W' hg hx
    have hj' : j = 11 ∨ j = 12 ∨ j = 13 ∨ j = 14 := by simpa [or_assoc] using hj
    rcases hj' with rfl | rfl | rfl | rfl
    · exact hx
    · exact hx
    · obtain ⟨g, h1, h2⟩ := hx; exact ⟨g, h1, hg g h2⟩
    · exact absurd hlast (by decide)
  case hdone1 =>
    intro yy W1 hS hd
    have x14 : (fun (y : Nat → Value) (W : World) => ∃ g S, (y 11 = .pointer (some ⟨g, 0, none⟩) ∧ w.heap.size + 2 ≤ g) ∧ isFmt23 S ∧ Blk W g 47 #[.int .i64 (900 * O), .int .i64 K, .int .i64 0, .string ⟨#[]⟩, .string S, .bool false, .int .i64 0, .int .i64 0, .int .i64 0, .int .i64 0, .int .i64 0, .int .i64 0, .int .i64 0]) yy W1 := (hd 14 (by decide)).ex rfl
    obtain ⟨hb, hx, hr⟩ := hS
    obtain ⟨g, S, ⟨e11, hg2⟩, hf, hbg⟩ := x14
    rw [e11]
    clear hd e11 hb0 hx0 hr0
    obtain rfl := BK2.out
    cases first
    · skip
      have hg00 := hbg; have hx00 := hx; have hr00 := hr; have hb00 := hb
      have z1 := (hg00.cell 1).trans rfl
      have z2 := (hx00.cell 1).trans rfl
      have H3g := Lib.hid hg00; have H3x := Lib.hid hx00; have H3r := Lib.hid hr00; have H3b := Lib.hid hb00
      clear hg00 hx00 hr00 hb00
      go_wp2_with fail
      refine (cI.out _ (hv.below H3b.out)).mono ?_
      rintro e W103 ⟨rfl, hc⟩
      have h4g := H3g.out.below hc H3g.out.lt; have h4x := H3x.out.below hc H3x.out.lt; have h4r := H3r.out.below hc H3r.out.lt; have h4b := H3b.out.trans (hc.mono H3b.out.size)
      clear hc H3g H3x H3r H3b z1 z2
      have hsum := HSUM.out
      have z5 := (h4g.cell 3).trans rfl
      have z6 := h4g.frozen 3
      have h7g : Blk _ g 47 #[.int .i64 (900 * O), .int .i64 2, .int .i64 0, .string RN, .string S, .bool false, .int .i64 0, .int .i64 0, .int .i64 0, .int .i64 0, .int .i64 0, .int .i64 0, .int .i64 0] := h4g.set_ 3 (.string RN)
      have h7x := h4x.far (p := ⟨g, 3, none⟩) (by show _ ≠ g; omega) (.string RN)
      have h7r := h4r.far (p := ⟨g, 3, none⟩) (by show _ ≠ g; omega) (.string RN)
      have h7b := h4b.setCell (p := ⟨g, 3, none⟩) (by show w.heap.size ≤ g; omega) (.string RN)
      have z8 := (h7g.cell 0).trans rfl
      have z9 := (h7g.cell 1).trans rfl
      have z10 := (h7g.cell 2).trans rfl
      have z11 := (h7g.cell 3).trans rfl
      have z12 := (h7g.cell 4).trans rfl
      have z13 := (h7g.cell 5).trans rfl
      have z14 := (h7g.cell 6).trans rfl
      have z15 := (h7g.cell 7).trans rfl
      have z16 := (h7g.cell 8).trans rfl
      have z17 := (h7g.cell 9).trans rfl
      have z18 := (h7g.cell 10).trans rfl
      have z19 := (h7g.cell 11).trans rfl
      have z20 := (h7g.cell 12).trans rfl
      have z21 := (h7r.cell 0).trans rfl
      have z22 := h7r.frozen 0
      have z23 := (h7r.cell 1).trans rfl
      have z24 := h7r.frozen 1
      have z25 := (h7r.cell 2).trans rfl
      have z26 := h7r.frozen 2
      have z27 := (h7r.cell 3).trans rfl
      have z28 := h7r.frozen 3
      have z29 := (h7r.cell 4).trans rfl
      have z30 := h7r.frozen 4
      have z31 := (h7r.cell 5).trans rfl
      have z32 := h7r.frozen 5
      have z33 := (h7r.cell 6).trans rfl
      have z34 := h7r.frozen 6
      have z35 := (h7r.cell 7).trans rfl
      have z36 := h7r.frozen 7
      have z37 := (h7r.cell 8).trans rfl
      have z38 := h7r.frozen 8
      have z39 := (h7r.cell 9).trans rfl
      have z40 := h7r.frozen 9
      have z41 := (h7r.cell 10).trans rfl
      have z42 := h7r.frozen 10
      have z43 := (h7r.cell 11).trans rfl
      have z44 := h7r.frozen 11
      have z45 := (h7r.cell 12).trans rfl
      have z46 := h7r.frozen 12
      have t470 : Blk _ (w.heap.size + 1) 47 #[.int .i64 (900 * O), .int .i64 0, .int .i64 0, .string ⟨#[]⟩, .string ⟨#[]⟩, .bool false, .int .i64 0, .int .i64 0, .int .i64 0, .int .i64 0, .int .i64 0, .int .i64 0, .int .i64 0] := h7r.set_ 0 (.int .i64 (900 * O))
      have t471 : Blk _ (w.heap.size + 1) 47 #[.int .i64 (900 * O), .int .i64 2, .int .i64 0, .string ⟨#[]⟩, .string ⟨#[]⟩, .bool false, .int .i64 0, .int .i64 0, .int .i64 0, .int .i64 0, .int .i64 0, .int .i64 0, .int .i64 0] := t470.set_ 1 (.int .i64 2)
      have t472 : Blk _ (w.heap.size + 1) 47 #[.int .i64 (900 * O), .int .i64 2, .int .i64 0, .string ⟨#[]⟩, .string ⟨#[]⟩, .bool false, .int .i64 0, .int .i64 0, .int .i64 0, .int .i64 0, .int .i64 0, .int .i64 0, .int .i64 0] := t471.set_ 2 (.int .i64 0)
      have t473 : Blk _ (w.heap.size + 1) 47 #[.int .i64 (900 * O), .int .i64 2, .int .i64 0, .string RN, .string ⟨#[]⟩, .bool false, .int .i64 0, .int .i64 0, .int .i64 0, .int .i64 0, .int .i64 0, .int .i64 0, .int .i64 0] := t472.set_ 3 (.string RN)
      have t474 : Blk _ (w.heap.size + 1) 47 #[.int .i64 (900 * O), .int .i64 2, .int .i64 0, .string RN, .string S, .bool false, .int .i64 0, .int .i64 0, .int .i64 0, .int .i64 0, .int .i64 0, .int .i64 0, .int .i64 0] := t473.set_ 4 (.string S)
      have t475 : Blk _ (w.heap.size + 1) 47 #[.int .i64 (900 * O), .int .i64 2, .int .i64 0, .string RN, .string S, .bool false, .int .i64 0, .int .i64 0, .int .i64 0, .int .i64 0, .int .i64 0, .int .i64 0, .int .i64 0] := t474.set_ 5 (.bool false)
      have t476 : Blk _ (w.heap.size + 1) 47 #[.int .i64 (900 * O), .int .i64 2, .int .i64 0, .string RN, .string S, .bool false, .int .i64 0, .int .i64 0, .int .i64 0, .int .i64 0, .int .i64 0, .int .i64 0, .int .i64 0] := t475.set_ 6 (.int .i64 0)
      have t477 : Blk _ (w.heap.size + 1) 47 #[.int .i64 (900 * O), .int .i64 2, .int .i64 0, .string RN, .string S, .bool false, .int .i64 0, .int .i64 0, .int .i64 0, .int .i64 0, .int .i64 0, .int .i64 0, .int .i64 0] := t476.set_ 7 (.int .i64 0)
      have t478 : Blk _ (w.heap.size + 1) 47 #[.int .i64 (900 * O), .int .i64 2, .int .i64 0, .string RN, .string S, .bool false, .int .i64 0, .int .i64 0, .int .i64 0, .int .i64 0, .int .i64 0, .int .i64 0, .int .i64 0] := t477.set_ 8 (.int .i64 0)
      have t479 : Blk _ (w.heap.size + 1) 47 #[.int .i64 (900 * O), .int .i64 2, .int .i64 0, .string RN, .string S, .bool false, .int .i64 0, .int .i64 0, .int .i64 0, .int .i64 0, .int .i64 0, .int .i64 0, .int .i64 0] := t478.set_ 9 (.int .i64 0)
      have t4710 : Blk _ (w.heap.size + 1) 47 #[.int .i64 (900 * O), .int .i64 2, .int .i64 0, .string RN, .string S, .bool false, .int .i64 0, .int .i64 0, .int .i64 0, .int .i64 0, .int .i64 0, .int .i64 0, .int .i64 0] := t479.set_ 10 (.int .i64 0)
      have t4711 : Blk _ (w.heap.size + 1) 47 #[.int .i64 (900 * O), .int .i64 2, .int .i64 0, .string RN, .string S, .bool false, .int .i64 0, .int .i64 0, .int .i64 0, .int .i64 0, .int .i64 0, .int .i64 0, .int .i64 0] := t4710.set_ 11 (.int .i64 0)
      have t4712 : Blk _ (w.heap.size + 1) 47 #[.int .i64 (900 * O), .int .i64 2, .int .i64 0, .string RN, .string S, .bool false, .int .i64 0, .int .i64 0, .int .i64 0, .int .i64 0, .int .i64 0, .int .i64 0, .int .i64 0] := t4711.set_ 12 (.int .i64 0)
      have kk0 := (t4712.cell 0).trans rfl
      have kk1 := (t4712.cell 1).trans rfl
      have kk2 := (t4712.cell 2).trans rfl
      have kk3 := (t4712.cell 3).trans rfl
      have kk4 := (t4712.cell 4).trans rfl
      have kk5 := (t4712.cell 5).trans rfl
      have kk6 := (t4712.cell 6).trans rfl
      have kk7 := (t4712.cell 7).trans rfl
      have kk8 := (t4712.cell 8).trans rfl
      have kk9 := (t4712.cell 9).trans rfl
      have kk10 := (t4712.cell 10).trans rfl
      have kk11 := (t4712.cell 11).trans rfl
      have kk12 := (t4712.cell 12).trans rfl
      have HBF := Lib.hid (((((((((((((h7b.setCell (p := ⟨w.heap.size + 1, 0, none⟩) (Nat.le_succ _) (.int .i64 (900 * O))).setCell (p := ⟨w.heap.size + 1, 1, none⟩) (Nat.le_succ _) (.int .i64 2)).setCell (p := ⟨w.heap.size + 1, 2, none⟩) (Nat.le_succ _) (.int .i64 0)).setCell (p := ⟨w.heap.size + 1, 3, none⟩) (Nat.le_succ _) (.string RN)).setCell (p := ⟨w.heap.size + 1, 4, none⟩) (Nat.le_succ _) (.string S)).setCell (p := ⟨w.heap.size + 1, 5, none⟩) (Nat.le_succ _) (.bool false)).setCell (p := ⟨w.heap.size + 1, 6, none⟩) (Nat.le_succ _) (.int .i64 0)).setCell (p := ⟨w.heap.size + 1, 7, none⟩) (Nat.le_succ _) (.int .i64 0)).setCell (p := ⟨w.heap.size + 1, 8, none⟩) (Nat.le_succ _) (.int .i64 0)).setCell (p := ⟨w.heap.size + 1, 9, none⟩) (Nat.le_succ _) (.int .i64 0)).setCell (p := ⟨w.heap.size + 1, 10, none⟩) (Nat.le_succ _) (.int .i64 0)).setCell (p := ⟨w.heap.size + 1, 11, none⟩) (Nat.le_succ _) (.int .i64 0)).setCell (p := ⟨w.heap.size + 1, 12, none⟩) (Nat.le_succ _) (.int .i64 0))
      clear t470 t471 t472 t473 t474 t475 t476 t477 t478 t479 t4710 t4711 t4712
      have H48g := Lib.hid h7g; have H48x := Lib.hid h7x; have H48r := Lib.hid h7r; have H48b := Lib.hid h7b
      clear h4g h4x h4r h4b h7g h7x h7r h7b
      go_wp2_with fail
      refine bodyPost_ret (v := .agg #[.int .i64 (900 * O), .int .i64 2, .int .i64 0, .string RN, .string S, .bool false, .int .i64 0, .int .i64 0, .int .i64 0, .int .i64 0, .int .i64 0, .int .i64 0, .int .i64 0]) (by simp [results, Tryd.results46, go_sem, kk0, kk1, kk2, kk3, kk4, kk5, kk6, kk7, kk8, kk9, kk10, kk11, kk12]) rfl ?_
      exact ⟨⟨(900 * O), 2, 0, RN, S, false, 0, 0, 0, 0, 0, 0, 0⟩, rfl, ⟨(by show -42300 ≤ 900 * O ∧ 900 * O ≤ 42300; have := BO.out; omega), .inr (.inr rfl), hf, (show (0 : Int) ≤ 0 ∧ (0 : Int) ≤ 7200 by decide), fun _ => ⟨k, Bk.out, HRN.out⟩⟩, HBF.out⟩
    · skip
      have hg00 := hbg; have hx00 := hx; have hr00 := hr; have hb00 := hb
      have z1 := (hg00.cell 1).trans rfl
      have z2 := (hg00.cell 1).trans rfl
      have z3 := hg00.frozen 1
      have h4g : Blk _ g 47 #[.int .i64 (900 * O), .int .i64 0, .int .i64 0, .string ⟨#[]⟩, .string S, .bool false, .int .i64 0, .int .i64 0, .int .i64 0, .int .i64 0, .int .i64 0, .int .i64 0, .int .i64 0] := hg00.set_ 1 (.int .i64 0)
      have h4x := hx00.far (p := ⟨g, 1, none⟩) (by show _ ≠ g; omega) (.int .i64 0)
      have h4r := hr00.far (p := ⟨g, 1, none⟩) (by show _ ≠ g; omega) (.int .i64 0)
      have h4b := hb00.setCell (p := ⟨g, 1, none⟩) (by show w.heap.size ≤ g; omega) (.int .i64 0)
      have z5 := (h4g.cell 1).trans rfl
      have z6 := (h4g.cell 0).trans rfl
      have z7 := (h4g.cell 1).trans rfl
      have z8 := (h4g.cell 2).trans rfl
      have z9 := (h4g.cell 3).trans rfl
      have z10 := (h4g.cell 4).trans rfl
      have z11 := (h4g.cell 5).trans rfl
      have z12 := (h4g.cell 6).trans rfl
      have z13 := (h4g.cell 7).trans rfl
      have z14 := (h4g.cell 8).trans rfl
      have z15 := (h4g.cell 9).trans rfl
      have z16 := (h4g.cell 10).trans rfl
      have z17 := (h4g.cell 11).trans rfl
      have z18 := (h4g.cell 12).trans rfl
      have z19 := (h4r.cell 0).trans rfl
      have z20 := h4r.frozen 0
      have z21 := (h4r.cell 1).trans rfl
      have z22 := h4r.frozen 1
      have z23 := (h4r.cell 2).trans rfl
      have z24 := h4r.frozen 2
      have z25 := (h4r.cell 3).trans rfl
      have z26 := h4r.frozen 3
      have z27 := (h4r.cell 4).trans rfl
      have z28 := h4r.frozen 4
      have z29 := (h4r.cell 5).trans rfl
      have z30 := h4r.frozen 5
      have z31 := (h4r.cell 6).trans rfl
      have z32 := h4r.frozen 6
      have z33 := (h4r.cell 7).trans rfl
      have z34 := h4r.frozen 7
      have z35 := (h4r.cell 8).trans rfl
      have z36 := h4r.frozen 8
      have z37 := (h4r.cell 9).trans rfl
      have z38 := h4r.frozen 9
      have z39 := (h4r.cell 10).trans rfl
      have z40 := h4r.frozen 10
      have z41 := (h4r.cell 11).trans rfl
      have z42 := h4r.frozen 11
      have z43 := (h4r.cell 12).trans rfl
      have z44 := h4r.frozen 12
      have t450 : Blk _ (w.heap.size + 1) 47 #[.int .i64 (900 * O), .int .i64 0, .int .i64 0, .string ⟨#[]⟩, .string ⟨#[]⟩, .bool false, .int .i64 0, .int .i64 0, .int .i64 0, .int .i64 0, .int .i64 0, .int .i64 0, .int .i64 0] := h4r.set_ 0 (.int .i64 (900 * O))
      have t451 : Blk _ (w.heap.size + 1) 47 #[.int .i64 (900 * O), .int .i64 0, .int .i64 0, .string ⟨#[]⟩, .string ⟨#[]⟩, .bool false, .int .i64 0, .int .i64 0, .int .i64 0, .int .i64 0, .int .i64 0, .int .i64 0, .int .i64 0] := t450.set_ 1 (.int .i64 0)
      have t452 : Blk _ (w.heap.size + 1) 47 #[.int .i64 (900 * O), .int .i64 0, .int .i64 0, .string ⟨#[]⟩, .string ⟨#[]⟩, .bool false, .int .i64 0, .int .i64 0, .int .i64 0, .int .i64 0, .int .i64 0, .int .i64 0, .int .i64 0] := t451.set_ 2 (.int .i64 0)
      have t453 : Blk _ (w.heap.size + 1) 47 #[.int .i64 (900 * O), .int .i64 0, .int .i64 0, .string ⟨#[]⟩, .string ⟨#[]⟩, .bool false, .int .i64 0, .int .i64 0, .int .i64 0, .int .i64 0, .int .i64 0, .int .i64 0, .int .i64 0] := t452.set_ 3 (.string ⟨#[]⟩)
      have t454 : Blk _ (w.heap.size + 1) 47 #[.int .i64 (900 * O), .int .i64 0, .int .i64 0, .string ⟨#[]⟩, .string S, .bool false, .int .i64 0, .int .i64 0, .int .i64 0, .int .i64 0, .int .i64 0, .int .i64 0, .int .i64 0] := t453.set_ 4 (.string S)
      have t455 : Blk _ (w.heap.size + 1) 47 #[.int .i64 (900 * O), .int .i64 0, .int .i64 0, .string ⟨#[]⟩, .string S, .bool false, .int .i64 0, .int .i64 0, .int .i64 0, .int .i64 0, .int .i64 0, .int .i64 0, .int .i64 0] := t454.set_ 5 (.bool false)
      have t456 : Blk _ (w.heap.size + 1) 47 #[.int .i64 (900 * O), .int .i64 0, .int .i64 0, .string ⟨#[]⟩, .string S, .bool false, .int .i64 0, .int .i64 0, .int .i64 0, .int .i64 0, .int .i64 0, .int .i64 0, .int .i64 0] := t455.set_ 6 (.int .i64 0)
      have t457 : Blk _ (w.heap.size + 1) 47 #[.int .i64 (900 * O), .int .i64 0, .int .i64 0, .string ⟨#[]⟩, .string S, .bool false, .int .i64 0, .int .i64 0, .int .i64 0, .int .i64 0, .int .i64 0, .int .i64 0, .int .i64 0] := t456.set_ 7 (.int .i64 0)
      have t458 : Blk _ (w.heap.size + 1) 47 #[.int .i64 (900 * O), .int .i64 0, .int .i64 0, .string ⟨#[]⟩, .string S, .bool false, .int .i64 0, .int .i64 0, .int .i64 0, .int .i64 0, .int .i64 0, .int .i64 0, .int .i64 0] := t457.set_ 8 (.int .i64 0)
      have t459 : Blk _ (w.heap.size + 1) 47 #[.int .i64 (900 * O), .int .i64 0, .int .i64 0, .string ⟨#[]⟩, .string S, .bool false, .int .i64 0, .int .i64 0, .int .i64 0, .int .i64 0, .int .i64 0, .int .i64 0, .int .i64 0] := t458.set_ 9 (.int .i64 0)
      have t4510 : Blk _ (w.heap.size + 1) 47 #[.int .i64 (900 * O), .int .i64 0, .int .i64 0, .string ⟨#[]⟩, .string S, .bool false, .int .i64 0, .int .i64 0, .int .i64 0, .int .i64 0, .int .i64 0, .int .i64 0, .int .i64 0] := t459.set_ 10 (.int .i64 0)
      have t4511 : Blk _ (w.heap.size + 1) 47 #[.int .i64 (900 * O), .int .i64 0, .int .i64 0, .string ⟨#[]⟩, .string S, .bool false, .int .i64 0, .int .i64 0, .int .i64 0, .int .i64 0, .int .i64 0, .int .i64 0, .int .i64 0] := t4510.set_ 11 (.int .i64 0)
      have t4512 : Blk _ (w.heap.size + 1) 47 #[.int .i64 (900 * O), .int .i64 0, .int .i64 0, .string ⟨#[]⟩, .string S, .bool false, .int .i64 0, .int .i64 0, .int .i64 0, .int .i64 0, .int .i64 0, .int .i64 0, .int .i64 0] := t4511.set_ 12 (.int .i64 0)
      have kk0 := (t4512.cell 0).trans rfl
      have kk1 := (t4512.cell 1).trans rfl
      have kk2 := (t4512.cell 2).trans rfl
      have kk3 := (t4512.cell 3).trans rfl
      have kk4 := (t4512.cell 4).trans rfl
      have kk5 := (t4512.cell 5).trans rfl
      have kk6 := (t4512.cell 6).trans rfl
      have kk7 := (t4512.cell 7).trans rfl
      have kk8 := (t4512.cell 8).trans rfl
      have kk9 := (t4512.cell 9).trans rfl
      have kk10 := (t4512.cell 10).trans rfl
      have kk11 := (t4512.cell 11).trans rfl
      have kk12 := (t4512.cell 12).trans rfl
      have HBF := Lib.hid (((((((((((((h4b.setCell (p := ⟨w.heap.size + 1, 0, none⟩) (Nat.le_succ _) (.int .i64 (900 * O))).setCell (p := ⟨w.heap.size + 1, 1, none⟩) (Nat.le_succ _) (.int .i64 0)).setCell (p := ⟨w.heap.size + 1, 2, none⟩) (Nat.le_succ _) (.int .i64 0)).setCell (p := ⟨w.heap.size + 1, 3, none⟩) (Nat.le_succ _) (.string ⟨#[]⟩)).setCell (p := ⟨w.heap.size + 1, 4, none⟩) (Nat.le_succ _) (.string S)).setCell (p := ⟨w.heap.size + 1, 5, none⟩) (Nat.le_succ _) (.bool false)).setCell (p := ⟨w.heap.size + 1, 6, none⟩) (Nat.le_succ _) (.int .i64 0)).setCell (p := ⟨w.heap.size + 1, 7, none⟩) (Nat.le_succ _) (.int .i64 0)).setCell (p := ⟨w.heap.size + 1, 8, none⟩) (Nat.le_succ _) (.int .i64 0)).setCell (p := ⟨w.heap.size + 1, 9, none⟩) (Nat.le_succ _) (.int .i64 0)).setCell (p := ⟨w.heap.size + 1, 10, none⟩) (Nat.le_succ _) (.int .i64 0)).setCell (p := ⟨w.heap.size + 1, 11, none⟩) (Nat.le_succ _) (.int .i64 0)).setCell (p := ⟨w.heap.size + 1, 12, none⟩) (Nat.le_succ _) (.int .i64 0))
      clear t450 t451 t452 t453 t454 t455 t456 t457 t458 t459 t4510 t4511 t4512
      have H46g := Lib.hid h4g; have H46x := Lib.hid h4x; have H46r := Lib.hid h4r; have H46b := Lib.hid h4b
      clear hg00 hx00 hr00 hb00 h4g h4x h4r h4b
      go_wp2_with fail
      refine bodyPost_ret (v := .agg #[.int .i64 (900 * O), .int .i64 0, .int .i64 0, .string ⟨#[]⟩, .string S, .bool false, .int .i64 0, .int .i64 0, .int .i64 0, .int .i64 0, .int .i64 0, .int .i64 0, .int .i64 0]) (by simp [results, Tryd.results46, go_sem, kk0, kk1, kk2, kk3, kk4, kk5, kk6, kk7, kk8, kk9, kk10, kk11, kk12]) rfl ?_
      exact ⟨⟨(900 * O), 0, 0, ⟨#[]⟩, S, false, 0, 0, 0, 0, 0, 0, 0⟩, rfl, ⟨(by show -42300 ≤ 900 * O ∧ 900 * O ≤ 42300; have := BO.out; omega), .inl rfl, hf, (show (0 : Int) ≤ 0 ∧ (0 : Int) ≤ 7200 by decide), fun h => by cases h⟩, HBF.out⟩
  case hstep1 =>
    refine StepsOk.cons (StepOk.known rfl fun y W hS hd K' hK => ?_) ?_
    · skip
      clear hd
      go_simp
      exact hK.out _ _ rfl (GE.refl _) hS
    refine StepsOk.cons (StepOk.known rfl fun y W hS hd K' hK => ?_) ?_
    · skip
      have e12 : y 12 = .pointer (some ⟨w.heap.size, 6, none⟩) := (hd 0 rfl).val rfl rfl
      clear hd
      have hc := (hS.2.1.cell 6).trans rfl
      go_simp
      exact hK.out _ _ (by first | rfl | (simp only [e12]; done) | (simp only [e12]; rfl)) (GE.refl _) hS
    refine StepsOk.cons (StepOk.known rfl fun y W hS hd K' hK => ?_) ?_
    · skip
      have e13 : y 13 = .int .i8 d.off := (hd 1 rfl).val rfl rfl
      clear hd
      go_simp
      exact hK.out _ _ (by first | rfl | (simp only [e13]; done) | (simp only [e13]; rfl)) (GE.refl _) hS
    refine StepsOk.cons (StepOk.known rfl fun y W hS hd K' hK => ?_) ?_
    · skip
      have e14 : y 14 = .int .i8 O := (hd 2 rfl).val rfl rfl
      clear hd
      go_simp
      exact hK.out _ _ (by first | rfl | (simp only [e14]; done) | (simp only [e14]; rfl)) (GE.refl _) hS
    refine StepsOk.cons (StepOk.known rfl fun y W hS hd K' hK => ?_) ?_
    · skip
      have e15 : y 15 = .int .i64 O := (hd 3 rfl).val rfl rfl
      clear hd
      go_simp
      exact hK.out _ _ (by first | rfl | (simp only [e15]; done) | (simp only [e15]; rfl)) (GE.refl _) hS
    refine StepsOk.cons (StepOk.known rfl fun y W hS hd K' hK => ?_) ?_
    · skip
      clear hd
      go_simp
      exact hK.out _ _ rfl (GE.refl _) hS
    refine StepsOk.cons (StepOk.known rfl fun y W hS hd K' hK => ?_) ?_
    · skip
      have e17 : y 17 = .pointer (some ⟨w.heap.size, 0, none⟩) := (hd 5 rfl).val rfl rfl
      clear hd
      have hc := (hS.2.1.cell 0).trans rfl
      go_simp
      exact hK.out _ _ (by first | rfl | (simp only [e17]; done) | (simp only [e17]; rfl)) (GE.refl _) hS
    refine StepsOk.cons (StepOk.known rfl fun y W hS hd K' hK => ?_) ?_
    · skip
      have e18 : y 18 = .int .u8 d.kind := (hd 6 rfl).val rfl rfl
      clear hd
      go_simp
      exact hK.out _ _ (by first | rfl | (simp only [e18]; done) | (simp only [e18]; rfl)) (GE.refl _) hS
    refine StepsOk.cons (StepOk.known rfl fun y W hS hd K' hK => ?_) ?_
    · skip
      have e19 : y 19 = .int .u8 K := (hd 7 rfl).val rfl rfl
      clear hd
      go_simp
      exact hK.out _ _ (by first | rfl | (simp only [e19]; done) | (simp only [e19]; rfl)) (GE.refl _) hS
    refine StepsOk.cons (StepOk.known rfl fun y W hS hd K' hK => ?_) ?_
    · skip
      clear hd
      go_simp
      exact hK.out _ _ rfl (GE.refl _) hS
    refine StepsOk.cons (StepOk.known rfl fun y W hS hd K' hK => ?_) ?_
    · skip
      have e21 : y 21 = .pointer (some ⟨w.heap.size, 2, none⟩) := (hd 9 rfl).val rfl rfl
      clear hd
      have hc := (hS.2.1.cell 2).trans rfl
      go_simp
      exact hK.out _ _ (by first | rfl | (simp only [e21]; done) | (simp only [e21]; rfl)) (GE.refl _) hS
    refine StepsOk.cons (StepOk.other rfl fun y W hS hd K' hK => ?_) ?_
    · skip
      have e22 : y 22 = .int .u8 d.fmt := (hd 10 rfl).val rfl rfl
      clear hd
      go_simp
      obtain ⟨hb, hx, hr⟩ := hS
      refine (format23_any d.fmt W h2f).mono ?_
      rintro e W' ⟨S, rfl, hf, hc⟩
      go_wp2_with fail
      exact hK.out _ _ _ (by first | rfl | (simp only [e22]; done) | (simp only [e22]; rfl)) (GE.below hc) ⟨hb.trans (hc.mono hb.size), hx.below hc hx.lt, hr.below hc hr.lt⟩ (show ∃ S, _ = Value.string S ∧ isFmt23 S from ⟨S, rfl, hf⟩)
    refine StepsOk.cons (StepOk.other rfl fun y W hS hd K' hK => ?_) ?_
    · skip
      have e16 : y 16 = .int .i64 (900 * O) := (hd 4 rfl).val rfl rfl
      have e20 : y 20 = .int .i64 K := (hd 8 rfl).val rfl rfl
      have x11 : (fun (y : Nat → Value) (W : World) => ∃ S, y 23 = .string S ∧ isFmt23 S) y W := (hd 11 rfl).ex rfl
      clear hd
      obtain ⟨S, h1, h2⟩ := x11
      go_simp
      exact hK.out _ _ _ (by first | rfl | (simp only [h1, e16, e20]; done) | (simp only [h1, e16, e20]; rfl)) (GE.refl _) hS (show ∃ S, _ = Value.agg #[.int .i64 (900 * O), .int .i64 K, .int .i64 0, .string ⟨#[]⟩, .string S, .bool false, .int .i64 0, .int .i64 0, .int .i64 0, .int .i64 0, .int .i64 0, .int .i64 0, .int .i64 0] ∧ isFmt23 S from ⟨S, rfl, h2⟩)
    refine StepsOk.cons (StepOk.other rfl fun y W hS hd K' hK => ?_) ?_
    · skip
      clear hd
      obtain ⟨hb, hx, hr⟩ := hS
      have hle := hr.lt
      go_simp
      exact hK.out _ _ _ rfl (GE.alloc W _) ⟨hb.alloc hb.size _, hx.alloc _, hr.alloc _⟩ (show ∃ g, (_ = Value.pointer (some ⟨g, 0, none⟩) ∧ w.heap.size + 2 ≤ g) ∧ ∃ v0 v1 v2 v3 v4 v5 v6 v7 v8 v9 v10 v11 v12, Blk _ g 47 #[v0, v1, v2, v3, v4, v5, v6, v7, v8, v9, v10, v11, v12] from ⟨W.heap.size, ⟨rfl, by omega⟩, _, _, _, _, _, _, _, _, _, _, _, _, _, Blk.new W 47 #[.int .i64 0, .int .i64 0, .int .i64 0, .string ⟨#[]⟩, .string ⟨#[]⟩, .bool false, .int .i64 0, .int .i64 0, .int .i64 0, .int .i64 0, .int .i64 0, .int .i64 0, .int .i64 0]⟩)
    refine StepsOk.cons (StepOk.other rfl fun y W hS hd K' hK => ?_) ?_
    · skip
      have x12 : (fun (y : Nat → Value) (W : World) => ∃ S, y 24 = .agg #[.int .i64 (900 * O), .int .i64 K, .int .i64 0, .string ⟨#[]⟩, .string S, .bool false, .int .i64 0, .int .i64 0, .int .i64 0, .int .i64 0, .int .i64 0, .int .i64 0, .int .i64 0] ∧ isFmt23 S) y W := (hd 12 rfl).ex rfl
      have x13 : (fun (y : Nat → Value) (W : World) => ∃ g, (y 11 = .pointer (some ⟨g, 0, none⟩) ∧ w.heap.size + 2 ≤ g) ∧ ∃ v0 v1 v2 v3 v4 v5 v6 v7 v8 v9 v10 v11 v12, Blk W g 47 #[v0, v1, v2, v3, v4, v5, v6, v7, v8, v9, v10, v11, v12]) y W := (hd 13 rfl).ex rfl
      clear hd
      obtain ⟨g, ⟨h1, h2⟩, v0, v1, v2, v3, v4, v5, v6, v7, v8, v9, v10, v11, v12, hr0⟩ := x13
      obtain ⟨S, h3, h4⟩ := x12
      have k0 := (hr0.cell 0).trans rfl
      have k1 := (hr0.cell 1).trans rfl
      have k2 := (hr0.cell 2).trans rfl
      have k3 := (hr0.cell 3).trans rfl
      have k4 := (hr0.cell 4).trans rfl
      have k5 := (hr0.cell 5).trans rfl
      have k6 := (hr0.cell 6).trans rfl
      have k7 := (hr0.cell 7).trans rfl
      have k8 := (hr0.cell 8).trans rfl
      have k9 := (hr0.cell 9).trans rfl
      have k10 := (hr0.cell 10).trans rfl
      have k11 := (hr0.cell 11).trans rfl
      have k12 := (hr0.cell 12).trans rfl
      have f0 := hr0.frozen 0
      have f1 := hr0.frozen 1
      have f2 := hr0.frozen 2
      have f3 := hr0.frozen 3
      have f4 := hr0.frozen 4
      have f5 := hr0.frozen 5
      have f6 := hr0.frozen 6
      have f7 := hr0.frozen 7
      have f8 := hr0.frozen 8
      have f9 := hr0.frozen 9
      have f10 := hr0.frozen 10
      have f11 := hr0.frozen 11
      have f12 := hr0.frozen 12
      have hr1 : Blk _ g 47 #[.int .i64 (900 * O), v1, v2, v3, v4, v5, v6, v7, v8, v9, v10, v11, v12] := hr0.set_ 0 (.int .i64 (900 * O))
      have q1 := GE.set_ hr0 0 (.int .i64 (900 * O))
      have hr2 : Blk _ g 47 #[.int .i64 (900 * O), .int .i64 K, v2, v3, v4, v5, v6, v7, v8, v9, v10, v11, v12] := hr1.set_ 1 (.int .i64 K)
      have q2 := GE.set_ hr1 1 (.int .i64 K)
      have hr3 : Blk _ g 47 #[.int .i64 (900 * O), .int .i64 K, .int .i64 0, v3, v4, v5, v6, v7, v8, v9, v10, v11, v12] := hr2.set_ 2 (.int .i64 0)
      have q3 := GE.set_ hr2 2 (.int .i64 0)
      have hr4 : Blk _ g 47 #[.int .i64 (900 * O), .int .i64 K, .int .i64 0, .string ⟨#[]⟩, v4, v5, v6, v7, v8, v9, v10, v11, v12] := hr3.set_ 3 (.string ⟨#[]⟩)
      have q4 := GE.set_ hr3 3 (.string ⟨#[]⟩)
      have hr5 : Blk _ g 47 #[.int .i64 (900 * O), .int .i64 K, .int .i64 0, .string ⟨#[]⟩, .string S, v5, v6, v7, v8, v9, v10, v11, v12] := hr4.set_ 4 (.string S)
      have q5 := GE.set_ hr4 4 (.string S)
      have hr6 : Blk _ g 47 #[.int .i64 (900 * O), .int .i64 K, .int .i64 0, .string ⟨#[]⟩, .string S, .bool false, v6, v7, v8, v9, v10, v11, v12] := hr5.set_ 5 (.bool false)
      have q6 := GE.set_ hr5 5 (.bool false)
      have hr7 : Blk _ g 47 #[.int .i64 (900 * O), .int .i64 K, .int .i64 0, .string ⟨#[]⟩, .string S, .bool false, .int .i64 0, v7, v8, v9, v10, v11, v12] := hr6.set_ 6 (.int .i64 0)
      have q7 := GE.set_ hr6 6 (.int .i64 0)
      have hr8 : Blk _ g 47 #[.int .i64 (900 * O), .int .i64 K, .int .i64 0, .string ⟨#[]⟩, .string S, .bool false, .int .i64 0, .int .i64 0, v8, v9, v10, v11, v12] := hr7.set_ 7 (.int .i64 0)
      have q8 := GE.set_ hr7 7 (.int .i64 0)
      have hr9 : Blk _ g 47 #[.int .i64 (900 * O), .int .i64 K, .int .i64 0, .string ⟨#[]⟩, .string S, .bool false, .int .i64 0, .int .i64 0, .int .i64 0, v9, v10, v11, v12] := hr8.set_ 8 (.int .i64 0)
      have q9 := GE.set_ hr8 8 (.int .i64 0)
      have hr10 : Blk _ g 47 #[.int .i64 (900 * O), .int .i64 K, .int .i64 0, .string ⟨#[]⟩, .string S, .bool false, .int .i64 0, .int .i64 0, .int .i64 0, .int .i64 0, v10, v11, v12] := hr9.set_ 9 (.int .i64 0)
      have q10 := GE.set_ hr9 9 (.int .i64 0)
      have hr11 : Blk _ g 47 #[.int .i64 (900 * O), .int .i64 K, .int .i64 0, .string ⟨#[]⟩, .string S, .bool false, .int .i64 0, .int .i64 0, .int .i64 0, .int .i64 0, .int .i64 0, v11, v12] := hr10.set_ 10 (.int .i64 0)
      have q11 := GE.set_ hr10 10 (.int .i64 0)
      have hr12 : Blk _ g 47 #[.int .i64 (900 * O), .int .i64 K, .int .i64 0, .string ⟨#[]⟩, .string S, .bool false, .int .i64 0, .int .i64 0, .int .i64 0, .int .i64 0, .int .i64 0, .int .i64 0, v12] := hr11.set_ 11 (.int .i64 0)
      have q12 := GE.set_ hr11 11 (.int .i64 0)
      have hr13 : Blk _ g 47 #[.int .i64 (900 * O), .int .i64 K, .int .i64 0, .string ⟨#[]⟩, .string S, .bool false, .int .i64 0, .int .i64 0, .int .i64 0, .int .i64 0, .int .i64 0, .int .i64 0, .int .i64 0] := hr12.set_ 12 (.int .i64 0)
      have q13 := GE.set_ hr12 12 (.int .i64 0)
      have hG := q1.trans (q2.trans (q3.trans (q4.trans (q5.trans (q6.trans (q7.trans (q8.trans (q9.trans (q10.trans (q11.trans (q12.trans (q13))))))))))))
      obtain ⟨hb, hx, hr⟩ := hS
      have hb2 := ((((((((((((hb.setCell (p := ⟨g, 0, none⟩) (by show w.heap.size ≤ g; omega) (.int .i64 (900 * O))).setCell (p := ⟨g, 1, none⟩) (by show w.heap.size ≤ g; omega) (.int .i64 K)).setCell (p := ⟨g, 2, none⟩) (by show w.heap.size ≤ g; omega) (.int .i64 0)).setCell (p := ⟨g, 3, none⟩) (by show w.heap.size ≤ g; omega) (.string ⟨#[]⟩)).setCell (p := ⟨g, 4, none⟩) (by show w.heap.size ≤ g; omega) (.string S)).setCell (p := ⟨g, 5, none⟩) (by show w.heap.size ≤ g; omega) (.bool false)).setCell (p := ⟨g, 6, none⟩) (by show w.heap.size ≤ g; omega) (.int .i64 0)).setCell (p := ⟨g, 7, none⟩) (by show w.heap.size ≤ g; omega) (.int .i64 0)).setCell (p := ⟨g, 8, none⟩) (by show w.heap.size ≤ g; omega) (.int .i64 0)).setCell (p := ⟨g, 9, none⟩) (by show w.heap.size ≤ g; omega) (.int .i64 0)).setCell (p := ⟨g, 10, none⟩) (by show w.heap.size ≤ g; omega) (.int .i64 0)).setCell (p := ⟨g, 11, none⟩) (by show w.heap.size ≤ g; omega) (.int .i64 0)).setCell (p := ⟨g, 12, none⟩) (by show w.heap.size ≤ g; omega) (.int .i64 0)
      have hx' := ((((((((((((hx.far (p := ⟨g, 0, none⟩) (by show _ ≠ g; omega) (.int .i64 (900 * O))).far (p := ⟨g, 1, none⟩) (by show _ ≠ g; omega) (.int .i64 K)).far (p := ⟨g, 2, none⟩) (by show _ ≠ g; omega) (.int .i64 0)).far (p := ⟨g, 3, none⟩) (by show _ ≠ g; omega) (.string ⟨#[]⟩)).far (p := ⟨g, 4, none⟩) (by show _ ≠ g; omega) (.string S)).far (p := ⟨g, 5, none⟩) (by show _ ≠ g; omega) (.bool false)).far (p := ⟨g, 6, none⟩) (by show _ ≠ g; omega) (.int .i64 0)).far (p := ⟨g, 7, none⟩) (by show _ ≠ g; omega) (.int .i64 0)).far (p := ⟨g, 8, none⟩) (by show _ ≠ g; omega) (.int .i64 0)).far (p := ⟨g, 9, none⟩) (by show _ ≠ g; omega) (.int .i64 0)).far (p := ⟨g, 10, none⟩) (by show _ ≠ g; omega) (.int .i64 0)).far (p := ⟨g, 11, none⟩) (by show _ ≠ g; omega) (.int .i64 0)).far (p := ⟨g, 12, none⟩) (by show _ ≠ g; omega) (.int .i64 0)
      have hr' := ((((((((((((hr.far (p := ⟨g, 0, none⟩) (by show _ ≠ g; omega) (.int .i64 (900 * O))).far (p := ⟨g, 1, none⟩) (by show _ ≠ g; omega) (.int .i64 K)).far (p := ⟨g, 2, none⟩) (by show _ ≠ g; omega) (.int .i64 0)).far (p := ⟨g, 3, none⟩) (by show _ ≠ g; omega) (.string ⟨#[]⟩)).far (p := ⟨g, 4, none⟩) (by show _ ≠ g; omega) (.string S)).far (p := ⟨g, 5, none⟩) (by show _ ≠ g; omega) (.bool false)).far (p := ⟨g, 6, none⟩) (by show _ ≠ g; omega) (.int .i64 0)).far (p := ⟨g, 7, none⟩) (by show _ ≠ g; omega) (.int .i64 0)).far (p := ⟨g, 8, none⟩) (by show _ ≠ g; omega) (.int .i64 0)).far (p := ⟨g, 9, none⟩) (by show _ ≠ g; omega) (.int .i64 0)).far (p := ⟨g, 10, none⟩) (by show _ ≠ g; omega) (.int .i64 0)).far (p := ⟨g, 11, none⟩) (by show _ ≠ g; omega) (.int .i64 0)).far (p := ⟨g, 12, none⟩) (by show _ ≠ g; omega) (.int .i64 0)
      have HH := Lib.hid (And.intro hr13 (And.intro hG (And.intro hb2 (And.intro hx' hr'))))
      clear hr0 hr1 hr2 hr3 hr4 hr5 hr6 hr7 hr8 hr9 hr10 hr11 hr12 hr13 q1 q2 q3 q4 q5 q6 q7 q8 q9 q10 q11 q12 q13 hG hb2 hb hx hr hx' hr'
      go_simp
      exact hK.out undef _ _ (by first | rfl | (simp only [h1, h3]; done) | (simp only [h1, h3]; rfl)) HH.out.2.1 HH.out.2.2 (show ∃ g S, (y 11 = Value.pointer (some ⟨g, 0, none⟩) ∧ w.heap.size + 2 ≤ g) ∧ isFmt23 S ∧ Blk _ g 47 #[.int .i64 (900 * O), .int .i64 K, .int .i64 0, .string ⟨#[]⟩, .string S, .bool false, .int .i64 0, .int .i64 0, .int .i64 0, .int .i64 0, .int .i64 0, .int .i64 0, .int .i64 0] from ⟨g, S, ⟨h1, h2⟩, h4, HH.out.1⟩)
    exact StepsOk.nil

end Go.Proofs.YtlideagcmhlkeaaDoor
