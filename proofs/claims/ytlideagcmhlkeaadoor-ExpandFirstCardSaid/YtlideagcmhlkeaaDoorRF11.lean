/- Texts of one proof, one behind the other: Era23e2; Era23c; Grow2; Mad23b. -/
import Derived.Test.YtlideagcmhlkeaaDoorRF10
import Derived.BigRegion
import Derived.IntWalk
import Derived.Deep.DeepCutAuto

/- Eras of layer 23 with an end (kind 2). -/
namespace Go.Proofs.YtlideagcmhlkeaaDoor
open Go.RowKit Go.Lib
set_option linter.unusedVariables false
set_option linter.unusedSimpArgs false

set_option maxRecDepth 100000 in
set_option maxHeartbeats 16000000 in
theorem era23_e2 (d : E23) (first : Bool) (N : Nat) (year : Int) (en : Bool) (w : World) (hKK : d.kind.tmod 3 = 2) (hen : en = true) (hd : d.ok) (hN : 1 ≤ N ∧ N ≤ 3) (hv : VarsP w) :
    Calls Tryd.prog 46 #[.agg #[.int .u8 d.kind, .int .u8 d.set, .int .u8 d.fmt, .int .u8 d.years, .int .u8 d.day, .int .u8 d.base, .int .i8 d.off, .int .i8 d.at_], .bool first, .int .i64 N, .int .i64 year, .bool en] w fun x w' => ∃ e : EV, x = .returned (.agg #[.int .i64 e.off, .int .i64 e.kind, .int .i64 e.save, .string e.set, .string e.fmt, .bool e.ui, .int .i64 e.uy, .int .i64 e.um, .int .i64 e.dk, .int .i64 e.dw, .int .i64 e.dd, .int .i64 e.asec, .int .i64 e.ab]) ∧ GE23 N e ∧ Below w.heap.size w w' := by
  obtain ⟨O, K, S4, D20, D7, A24, B3, k, hEq, bO, bK, bS, bD, bE, bA, bB, bk⟩ := nums23 d N hd hN
  subst hen
  have BK2 := Lib.hid (show K = 2 from hEq.2.1.symm.trans hKK)
  clear hKK
  have HEQ := Lib.hid hEq
  have h2f := hd.f
  have hN3 : (N : Int) ≤ 3 := by omega
  have hNe : ¬ (N : Int) = 0 := by omega
  have hNz : ((N : Int) == 0) = false := by simpa using hNe
  have hN1 : (1 : Int) ≤ N := by omega
  have hk3 : (k : Int) ≤ 3 := by omega
  have hk10 : k < 10 := by omega
  have BO := Lib.hid bO; have BS := Lib.hid bS; have Bk := Lib.hid bk
  have q1 := hd.k.1; have q2 := hd.k.2; have q3 := hd.s.1; have q4 := hd.s.2; have q5 := hd.dy.1; have q6 := hd.dy.2; have q7 := hd.b.1; have q8 := hd.b.2; have q9 := hd.o.1; have q10 := hd.o.2; have q11 := hd.a.1; have q12 := hd.a.2
  have r1 := bO.1; have r2 := bO.2; have r3 := bS.1; have r4 := bS.2; have r5 := bD.1; have r6 := bD.2; have r7 := bE.1; have r8 := bE.2; have r9 := bA.1; have r10 := bA.2; have r11 := bB.1; have r12 := bB.2
  have rk1 : 0 ≤ K := by omega
  have rk2 : K ≤ 2 := by omega
  have w1 : IntKind.u8.wrap (1 + S4) = 1 + S4 := IntWalk.u8_in _ (by omega)
  have wO : IntKind.i64.wrap O = O := IntWalk.i64_in _ (by omega)
  have wM : IntKind.i64.wrap (900 * O) = 900 * O := IntWalk.i64_in _ (by omega)
  have wK : IntKind.i64.wrap K = K := IntWalk.i64_in _ (by omega)
  have hb0 := ((Below.refl w.heap.size w).alloc (Nat.le_refl _) (.cells #[.int .u8 d.kind, .int .u8 d.set, .int .u8 d.fmt, .int .u8 d.years, .int .u8 d.day, .int .u8 d.base, .int .i8 d.off, .int .i8 d.at_] 104)).alloc (by simp) (.cells #[.int .i64 0, .int .i64 0, .int .i64 0, .string ⟨#[]⟩, .string ⟨#[]⟩, .bool false, .int .i64 0, .int .i64 0, .int .i64 0, .int .i64 0, .int .i64 0, .int .i64 0, .int .i64 0] 47)
  have hx0 := (Blk.new w 104 #[.int .u8 d.kind, .int .u8 d.set, .int .u8 d.fmt, .int .u8 d.years, .int .u8 d.day, .int .u8 d.base, .int .i8 d.off, .int .i8 d.at_]).alloc (.cells #[.int .i64 0, .int .i64 0, .int .i64 0, .string ⟨#[]⟩, .string ⟨#[]⟩, .bool false, .int .i64 0, .int .i64 0, .int .i64 0, .int .i64 0, .int .i64 0, .int .i64 0, .int .i64 0] 47)
  have hr0 := Blk.newAt (w.alloc (.cells #[.int .u8 d.kind, .int .u8 d.set, .int .u8 d.fmt, .int .u8 d.years, .int .u8 d.day, .int .u8 d.base, .int .i8 d.off, .int .i8 d.at_] 104)) (w.heap.size + 1) (by simp) 47 #[.int .i64 0, .int .i64 0, .int .i64 0, .string ⟨#[]⟩, .string ⟨#[]⟩, .bool false, .int .i64 0, .int .i64 0, .int .i64 0, .int .i64 0, .int .i64 0, .int .i64 0, .int .i64 0]
  obtain ⟨KS, RN, hKS, hsum0, hRN⟩ : ∃ KS RN : ByteArray, KS = str [UInt8.ofNat (48 + k)] ∧ (∀ W : World, (Op.stringOp .add ⟨#[82]⟩ KS).run Tryd.prog W = .ok (.string RN) W) ∧ RN = rn k := ⟨_, rn k, rfl, cat_run [82] [UInt8.ofNat (48 + k)] (by simp), rfl⟩
  have HSUM := Lib.hid hsum0; have HRN := Lib.hid hRN
  have cI : Hid (∀ W, VarsP W → Calls Tryd.prog 45 #[.int .i64 (k : Int)] W fun e w' => e = .returned (.string KS) ∧ Below W.heap.size W w') := Lib.hid fun W h => by rw [hKS]; exact itoa23 k _ rfl hk10 W h
  clear hEq bO bS bD bE bA bB bk hd hN hKS hsum0 hRN
  go_enter Tryd.func46, Tryd.ntmps46
  go_upto_region 1 with fail
  obtain ⟨hO, hK, hS4, hD20, hD7, hA24, hB3, hkN⟩ := HEQ.out
  refine wp_region_shape [(some 12, []), (some 13, [0]), (some 14, [1]), (some 15, [2]), (some 16, [3]), (some 17, []), (some 18, [5]), (some 19, [6]), (some 20, [7]), (some 21, []), (some 22, [9]), (some 23, [10]), (some 24, [4, 8, 11]), (some 11, []), (none, [13, 12, 11, 0, 1, 2, 3, 4, 5, 6, 7, 8, 9, 10, 11, 12, 13])] (fun y => { tmps := #[.agg #[.int .u8 d.kind, .int .u8 d.set, .int .u8 d.fmt, .int .u8 d.years, .int .u8 d.day, .int .u8 d.base, .int .i8 d.off, .int .i8 d.at_], .bool first, .int .i64 N, .int .i64 year, .bool true, .pointer (some ⟨w.heap.size, 0, none⟩), undef, undef, undef, undef, .pointer (some ⟨w.heap.size + 1, 0, none⟩), y 11, y 12, y 13, y 14, y 15, y 16, y 17, y 18, y 19, y 20, y 21, y 22, y 23, y 24, undef, undef, undef, undef, undef, undef, undef, undef, undef, undef, undef, undef, undef, undef, undef, undef, undef, undef, undef, undef, undef, undef, undef, undef, undef, undef, undef, undef, undef, undef, undef, undef, undef, undef, undef, undef, undef, undef, undef, undef, undef, undef, undef, undef, undef, undef, undef, undef, undef, undef, undef, undef, undef, undef, undef, undef, undef, undef, undef, undef, undef], defers := [] }) (fun _ => undef) (fun j => j == 11 || j == 12 || j == 13 || j == 14) [.pointer (some ⟨w.heap.size, 6, none⟩), .int .i8 d.off, .int .i8 O, .int .i64 O, .int .i64 (900 * O), .pointer (some ⟨w.heap.size, 0, none⟩), .int .u8 d.kind, .int .u8 K, .int .i64 K, .pointer (some ⟨w.heap.size, 2, none⟩), .int .u8 d.fmt, undef, undef, undef, undef] (fun j y W => match j with | 11 => ∃ S, y 23 = .string S ∧ isFmt23 S | 12 => ∃ S, y 24 = .agg #[.int .i64 (900 * O), .int .i64 K, .int .i64 0, .string ⟨#[]⟩, .string S, .bool false, .int .i64 0, .int .i64 0, .int .i64 0, .int .i64 0, .int .i64 0, .int .i64 0, .int .i64 0] ∧ isFmt23 S | 13 => ∃ g, (y 11 = .pointer (some ⟨g, 0, none⟩) ∧ w.heap.size + 2 ≤ g) ∧ ∃ v0 v1 v2 v3 v4 v5 v6 v7 v8 v9 v10 v11 v12, Blk W g 47 #[v0, v1, v2, v3, v4, v5, v6, v7, v8, v9, v10, v11, v12] | 14 => ∃ g S, (y 11 = .pointer (some ⟨g, 0, none⟩) ∧ w.heap.size + 2 ≤ g) ∧ isFmt23 S ∧ Blk W g 47 #[.int .i64 (900 * O), .int .i64 K, .int .i64 0, .string ⟨#[]⟩, .string S, .bool false, .int .i64 0, .int .i64 0, .int .i64 0, .int .i64 0, .int .i64 0, .int .i64 0, .int .i64 0] | _ => True) (fun j => match j with | 11 => [23] | 12 => [24] | 13 => [11] | 14 => [11] | _ => []) (GE) (fun W => Below w.heap.size w W ∧ Blk W w.heap.size 104 #[.int .u8 d.kind, .int .u8 d.set, .int .u8 d.fmt, .int .u8 d.years, .int .u8 d.day, .int .u8 d.base, .int .i8 d.off, .int .i8 d.at_] ∧ Blk W (w.heap.size + 1) 47 #[.int .i64 0, .int .i64 0, .int .i64 0, .string ⟨#[]⟩, .string ⟨#[]⟩, .bool false, .int .i64 0, .int .i64 0, .int .i64 0, .int .i64 0, .int .i64 0, .int .i64 0, .int .i64 0]) (by kernel_rfl) (by kernel_rfl) (by decide +kernel) rfl ⟨hb0.drew, hx0, hr0⟩ ?hput1 ?hloc1 ?hmono1 ?hstep1 ?hdone1
  case hput1 =>
    intro d hd y v
    simp only [List.filterMap_cons, List.filterMap_nil, List.mem_cons, List.not_mem_nil, or_false] at hd
    rcases hd with rfl | rfl | rfl | rfl | rfl | rfl | rfl | rfl | rfl | rfl | rfl | rfl | rfl | rfl
    all_goals rfl
  case hloc1 =>
    intro j hj y y' W hk hx
    have hj' : j = 11 ∨ j = 12 ∨ j = 13 ∨ j = 14 := by simpa [or_assoc] using hj
    rcases hj' with rfl | rfl | rfl | rfl
    · simp only [List.forall_mem_cons, List.not_mem_nil, false_imp_iff, implies_true, and_true] at hk
      show _
      simpa only [hk] using hx
    · simp only [List.forall_mem_cons, List.not_mem_nil, false_imp_iff, implies_true, and_true] at hk
      show _
      simpa only [hk] using hx
    · simp only [List.forall_mem_cons, List.not_mem_nil, false_imp_iff, implies_true, and_true] at hk
      show _
      simpa only [hk] using hx
    · simp only [List.forall_mem_cons, List.not_mem_nil, false_imp_iff, implies_true, and_true] at hk
      show _
      simpa only [hk] using hx
  case hmono1 =>
    intro j hj hlast y W W' hg hx
    have hj' : j = 11 ∨ j = 12 ∨ j = 13 ∨ j = 14 := by simpa [or_assoc] using hj
    rcases hj' with rfl | rfl | rfl | rfl
    · exact hx
    · exact hx
    · obtain ⟨g, h1, h2⟩ := hx; exact ⟨g, h1, hg g h2⟩
    · exact absurd hlast (by decide)
  case hdone1 =>
    intro yy W1 hS hd
    have x14 : (fun (y : Nat → Value) (W : World) => ∃ g S, (y 11 = .pointer (some ⟨g, 0, none⟩) ∧ w.heap.size + 2 ≤ g) ∧ isFmt23 S ∧ Blk W g 47 #[.int .i64 (900 * O), .int .i64 K, .int .i64 0, .string ⟨#[]⟩, .string S, .bool false, .int .i64 0, .int .i64 0, .int .i64 0, .int .i64 0, .int .i64 0, .int .i64 0, .int .i64 0]) yy W1 := (hd 14 (by decide)).ex rfl
    obtain ⟨hb, hx, hr⟩ := hS
    obtain ⟨g, S, ⟨e11, hg2⟩, hf, hbg⟩ := x14
    rw [e11]
    clear hd e11 hb0 hx0 hr0
    obtain rfl := BK2.out
    cases first
    · by_cases hday : 200 ≤ d.day
      · skip
        have hg00 := hbg; have hx00 := hx; have hr00 := hr; have hb00 := hb
        have z1 := (hg00.cell 1).trans rfl
        have z2 := (hx00.cell 1).trans rfl
        have H3g := Lib.hid hg00; have H3x := Lib.hid hx00; have H3r := Lib.hid hr00; have H3b := Lib.hid hb00
        clear hg00 hx00 hr00 hb00
        go_wp2_with fail
        refine (cI.out _ (hv.below H3b.out)).mono ?_
        rintro e W103 ⟨rfl, hc⟩
        have h4g := H3g.out.below hc H3g.out.lt; have h4x := H3x.out.below hc H3x.out.lt; have h4r := H3r.out.below hc H3r.out.lt; have h4b := H3b.out.trans (hc.mono H3b.out.size)
        clear hc H3g H3x H3r H3b z1 z2
        have hsum := HSUM.out
        have z5 := (h4g.cell 3).trans rfl
        have z6 := h4g.frozen 3
        have h7g : Blk _ g 47 #[.int .i64 (900 * O), .int .i64 2, .int .i64 0, .string RN, .string S, .bool false, .int .i64 0, .int .i64 0, .int .i64 0, .int .i64 0, .int .i64 0, .int .i64 0, .int .i64 0] := h4g.set_ 3 (.string RN)
        have h7x := h4x.far (p := ⟨g, 3, none⟩) (by show _ ≠ g; omega) (.string RN)
        have h7r := h4r.far (p := ⟨g, 3, none⟩) (by show _ ≠ g; omega) (.string RN)
        have h7b := h4b.setCell (p := ⟨g, 3, none⟩) (by show w.heap.size ≤ g; omega) (.string RN)
        have z8 := (h7x.cell 4).trans rfl
        have H9g := Lib.hid h7g; have H9x := Lib.hid h7x; have H9r := Lib.hid h7r; have H9b := Lib.hid h7b
        clear h4g h4x h4r h4b h7g h7x h7r h7b
        go_wp2_with fail
        refine (until23_any year 1 (1 + D20) _).mono ?_
        rintro e W109 ⟨rfl, hc⟩
        have h10g := H9g.out.below hc H9g.out.lt; have h10x := H9x.out.below hc H9x.out.lt; have h10r := H9r.out.below hc H9r.out.lt; have h10b := H9b.out.trans (hc.mono H9b.out.size)
        clear hc H9g H9x H9r H9b hsum z5 z6 z8
        have z11 := (h10g.cell 5).trans rfl
        have z12 := h10g.frozen 5
        have z13 := (h10g.cell 6).trans rfl
        have z14 := h10g.frozen 6
        have z15 := (h10g.cell 7).trans rfl
        have z16 := h10g.frozen 7
        have z17 := (h10g.cell 8).trans rfl
        have z18 := h10g.frozen 8
        have z19 := (h10g.cell 9).trans rfl
        have z20 := h10g.frozen 9
        have z21 := (h10g.cell 10).trans rfl
        have z22 := h10g.frozen 10
        have z23 := (h10g.cell 11).trans rfl
        have z24 := h10g.frozen 11
        have z25 := (h10g.cell 12).trans rfl
        have z26 := h10g.frozen 12
        have h27g : Blk _ g 47 #[.int .i64 (900 * O), .int .i64 2, .int .i64 0, .string RN, .string S, .bool true, .int .i64 0, .int .i64 0, .int .i64 0, .int .i64 0, .int .i64 0, .int .i64 0, .int .i64 0] := h10g.set_ 5 (.bool true)
        have h27x := h10x.far (p := ⟨g, 5, none⟩) (by show _ ≠ g; omega) (.bool true)
        have h27r := h10r.far (p := ⟨g, 5, none⟩) (by show _ ≠ g; omega) (.bool true)
        have h27b := h10b.setCell (p := ⟨g, 5, none⟩) (by show w.heap.size ≤ g; omega) (.bool true)
        have h28g : Blk _ g 47 #[.int .i64 (900 * O), .int .i64 2, .int .i64 0, .string RN, .string S, .bool true, .int .i64 year, .int .i64 0, .int .i64 0, .int .i64 0, .int .i64 0, .int .i64 0, .int .i64 0] := h27g.set_ 6 (.int .i64 year)
        have h28x := h27x.far (p := ⟨g, 6, none⟩) (by show _ ≠ g; omega) (.int .i64 year)
        have h28r := h27r.far (p := ⟨g, 6, none⟩) (by show _ ≠ g; omega) (.int .i64 year)
        have h28b := h27b.setCell (p := ⟨g, 6, none⟩) (by show w.heap.size ≤ g; omega) (.int .i64 year)
        have h29g : Blk _ g 47 #[.int .i64 (900 * O), .int .i64 2, .int .i64 0, .string RN, .string S, .bool true, .int .i64 year, .int .i64 1, .int .i64 0, .int .i64 0, .int .i64 0, .int .i64 0, .int .i64 0] := h28g.set_ 7 (.int .i64 1)
        have h29x := h28x.far (p := ⟨g, 7, none⟩) (by show _ ≠ g; omega) (.int .i64 1)
        have h29r := h28r.far (p := ⟨g, 7, none⟩) (by show _ ≠ g; omega) (.int .i64 1)
        have h29b := h28b.setCell (p := ⟨g, 7, none⟩) (by show w.heap.size ≤ g; omega) (.int .i64 1)
        have h30g : Blk _ g 47 #[.int .i64 (900 * O), .int .i64 2, .int .i64 0, .string RN, .string S, .bool true, .int .i64 year, .int .i64 1, .int .i64 1, .int .i64 0, .int .i64 0, .int .i64 0, .int .i64 0] := h29g.set_ 8 (.int .i64 1)
        have h30x := h29x.far (p := ⟨g, 8, none⟩) (by show _ ≠ g; omega) (.int .i64 1)
        have h30r := h29r.far (p := ⟨g, 8, none⟩) (by show _ ≠ g; omega) (.int .i64 1)
        have h30b := h29b.setCell (p := ⟨g, 8, none⟩) (by show w.heap.size ≤ g; omega) (.int .i64 1)
        have h31g : Blk _ g 47 #[.int .i64 (900 * O), .int .i64 2, .int .i64 0, .string RN, .string S, .bool true, .int .i64 year, .int .i64 1, .int .i64 1, .int .i64 0, .int .i64 0, .int .i64 0, .int .i64 0] := h30g.set_ 9 (.int .i64 0)
        have h31x := h30x.far (p := ⟨g, 9, none⟩) (by show _ ≠ g; omega) (.int .i64 0)
        have h31r := h30r.far (p := ⟨g, 9, none⟩) (by show _ ≠ g; omega) (.int .i64 0)
        have h31b := h30b.setCell (p := ⟨g, 9, none⟩) (by show w.heap.size ≤ g; omega) (.int .i64 0)
        have h32g : Blk _ g 47 #[.int .i64 (900 * O), .int .i64 2, .int .i64 0, .string RN, .string S, .bool true, .int .i64 year, .int .i64 1, .int .i64 1, .int .i64 0, .int .i64 (1 + D20), .int .i64 0, .int .i64 0] := h31g.set_ 10 (.int .i64 (1 + D20))
        have h32x := h31x.far (p := ⟨g, 10, none⟩) (by show _ ≠ g; omega) (.int .i64 (1 + D20))
        have h32r := h31r.far (p := ⟨g, 10, none⟩) (by show _ ≠ g; omega) (.int .i64 (1 + D20))
        have h32b := h31b.setCell (p := ⟨g, 10, none⟩) (by show w.heap.size ≤ g; omega) (.int .i64 (1 + D20))
        have h33g : Blk _ g 47 #[.int .i64 (900 * O), .int .i64 2, .int .i64 0, .string RN, .string S, .bool true, .int .i64 year, .int .i64 1, .int .i64 1, .int .i64 0, .int .i64 (1 + D20), .int .i64 0, .int .i64 0] := h32g.set_ 11 (.int .i64 0)
        have h33x := h32x.far (p := ⟨g, 11, none⟩) (by show _ ≠ g; omega) (.int .i64 0)
        have h33r := h32r.far (p := ⟨g, 11, none⟩) (by show _ ≠ g; omega) (.int .i64 0)
        have h33b := h32b.setCell (p := ⟨g, 11, none⟩) (by show w.heap.size ≤ g; omega) (.int .i64 0)
        have h34g : Blk _ g 47 #[.int .i64 (900 * O), .int .i64 2, .int .i64 0, .string RN, .string S, .bool true, .int .i64 year, .int .i64 1, .int .i64 1, .int .i64 0, .int .i64 (1 + D20), .int .i64 0, .int .i64 0] := h33g.set_ 12 (.int .i64 0)
        have h34x := h33x.far (p := ⟨g, 12, none⟩) (by show _ ≠ g; omega) (.int .i64 0)
        have h34r := h33r.far (p := ⟨g, 12, none⟩) (by show _ ≠ g; omega) (.int .i64 0)
        have h34b := h33b.setCell (p := ⟨g, 12, none⟩) (by show w.heap.size ≤ g; omega) (.int .i64 0)
        have z35 := (h34x.cell 4).trans rfl
        have HT := Lib.hid (And.intro hD7 (And.intro hA24 hB3))
        clear hO hS4 hD20 hD7 hA24 hB3 hkN
        go_upto_region 12 with fail
        obtain ⟨hD7, hA24, hB3⟩ := HT.out
        have z36 := (h34g.cell 8).trans rfl
        have z37 := h34g.frozen 8
        have z38 := (h34g.cell 9).trans rfl
        have z39 := h34g.frozen 9
        have z40 := (h34g.cell 10).trans rfl
        have z41 := h34g.frozen 10
        have h42g : Blk _ g 47 #[.int .i64 (900 * O), .int .i64 2, .int .i64 0, .string RN, .string S, .bool true, .int .i64 year, .int .i64 1, .int .i64 3, .int .i64 0, .int .i64 (1 + D20), .int .i64 0, .int .i64 0] := h34g.set_ 8 (.int .i64 3)
        have h42x := h34x.far (p := ⟨g, 8, none⟩) (by show _ ≠ g; omega) (.int .i64 3)
        have h42r := h34r.far (p := ⟨g, 8, none⟩) (by show _ ≠ g; omega) (.int .i64 3)
        have h42b := h34b.setCell (p := ⟨g, 8, none⟩) (by show w.heap.size ≤ g; omega) (.int .i64 3)
        have h43g : Blk _ g 47 #[.int .i64 (900 * O), .int .i64 2, .int .i64 0, .string RN, .string S, .bool true, .int .i64 year, .int .i64 1, .int .i64 3, .int .i64 D7, .int .i64 (1 + D20), .int .i64 0, .int .i64 0] := h42g.set_ 9 (.int .i64 D7)
        have h43x := h42x.far (p := ⟨g, 9, none⟩) (by show _ ≠ g; omega) (.int .i64 D7)
        have h43r := h42r.far (p := ⟨g, 9, none⟩) (by show _ ≠ g; omega) (.int .i64 D7)
        have h43b := h42b.setCell (p := ⟨g, 9, none⟩) (by show w.heap.size ≤ g; omega) (.int .i64 D7)
        have h44g : Blk _ g 47 #[.int .i64 (900 * O), .int .i64 2, .int .i64 0, .string RN, .string S, .bool true, .int .i64 year, .int .i64 1, .int .i64 3, .int .i64 D7, .int .i64 8, .int .i64 0, .int .i64 0] := h43g.set_ 10 (.int .i64 8)
        have h44x := h43x.far (p := ⟨g, 10, none⟩) (by show _ ≠ g; omega) (.int .i64 8)
        have h44r := h43r.far (p := ⟨g, 10, none⟩) (by show _ ≠ g; omega) (.int .i64 8)
        have h44b := h43b.setCell (p := ⟨g, 10, none⟩) (by show w.heap.size ≤ g; omega) (.int .i64 8)
        have z45 := (h44x.cell 7).trans rfl
        have z46 := (h44x.cell 5).trans rfl
        have z47 := (h44g.cell 11).trans rfl
        have z48 := h44g.frozen 11
        have z49 := (h44g.cell 12).trans rfl
        have z50 := h44g.frozen 12
        have h51g : Blk _ g 47 #[.int .i64 (900 * O), .int .i64 2, .int .i64 0, .string RN, .string S, .bool true, .int .i64 year, .int .i64 1, .int .i64 3, .int .i64 D7, .int .i64 8, .int .i64 (900 * (24 + A24)), .int .i64 0] := h44g.set_ 11 (.int .i64 (900 * (24 + A24)))
        have h51x := h44x.far (p := ⟨g, 11, none⟩) (by show _ ≠ g; omega) (.int .i64 (900 * (24 + A24)))
        have h51r := h44r.far (p := ⟨g, 11, none⟩) (by show _ ≠ g; omega) (.int .i64 (900 * (24 + A24)))
        have h51b := h44b.setCell (p := ⟨g, 11, none⟩) (by show w.heap.size ≤ g; omega) (.int .i64 (900 * (24 + A24)))
        have h52g : Blk _ g 47 #[.int .i64 (900 * O), .int .i64 2, .int .i64 0, .string RN, .string S, .bool true, .int .i64 year, .int .i64 1, .int .i64 3, .int .i64 D7, .int .i64 8, .int .i64 (900 * (24 + A24)), .int .i64 B3] := h51g.set_ 12 (.int .i64 B3)
        have h52x := h51x.far (p := ⟨g, 12, none⟩) (by show _ ≠ g; omega) (.int .i64 B3)
        have h52r := h51r.far (p := ⟨g, 12, none⟩) (by show _ ≠ g; omega) (.int .i64 B3)
        have h52b := h51b.setCell (p := ⟨g, 12, none⟩) (by show w.heap.size ≤ g; omega) (.int .i64 B3)
        have z53 := (h52g.cell 0).trans rfl
        have z54 := (h52g.cell 1).trans rfl
        have z55 := (h52g.cell 2).trans rfl
        have z56 := (h52g.cell 3).trans rfl
        have z57 := (h52g.cell 4).trans rfl
        have z58 := (h52g.cell 5).trans rfl
        have z59 := (h52g.cell 6).trans rfl
        have z60 := (h52g.cell 7).trans rfl
        have z61 := (h52g.cell 8).trans rfl
        have z62 := (h52g.cell 9).trans rfl
        have z63 := (h52g.cell 10).trans rfl
        have z64 := (h52g.cell 11).trans rfl
        have z65 := (h52g.cell 12).trans rfl
        have z66 := (h52r.cell 0).trans rfl
        have z67 := h52r.frozen 0
        have z68 := (h52r.cell 1).trans rfl
        have z69 := h52r.frozen 1
        have z70 := (h52r.cell 2).trans rfl
        have z71 := h52r.frozen 2
        have z72 := (h52r.cell 3).trans rfl
        have z73 := h52r.frozen 3
        have z74 := (h52r.cell 4).trans rfl
        have z75 := h52r.frozen 4
        have z76 := (h52r.cell 5).trans rfl
        have z77 := h52r.frozen 5
        have z78 := (h52r.cell 6).trans rfl
        have z79 := h52r.frozen 6
        have z80 := (h52r.cell 7).trans rfl
        have z81 := h52r.frozen 7
        have z82 := (h52r.cell 8).trans rfl
        have z83 := h52r.frozen 8
        have z84 := (h52r.cell 9).trans rfl
        have z85 := h52r.frozen 9
        have z86 := (h52r.cell 10).trans rfl
        have z87 := h52r.frozen 10
        have z88 := (h52r.cell 11).trans rfl
        have z89 := h52r.frozen 11
        have z90 := (h52r.cell 12).trans rfl
        have z91 := h52r.frozen 12
        have t920 : Blk _ (w.heap.size + 1) 47 #[.int .i64 (900 * O), .int .i64 0, .int .i64 0, .string ⟨#[]⟩, .string ⟨#[]⟩, .bool false, .int .i64 0, .int .i64 0, .int .i64 0, .int .i64 0, .int .i64 0, .int .i64 0, .int .i64 0] := h52r.set_ 0 (.int .i64 (900 * O))
        have t921 : Blk _ (w.heap.size + 1) 47 #[.int .i64 (900 * O), .int .i64 2, .int .i64 0, .string ⟨#[]⟩, .string ⟨#[]⟩, .bool false, .int .i64 0, .int .i64 0, .int .i64 0, .int .i64 0, .int .i64 0, .int .i64 0, .int .i64 0] := t920.set_ 1 (.int .i64 2)
        have t922 : Blk _ (w.heap.size + 1) 47 #[.int .i64 (900 * O), .int .i64 2, .int .i64 0, .string ⟨#[]⟩, .string ⟨#[]⟩, .bool false, .int .i64 0, .int .i64 0, .int .i64 0, .int .i64 0, .int .i64 0, .int .i64 0, .int .i64 0] := t921.set_ 2 (.int .i64 0)
        have t923 : Blk _ (w.heap.size + 1) 47 #[.int .i64 (900 * O), .int .i64 2, .int .i64 0, .string RN, .string ⟨#[]⟩, .bool false, .int .i64 0, .int .i64 0, .int .i64 0, .int .i64 0, .int .i64 0, .int .i64 0, .int .i64 0] := t922.set_ 3 (.string RN)
        have t924 : Blk _ (w.heap.size + 1) 47 #[.int .i64 (900 * O), .int .i64 2, .int .i64 0, .string RN, .string S, .bool false, .int .i64 0, .int .i64 0, .int .i64 0, .int .i64 0, .int .i64 0, .int .i64 0, .int .i64 0] := t923.set_ 4 (.string S)
        have t925 : Blk _ (w.heap.size + 1) 47 #[.int .i64 (900 * O), .int .i64 2, .int .i64 0, .string RN, .string S, .bool true, .int .i64 0, .int .i64 0, .int .i64 0, .int .i64 0, .int .i64 0, .int .i64 0, .int .i64 0] := t924.set_ 5 (.bool true)
        have t926 : Blk _ (w.heap.size + 1) 47 #[.int .i64 (900 * O), .int .i64 2, .int .i64 0, .string RN, .string S, .bool true, .int .i64 year, .int .i64 0, .int .i64 0, .int .i64 0, .int .i64 0, .int .i64 0, .int .i64 0] := t925.set_ 6 (.int .i64 year)
        have t927 : Blk _ (w.heap.size + 1) 47 #[.int .i64 (900 * O), .int .i64 2, .int .i64 0, .string RN, .string S, .bool true, .int .i64 year, .int .i64 1, .int .i64 0, .int .i64 0, .int .i64 0, .int .i64 0, .int .i64 0] := t926.set_ 7 (.int .i64 1)
        have t928 : Blk _ (w.heap.size + 1) 47 #[.int .i64 (900 * O), .int .i64 2, .int .i64 0, .string RN, .string S, .bool true, .int .i64 year, .int .i64 1, .int .i64 3, .int .i64 0, .int .i64 0, .int .i64 0, .int .i64 0] := t927.set_ 8 (.int .i64 3)
        have t929 : Blk _ (w.heap.size + 1) 47 #[.int .i64 (900 * O), .int .i64 2, .int .i64 0, .string RN, .string S, .bool true, .int .i64 year, .int .i64 1, .int .i64 3, .int .i64 D7, .int .i64 0, .int .i64 0, .int .i64 0] := t928.set_ 9 (.int .i64 D7)
        have t9210 : Blk _ (w.heap.size + 1) 47 #[.int .i64 (900 * O), .int .i64 2, .int .i64 0, .string RN, .string S, .bool true, .int .i64 year, .int .i64 1, .int .i64 3, .int .i64 D7, .int .i64 8, .int .i64 0, .int .i64 0] := t929.set_ 10 (.int .i64 8)
        have t9211 : Blk _ (w.heap.size + 1) 47 #[.int .i64 (900 * O), .int .i64 2, .int .i64 0, .string RN, .string S, .bool true, .int .i64 year, .int .i64 1, .int .i64 3, .int .i64 D7, .int .i64 8, .int .i64 (900 * (24 + A24)), .int .i64 0] := t9210.set_ 11 (.int .i64 (900 * (24 + A24)))
        have t9212 : Blk _ (w.heap.size + 1) 47 #[.int .i64 (900 * O), .int .i64 2, .int .i64 0, .string RN, .string S, .bool true, .int .i64 year, .int .i64 1, .int .i64 3, .int .i64 D7, .int .i64 8, .int .i64 (900 * (24 + A24)), .int .i64 B3] := t9211.set_ 12 (.int .i64 B3)
        have kk0 := (t9212.cell 0).trans rfl
        have kk1 := (t9212.cell 1).trans rfl
        have kk2 := (t9212.cell 2).trans rfl
        have kk3 := (t9212.cell 3).trans rfl
        have kk4 := (t9212.cell 4).trans rfl
        have kk5 := (t9212.cell 5).trans rfl
        have kk6 := (t9212.cell 6).trans rfl
        have kk7 := (t9212.cell 7).trans rfl
        have kk8 := (t9212.cell 8).trans rfl
        have kk9 := (t9212.cell 9).trans rfl
        have kk10 := (t9212.cell 10).trans rfl
        have kk11 := (t9212.cell 11).trans rfl
        have kk12 := (t9212.cell 12).trans rfl
        have HBF := Lib.hid (((((((((((((h52b.setCell (p := ⟨w.heap.size + 1, 0, none⟩) (Nat.le_succ _) (.int .i64 (900 * O))).setCell (p := ⟨w.heap.size + 1, 1, none⟩) (Nat.le_succ _) (.int .i64 2)).setCell (p := ⟨w.heap.size + 1, 2, none⟩) (Nat.le_succ _) (.int .i64 0)).setCell (p := ⟨w.heap.size + 1, 3, none⟩) (Nat.le_succ _) (.string RN)).setCell (p := ⟨w.heap.size + 1, 4, none⟩) (Nat.le_succ _) (.string S)).setCell (p := ⟨w.heap.size + 1, 5, none⟩) (Nat.le_succ _) (.bool true)).setCell (p := ⟨w.heap.size + 1, 6, none⟩) (Nat.le_succ _) (.int .i64 year)).setCell (p := ⟨w.heap.size + 1, 7, none⟩) (Nat.le_succ _) (.int .i64 1)).setCell (p := ⟨w.heap.size + 1, 8, none⟩) (Nat.le_succ _) (.int .i64 3)).setCell (p := ⟨w.heap.size + 1, 9, none⟩) (Nat.le_succ _) (.int .i64 D7)).setCell (p := ⟨w.heap.size + 1, 10, none⟩) (Nat.le_succ _) (.int .i64 8)).setCell (p := ⟨w.heap.size + 1, 11, none⟩) (Nat.le_succ _) (.int .i64 (900 * (24 + A24)))).setCell (p := ⟨w.heap.size + 1, 12, none⟩) (Nat.le_succ _) (.int .i64 B3))
        clear t920 t921 t922 t923 t924 t925 t926 t927 t928 t929 t9210 t9211 t9212
        have H93g := Lib.hid h52g; have H93x := Lib.hid h52x; have H93r := Lib.hid h52r; have H93b := Lib.hid h52b
        clear h10g h10x h10r h10b h27g h27x h27r h27b h28g h28x h28r h28b h29g h29x h29r h29b h30g h30x h30r h30b h31g h31x h31r h31b h32g h32x h32r h32b h33g h33x h33r h33b h34g h34x h34r h34b h42g h42x h42r h42b h43g h43x h43r h43b h44g h44x h44r h44b h51g h51x h51r h51b h52g h52x h52r h52b
        go_wp2_with fail
        refine bodyPost_ret (v := .agg #[.int .i64 (900 * O), .int .i64 2, .int .i64 0, .string RN, .string S, .bool true, .int .i64 year, .int .i64 1, .int .i64 3, .int .i64 D7, .int .i64 8, .int .i64 (900 * (24 + A24)), .int .i64 B3]) (by simp [results, Tryd.results46, go_sem, kk0, kk1, kk2, kk3, kk4, kk5, kk6, kk7, kk8, kk9, kk10, kk11, kk12]) rfl ?_
        exact ⟨⟨(900 * O), 2, 0, RN, S, true, year, 1, 3, D7, 8, (900 * (24 + A24)), B3⟩, rfl, ⟨(by show -42300 ≤ 900 * O ∧ 900 * O ≤ 42300; have := BO.out; omega), .inr (.inr rfl), hf, (show (0 : Int) ≤ 0 ∧ (0 : Int) ≤ 7200 by decide), fun _ => ⟨k, Bk.out, HRN.out⟩⟩, HBF.out⟩
      · skip
        have hg00 := hbg; have hx00 := hx; have hr00 := hr; have hb00 := hb
        have z1 := (hg00.cell 1).trans rfl
        have z2 := (hx00.cell 1).trans rfl
        have H3g := Lib.hid hg00; have H3x := Lib.hid hx00; have H3r := Lib.hid hr00; have H3b := Lib.hid hb00
        clear hg00 hx00 hr00 hb00
        go_wp2_with fail
        refine (cI.out _ (hv.below H3b.out)).mono ?_
        rintro e W103 ⟨rfl, hc⟩
        have h4g := H3g.out.below hc H3g.out.lt; have h4x := H3x.out.below hc H3x.out.lt; have h4r := H3r.out.below hc H3r.out.lt; have h4b := H3b.out.trans (hc.mono H3b.out.size)
        clear hc H3g H3x H3r H3b z1 z2
        have hsum := HSUM.out
        have z5 := (h4g.cell 3).trans rfl
        have z6 := h4g.frozen 3
        have h7g : Blk _ g 47 #[.int .i64 (900 * O), .int .i64 2, .int .i64 0, .string RN, .string S, .bool false, .int .i64 0, .int .i64 0, .int .i64 0, .int .i64 0, .int .i64 0, .int .i64 0, .int .i64 0] := h4g.set_ 3 (.string RN)
        have h7x := h4x.far (p := ⟨g, 3, none⟩) (by show _ ≠ g; omega) (.string RN)
        have h7r := h4r.far (p := ⟨g, 3, none⟩) (by show _ ≠ g; omega) (.string RN)
        have h7b := h4b.setCell (p := ⟨g, 3, none⟩) (by show w.heap.size ≤ g; omega) (.string RN)
        have z8 := (h7x.cell 4).trans rfl
        have H9g := Lib.hid h7g; have H9x := Lib.hid h7x; have H9r := Lib.hid h7r; have H9b := Lib.hid h7b
        clear h4g h4x h4r h4b h7g h7x h7r h7b
        go_wp2_with fail
        refine (until23_any year 1 (1 + D20) _).mono ?_
        rintro e W109 ⟨rfl, hc⟩
        have h10g := H9g.out.below hc H9g.out.lt; have h10x := H9x.out.below hc H9x.out.lt; have h10r := H9r.out.below hc H9r.out.lt; have h10b := H9b.out.trans (hc.mono H9b.out.size)
        clear hc H9g H9x H9r H9b hsum z5 z6 z8
        have z11 := (h10g.cell 5).trans rfl
        have z12 := h10g.frozen 5
        have z13 := (h10g.cell 6).trans rfl
        have z14 := h10g.frozen 6
        have z15 := (h10g.cell 7).trans rfl
        have z16 := h10g.frozen 7
        have z17 := (h10g.cell 8).trans rfl
        have z18 := h10g.frozen 8
        have z19 := (h10g.cell 9).trans rfl
        have z20 := h10g.frozen 9
        have z21 := (h10g.cell 10).trans rfl
        have z22 := h10g.frozen 10
        have z23 := (h10g.cell 11).trans rfl
        have z24 := h10g.frozen 11
        have z25 := (h10g.cell 12).trans rfl
        have z26 := h10g.frozen 12
        have h27g : Blk _ g 47 #[.int .i64 (900 * O), .int .i64 2, .int .i64 0, .string RN, .string S, .bool true, .int .i64 0, .int .i64 0, .int .i64 0, .int .i64 0, .int .i64 0, .int .i64 0, .int .i64 0] := h10g.set_ 5 (.bool true)
        have h27x := h10x.far (p := ⟨g, 5, none⟩) (by show _ ≠ g; omega) (.bool true)
        have h27r := h10r.far (p := ⟨g, 5, none⟩) (by show _ ≠ g; omega) (.bool true)
        have h27b := h10b.setCell (p := ⟨g, 5, none⟩) (by show w.heap.size ≤ g; omega) (.bool true)
        have h28g : Blk _ g 47 #[.int .i64 (900 * O), .int .i64 2, .int .i64 0, .string RN, .string S, .bool true, .int .i64 year, .int .i64 0, .int .i64 0, .int .i64 0, .int .i64 0, .int .i64 0, .int .i64 0] := h27g.set_ 6 (.int .i64 year)
        have h28x := h27x.far (p := ⟨g, 6, none⟩) (by show _ ≠ g; omega) (.int .i64 year)
        have h28r := h27r.far (p := ⟨g, 6, none⟩) (by show _ ≠ g; omega) (.int .i64 year)
        have h28b := h27b.setCell (p := ⟨g, 6, none⟩) (by show w.heap.size ≤ g; omega) (.int .i64 year)
        have h29g : Blk _ g 47 #[.int .i64 (900 * O), .int .i64 2, .int .i64 0, .string RN, .string S, .bool true, .int .i64 year, .int .i64 1, .int .i64 0, .int .i64 0, .int .i64 0, .int .i64 0, .int .i64 0] := h28g.set_ 7 (.int .i64 1)
        have h29x := h28x.far (p := ⟨g, 7, none⟩) (by show _ ≠ g; omega) (.int .i64 1)
        have h29r := h28r.far (p := ⟨g, 7, none⟩) (by show _ ≠ g; omega) (.int .i64 1)
        have h29b := h28b.setCell (p := ⟨g, 7, none⟩) (by show w.heap.size ≤ g; omega) (.int .i64 1)
        have h30g : Blk _ g 47 #[.int .i64 (900 * O), .int .i64 2, .int .i64 0, .string RN, .string S, .bool true, .int .i64 year, .int .i64 1, .int .i64 1, .int .i64 0, .int .i64 0, .int .i64 0, .int .i64 0] := h29g.set_ 8 (.int .i64 1)
        have h30x := h29x.far (p := ⟨g, 8, none⟩) (by show _ ≠ g; omega) (.int .i64 1)
        have h30r := h29r.far (p := ⟨g, 8, none⟩) (by show _ ≠ g; omega) (.int .i64 1)
        have h30b := h29b.setCell (p := ⟨g, 8, none⟩) (by show w.heap.size ≤ g; omega) (.int .i64 1)
        have h31g : Blk _ g 47 #[.int .i64 (900 * O), .int .i64 2, .int .i64 0, .string RN, .string S, .bool true, .int .i64 year, .int .i64 1, .int .i64 1, .int .i64 0, .int .i64 0, .int .i64 0, .int .i64 0] := h30g.set_ 9 (.int .i64 0)
        have h31x := h30x.far (p := ⟨g, 9, none⟩) (by show _ ≠ g; omega) (.int .i64 0)
        have h31r := h30r.far (p := ⟨g, 9, none⟩) (by show _ ≠ g; omega) (.int .i64 0)
        have h31b := h30b.setCell (p := ⟨g, 9, none⟩) (by show w.heap.size ≤ g; omega) (.int .i64 0)
        have h32g : Blk _ g 47 #[.int .i64 (900 * O), .int .i64 2, .int .i64 0, .string RN, .string S, .bool true, .int .i64 year, .int .i64 1, .int .i64 1, .int .i64 0, .int .i64 (1 + D20), .int .i64 0, .int .i64 0] := h31g.set_ 10 (.int .i64 (1 + D20))
        have h32x := h31x.far (p := ⟨g, 10, none⟩) (by show _ ≠ g; omega) (.int .i64 (1 + D20))
        have h32r := h31r.far (p := ⟨g, 10, none⟩) (by show _ ≠ g; omega) (.int .i64 (1 + D20))
        have h32b := h31b.setCell (p := ⟨g, 10, none⟩) (by show w.heap.size ≤ g; omega) (.int .i64 (1 + D20))
        have h33g : Blk _ g 47 #[.int .i64 (900 * O), .int .i64 2, .int .i64 0, .string RN, .string S, .bool true, .int .i64 year, .int .i64 1, .int .i64 1, .int .i64 0, .int .i64 (1 + D20), .int .i64 0, .int .i64 0] := h32g.set_ 11 (.int .i64 0)
        have h33x := h32x.far (p := ⟨g, 11, none⟩) (by show _ ≠ g; omega) (.int .i64 0)
        have h33r := h32r.far (p := ⟨g, 11, none⟩) (by show _ ≠ g; omega) (.int .i64 0)
        have h33b := h32b.setCell (p := ⟨g, 11, none⟩) (by show w.heap.size ≤ g; omega) (.int .i64 0)
        have h34g : Blk _ g 47 #[.int .i64 (900 * O), .int .i64 2, .int .i64 0, .string RN, .string S, .bool true, .int .i64 year, .int .i64 1, .int .i64 1, .int .i64 0, .int .i64 (1 + D20), .int .i64 0, .int .i64 0] := h33g.set_ 12 (.int .i64 0)
        have h34x := h33x.far (p := ⟨g, 12, none⟩) (by show _ ≠ g; omega) (.int .i64 0)
        have h34r := h33r.far (p := ⟨g, 12, none⟩) (by show _ ≠ g; omega) (.int .i64 0)
        have h34b := h33b.setCell (p := ⟨g, 12, none⟩) (by show w.heap.size ≤ g; omega) (.int .i64 0)
        have z35 := (h34x.cell 4).trans rfl
        have HT := Lib.hid (And.intro hD7 (And.intro hA24 hB3))
        clear hO hS4 hD20 hD7 hA24 hB3 hkN
        have hday2 : d.day < 200 := by omega
        have hday3 : decide (200 ≤ d.day) = false := decide_eq_false (by omega)
        go_upto_region 13 with fail
        obtain ⟨hD7, hA24, hB3⟩ := HT.out
        have z36 := (h34x.cell 7).trans rfl
        have z37 := (h34x.cell 5).trans rfl
        have z38 := (h34g.cell 11).trans rfl
        have z39 := h34g.frozen 11
        have z40 := (h34g.cell 12).trans rfl
        have z41 := h34g.frozen 12
        have h42g : Blk _ g 47 #[.int .i64 (900 * O), .int .i64 2, .int .i64 0, .string RN, .string S, .bool true, .int .i64 year, .int .i64 1, .int .i64 1, .int .i64 0, .int .i64 (1 + D20), .int .i64 (900 * (24 + A24)), .int .i64 0] := h34g.set_ 11 (.int .i64 (900 * (24 + A24)))
        have h42x := h34x.far (p := ⟨g, 11, none⟩) (by show _ ≠ g; omega) (.int .i64 (900 * (24 + A24)))
        have h42r := h34r.far (p := ⟨g, 11, none⟩) (by show _ ≠ g; omega) (.int .i64 (900 * (24 + A24)))
        have h42b := h34b.setCell (p := ⟨g, 11, none⟩) (by show w.heap.size ≤ g; omega) (.int .i64 (900 * (24 + A24)))
        have h43g : Blk _ g 47 #[.int .i64 (900 * O), .int .i64 2, .int .i64 0, .string RN, .string S, .bool true, .int .i64 year, .int .i64 1, .int .i64 1, .int .i64 0, .int .i64 (1 + D20), .int .i64 (900 * (24 + A24)), .int .i64 B3] := h42g.set_ 12 (.int .i64 B3)
        have h43x := h42x.far (p := ⟨g, 12, none⟩) (by show _ ≠ g; omega) (.int .i64 B3)
        have h43r := h42r.far (p := ⟨g, 12, none⟩) (by show _ ≠ g; omega) (.int .i64 B3)
        have h43b := h42b.setCell (p := ⟨g, 12, none⟩) (by show w.heap.size ≤ g; omega) (.int .i64 B3)
        have z44 := (h43g.cell 0).trans rfl
        have z45 := (h43g.cell 1).trans rfl
        have z46 := (h43g.cell 2).trans rfl
        have z47 := (h43g.cell 3).trans rfl
        have z48 := (h43g.cell 4).trans rfl
        have z49 := (h43g.cell 5).trans rfl
        have z50 := (h43g.cell 6).trans rfl
        have z51 := (h43g.cell 7).trans rfl
        have z52 := (h43g.cell 8).trans rfl
        have z53 := (h43g.cell 9).trans rfl
        have z54 := (h43g.cell 10).trans rfl
        have z55 := (h43g.cell 11).trans rfl
        have z56 := (h43g.cell 12).trans rfl
        have z57 := (h43r.cell 0).trans rfl
        have z58 := h43r.frozen 0
        have z59 := (h43r.cell 1).trans rfl
        have z60 := h43r.frozen 1
        have z61 := (h43r.cell 2).trans rfl
        have z62 := h43r.frozen 2
        have z63 := (h43r.cell 3).trans rfl
        have z64 := h43r.frozen 3
        have z65 := (h43r.cell 4).trans rfl
        have z66 := h43r.frozen 4
        have z67 := (h43r.cell 5).trans rfl
        have z68 := h43r.frozen 5
        have z69 := (h43r.cell 6).trans rfl
        have z70 := h43r.frozen 6
        have z71 := (h43r.cell 7).trans rfl
        have z72 := h43r.frozen 7
        have z73 := (h43r.cell 8).trans rfl
        have z74 := h43r.frozen 8
        have z75 := (h43r.cell 9).trans rfl
        have z76 := h43r.frozen 9
        have z77 := (h43r.cell 10).trans rfl
        have z78 := h43r.frozen 10
        have z79 := (h43r.cell 11).trans rfl
        have z80 := h43r.frozen 11
        have z81 := (h43r.cell 12).trans rfl
        have z82 := h43r.frozen 12
        have t830 : Blk _ (w.heap.size + 1) 47 #[.int .i64 (900 * O), .int .i64 0, .int .i64 0, .string ⟨#[]⟩, .string ⟨#[]⟩, .bool false, .int .i64 0, .int .i64 0, .int .i64 0, .int .i64 0, .int .i64 0, .int .i64 0, .int .i64 0] := h43r.set_ 0 (.int .i64 (900 * O))
        have t831 : Blk _ (w.heap.size + 1) 47 #[.int .i64 (900 * O), .int .i64 2, .int .i64 0, .string ⟨#[]⟩, .string ⟨#[]⟩, .bool false, .int .i64 0, .int .i64 0, .int .i64 0, .int .i64 0, .int .i64 0, .int .i64 0, .int .i64 0] := t830.set_ 1 (.int .i64 2)
        have t832 : Blk _ (w.heap.size + 1) 47 #[.int .i64 (900 * O), .int .i64 2, .int .i64 0, .string ⟨#[]⟩, .string ⟨#[]⟩, .bool false, .int .i64 0, .int .i64 0, .int .i64 0, .int .i64 0, .int .i64 0, .int .i64 0, .int .i64 0] := t831.set_ 2 (.int .i64 0)
        have t833 : Blk _ (w.heap.size + 1) 47 #[.int .i64 (900 * O), .int .i64 2, .int .i64 0, .string RN, .string ⟨#[]⟩, .bool false, .int .i64 0, .int .i64 0, .int .i64 0, .int .i64 0, .int .i64 0, .int .i64 0, .int .i64 0] := t832.set_ 3 (.string RN)
        have t834 : Blk _ (w.heap.size + 1) 47 #[.int .i64 (900 * O), .int .i64 2, .int .i64 0, .string RN, .string S, .bool false, .int .i64 0, .int .i64 0, .int .i64 0, .int .i64 0, .int .i64 0, .int .i64 0, .int .i64 0] := t833.set_ 4 (.string S)
        have t835 : Blk _ (w.heap.size + 1) 47 #[.int .i64 (900 * O), .int .i64 2, .int .i64 0, .string RN, .string S, .bool true, .int .i64 0, .int .i64 0, .int .i64 0, .int .i64 0, .int .i64 0, .int .i64 0, .int .i64 0] := t834.set_ 5 (.bool true)
        have t836 : Blk _ (w.heap.size + 1) 47 #[.int .i64 (900 * O), .int .i64 2, .int .i64 0, .string RN, .string S, .bool true, .int .i64 year, .int .i64 0, .int .i64 0, .int .i64 0, .int .i64 0, .int .i64 0, .int .i64 0] := t835.set_ 6 (.int .i64 year)
        have t837 : Blk _ (w.heap.size + 1) 47 #[.int .i64 (900 * O), .int .i64 2, .int .i64 0, .string RN, .string S, .bool true, .int .i64 year, .int .i64 1, .int .i64 0, .int .i64 0, .int .i64 0, .int .i64 0, .int .i64 0] := t836.set_ 7 (.int .i64 1)
        have t838 : Blk _ (w.heap.size + 1) 47 #[.int .i64 (900 * O), .int .i64 2, .int .i64 0, .string RN, .string S, .bool true, .int .i64 year, .int .i64 1, .int .i64 1, .int .i64 0, .int .i64 0, .int .i64 0, .int .i64 0] := t837.set_ 8 (.int .i64 1)
        have t839 : Blk _ (w.heap.size + 1) 47 #[.int .i64 (900 * O), .int .i64 2, .int .i64 0, .string RN, .string S, .bool true, .int .i64 year, .int .i64 1, .int .i64 1, .int .i64 0, .int .i64 0, .int .i64 0, .int .i64 0] := t838.set_ 9 (.int .i64 0)
        have t8310 : Blk _ (w.heap.size + 1) 47 #[.int .i64 (900 * O), .int .i64 2, .int .i64 0, .string RN, .string S, .bool true, .int .i64 year, .int .i64 1, .int .i64 1, .int .i64 0, .int .i64 (1 + D20), .int .i64 0, .int .i64 0] := t839.set_ 10 (.int .i64 (1 + D20))
        have t8311 : Blk _ (w.heap.size + 1) 47 #[.int .i64 (900 * O), .int .i64 2, .int .i64 0, .string RN, .string S, .bool true, .int .i64 year, .int .i64 1, .int .i64 1, .int .i64 0, .int .i64 (1 + D20), .int .i64 (900 * (24 + A24)), .int .i64 0] := t8310.set_ 11 (.int .i64 (900 * (24 + A24)))
        have t8312 : Blk _ (w.heap.size + 1) 47 #[.int .i64 (900 * O), .int .i64 2, .int .i64 0, .string RN, .string S, .bool true, .int .i64 year, .int .i64 1, .int .i64 1, .int .i64 0, .int .i64 (1 + D20), .int .i64 (900 * (24 + A24)), .int .i64 B3] := t8311.set_ 12 (.int .i64 B3)
        have kk0 := (t8312.cell 0).trans rfl
        have kk1 := (t8312.cell 1).trans rfl
        have kk2 := (t8312.cell 2).trans rfl
        have kk3 := (t8312.cell 3).trans rfl
        have kk4 := (t8312.cell 4).trans rfl
        have kk5 := (t8312.cell 5).trans rfl
        have kk6 := (t8312.cell 6).trans rfl
        have kk7 := (t8312.cell 7).trans rfl
        have kk8 := (t8312.cell 8).trans rfl
        have kk9 := (t8312.cell 9).trans rfl
        have kk10 := (t8312.cell 10).trans rfl
        have kk11 := (t8312.cell 11).trans rfl
        have kk12 := (t8312.cell 12).trans rfl
        have HBF := Lib.hid (((((((((((((h43b.setCell (p := ⟨w.heap.size + 1, 0, none⟩) (Nat.le_succ _) (.int .i64 (900 * O))).setCell (p := ⟨w.heap.size + 1, 1, none⟩) (Nat.le_succ _) (.int .i64 2)).setCell (p := ⟨w.heap.size + 1, 2, none⟩) (Nat.le_succ _) (.int .i64 0)).setCell (p := ⟨w.heap.size + 1, 3, none⟩) (Nat.le_succ _) (.string RN)).setCell (p := ⟨w.heap.size + 1, 4, none⟩) (Nat.le_succ _) (.string S)).setCell (p := ⟨w.heap.size + 1, 5, none⟩) (Nat.le_succ _) (.bool true)).setCell (p := ⟨w.heap.size + 1, 6, none⟩) (Nat.le_succ _) (.int .i64 year)).setCell (p := ⟨w.heap.size + 1, 7, none⟩) (Nat.le_succ _) (.int .i64 1)).setCell (p := ⟨w.heap.size + 1, 8, none⟩) (Nat.le_succ _) (.int .i64 1)).setCell (p := ⟨w.heap.size + 1, 9, none⟩) (Nat.le_succ _) (.int .i64 0)).setCell (p := ⟨w.heap.size + 1, 10, none⟩) (Nat.le_succ _) (.int .i64 (1 + D20))).setCell (p := ⟨w.heap.size + 1, 11, none⟩) (Nat.le_succ _) (.int .i64 (900 * (24 + A24)))).setCell (p := ⟨w.heap.size + 1, 12, none⟩) (Nat.le_succ _) (.int .i64 B3))
        clear t830 t831 t832 t833 t834 t835 t836 t837 t838 t839 t8310 t8311 t8312
        have H84g := Lib.hid h43g; have H84x := Lib.hid h43x; have H84r := Lib.hid h43r; have H84b := Lib.hid h43b
        clear h10g h10x h10r h10b h27g h27x h27r h27b h28g h28x h28r h28b h29g h29x h29r h29b h30g h30x h30r h30b h31g h31x h31r h31b h32g h32x h32r h32b h33g h33x h33r h33b h34g h34x h34r h34b h42g h42x h42r h42b h43g h43x h43r h43b
        go_wp2_with fail
        refine bodyPost_ret (v := .agg #[.int .i64 (900 * O), .int .i64 2, .int .i64 0, .string RN, .string S, .bool true, .int .i64 year, .int .i64 1, .int .i64 1, .int .i64 0, .int .i64 (1 + D20), .int .i64 (900 * (24 + A24)), .int .i64 B3]) (by simp [results, Tryd.results46, go_sem, kk0, kk1, kk2, kk3, kk4, kk5, kk6, kk7, kk8, kk9, kk10, kk11, kk12]) rfl ?_
        exact ⟨⟨(900 * O), 2, 0, RN, S, true, year, 1, 1, 0, (1 + D20), (900 * (24 + A24)), B3⟩, rfl, ⟨(by show -42300 ≤ 900 * O ∧ 900 * O ≤ 42300; have := BO.out; omega), .inr (.inr rfl), hf, (show (0 : Int) ≤ 0 ∧ (0 : Int) ≤ 7200 by decide), fun _ => ⟨k, Bk.out, HRN.out⟩⟩, HBF.out⟩
    · by_cases hday : 200 ≤ d.day
      · skip
        have hg00 := hbg; have hx00 := hx; have hr00 := hr; have hb00 := hb
        have z1 := (hg00.cell 1).trans rfl
        have z2 := (hg00.cell 1).trans rfl
        have z3 := hg00.frozen 1
        have h4g : Blk _ g 47 #[.int .i64 (900 * O), .int .i64 0, .int .i64 0, .string ⟨#[]⟩, .string S, .bool false, .int .i64 0, .int .i64 0, .int .i64 0, .int .i64 0, .int .i64 0, .int .i64 0, .int .i64 0] := hg00.set_ 1 (.int .i64 0)
        have h4x := hx00.far (p := ⟨g, 1, none⟩) (by show _ ≠ g; omega) (.int .i64 0)
        have h4r := hr00.far (p := ⟨g, 1, none⟩) (by show _ ≠ g; omega) (.int .i64 0)
        have h4b := hb00.setCell (p := ⟨g, 1, none⟩) (by show w.heap.size ≤ g; omega) (.int .i64 0)
        have z5 := (h4g.cell 1).trans rfl
        have z6 := (h4x.cell 4).trans rfl
        have H7g := Lib.hid h4g; have H7x := Lib.hid h4x; have H7r := Lib.hid h4r; have H7b := Lib.hid h4b
        clear hg00 hx00 hr00 hb00 h4g h4x h4r h4b
        go_wp2_with fail
        refine (until23_any year 1 (1 + D20) _).mono ?_
        rintro e W107 ⟨rfl, hc⟩
        have h8g := H7g.out.below hc H7g.out.lt; have h8x := H7x.out.below hc H7x.out.lt; have h8r := H7r.out.below hc H7r.out.lt; have h8b := H7b.out.trans (hc.mono H7b.out.size)
        clear hc H7g H7x H7r H7b z1 z2 z3 z5 z6
        have z9 := (h8g.cell 5).trans rfl
        have z10 := h8g.frozen 5
        have z11 := (h8g.cell 6).trans rfl
        have z12 := h8g.frozen 6
        have z13 := (h8g.cell 7).trans rfl
        have z14 := h8g.frozen 7
        have z15 := (h8g.cell 8).trans rfl
        have z16 := h8g.frozen 8
        have z17 := (h8g.cell 9).trans rfl
        have z18 := h8g.frozen 9
        have z19 := (h8g.cell 10).trans rfl
        have z20 := h8g.frozen 10
        have z21 := (h8g.cell 11).trans rfl
        have z22 := h8g.frozen 11
        have z23 := (h8g.cell 12).trans rfl
        have z24 := h8g.frozen 12
        have h25g : Blk _ g 47 #[.int .i64 (900 * O), .int .i64 0, .int .i64 0, .string ⟨#[]⟩, .string S, .bool true, .int .i64 0, .int .i64 0, .int .i64 0, .int .i64 0, .int .i64 0, .int .i64 0, .int .i64 0] := h8g.set_ 5 (.bool true)
        have h25x := h8x.far (p := ⟨g, 5, none⟩) (by show _ ≠ g; omega) (.bool true)
        have h25r := h8r.far (p := ⟨g, 5, none⟩) (by show _ ≠ g; omega) (.bool true)
        have h25b := h8b.setCell (p := ⟨g, 5, none⟩) (by show w.heap.size ≤ g; omega) (.bool true)
        have h26g : Blk _ g 47 #[.int .i64 (900 * O), .int .i64 0, .int .i64 0, .string ⟨#[]⟩, .string S, .bool true, .int .i64 year, .int .i64 0, .int .i64 0, .int .i64 0, .int .i64 0, .int .i64 0, .int .i64 0] := h25g.set_ 6 (.int .i64 year)
        have h26x := h25x.far (p := ⟨g, 6, none⟩) (by show _ ≠ g; omega) (.int .i64 year)
        have h26r := h25r.far (p := ⟨g, 6, none⟩) (by show _ ≠ g; omega) (.int .i64 year)
        have h26b := h25b.setCell (p := ⟨g, 6, none⟩) (by show w.heap.size ≤ g; omega) (.int .i64 year)
        have h27g : Blk _ g 47 #[.int .i64 (900 * O), .int .i64 0, .int .i64 0, .string ⟨#[]⟩, .string S, .bool true, .int .i64 year, .int .i64 1, .int .i64 0, .int .i64 0, .int .i64 0, .int .i64 0, .int .i64 0] := h26g.set_ 7 (.int .i64 1)
        have h27x := h26x.far (p := ⟨g, 7, none⟩) (by show _ ≠ g; omega) (.int .i64 1)
        have h27r := h26r.far (p := ⟨g, 7, none⟩) (by show _ ≠ g; omega) (.int .i64 1)
        have h27b := h26b.setCell (p := ⟨g, 7, none⟩) (by show w.heap.size ≤ g; omega) (.int .i64 1)
        have h28g : Blk _ g 47 #[.int .i64 (900 * O), .int .i64 0, .int .i64 0, .string ⟨#[]⟩, .string S, .bool true, .int .i64 year, .int .i64 1, .int .i64 1, .int .i64 0, .int .i64 0, .int .i64 0, .int .i64 0] := h27g.set_ 8 (.int .i64 1)
        have h28x := h27x.far (p := ⟨g, 8, none⟩) (by show _ ≠ g; omega) (.int .i64 1)
        have h28r := h27r.far (p := ⟨g, 8, none⟩) (by show _ ≠ g; omega) (.int .i64 1)
        have h28b := h27b.setCell (p := ⟨g, 8, none⟩) (by show w.heap.size ≤ g; omega) (.int .i64 1)
        have h29g : Blk _ g 47 #[.int .i64 (900 * O), .int .i64 0, .int .i64 0, .string ⟨#[]⟩, .string S, .bool true, .int .i64 year, .int .i64 1, .int .i64 1, .int .i64 0, .int .i64 0, .int .i64 0, .int .i64 0] := h28g.set_ 9 (.int .i64 0)
        have h29x := h28x.far (p := ⟨g, 9, none⟩) (by show _ ≠ g; omega) (.int .i64 0)
        have h29r := h28r.far (p := ⟨g, 9, none⟩) (by show _ ≠ g; omega) (.int .i64 0)
        have h29b := h28b.setCell (p := ⟨g, 9, none⟩) (by show w.heap.size ≤ g; omega) (.int .i64 0)
        have h30g : Blk _ g 47 #[.int .i64 (900 * O), .int .i64 0, .int .i64 0, .string ⟨#[]⟩, .string S, .bool true, .int .i64 year, .int .i64 1, .int .i64 1, .int .i64 0, .int .i64 (1 + D20), .int .i64 0, .int .i64 0] := h29g.set_ 10 (.int .i64 (1 + D20))
        have h30x := h29x.far (p := ⟨g, 10, none⟩) (by show _ ≠ g; omega) (.int .i64 (1 + D20))
        have h30r := h29r.far (p := ⟨g, 10, none⟩) (by show _ ≠ g; omega) (.int .i64 (1 + D20))
        have h30b := h29b.setCell (p := ⟨g, 10, none⟩) (by show w.heap.size ≤ g; omega) (.int .i64 (1 + D20))
        have h31g : Blk _ g 47 #[.int .i64 (900 * O), .int .i64 0, .int .i64 0, .string ⟨#[]⟩, .string S, .bool true, .int .i64 year, .int .i64 1, .int .i64 1, .int .i64 0, .int .i64 (1 + D20), .int .i64 0, .int .i64 0] := h30g.set_ 11 (.int .i64 0)
        have h31x := h30x.far (p := ⟨g, 11, none⟩) (by show _ ≠ g; omega) (.int .i64 0)
        have h31r := h30r.far (p := ⟨g, 11, none⟩) (by show _ ≠ g; omega) (.int .i64 0)
        have h31b := h30b.setCell (p := ⟨g, 11, none⟩) (by show w.heap.size ≤ g; omega) (.int .i64 0)
        have h32g : Blk _ g 47 #[.int .i64 (900 * O), .int .i64 0, .int .i64 0, .string ⟨#[]⟩, .string S, .bool true, .int .i64 year, .int .i64 1, .int .i64 1, .int .i64 0, .int .i64 (1 + D20), .int .i64 0, .int .i64 0] := h31g.set_ 12 (.int .i64 0)
        have h32x := h31x.far (p := ⟨g, 12, none⟩) (by show _ ≠ g; omega) (.int .i64 0)
        have h32r := h31r.far (p := ⟨g, 12, none⟩) (by show _ ≠ g; omega) (.int .i64 0)
        have h32b := h31b.setCell (p := ⟨g, 12, none⟩) (by show w.heap.size ≤ g; omega) (.int .i64 0)
        have z33 := (h32x.cell 4).trans rfl
        have HT := Lib.hid (And.intro hD7 (And.intro hA24 hB3))
        clear hO hS4 hD20 hD7 hA24 hB3 hkN
        go_upto_region 12 with fail
        obtain ⟨hD7, hA24, hB3⟩ := HT.out
        have z34 := (h32g.cell 8).trans rfl
        have z35 := h32g.frozen 8
        have z36 := (h32g.cell 9).trans rfl
        have z37 := h32g.frozen 9
        have z38 := (h32g.cell 10).trans rfl
        have z39 := h32g.frozen 10
        have h40g : Blk _ g 47 #[.int .i64 (900 * O), .int .i64 0, .int .i64 0, .string ⟨#[]⟩, .string S, .bool true, .int .i64 year, .int .i64 1, .int .i64 3, .int .i64 0, .int .i64 (1 + D20), .int .i64 0, .int .i64 0] := h32g.set_ 8 (.int .i64 3)
        have h40x := h32x.far (p := ⟨g, 8, none⟩) (by show _ ≠ g; omega) (.int .i64 3)
        have h40r := h32r.far (p := ⟨g, 8, none⟩) (by show _ ≠ g; omega) (.int .i64 3)
        have h40b := h32b.setCell (p := ⟨g, 8, none⟩) (by show w.heap.size ≤ g; omega) (.int .i64 3)
        have h41g : Blk _ g 47 #[.int .i64 (900 * O), .int .i64 0, .int .i64 0, .string ⟨#[]⟩, .string S, .bool true, .int .i64 year, .int .i64 1, .int .i64 3, .int .i64 D7, .int .i64 (1 + D20), .int .i64 0, .int .i64 0] := h40g.set_ 9 (.int .i64 D7)
        have h41x := h40x.far (p := ⟨g, 9, none⟩) (by show _ ≠ g; omega) (.int .i64 D7)
        have h41r := h40r.far (p := ⟨g, 9, none⟩) (by show _ ≠ g; omega) (.int .i64 D7)
        have h41b := h40b.setCell (p := ⟨g, 9, none⟩) (by show w.heap.size ≤ g; omega) (.int .i64 D7)
        have h42g : Blk _ g 47 #[.int .i64 (900 * O), .int .i64 0, .int .i64 0, .string ⟨#[]⟩, .string S, .bool true, .int .i64 year, .int .i64 1, .int .i64 3, .int .i64 D7, .int .i64 8, .int .i64 0, .int .i64 0] := h41g.set_ 10 (.int .i64 8)
        have h42x := h41x.far (p := ⟨g, 10, none⟩) (by show _ ≠ g; omega) (.int .i64 8)
        have h42r := h41r.far (p := ⟨g, 10, none⟩) (by show _ ≠ g; omega) (.int .i64 8)
        have h42b := h41b.setCell (p := ⟨g, 10, none⟩) (by show w.heap.size ≤ g; omega) (.int .i64 8)
        have z43 := (h42x.cell 7).trans rfl
        have z44 := (h42x.cell 5).trans rfl
        have z45 := (h42g.cell 11).trans rfl
        have z46 := h42g.frozen 11
        have z47 := (h42g.cell 12).trans rfl
        have z48 := h42g.frozen 12
        have h49g : Blk _ g 47 #[.int .i64 (900 * O), .int .i64 0, .int .i64 0, .string ⟨#[]⟩, .string S, .bool true, .int .i64 year, .int .i64 1, .int .i64 3, .int .i64 D7, .int .i64 8, .int .i64 (900 * (24 + A24)), .int .i64 0] := h42g.set_ 11 (.int .i64 (900 * (24 + A24)))
        have h49x := h42x.far (p := ⟨g, 11, none⟩) (by show _ ≠ g; omega) (.int .i64 (900 * (24 + A24)))
        have h49r := h42r.far (p := ⟨g, 11, none⟩) (by show _ ≠ g; omega) (.int .i64 (900 * (24 + A24)))
        have h49b := h42b.setCell (p := ⟨g, 11, none⟩) (by show w.heap.size ≤ g; omega) (.int .i64 (900 * (24 + A24)))
        have h50g : Blk _ g 47 #[.int .i64 (900 * O), .int .i64 0, .int .i64 0, .string ⟨#[]⟩, .string S, .bool true, .int .i64 year, .int .i64 1, .int .i64 3, .int .i64 D7, .int .i64 8, .int .i64 (900 * (24 + A24)), .int .i64 B3] := h49g.set_ 12 (.int .i64 B3)
        have h50x := h49x.far (p := ⟨g, 12, none⟩) (by show _ ≠ g; omega) (.int .i64 B3)
        have h50r := h49r.far (p := ⟨g, 12, none⟩) (by show _ ≠ g; omega) (.int .i64 B3)
        have h50b := h49b.setCell (p := ⟨g, 12, none⟩) (by show w.heap.size ≤ g; omega) (.int .i64 B3)
        have z51 := (h50g.cell 0).trans rfl
        have z52 := (h50g.cell 1).trans rfl
        have z53 := (h50g.cell 2).trans rfl
        have z54 := (h50g.cell 3).trans rfl
        have z55 := (h50g.cell 4).trans rfl
        have z56 := (h50g.cell 5).trans rfl
        have z57 := (h50g.cell 6).trans rfl
        have z58 := (h50g.cell 7).trans rfl
        have z59 := (h50g.cell 8).trans rfl
        have z60 := (h50g.cell 9).trans rfl
        have z61 := (h50g.cell 10).trans rfl
        have z62 := (h50g.cell 11).trans rfl
        have z63 := (h50g.cell 12).trans rfl
        have z64 := (h50r.cell 0).trans rfl
        have z65 := h50r.frozen 0
        have z66 := (h50r.cell 1).trans rfl
        have z67 := h50r.frozen 1
        have z68 := (h50r.cell 2).trans rfl
        have z69 := h50r.frozen 2
        have z70 := (h50r.cell 3).trans rfl
        have z71 := h50r.frozen 3
        have z72 := (h50r.cell 4).trans rfl
        have z73 := h50r.frozen 4
        have z74 := (h50r.cell 5).trans rfl
        have z75 := h50r.frozen 5
        have z76 := (h50r.cell 6).trans rfl
        have z77 := h50r.frozen 6
        have z78 := (h50r.cell 7).trans rfl
        have z79 := h50r.frozen 7
        have z80 := (h50r.cell 8).trans rfl
        have z81 := h50r.frozen 8
        have z82 := (h50r.cell 9).trans rfl
        have z83 := h50r.frozen 9
        have z84 := (h50r.cell 10).trans rfl
        have z85 := h50r.frozen 10
        have z86 := (h50r.cell 11).trans rfl
        have z87 := h50r.frozen 11
        have z88 := (h50r.cell 12).trans rfl
        have z89 := h50r.frozen 12
        have t900 : Blk _ (w.heap.size + 1) 47 #[.int .i64 (900 * O), .int .i64 0, .int .i64 0, .string ⟨#[]⟩, .string ⟨#[]⟩, .bool false, .int .i64 0, .int .i64 0, .int .i64 0, .int .i64 0, .int .i64 0, .int .i64 0, .int .i64 0] := h50r.set_ 0 (.int .i64 (900 * O))
        have t901 : Blk _ (w.heap.size + 1) 47 #[.int .i64 (900 * O), .int .i64 0, .int .i64 0, .string ⟨#[]⟩, .string ⟨#[]⟩, .bool false, .int .i64 0, .int .i64 0, .int .i64 0, .int .i64 0, .int .i64 0, .int .i64 0, .int .i64 0] := t900.set_ 1 (.int .i64 0)
        have t902 : Blk _ (w.heap.size + 1) 47 #[.int .i64 (900 * O), .int .i64 0, .int .i64 0, .string ⟨#[]⟩, .string ⟨#[]⟩, .bool false, .int .i64 0, .int .i64 0, .int .i64 0, .int .i64 0, .int .i64 0, .int .i64 0, .int .i64 0] := t901.set_ 2 (.int .i64 0)
        have t903 : Blk _ (w.heap.size + 1) 47 #[.int .i64 (900 * O), .int .i64 0, .int .i64 0, .string ⟨#[]⟩, .string ⟨#[]⟩, .bool false, .int .i64 0, .int .i64 0, .int .i64 0, .int .i64 0, .int .i64 0, .int .i64 0, .int .i64 0] := t902.set_ 3 (.string ⟨#[]⟩)
        have t904 : Blk _ (w.heap.size + 1) 47 #[.int .i64 (900 * O), .int .i64 0, .int .i64 0, .string ⟨#[]⟩, .string S, .bool false, .int .i64 0, .int .i64 0, .int .i64 0, .int .i64 0, .int .i64 0, .int .i64 0, .int .i64 0] := t903.set_ 4 (.string S)
        have t905 : Blk _ (w.heap.size + 1) 47 #[.int .i64 (900 * O), .int .i64 0, .int .i64 0, .string ⟨#[]⟩, .string S, .bool true, .int .i64 0, .int .i64 0, .int .i64 0, .int .i64 0, .int .i64 0, .int .i64 0, .int .i64 0] := t904.set_ 5 (.bool true)
        have t906 : Blk _ (w.heap.size + 1) 47 #[.int .i64 (900 * O), .int .i64 0, .int .i64 0, .string ⟨#[]⟩, .string S, .bool true, .int .i64 year, .int .i64 0, .int .i64 0, .int .i64 0, .int .i64 0, .int .i64 0, .int .i64 0] := t905.set_ 6 (.int .i64 year)
        have t907 : Blk _ (w.heap.size + 1) 47 #[.int .i64 (900 * O), .int .i64 0, .int .i64 0, .string ⟨#[]⟩, .string S, .bool true, .int .i64 year, .int .i64 1, .int .i64 0, .int .i64 0, .int .i64 0, .int .i64 0, .int .i64 0] := t906.set_ 7 (.int .i64 1)
        have t908 : Blk _ (w.heap.size + 1) 47 #[.int .i64 (900 * O), .int .i64 0, .int .i64 0, .string ⟨#[]⟩, .string S, .bool true, .int .i64 year, .int .i64 1, .int .i64 3, .int .i64 0, .int .i64 0, .int .i64 0, .int .i64 0] := t907.set_ 8 (.int .i64 3)
        have t909 : Blk _ (w.heap.size + 1) 47 #[.int .i64 (900 * O), .int .i64 0, .int .i64 0, .string ⟨#[]⟩, .string S, .bool true, .int .i64 year, .int .i64 1, .int .i64 3, .int .i64 D7, .int .i64 0, .int .i64 0, .int .i64 0] := t908.set_ 9 (.int .i64 D7)
        have t9010 : Blk _ (w.heap.size + 1) 47 #[.int .i64 (900 * O), .int .i64 0, .int .i64 0, .string ⟨#[]⟩, .string S, .bool true, .int .i64 year, .int .i64 1, .int .i64 3, .int .i64 D7, .int .i64 8, .int .i64 0, .int .i64 0] := t909.set_ 10 (.int .i64 8)
        have t9011 : Blk _ (w.heap.size + 1) 47 #[.int .i64 (900 * O), .int .i64 0, .int .i64 0, .string ⟨#[]⟩, .string S, .bool true, .int .i64 year, .int .i64 1, .int .i64 3, .int .i64 D7, .int .i64 8, .int .i64 (900 * (24 + A24)), .int .i64 0] := t9010.set_ 11 (.int .i64 (900 * (24 + A24)))
        have t9012 : Blk _ (w.heap.size + 1) 47 #[.int .i64 (900 * O), .int .i64 0, .int .i64 0, .string ⟨#[]⟩, .string S, .bool true, .int .i64 year, .int .i64 1, .int .i64 3, .int .i64 D7, .int .i64 8, .int .i64 (900 * (24 + A24)), .int .i64 B3] := t9011.set_ 12 (.int .i64 B3)
        have kk0 := (t9012.cell 0).trans rfl
        have kk1 := (t9012.cell 1).trans rfl
        have kk2 := (t9012.cell 2).trans rfl
        have kk3 := (t9012.cell 3).trans rfl
        have kk4 := (t9012.cell 4).trans rfl
        have kk5 := (t9012.cell 5).trans rfl
        have kk6 := (t9012.cell 6).trans rfl
        have kk7 := (t9012.cell 7).trans rfl
        have kk8 := (t9012.cell 8).trans rfl
        have kk9 := (t9012.cell 9).trans rfl
        have kk10 := (t9012.cell 10).trans rfl
        have kk11 := (t9012.cell 11).trans rfl
        have kk12 := (t9012.cell 12).trans rfl
        have HBF := Lib.hid (((((((((((((h50b.setCell (p := ⟨w.heap.size + 1, 0, none⟩) (Nat.le_succ _) (.int .i64 (900 * O))).setCell (p := ⟨w.heap.size + 1, 1, none⟩) (Nat.le_succ _) (.int .i64 0)).setCell (p := ⟨w.heap.size + 1, 2, none⟩) (Nat.le_succ _) (.int .i64 0)).setCell (p := ⟨w.heap.size + 1, 3, none⟩) (Nat.le_succ _) (.string ⟨#[]⟩)).setCell (p := ⟨w.heap.size + 1, 4, none⟩) (Nat.le_succ _) (.string S)).setCell (p := ⟨w.heap.size + 1, 5, none⟩) (Nat.le_succ _) (.bool true)).setCell (p := ⟨w.heap.size + 1, 6, none⟩) (Nat.le_succ _) (.int .i64 year)).setCell (p := ⟨w.heap.size + 1, 7, none⟩) (Nat.le_succ _) (.int .i64 1)).setCell (p := ⟨w.heap.size + 1, 8, none⟩) (Nat.le_succ _) (.int .i64 3)).setCell (p := ⟨w.heap.size + 1, 9, none⟩) (Nat.le_succ _) (.int .i64 D7)).setCell (p := ⟨w.heap.size + 1, 10, none⟩) (Nat.le_succ _) (.int .i64 8)).setCell (p := ⟨w.heap.size + 1, 11, none⟩) (Nat.le_succ _) (.int .i64 (900 * (24 + A24)))).setCell (p := ⟨w.heap.size + 1, 12, none⟩) (Nat.le_succ _) (.int .i64 B3))
        clear t900 t901 t902 t903 t904 t905 t906 t907 t908 t909 t9010 t9011 t9012
        have H91g := Lib.hid h50g; have H91x := Lib.hid h50x; have H91r := Lib.hid h50r; have H91b := Lib.hid h50b
        clear h8g h8x h8r h8b h25g h25x h25r h25b h26g h26x h26r h26b h27g h27x h27r h27b h28g h28x h28r h28b h29g h29x h29r h29b h30g h30x h30r h30b h31g h31x h31r h31b h32g h32x h32r h32b h40g h40x h40r h40b h41g h41x h41r h41b h42g h42x h42r h42b h49g h49x h49r h49b h50g h50x h50r h50b
        go_wp2_with fail
        refine bodyPost_ret (v := .agg #[.int .i64 (900 * O), .int .i64 0, .int .i64 0, .string ⟨#[]⟩, .string S, .bool true, .int .i64 year, .int .i64 1, .int .i64 3, .int .i64 D7, .int .i64 8, .int .i64 (900 * (24 + A24)), .int .i64 B3]) (by simp [results, Tryd.results46, go_sem, kk0, kk1, kk2, kk3, kk4, kk5, kk6, kk7, kk8, kk9, kk10, kk11, kk12]) rfl ?_
        exact ⟨⟨(900 * O), 0, 0, ⟨#[]⟩, S, true, year, 1, 3, D7, 8, (900 * (24 + A24)), B3⟩, rfl, ⟨(by show -42300 ≤ 900 * O ∧ 900 * O ≤ 42300; have := BO.out; omega), .inl rfl, hf, (show (0 : Int) ≤ 0 ∧ (0 : Int) ≤ 7200 by decide), fun h => by cases h⟩, HBF.out⟩
      · skip
        have hg00 := hbg; have hx00 := hx; have hr00 := hr; have hb00 := hb
        have z1 := (hg00.cell 1).trans rfl
        have z2 := (hg00.cell 1).trans rfl
        have z3 := hg00.frozen 1
        have h4g : Blk _ g 47 #[.int .i64 (900 * O), .int .i64 0, .int .i64 0, .string ⟨#[]⟩, .string S, .bool false, .int .i64 0, .int .i64 0, .int .i64 0, .int .i64 0, .int .i64 0, .int .i64 0, .int .i64 0] := hg00.set_ 1 (.int .i64 0)
        have h4x := hx00.far (p := ⟨g, 1, none⟩) (by show _ ≠ g; omega) (.int .i64 0)
        have h4r := hr00.far (p := ⟨g, 1, none⟩) (by show _ ≠ g; omega) (.int .i64 0)
        have h4b := hb00.setCell (p := ⟨g, 1, none⟩) (by show w.heap.size ≤ g; omega) (.int .i64 0)
        have z5 := (h4g.cell 1).trans rfl
        have z6 := (h4x.cell 4).trans rfl
        have H7g := Lib.hid h4g; have H7x := Lib.hid h4x; have H7r := Lib.hid h4r; have H7b := Lib.hid h4b
        clear hg00 hx00 hr00 hb00 h4g h4x h4r h4b
        go_wp2_with fail
        refine (until23_any year 1 (1 + D20) _).mono ?_
        rintro e W107 ⟨rfl, hc⟩
        have h8g := H7g.out.below hc H7g.out.lt; have h8x := H7x.out.below hc H7x.out.lt; have h8r := H7r.out.below hc H7r.out.lt; have h8b := H7b.out.trans (hc.mono H7b.out.size)
        clear hc H7g H7x H7r H7b z1 z2 z3 z5 z6
        have z9 := (h8g.cell 5).trans rfl
        have z10 := h8g.frozen 5
        have z11 := (h8g.cell 6).trans rfl
        have z12 := h8g.frozen 6
        have z13 := (h8g.cell 7).trans rfl
        have z14 := h8g.frozen 7
        have z15 := (h8g.cell 8).trans rfl
        have z16 := h8g.frozen 8
        have z17 := (h8g.cell 9).trans rfl
        have z18 := h8g.frozen 9
        have z19 := (h8g.cell 10).trans rfl
        have z20 := h8g.frozen 10
        have z21 := (h8g.cell 11).trans rfl
        have z22 := h8g.frozen 11
        have z23 := (h8g.cell 12).trans rfl
        have z24 := h8g.frozen 12
        have h25g : Blk _ g 47 #[.int .i64 (900 * O), .int .i64 0, .int .i64 0, .string ⟨#[]⟩, .string S, .bool true, .int .i64 0, .int .i64 0, .int .i64 0, .int .i64 0, .int .i64 0, .int .i64 0, .int .i64 0] := h8g.set_ 5 (.bool true)
        have h25x := h8x.far (p := ⟨g, 5, none⟩) (by show _ ≠ g; omega) (.bool true)
        have h25r := h8r.far (p := ⟨g, 5, none⟩) (by show _ ≠ g; omega) (.bool true)
        have h25b := h8b.setCell (p := ⟨g, 5, none⟩) (by show w.heap.size ≤ g; omega) (.bool true)
        have h26g : Blk _ g 47 #[.int .i64 (900 * O), .int .i64 0, .int .i64 0, .string ⟨#[]⟩, .string S, .bool true, .int .i64 year, .int .i64 0, .int .i64 0, .int .i64 0, .int .i64 0, .int .i64 0, .int .i64 0] := h25g.set_ 6 (.int .i64 year)
        have h26x := h25x.far (p := ⟨g, 6, none⟩) (by show _ ≠ g; omega) (.int .i64 year)
        have h26r := h25r.far (p := ⟨g, 6, none⟩) (by show _ ≠ g; omega) (.int .i64 year)
        have h26b := h25b.setCell (p := ⟨g, 6, none⟩) (by show w.heap.size ≤ g; omega) (.int .i64 year)
        have h27g : Blk _ g 47 #[.int .i64 (900 * O), .int .i64 0, .int .i64 0, .string ⟨#[]⟩, .string S, .bool true, .int .i64 year, .int .i64 1, .int .i64 0, .int .i64 0, .int .i64 0, .int .i64 0, .int .i64 0] := h26g.set_ 7 (.int .i64 1)
        have h27x := h26x.far (p := ⟨g, 7, none⟩) (by show _ ≠ g; omega) (.int .i64 1)
        have h27r := h26r.far (p := ⟨g, 7, none⟩) (by show _ ≠ g; omega) (.int .i64 1)
        have h27b := h26b.setCell (p := ⟨g, 7, none⟩) (by show w.heap.size ≤ g; omega) (.int .i64 1)
        have h28g : Blk _ g 47 #[.int .i64 (900 * O), .int .i64 0, .int .i64 0, .string ⟨#[]⟩, .string S, .bool true, .int .i64 year, .int .i64 1, .int .i64 1, .int .i64 0, .int .i64 0, .int .i64 0, .int .i64 0] := h27g.set_ 8 (.int .i64 1)
        have h28x := h27x.far (p := ⟨g, 8, none⟩) (by show _ ≠ g; omega) (.int .i64 1)
        have h28r := h27r.far (p := ⟨g, 8, none⟩) (by show _ ≠ g; omega) (.int .i64 1)
        have h28b := h27b.setCell (p := ⟨g, 8, none⟩) (by show w.heap.size ≤ g; omega) (.int .i64 1)
        have h29g : Blk _ g 47 #[.int .i64 (900 * O), .int .i64 0, .int .i64 0, .string ⟨#[]⟩, .string S, .bool true, .int .i64 year, .int .i64 1, .int .i64 1, .int .i64 0, .int .i64 0, .int .i64 0, .int .i64 0] := h28g.set_ 9 (.int .i64 0)
        have h29x := h28x.far (p := ⟨g, 9, none⟩) (by show _ ≠ g; omega) (.int .i64 0)
        have h29r := h28r.far (p := ⟨g, 9, none⟩) (by show _ ≠ g; omega) (.int .i64 0)
        have h29b := h28b.setCell (p := ⟨g, 9, none⟩) (by show w.heap.size ≤ g; omega) (.int .i64 0)
        have h30g : Blk _ g 47 #[.int .i64 (900 * O), .int .i64 0, .int .i64 0, .string ⟨#[]⟩, .string S, .bool true, .int .i64 year, .int .i64 1, .int .i64 1, .int .i64 0, .int .i64 (1 + D20), .int .i64 0, .int .i64 0] := h29g.set_ 10 (.int .i64 (1 + D20))
        have h30x := h29x.far (p := ⟨g, 10, none⟩) (by show _ ≠ g; omega) (.int .i64 (1 + D20))
        have h30r := h29r.far (p := ⟨g, 10, none⟩) (by show _ ≠ g; omega) (.int .i64 (1 + D20))
        have h30b := h29b.setCell (p := ⟨g, 10, none⟩) (by show w.heap.size ≤ g; omega) (.int .i64 (1 + D20))
        have h31g : Blk _ g 47 #[.int .i64 (900 * O), .int .i64 0, .int .i64 0, .string ⟨#[]⟩, .string S, .bool true, .int .i64 year, .int .i64 1, .int .i64 1, .int .i64 0, .int .i64 (1 + D20), .int .i64 0, .int .i64 0] := h30g.set_ 11 (.int .i64 0)
        have h31x := h30x.far (p := ⟨g, 11, none⟩) (by show _ ≠ g; omega) (.int .i64 0)
        have h31r := h30r.far (p := ⟨g, 11, none⟩) (by show _ ≠ g; omega) (.int .i64 0)
        have h31b := h30b.setCell (p := ⟨g, 11, none⟩) (by show w.heap.size ≤ g; omega) (.int .i64 0)
        have h32g : Blk _ g 47 #[.int .i64 (900 * O), .int .i64 0, .int .i64 0, .string ⟨#[]⟩, .string S, .bool true, .int .i64 year, .int .i64 1, .int .i64 1, .int .i64 0, .int .i64 (1 + D20), .int .i64 0, .int .i64 0] := h31g.set_ 12 (.int .i64 0)
        have h32x := h31x.far (p := ⟨g, 12, none⟩) (by show _ ≠ g; omega) (.int .i64 0)
        have h32r := h31r.far (p := ⟨g, 12, none⟩) (by show _ ≠ g; omega) (.int .i64 0)
        have h32b := h31b.setCell (p := ⟨g, 12, none⟩) (by show w.heap.size ≤ g; omega) (.int .i64 0)
        have z33 := (h32x.cell 4).trans rfl
        have HT := Lib.hid (And.intro hD7 (And.intro hA24 hB3))
        clear hO hS4 hD20 hD7 hA24 hB3 hkN
        have hday2 : d.day < 200 := by omega
        have hday3 : decide (200 ≤ d.day) = false := decide_eq_false (by omega)
        go_upto_region 13 with fail
        obtain ⟨hD7, hA24, hB3⟩ := HT.out
        have z34 := (h32x.cell 7).trans rfl
        have z35 := (h32x.cell 5).trans rfl
        have z36 := (h32g.cell 11).trans rfl
        have z37 := h32g.frozen 11
        have z38 := (h32g.cell 12).trans rfl
        have z39 := h32g.frozen 12
        have h40g : Blk _ g 47 #[.int .i64 (900 * O), .int .i64 0, .int .i64 0, .string ⟨#[]⟩, .string S, .bool true, .int .i64 year, .int .i64 1, .int .i64 1, .int .i64 0, .int .i64 (1 + D20), .int .i64 (900 * (24 + A24)), .int .i64 0] := h32g.set_ 11 (.int .i64 (900 * (24 + A24)))
        have h40x := h32x.far (p := ⟨g, 11, none⟩) (by show _ ≠ g; omega) (.int .i64 (900 * (24 + A24)))
        have h40r := h32r.far (p := ⟨g, 11, none⟩) (by show _ ≠ g; omega) (.int .i64 (900 * (24 + A24)))
        have h40b := h32b.setCell (p := ⟨g, 11, none⟩) (by show w.heap.size ≤ g; omega) (.int .i64 (900 * (24 + A24)))
        have h41g : Blk _ g 47 #[.int .i64 (900 * O), .int .i64 0, .int .i64 0, .string ⟨#[]⟩, .string S, .bool true, .int .i64 year, .int .i64 1, .int .i64 1, .int .i64 0, .int .i64 (1 + D20), .int .i64 (900 * (24 + A24)), .int .i64 B3] := h40g.set_ 12 (.int .i64 B3)
        have h41x := h40x.far (p := ⟨g, 12, none⟩) (by show _ ≠ g; omega) (.int .i64 B3)
        have h41r := h40r.far (p := ⟨g, 12, none⟩) (by show _ ≠ g; omega) (.int .i64 B3)
        have h41b := h40b.setCell (p := ⟨g, 12, none⟩) (by show w.heap.size ≤ g; omega) (.int .i64 B3)
        have z42 := (h41g.cell 0).trans rfl
        have z43 := (h41g.cell 1).trans rfl
        have z44 := (h41g.cell 2).trans rfl
        have z45 := (h41g.cell 3).trans rfl
        have z46 := (h41g.cell 4).trans rfl
        have z47 := (h41g.cell 5).trans rfl
        have z48 := (h41g.cell 6).trans rfl
        have z49 := (h41g.cell 7).trans rfl
        have z50 := (h41g.cell 8).trans rfl
        have z51 := (h41g.cell 9).trans rfl
        have z52 := (h41g.cell 10).trans rfl
        have z53 := (h41g.cell 11).trans rfl
        have z54 := (h41g.cell 12).trans rfl
        have z55 := (h41r.cell 0).trans rfl
        have z56 := h41r.frozen 0
        have z57 := (h41r.cell 1).trans rfl
        have z58 := h41r.frozen 1
        have z59 := (h41r.cell 2).trans rfl
        have z60 := h41r.frozen 2
        have z61 := (h41r.cell 3).trans rfl
        have z62 := h41r.frozen 3
        have z63 := (h41r.cell 4).trans rfl
        have z64 := h41r.frozen 4
        have z65 := (h41r.cell 5).trans rfl
        have z66 := h41r.frozen 5
        have z67 := (h41r.cell 6).trans rfl
        have z68 := h41r.frozen 6
        have z69 := (h41r.cell 7).trans rfl
        have z70 := h41r.frozen 7
        have z71 := (h41r.cell 8).trans rfl
        have z72 := h41r.frozen 8
        have z73 := (h41r.cell 9).trans rfl
        have z74 := h41r.frozen 9
        have z75 := (h41r.cell 10).trans rfl
        have z76 := h41r.frozen 10
        have z77 := (h41r.cell 11).trans rfl
        have z78 := h41r.frozen 11
        have z79 := (h41r.cell 12).trans rfl
        have z80 := h41r.frozen 12
        have t810 : Blk _ (w.heap.size + 1) 47 #[.int .i64 (900 * O), .int .i64 0, .int .i64 0, .string ⟨#[]⟩, .string ⟨#[]⟩, .bool false, .int .i64 0, .int .i64 0, .int .i64 0, .int .i64 0, .int .i64 0, .int .i64 0, .int .i64 0] := h41r.set_ 0 (.int .i64 (900 * O))
        have t811 : Blk _ (w.heap.size + 1) 47 #[.int .i64 (900 * O), .int .i64 0, .int .i64 0, .string ⟨#[]⟩, .string ⟨#[]⟩, .bool false, .int .i64 0, .int .i64 0, .int .i64 0, .int .i64 0, .int .i64 0, .int .i64 0, .int .i64 0] := t810.set_ 1 (.int .i64 0)
        have t812 : Blk _ (w.heap.size + 1) 47 #[.int .i64 (900 * O), .int .i64 0, .int .i64 0, .string ⟨#[]⟩, .string ⟨#[]⟩, .bool false, .int .i64 0, .int .i64 0, .int .i64 0, .int .i64 0, .int .i64 0, .int .i64 0, .int .i64 0] := t811.set_ 2 (.int .i64 0)
        have t813 : Blk _ (w.heap.size + 1) 47 #[.int .i64 (900 * O), .int .i64 0, .int .i64 0, .string ⟨#[]⟩, .string ⟨#[]⟩, .bool false, .int .i64 0, .int .i64 0, .int .i64 0, .int .i64 0, .int .i64 0, .int .i64 0, .int .i64 0] := t812.set_ 3 (.string ⟨#[]⟩)
        have t814 : Blk _ (w.heap.size + 1) 47 #[.int .i64 (900 * O), .int .i64 0, .int .i64 0, .string ⟨#[]⟩, .string S, .bool false, .int .i64 0, .int .i64 0, .int .i64 0, .int .i64 0, .int .i64 0, .int .i64 0, .int .i64 0] := t813.set_ 4 (.string S)
        have t815 : Blk _ (w.heap.size + 1) 47 #[.int .i64 (900 * O), .int .i64 0, .int .i64 0, .string ⟨#[]⟩, .string S, .bool true, .int .i64 0, .int .i64 0, .int .i64 0, .int .i64 0, .int .i64 0, .int .i64 0, .int .i64 0] := t814.set_ 5 (.bool true)
        have t816 : Blk _ (w.heap.size + 1) 47 #[.int .i64 (900 * O), .int .i64 0, .int .i64 0, .string ⟨#[]⟩, .string S, .bool true, .int .i64 year, .int .i64 0, .int .i64 0, .int .i64 0, .int .i64 0, .int .i64 0, .int .i64 0] := t815.set_ 6 (.int .i64 year)
        have t817 : Blk _ (w.heap.size + 1) 47 #[.int .i64 (900 * O), .int .i64 0, .int .i64 0, .string ⟨#[]⟩, .string S, .bool true, .int .i64 year, .int .i64 1, .int .i64 0, .int .i64 0, .int .i64 0, .int .i64 0, .int .i64 0] := t816.set_ 7 (.int .i64 1)
        have t818 : Blk _ (w.heap.size + 1) 47 #[.int .i64 (900 * O), .int .i64 0, .int .i64 0, .string ⟨#[]⟩, .string S, .bool true, .int .i64 year, .int .i64 1, .int .i64 1, .int .i64 0, .int .i64 0, .int .i64 0, .int .i64 0] := t817.set_ 8 (.int .i64 1)
        have t819 : Blk _ (w.heap.size + 1) 47 #[.int .i64 (900 * O), .int .i64 0, .int .i64 0, .string ⟨#[]⟩, .string S, .bool true, .int .i64 year, .int .i64 1, .int .i64 1, .int .i64 0, .int .i64 0, .int .i64 0, .int .i64 0] := t818.set_ 9 (.int .i64 0)
        have t8110 : Blk _ (w.heap.size + 1) 47 #[.int .i64 (900 * O), .int .i64 0, .int .i64 0, .string ⟨#[]⟩, .string S, .bool true, .int .i64 year, .int .i64 1, .int .i64 1, .int .i64 0, .int .i64 (1 + D20), .int .i64 0, .int .i64 0] := t819.set_ 10 (.int .i64 (1 + D20))
        have t8111 : Blk _ (w.heap.size + 1) 47 #[.int .i64 (900 * O), .int .i64 0, .int .i64 0, .string ⟨#[]⟩, .string S, .bool true, .int .i64 year, .int .i64 1, .int .i64 1, .int .i64 0, .int .i64 (1 + D20), .int .i64 (900 * (24 + A24)), .int .i64 0] := t8110.set_ 11 (.int .i64 (900 * (24 + A24)))
        have t8112 : Blk _ (w.heap.size + 1) 47 #[.int .i64 (900 * O), .int .i64 0, .int .i64 0, .string ⟨#[]⟩, .string S, .bool true, .int .i64 year, .int .i64 1, .int .i64 1, .int .i64 0, .int .i64 (1 + D20), .int .i64 (900 * (24 + A24)), .int .i64 B3] := t8111.set_ 12 (.int .i64 B3)
        have kk0 := (t8112.cell 0).trans rfl
        have kk1 := (t8112.cell 1).trans rfl
        have kk2 := (t8112.cell 2).trans rfl
        have kk3 := (t8112.cell 3).trans rfl
        have kk4 := (t8112.cell 4).trans rfl
        have kk5 := (t8112.cell 5).trans rfl
        have kk6 := (t8112.cell 6).trans rfl
        have kk7 := (t8112.cell 7).trans rfl
        have kk8 := (t8112.cell 8).trans rfl
        have kk9 := (t8112.cell 9).trans rfl
        have kk10 := (t8112.cell 10).trans rfl
        have kk11 := (t8112.cell 11).trans rfl
        have kk12 := (t8112.cell 12).trans rfl
        have HBF := Lib.hid (((((((((((((h41b.setCell (p := ⟨w.heap.size + 1, 0, none⟩) (Nat.le_succ _) (.int .i64 (900 * O))).setCell (p := ⟨w.heap.size + 1, 1, none⟩) (Nat.le_succ _) (.int .i64 0)).setCell (p := ⟨w.heap.size + 1, 2, none⟩) (Nat.le_succ _) (.int .i64 0)).setCell (p := ⟨w.heap.size + 1, 3, none⟩) (Nat.le_succ _) (.string ⟨#[]⟩)).setCell (p := ⟨w.heap.size + 1, 4, none⟩) (Nat.le_succ _) (.string S)).setCell (p := ⟨w.heap.size + 1, 5, none⟩) (Nat.le_succ _) (.bool true)).setCell (p := ⟨w.heap.size + 1, 6, none⟩) (Nat.le_succ _) (.int .i64 year)).setCell (p := ⟨w.heap.size + 1, 7, none⟩) (Nat.le_succ _) (.int .i64 1)).setCell (p := ⟨w.heap.size + 1, 8, none⟩) (Nat.le_succ _) (.int .i64 1)).setCell (p := ⟨w.heap.size + 1, 9, none⟩) (Nat.le_succ _) (.int .i64 0)).setCell (p := ⟨w.heap.size + 1, 10, none⟩) (Nat.le_succ _) (.int .i64 (1 + D20))).setCell (p := ⟨w.heap.size + 1, 11, none⟩) (Nat.le_succ _) (.int .i64 (900 * (24 + A24)))).setCell (p := ⟨w.heap.size + 1, 12, none⟩) (Nat.le_succ _) (.int .i64 B3))
        clear t810 t811 t812 t813 t814 t815 t816 t817 t818 t819 t8110 t8111 t8112
        have H82g := Lib.hid h41g; have H82x := Lib.hid h41x; have H82r := Lib.hid h41r; have H82b := Lib.hid h41b
        clear h8g h8x h8r h8b h25g h25x h25r h25b h26g h26x h26r h26b h27g h27x h27r h27b h28g h28x h28r h28b h29g h29x h29r h29b h30g h30x h30r h30b h31g h31x h31r h31b h32g h32x h32r h32b h40g h40x h40r h40b h41g h41x h41r h41b
        go_wp2_with fail
        refine bodyPost_ret (v := .agg #[.int .i64 (900 * O), .int .i64 0, .int .i64 0, .string ⟨#[]⟩, .string S, .bool true, .int .i64 year, .int .i64 1, .int .i64 1, .int .i64 0, .int .i64 (1 + D20), .int .i64 (900 * (24 + A24)), .int .i64 B3]) (by simp [results, Tryd.results46, go_sem, kk0, kk1, kk2, kk3, kk4, kk5, kk6, kk7, kk8, kk9, kk10, kk11, kk12]) rfl ?_
        exact ⟨⟨(900 * O), 0, 0, ⟨#[]⟩, S, true, year, 1, 1, 0, (1 + D20), (900 * (24 + A24)), B3⟩, rfl, ⟨(by show -42300 ≤ 900 * O ∧ 900 * O ≤ 42300; have := BO.out; omega), .inl rfl, hf, (show (0 : Int) ≤ 0 ∧ (0 : Int) ≤ 7200 by decide), fun h => by cases h⟩, HBF.out⟩
  case hstep1 =>
    refine StepsOk.cons (StepOk.known rfl fun y W hS hd K' hK => ?_) ?_
    · skip
      clear hd
      go_simp
      exact hK.out _ _ rfl (GE.refl _) hS
    refine StepsOk.cons (StepOk.known rfl fun y W hS hd K' hK => ?_) ?_
    · skip
      have e12 : y 12 = .pointer (some ⟨w.heap.size, 6, none⟩) := (hd 0 rfl).val rfl rfl
      clear hd
      have hc := (hS.2.1.cell 6).trans rfl
      go_simp
      exact hK.out _ _ (by first | rfl | (simp only [e12]; done) | (simp only [e12]; rfl)) (GE.refl _) hS
    refine StepsOk.cons (StepOk.known rfl fun y W hS hd K' hK => ?_) ?_
    · skip
      have e13 : y 13 = .int .i8 d.off := (hd 1 rfl).val rfl rfl
      clear hd
      go_simp
      exact hK.out _ _ (by first | rfl | (simp only [e13]; done) | (simp only [e13]; rfl)) (GE.refl _) hS
    refine StepsOk.cons (StepOk.known rfl fun y W hS hd K' hK => ?_) ?_
    · skip
      have e14 : y 14 = .int .i8 O := (hd 2 rfl).val rfl rfl
      clear hd
      go_simp
      exact hK.out _ _ (by first | rfl | (simp only [e14]; done) | (simp only [e14]; rfl)) (GE.refl _) hS
    refine StepsOk.cons (StepOk.known rfl fun y W hS hd K' hK => ?_) ?_
    · skip
      have e15 : y 15 = .int .i64 O := (hd 3 rfl).val rfl rfl
      clear hd
      go_simp
      exact hK.out _ _ (by first | rfl | (simp only [e15]; done) | (simp only [e15]; rfl)) (GE.refl _) hS
    refine StepsOk.cons (StepOk.known rfl fun y W hS hd K' hK => ?_) ?_
    · skip
      clear hd
      go_simp
      exact hK.out _ _ rfl (GE.refl _) hS
    refine StepsOk.cons (StepOk.known rfl fun y W hS hd K' hK => ?_) ?_
    · skip
      have e17 : y 17 = .pointer (some ⟨w.heap.size, 0, none⟩) := (hd 5 rfl).val rfl rfl
      clear hd
      have hc := (hS.2.1.cell 0).trans rfl
      go_simp
      exact hK.out _ _ (by first | rfl | (simp only [e17]; done) | (simp only [e17]; rfl)) (GE.refl _) hS
    refine StepsOk.cons (StepOk.known rfl fun y W hS hd K' hK => ?_) ?_
    · skip
      have e18 : y 18 = .int .u8 d.kind := (hd 6 rfl).val rfl rfl
      clear hd
      go_simp
      exact hK.out _ _ (by first | rfl | (simp only [e18]; done) | (simp only [e18]; rfl)) (GE.refl _) hS
    refine StepsOk.cons (StepOk.known rfl fun y W hS hd K' hK => ?_) ?_
    · skip
      have e19 : y 19 = .int .u8 K := (hd 7 rfl).val rfl rfl
      clear hd
      go_simp
      exact hK.out _ _ (by first | rfl | (simp only [e19]; done) | (simp only [e19]; rfl)) (GE.refl _) hS
    refine StepsOk.cons (StepOk.known rfl fun y W hS hd K' hK => ?_) ?_
    · skip
      clear hd
      go_simp
      exact hK.out _ _ rfl (GE.refl _) hS
    refine StepsOk.cons (StepOk.known rfl fun y W hS hd K' hK => ?_) ?_
    · skip
      have e21 : y 21 = .pointer (some ⟨w.heap.size, 2, none⟩) := (hd 9 rfl).val rfl rfl
      clear hd
      have hc := (hS.2.1.cell 2).trans rfl
      go_simp
      exact hK.out _ _ (by first | rfl | (simp only [e21]; done) | (simp only [e21]; rfl)) (GE.refl _) hS
    refine StepsOk.cons (StepOk.other rfl fun y W hS hd K' hK => ?_) ?_
    · skip
      have e22 : y 22 = .int .u8 d.fmt := (hd 10 rfl).val rfl rfl
      clear hd
      go_simp
      obtain ⟨hb, hx, hr⟩ := hS
      refine (format23_any d.fmt W h2f).mono ?_
      rintro e W' ⟨S, rfl, hf, hc⟩
      go_wp2_with fail
      exact hK.out _ _ _ (by first | rfl | (simp only [e22]; done) | (simp only [e22]; rfl)) (GE.below hc) ⟨hb.trans (hc.mono hb.size), hx.below hc hx.lt, hr.below hc hr.lt⟩ (show ∃ S, _ = Value.string S ∧ isFmt23 S from ⟨S, rfl, hf⟩)
    refine StepsOk.cons (StepOk.other rfl fun y W hS hd K' hK => ?_) ?_
    · skip
      have e16 : y 16 = .int .i64 (900 * O) := (hd 4 rfl).val rfl rfl
      have e20 : y 20 = .int .i64 K := (hd 8 rfl).val rfl rfl
      have x11 : (fun (y : Nat → Value) (W : World) => ∃ S, y 23 = .string S ∧ isFmt23 S) y W := (hd 11 rfl).ex rfl
      clear hd
      obtain ⟨S, h1, h2⟩ := x11
      go_simp
      exact hK.out _ _ _ (by first | rfl | (simp only [h1, e16, e20]; done) | (simp only [h1, e16, e20]; rfl)) (GE.refl _) hS (show ∃ S, _ = Value.agg #[.int .i64 (900 * O), .int .i64 K, .int .i64 0, .string ⟨#[]⟩, .string S, .bool false, .int .i64 0, .int .i64 0, .int .i64 0, .int .i64 0, .int .i64 0, .int .i64 0, .int .i64 0] ∧ isFmt23 S from ⟨S, rfl, h2⟩)
    refine StepsOk.cons (StepOk.other rfl fun y W hS hd K' hK => ?_) ?_
    · skip
      clear hd
      obtain ⟨hb, hx, hr⟩ := hS
      have hle := hr.lt
      go_simp
      exact hK.out _ _ _ rfl (GE.alloc W _) ⟨hb.alloc hb.size _, hx.alloc _, hr.alloc _⟩ (show ∃ g, (_ = Value.pointer (some ⟨g, 0, none⟩) ∧ w.heap.size + 2 ≤ g) ∧ ∃ v0 v1 v2 v3 v4 v5 v6 v7 v8 v9 v10 v11 v12, Blk _ g 47 #[v0, v1, v2, v3, v4, v5, v6, v7, v8, v9, v10, v11, v12] from ⟨W.heap.size, ⟨rfl, by omega⟩, _, _, _, _, _, _, _, _, _, _, _, _, _, Blk.new W 47 #[.int .i64 0, .int .i64 0, .int .i64 0, .string ⟨#[]⟩, .string ⟨#[]⟩, .bool false, .int .i64 0, .int .i64 0, .int .i64 0, .int .i64 0, .int .i64 0, .int .i64 0, .int .i64 0]⟩)
    refine StepsOk.cons (StepOk.other rfl fun y W hS hd K' hK => ?_) ?_
    · skip
      have x12 : (fun (y : Nat → Value) (W : World) => ∃ S, y 24 = .agg #[.int .i64 (900 * O), .int .i64 K, .int .i64 0, .string ⟨#[]⟩, .string S, .bool false, .int .i64 0, .int .i64 0, .int .i64 0, .int .i64 0, .int .i64 0, .int .i64 0, .int .i64 0] ∧ isFmt23 S) y W := (hd 12 rfl).ex rfl
      have x13 : (fun (y : Nat → Value) (W : World) => ∃ g, (y 11 = .pointer (some ⟨g, 0, none⟩) ∧ w.heap.size + 2 ≤ g) ∧ ∃ v0 v1 v2 v3 v4 v5 v6 v7 v8 v9 v10 v11 v12, Blk W g 47 #[v0, v1, v2, v3, v4, v5, v6, v7, v8, v9, v10, v11, v12]) y W := (hd 13 rfl).ex rfl
      clear hd
      obtain ⟨g, ⟨h1, h2⟩, v0, v1, v2, v3, v4, v5, v6, v7, v8, v9, v10, v11, v12, hr0⟩ := x13
      obtain ⟨S, h3, h4⟩ := x12
      have k0 := (hr0.cell 0).trans rfl
      have k1 := (hr0.cell 1).trans rfl
      have k2 := (hr0.cell 2).trans rfl
      have k3 := (hr0.cell 3).trans rfl
      have k4 := (hr0.cell 4).trans rfl
      have k5 := (hr0.cell 5).trans rfl
      have k6 := (hr0.cell 6).trans rfl
      have k7 := (hr0.cell 7).trans rfl
      have k8 := (hr0.cell 8).trans rfl
      have k9 := (hr0.cell 9).trans rfl
      have k10 := (hr0.cell 10).trans rfl
      have k11 := (hr0.cell 11).trans rfl
      have k12 := (hr0.cell 12).trans rfl
      have f0 := hr0.frozen 0
      have f1 := hr0.frozen 1
      have f2 := hr0.frozen 2
      have f3 := hr0.frozen 3
      have f4 := hr0.frozen 4
      have f5 := hr0.frozen 5
      have f6 := hr0.frozen 6
      have f7 := hr0.frozen 7
      have f8 := hr0.frozen 8
      have f9 := hr0.frozen 9
      have f10 := hr0.frozen 10
      have f11 := hr0.frozen 11
      have f12 := hr0.frozen 12
      have hr1 : Blk _ g 47 #[.int .i64 (900 * O), v1, v2, v3, v4, v5, v6, v7, v8, v9, v10, v11, v12] := hr0.set_ 0 (.int .i64 (900 * O))
      have q1 := GE.set_ hr0 0 (.int .i64 (900 * O))
      have hr2 : Blk _ g 47 #[.int .i64 (900 * O), .int .i64 K, v2, v3, v4, v5, v6, v7, v8, v9, v10, v11, v12] := hr1.set_ 1 (.int .i64 K)
      have q2 := GE.set_ hr1 1 (.int .i64 K)
      have hr3 : Blk _ g 47 #[.int .i64 (900 * O), .int .i64 K, .int .i64 0, v3, v4, v5, v6, v7, v8, v9, v10, v11, v12] := hr2.set_ 2 (.int .i64 0)
      have q3 := GE.set_ hr2 2 (.int .i64 0)
      have hr4 : Blk _ g 47 #[.int .i64 (900 * O), .int .i64 K, .int .i64 0, .string ⟨#[]⟩, v4, v5, v6, v7, v8, v9, v10, v11, v12] := hr3.set_ 3 (.string ⟨#[]⟩)
      have q4 := GE.set_ hr3 3 (.string ⟨#[]⟩)
      have hr5 : Blk _ g 47 #[.int .i64 (900 * O), .int .i64 K, .int .i64 0, .string ⟨#[]⟩, .string S, v5, v6, v7, v8, v9, v10, v11, v12] := hr4.set_ 4 (.string S)
      have q5 := GE.set_ hr4 4 (.string S)
      have hr6 : Blk _ g 47 #[.int .i64 (900 * O), .int .i64 K, .int .i64 0, .string ⟨#[]⟩, .string S, .bool false, v6, v7, v8, v9, v10, v11, v12] := hr5.set_ 5 (.bool false)
      have q6 := GE.set_ hr5 5 (.bool false)
      have hr7 : Blk _ g 47 #[.int .i64 (900 * O), .int .i64 K, .int .i64 0, .string ⟨#[]⟩, .string S, .bool false, .int .i64 0, v7, v8, v9, v10, v11, v12] := hr6.set_ 6 (.int .i64 0)
      have q7 := GE.set_ hr6 6 (.int .i64 0)
      have hr8 : Blk _ g 47 #[.int .i64 (900 * O), .int .i64 K, .int .i64 0, .string ⟨#[]⟩, .string S, .bool false, .int .i64 0, .int .i64 0, v8, v9, v10, v11, v12] := hr7.set_ 7 (.int .i64 0)
      have q8 := GE.set_ hr7 7 (.int .i64 0)
      have hr9 : Blk _ g 47 #[.int .i64 (900 * O), .int .i64 K, .int .i64 0, .string ⟨#[]⟩, .string S, .bool false, .int .i64 0, .int .i64 0, .int .i64 0, v9, v10, v11, v12] := hr8.set_ 8 (.int .i64 0)
      have q9 := GE.set_ hr8 8 (.int .i64 0)
      have hr10 : Blk _ g 47 #[.int .i64 (900 * O), .int .i64 K, .int .i64 0, .string ⟨#[]⟩, .string S, .bool false, .int .i64 0, .int .i64 0, .int .i64 0, .int .i64 0, v10, v11, v12] := hr9.set_ 9 (.int .i64 0)
      have q10 := GE.set_ hr9 9 (.int .i64 0)
      have hr11 : Blk _ g 47 #[.int .i64 (900 * O), .int .i64 K, .int .i64 0, .string ⟨#[]⟩, .string S, .bool false, .int .i64 0, .int .i64 0, .int .i64 0, .int .i64 0, .int .i64 0, v11, v12] := hr10.set_ 10 (.int .i64 0)
      have q11 := GE.set_ hr10 10 (.int .i64 0)
      have hr12 : Blk _ g 47 #[.int .i64 (900 * O), .int .i64 K, .int .i64 0, .string ⟨#[]⟩, .string S, .bool false, .int .i64 0, .int .i64 0, .int .i64 0, .int .i64 0, .int .i64 0, .int .i64 0, v12] := hr11.set_ 11 (.int .i64 0)
      have q12 := GE.set_ hr11 11 (.int .i64 0)
      have hr13 : Blk _ g 47 #[.int .i64 (900 * O), .int .i64 K, .int .i64 0, .string ⟨#[]⟩, .string S, .bool false, .int .i64 0, .int .i64 0, .int .i64 0, .int .i64 0, .int .i64 0, .int .i64 0, .int .i64 0] := hr12.set_ 12 (.int .i64 0)
      have q13 := GE.set_ hr12 12 (.int .i64 0)
      have hG := q1.trans (q2.trans (q3.trans (q4.trans (q5.trans (q6.trans (q7.trans (q8.trans (q9.trans (q10.trans (q11.trans (q12.trans (q13))))))))))))
      obtain ⟨hb, hx, hr⟩ := hS
      have hb2 := ((((((((((((hb.setCell (p := ⟨g, 0, none⟩) (by show w.heap.size ≤ g; omega) (.int .i64 (900 * O))).setCell (p := ⟨g, 1, none⟩) (by show w.heap.size ≤ g; omega) (.int .i64 K)).setCell (p := ⟨g, 2, none⟩) (by show w.heap.size ≤ g; omega) (.int .i64 0)).setCell (p := ⟨g, 3, none⟩) (by show w.heap.size ≤ g; omega) (.string ⟨#[]⟩)).setCell (p := ⟨g, 4, none⟩) (by show w.heap.size ≤ g; omega) (.string S)).setCell (p := ⟨g, 5, none⟩) (by show w.heap.size ≤ g; omega) (.bool false)).setCell (p := ⟨g, 6, none⟩) (by show w.heap.size ≤ g; omega) (.int .i64 0)).setCell (p := ⟨g, 7, none⟩) (by show w.heap.size ≤ g; omega) (.int .i64 0)).setCell (p := ⟨g, 8, none⟩) (by show w.heap.size ≤ g; omega) (.int .i64 0)).setCell (p := ⟨g, 9, none⟩) (by show w.heap.size ≤ g; omega) (.int .i64 0)).setCell (p := ⟨g, 10, none⟩) (by show w.heap.size ≤ g; omega) (.int .i64 0)).setCell (p := ⟨g, 11, none⟩) (by show w.heap.size ≤ g; omega) (.int .i64 0)).setCell (p := ⟨g, 12, none⟩) (by show w.heap.size ≤ g; omega) (.int .i64 0)
      have hx' := ((((((((((((hx.far (p := ⟨g, 0, none⟩) (by show _ ≠ g; omega) (.int .i64 (900 * O))).far (p := ⟨g, 1, none⟩) (by show _ ≠ g; omega) (.int .i64 K)).far (p := ⟨g, 2, none⟩) (by show _ ≠ g; omega) (.int .i64 0)).far (p := ⟨g, 3, none⟩) (by show _ ≠ g; omega) (.string ⟨#[]⟩)).far (p := ⟨g, 4, none⟩) (by show _ ≠ g; omega) (.string S)).far (p := ⟨g, 5, none⟩) (by show _ ≠ g; omega) (.bool false)).far (p := ⟨g, 6, none⟩) (by show _ ≠ g; omega) (.int .i64 0)).far (p := ⟨g, 7, none⟩) (by show _ ≠ g; omega) (.int .i64 0)).far (p := ⟨g, 8, none⟩) (by show _ ≠ g; omega) (.int .i64 0)).far (p := ⟨g, 9, none⟩) (by show _ ≠ g; omega) (.int .i64 0)).far (p := ⟨g, 10, none⟩) (by show _ ≠ g; omega) (.int .i64 0)).far (p := ⟨g, 11, none⟩) (by show _ ≠ g; omega) (.int .i64 0)).far (p := ⟨g, 12, none⟩) (by show _ ≠ g; omega) (.int .i64 0)
      have hr' := ((((((((((((hr.far (p := ⟨g, 0, none⟩) (by show _ ≠ g; omega) (.int .i64 (900 * O))).far (p := ⟨g, 1, none⟩) (by show _ ≠ g; omega) (.int .i64 K)).far (p := ⟨g, 2, none⟩) (by show _ ≠ g; omega) (.int .i64 0)).far (p := ⟨g, 3, none⟩) (by show _ ≠ g; omega) (.string ⟨#[]⟩)).far (p := ⟨g, 4, none⟩) (by show _ ≠ g; omega) (.string S)).far (p := ⟨g, 5, none⟩) (by show _ ≠ g; omega) (.bool false)).far (p := ⟨g, 6, none⟩) (by show _ ≠ g; omega) (.int .i64 0)).far (p := ⟨g, 7, none⟩) (by show _ ≠ g; omega) (.int .i64 0)).far (p := ⟨g, 8, none⟩) (by show _ ≠ g; omega) (.int .i64 0)).far (p := ⟨g, 9, none⟩) (by show _ ≠ g; omega) (.int .i64 0)).far (p := ⟨g, 10, none⟩) (by show _ ≠ g; omega) (.int .i64 0)).far (p := ⟨g, 11, none⟩) (by show _ ≠ g; omega) (.int .i64 0)).far (p := ⟨g, 12, none⟩) (by show _ ≠ g; omega) (.int .i64 0)
      have HH := Lib.hid (And.intro hr13 (And.intro hG (And.intro hb2 (And.intro hx' hr'))))
      clear hr0 hr1 hr2 hr3 hr4 hr5 hr6 hr7 hr8 hr9 hr10 hr11 hr12 hr13 q1 q2 q3 q4 q5 q6 q7 q8 q9 q10 q11 q12 q13 hG hb2 hb hx hr hx' hr'
      go_simp
      exact hK.out undef _ _ (by first | rfl | (simp only [h1, h3]; done) | (simp only [h1, h3]; rfl)) HH.out.2.1 HH.out.2.2 (show ∃ g S, (y 11 = Value.pointer (some ⟨g, 0, none⟩) ∧ w.heap.size + 2 ≤ g) ∧ isFmt23 S ∧ Blk _ g 47 #[.int .i64 (900 * O), .int .i64 K, .int .i64 0, .string ⟨#[]⟩, .string S, .bool false, .int .i64 0, .int .i64 0, .int .i64 0, .int .i64 0, .int .i64 0, .int .i64 0, .int .i64 0] from ⟨g, S, ⟨h1, h2⟩, h4, HH.out.1⟩)
    exact StepsOk.nil

end Go.Proofs.YtlideagcmhlkeaaDoor

/- Eras of layer 23, made of numbers: any of them. -/
namespace Go.Proofs.YtlideagcmhlkeaaDoor
open Go.RowKit Go.Lib

theorem era23_any (d : E23) (first : Bool) (N : Nat) (year : Int) (en : Bool) (w : World) (hd : d.ok) (hN : 1 ≤ N ∧ N ≤ 3) (hv : VarsP w) :
    Calls Tryd.prog 46 #[.agg #[.int .u8 d.kind, .int .u8 d.set, .int .u8 d.fmt, .int .u8 d.years, .int .u8 d.day, .int .u8 d.base, .int .i8 d.off, .int .i8 d.at_], .bool first, .int .i64 N, .int .i64 year, .bool en] w fun x w' => ∃ e : EV, x = .returned (.agg #[.int .i64 e.off, .int .i64 e.kind, .int .i64 e.save, .string e.set, .string e.fmt, .bool e.ui, .int .i64 e.uy, .int .i64 e.um, .int .i64 e.dk, .int .i64 e.dw, .int .i64 e.dd, .int .i64 e.asec, .int .i64 e.ab]) ∧ GE23 N e ∧ Below w.heap.size w w' := by
  obtain ⟨O, K, S4, D20, D7, A24, B3, k, hEq, _, bK, _⟩ := nums23 d N hd hN
  rcases bK with rfl | rfl | rfl
  · cases en
    · exact era23_n0 d first N year false w hEq.2.1 rfl hd hN hv
    · exact era23_e0 d first N year true w hEq.2.1 rfl hd hN hv
  · cases en
    · exact era23_n1 d first N year false w hEq.2.1 rfl hd hN hv
    · exact era23_e1 d first N year true w hEq.2.1 rfl hd hN hv
  · cases en
    · exact era23_n2 d first N year false w hEq.2.1 rfl hd hN hv
    · exact era23_e2 d first N year true w hEq.2.1 rfl hd hN hv
end Go.Proofs.YtlideagcmhlkeaaDoor

/- What the steps keep of a drawn region in which a row of one type grows and a box of another is written. No function of the program. -/
namespace Go.Proofs.YtlideagcmhlkeaaDoor
open Go.RowKit
set_option linter.unusedVariables false

/-- blocks stay as they are but for boxes of one type (B) and, ahead of the part, rows of one type (T) below N -/
structure GB (B T : TypeId) (N : Nat) (b : Bool) (W W' : World) : Prop where
  far : ∀ (g : Nat) (e : TypeId) (cur : Array Value), e ≠ B → (e ≠ T ∨ N ≤ g ∨ b = true) → W.heap[g]? = some (.cells cur e (0, 0)) → W'.heap[g]? = some (.cells cur e (0, 0))
section
variable {B T : TypeId} {N : Nat} {W W' : World}
theorem GB.below (b : Bool) (h : Below W.heap.size W W') : GB B T N b W W' := ⟨fun g e cur _ _ hb => (h.block g (Array.getElem?_eq_some_iff.1 hb).1).trans hb⟩
theorem GB.refl (B T : TypeId) (N : Nat) (b : Bool) (W : World) : GB B T N b W W := GB.below b (Below.refl _ _)
theorem GB.set_ (b : Bool) {g : Nat} {cs : Array Value} (hb : Blk W g B cs) (n : Nat) (u : Value) : GB B T N b W (W.setCell ⟨g, n, none⟩ u) :=
  ⟨fun g' e cur he _ h' => (Below.heap_setCell W _ u g' (fun q => he (by
    have q' : g' = g := q
    subst q'
    unfold Blk at hb
    rw [hb] at h'
    injection h' with h'
    injection h' with _ h' _
    exact h'.symm))).trans h'⟩
theorem GB.rowA {b : Bool} {α : Type} {base : Nat} {e : TypeId} {m : Nat} {f : α → List Value} {A : Option Addr} {c : Nat} {L : List α} (hg : GB B T N b W W') (he : e ≠ B) (hz : e ≠ T ∨ N ≤ base ∨ b = true) (h : RowOf W base e m f A c L) : RowOf W' base e m f A c L := by
  refine ⟨h.1, ?_⟩
  rcases h.2 with q | ⟨g, cap, cur, hv, hb, hh, hr⟩
  · exact .inl q
  · exact .inr ⟨g, cap, cur, hv, hb, hg.far g e cur he (hz.imp id (Or.imp (fun q => Nat.le_trans q hb) id)) hh, hr⟩
theorem GB.grown (hT : T ≠ B) {α : Type} {m : Nat} {f : α → List Value} {b1 c : Nat} {A : Option Addr} {Y : List α} (hz : RowOf W b1 T m f A c Y) (hK : ∀ K, (Value.slice A Y.length c).ownBlock = some K → K < N) (hgr : W.grownBy W' (Value.slice A Y.length c).ownBlock) : GB B T N false W W' :=
  ⟨fun g e cur he hh hb => (hgr.block g (Array.getElem?_eq_some_iff.1 hb).1 fun q => by
    obtain ⟨cur', hc⟩ := block_of hz q.symm
    rw [hb] at hc
    injection hc with hc
    injection hc with _ hc _
    have := hK g q.symm
    rcases hh with h | h | h
    · exact h hc
    · omega
    · cases h).trans hb⟩
end
end Go.Proofs.YtlideagcmhlkeaaDoor

/- How the walk of Draft.Made keeps its blocks: all below a mark but for one box. No function of the program. -/
namespace Go.Proofs.YtlideagcmhlkeaaDoor
open Go.RowKit Go.Lib
set_option linter.unusedVariables false

/-- the blocks below n stay as they are, but for x -/
structure KX (n x : Nat) (A B : World) : Prop where
  sz : n ≤ A.heap.size
  le : A.heap.size ≤ B.heap.size
  blk : ∀ g, g < n → g ≠ x → B.heap[g]? = A.heap[g]?
section
variable {n x : Nat} {A B C : World}
theorem KX.refl (x : Nat) (A : World) : KX A.heap.size x A A := ⟨Nat.le_refl _, Nat.le_refl _, fun _ _ _ => rfl⟩
theorem KX.below (h : KX n x A B) (hb : Below B.heap.size B C) : KX n x A C := ⟨h.sz, Nat.le_trans h.le hb.size, fun g hg hx => (hb.block g (Nat.lt_of_lt_of_le hg (Nat.le_trans h.sz h.le))).trans (h.blk g hg hx)⟩
theorem KX.set_ (h : KX n x A B) {p : Addr} (hp : p.block = x ∨ n ≤ p.block) (u : Value) : KX n x A (B.setCell p u) :=
  ⟨h.sz, by simpa using h.le, fun g hg hx => (Below.heap_setCell B p u g (by rcases hp with q | q <;> omega)).trans (h.blk g hg hx)⟩
theorem KX.grown (h : KX n x A B) {base k size : Nat} {e : TypeId} {v : Value} {xs : List Value} (hr : B.ownsRow base e size v k xs) (hg : B.grownBy C v.ownBlock) (hb : n ≤ base) : KX n x A C :=
  ⟨h.sz, Nat.le_trans h.le hg.size, fun g hg' hx => (hg.block g (Nat.lt_of_lt_of_le hg' (Nat.le_trans h.sz h.le)) fun q => by have := (hr.lt g q.symm).1; omega).trans (h.blk g hg' hx)⟩
theorem KX.cell (h : KX n x A B) {p : Addr} (hp : p.block < n) (hx : p.block ≠ x) : B.cell? p = A.cell? p := World.cell?_of_block (w := A) (h.blk p.block hp hx)
theorem KX.box (h : KX n x A B) {g : Nat} {t : TypeId} {cs : Array Value} (hb : Blk A g t cs) (hg : g < n) (hx : g ≠ x) : Blk B g t cs := (h.blk g hg hx).trans hb
theorem KX.row {α : Type} {base : Nat} {e : TypeId} {m : Nat} {f : α → List Value} {P : Option Addr} {c : Nat} {L : List α} (h : KX n x A B) (hn : n = A.heap.size) (hx : x < base) (hr : RowOf A base e m f P c L) : RowOf B base e m f P c L := by
  refine ⟨hr.1, ?_⟩
  rcases hr.2 with q | ⟨g, cap, cur, hv, hb, hh, hq⟩
  · exact .inl q
  · exact .inr ⟨g, cap, cur, hv, hb, (h.blk g (by rw [hn]; exact (Array.getElem?_eq_some_iff.1 hh).1) (by omega)).trans hh, hq⟩
end
theorem blk_other {W W' : World} {g b n size : Nat} {t e : TypeId} {cs : Array Value} {v : Value} {xs : List Value} (h : Blk W g t cs) (k : W.ownsRow b e size v n xs) (hne : t ≠ e) (hg : W.grownBy W' v.ownBlock) : Blk W' g t cs :=
  (hg.block g h.lt fun q => by
    obtain ⟨cur, hc⟩ := block_of k q.symm
    unfold Blk at h
    rw [h] at hc
    injection hc with hc
    injection hc with _ hc _
    exact hne hc).trans h
/-- cells of a row that comes in, at blocks below a mark and beside a box -/
def CellsX {α : Type} (n x m : Nat) (f : α → List Value) (w : World) (A : Option Addr) (L : List α) : Prop :=
  ∀ k r, L[k]? = some r → ∃ b o, A = some ⟨b, o, none⟩ ∧ b < n ∧ b ≠ x ∧ ∀ j u, (f r)[j]? = some u → w.cell? ⟨b, o + k * m + j, none⟩ = some u
theorem CellsX.kx {α : Type} {n x m : Nat} {f : α → List Value} {A B : World} {p : Option Addr} {L : List α} (h : CellsX n x m f A p L) (hk : KX n x A B) : CellsX n x m f B p L := fun k r hr => by
  obtain ⟨b, o, h1, h2, h3, h4⟩ := h k r hr
  exact ⟨b, o, h1, h2, h3, fun j u hu => (hk.cell (p := ⟨b, o + k * m + j, none⟩) h2 h3).trans (h4 j u hu)⟩
theorem CellsX.take {α : Type} {n x m : Nat} {f : α → List Value} {A : World} {p : Option Addr} {L : List α} (h : CellsX n x m f A p L) (i : Nat) : CellsX n x m f A p (L.take i) := fun k r hr => by
  rw [List.getElem?_take] at hr
  split at hr
  · exact h k r hr
  · cases hr
theorem CellsX.of {α : Type} {n x m : Nat} {f : α → List Value} {w W : World} {p : Option Addr} {L : List α} (h : CellsIn m f w p L) (hb : Below w.heap.size w W) (hn : w.heap.size ≤ n) (hx : w.heap.size ≤ x) : CellsX n x m f W p L := fun k r hr => by
  obtain ⟨b, o, h1, h2, h3⟩ := h k r hr
  exact ⟨b, o, h1, by omega, by omega, fun j u hu => (hb.cell (p := ⟨b, o + k * m + j, none⟩) h2).trans (h3 j u hu)⟩
/-- the first elements of a slice -/
theorem slice_first (t e : TypeId) (ht : Tryd.prog.underlying t = some (.slice e)) (he : Tryd.prog.elem t = e) (hs : ∀ w, ∃ s, (sizeOf e).run Tryd.prog w = .ok s w) (a : Option Addr) (len cap : Nat) (M : Nat) (h : M ≤ cap) (w : World) :
    (Instr.slice t (.slice a len cap) none (some (.int .i64 (M : Int))) none).run Tryd.prog w = .ok (.slice a M cap) w := by
  obtain ⟨s, hs⟩ := hs w
  rw [run_slice_h (P := Tryd.prog) (w := w) t a len cap (by rw [he]; exact ht) .i64 (M : Int) (by omega) (by omega), he, hs]
  simp only [Result.andThen, sliced, Int.toNat_natCast, Nat.sub_zero, Nat.zero_mul]
  have q : (if cap = 0 then a else Option.map (fun x : Addr => x.add 0) a) = a := by
    split
    · rfl
    · cases a <;> simp [Addr.add]
  rw [q]
end Go.Proofs.YtlideagcmhlkeaaDoor
