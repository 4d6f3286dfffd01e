/- Texts of one proof, one behind the other: Era23e0. -/
import Derived.Test.YtlideagcmhlkeaaDoorRF8
import Derived.BigRegion
import Derived.IntWalk
import Derived.Deep.DeepCutAuto

/- Eras of layer 23 with an end (kind 0). -/
namespace Go.Proofs.YtlideagcmhlkeaaDoor
open Go.RowKit Go.Lib
set_option linter.unusedVariables false
set_option linter.unusedSimpArgs false

set_option maxRecDepth 100000 in
set_option maxHeartbeats 16000000 in
theorem era23_e0 (d : E23) (first : Bool) (N : Nat) (year : Int) (en : Bool) (w : World) (hKK : d.kind.tmod 3 = 0) (hen : en = true) (hd : d.ok) (hN : 1 ≤ N ∧ N ≤ 3) (hv : VarsP w) :
    Calls Tryd.prog 46 #[.agg #[.int .u8 d.kind, .int .u8 d.set, .int .u8 d.fmt, .int .u8 d.years, .int .u8 d.day, .int .u8 d.base, .int .i8 d.off, .int .i8 d.at_], .bool first, .int .i64 N, .int .i64 year, .bool en] w fun x w' => ∃ e : EV, x = .returned (.agg #[.int .i64 e.off, .int .i64 e.kind, .int .i64 e.save, .string e.set, .string e.fmt, .bool e.ui, .int .i64 e.uy, .int .i64 e.um, .int .i64 e.dk, .int .i64 e.dw, .int .i64 e.dd, .int .i64 e.asec, .int .i64 e.ab]) ∧ GE23 N e ∧ Below w.heap.size w w' := by
  obtain ⟨O, K, S4, D20, D7, A24, B3, k, hEq, bO, bK, bS, bD, bE, bA, bB, bk⟩ := nums23 d N hd hN
  subst hen
  have BK2 := Lib.hid (show K = 0 from hEq.2.1.symm.trans hKK)
  clear hKK
  have HEQ := Lib.hid hEq
  have h2f := hd.f
  have hN3 : (N : Int) ≤ 3 := by omega
  have hNe : ¬ (N : Int) = 0 := by omega
  have hNz : ((N : Int) == 0) = false := by simpa using hNe
  have hN1 : (1 : Int) ≤ N := by omega
  have hk3 : (k : Int) ≤ 3 := by omega
  have hk10 : k < 10 := by omega
  have BO := Lib.hid bO; have BS := Lib.hid bS; have Bk := Lib.hid bk
  have q1 := hd.k.1; have q2 := hd.k.2; have q3 := hd.s.1; have q4 := hd.s.2; have q5 := hd.dy.1; have q6 := hd.dy.2; have q7 := hd.b.1; have q8 := hd.b.2; have q9 := hd.o.1; have q10 := hd.o.2; have q11 := hd.a.1; have q12 := hd.a.2
  have r1 := bO.1; have r2 := bO.2; have r3 := bS.1; have r4 := bS.2; have r5 := bD.1; have r6 := bD.2; have r7 := bE.1; have r8 := bE.2; have r9 := bA.1; have r10 := bA.2; have r11 := bB.1; have r12 := bB.2
  have rk1 : 0 ≤ K := by omega
  have rk2 : K ≤ 2 := by omega
  have w1 : IntKind.u8.wrap (1 + S4) = 1 + S4 := IntWalk.u8_in _ (by omega)
  have wO : IntKind.i64.wrap O = O := IntWalk.i64_in _ (by omega)
  have wM : IntKind.i64.wrap (900 * O) = 900 * O := IntWalk.i64_in _ (by omega)
  have wK : IntKind.i64.wrap K = K := IntWalk.i64_in _ (by omega)
  have hb0 := ((Below.refl w.heap.size w).alloc (Nat.le_refl _) (.cells #[.int .u8 d.kind, .int .u8 d.set, .int .u8 d.fmt, .int .u8 d.years, .int .u8 d.day, .int .u8 d.base, .int .i8 d.off, .int .i8 d.at_] 104)).alloc (by simp) (.cells #[.int .i64 0, .int .i64 0, .int .i64 0, .string ⟨#[]⟩, .string ⟨#[]⟩, .bool false, .int .i64 0, .int .i64 0, .int .i64 0, .int .i64 0, .int .i64 0, .int .i64 0, .int .i64 0] 47)
  have hx0 := (Blk.new w 104 #[.int .u8 d.kind, .int .u8 d.set, .int .u8 d.fmt, .int .u8 d.years, .int .u8 d.day, .int .u8 d.base, .int .i8 d.off, .int .i8 d.at_]).alloc (.cells #[.int .i64 0, .int .i64 0, .int .i64 0, .string ⟨#[]⟩, .string ⟨#[]⟩, .bool false, .int .i64 0, .int .i64 0, .int .i64 0, .int .i64 0, .int .i64 0, .int .i64 0, .int .i64 0] 47)
  have hr0 := Blk.newAt (w.alloc (.cells #[.int .u8 d.kind, .int .u8 d.set, .int .u8 d.fmt, .int .u8 d.years, .int .u8 d.day, .int .u8 d.base, .int .i8 d.off, .int .i8 d.at_] 104)) (w.heap.size + 1) (by simp) 47 #[.int .i64 0, .int .i64 0, .int .i64 0, .string ⟨#[]⟩, .string ⟨#[]⟩, .bool false, .int .i64 0, .int .i64 0, .int .i64 0, .int .i64 0, .int .i64 0, .int .i64 0, .int .i64 0]
  obtain ⟨KS, RN, hKS, hsum0, hRN⟩ : ∃ KS RN : ByteArray, KS = str [UInt8.ofNat (48 + k)] ∧ (∀ W : World, (Op.stringOp .add ⟨#[82]⟩ KS).run Tryd.prog W = .ok (.string RN) W) ∧ RN = rn k := ⟨_, rn k, rfl, cat_run [82] [UInt8.ofNat (48 + k)] (by simp), rfl⟩
  have HSUM := Lib.hid hsum0; have HRN := Lib.hid hRN
  have cI : Hid (∀ W, VarsP W → Calls Tryd.prog 45 #[.int .i64 (k : Int)] W fun e w' => e = .returned (.string KS) ∧ Below W.heap.size W w') := Lib.hid fun W h => by rw [hKS]; exact itoa23 k _ rfl hk10 W h
  clear hEq bO bS bD bE bA bB bk hd hN hKS hsum0 hRN
  go_enter Tryd.func46, Tryd.ntmps46
  go_upto_region 1 with fail
  obtain ⟨hO, hK, hS4, hD20, hD7, hA24, hB3, hkN⟩ := HEQ.out
  refine wp_region_shape [(some 12, []), (some 13, [0]), (some 14, [1]), (some 15, [2]), (some 16, [3]), (some 17, []), (some 18, [5]), (some 19, [6]), (some 20, [7]), (some 21, []), (some 22, [9]), (some 23, [10]), (some 24, [4, 8, 11]), (some 11, []), (none, [13, 12, 11, 0, 1, 2, 3, 4, 5, 6, 7, 8, 9, 10, 11, 12, 13])] (fun y => { tmps := #[.agg #[.int .u8 d.kind, .int .u8 d.set, .int .u8 d.fmt, .int .u8 d.years, .int .u8 d.day, .int .u8 d.base, .int .i8 d.off, .int .i8 d.at_], .bool first, .int .i64 N, .int .i64 year, .bool true, .pointer (some ⟨w.heap.size, 0, none⟩), undef, undef, undef, undef, .pointer (some ⟨w.heap.size + 1, 0, none⟩), y 11, y 12, y 13, y 14, y 15, y 16, y 17, y 18, y 19, y 20, y 21, y 22, y 23, y 24, undef, undef, undef, undef, undef, undef, undef, undef, undef, undef, undef, undef, undef, undef, undef, undef, undef, undef, undef, undef, undef, undef, undef, undef, undef, undef, undef, undef, undef, undef, undef, undef, undef, undef, undef, undef, undef, undef, undef, undef, undef, undef, undef, undef, undef, undef, undef, undef, undef, undef, undef, undef, undef, undef, undef, undef, undef, undef, undef, undef, undef], defers := [] }) (fun _ => undef) (fun j => j == 11 || j == 12 || j == 13 || j == 14) [.pointer (some ⟨w.heap.size, 6, none⟩), .int .i8 d.off, .int .i8 O, .int .i64 O, .int .i64 (900 * O), .pointer (some ⟨w.heap.size, 0, none⟩), .int .u8 d.kind, .int .u8 K, .int .i64 K, .pointer (some ⟨w.heap.size, 2, none⟩), .int .u8 d.fmt, undef, undef, undef, undef] (fun j y W => match j with | 11 => ∃ S, y 23 = .string S ∧ isFmt23 S | 12 => ∃ S, y 24 = .agg #[.int .i64 (900 * O), .int .i64 K, .int .i64 0, .string ⟨#[]⟩, .string S, .bool false, .int .i64 0, .int .i64 0, .int .i64 0, .int .i64 0, .int .i64 0, .int .i64 0, .int .i64 0] ∧ isFmt23 S | 13 => ∃ g, (y 11 = .pointer (some ⟨g, 0, none⟩) ∧ w.heap.size + 2 ≤ g) ∧ ∃ v0 v1 v2 v3 v4 v5 v6 v7 v8 v9 v10 v11 v12, Blk W g 47 #[v0, v1, v2, v3, v4, v5, v6, v7, v8, v9, v10, v11, v12] | 14 => ∃ g S, (y 11 = .pointer (some ⟨g, 0, none⟩) ∧ w.heap.size + 2 ≤ g) ∧ isFmt23 S ∧ Blk W g 47 #[.int .i64 (900 * O), .int .i64 K, .int .i64 0, .string ⟨#[]⟩, .string S, .bool false, .int .i64 0, .int .i64 0, .int .i64 0, .int .i64 0, .int .i64 0, .int .i64 0, .int .i64 0] | _ => True) (fun j => match j with | 11 => [23] | 12 => [24] | 13 => [11] | 14 => [11] | _ => []) (GE) (fun W => Below w.heap.size w W ∧ Blk W w.heap.size 104 #[.int .u8 d.kind, .int .u8 d.set, .int .u8 d.fmt, .int .u8 d.years, .int .u8 d.day, .int .u8 d.base, .int .i8 d.off, .int .i8 d.at_] ∧ Blk W (w.heap.size + 1) 47 #[.int .i64 0, .int .i64 0, .int .i64 0, .string ⟨#[]⟩, .string ⟨#[]⟩, .bool false, .int .i64 0, .int .i64 0, .int .i64 0, .int .i64 0, .int .i64 0, .int .i64 0, .int .i64 0]) (by kernel_rfl) (by kernel_rfl) (by decide +kernel) rfl ⟨hb0.drew, hx0, hr0⟩ ?hput1 ?hloc1 ?hmono1 ?hstep1 ?hdone1
  case hput1 =>
    intro d hd y v
    simp only [List.filterMap_cons, List.filterMap_nil, List.mem_cons, List.not_mem_nil, or_false] at hd
    rcases hd with rfl | rfl | rfl | rfl | rfl | rfl | rfl | rfl | rfl | rfl | rfl | rfl | rfl | rfl
    all_goals rfl
  case hloc1 =>
    intro j hj y y' W hk hx
    have hj' : j = 11 ∨ j = 12 ∨ j = 13 ∨ j = 14 := by simpa [or_assoc] using hj
    rcases hj' with rfl | rfl | rfl | rfl
    · simp only [List.forall_mem_cons, List.not_mem_nil, false_imp_iff, implies_true, and_true] at hk
      show _
      simpa only [hk] using hx
    · simp only [List.forall_mem_cons, List.not_mem_nil, false_imp_iff, implies_true, and_true] at hk
      show _
      simpa only [hk] using hx
    · simp only [List.forall_mem_cons, List.not_mem_nil, false_imp_iff, implies_true, and_true] at hk
      show _
      simpa only [hk] using hx
    · simp only [List.forall_mem_cons, List.not_mem_nil, false_imp_iff, implies_true, and_true] at hk
      show _
      simpa only [hk] using hx
  case hmono1 =>
    intro j hj hlast y W W' hg hx
    have hj' : j = 11 ∨ j = 12 ∨ j = 13 ∨ j = 14 := by simpa [or_assoc] using hj
    rcases hj' with rfl | rfl | rfl | rfl
    · exact hx
    · exact hx
    · obtain ⟨g, h1, h2⟩ := hx; exact ⟨g, h1, hg g h2⟩
    · exact absurd hlast (by decide)
  case hdone1 =>
    intro yy W1 hS hd
    have x14 : (fun (y : Nat → Value) (W : World) => ∃ g S, (y 11 = .pointer (some ⟨g, 0, none⟩) ∧ w.heap.size + 2 ≤ g) ∧ isFmt23 S ∧ Blk W g 47 #[.int .i64 (900 * O), .int .i64 K, .int .i64 0, .string ⟨#[]⟩, .string S, .bool false, .int .i64 0, .int .i64 0, .int .i64 0, .int .i64 0, .int .i64 0, .int .i64 0, .int .i64 0]) yy W1 := (hd 14 (by decide)).ex rfl
    obtain ⟨hb, hx, hr⟩ := hS
    obtain ⟨g, S, ⟨e11, hg2⟩, hf, hbg⟩ := x14
    rw [e11]
    clear hd e11 hb0 hx0 hr0
    obtain rfl := BK2.out
    cases first
    · by_cases hday : 200 ≤ d.day
      · skip
        have hg00 := hbg; have hx00 := hx; have hr00 := hr; have hb00 := hb
        have z1 := (hg00.cell 1).trans rfl
        have z2 := (hx00.cell 4).trans rfl
        have H3g := Lib.hid hg00; have H3x := Lib.hid hx00; have H3r := Lib.hid hr00; have H3b := Lib.hid hb00
        clear hg00 hx00 hr00 hb00
        go_wp2_with fail
        refine (until23_any year 1 (1 + D20) _).mono ?_
        rintro e W103 ⟨rfl, hc⟩
        have h4g := H3g.out.below hc H3g.out.lt; have h4x := H3x.out.below hc H3x.out.lt; have h4r := H3r.out.below hc H3r.out.lt; have h4b := H3b.out.trans (hc.mono H3b.out.size)
        clear hc H3g H3x H3r H3b z1 z2
        have z5 := (h4g.cell 5).trans rfl
        have z6 := h4g.frozen 5
        have z7 := (h4g.cell 6).trans rfl
        have z8 := h4g.frozen 6
        have z9 := (h4g.cell 7).trans rfl
        have z10 := h4g.frozen 7
        have z11 := (h4g.cell 8).trans rfl
        have z12 := h4g.frozen 8
        have z13 := (h4g.cell 9).trans rfl
        have z14 := h4g.frozen 9
        have z15 := (h4g.cell 10).trans rfl
        have z16 := h4g.frozen 10
        have z17 := (h4g.cell 11).trans rfl
        have z18 := h4g.frozen 11
        have z19 := (h4g.cell 12).trans rfl
        have z20 := h4g.frozen 12
        have h21g : Blk _ g 47 #[.int .i64 (900 * O), .int .i64 0, .int .i64 0, .string ⟨#[]⟩, .string S, .bool true, .int .i64 0, .int .i64 0, .int .i64 0, .int .i64 0, .int .i64 0, .int .i64 0, .int .i64 0] := h4g.set_ 5 (.bool true)
        have h21x := h4x.far (p := ⟨g, 5, none⟩) (by show _ ≠ g; omega) (.bool true)
        have h21r := h4r.far (p := ⟨g, 5, none⟩) (by show _ ≠ g; omega) (.bool true)
        have h21b := h4b.setCell (p := ⟨g, 5, none⟩) (by show w.heap.size ≤ g; omega) (.bool true)
        have h22g : Blk _ g 47 #[.int .i64 (900 * O), .int .i64 0, .int .i64 0, .string ⟨#[]⟩, .string S, .bool true, .int .i64 year, .int .i64 0, .int .i64 0, .int .i64 0, .int .i64 0, .int .i64 0, .int .i64 0] := h21g.set_ 6 (.int .i64 year)
        have h22x := h21x.far (p := ⟨g, 6, none⟩) (by show _ ≠ g; omega) (.int .i64 year)
        have h22r := h21r.far (p := ⟨g, 6, none⟩) (by show _ ≠ g; omega) (.int .i64 year)
        have h22b := h21b.setCell (p := ⟨g, 6, none⟩) (by show w.heap.size ≤ g; omega) (.int .i64 year)
        have h23g : Blk _ g 47 #[.int .i64 (900 * O), .int .i64 0, .int .i64 0, .string ⟨#[]⟩, .string S, .bool true, .int .i64 year, .int .i64 1, .int .i64 0, .int .i64 0, .int .i64 0, .int .i64 0, .int .i64 0] := h22g.set_ 7 (.int .i64 1)
        have h23x := h22x.far (p := ⟨g, 7, none⟩) (by show _ ≠ g; omega) (.int .i64 1)
        have h23r := h22r.far (p := ⟨g, 7, none⟩) (by show _ ≠ g; omega) (.int .i64 1)
        have h23b := h22b.setCell (p := ⟨g, 7, none⟩) (by show w.heap.size ≤ g; omega) (.int .i64 1)
        have h24g : Blk _ g 47 #[.int .i64 (900 * O), .int .i64 0, .int .i64 0, .string ⟨#[]⟩, .string S, .bool true, .int .i64 year, .int .i64 1, .int .i64 1, .int .i64 0, .int .i64 0, .int .i64 0, .int .i64 0] := h23g.set_ 8 (.int .i64 1)
        have h24x := h23x.far (p := ⟨g, 8, none⟩) (by show _ ≠ g; omega) (.int .i64 1)
        have h24r := h23r.far (p := ⟨g, 8, none⟩) (by show _ ≠ g; omega) (.int .i64 1)
        have h24b := h23b.setCell (p := ⟨g, 8, none⟩) (by show w.heap.size ≤ g; omega) (.int .i64 1)
        have h25g : Blk _ g 47 #[.int .i64 (900 * O), .int .i64 0, .int .i64 0, .string ⟨#[]⟩, .string S, .bool true, .int .i64 year, .int .i64 1, .int .i64 1, .int .i64 0, .int .i64 0, .int .i64 0, .int .i64 0] := h24g.set_ 9 (.int .i64 0)
        have h25x := h24x.far (p := ⟨g, 9, none⟩) (by show _ ≠ g; omega) (.int .i64 0)
        have h25r := h24r.far (p := ⟨g, 9, none⟩) (by show _ ≠ g; omega) (.int .i64 0)
        have h25b := h24b.setCell (p := ⟨g, 9, none⟩) (by show w.heap.size ≤ g; omega) (.int .i64 0)
        have h26g : Blk _ g 47 #[.int .i64 (900 * O), .int .i64 0, .int .i64 0, .string ⟨#[]⟩, .string S, .bool true, .int .i64 year, .int .i64 1, .int .i64 1, .int .i64 0, .int .i64 (1 + D20), .int .i64 0, .int .i64 0] := h25g.set_ 10 (.int .i64 (1 + D20))
        have h26x := h25x.far (p := ⟨g, 10, none⟩) (by show _ ≠ g; omega) (.int .i64 (1 + D20))
        have h26r := h25r.far (p := ⟨g, 10, none⟩) (by show _ ≠ g; omega) (.int .i64 (1 + D20))
        have h26b := h25b.setCell (p := ⟨g, 10, none⟩) (by show w.heap.size ≤ g; omega) (.int .i64 (1 + D20))
        have h27g : Blk _ g 47 #[.int .i64 (900 * O), .int .i64 0, .int .i64 0, .string ⟨#[]⟩, .string S, .bool true, .int .i64 year, .int .i64 1, .int .i64 1, .int .i64 0, .int .i64 (1 + D20), .int .i64 0, .int .i64 0] := h26g.set_ 11 (.int .i64 0)
        have h27x := h26x.far (p := ⟨g, 11, none⟩) (by show _ ≠ g; omega) (.int .i64 0)
        have h27r := h26r.far (p := ⟨g, 11, none⟩) (by show _ ≠ g; omega) (.int .i64 0)
        have h27b := h26b.setCell (p := ⟨g, 11, none⟩) (by show w.heap.size ≤ g; omega) (.int .i64 0)
        have h28g : Blk _ g 47 #[.int .i64 (900 * O), .int .i64 0, .int .i64 0, .string ⟨#[]⟩, .string S, .bool true, .int .i64 year, .int .i64 1, .int .i64 1, .int .i64 0, .int .i64 (1 + D20), .int .i64 0, .int .i64 0] := h27g.set_ 12 (.int .i64 0)
        have h28x := h27x.far (p := ⟨g, 12, none⟩) (by show _ ≠ g; omega) (.int .i64 0)
        have h28r := h27r.far (p := ⟨g, 12, none⟩) (by show _ ≠ g; omega) (.int .i64 0)
        have h28b := h27b.setCell (p := ⟨g, 12, none⟩) (by show w.heap.size ≤ g; omega) (.int .i64 0)
        have z29 := (h28x.cell 4).trans rfl
        have HT := Lib.hid (And.intro hD7 (And.intro hA24 hB3))
        clear hO hS4 hD20 hD7 hA24 hB3 hkN
        go_upto_region 12 with fail
        obtain ⟨hD7, hA24, hB3⟩ := HT.out
        have z30 := (h28g.cell 8).trans rfl
        have z31 := h28g.frozen 8
        have z32 := (h28g.cell 9).trans rfl
        have z33 := h28g.frozen 9
        have z34 := (h28g.cell 10).trans rfl
        have z35 := h28g.frozen 10
        have h36g : Blk _ g 47 #[.int .i64 (900 * O), .int .i64 0, .int .i64 0, .string ⟨#[]⟩, .string S, .bool true, .int .i64 year, .int .i64 1, .int .i64 3, .int .i64 0, .int .i64 (1 + D20), .int .i64 0, .int .i64 0] := h28g.set_ 8 (.int .i64 3)
        have h36x := h28x.far (p := ⟨g, 8, none⟩) (by show _ ≠ g; omega) (.int .i64 3)
        have h36r := h28r.far (p := ⟨g, 8, none⟩) (by show _ ≠ g; omega) (.int .i64 3)
        have h36b := h28b.setCell (p := ⟨g, 8, none⟩) (by show w.heap.size ≤ g; omega) (.int .i64 3)
        have h37g : Blk _ g 47 #[.int .i64 (900 * O), .int .i64 0, .int .i64 0, .string ⟨#[]⟩, .string S, .bool true, .int .i64 year, .int .i64 1, .int .i64 3, .int .i64 D7, .int .i64 (1 + D20), .int .i64 0, .int .i64 0] := h36g.set_ 9 (.int .i64 D7)
        have h37x := h36x.far (p := ⟨g, 9, none⟩) (by show _ ≠ g; omega) (.int .i64 D7)
        have h37r := h36r.far (p := ⟨g, 9, none⟩) (by show _ ≠ g; omega) (.int .i64 D7)
        have h37b := h36b.setCell (p := ⟨g, 9, none⟩) (by show w.heap.size ≤ g; omega) (.int .i64 D7)
        have h38g : Blk _ g 47 #[.int .i64 (900 * O), .int .i64 0, .int .i64 0, .string ⟨#[]⟩, .string S, .bool true, .int .i64 year, .int .i64 1, .int .i64 3, .int .i64 D7, .int .i64 8, .int .i64 0, .int .i64 0] := h37g.set_ 10 (.int .i64 8)
        have h38x := h37x.far (p := ⟨g, 10, none⟩) (by show _ ≠ g; omega) (.int .i64 8)
        have h38r := h37r.far (p := ⟨g, 10, none⟩) (by show _ ≠ g; omega) (.int .i64 8)
        have h38b := h37b.setCell (p := ⟨g, 10, none⟩) (by show w.heap.size ≤ g; omega) (.int .i64 8)
        have z39 := (h38x.cell 7).trans rfl
        have z40 := (h38x.cell 5).trans rfl
        have z41 := (h38g.cell 11).trans rfl
        have z42 := h38g.frozen 11
        have z43 := (h38g.cell 12).trans rfl
        have z44 := h38g.frozen 12
        have h45g : Blk _ g 47 #[.int .i64 (900 * O), .int .i64 0, .int .i64 0, .string ⟨#[]⟩, .string S, .bool true, .int .i64 year, .int .i64 1, .int .i64 3, .int .i64 D7, .int .i64 8, .int .i64 (900 * (24 + A24)), .int .i64 0] := h38g.set_ 11 (.int .i64 (900 * (24 + A24)))
        have h45x := h38x.far (p := ⟨g, 11, none⟩) (by show _ ≠ g; omega) (.int .i64 (900 * (24 + A24)))
        have h45r := h38r.far (p := ⟨g, 11, none⟩) (by show _ ≠ g; omega) (.int .i64 (900 * (24 + A24)))
        have h45b := h38b.setCell (p := ⟨g, 11, none⟩) (by show w.heap.size ≤ g; omega) (.int .i64 (900 * (24 + A24)))
        have h46g : Blk _ g 47 #[.int .i64 (900 * O), .int .i64 0, .int .i64 0, .string ⟨#[]⟩, .string S, .bool true, .int .i64 year, .int .i64 1, .int .i64 3, .int .i64 D7, .int .i64 8, .int .i64 (900 * (24 + A24)), .int .i64 B3] := h45g.set_ 12 (.int .i64 B3)
        have h46x := h45x.far (p := ⟨g, 12, none⟩) (by show _ ≠ g; omega) (.int .i64 B3)
        have h46r := h45r.far (p := ⟨g, 12, none⟩) (by show _ ≠ g; omega) (.int .i64 B3)
        have h46b := h45b.setCell (p := ⟨g, 12, none⟩) (by show w.heap.size ≤ g; omega) (.int .i64 B3)
        have z47 := (h46g.cell 0).trans rfl
        have z48 := (h46g.cell 1).trans rfl
        have z49 := (h46g.cell 2).trans rfl
        have z50 := (h46g.cell 3).trans rfl
        have z51 := (h46g.cell 4).trans rfl
        have z52 := (h46g.cell 5).trans rfl
        have z53 := (h46g.cell 6).trans rfl
        have z54 := (h46g.cell 7).trans rfl
        have z55 := (h46g.cell 8).trans rfl
        have z56 := (h46g.cell 9).trans rfl
        have z57 := (h46g.cell 10).trans rfl
        have z58 := (h46g.cell 11).trans rfl
        have z59 := (h46g.cell 12).trans rfl
        have z60 := (h46r.cell 0).trans rfl
        have z61 := h46r.frozen 0
        have z62 := (h46r.cell 1).trans rfl
        have z63 := h46r.frozen 1
        have z64 := (h46r.cell 2).trans rfl
        have z65 := h46r.frozen 2
        have z66 := (h46r.cell 3).trans rfl
        have z67 := h46r.frozen 3
        have z68 := (h46r.cell 4).trans rfl
        have z69 := h46r.frozen 4
        have z70 := (h46r.cell 5).trans rfl
        have z71 := h46r.frozen 5
        have z72 := (h46r.cell 6).trans rfl
        have z73 := h46r.frozen 6
        have z74 := (h46r.cell 7).trans rfl
        have z75 := h46r.frozen 7
        have z76 := (h46r.cell 8).trans rfl
        have z77 := h46r.frozen 8
        have z78 := (h46r.cell 9).trans rfl
        have z79 := h46r.frozen 9
        have z80 := (h46r.cell 10).trans rfl
        have z81 := h46r.frozen 10
        have z82 := (h46r.cell 11).trans rfl
        have z83 := h46r.frozen 11
        have z84 := (h46r.cell 12).trans rfl
        have z85 := h46r.frozen 12
        have t860 : Blk _ (w.heap.size + 1) 47 #[.int .i64 (900 * O), .int .i64 0, .int .i64 0, .string ⟨#[]⟩, .string ⟨#[]⟩, .bool false, .int .i64 0, .int .i64 0, .int .i64 0, .int .i64 0, .int .i64 0, .int .i64 0, .int .i64 0] := h46r.set_ 0 (.int .i64 (900 * O))
        have t861 : Blk _ (w.heap.size + 1) 47 #[.int .i64 (900 * O), .int .i64 0, .int .i64 0, .string ⟨#[]⟩, .string ⟨#[]⟩, .bool false, .int .i64 0, .int .i64 0, .int .i64 0, .int .i64 0, .int .i64 0, .int .i64 0, .int .i64 0] := t860.set_ 1 (.int .i64 0)
        have t862 : Blk _ (w.heap.size + 1) 47 #[.int .i64 (900 * O), .int .i64 0, .int .i64 0, .string ⟨#[]⟩, .string ⟨#[]⟩, .bool false, .int .i64 0, .int .i64 0, .int .i64 0, .int .i64 0, .int .i64 0, .int .i64 0, .int .i64 0] := t861.set_ 2 (.int .i64 0)
        have t863 : Blk _ (w.heap.size + 1) 47 #[.int .i64 (900 * O), .int .i64 0, .int .i64 0, .string ⟨#[]⟩, .string ⟨#[]⟩, .bool false, .int .i64 0, .int .i64 0, .int .i64 0, .int .i64 0, .int .i64 0, .int .i64 0, .int .i64 0] := t862.set_ 3 (.string ⟨#[]⟩)
        have t864 : Blk _ (w.heap.size + 1) 47 #[.int .i64 (900 * O), .int .i64 0, .int .i64 0, .string ⟨#[]⟩, .string S, .bool false, .int .i64 0, .int .i64 0, .int .i64 0, .int .i64 0, .int .i64 0, .int .i64 0, .int .i64 0] := t863.set_ 4 (.string S)
        have t865 : Blk _ (w.heap.size + 1) 47 #[.int .i64 (900 * O), .int .i64 0, .int .i64 0, .string ⟨#[]⟩, .string S, .bool true, .int .i64 0, .int .i64 0, .int .i64 0, .int .i64 0, .int .i64 0, .int .i64 0, .int .i64 0] := t864.set_ 5 (.bool true)
        have t866 : Blk _ (w.heap.size + 1) 47 #[.int .i64 (900 * O), .int .i64 0, .int .i64 0, .string ⟨#[]⟩, .string S, .bool true, .int .i64 year, .int .i64 0, .int .i64 0, .int .i64 0, .int .i64 0, .int .i64 0, .int .i64 0] := t865.set_ 6 (.int .i64 year)
        have t867 : Blk _ (w.heap.size + 1) 47 #[.int .i64 (900 * O), .int .i64 0, .int .i64 0, .string ⟨#[]⟩, .string S, .bool true, .int .i64 year, .int .i64 1, .int .i64 0, .int .i64 0, .int .i64 0, .int .i64 0, .int .i64 0] := t866.set_ 7 (.int .i64 1)
        have t868 : Blk _ (w.heap.size + 1) 47 #[.int .i64 (900 * O), .int .i64 0, .int .i64 0, .string ⟨#[]⟩, .string S, .bool true, .int .i64 year, .int .i64 1, .int .i64 3, .int .i64 0, .int .i64 0, .int .i64 0, .int .i64 0] := t867.set_ 8 (.int .i64 3)
        have t869 : Blk _ (w.heap.size + 1) 47 #[.int .i64 (900 * O), .int .i64 0, .int .i64 0, .string ⟨#[]⟩, .string S, .bool true, .int .i64 year, .int .i64 1, .int .i64 3, .int .i64 D7, .int .i64 0, .int .i64 0, .int .i64 0] := t868.set_ 9 (.int .i64 D7)
        have t8610 : Blk _ (w.heap.size + 1) 47 #[.int .i64 (900 * O), .int .i64 0, .int .i64 0, .string ⟨#[]⟩, .string S, .bool true, .int .i64 year, .int .i64 1, .int .i64 3, .int .i64 D7, .int .i64 8, .int .i64 0, .int .i64 0] := t869.set_ 10 (.int .i64 8)
        have t8611 : Blk _ (w.heap.size + 1) 47 #[.int .i64 (900 * O), .int .i64 0, .int .i64 0, .string ⟨#[]⟩, .string S, .bool true, .int .i64 year, .int .i64 1, .int .i64 3, .int .i64 D7, .int .i64 8, .int .i64 (900 * (24 + A24)), .int .i64 0] := t8610.set_ 11 (.int .i64 (900 * (24 + A24)))
        have t8612 : Blk _ (w.heap.size + 1) 47 #[.int .i64 (900 * O), .int .i64 0, .int .i64 0, .string ⟨#[]⟩, .string S, .bool true, .int .i64 year, .int .i64 1, .int .i64 3, .int .i64 D7, .int .i64 8, .int .i64 (900 * (24 + A24)), .int .i64 B3] := t8611.set_ 12 (.int .i64 B3)
        have kk0 := (t8612.cell 0).trans rfl
        have kk1 := (t8612.cell 1).trans rfl
        have kk2 := (t8612.cell 2).trans rfl
        have kk3 := (t8612.cell 3).trans rfl
        have kk4 := (t8612.cell 4).trans rfl
        have kk5 := (t8612.cell 5).trans rfl
        have kk6 := (t8612.cell 6).trans rfl
        have kk7 := (t8612.cell 7).trans rfl
        have kk8 := (t8612.cell 8).trans rfl
        have kk9 := (t8612.cell 9).trans rfl
        have kk10 := (t8612.cell 10).trans rfl
        have kk11 := (t8612.cell 11).trans rfl
        have kk12 := (t8612.cell 12).trans rfl
        have HBF := Lib.hid (((((((((((((h46b.setCell (p := ⟨w.heap.size + 1, 0, none⟩) (Nat.le_succ _) (.int .i64 (900 * O))).setCell (p := ⟨w.heap.size + 1, 1, none⟩) (Nat.le_succ _) (.int .i64 0)).setCell (p := ⟨w.heap.size + 1, 2, none⟩) (Nat.le_succ _) (.int .i64 0)).setCell (p := ⟨w.heap.size + 1, 3, none⟩) (Nat.le_succ _) (.string ⟨#[]⟩)).setCell (p := ⟨w.heap.size + 1, 4, none⟩) (Nat.le_succ _) (.string S)).setCell (p := ⟨w.heap.size + 1, 5, none⟩) (Nat.le_succ _) (.bool true)).setCell (p := ⟨w.heap.size + 1, 6, none⟩) (Nat.le_succ _) (.int .i64 year)).setCell (p := ⟨w.heap.size + 1, 7, none⟩) (Nat.le_succ _) (.int .i64 1)).setCell (p := ⟨w.heap.size + 1, 8, none⟩) (Nat.le_succ _) (.int .i64 3)).setCell (p := ⟨w.heap.size + 1, 9, none⟩) (Nat.le_succ _) (.int .i64 D7)).setCell (p := ⟨w.heap.size + 1, 10, none⟩) (Nat.le_succ _) (.int .i64 8)).setCell (p := ⟨w.heap.size + 1, 11, none⟩) (Nat.le_succ _) (.int .i64 (900 * (24 + A24)))).setCell (p := ⟨w.heap.size + 1, 12, none⟩) (Nat.le_succ _) (.int .i64 B3))
        clear t860 t861 t862 t863 t864 t865 t866 t867 t868 t869 t8610 t8611 t8612
        have H87g := Lib.hid h46g; have H87x := Lib.hid h46x; have H87r := Lib.hid h46r; have H87b := Lib.hid h46b
        clear h4g h4x h4r h4b h21g h21x h21r h21b h22g h22x h22r h22b h23g h23x h23r h23b h24g h24x h24r h24b h25g h25x h25r h25b h26g h26x h26r h26b h27g h27x h27r h27b h28g h28x h28r h28b h36g h36x h36r h36b h37g h37x h37r h37b h38g h38x h38r h38b h45g h45x h45r h45b h46g h46x h46r h46b
        go_wp2_with fail
        refine bodyPost_ret (v := .agg #[.int .i64 (900 * O), .int .i64 0, .int .i64 0, .string ⟨#[]⟩, .string S, .bool true, .int .i64 year, .int .i64 1, .int .i64 3, .int .i64 D7, .int .i64 8, .int .i64 (900 * (24 + A24)), .int .i64 B3]) (by simp [results, Tryd.results46, go_sem, kk0, kk1, kk2, kk3, kk4, kk5, kk6, kk7, kk8, kk9, kk10, kk11, kk12]) rfl ?_
        exact ⟨⟨(900 * O), 0, 0, ⟨#[]⟩, S, true, year, 1, 3, D7, 8, (900 * (24 + A24)), B3⟩, rfl, ⟨(by show -42300 ≤ 900 * O ∧ 900 * O ≤ 42300; have := BO.out; omega), .inl rfl, hf, (show (0 : Int) ≤ 0 ∧ (0 : Int) ≤ 7200 by decide), fun h => by cases h⟩, HBF.out⟩
      · skip
        have hg00 := hbg; have hx00 := hx; have hr00 := hr; have hb00 := hb
        have z1 := (hg00.cell 1).trans rfl
        have z2 := (hx00.cell 4).trans rfl
        have H3g := Lib.hid hg00; have H3x := Lib.hid hx00; have H3r := Lib.hid hr00; have H3b := Lib.hid hb00
        clear hg00 hx00 hr00 hb00
        go_wp2_with fail
        refine (until23_any year 1 (1 + D20) _).mono ?_
        rintro e W103 ⟨rfl, hc⟩
        have h4g := H3g.out.below hc H3g.out.lt; have h4x := H3x.out.below hc H3x.out.lt; have h4r := H3r.out.below hc H3r.out.lt; have h4b := H3b.out.trans (hc.mono H3b.out.size)
        clear hc H3g H3x H3r H3b z1 z2
        have z5 := (h4g.cell 5).trans rfl
        have z6 := h4g.frozen 5
        have z7 := (h4g.cell 6).trans rfl
        have z8 := h4g.frozen 6
        have z9 := (h4g.cell 7).trans rfl
        have z10 := h4g.frozen 7
        have z11 := (h4g.cell 8).trans rfl
        have z12 := h4g.frozen 8
        have z13 := (h4g.cell 9).trans rfl
        have z14 := h4g.frozen 9
        have z15 := (h4g.cell 10).trans rfl
        have z16 := h4g.frozen 10
        have z17 := (h4g.cell 11).trans rfl
        have z18 := h4g.frozen 11
        have z19 := (h4g.cell 12).trans rfl
        have z20 := h4g.frozen 12
        have h21g : Blk _ g 47 #[.int .i64 (900 * O), .int .i64 0, .int .i64 0, .string ⟨#[]⟩, .string S, .bool true, .int .i64 0, .int .i64 0, .int .i64 0, .int .i64 0, .int .i64 0, .int .i64 0, .int .i64 0] := h4g.set_ 5 (.bool true)
        have h21x := h4x.far (p := ⟨g, 5, none⟩) (by show _ ≠ g; omega) (.bool true)
        have h21r := h4r.far (p := ⟨g, 5, none⟩) (by show _ ≠ g; omega) (.bool true)
        have h21b := h4b.setCell (p := ⟨g, 5, none⟩) (by show w.heap.size ≤ g; omega) (.bool true)
        have h22g : Blk _ g 47 #[.int .i64 (900 * O), .int .i64 0, .int .i64 0, .string ⟨#[]⟩, .string S, .bool true, .int .i64 year, .int .i64 0, .int .i64 0, .int .i64 0, .int .i64 0, .int .i64 0, .int .i64 0] := h21g.set_ 6 (.int .i64 year)
        have h22x := h21x.far (p := ⟨g, 6, none⟩) (by show _ ≠ g; omega) (.int .i64 year)
        have h22r := h21r.far (p := ⟨g, 6, none⟩) (by show _ ≠ g; omega) (.int .i64 year)
        have h22b := h21b.setCell (p := ⟨g, 6, none⟩) (by show w.heap.size ≤ g; omega) (.int .i64 year)
        have h23g : Blk _ g 47 #[.int .i64 (900 * O), .int .i64 0, .int .i64 0, .string ⟨#[]⟩, .string S, .bool true, .int .i64 year, .int .i64 1, .int .i64 0, .int .i64 0, .int .i64 0, .int .i64 0, .int .i64 0] := h22g.set_ 7 (.int .i64 1)
        have h23x := h22x.far (p := ⟨g, 7, none⟩) (by show _ ≠ g; omega) (.int .i64 1)
        have h23r := h22r.far (p := ⟨g, 7, none⟩) (by show _ ≠ g; omega) (.int .i64 1)
        have h23b := h22b.setCell (p := ⟨g, 7, none⟩) (by show w.heap.size ≤ g; omega) (.int .i64 1)
        have h24g : Blk _ g 47 #[.int .i64 (900 * O), .int .i64 0, .int .i64 0, .string ⟨#[]⟩, .string S, .bool true, .int .i64 year, .int .i64 1, .int .i64 1, .int .i64 0, .int .i64 0, .int .i64 0, .int .i64 0] := h23g.set_ 8 (.int .i64 1)
        have h24x := h23x.far (p := ⟨g, 8, none⟩) (by show _ ≠ g; omega) (.int .i64 1)
        have h24r := h23r.far (p := ⟨g, 8, none⟩) (by show _ ≠ g; omega) (.int .i64 1)
        have h24b := h23b.setCell (p := ⟨g, 8, none⟩) (by show w.heap.size ≤ g; omega) (.int .i64 1)
        have h25g : Blk _ g 47 #[.int .i64 (900 * O), .int .i64 0, .int .i64 0, .string ⟨#[]⟩, .string S, .bool true, .int .i64 year, .int .i64 1, .int .i64 1, .int .i64 0, .int .i64 0, .int .i64 0, .int .i64 0] := h24g.set_ 9 (.int .i64 0)
        have h25x := h24x.far (p := ⟨g, 9, none⟩) (by show _ ≠ g; omega) (.int .i64 0)
        have h25r := h24r.far (p := ⟨g, 9, none⟩) (by show _ ≠ g; omega) (.int .i64 0)
        have h25b := h24b.setCell (p := ⟨g, 9, none⟩) (by show w.heap.size ≤ g; omega) (.int .i64 0)
        have h26g : Blk _ g 47 #[.int .i64 (900 * O), .int .i64 0, .int .i64 0, .string ⟨#[]⟩, .string S, .bool true, .int .i64 year, .int .i64 1, .int .i64 1, .int .i64 0, .int .i64 (1 + D20), .int .i64 0, .int .i64 0] := h25g.set_ 10 (.int .i64 (1 + D20))
        have h26x := h25x.far (p := ⟨g, 10, none⟩) (by show _ ≠ g; omega) (.int .i64 (1 + D20))
        have h26r := h25r.far (p := ⟨g, 10, none⟩) (by show _ ≠ g; omega) (.int .i64 (1 + D20))
        have h26b := h25b.setCell (p := ⟨g, 10, none⟩) (by show w.heap.size ≤ g; omega) (.int .i64 (1 + D20))
        have h27g : Blk _ g 47 #[.int .i64 (900 * O), .int .i64 0, .int .i64 0, .string ⟨#[]⟩, .string S, .bool true, .int .i64 year, .int .i64 1, .int .i64 1, .int .i64 0, .int .i64 (1 + D20), .int .i64 0, .int .i64 0] := h26g.set_ 11 (.int .i64 0)
        have h27x := h26x.far (p := ⟨g, 11, none⟩) (by show _ ≠ g; omega) (.int .i64 0)
        have h27r := h26r.far (p := ⟨g, 11, none⟩) (by show _ ≠ g; omega) (.int .i64 0)
        have h27b := h26b.setCell (p := ⟨g, 11, none⟩) (by show w.heap.size ≤ g; omega) (.int .i64 0)
        have h28g : Blk _ g 47 #[.int .i64 (900 * O), .int .i64 0, .int .i64 0, .string ⟨#[]⟩, .string S, .bool true, .int .i64 year, .int .i64 1, .int .i64 1, .int .i64 0, .int .i64 (1 + D20), .int .i64 0, .int .i64 0] := h27g.set_ 12 (.int .i64 0)
        have h28x := h27x.far (p := ⟨g, 12, none⟩) (by show _ ≠ g; omega) (.int .i64 0)
        have h28r := h27r.far (p := ⟨g, 12, none⟩) (by show _ ≠ g; omega) (.int .i64 0)
        have h28b := h27b.setCell (p := ⟨g, 12, none⟩) (by show w.heap.size ≤ g; omega) (.int .i64 0)
        have z29 := (h28x.cell 4).trans rfl
        have HT := Lib.hid (And.intro hD7 (And.intro hA24 hB3))
        clear hO hS4 hD20 hD7 hA24 hB3 hkN
        have hday2 : d.day < 200 := by omega
        have hday3 : decide (200 ≤ d.day) = false := decide_eq_false (by omega)
        go_upto_region 13 with fail
        obtain ⟨hD7, hA24, hB3⟩ := HT.out
        have z30 := (h28x.cell 7).trans rfl
        have z31 := (h28x.cell 5).trans rfl
        have z32 := (h28g.cell 11).trans rfl
        have z33 := h28g.frozen 11
        have z34 := (h28g.cell 12).trans rfl
        have z35 := h28g.frozen 12
        have h36g : Blk _ g 47 #[.int .i64 (900 * O), .int .i64 0, .int .i64 0, .string ⟨#[]⟩, .string S, .bool true, .int .i64 year, .int .i64 1, .int .i64 1, .int .i64 0, .int .i64 (1 + D20), .int .i64 (900 * (24 + A24)), .int .i64 0] := h28g.set_ 11 (.int .i64 (900 * (24 + A24)))
        have h36x := h28x.far (p := ⟨g, 11, none⟩) (by show _ ≠ g; omega) (.int .i64 (900 * (24 + A24)))
        have h36r := h28r.far (p := ⟨g, 11, none⟩) (by show _ ≠ g; omega) (.int .i64 (900 * (24 + A24)))
        have h36b := h28b.setCell (p := ⟨g, 11, none⟩) (by show w.heap.size ≤ g; omega) (.int .i64 (900 * (24 + A24)))
        have h37g : Blk _ g 47 #[.int .i64 (900 * O), .int .i64 0, .int .i64 0, .string ⟨#[]⟩, .string S, .bool true, .int .i64 year, .int .i64 1, .int .i64 1, .int .i64 0, .int .i64 (1 + D20), .int .i64 (900 * (24 + A24)), .int .i64 B3] := h36g.set_ 12 (.int .i64 B3)
        have h37x := h36x.far (p := ⟨g, 12, none⟩) (by show _ ≠ g; omega) (.int .i64 B3)
        have h37r := h36r.far (p := ⟨g, 12, none⟩) (by show _ ≠ g; omega) (.int .i64 B3)
        have h37b := h36b.setCell (p := ⟨g, 12, none⟩) (by show w.heap.size ≤ g; omega) (.int .i64 B3)
        have z38 := (h37g.cell 0).trans rfl
        have z39 := (h37g.cell 1).trans rfl
        have z40 := (h37g.cell 2).trans rfl
        have z41 := (h37g.cell 3).trans rfl
        have z42 := (h37g.cell 4).trans rfl
        have z43 := (h37g.cell 5).trans rfl
        have z44 := (h37g.cell 6).trans rfl
        have z45 := (h37g.cell 7).trans rfl
        have z46 := (h37g.cell 8).trans rfl
        have z47 := (h37g.cell 9).trans rfl
        have z48 := (h37g.cell 10).trans rfl
        have z49 := (h37g.cell 11).trans rfl
        have z50 := (h37g.cell 12).trans rfl
        have z51 := (h37r.cell 0).trans rfl
        have z52 := h37r.frozen 0
        have z53 := (h37r.cell 1).trans rfl
        have z54 := h37r.frozen 1
        have z55 := (h37r.cell 2).trans rfl
        have z56 := h37r.frozen 2
        have z57 := (h37r.cell 3).trans rfl
        have z58 := h37r.frozen 3
        have z59 := (h37r.cell 4).trans rfl
        have z60 := h37r.frozen 4
        have z61 := (h37r.cell 5).trans rfl
        have z62 := h37r.frozen 5
        have z63 := (h37r.cell 6).trans rfl
        have z64 := h37r.frozen 6
        have z65 := (h37r.cell 7).trans rfl
        have z66 := h37r.frozen 7
        have z67 := (h37r.cell 8).trans rfl
        have z68 := h37r.frozen 8
        have z69 := (h37r.cell 9).trans rfl
        have z70 := h37r.frozen 9
        have z71 := (h37r.cell 10).trans rfl
        have z72 := h37r.frozen 10
        have z73 := (h37r.cell 11).trans rfl
        have z74 := h37r.frozen 11
        have z75 := (h37r.cell 12).trans rfl
        have z76 := h37r.frozen 12
        have t770 : Blk _ (w.heap.size + 1) 47 #[.int .i64 (900 * O), .int .i64 0, .int .i64 0, .string ⟨#[]⟩, .string ⟨#[]⟩, .bool false, .int .i64 0, .int .i64 0, .int .i64 0, .int .i64 0, .int .i64 0, .int .i64 0, .int .i64 0] := h37r.set_ 0 (.int .i64 (900 * O))
        have t771 : Blk _ (w.heap.size + 1) 47 #[.int .i64 (900 * O), .int .i64 0, .int .i64 0, .string ⟨#[]⟩, .string ⟨#[]⟩, .bool false, .int .i64 0, .int .i64 0, .int .i64 0, .int .i64 0, .int .i64 0, .int .i64 0, .int .i64 0] := t770.set_ 1 (.int .i64 0)
        have t772 : Blk _ (w.heap.size + 1) 47 #[.int .i64 (900 * O), .int .i64 0, .int .i64 0, .string ⟨#[]⟩, .string ⟨#[]⟩, .bool false, .int .i64 0, .int .i64 0, .int .i64 0, .int .i64 0, .int .i64 0, .int .i64 0, .int .i64 0] := t771.set_ 2 (.int .i64 0)
        have t773 : Blk _ (w.heap.size + 1) 47 #[.int .i64 (900 * O), .int .i64 0, .int .i64 0, .string ⟨#[]⟩, .string ⟨#[]⟩, .bool false, .int .i64 0, .int .i64 0, .int .i64 0, .int .i64 0, .int .i64 0, .int .i64 0, .int .i64 0] := t772.set_ 3 (.string ⟨#[]⟩)
        have t774 : Blk _ (w.heap.size + 1) 47 #[.int .i64 (900 * O), .int .i64 0, .int .i64 0, .string ⟨#[]⟩, .string S, .bool false, .int .i64 0, .int .i64 0, .int .i64 0, .int .i64 0, .int .i64 0, .int .i64 0, .int .i64 0] := t773.set_ 4 (.string S)
        have t775 : Blk _ (w.heap.size + 1) 47 #[.int .i64 (900 * O), .int .i64 0, .int .i64 0, .string ⟨#[]⟩, .string S, .bool true, .int .i64 0, .int .i64 0, .int .i64 0, .int .i64 0, .int .i64 0, .int .i64 0, .int .i64 0] := t774.set_ 5 (.bool true)
        have t776 : Blk _ (w.heap.size + 1) 47 #[.int .i64 (900 * O), .int .i64 0, .int .i64 0, .string ⟨#[]⟩, .string S, .bool true, .int .i64 year, .int .i64 0, .int .i64 0, .int .i64 0, .int .i64 0, .int .i64 0, .int .i64 0] := t775.set_ 6 (.int .i64 year)
        have t777 : Blk _ (w.heap.size + 1) 47 #[.int .i64 (900 * O), .int .i64 0, .int .i64 0, .string ⟨#[]⟩, .string S, .bool true, .int .i64 year, .int .i64 1, .int .i64 0, .int .i64 0, .int .i64 0, .int .i64 0, .int .i64 0] := t776.set_ 7 (.int .i64 1)
        have t778 : Blk _ (w.heap.size + 1) 47 #[.int .i64 (900 * O), .int .i64 0, .int .i64 0, .string ⟨#[]⟩, .string S, .bool true, .int .i64 year, .int .i64 1, .int .i64 1, .int .i64 0, .int .i64 0, .int .i64 0, .int .i64 0] := t777.set_ 8 (.int .i64 1)
        have t779 : Blk _ (w.heap.size + 1) 47 #[.int .i64 (900 * O), .int .i64 0, .int .i64 0, .string ⟨#[]⟩, .string S, .bool true, .int .i64 year, .int .i64 1, .int .i64 1, .int .i64 0, .int .i64 0, .int .i64 0, .int .i64 0] := t778.set_ 9 (.int .i64 0)
        have t7710 : Blk _ (w.heap.size + 1) 47 #[.int .i64 (900 * O), .int .i64 0, .int .i64 0, .string ⟨#[]⟩, .string S, .bool true, .int .i64 year, .int .i64 1, .int .i64 1, .int .i64 0, .int .i64 (1 + D20), .int .i64 0, .int .i64 0] := t779.set_ 10 (.int .i64 (1 + D20))
        have t7711 : Blk _ (w.heap.size + 1) 47 #[.int .i64 (900 * O), .int .i64 0, .int .i64 0, .string ⟨#[]⟩, .string S, .bool true, .int .i64 year, .int .i64 1, .int .i64 1, .int .i64 0, .int .i64 (1 + D20), .int .i64 (900 * (24 + A24)), .int .i64 0] := t7710.set_ 11 (.int .i64 (900 * (24 + A24)))
        have t7712 : Blk _ (w.heap.size + 1) 47 #[.int .i64 (900 * O), .int .i64 0, .int .i64 0, .string ⟨#[]⟩, .string S, .bool true, .int .i64 year, .int .i64 1, .int .i64 1, .int .i64 0, .int .i64 (1 + D20), .int .i64 (900 * (24 + A24)), .int .i64 B3] := t7711.set_ 12 (.int .i64 B3)
        have kk0 := (t7712.cell 0).trans rfl
        have kk1 := (t7712.cell 1).trans rfl
        have kk2 := (t7712.cell 2).trans rfl
        have kk3 := (t7712.cell 3).trans rfl
        have kk4 := (t7712.cell 4).trans rfl
        have kk5 := (t7712.cell 5).trans rfl
        have kk6 := (t7712.cell 6).trans rfl
        have kk7 := (t7712.cell 7).trans rfl
        have kk8 := (t7712.cell 8).trans rfl
        have kk9 := (t7712.cell 9).trans rfl
        have kk10 := (t7712.cell 10).trans rfl
        have kk11 := (t7712.cell 11).trans rfl
        have kk12 := (t7712.cell 12).trans rfl
        have HBF := Lib.hid (((((((((((((h37b.setCell (p := ⟨w.heap.size + 1, 0, none⟩) (Nat.le_succ _) (.int .i64 (900 * O))).setCell (p := ⟨w.heap.size + 1, 1, none⟩) (Nat.le_succ _) (.int .i64 0)).setCell (p := ⟨w.heap.size + 1, 2, none⟩) (Nat.le_succ _) (.int .i64 0)).setCell (p := ⟨w.heap.size + 1, 3, none⟩) (Nat.le_succ _) (.string ⟨#[]⟩)).setCell (p := ⟨w.heap.size + 1, 4, none⟩) (Nat.le_succ _) (.string S)).setCell (p := ⟨w.heap.size + 1, 5, none⟩) (Nat.le_succ _) (.bool true)).setCell (p := ⟨w.heap.size + 1, 6, none⟩) (Nat.le_succ _) (.int .i64 year)).setCell (p := ⟨w.heap.size + 1, 7, none⟩) (Nat.le_succ _) (.int .i64 1)).setCell (p := ⟨w.heap.size + 1, 8, none⟩) (Nat.le_succ _) (.int .i64 1)).setCell (p := ⟨w.heap.size + 1, 9, none⟩) (Nat.le_succ _) (.int .i64 0)).setCell (p := ⟨w.heap.size + 1, 10, none⟩) (Nat.le_succ _) (.int .i64 (1 + D20))).setCell (p := ⟨w.heap.size + 1, 11, none⟩) (Nat.le_succ _) (.int .i64 (900 * (24 + A24)))).setCell (p := ⟨w.heap.size + 1, 12, none⟩) (Nat.le_succ _) (.int .i64 B3))
        clear t770 t771 t772 t773 t774 t775 t776 t777 t778 t779 t7710 t7711 t7712
        have H78g := Lib.hid h37g; have H78x := Lib.hid h37x; have H78r := Lib.hid h37r; have H78b := Lib.hid h37b
        clear h4g h4x h4r h4b h21g h21x h21r h21b h22g h22x h22r h22b h23g h23x h23r h23b h24g h24x h24r h24b h25g h25x h25r h25b h26g h26x h26r h26b h27g h27x h27r h27b h28g h28x h28r h28b h36g h36x h36r h36b h37g h37x h37r h37b
        go_wp2_with fail
        refine bodyPost_ret (v := .agg #[.int .i64 (900 * O), .int .i64 0, .int .i64 0, .string ⟨#[]⟩, .string S, .bool true, .int .i64 year, .int .i64 1, .int .i64 1, .int .i64 0, .int .i64 (1 + D20), .int .i64 (900 * (24 + A24)), .int .i64 B3]) (by simp [results, Tryd.results46, go_sem, kk0, kk1, kk2, kk3, kk4, kk5, kk6, kk7, kk8, kk9, kk10, kk11, kk12]) rfl ?_
        exact ⟨⟨(900 * O), 0, 0, ⟨#[]⟩, S, true, year, 1, 1, 0, (1 + D20), (900 * (24 + A24)), B3⟩, rfl, ⟨(by show -42300 ≤ 900 * O ∧ 900 * O ≤ 42300; have := BO.out; omega), .inl rfl, hf, (show (0 : Int) ≤ 0 ∧ (0 : Int) ≤ 7200 by decide), fun h => by cases h⟩, HBF.out⟩
    · by_cases hday : 200 ≤ d.day
      · skip
        have hg00 := hbg; have hx00 := hx; have hr00 := hr; have hb00 := hb
        have z1 := (hg00.cell 1).trans rfl
        have z2 := (hg00.cell 1).trans rfl
        have z3 := (hx00.cell 4).trans rfl
        have H4g := Lib.hid hg00; have H4x := Lib.hid hx00; have H4r := Lib.hid hr00; have H4b := Lib.hid hb00
        clear hg00 hx00 hr00 hb00
        go_wp2_with fail
        refine (until23_any year 1 (1 + D20) _).mono ?_
        rintro e W104 ⟨rfl, hc⟩
        have h5g := H4g.out.below hc H4g.out.lt; have h5x := H4x.out.below hc H4x.out.lt; have h5r := H4r.out.below hc H4r.out.lt; have h5b := H4b.out.trans (hc.mono H4b.out.size)
        clear hc H4g H4x H4r H4b z1 z2 z3
        have z6 := (h5g.cell 5).trans rfl
        have z7 := h5g.frozen 5
        have z8 := (h5g.cell 6).trans rfl
        have z9 := h5g.frozen 6
        have z10 := (h5g.cell 7).trans rfl
        have z11 := h5g.frozen 7
        have z12 := (h5g.cell 8).trans rfl
        have z13 := h5g.frozen 8
        have z14 := (h5g.cell 9).trans rfl
        have z15 := h5g.frozen 9
        have z16 := (h5g.cell 10).trans rfl
        have z17 := h5g.frozen 10
        have z18 := (h5g.cell 11).trans rfl
        have z19 := h5g.frozen 11
        have z20 := (h5g.cell 12).trans rfl
        have z21 := h5g.frozen 12
        have h22g : Blk _ g 47 #[.int .i64 (900 * O), .int .i64 0, .int .i64 0, .string ⟨#[]⟩, .string S, .bool true, .int .i64 0, .int .i64 0, .int .i64 0, .int .i64 0, .int .i64 0, .int .i64 0, .int .i64 0] := h5g.set_ 5 (.bool true)
        have h22x := h5x.far (p := ⟨g, 5, none⟩) (by show _ ≠ g; omega) (.bool true)
        have h22r := h5r.far (p := ⟨g, 5, none⟩) (by show _ ≠ g; omega) (.bool true)
        have h22b := h5b.setCell (p := ⟨g, 5, none⟩) (by show w.heap.size ≤ g; omega) (.bool true)
        have h23g : Blk _ g 47 #[.int .i64 (900 * O), .int .i64 0, .int .i64 0, .string ⟨#[]⟩, .string S, .bool true, .int .i64 year, .int .i64 0, .int .i64 0, .int .i64 0, .int .i64 0, .int .i64 0, .int .i64 0] := h22g.set_ 6 (.int .i64 year)
        have h23x := h22x.far (p := ⟨g, 6, none⟩) (by show _ ≠ g; omega) (.int .i64 year)
        have h23r := h22r.far (p := ⟨g, 6, none⟩) (by show _ ≠ g; omega) (.int .i64 year)
        have h23b := h22b.setCell (p := ⟨g, 6, none⟩) (by show w.heap.size ≤ g; omega) (.int .i64 year)
        have h24g : Blk _ g 47 #[.int .i64 (900 * O), .int .i64 0, .int .i64 0, .string ⟨#[]⟩, .string S, .bool true, .int .i64 year, .int .i64 1, .int .i64 0, .int .i64 0, .int .i64 0, .int .i64 0, .int .i64 0] := h23g.set_ 7 (.int .i64 1)
        have h24x := h23x.far (p := ⟨g, 7, none⟩) (by show _ ≠ g; omega) (.int .i64 1)
        have h24r := h23r.far (p := ⟨g, 7, none⟩) (by show _ ≠ g; omega) (.int .i64 1)
        have h24b := h23b.setCell (p := ⟨g, 7, none⟩) (by show w.heap.size ≤ g; omega) (.int .i64 1)
        have h25g : Blk _ g 47 #[.int .i64 (900 * O), .int .i64 0, .int .i64 0, .string ⟨#[]⟩, .string S, .bool true, .int .i64 year, .int .i64 1, .int .i64 1, .int .i64 0, .int .i64 0, .int .i64 0, .int .i64 0] := h24g.set_ 8 (.int .i64 1)
        have h25x := h24x.far (p := ⟨g, 8, none⟩) (by show _ ≠ g; omega) (.int .i64 1)
        have h25r := h24r.far (p := ⟨g, 8, none⟩) (by show _ ≠ g; omega) (.int .i64 1)
        have h25b := h24b.setCell (p := ⟨g, 8, none⟩) (by show w.heap.size ≤ g; omega) (.int .i64 1)
        have h26g : Blk _ g 47 #[.int .i64 (900 * O), .int .i64 0, .int .i64 0, .string ⟨#[]⟩, .string S, .bool true, .int .i64 year, .int .i64 1, .int .i64 1, .int .i64 0, .int .i64 0, .int .i64 0, .int .i64 0] := h25g.set_ 9 (.int .i64 0)
        have h26x := h25x.far (p := ⟨g, 9, none⟩) (by show _ ≠ g; omega) (.int .i64 0)
        have h26r := h25r.far (p := ⟨g, 9, none⟩) (by show _ ≠ g; omega) (.int .i64 0)
        have h26b := h25b.setCell (p := ⟨g, 9, none⟩) (by show w.heap.size ≤ g; omega) (.int .i64 0)
        have h27g : Blk _ g 47 #[.int .i64 (900 * O), .int .i64 0, .int .i64 0, .string ⟨#[]⟩, .string S, .bool true, .int .i64 year, .int .i64 1, .int .i64 1, .int .i64 0, .int .i64 (1 + D20), .int .i64 0, .int .i64 0] := h26g.set_ 10 (.int .i64 (1 + D20))
        have h27x := h26x.far (p := ⟨g, 10, none⟩) (by show _ ≠ g; omega) (.int .i64 (1 + D20))
        have h27r := h26r.far (p := ⟨g, 10, none⟩) (by show _ ≠ g; omega) (.int .i64 (1 + D20))
        have h27b := h26b.setCell (p := ⟨g, 10, none⟩) (by show w.heap.size ≤ g; omega) (.int .i64 (1 + D20))
        have h28g : Blk _ g 47 #[.int .i64 (900 * O), .int .i64 0, .int .i64 0, .string ⟨#[]⟩, .string S, .bool true, .int .i64 year, .int .i64 1, .int .i64 1, .int .i64 0, .int .i64 (1 + D20), .int .i64 0, .int .i64 0] := h27g.set_ 11 (.int .i64 0)
        have h28x := h27x.far (p := ⟨g, 11, none⟩) (by show _ ≠ g; omega) (.int .i64 0)
        have h28r := h27r.far (p := ⟨g, 11, none⟩) (by show _ ≠ g; omega) (.int .i64 0)
        have h28b := h27b.setCell (p := ⟨g, 11, none⟩) (by show w.heap.size ≤ g; omega) (.int .i64 0)
        have h29g : Blk _ g 47 #[.int .i64 (900 * O), .int .i64 0, .int .i64 0, .string ⟨#[]⟩, .string S, .bool true, .int .i64 year, .int .i64 1, .int .i64 1, .int .i64 0, .int .i64 (1 + D20), .int .i64 0, .int .i64 0] := h28g.set_ 12 (.int .i64 0)
        have h29x := h28x.far (p := ⟨g, 12, none⟩) (by show _ ≠ g; omega) (.int .i64 0)
        have h29r := h28r.far (p := ⟨g, 12, none⟩) (by show _ ≠ g; omega) (.int .i64 0)
        have h29b := h28b.setCell (p := ⟨g, 12, none⟩) (by show w.heap.size ≤ g; omega) (.int .i64 0)
        have z30 := (h29x.cell 4).trans rfl
        have HT := Lib.hid (And.intro hD7 (And.intro hA24 hB3))
        clear hO hS4 hD20 hD7 hA24 hB3 hkN
        go_upto_region 12 with fail
        obtain ⟨hD7, hA24, hB3⟩ := HT.out
        have z31 := (h29g.cell 8).trans rfl
        have z32 := h29g.frozen 8
        have z33 := (h29g.cell 9).trans rfl
        have z34 := h29g.frozen 9
        have z35 := (h29g.cell 10).trans rfl
        have z36 := h29g.frozen 10
        have h37g : Blk _ g 47 #[.int .i64 (900 * O), .int .i64 0, .int .i64 0, .string ⟨#[]⟩, .string S, .bool true, .int .i64 year, .int .i64 1, .int .i64 3, .int .i64 0, .int .i64 (1 + D20), .int .i64 0, .int .i64 0] := h29g.set_ 8 (.int .i64 3)
        have h37x := h29x.far (p := ⟨g, 8, none⟩) (by show _ ≠ g; omega) (.int .i64 3)
        have h37r := h29r.far (p := ⟨g, 8, none⟩) (by show _ ≠ g; omega) (.int .i64 3)
        have h37b := h29b.setCell (p := ⟨g, 8, none⟩) (by show w.heap.size ≤ g; omega) (.int .i64 3)
        have h38g : Blk _ g 47 #[.int .i64 (900 * O), .int .i64 0, .int .i64 0, .string ⟨#[]⟩, .string S, .bool true, .int .i64 year, .int .i64 1, .int .i64 3, .int .i64 D7, .int .i64 (1 + D20), .int .i64 0, .int .i64 0] := h37g.set_ 9 (.int .i64 D7)
        have h38x := h37x.far (p := ⟨g, 9, none⟩) (by show _ ≠ g; omega) (.int .i64 D7)
        have h38r := h37r.far (p := ⟨g, 9, none⟩) (by show _ ≠ g; omega) (.int .i64 D7)
        have h38b := h37b.setCell (p := ⟨g, 9, none⟩) (by show w.heap.size ≤ g; omega) (.int .i64 D7)
        have h39g : Blk _ g 47 #[.int .i64 (900 * O), .int .i64 0, .int .i64 0, .string ⟨#[]⟩, .string S, .bool true, .int .i64 year, .int .i64 1, .int .i64 3, .int .i64 D7, .int .i64 8, .int .i64 0, .int .i64 0] := h38g.set_ 10 (.int .i64 8)
        have h39x := h38x.far (p := ⟨g, 10, none⟩) (by show _ ≠ g; omega) (.int .i64 8)
        have h39r := h38r.far (p := ⟨g, 10, none⟩) (by show _ ≠ g; omega) (.int .i64 8)
        have h39b := h38b.setCell (p := ⟨g, 10, none⟩) (by show w.heap.size ≤ g; omega) (.int .i64 8)
        have z40 := (h39x.cell 7).trans rfl
        have z41 := (h39x.cell 5).trans rfl
        have z42 := (h39g.cell 11).trans rfl
        have z43 := h39g.frozen 11
        have z44 := (h39g.cell 12).trans rfl
        have z45 := h39g.frozen 12
        have h46g : Blk _ g 47 #[.int .i64 (900 * O), .int .i64 0, .int .i64 0, .string ⟨#[]⟩, .string S, .bool true, .int .i64 year, .int .i64 1, .int .i64 3, .int .i64 D7, .int .i64 8, .int .i64 (900 * (24 + A24)), .int .i64 0] := h39g.set_ 11 (.int .i64 (900 * (24 + A24)))
        have h46x := h39x.far (p := ⟨g, 11, none⟩) (by show _ ≠ g; omega) (.int .i64 (900 * (24 + A24)))
        have h46r := h39r.far (p := ⟨g, 11, none⟩) (by show _ ≠ g; omega) (.int .i64 (900 * (24 + A24)))
        have h46b := h39b.setCell (p := ⟨g, 11, none⟩) (by show w.heap.size ≤ g; omega) (.int .i64 (900 * (24 + A24)))
        have h47g : Blk _ g 47 #[.int .i64 (900 * O), .int .i64 0, .int .i64 0, .string ⟨#[]⟩, .string S, .bool true, .int .i64 year, .int .i64 1, .int .i64 3, .int .i64 D7, .int .i64 8, .int .i64 (900 * (24 + A24)), .int .i64 B3] := h46g.set_ 12 (.int .i64 B3)
        have h47x := h46x.far (p := ⟨g, 12, none⟩) (by show _ ≠ g; omega) (.int .i64 B3)
        have h47r := h46r.far (p := ⟨g, 12, none⟩) (by show _ ≠ g; omega) (.int .i64 B3)
        have h47b := h46b.setCell (p := ⟨g, 12, none⟩) (by show w.heap.size ≤ g; omega) (.int .i64 B3)
        have z48 := (h47g.cell 0).trans rfl
        have z49 := (h47g.cell 1).trans rfl
        have z50 := (h47g.cell 2).trans rfl
        have z51 := (h47g.cell 3).trans rfl
        have z52 := (h47g.cell 4).trans rfl
        have z53 := (h47g.cell 5).trans rfl
        have z54 := (h47g.cell 6).trans rfl
        have z55 := (h47g.cell 7).trans rfl
        have z56 := (h47g.cell 8).trans rfl
        have z57 := (h47g.cell 9).trans rfl
        have z58 := (h47g.cell 10).trans rfl
        have z59 := (h47g.cell 11).trans rfl
        have z60 := (h47g.cell 12).trans rfl
        have z61 := (h47r.cell 0).trans rfl
        have z62 := h47r.frozen 0
        have z63 := (h47r.cell 1).trans rfl
        have z64 := h47r.frozen 1
        have z65 := (h47r.cell 2).trans rfl
        have z66 := h47r.frozen 2
        have z67 := (h47r.cell 3).trans rfl
        have z68 := h47r.frozen 3
        have z69 := (h47r.cell 4).trans rfl
        have z70 := h47r.frozen 4
        have z71 := (h47r.cell 5).trans rfl
        have z72 := h47r.frozen 5
        have z73 := (h47r.cell 6).trans rfl
        have z74 := h47r.frozen 6
        have z75 := (h47r.cell 7).trans rfl
        have z76 := h47r.frozen 7
        have z77 := (h47r.cell 8).trans rfl
        have z78 := h47r.frozen 8
        have z79 := (h47r.cell 9).trans rfl
        have z80 := h47r.frozen 9
        have z81 := (h47r.cell 10).trans rfl
        have z82 := h47r.frozen 10
        have z83 := (h47r.cell 11).trans rfl
        have z84 := h47r.frozen 11
        have z85 := (h47r.cell 12).trans rfl
        have z86 := h47r.frozen 12
        have t870 : Blk _ (w.heap.size + 1) 47 #[.int .i64 (900 * O), .int .i64 0, .int .i64 0, .string ⟨#[]⟩, .string ⟨#[]⟩, .bool false, .int .i64 0, .int .i64 0, .int .i64 0, .int .i64 0, .int .i64 0, .int .i64 0, .int .i64 0] := h47r.set_ 0 (.int .i64 (900 * O))
        have t871 : Blk _ (w.heap.size + 1) 47 #[.int .i64 (900 * O), .int .i64 0, .int .i64 0, .string ⟨#[]⟩, .string ⟨#[]⟩, .bool false, .int .i64 0, .int .i64 0, .int .i64 0, .int .i64 0, .int .i64 0, .int .i64 0, .int .i64 0] := t870.set_ 1 (.int .i64 0)
        have t872 : Blk _ (w.heap.size + 1) 47 #[.int .i64 (900 * O), .int .i64 0, .int .i64 0, .string ⟨#[]⟩, .string ⟨#[]⟩, .bool false, .int .i64 0, .int .i64 0, .int .i64 0, .int .i64 0, .int .i64 0, .int .i64 0, .int .i64 0] := t871.set_ 2 (.int .i64 0)
        have t873 : Blk _ (w.heap.size + 1) 47 #[.int .i64 (900 * O), .int .i64 0, .int .i64 0, .string ⟨#[]⟩, .string ⟨#[]⟩, .bool false, .int .i64 0, .int .i64 0, .int .i64 0, .int .i64 0, .int .i64 0, .int .i64 0, .int .i64 0] := t872.set_ 3 (.string ⟨#[]⟩)
        have t874 : Blk _ (w.heap.size + 1) 47 #[.int .i64 (900 * O), .int .i64 0, .int .i64 0, .string ⟨#[]⟩, .string S, .bool false, .int .i64 0, .int .i64 0, .int .i64 0, .int .i64 0, .int .i64 0, .int .i64 0, .int .i64 0] := t873.set_ 4 (.string S)
        have t875 : Blk _ (w.heap.size + 1) 47 #[.int .i64 (900 * O), .int .i64 0, .int .i64 0, .string ⟨#[]⟩, .string S, .bool true, .int .i64 0, .int .i64 0, .int .i64 0, .int .i64 0, .int .i64 0, .int .i64 0, .int .i64 0] := t874.set_ 5 (.bool true)
        have t876 : Blk _ (w.heap.size + 1) 47 #[.int .i64 (900 * O), .int .i64 0, .int .i64 0, .string ⟨#[]⟩, .string S, .bool true, .int .i64 year, .int .i64 0, .int .i64 0, .int .i64 0, .int .i64 0, .int .i64 0, .int .i64 0] := t875.set_ 6 (.int .i64 year)
        have t877 : Blk _ (w.heap.size + 1) 47 #[.int .i64 (900 * O), .int .i64 0, .int .i64 0, .string ⟨#[]⟩, .string S, .bool true, .int .i64 year, .int .i64 1, .int .i64 0, .int .i64 0, .int .i64 0, .int .i64 0, .int .i64 0] := t876.set_ 7 (.int .i64 1)
        have t878 : Blk _ (w.heap.size + 1) 47 #[.int .i64 (900 * O), .int .i64 0, .int .i64 0, .string ⟨#[]⟩, .string S, .bool true, .int .i64 year, .int .i64 1, .int .i64 3, .int .i64 0, .int .i64 0, .int .i64 0, .int .i64 0] := t877.set_ 8 (.int .i64 3)
        have t879 : Blk _ (w.heap.size + 1) 47 #[.int .i64 (900 * O), .int .i64 0, .int .i64 0, .string ⟨#[]⟩, .string S, .bool true, .int .i64 year, .int .i64 1, .int .i64 3, .int .i64 D7, .int .i64 0, .int .i64 0, .int .i64 0] := t878.set_ 9 (.int .i64 D7)
        have t8710 : Blk _ (w.heap.size + 1) 47 #[.int .i64 (900 * O), .int .i64 0, .int .i64 0, .string ⟨#[]⟩, .string S, .bool true, .int .i64 year, .int .i64 1, .int .i64 3, .int .i64 D7, .int .i64 8, .int .i64 0, .int .i64 0] := t879.set_ 10 (.int .i64 8)
        have t8711 : Blk _ (w.heap.size + 1) 47 #[.int .i64 (900 * O), .int .i64 0, .int .i64 0, .string ⟨#[]⟩, .string S, .bool true, .int .i64 year, .int .i64 1, .int .i64 3, .int .i64 D7, .int .i64 8, .int .i64 (900 * (24 + A24)), .int .i64 0] := t8710.set_ 11 (.int .i64 (900 * (24 + A24)))
        have t8712 : Blk _ (w.heap.size + 1) 47 #[.int .i64 (900 * O), .int .i64 0, .int .i64 0, .string ⟨#[]⟩, .string S, .bool true, .int .i64 year, .int .i64 1, .int .i64 3, .int .i64 D7, .int .i64 8, .int .i64 (900 * (24 + A24)), .int .i64 B3] := t8711.set_ 12 (.int .i64 B3)
        have kk0 := (t8712.cell 0).trans rfl
        have kk1 := (t8712.cell 1).trans rfl
        have kk2 := (t8712.cell 2).trans rfl
        have kk3 := (t8712.cell 3).trans rfl
        have kk4 := (t8712.cell 4).trans rfl
        have kk5 := (t8712.cell 5).trans rfl
        have kk6 := (t8712.cell 6).trans rfl
        have kk7 := (t8712.cell 7).trans rfl
        have kk8 := (t8712.cell 8).trans rfl
        have kk9 := (t8712.cell 9).trans rfl
        have kk10 := (t8712.cell 10).trans rfl
        have kk11 := (t8712.cell 11).trans rfl
        have kk12 := (t8712.cell 12).trans rfl
        have HBF := Lib.hid (((((((((((((h47b.setCell (p := ⟨w.heap.size + 1, 0, none⟩) (Nat.le_succ _) (.int .i64 (900 * O))).setCell (p := ⟨w.heap.size + 1, 1, none⟩) (Nat.le_succ _) (.int .i64 0)).setCell (p := ⟨w.heap.size + 1, 2, none⟩) (Nat.le_succ _) (.int .i64 0)).setCell (p := ⟨w.heap.size + 1, 3, none⟩) (Nat.le_succ _) (.string ⟨#[]⟩)).setCell (p := ⟨w.heap.size + 1, 4, none⟩) (Nat.le_succ _) (.string S)).setCell (p := ⟨w.heap.size + 1, 5, none⟩) (Nat.le_succ _) (.bool true)).setCell (p := ⟨w.heap.size + 1, 6, none⟩) (Nat.le_succ _) (.int .i64 year)).setCell (p := ⟨w.heap.size + 1, 7, none⟩) (Nat.le_succ _) (.int .i64 1)).setCell (p := ⟨w.heap.size + 1, 8, none⟩) (Nat.le_succ _) (.int .i64 3)).setCell (p := ⟨w.heap.size + 1, 9, none⟩) (Nat.le_succ _) (.int .i64 D7)).setCell (p := ⟨w.heap.size + 1, 10, none⟩) (Nat.le_succ _) (.int .i64 8)).setCell (p := ⟨w.heap.size + 1, 11, none⟩) (Nat.le_succ _) (.int .i64 (900 * (24 + A24)))).setCell (p := ⟨w.heap.size + 1, 12, none⟩) (Nat.le_succ _) (.int .i64 B3))
        clear t870 t871 t872 t873 t874 t875 t876 t877 t878 t879 t8710 t8711 t8712
        have H88g := Lib.hid h47g; have H88x := Lib.hid h47x; have H88r := Lib.hid h47r; have H88b := Lib.hid h47b
        clear h5g h5x h5r h5b h22g h22x h22r h22b h23g h23x h23r h23b h24g h24x h24r h24b h25g h25x h25r h25b h26g h26x h26r h26b h27g h27x h27r h27b h28g h28x h28r h28b h29g h29x h29r h29b h37g h37x h37r h37b h38g h38x h38r h38b h39g h39x h39r h39b h46g h46x h46r h46b h47g h47x h47r h47b
        go_wp2_with fail
        refine bodyPost_ret (v := .agg #[.int .i64 (900 * O), .int .i64 0, .int .i64 0, .string ⟨#[]⟩, .string S, .bool true, .int .i64 year, .int .i64 1, .int .i64 3, .int .i64 D7, .int .i64 8, .int .i64 (900 * (24 + A24)), .int .i64 B3]) (by simp [results, Tryd.results46, go_sem, kk0, kk1, kk2, kk3, kk4, kk5, kk6, kk7, kk8, kk9, kk10, kk11, kk12]) rfl ?_
        exact ⟨⟨(900 * O), 0, 0, ⟨#[]⟩, S, true, year, 1, 3, D7, 8, (900 * (24 + A24)), B3⟩, rfl, ⟨(by show -42300 ≤ 900 * O ∧ 900 * O ≤ 42300; have := BO.out; omega), .inl rfl, hf, (show (0 : Int) ≤ 0 ∧ (0 : Int) ≤ 7200 by decide), fun h => by cases h⟩, HBF.out⟩
      · skip
        have hg00 := hbg; have hx00 := hx; have hr00 := hr; have hb00 := hb
        have z1 := (hg00.cell 1).trans rfl
        have z2 := (hg00.cell 1).trans rfl
        have z3 := (hx00.cell 4).trans rfl
        have H4g := Lib.hid hg00; have H4x := Lib.hid hx00; have H4r := Lib.hid hr00; have H4b := Lib.hid hb00
        clear hg00 hx00 hr00 hb00
        go_wp2_with fail
        refine (until23_any year 1 (1 + D20) _).mono ?_
        rintro e W104 ⟨rfl, hc⟩
        have h5g := H4g.out.below hc H4g.out.lt; have h5x := H4x.out.below hc H4x.out.lt; have h5r := H4r.out.below hc H4r.out.lt; have h5b := H4b.out.trans (hc.mono H4b.out.size)
        clear hc H4g H4x H4r H4b z1 z2 z3
        have z6 := (h5g.cell 5).trans rfl
        have z7 := h5g.frozen 5
        have z8 := (h5g.cell 6).trans rfl
        have z9 := h5g.frozen 6
        have z10 := (h5g.cell 7).trans rfl
        have z11 := h5g.frozen 7
        have z12 := (h5g.cell 8).trans rfl
        have z13 := h5g.frozen 8
        have z14 := (h5g.cell 9).trans rfl
        have z15 := h5g.frozen 9
        have z16 := (h5g.cell 10).trans rfl
        have z17 := h5g.frozen 10
        have z18 := (h5g.cell 11).trans rfl
        have z19 := h5g.frozen 11
        have z20 := (h5g.cell 12).trans rfl
        have z21 := h5g.frozen 12
        have h22g : Blk _ g 47 #[.int .i64 (900 * O), .int .i64 0, .int .i64 0, .string ⟨#[]⟩, .string S, .bool true, .int .i64 0, .int .i64 0, .int .i64 0, .int .i64 0, .int .i64 0, .int .i64 0, .int .i64 0] := h5g.set_ 5 (.bool true)
        have h22x := h5x.far (p := ⟨g, 5, none⟩) (by show _ ≠ g; omega) (.bool true)
        have h22r := h5r.far (p := ⟨g, 5, none⟩) (by show _ ≠ g; omega) (.bool true)
        have h22b := h5b.setCell (p := ⟨g, 5, none⟩) (by show w.heap.size ≤ g; omega) (.bool true)
        have h23g : Blk _ g 47 #[.int .i64 (900 * O), .int .i64 0, .int .i64 0, .string ⟨#[]⟩, .string S, .bool true, .int .i64 year, .int .i64 0, .int .i64 0, .int .i64 0, .int .i64 0, .int .i64 0, .int .i64 0] := h22g.set_ 6 (.int .i64 year)
        have h23x := h22x.far (p := ⟨g, 6, none⟩) (by show _ ≠ g; omega) (.int .i64 year)
        have h23r := h22r.far (p := ⟨g, 6, none⟩) (by show _ ≠ g; omega) (.int .i64 year)
        have h23b := h22b.setCell (p := ⟨g, 6, none⟩) (by show w.heap.size ≤ g; omega) (.int .i64 year)
        have h24g : Blk _ g 47 #[.int .i64 (900 * O), .int .i64 0, .int .i64 0, .string ⟨#[]⟩, .string S, .bool true, .int .i64 year, .int .i64 1, .int .i64 0, .int .i64 0, .int .i64 0, .int .i64 0, .int .i64 0] := h23g.set_ 7 (.int .i64 1)
        have h24x := h23x.far (p := ⟨g, 7, none⟩) (by show _ ≠ g; omega) (.int .i64 1)
        have h24r := h23r.far (p := ⟨g, 7, none⟩) (by show _ ≠ g; omega) (.int .i64 1)
        have h24b := h23b.setCell (p := ⟨g, 7, none⟩) (by show w.heap.size ≤ g; omega) (.int .i64 1)
        have h25g : Blk _ g 47 #[.int .i64 (900 * O), .int .i64 0, .int .i64 0, .string ⟨#[]⟩, .string S, .bool true, .int .i64 year, .int .i64 1, .int .i64 1, .int .i64 0, .int .i64 0, .int .i64 0, .int .i64 0] := h24g.set_ 8 (.int .i64 1)
        have h25x := h24x.far (p := ⟨g, 8, none⟩) (by show _ ≠ g; omega) (.int .i64 1)
        have h25r := h24r.far (p := ⟨g, 8, none⟩) (by show _ ≠ g; omega) (.int .i64 1)
        have h25b := h24b.setCell (p := ⟨g, 8, none⟩) (by show w.heap.size ≤ g; omega) (.int .i64 1)
        have h26g : Blk _ g 47 #[.int .i64 (900 * O), .int .i64 0, .int .i64 0, .string ⟨#[]⟩, .string S, .bool true, .int .i64 year, .int .i64 1, .int .i64 1, .int .i64 0, .int .i64 0, .int .i64 0, .int .i64 0] := h25g.set_ 9 (.int .i64 0)
        have h26x := h25x.far (p := ⟨g, 9, none⟩) (by show _ ≠ g; omega) (.int .i64 0)
        have h26r := h25r.far (p := ⟨g, 9, none⟩) (by show _ ≠ g; omega) (.int .i64 0)
        have h26b := h25b.setCell (p := ⟨g, 9, none⟩) (by show w.heap.size ≤ g; omega) (.int .i64 0)
        have h27g : Blk _ g 47 #[.int .i64 (900 * O), .int .i64 0, .int .i64 0, .string ⟨#[]⟩, .string S, .bool true, .int .i64 year, .int .i64 1, .int .i64 1, .int .i64 0, .int .i64 (1 + D20), .int .i64 0, .int .i64 0] := h26g.set_ 10 (.int .i64 (1 + D20))
        have h27x := h26x.far (p := ⟨g, 10, none⟩) (by show _ ≠ g; omega) (.int .i64 (1 + D20))
        have h27r := h26r.far (p := ⟨g, 10, none⟩) (by show _ ≠ g; omega) (.int .i64 (1 + D20))
        have h27b := h26b.setCell (p := ⟨g, 10, none⟩) (by show w.heap.size ≤ g; omega) (.int .i64 (1 + D20))
        have h28g : Blk _ g 47 #[.int .i64 (900 * O), .int .i64 0, .int .i64 0, .string ⟨#[]⟩, .string S, .bool true, .int .i64 year, .int .i64 1, .int .i64 1, .int .i64 0, .int .i64 (1 + D20), .int .i64 0, .int .i64 0] := h27g.set_ 11 (.int .i64 0)
        have h28x := h27x.far (p := ⟨g, 11, none⟩) (by show _ ≠ g; omega) (.int .i64 0)
        have h28r := h27r.far (p := ⟨g, 11, none⟩) (by show _ ≠ g; omega) (.int .i64 0)
        have h28b := h27b.setCell (p := ⟨g, 11, none⟩) (by show w.heap.size ≤ g; omega) (.int .i64 0)
        have h29g : Blk _ g 47 #[.int .i64 (900 * O), .int .i64 0, .int .i64 0, .string ⟨#[]⟩, .string S, .bool true, .int .i64 year, .int .i64 1, .int .i64 1, .int .i64 0, .int .i64 (1 + D20), .int .i64 0, .int .i64 0] := h28g.set_ 12 (.int .i64 0)
        have h29x := h28x.far (p := ⟨g, 12, none⟩) (by show _ ≠ g; omega) (.int .i64 0)
        have h29r := h28r.far (p := ⟨g, 12, none⟩) (by show _ ≠ g; omega) (.int .i64 0)
        have h29b := h28b.setCell (p := ⟨g, 12, none⟩) (by show w.heap.size ≤ g; omega) (.int .i64 0)
        have z30 := (h29x.cell 4).trans rfl
        have HT := Lib.hid (And.intro hD7 (And.intro hA24 hB3))
        clear hO hS4 hD20 hD7 hA24 hB3 hkN
        have hday2 : d.day < 200 := by omega
        have hday3 : decide (200 ≤ d.day) = false := decide_eq_false (by omega)
        go_upto_region 13 with fail
        obtain ⟨hD7, hA24, hB3⟩ := HT.out
        have z31 := (h29x.cell 7).trans rfl
        have z32 := (h29x.cell 5).trans rfl
        have z33 := (h29g.cell 11).trans rfl
        have z34 := h29g.frozen 11
        have z35 := (h29g.cell 12).trans rfl
        have z36 := h29g.frozen 12
        have h37g : Blk _ g 47 #[.int .i64 (900 * O), .int .i64 0, .int .i64 0, .string ⟨#[]⟩, .string S, .bool true, .int .i64 year, .int .i64 1, .int .i64 1, .int .i64 0, .int .i64 (1 + D20), .int .i64 (900 * (24 + A24)), .int .i64 0] := h29g.set_ 11 (.int .i64 (900 * (24 + A24)))
        have h37x := h29x.far (p := ⟨g, 11, none⟩) (by show _ ≠ g; omega) (.int .i64 (900 * (24 + A24)))
        have h37r := h29r.far (p := ⟨g, 11, none⟩) (by show _ ≠ g; omega) (.int .i64 (900 * (24 + A24)))
        have h37b := h29b.setCell (p := ⟨g, 11, none⟩) (by show w.heap.size ≤ g; omega) (.int .i64 (900 * (24 + A24)))
        have h38g : Blk _ g 47 #[.int .i64 (900 * O), .int .i64 0, .int .i64 0, .string ⟨#[]⟩, .string S, .bool true, .int .i64 year, .int .i64 1, .int .i64 1, .int .i64 0, .int .i64 (1 + D20), .int .i64 (900 * (24 + A24)), .int .i64 B3] := h37g.set_ 12 (.int .i64 B3)
        have h38x := h37x.far (p := ⟨g, 12, none⟩) (by show _ ≠ g; omega) (.int .i64 B3)
        have h38r := h37r.far (p := ⟨g, 12, none⟩) (by show _ ≠ g; omega) (.int .i64 B3)
        have h38b := h37b.setCell (p := ⟨g, 12, none⟩) (by show w.heap.size ≤ g; omega) (.int .i64 B3)
        have z39 := (h38g.cell 0).trans rfl
        have z40 := (h38g.cell 1).trans rfl
        have z41 := (h38g.cell 2).trans rfl
        have z42 := (h38g.cell 3).trans rfl
        have z43 := (h38g.cell 4).trans rfl
        have z44 := (h38g.cell 5).trans rfl
        have z45 := (h38g.cell 6).trans rfl
        have z46 := (h38g.cell 7).trans rfl
        have z47 := (h38g.cell 8).trans rfl
        have z48 := (h38g.cell 9).trans rfl
        have z49 := (h38g.cell 10).trans rfl
        have z50 := (h38g.cell 11).trans rfl
        have z51 := (h38g.cell 12).trans rfl
        have z52 := (h38r.cell 0).trans rfl
        have z53 := h38r.frozen 0
        have z54 := (h38r.cell 1).trans rfl
        have z55 := h38r.frozen 1
        have z56 := (h38r.cell 2).trans rfl
        have z57 := h38r.frozen 2
        have z58 := (h38r.cell 3).trans rfl
        have z59 := h38r.frozen 3
        have z60 := (h38r.cell 4).trans rfl
        have z61 := h38r.frozen 4
        have z62 := (h38r.cell 5).trans rfl
        have z63 := h38r.frozen 5
        have z64 := (h38r.cell 6).trans rfl
        have z65 := h38r.frozen 6
        have z66 := (h38r.cell 7).trans rfl
        have z67 := h38r.frozen 7
        have z68 := (h38r.cell 8).trans rfl
        have z69 := h38r.frozen 8
        have z70 := (h38r.cell 9).trans rfl
        have z71 := h38r.frozen 9
        have z72 := (h38r.cell 10).trans rfl
        have z73 := h38r.frozen 10
        have z74 := (h38r.cell 11).trans rfl
        have z75 := h38r.frozen 11
        have z76 := (h38r.cell 12).trans rfl
        have z77 := h38r.frozen 12
        have t780 : Blk _ (w.heap.size + 1) 47 #[.int .i64 (900 * O), .int .i64 0, .int .i64 0, .string ⟨#[]⟩, .string ⟨#[]⟩, .bool false, .int .i64 0, .int .i64 0, .int .i64 0, .int .i64 0, .int .i64 0, .int .i64 0, .int .i64 0] := h38r.set_ 0 (.int .i64 (900 * O))
        have t781 : Blk _ (w.heap.size + 1) 47 #[.int .i64 (900 * O), .int .i64 0, .int .i64 0, .string ⟨#[]⟩, .string ⟨#[]⟩, .bool false, .int .i64 0, .int .i64 0, .int .i64 0, .int .i64 0, .int .i64 0, .int .i64 0, .int .i64 0] := t780.set_ 1 (.int .i64 0)
        have t782 : Blk _ (w.heap.size + 1) 47 #[.int .i64 (900 * O), .int .i64 0, .int .i64 0, .string ⟨#[]⟩, .string ⟨#[]⟩, .bool false, .int .i64 0, .int .i64 0, .int .i64 0, .int .i64 0, .int .i64 0, .int .i64 0, .int .i64 0] := t781.set_ 2 (.int .i64 0)
        have t783 : Blk _ (w.heap.size + 1) 47 #[.int .i64 (900 * O), .int .i64 0, .int .i64 0, .string ⟨#[]⟩, .string ⟨#[]⟩, .bool false, .int .i64 0, .int .i64 0, .int .i64 0, .int .i64 0, .int .i64 0, .int .i64 0, .int .i64 0] := t782.set_ 3 (.string ⟨#[]⟩)
        have t784 : Blk _ (w.heap.size + 1) 47 #[.int .i64 (900 * O), .int .i64 0, .int .i64 0, .string ⟨#[]⟩, .string S, .bool false, .int .i64 0, .int .i64 0, .int .i64 0, .int .i64 0, .int .i64 0, .int .i64 0, .int .i64 0] := t783.set_ 4 (.string S)
        have t785 : Blk _ (w.heap.size + 1) 47 #[.int .i64 (900 * O), .int .i64 0, .int .i64 0, .string ⟨#[]⟩, .string S, .bool true, .int .i64 0, .int .i64 0, .int .i64 0, .int .i64 0, .int .i64 0, .int .i64 0, .int .i64 0] := t784.set_ 5 (.bool true)
        have t786 : Blk _ (w.heap.size + 1) 47 #[.int .i64 (900 * O), .int .i64 0, .int .i64 0, .string ⟨#[]⟩, .string S, .bool true, .int .i64 year, .int .i64 0, .int .i64 0, .int .i64 0, .int .i64 0, .int .i64 0, .int .i64 0] := t785.set_ 6 (.int .i64 year)
        have t787 : Blk _ (w.heap.size + 1) 47 #[.int .i64 (900 * O), .int .i64 0, .int .i64 0, .string ⟨#[]⟩, .string S, .bool true, .int .i64 year, .int .i64 1, .int .i64 0, .int .i64 0, .int .i64 0, .int .i64 0, .int .i64 0] := t786.set_ 7 (.int .i64 1)
        have t788 : Blk _ (w.heap.size + 1) 47 #[.int .i64 (900 * O), .int .i64 0, .int .i64 0, .string ⟨#[]⟩, .string S, .bool true, .int .i64 year, .int .i64 1, .int .i64 1, .int .i64 0, .int .i64 0, .int .i64 0, .int .i64 0] := t787.set_ 8 (.int .i64 1)
        have t789 : Blk _ (w.heap.size + 1) 47 #[.int .i64 (900 * O), .int .i64 0, .int .i64 0, .string ⟨#[]⟩, .string S, .bool true, .int .i64 year, .int .i64 1, .int .i64 1, .int .i64 0, .int .i64 0, .int .i64 0, .int .i64 0] := t788.set_ 9 (.int .i64 0)
        have t7810 : Blk _ (w.heap.size + 1) 47 #[.int .i64 (900 * O), .int .i64 0, .int .i64 0, .string ⟨#[]⟩, .string S, .bool true, .int .i64 year, .int .i64 1, .int .i64 1, .int .i64 0, .int .i64 (1 + D20), .int .i64 0, .int .i64 0] := t789.set_ 10 (.int .i64 (1 + D20))
        have t7811 : Blk _ (w.heap.size + 1) 47 #[.int .i64 (900 * O), .int .i64 0, .int .i64 0, .string ⟨#[]⟩, .string S, .bool true, .int .i64 year, .int .i64 1, .int .i64 1, .int .i64 0, .int .i64 (1 + D20), .int .i64 (900 * (24 + A24)), .int .i64 0] := t7810.set_ 11 (.int .i64 (900 * (24 + A24)))
        have t7812 : Blk _ (w.heap.size + 1) 47 #[.int .i64 (900 * O), .int .i64 0, .int .i64 0, .string ⟨#[]⟩, .string S, .bool true, .int .i64 year, .int .i64 1, .int .i64 1, .int .i64 0, .int .i64 (1 + D20), .int .i64 (900 * (24 + A24)), .int .i64 B3] := t7811.set_ 12 (.int .i64 B3)
        have kk0 := (t7812.cell 0).trans rfl
        have kk1 := (t7812.cell 1).trans rfl
        have kk2 := (t7812.cell 2).trans rfl
        have kk3 := (t7812.cell 3).trans rfl
        have kk4 := (t7812.cell 4).trans rfl
        have kk5 := (t7812.cell 5).trans rfl
        have kk6 := (t7812.cell 6).trans rfl
        have kk7 := (t7812.cell 7).trans rfl
        have kk8 := (t7812.cell 8).trans rfl
        have kk9 := (t7812.cell 9).trans rfl
        have kk10 := (t7812.cell 10).trans rfl
        have kk11 := (t7812.cell 11).trans rfl
        have kk12 := (t7812.cell 12).trans rfl
        have HBF := Lib.hid (((((((((((((h38b.setCell (p := ⟨w.heap.size + 1, 0, none⟩) (Nat.le_succ _) (.int .i64 (900 * O))).setCell (p := ⟨w.heap.size + 1, 1, none⟩) (Nat.le_succ _) (.int .i64 0)).setCell (p := ⟨w.heap.size + 1, 2, none⟩) (Nat.le_succ _) (.int .i64 0)).setCell (p := ⟨w.heap.size + 1, 3, none⟩) (Nat.le_succ _) (.string ⟨#[]⟩)).setCell (p := ⟨w.heap.size + 1, 4, none⟩) (Nat.le_succ _) (.string S)).setCell (p := ⟨w.heap.size + 1, 5, none⟩) (Nat.le_succ _) (.bool true)).setCell (p := ⟨w.heap.size + 1, 6, none⟩) (Nat.le_succ _) (.int .i64 year)).setCell (p := ⟨w.heap.size + 1, 7, none⟩) (Nat.le_succ _) (.int .i64 1)).setCell (p := ⟨w.heap.size + 1, 8, none⟩) (Nat.le_succ _) (.int .i64 1)).setCell (p := ⟨w.heap.size + 1, 9, none⟩) (Nat.le_succ _) (.int .i64 0)).setCell (p := ⟨w.heap.size + 1, 10, none⟩) (Nat.le_succ _) (.int .i64 (1 + D20))).setCell (p := ⟨w.heap.size + 1, 11, none⟩) (Nat.le_succ _) (.int .i64 (900 * (24 + A24)))).setCell (p := ⟨w.heap.size + 1, 12, none⟩) (Nat.le_succ _) (.int .i64 B3))
        clear t780 t781 t782 t783 t784 t785 t786 t787 t788 t789 t7810 t7811 t7812
        have H79g := Lib.hid h38g; have H79x := Lib.hid h38x; have H79r := Lib.hid h38r; have H79b := Lib.hid h38b
        clear h5g h5x h5r h5b h22g h22x h22r h22b h23g h23x h23r h23b h24g h24x h24r h24b h25g h25x h25r h25b h26g h26x h26r h26b h27g h27x h27r h27b h28g h28x h28r h28b h29g h29x h29r h29b h37g h37x h37r h37b h38g h38x h38r h38b
        go_wp2_with fail
        refine bodyPost_ret (v := .agg #[.int .i64 (900 * O), .int .i64 0, .int .i64 0, .string ⟨#[]⟩, .string S, .bool true, .int .i64 year, .int .i64 1, .int .i64 1, .int .i64 0, .int .i64 (1 + D20), .int .i64 (900 * (24 + A24)), .int .i64 B3]) (by simp [results, Tryd.results46, go_sem, kk0, kk1, kk2, kk3, kk4, kk5, kk6, kk7, kk8, kk9, kk10, kk11, kk12]) rfl ?_
        exact ⟨⟨(900 * O), 0, 0, ⟨#[]⟩, S, true, year, 1, 1, 0, (1 + D20), (900 * (24 + A24)), B3⟩, rfl, ⟨(by show -42300 ≤ 900 * O ∧ 900 * O ≤ 42300; have := BO.out; omega), .inl rfl, hf, (show (0 : Int) ≤ 0 ∧ (0 : Int) ≤ 7200 by decide), fun h => by cases h⟩, HBF.out⟩
  case hstep1 =>
    refine StepsOk.cons (StepOk.known rfl fun y W hS hd K' hK => ?_) ?_
    · skip
      clear hd
      go_simp
      exact hK.out _ _ rfl (GE.refl _) hS
    refine StepsOk.cons (StepOk.known rfl fun y W hS hd K' hK => ?_) ?_
    · skip
      have e12 : y 12 = .pointer (some ⟨w.heap.size, 6, none⟩) := (hd 0 rfl).val rfl rfl
      clear hd
      have hc := (hS.2.1.cell 6).trans rfl
      go_simp
      exact hK.out _ _ (by first | rfl | (simp only [e12]; done) | (simp only [e12]; rfl)) (GE.refl _) hS
    refine StepsOk.cons (StepOk.known rfl fun y W hS hd K' hK => ?_) ?_
    · skip
      have e13 : y 13 = .int .i8 d.off := (hd 1 rfl).val rfl rfl
      clear hd
      go_simp
      exact hK.out _ _ (by first | rfl | (simp only [e13]; done) | (simp only [e13]; rfl)) (GE.refl _) hS
    refine StepsOk.cons (StepOk.known rfl fun y W hS hd K' hK => ?_) ?_
    · skip
      have e14 : y 14 = .int .i8 O := (hd 2 rfl).val rfl rfl
      clear hd
      go_simp
      exact hK.out _ _ (by first | rfl | (simp only [e14]; done) | (simp only [e14]; rfl)) (GE.refl _) hS
    refine StepsOk.cons (StepOk.known rfl fun y W hS hd K' hK => ?_) ?_
    · skip
      have e15 : y 15 = .int .i64 O := (hd 3 rfl).val rfl rfl
      clear hd
      go_simp
      exact hK.out _ _ (by first | rfl | (simp only [e15]; done) | (simp only [e15]; rfl)) (GE.refl _) hS
    refine StepsOk.cons (StepOk.known rfl fun y W hS hd K' hK => ?_) ?_
    · skip
      clear hd
      go_simp
      exact hK.out _ _ rfl (GE.refl _) hS
    refine StepsOk.cons (StepOk.known rfl fun y W hS hd K' hK => ?_) ?_
    · skip
      have e17 : y 17 = .pointer (some ⟨w.heap.size, 0, none⟩) := (hd 5 rfl).val rfl rfl
      clear hd
      have hc := (hS.2.1.cell 0).trans rfl
      go_simp
      exact hK.out _ _ (by first | rfl | (simp only [e17]; done) | (simp only [e17]; rfl)) (GE.refl _) hS
    refine StepsOk.cons (StepOk.known rfl fun y W hS hd K' hK => ?_) ?_
    · skip
      have e18 : y 18 = .int .u8 d.kind := (hd 6 rfl).val rfl rfl
      clear hd
      go_simp
      exact hK.out _ _ (by first | rfl | (simp only [e18]; done) | (simp only [e18]; rfl)) (GE.refl _) hS
    refine StepsOk.cons (StepOk.known rfl fun y W hS hd K' hK => ?_) ?_
    · skip
      have e19 : y 19 = .int .u8 K := (hd 7 rfl).val rfl rfl
      clear hd
      go_simp
      exact hK.out _ _ (by first | rfl | (simp only [e19]; done) | (simp only [e19]; rfl)) (GE.refl _) hS
    refine StepsOk.cons (StepOk.known rfl fun y W hS hd K' hK => ?_) ?_
    · skip
      clear hd
      go_simp
      exact hK.out _ _ rfl (GE.refl _) hS
    refine StepsOk.cons (StepOk.known rfl fun y W hS hd K' hK => ?_) ?_
    · skip
      have e21 : y 21 = .pointer (some ⟨w.heap.size, 2, none⟩) := (hd 9 rfl).val rfl rfl
      clear hd
      have hc := (hS.2.1.cell 2).trans rfl
      go_simp
      exact hK.out _ _ (by first | rfl | (simp only [e21]; done) | (simp only [e21]; rfl)) (GE.refl _) hS
    refine StepsOk.cons (StepOk.other rfl fun y W hS hd K' hK => ?_) ?_
    · skip
      have e22 : y 22 = .int .u8 d.fmt := (hd 10 rfl).val rfl rfl
      clear hd
      go_simp
      obtain ⟨hb, hx, hr⟩ := hS
      refine (format23_any d.fmt W h2f).mono ?_
      rintro e W' ⟨S, rfl, hf, hc⟩
      go_wp2_with fail
      exact hK.out _ _ _ (by first | rfl | (simp only [e22]; done) | (simp only [e22]; rfl)) (GE.below hc) ⟨hb.trans (hc.mono hb.size), hx.below hc hx.lt, hr.below hc hr.lt⟩ (show ∃ S, _ = Value.string S ∧ isFmt23 S from ⟨S, rfl, hf⟩)
    refine StepsOk.cons (StepOk.other rfl fun y W hS hd K' hK => ?_) ?_
    · skip
      have e16 : y 16 = .int .i64 (900 * O) := (hd 4 rfl).val rfl rfl
      have e20 : y 20 = .int .i64 K := (hd 8 rfl).val rfl rfl
      have x11 : (fun (y : Nat → Value) (W : World) => ∃ S, y 23 = .string S ∧ isFmt23 S) y W := (hd 11 rfl).ex rfl
      clear hd
      obtain ⟨S, h1, h2⟩ := x11
      go_simp
      exact hK.out _ _ _ (by first | rfl | (simp only [h1, e16, e20]; done) | (simp only [h1, e16, e20]; rfl)) (GE.refl _) hS (show ∃ S, _ = Value.agg #[.int .i64 (900 * O), .int .i64 K, .int .i64 0, .string ⟨#[]⟩, .string S, .bool false, .int .i64 0, .int .i64 0, .int .i64 0, .int .i64 0, .int .i64 0, .int .i64 0, .int .i64 0] ∧ isFmt23 S from ⟨S, rfl, h2⟩)
    refine StepsOk.cons (StepOk.other rfl fun y W hS hd K' hK => ?_) ?_
    · skip
      clear hd
      obtain ⟨hb, hx, hr⟩ := hS
      have hle := hr.lt
      go_simp
      exact hK.out _ _ _ rfl (GE.alloc W _) ⟨hb.alloc hb.size _, hx.alloc _, hr.alloc _⟩ (show ∃ g, (_ = Value.pointer (some ⟨g, 0, none⟩) ∧ w.heap.size + 2 ≤ g) ∧ ∃ v0 v1 v2 v3 v4 v5 v6 v7 v8 v9 v10 v11 v12, Blk _ g 47 #[v0, v1, v2, v3, v4, v5, v6, v7, v8, v9, v10, v11, v12] from ⟨W.heap.size, ⟨rfl, by omega⟩, _, _, _, _, _, _, _, _, _, _, _, _, _, Blk.new W 47 #[.int .i64 0, .int .i64 0, .int .i64 0, .string ⟨#[]⟩, .string ⟨#[]⟩, .bool false, .int .i64 0, .int .i64 0, .int .i64 0, .int .i64 0, .int .i64 0, .int .i64 0, .int .i64 0]⟩)
    refine StepsOk.cons (StepOk.other rfl fun y W hS hd K' hK => ?_) ?_
    · skip
      have x12 : (fun (y : Nat → Value) (W : World) => ∃ S, y 24 = .agg #[.int .i64 (900 * O), .int .i64 K, .int .i64 0, .string ⟨#[]⟩, .string S, .bool false, .int .i64 0, .int .i64 0, .int .i64 0, .int .i64 0, .int .i64 0, .int .i64 0, .int .i64 0] ∧ isFmt23 S) y W := (hd 12 rfl).ex rfl
      have x13 : (fun (y : Nat → Value) (W : World) => ∃ g, (y 11 = .pointer (some ⟨g, 0, none⟩) ∧ w.heap.size + 2 ≤ g) ∧ ∃ v0 v1 v2 v3 v4 v5 v6 v7 v8 v9 v10 v11 v12, Blk W g 47 #[v0, v1, v2, v3, v4, v5, v6, v7, v8, v9, v10, v11, v12]) y W := (hd 13 rfl).ex rfl
      clear hd
      obtain ⟨g, ⟨h1, h2⟩, v0, v1, v2, v3, v4, v5, v6, v7, v8, v9, v10, v11, v12, hr0⟩ := x13
      obtain ⟨S, h3, h4⟩ := x12
      have k0 := (hr0.cell 0).trans rfl
      have k1 := (hr0.cell 1).trans rfl
      have k2 := (hr0.cell 2).trans rfl
      have k3 := (hr0.cell 3).trans rfl
      have k4 := (hr0.cell 4).trans rfl
      have k5 := (hr0.cell 5).trans rfl
      have k6 := (hr0.cell 6).trans rfl
      have k7 := (hr0.cell 7).trans rfl
      have k8 := (hr0.cell 8).trans rfl
      have k9 := (hr0.cell 9).trans rfl
      have k10 := (hr0.cell 10).trans rfl
      have k11 := (hr0.cell 11).trans rfl
      have k12 := (hr0.cell 12).trans rfl
      have f0 := hr0.frozen 0
      have f1 := hr0.frozen 1
      have f2 := hr0.frozen 2
      have f3 := hr0.frozen 3
      have f4 := hr0.frozen 4
      have f5 := hr0.frozen 5
      have f6 := hr0.frozen 6
      have f7 := hr0.frozen 7
      have f8 := hr0.frozen 8
      have f9 := hr0.frozen 9
      have f10 := hr0.frozen 10
      have f11 := hr0.frozen 11
      have f12 := hr0.frozen 12
      have hr1 : Blk _ g 47 #[.int .i64 (900 * O), v1, v2, v3, v4, v5, v6, v7, v8, v9, v10, v11, v12] := hr0.set_ 0 (.int .i64 (900 * O))
      have q1 := GE.set_ hr0 0 (.int .i64 (900 * O))
      have hr2 : Blk _ g 47 #[.int .i64 (900 * O), .int .i64 K, v2, v3, v4, v5, v6, v7, v8, v9, v10, v11, v12] := hr1.set_ 1 (.int .i64 K)
      have q2 := GE.set_ hr1 1 (.int .i64 K)
      have hr3 : Blk _ g 47 #[.int .i64 (900 * O), .int .i64 K, .int .i64 0, v3, v4, v5, v6, v7, v8, v9, v10, v11, v12] := hr2.set_ 2 (.int .i64 0)
      have q3 := GE.set_ hr2 2 (.int .i64 0)
      have hr4 : Blk _ g 47 #[.int .i64 (900 * O), .int .i64 K, .int .i64 0, .string ⟨#[]⟩, v4, v5, v6, v7, v8, v9, v10, v11, v12] := hr3.set_ 3 (.string ⟨#[]⟩)
      have q4 := GE.set_ hr3 3 (.string ⟨#[]⟩)
      have hr5 : Blk _ g 47 #[.int .i64 (900 * O), .int .i64 K, .int .i64 0, .string ⟨#[]⟩, .string S, v5, v6, v7, v8, v9, v10, v11, v12] := hr4.set_ 4 (.string S)
      have q5 := GE.set_ hr4 4 (.string S)
      have hr6 : Blk _ g 47 #[.int .i64 (900 * O), .int .i64 K, .int .i64 0, .string ⟨#[]⟩, .string S, .bool false, v6, v7, v8, v9, v10, v11, v12] := hr5.set_ 5 (.bool false)
      have q6 := GE.set_ hr5 5 (.bool false)
      have hr7 : Blk _ g 47 #[.int .i64 (900 * O), .int .i64 K, .int .i64 0, .string ⟨#[]⟩, .string S, .bool false, .int .i64 0, v7, v8, v9, v10, v11, v12] := hr6.set_ 6 (.int .i64 0)
      have q7 := GE.set_ hr6 6 (.int .i64 0)
      have hr8 : Blk _ g 47 #[.int .i64 (900 * O), .int .i64 K, .int .i64 0, .string ⟨#[]⟩, .string S, .bool false, .int .i64 0, .int .i64 0, v8, v9, v10, v11, v12] := hr7.set_ 7 (.int .i64 0)
      have q8 := GE.set_ hr7 7 (.int .i64 0)
      have hr9 : Blk _ g 47 #[.int .i64 (900 * O), .int .i64 K, .int .i64 0, .string ⟨#[]⟩, .string S, .bool false, .int .i64 0, .int .i64 0, .int .i64 0, v9, v10, v11, v12] := hr8.set_ 8 (.int .i64 0)
      have q9 := GE.set_ hr8 8 (.int .i64 0)
      have hr10 : Blk _ g 47 #[.int .i64 (900 * O), .int .i64 K, .int .i64 0, .string ⟨#[]⟩, .string S, .bool false, .int .i64 0, .int .i64 0, .int .i64 0, .int .i64 0, v10, v11, v12] := hr9.set_ 9 (.int .i64 0)
      have q10 := GE.set_ hr9 9 (.int .i64 0)
      have hr11 : Blk _ g 47 #[.int .i64 (900 * O), .int .i64 K, .int .i64 0, .string ⟨#[]⟩, .string S, .bool false, .int .i64 0, .int .i64 0, .int .i64 0, .int .i64 0, .int .i64 0, v11, v12] := hr10.set_ 10 (.int .i64 0)
      have q11 := GE.set_ hr10 10 (.int .i64 0)
      have hr12 : Blk _ g 47 #[.int .i64 (900 * O), .int .i64 K, .int .i64 0, .string ⟨#[]⟩, .string S, .bool false, .int .i64 0, .int .i64 0, .int .i64 0, .int .i64 0, .int .i64 0, .int .i64 0, v12] := hr11.set_ 11 (.int .i64 0)
      have q12 := GE.set_ hr11 11 (.int .i64 0)
      have hr13 : Blk _ g 47 #[.int .i64 (900 * O), .int .i64 K, .int .i64 0, .string ⟨#[]⟩, .string S, .bool false, .int .i64 0, .int .i64 0, .int .i64 0, .int .i64 0, .int .i64 0, .int .i64 0, .int .i64 0] := hr12.set_ 12 (.int .i64 0)
      have q13 := GE.set_ hr12 12 (.int .i64 0)
      have hG := q1.trans (q2.trans (q3.trans (q4.trans (q5.trans (q6.trans (q7.trans (q8.trans (q9.trans (q10.trans (q11.trans (q12.trans (q13))))))))))))
      obtain ⟨hb, hx, hr⟩ := hS
      have hb2 := ((((((((((((hb.setCell (p := ⟨g, 0, none⟩) (by show w.heap.size ≤ g; omega) (.int .i64 (900 * O))).setCell (p := ⟨g, 1, none⟩) (by show w.heap.size ≤ g; omega) (.int .i64 K)).setCell (p := ⟨g, 2, none⟩) (by show w.heap.size ≤ g; omega) (.int .i64 0)).setCell (p := ⟨g, 3, none⟩) (by show w.heap.size ≤ g; omega) (.string ⟨#[]⟩)).setCell (p := ⟨g, 4, none⟩) (by show w.heap.size ≤ g; omega) (.string S)).setCell (p := ⟨g, 5, none⟩) (by show w.heap.size ≤ g; omega) (.bool false)).setCell (p := ⟨g, 6, none⟩) (by show w.heap.size ≤ g; omega) (.int .i64 0)).setCell (p := ⟨g, 7, none⟩) (by show w.heap.size ≤ g; omega) (.int .i64 0)).setCell (p := ⟨g, 8, none⟩) (by show w.heap.size ≤ g; omega) (.int .i64 0)).setCell (p := ⟨g, 9, none⟩) (by show w.heap.size ≤ g; omega) (.int .i64 0)).setCell (p := ⟨g, 10, none⟩) (by show w.heap.size ≤ g; omega) (.int .i64 0)).setCell (p := ⟨g, 11, none⟩) (by show w.heap.size ≤ g; omega) (.int .i64 0)).setCell (p := ⟨g, 12, none⟩) (by show w.heap.size ≤ g; omega) (.int .i64 0)
      have hx' := ((((((((((((hx.far (p := ⟨g, 0, none⟩) (by show _ ≠ g; omega) (.int .i64 (900 * O))).far (p := ⟨g, 1, none⟩) (by show _ ≠ g; omega) (.int .i64 K)).far (p := ⟨g, 2, none⟩) (by show _ ≠ g; omega) (.int .i64 0)).far (p := ⟨g, 3, none⟩) (by show _ ≠ g; omega) (.string ⟨#[]⟩)).far (p := ⟨g, 4, none⟩) (by show _ ≠ g; omega) (.string S)).far (p := ⟨g, 5, none⟩) (by show _ ≠ g; omega) (.bool false)).far (p := ⟨g, 6, none⟩) (by show _ ≠ g; omega) (.int .i64 0)).far (p := ⟨g, 7, none⟩) (by show _ ≠ g; omega) (.int .i64 0)).far (p := ⟨g, 8, none⟩) (by show _ ≠ g; omega) (.int .i64 0)).far (p := ⟨g, 9, none⟩) (by show _ ≠ g; omega) (.int .i64 0)).far (p := ⟨g, 10, none⟩) (by show _ ≠ g; omega) (.int .i64 0)).far (p := ⟨g, 11, none⟩) (by show _ ≠ g; omega) (.int .i64 0)).far (p := ⟨g, 12, none⟩) (by show _ ≠ g; omega) (.int .i64 0)
      have hr' := ((((((((((((hr.far (p := ⟨g, 0, none⟩) (by show _ ≠ g; omega) (.int .i64 (900 * O))).far (p := ⟨g, 1, none⟩) (by show _ ≠ g; omega) (.int .i64 K)).far (p := ⟨g, 2, none⟩) (by show _ ≠ g; omega) (.int .i64 0)).far (p := ⟨g, 3, none⟩) (by show _ ≠ g; omega) (.string ⟨#[]⟩)).far (p := ⟨g, 4, none⟩) (by show _ ≠ g; omega) (.string S)).far (p := ⟨g, 5, none⟩) (by show _ ≠ g; omega) (.bool false)).far (p := ⟨g, 6, none⟩) (by show _ ≠ g; omega) (.int .i64 0)).far (p := ⟨g, 7, none⟩) (by show _ ≠ g; omega) (.int .i64 0)).far (p := ⟨g, 8, none⟩) (by show _ ≠ g; omega) (.int .i64 0)).far (p := ⟨g, 9, none⟩) (by show _ ≠ g; omega) (.int .i64 0)).far (p := ⟨g, 10, none⟩) (by show _ ≠ g; omega) (.int .i64 0)).far (p := ⟨g, 11, none⟩) (by show _ ≠ g; omega) (.int .i64 0)).far (p := ⟨g, 12, none⟩) (by show _ ≠ g; omega) (.int .i64 0)
      have HH := Lib.hid (And.intro hr13 (And.intro hG (And.intro hb2 (And.intro hx' hr'))))
      clear hr0 hr1 hr2 hr3 hr4 hr5 hr6 hr7 hr8 hr9 hr10 hr11 hr12 hr13 q1 q2 q3 q4 q5 q6 q7 q8 q9 q10 q11 q12 q13 hG hb2 hb hx hr hx' hr'
      go_simp
      exact hK.out undef _ _ (by first | rfl | (simp only [h1, h3]; done) | (simp only [h1, h3]; rfl)) HH.out.2.1 HH.out.2.2 (show ∃ g S, (y 11 = Value.pointer (some ⟨g, 0, none⟩) ∧ w.heap.size + 2 ≤ g) ∧ isFmt23 S ∧ Blk _ g 47 #[.int .i64 (900 * O), .int .i64 K, .int .i64 0, .string ⟨#[]⟩, .string S, .bool false, .int .i64 0, .int .i64 0, .int .i64 0, .int .i64 0, .int .i64 0, .int .i64 0, .int .i64 0] from ⟨g, S, ⟨h1, h2⟩, h4, HH.out.1⟩)
    exact StepsOk.nil

end Go.Proofs.YtlideagcmhlkeaaDoor
