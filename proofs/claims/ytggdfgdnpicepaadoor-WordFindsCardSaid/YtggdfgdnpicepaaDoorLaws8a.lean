/- The laws WordFinds, WordTexts, WordNumbers (chapter 8), walked. -/
import Derived.Test.YtggdfgdnpicepaaDoorEx8
namespace Go.Proofs.YtggdfgdnpicepaaDoor
open Go.RowKit Go.Proofs
set_option linter.unusedVariables false
set_option linter.unusedSimpArgs false

set_option maxRecDepth 100000 in
set_option maxHeartbeats 8000000 in
theorem walkWordFinds (s : ByteArray) (w : World) (hs0 : s.size ≤ maxLen) (hv : Vars8 w) :
    Calls Tryd.prog 8 #[.string s] w fun e w' => e = .returned (.bool true) ∧ Below w.heap.size w w' := by
  have HV := Lib.hid hv
  clear hv
  have hb := Below.refl w.heap.size w
  unfold maxLen at hs0
  by_cases h1000 : 1000 < s.size
  · have h1 : (1000 : Int) < (s.size : Int) := by omega
    clear h1000 hs0
    go_enter Tryd.func8, Tryd.ntmps8
    go_wp2_with (go_at_call 25; refine (works8_any _ HV.out).mono ?_; rintro e w1 ⟨rfl, h9⟩; replace hb := hb.trans (h9.mono hb.size); clear h9)
    go_ret
    exact ⟨rfl, hb⟩
  · have h1 : ¬ (1000 : Int) < (s.size : Int) := by omega
    have hs : s.size ≤ 1000000 := by omega
    have a0 : ∀ W, Vars8 W → Calls Tryd.prog 26 #[.string s] W fun e w' => e = .returned (.tuple #[.int .i64 (P8.num 1 s.data.toList P8.lines).1, .int .i64 (P8.num 1 s.data.toList P8.lines).2]) ∧ Below W.heap.size W w' := fun W hv => line_any s W hs hv
    have b0 : ∀ W, Calls Tryd.prog 27 #[.string s] W fun e w' => e = .returned (.tuple #[.int .i64 (P8.num 1 s.data.toList P8.lines).1, .int .i64 (P8.num 1 s.data.toList P8.lines).2]) ∧ Below W.heap.size W w' := fun W => rline_any s W hs
    generalize (P8.num 1 s.data.toList P8.lines).1 = x0 at a0 b0
    generalize (P8.num 1 s.data.toList P8.lines).2 = y0 at a0 b0
    have A0 := Lib.hid a0; have B0 := Lib.hid b0
    have p0 : (x0 != x0) = false := by simp
    have q0 : (y0 != y0) = false := by simp
    clear a0 b0
    have a1 : ∀ W, Vars8 W → Calls Tryd.prog 28 #[.string s] W fun e w' => e = .returned (.tuple #[.int .i64 (P8.num 1 s.data.toList P8.months).1, .int .i64 (P8.num 1 s.data.toList P8.months).2]) ∧ Below W.heap.size W w' := fun W hv => month_any s W hs hv
    have b1 : ∀ W, Calls Tryd.prog 29 #[.string s] W fun e w' => e = .returned (.tuple #[.int .i64 (P8.num 1 s.data.toList P8.months).1, .int .i64 (P8.num 1 s.data.toList P8.months).2]) ∧ Below W.heap.size W w' := fun W => rmonth_any s W hs
    generalize (P8.num 1 s.data.toList P8.months).1 = x1 at a1 b1
    generalize (P8.num 1 s.data.toList P8.months).2 = y1 at a1 b1
    have A1 := Lib.hid a1; have B1 := Lib.hid b1
    have p1 : (x1 != x1) = false := by simp
    have q1 : (y1 != y1) = false := by simp
    clear a1 b1
    have a2 : ∀ W, Vars8 W → Calls Tryd.prog 30 #[.string s] W fun e w' => e = .returned (.tuple #[.int .i64 (P8.num 0 s.data.toList P8.weeks).1, .int .i64 (P8.num 0 s.data.toList P8.weeks).2]) ∧ Below W.heap.size W w' := fun W hv => week_any s W hs hv
    have b2 : ∀ W, Calls Tryd.prog 31 #[.string s] W fun e w' => e = .returned (.tuple #[.int .i64 (P8.num 0 s.data.toList P8.weeks).1, .int .i64 (P8.num 0 s.data.toList P8.weeks).2]) ∧ Below W.heap.size W w' := fun W => rweek_any s W hs
    generalize (P8.num 0 s.data.toList P8.weeks).1 = x2 at a2 b2
    generalize (P8.num 0 s.data.toList P8.weeks).2 = y2 at a2 b2
    have A2 := Lib.hid a2; have B2 := Lib.hid b2
    have p2 : (x2 != x2) = false := by simp
    have q2 : (y2 != y2) = false := by simp
    clear a2 b2
    have a3 : ∀ W, Vars8 W → Calls Tryd.prog 32 #[.string s] W fun e w' => e = .returned (.tuple #[.int .i64 (P8.num 1 s.data.toList P8.years).1, .int .i64 (P8.num 1 s.data.toList P8.years).2]) ∧ Below W.heap.size W w' := fun W hv => to_any s W hs hv
    have b3 : ∀ W, Calls Tryd.prog 33 #[.string s] W fun e w' => e = .returned (.tuple #[.int .i64 (P8.num 1 s.data.toList P8.years).1, .int .i64 (P8.num 1 s.data.toList P8.years).2]) ∧ Below W.heap.size W w' := fun W => rto_any s W hs
    generalize (P8.num 1 s.data.toList P8.years).1 = x3 at a3 b3
    generalize (P8.num 1 s.data.toList P8.years).2 = y3 at a3 b3
    have A3 := Lib.hid a3; have B3 := Lib.hid b3
    have p3 : (x3 != x3) = false := by simp
    have q3 : (y3 != y3) = false := by simp
    clear a3 b3
    clear h1000 hs0 hs
    go_enter Tryd.func8, Tryd.ntmps8
    go_wp2_with first
      | (go_at_call 26; refine (A0.out _ (HV.out.below hb)).mono ?_; rintro e w1 ⟨rfl, h9⟩; replace hb := hb.trans (h9.mono hb.size); clear h9)
      | (go_at_call 27; refine (B0.out _).mono ?_; rintro e w1 ⟨rfl, h9⟩; replace hb := hb.trans (h9.mono hb.size); clear h9)
      | (go_at_call 28; refine (A1.out _ (HV.out.below hb)).mono ?_; rintro e w1 ⟨rfl, h9⟩; replace hb := hb.trans (h9.mono hb.size); clear h9)
      | (go_at_call 29; refine (B1.out _).mono ?_; rintro e w1 ⟨rfl, h9⟩; replace hb := hb.trans (h9.mono hb.size); clear h9)
      | (go_at_call 30; refine (A2.out _ (HV.out.below hb)).mono ?_; rintro e w1 ⟨rfl, h9⟩; replace hb := hb.trans (h9.mono hb.size); clear h9)
      | (go_at_call 31; refine (B2.out _).mono ?_; rintro e w1 ⟨rfl, h9⟩; replace hb := hb.trans (h9.mono hb.size); clear h9)
      | (go_at_call 32; refine (A3.out _ (HV.out.below hb)).mono ?_; rintro e w1 ⟨rfl, h9⟩; replace hb := hb.trans (h9.mono hb.size); clear h9)
      | (go_at_call 33; refine (B3.out _).mono ?_; rintro e w1 ⟨rfl, h9⟩; replace hb := hb.trans (h9.mono hb.size); clear h9)
      | (go_at_call 25; refine (works8_any _ (HV.out.below hb)).mono ?_; rintro e w1 ⟨rfl, h9⟩; replace hb := hb.trans (h9.mono hb.size); clear h9)
    go_ret
    exact ⟨rfl, hb⟩
set_option maxRecDepth 100000 in
set_option maxHeartbeats 8000000 in
theorem walkWordTexts (n : Int) (w : World) (hn : (Lit.int .i64 n).wf = true) (hv : Vars8 w) :
    Calls Tryd.prog 9 #[.int .i64 n] w fun e w' => e = .returned (.bool true) ∧ Below w.heap.size w w' := by
  have HV := Lib.hid hv
  clear hv
  have hb := Below.refl w.heap.size w
  have hn2 : n ≤ 9223372036854775807 := by
    simp only [Lit.wf, Bool.and_eq_true, decide_eq_true_eq, show IntKind.i64.max = 9223372036854775807 from rfl] at hn
    omega
  clear hn
  have a0 := Lib.hid (fun W (h : Vars8 W) => month_text n W hn2 h)
  have a1 := Lib.hid (fun W (h : Vars8 W) => week_text n W h)
  have b0 := Lib.hid (fun W => rmonth_text n W)
  have b1 := Lib.hid (fun W => rweek_text n W)
  generalize str (monthText n) = X at a0 b0
  generalize str (weekText n) = Y at a1 b1
  go_enter Tryd.func9, Tryd.ntmps9
  go_wp2_with first
    | (go_at_call 34; refine (a0.out _ (HV.out.below hb)).mono ?_; rintro e w1 ⟨rfl, h9⟩; replace hb := hb.trans (h9.mono hb.size); clear h9)
    | (go_at_call 36; refine (a1.out _ (HV.out.below hb)).mono ?_; rintro e w1 ⟨rfl, h9⟩; replace hb := hb.trans (h9.mono hb.size); clear h9)
    | (go_at_call 35; refine (b0.out _).mono ?_; rintro e w1 ⟨rfl, h9⟩; replace hb := hb.trans (h9.mono hb.size); clear h9)
    | (go_at_call 37; refine (b1.out _).mono ?_; rintro e w1 ⟨rfl, h9⟩; replace hb := hb.trans (h9.mono hb.size); clear h9)
    | (go_at_call 25; refine (works8_any _ (HV.out.below hb)).mono ?_; rintro e w1 ⟨rfl, h9⟩; replace hb := hb.trans (h9.mono hb.size); clear h9)
  go_ret
  exact ⟨rfl, hb⟩
set_option maxRecDepth 100000 in
set_option maxHeartbeats 8000000 in
theorem walkWordNumbers (n : Int) (w : World) (hn : (Lit.int .u32 n).wf = true) (hv : Vars8 w) :
    Calls Tryd.prog 14 #[.int .u32 n] w fun e w' => e = .returned (.bool true) ∧ Below w.heap.size w w' := by
  have HV := Lib.hid hv
  clear hv
  have hb := Below.refl w.heap.size w
  have hn2 : 0 ≤ n ∧ n ≤ 4294967295 := by
    simp only [Lit.wf, Bool.and_eq_true, decide_eq_true_eq, show IntKind.u32.min = 0 from rfl, show IntKind.u32.max = 4294967295 from rfl] at hn
    omega
  clear hn
  obtain ⟨h0, h1⟩ := hn2
  have m0 : str (monthText (-n)) = ⟨#[]⟩ := by unfold monthText textAt; rw [if_neg (by omega)]; rfl
  have m1 : str (monthText (13 + n)) = ⟨#[]⟩ := by unfold monthText textAt; rw [if_neg (by rw [show (P8.months.length : Int) = 12 from rfl]; omega)]; rfl
  have k0 : str (weekText (-1 - n)) = ⟨#[]⟩ := by unfold weekText textAt; rw [if_neg (by omega)]; rfl
  have k1 : str (weekText (7 + n)) = ⟨#[]⟩ := by unfold weekText textAt; rw [if_neg (by rw [show (P8.weeks.length : Int) = 7 from rfl]; omega)]; rfl
  have a0 := Lib.hid (fun W (h : Vars8 W) => month_text (-n) W (by omega) h)
  have a1 := Lib.hid (fun W (h : Vars8 W) => month_text (13 + n) W (by omega) h)
  have a2 := Lib.hid (fun W (h : Vars8 W) => week_text (-1 - n) W h)
  have a3 := Lib.hid (fun W (h : Vars8 W) => week_text (7 + n) W h)
  rw [m0] at a0; rw [m1] at a1; rw [k0] at a2; rw [k1] at a3
  have w0 : wrap64 n = n := by unfold wrap64; omega
  have w1 : wrap64 (-n) = -n := by unfold wrap64; omega
  have w2 : wrap64 (13 + n) = 13 + n := by unfold wrap64; omega
  have w3 : wrap64 (-1 - n) = -1 - n := by unfold wrap64; omega
  have w4 : wrap64 (7 + n) = 7 + n := by unfold wrap64; omega
  clear m0 m1 k0 k1
  go_enter Tryd.func14, Tryd.ntmps14
  go_wp2_with first
    | (go_at_call 34; refine (a0.out _ (HV.out.below hb)).mono ?_; rintro e w1 ⟨rfl, h9⟩; replace hb := hb.trans (h9.mono hb.size); clear h9)
    | (go_at_call 34; refine (a1.out _ (HV.out.below hb)).mono ?_; rintro e w1 ⟨rfl, h9⟩; replace hb := hb.trans (h9.mono hb.size); clear h9)
    | (go_at_call 36; refine (a2.out _ (HV.out.below hb)).mono ?_; rintro e w1 ⟨rfl, h9⟩; replace hb := hb.trans (h9.mono hb.size); clear h9)
    | (go_at_call 36; refine (a3.out _ (HV.out.below hb)).mono ?_; rintro e w1 ⟨rfl, h9⟩; replace hb := hb.trans (h9.mono hb.size); clear h9)
    | (go_at_call 25; refine (works8_any _ (HV.out.below hb)).mono ?_; rintro e w1 ⟨rfl, h9⟩; replace hb := hb.trans (h9.mono hb.size); clear h9)
  go_ret
  exact ⟨rfl, hb⟩
end Go.Proofs.YtggdfgdnpicepaaDoor
