/- The walks of the days and times of a draft (chapter 17). -/
import Derived.Test.YtmhciidliicheaaDoorMad17a
import Derived.Test.YtmhciidliicheaaDoorRinv
import Derived.Deep.RegionHeld3
import Derived.OpenShut
import Derived.IntWalk
import Derived.Deep.DeepCutAuto
import Derived.Deep.RegionWith
import Derived.Deep.RegionLaw
import Derived.BigQuiet
namespace Go.Proofs.YtmhciidliicheaaDoor
open Go.RowKit Go.Lib
set_option linter.unusedVariables false

set_option maxRecDepth 100000 in
set_option maxHeartbeats 8000000 in
theorem clock17_any (A : Option Addr) (c : Nat) (D : List Int) (i : Nat) (J : Int) (hJ : J = i) (w : World) (hi : i ≤ 900) (hD : Dr w A D) :
    Calls Tryd.prog 48 #[.slice A D.length c, .int .i64 J] w fun e w' => e = .returned (.agg #[.int .i64 ((P17.at_ D i 49 : Int) * 1800), .int .i64 (P17.at_ D (i + 1) 3 : Int)]) ∧ Below w.heap.size w w' := by
  have c1 : Hid (∀ W, Dr W A D → Calls Tryd.prog 47 #[.slice A D.length c, .int .i64 J, .int .i64 49] W fun e w' => e = .returned (.int .i64 (P17.at_ D i 49 : Int)) ∧ w' = W) := fun W h => at17_at A c D i 49 J hJ W (by decide) (by omega) h
  have c2 : Hid (∀ W, Dr W A D → Calls Tryd.prog 47 #[.slice A D.length c, .int .i64 (J + 1), .int .i64 3] W fun e w' => e = .returned (.int .i64 (P17.at_ D (i + 1) 3 : Int)) ∧ w' = W) := fun W h => at17_at A c D (i + 1) 3 (J + 1) (by omega) W (by decide) (by omega) h
  have hJ0 : 0 ≤ J := by omega
  have hJ1 : J ≤ 900 := by omega
  have l1 := P17.at_lt D i (show 0 < 49 by decide)
  have l2 := P17.at_lt D (i + 1) (show 0 < 3 by decide)
  have hX0 : (0 : Int) ≤ (P17.at_ D i 49 : Int) := by omega
  have hX1 : (P17.at_ D i 49 : Int) ≤ 49 := by omega
  generalize (P17.at_ D i 49 : Int) = X at *
  generalize (P17.at_ D (i + 1) 3 : Int) = Y at *
  clear hJ hi l1 l2
  have hD0 := hD.alloc (.cells #[.int .i64 0, .int .i64 0] 29)
  have hB := Blk.new w 29 #[.int .i64 0, .int .i64 0]
  have hb0 := (Below.refl w.heap.size w).alloc (Nat.le_refl _) (.cells #[.int .i64 0, .int .i64 0] 29)
  generalize D.length = N at c1 c2 ⊢
  go_enter Tryd.func48, Tryd.ntmps48
  go_wp2_with fail
  refine (c1.out _ hD0).mono ?_
  rintro e w1 ⟨rfl, rfl⟩
  go_wp2_with fail
  refine (c2.out _ hD0).mono ?_
  rintro e w2 ⟨rfl, rfl⟩
  go_wp2_with fail
  exact bodyPost_ret (v := .agg #[.int .i64 (X * 1800), .int .i64 Y]) (by simp [results, Tryd.results48, go_sem]) rfl ⟨rfl, (Below.refl w.heap.size w).alloc (Nat.le_refl _) _⟩
theorem pass_g {W W' : World} {n : Nat} {t : TypeId} {cs : Array Value} {p : Nat → Prop} (hg : ∀ g t cs, g ≠ n → Blk W g t cs → Blk W' g t cs) (h : ∃ g, p g ∧ g ≠ n ∧ Blk W g t cs) : ∃ g, p g ∧ g ≠ n ∧ Blk W' g t cs := by
  obtain ⟨g, h1, h2, h3⟩ := h
  exact ⟨g, h1, h2, hg g t cs h2 h3⟩
theorem below_aad (w : World) (o1 o2 : Obj) : Below w.heap.size w ((w.alloc o1).alloc o2).drew := (((Below.refl _ w).alloc (Nat.le_refl _) o1).alloc (by simp) o2).drew
theorem below_aa (w : World) (o1 o2 : Obj) : Below w.heap.size w ((w.alloc o1).alloc o2) := ((Below.refl _ w).alloc (Nat.le_refl _) o1).alloc (by simp) o2
/-- the three days of a draft's list, the one that is taken -/
def days3 (W X4 X28 : Int) : Array Value := #[.int .i64 2, .int .i64 W, .int .i64 0, .int .i64 3, .int .i64 W, .int .i64 (1 + 7 * X4), .int .i64 1, .int .i64 0, .int .i64 (1 + X28)]
set_option maxRecDepth 100000 in
set_option maxHeartbeats 8000000 in
theorem day17_any (A : Option Addr) (c : Nat) (D : List Int) (B i : Nat) (J : Int) (hJ : J = i) (w : World) (hi : i ≤ 900) (hD : Dr w A D) (hB : B < w.heap.size) (hc : w.cell? ⟨B, 0, none⟩ = some (.slice A D.length c)) :
    Calls Tryd.prog 82 #[.int .i64 J, .pointer (some ⟨B, 0, none⟩)] w fun e w' => e = .returned (.agg #[.int .i64 (P17.day D i).1, .int .i64 (P17.day D i).2.1, .int .i64 (P17.day D i).2.2]) ∧ Below w.heap.size w w' := by
  have c1 : Hid (∀ W, Below w.heap.size w W → Calls Tryd.prog 47 #[.slice A D.length c, .int .i64 J, .int .i64 7] W fun e w' => e = .returned (.int .i64 (P17.at_ D i 7 : Int)) ∧ w' = W) := fun W h => at17_at A c D i 7 J hJ W (by decide) (by omega) (hD.below h)
  have c2 : Hid (∀ W, Below w.heap.size w W → Calls Tryd.prog 47 #[.slice A D.length c, .int .i64 (J + 1), .int .i64 4] W fun e w' => e = .returned (.int .i64 (P17.at_ D (i + 1) 4 : Int)) ∧ w' = W) := fun W h => at17_at A c D (i + 1) 4 (J + 1) (by omega) W (by decide) (by omega) (hD.below h)
  have c3 : Hid (∀ W, Below w.heap.size w W → Calls Tryd.prog 47 #[.slice A D.length c, .int .i64 (J + 1), .int .i64 28] W fun e w' => e = .returned (.int .i64 (P17.at_ D (i + 1) 28 : Int)) ∧ w' = W) := fun W h => at17_at A c D (i + 1) 28 (J + 1) (by omega) W (by decide) (by omega) (hD.below h)
  have c4 : Hid (∀ W, Below w.heap.size w W → Calls Tryd.prog 47 #[.slice A D.length c, .int .i64 (J + 2), .int .i64 3] W fun e w' => e = .returned (.int .i64 (P17.at_ D (i + 2) 3 : Int)) ∧ w' = W) := fun W h => at17_at A c D (i + 2) 3 (J + 2) (by omega) W (by decide) (by omega) (hD.below h)
  have hJ0 : 0 ≤ J := by omega
  have hJ1 : J ≤ 900 := by omega
  have l1 := P17.at_lt D i (show 0 < 7 by decide)
  have l2 := P17.at_lt D (i + 1) (show 0 < 4 by decide)
  have l3 := P17.at_lt D (i + 1) (show 0 < 28 by decide)
  have l4 := P17.at_lt D (i + 2) (show 0 < 3 by decide)
  have hX0 : (0 : Int) ≤ (P17.at_ D (i + 1) 4 : Int) := by omega
  have hX1 : (P17.at_ D (i + 1) 4 : Int) ≤ 4 := by omega
  have hY0 : (0 : Int) ≤ (P17.at_ D (i + 1) 28 : Int) := by omega
  have hY1 : (P17.at_ D (i + 1) 28 : Int) ≤ 28 := by omega
  have hK : (P17.at_ D (i + 2) 3 : Int) = 0 ∨ (P17.at_ D (i + 2) 3 : Int) = 1 ∨ (P17.at_ D (i + 2) 3 : Int) = 2 := by omega
  have hdy : P17.day D i = if (P17.at_ D (i + 2) 3 : Int) = 0 then (2, (P17.at_ D i 7 : Int), 0) else if (P17.at_ D (i + 2) 3 : Int) = 1 then (3, (P17.at_ D i 7 : Int), 1 + 7 * (P17.at_ D (i + 1) 4 : Int)) else (1, 0, 1 + (P17.at_ D (i + 1) 28 : Int)) := by
    unfold P17.day
    rcases hK with h | h | h
    · rw [if_pos (by omega), if_pos h]
    · rw [if_neg (by omega), if_pos (by omega), if_neg (by omega), if_pos h]
    · rw [if_neg (by omega), if_neg (by omega), if_neg (by omega), if_neg (by omega)]
  rw [hdy]
  clear hdy
  have wj1 : IntKind.i64.wrap (J + 1) = J + 1 := IntWalk.i64_in _ (by omega)
  have wj3 : IntKind.i64.wrap (7 * (P17.at_ D (i + 1) 4 : Int)) = 7 * (P17.at_ D (i + 1) 4 : Int) := IntWalk.i64_in _ (by omega)
  have wj4 : IntKind.i64.wrap (1 + 7 * (P17.at_ D (i + 1) 4 : Int)) = 1 + 7 * (P17.at_ D (i + 1) 4 : Int) := IntWalk.i64_in _ (by omega)
  have wj5 : IntKind.i64.wrap (1 + (P17.at_ D (i + 1) 28 : Int)) = 1 + (P17.at_ D (i + 1) 28 : Int) := IntWalk.i64_in _ (by omega)
  have wj2 : IntKind.i64.wrap (J + 2) = J + 2 := IntWalk.i64_in _ (by omega)
  have hc0 : (w.alloc (.cells #[.int .i64 0, .int .i64 0, .int .i64 0] 27)).cell? ⟨B, 0, none⟩ = some (.slice A D.length c) := (((Below.refl _ w).alloc (Nat.le_refl _) _).cell (p := ⟨B, 0, none⟩) hB).trans hc
  have hb0 := (Below.refl w.heap.size w).alloc (Nat.le_refl _) (.cells #[.int .i64 0, .int .i64 0, .int .i64 0] 27)
  have HC : Hid (∀ W, Below w.heap.size w W → W.cell? ⟨B, 0, none⟩ = some (.slice A D.length c)) := Lib.hid fun W h => (h.cell (p := ⟨B, 0, none⟩) hB).trans hc
  generalize (P17.at_ D (i + 2) 3 : Int) = K3 at *
  generalize (P17.at_ D i 7 : Int) = W7 at *
  generalize (P17.at_ D (i + 1) 4 : Int) = X4 at *
  generalize (P17.at_ D (i + 1) 28 : Int) = X28 at *
  clear hJ hi l1 l2 l3 l4 hc
  generalize D.length = N at *
  have hS2 : ∀ {W : World}, Below w.heap.size w W → W.cell? ⟨B, 0, none⟩ = some (.slice A N c) := fun h => HC.out _ h
  have hR0 : Blk ((w.alloc (.cells #[.int .i64 0, .int .i64 0, .int .i64 0] 27)).drew) w.heap.size 27 #[.int .i64 0, .int .i64 0, .int .i64 0] := Blk.new w _ _
  have hS2 : ∀ {W : World}, Below w.heap.size w W → W.cell? ⟨B, 0, none⟩ = some (.slice A N c) := fun h => HC.out _ h
  have hR0 : Blk ((w.alloc (.cells #[.int .i64 0, .int .i64 0, .int .i64 0] 27)).drew) w.heap.size 27 #[.int .i64 0, .int .i64 0, .int .i64 0] := Blk.new w _ _
  have hS2 : ∀ {W : World}, Below w.heap.size w W → W.cell? ⟨B, 0, none⟩ = some (.slice A N c) := fun h => HC.out _ h
  have hR0 : Blk ((w.alloc (.cells #[.int .i64 0, .int .i64 0, .int .i64 0] 27)).drew) w.heap.size 27 #[.int .i64 0, .int .i64 0, .int .i64 0] := Blk.new w _ _
  rcases hK with rfl | rfl | rfl
  · go_enter Tryd.func82, Tryd.ntmps82
    go_wp2_with fail
    refine (c1.out _ hb0).mono ?_
    rintro e w1 ⟨rfl, rfl⟩
    go_upto_region 2 with fail
    refine wp_region_shape [(some 8, []), (some 9, [0]), (some 10, []), (some 11, []), (some 12, []), (some 13, [4]), (some 14, [3, 5]), (some 15, [6]), (some 16, [7]), (some 17, [2, 8]), (some 18, []), (some 19, []), (some 20, [11]), (some 21, [10, 12, 6]), (some 22, [13]), (some 23, [14]), (some 24, [1, 9, 15]), (some 25, []), (some 26, []), (some 27, [18]), (some 28, [17, 19, 13]), (some 29, [16, 20]), (some 30, [21]), (none, [22, 20, 0, 1, 2, 3, 4, 5, 6, 7, 8, 9, 10, 11, 12, 13, 14, 15, 16, 17, 18, 19, 20, 21, 22])] (fun y => { tmps := #[.int .i64 J, .pointer (some ⟨B, 0, none⟩), undef, .pointer (some ⟨w.heap.size, 0, none⟩), .int .i64 W7, .slice A N c, .int .i64 J, .int .i64 W7, y 8, y 9, y 10, y 11, y 12, y 13, y 14, y 15, y 16, y 17, y 18, y 19, y 20, y 21, y 22, y 23, y 24, y 25, y 26, y 27, y 28, y 29, y 30], defers := [] }) (fun _ => undef) (fun j => j == 16 || j == 21 || j == 23) [.int .i64 W7, .agg #[.int .i64 2, .int .i64 W7, .int .i64 0], .int .i64 W7, .slice A N c, .int .i64 J, .int .i64 (J + 1), .int .i64 X4, .int .i64 (7 * X4), .int .i64 (1 + 7 * X4), .agg #[.int .i64 3, .int .i64 W7, .int .i64 (1 + 7 * X4)], .slice A N c, .int .i64 J, .int .i64 (J + 1), .int .i64 X28, .int .i64 (1 + X28), .agg #[.int .i64 1, .int .i64 0, .int .i64 (1 + X28)], undef, .slice A N c, .int .i64 J, .int .i64 (J + 2), .int .i64 0, undef, .agg #[.int .i64 2, .int .i64 W7, .int .i64 0], undef] (fun j y W => match j with | 16 => ∃ g, y 24 = .slice (some ⟨g, 0, none⟩) 3 3 ∧ g ≠ w.heap.size ∧ Blk W g 27 #[.int .i64 2, .int .i64 W7, .int .i64 0, .int .i64 3, .int .i64 W7, .int .i64 (1 + 7 * X4), .int .i64 1, .int .i64 0, .int .i64 (1 + X28)] | 21 => ∃ g, y 29 = .pointer (some ⟨g, 0, none⟩) ∧ g ≠ w.heap.size ∧ Blk W g 27 #[.int .i64 2, .int .i64 W7, .int .i64 0, .int .i64 3, .int .i64 W7, .int .i64 (1 + 7 * X4), .int .i64 1, .int .i64 0, .int .i64 (1 + X28)] | 23 => Blk W w.heap.size 27 #[.int .i64 2, .int .i64 W7, .int .i64 0] | _ => True) (fun j => match j with | 16 => [24] | 21 => [29] | 23 => [] | _ => []) (fun W W' => ∀ g t cs, g ≠ w.heap.size → Blk W g t cs → Blk W' g t cs) (fun W => Below w.heap.size w W ∧ W.cell? ⟨B, 0, none⟩ = some (.slice A N c) ∧ ∃ a b d, Blk W w.heap.size 27 #[a, b, d]) (by kernel_rfl) (by kernel_rfl) (by decide +kernel) rfl ⟨hb0.drew, HC.out _ hb0.drew, _, _, _, hR0⟩ ?hput ?hloc ?hmono ?hstep ?hdone
    case hput =>
      intro d hd y v
      simp only [List.filterMap_cons, List.filterMap_nil, List.mem_cons, List.not_mem_nil, or_false] at hd
      rcases hd with rfl | rfl | rfl | rfl | rfl | rfl | rfl | rfl | rfl | rfl | rfl | rfl | rfl | rfl | rfl | rfl | rfl | rfl | rfl | rfl | rfl | rfl | rfl
      all_goals rfl
    case hloc =>
      intro j hj y y' W hk hx
      have hj' : j = 16 ∨ j = 21 ∨ j = 23 := by simpa [or_assoc] using hj
      rcases hj' with rfl | rfl | rfl
      · simp only [List.forall_mem_cons, List.not_mem_nil, false_imp_iff, implies_true, and_true] at hk
        show _
        simpa only [hk] using hx
      · simp only [List.forall_mem_cons, List.not_mem_nil, false_imp_iff, implies_true, and_true] at hk
        show _
        simpa only [hk] using hx
      · skip
        exact hx
    case hmono =>
      intro j hj hlast y W W' hg hx
      have hj' : j = 16 ∨ j = 21 ∨ j = 23 := by simpa [or_assoc] using hj
      rcases hj' with rfl | rfl | rfl
      · exact pass_g hg hx
      · exact pass_g hg hx
      · exact absurd hlast (by decide)
    case hdone =>
      intro y W hS hd
      have x23 : (fun (y : Nat → Value) (W : World) => Blk W w.heap.size 27 #[.int .i64 2, .int .i64 W7, .int .i64 0]) y W := (hd 23 (by decide)).ex rfl
      obtain ⟨hb, hc, a, b, d, hr⟩ := hS
      have r0 := x23.cell 0
      have r1 := x23.cell 1
      have r2 := x23.cell 2
      go_wp2_with fail
      exact bodyPost_ret (v := .agg #[.int .i64 2, .int .i64 W7, .int .i64 0]) (by simp [results, Tryd.results82, go_sem, r0, r1, r2]) rfl ⟨rfl, hb⟩
    case hstep =>
      refine StepsOk.cons (StepOk.known rfl fun y W hS hd K' hK => ?_) ?_
      · skip
        clear hd
        go_simp
        exact hK.out _ _ rfl (fun _ _ _ _ h => h) hS
      refine StepsOk.cons (StepOk.known rfl fun y W hS hd K' hK => ?_) ?_
      · skip
        have e8 : y 8 = .int .i64 W7 := (hd 0 rfl).val rfl rfl
        clear hd
        go_simp
        exact hK.out _ _ (by first | rfl | (simp only [e8]; done) | (simp only [e8]; rfl)) (fun _ _ _ _ h => h) hS
      refine StepsOk.cons (StepOk.known rfl fun y W hS hd K' hK => ?_) ?_
      · skip
        clear hd
        go_simp
        exact hK.out _ _ rfl (fun _ _ _ _ h => h) hS
      refine StepsOk.cons (StepOk.known rfl fun y W hS hd K' hK => ?_) ?_
      · skip
        clear hd
        have hc := hS.2.1
        go_simp
        exact hK.out _ _ rfl (fun _ _ _ _ h => h) hS
      refine StepsOk.cons (StepOk.known rfl fun y W hS hd K' hK => ?_) ?_
      · skip
        clear hd
        go_simp
        exact hK.out _ _ rfl (fun _ _ _ _ h => h) hS
      refine StepsOk.cons (StepOk.known rfl fun y W hS hd K' hK => ?_) ?_
      · skip
        have e12 : y 12 = .int .i64 J := (hd 4 rfl).val rfl rfl
        clear hd
        go_simp
        exact hK.out _ _ (by first | rfl | (simp only [e12]; done) | (simp only [e12]; rfl)) (fun _ _ _ _ h => h) hS
      refine StepsOk.cons (StepOk.known rfl fun y W hS hd K' hK => ?_) ?_
      · skip
        have e11 : y 11 = .slice A N c := (hd 3 rfl).val rfl rfl
        have e13 : y 13 = .int .i64 (J + 1) := (hd 5 rfl).val rfl rfl
        clear hd
        go_simp
        refine (c2.out _ hS.1).mono ?_
        rintro e W' ⟨rfl, rfl⟩
        go_wp2_with fail
        exact hK.out _ _ (by first | rfl | (simp only [e11, e13]; done) | (simp only [e11, e13]; rfl)) (fun _ _ _ _ h => h) hS
      refine StepsOk.cons (StepOk.known rfl fun y W hS hd K' hK => ?_) ?_
      · skip
        have e14 : y 14 = .int .i64 X4 := (hd 6 rfl).val rfl rfl
        clear hd
        go_simp
        exact hK.out _ _ (by first | rfl | (simp only [e14]; done) | (simp only [e14]; rfl)) (fun _ _ _ _ h => h) hS
      refine StepsOk.cons (StepOk.known rfl fun y W hS hd K' hK => ?_) ?_
      · skip
        have e15 : y 15 = .int .i64 (7 * X4) := (hd 7 rfl).val rfl rfl
        clear hd
        go_simp
        exact hK.out _ _ (by first | rfl | (simp only [e15]; done) | (simp only [e15]; rfl)) (fun _ _ _ _ h => h) hS
      refine StepsOk.cons (StepOk.known rfl fun y W hS hd K' hK => ?_) ?_
      · skip
        have e10 : y 10 = .int .i64 W7 := (hd 2 rfl).val rfl rfl
        have e16 : y 16 = .int .i64 (1 + 7 * X4) := (hd 8 rfl).val rfl rfl
        clear hd
        go_simp
        exact hK.out _ _ (by first | rfl | (simp only [e10, e16]; done) | (simp only [e10, e16]; rfl)) (fun _ _ _ _ h => h) hS
      refine StepsOk.cons (StepOk.known rfl fun y W hS hd K' hK => ?_) ?_
      · skip
        clear hd
        have hc := hS.2.1
        go_simp
        exact hK.out _ _ rfl (fun _ _ _ _ h => h) hS
      refine StepsOk.cons (StepOk.known rfl fun y W hS hd K' hK => ?_) ?_
      · skip
        clear hd
        go_simp
        exact hK.out _ _ rfl (fun _ _ _ _ h => h) hS
      refine StepsOk.cons (StepOk.known rfl fun y W hS hd K' hK => ?_) ?_
      · skip
        have e19 : y 19 = .int .i64 J := (hd 11 rfl).val rfl rfl
        clear hd
        go_simp
        exact hK.out _ _ (by first | rfl | (simp only [e19]; done) | (simp only [e19]; rfl)) (fun _ _ _ _ h => h) hS
      refine StepsOk.cons (StepOk.known rfl fun y W hS hd K' hK => ?_) ?_
      · skip
        have e14 : y 14 = .int .i64 X4 := (hd 6 rfl).val rfl rfl
        have e18 : y 18 = .slice A N c := (hd 10 rfl).val rfl rfl
        have e20 : y 20 = .int .i64 (J + 1) := (hd 12 rfl).val rfl rfl
        clear hd
        go_simp
        refine (c3.out _ hS.1).mono ?_
        rintro e W' ⟨rfl, rfl⟩
        go_wp2_with fail
        exact hK.out _ _ (by first | rfl | (simp only [e14, e18, e20]; done) | (simp only [e14, e18, e20]; rfl)) (fun _ _ _ _ h => h) hS
      refine StepsOk.cons (StepOk.known rfl fun y W hS hd K' hK => ?_) ?_
      · skip
        have e21 : y 21 = .int .i64 X28 := (hd 13 rfl).val rfl rfl
        clear hd
        go_simp
        exact hK.out _ _ (by first | rfl | (simp only [e21]; done) | (simp only [e21]; rfl)) (fun _ _ _ _ h => h) hS
      refine StepsOk.cons (StepOk.known rfl fun y W hS hd K' hK => ?_) ?_
      · skip
        have e22 : y 22 = .int .i64 (1 + X28) := (hd 14 rfl).val rfl rfl
        clear hd
        go_simp
        exact hK.out _ _ (by first | rfl | (simp only [e22]; done) | (simp only [e22]; rfl)) (fun _ _ _ _ h => h) hS
      refine StepsOk.cons (StepOk.other rfl fun y W hS hd K' hK => ?_) ?_
      · skip
        have e9 : y 9 = .agg #[.int .i64 2, .int .i64 W7, .int .i64 0] := (hd 1 rfl).val rfl rfl
        have e17 : y 17 = .agg #[.int .i64 3, .int .i64 W7, .int .i64 (1 + 7 * X4)] := (hd 9 rfl).val rfl rfl
        have e23 : y 23 = .agg #[.int .i64 1, .int .i64 0, .int .i64 (1 + X28)] := (hd 15 rfl).val rfl rfl
        clear hd
        obtain ⟨hb, hc, a, b, d, hr⟩ := hS
        go_simp
        exact hK.out _ _ _ (by first | rfl | (simp only [e9, e17, e23]; done) | (simp only [e9, e17, e23]; rfl)) (fun _ _ _ _ h => h.alloc _) ⟨hb.alloc hb.size _, (hS2 (hb.alloc hb.size _)), a, b, d, hr.alloc _⟩ (show ∃ g, _ = Value.slice (some ⟨g, 0, none⟩) 3 3 ∧ g ≠ w.heap.size ∧ Blk _ g 27 #[.int .i64 2, .int .i64 W7, .int .i64 0, .int .i64 3, .int .i64 W7, .int .i64 (1 + 7 * X4), .int .i64 1, .int .i64 0, .int .i64 (1 + X28)] from ⟨_, rfl, by have := hr.lt; omega, Blk.new W _ _⟩)
      refine StepsOk.cons (StepOk.known rfl fun y W hS hd K' hK => ?_) ?_
      · skip
        clear hd
        have hc := hS.2.1
        go_simp
        exact hK.out _ _ rfl (fun _ _ _ _ h => h) hS
      refine StepsOk.cons (StepOk.known rfl fun y W hS hd K' hK => ?_) ?_
      · skip
        clear hd
        go_simp
        exact hK.out _ _ rfl (fun _ _ _ _ h => h) hS
      refine StepsOk.cons (StepOk.known rfl fun y W hS hd K' hK => ?_) ?_
      · skip
        have e26 : y 26 = .int .i64 J := (hd 18 rfl).val rfl rfl
        clear hd
        go_simp
        exact hK.out _ _ (by first | rfl | (simp only [e26]; done) | (simp only [e26]; rfl)) (fun _ _ _ _ h => h) hS
      refine StepsOk.cons (StepOk.known rfl fun y W hS hd K' hK => ?_) ?_
      · skip
        have e21 : y 21 = .int .i64 X28 := (hd 13 rfl).val rfl rfl
        have e25 : y 25 = .slice A N c := (hd 17 rfl).val rfl rfl
        have e27 : y 27 = .int .i64 (J + 2) := (hd 19 rfl).val rfl rfl
        clear hd
        go_simp
        refine (c4.out _ hS.1).mono ?_
        rintro e W' ⟨rfl, rfl⟩
        go_wp2_with fail
        exact hK.out _ _ (by first | rfl | (simp only [e21, e25, e27]; done) | (simp only [e21, e25, e27]; rfl)) (fun _ _ _ _ h => h) hS
      refine StepsOk.cons (StepOk.other rfl fun y W hS hd K' hK => ?_) ?_
      · skip
        have x16 : (fun (y : Nat → Value) (W : World) => ∃ g, y 24 = .slice (some ⟨g, 0, none⟩) 3 3 ∧ g ≠ w.heap.size ∧ Blk W g 27 #[.int .i64 2, .int .i64 W7, .int .i64 0, .int .i64 3, .int .i64 W7, .int .i64 (1 + 7 * X4), .int .i64 1, .int .i64 0, .int .i64 (1 + X28)]) y W := (hd 16 rfl).ex rfl
        have e28 : y 28 = .int .i64 0 := (hd 20 rfl).val rfl rfl
        clear hd
        obtain ⟨g, h1, h2, h3⟩ := x16
        go_simp
        exact hK.out _ _ _ (by first | rfl | (simp only [e28, h1]; done) | (simp only [e28, h1]; rfl)) (fun _ _ _ _ h => h) hS (show ∃ g, _ = Value.pointer (some ⟨g, 0, none⟩) ∧ g ≠ w.heap.size ∧ Blk W g 27 #[.int .i64 2, .int .i64 W7, .int .i64 0, .int .i64 3, .int .i64 W7, .int .i64 (1 + 7 * X4), .int .i64 1, .int .i64 0, .int .i64 (1 + X28)] from ⟨g, rfl, h2, h3⟩)
      refine StepsOk.cons (StepOk.known rfl fun y W hS hd K' hK => ?_) ?_
      · skip
        have x21 : (fun (y : Nat → Value) (W : World) => ∃ g, y 29 = .pointer (some ⟨g, 0, none⟩) ∧ g ≠ w.heap.size ∧ Blk W g 27 #[.int .i64 2, .int .i64 W7, .int .i64 0, .int .i64 3, .int .i64 W7, .int .i64 (1 + 7 * X4), .int .i64 1, .int .i64 0, .int .i64 (1 + X28)]) y W := (hd 21 rfl).ex rfl
        clear hd
        obtain ⟨g, h1, h2, h3⟩ := x21
        have k0 := (h3.cell 0).trans rfl
        have k1 := (h3.cell 1).trans rfl
        have k2 := (h3.cell 2).trans rfl
        go_simp
        exact hK.out _ _ (by first | rfl | (simp only [h1]; done) | (simp only [h1]; rfl)) (fun _ _ _ _ h => h) hS
      refine StepsOk.cons (StepOk.other rfl fun y W hS hd K' hK => ?_) ?_
      · skip
        have e8 : y 8 = .int .i64 W7 := (hd 0 rfl).val rfl rfl
        have e9 : y 9 = .agg #[.int .i64 2, .int .i64 W7, .int .i64 0] := (hd 1 rfl).val rfl rfl
        have e10 : y 10 = .int .i64 W7 := (hd 2 rfl).val rfl rfl
        have e11 : y 11 = .slice A N c := (hd 3 rfl).val rfl rfl
        have e12 : y 12 = .int .i64 J := (hd 4 rfl).val rfl rfl
        have e13 : y 13 = .int .i64 (J + 1) := (hd 5 rfl).val rfl rfl
        have e14 : y 14 = .int .i64 X4 := (hd 6 rfl).val rfl rfl
        have e15 : y 15 = .int .i64 (7 * X4) := (hd 7 rfl).val rfl rfl
        have e16 : y 16 = .int .i64 (1 + 7 * X4) := (hd 8 rfl).val rfl rfl
        have e17 : y 17 = .agg #[.int .i64 3, .int .i64 W7, .int .i64 (1 + 7 * X4)] := (hd 9 rfl).val rfl rfl
        have e18 : y 18 = .slice A N c := (hd 10 rfl).val rfl rfl
        have e19 : y 19 = .int .i64 J := (hd 11 rfl).val rfl rfl
        have e20 : y 20 = .int .i64 (J + 1) := (hd 12 rfl).val rfl rfl
        have e21 : y 21 = .int .i64 X28 := (hd 13 rfl).val rfl rfl
        have e22 : y 22 = .int .i64 (1 + X28) := (hd 14 rfl).val rfl rfl
        have e23 : y 23 = .agg #[.int .i64 1, .int .i64 0, .int .i64 (1 + X28)] := (hd 15 rfl).val rfl rfl
        have x16 : (fun (y : Nat → Value) (W : World) => ∃ g, y 24 = .slice (some ⟨g, 0, none⟩) 3 3 ∧ g ≠ w.heap.size ∧ Blk W g 27 #[.int .i64 2, .int .i64 W7, .int .i64 0, .int .i64 3, .int .i64 W7, .int .i64 (1 + 7 * X4), .int .i64 1, .int .i64 0, .int .i64 (1 + X28)]) y W := (hd 16 rfl).ex rfl
        have e25 : y 25 = .slice A N c := (hd 17 rfl).val rfl rfl
        have e26 : y 26 = .int .i64 J := (hd 18 rfl).val rfl rfl
        have e27 : y 27 = .int .i64 (J + 2) := (hd 19 rfl).val rfl rfl
        have e28 : y 28 = .int .i64 0 := (hd 20 rfl).val rfl rfl
        have x21 : (fun (y : Nat → Value) (W : World) => ∃ g, y 29 = .pointer (some ⟨g, 0, none⟩) ∧ g ≠ w.heap.size ∧ Blk W g 27 #[.int .i64 2, .int .i64 W7, .int .i64 0, .int .i64 3, .int .i64 W7, .int .i64 (1 + 7 * X4), .int .i64 1, .int .i64 0, .int .i64 (1 + X28)]) y W := (hd 21 rfl).ex rfl
        have e30 : y 30 = .agg #[.int .i64 2, .int .i64 W7, .int .i64 0] := (hd 22 rfl).val rfl rfl
        clear hd
        obtain ⟨hb, hc, a, b, d, hr⟩ := hS
        have k0 := (hr.cell 0).trans rfl
        have k1 := (hr.cell 1).trans rfl
        have k2 := (hr.cell 2).trans rfl
        have f0 := hr.frozen 0
        have f1 := hr.frozen 1
        have f2 := hr.frozen 2
        have hr3 := ((hr.set_ 0 (.int .i64 2)).set_ 1 (.int .i64 W7)).set_ 2 (.int .i64 0)
        have hb3 := ((hb.setCell (p := ⟨w.heap.size, 0, none⟩) (Nat.le_refl _) (.int .i64 2)).setCell (p := ⟨w.heap.size, 1, none⟩) (Nat.le_refl _) (.int .i64 W7)).setCell (p := ⟨w.heap.size, 2, none⟩) (Nat.le_refl _) (.int .i64 0)
        go_simp
        exact hK.out undef _ _ (by first | rfl | (simp only [e8, e9, e10, e11, e12, e13, e14, e15, e16, e17, e18, e19, e20, e21, e22, e23, e25, e26, e27, e28, e30]; done) | (simp only [e8, e9, e10, e11, e12, e13, e14, e15, e16, e17, e18, e19, e20, e21, e22, e23, e25, e26, e27, e28, e30]; rfl)) (fun g _ _ hg h => ((h.far hg _).far hg _).far hg _) ⟨hb3, hS2 hb3, _, _, _, hr3⟩ hr3
      exact StepsOk.nil
  · go_enter Tryd.func82, Tryd.ntmps82
    go_wp2_with fail
    refine (c1.out _ hb0).mono ?_
    rintro e w1 ⟨rfl, rfl⟩
    go_upto_region 2 with fail
    refine wp_region_shape [(some 8, []), (some 9, [0]), (some 10, []), (some 11, []), (some 12, []), (some 13, [4]), (some 14, [3, 5]), (some 15, [6]), (some 16, [7]), (some 17, [2, 8]), (some 18, []), (some 19, []), (some 20, [11]), (some 21, [10, 12, 6]), (some 22, [13]), (some 23, [14]), (some 24, [1, 9, 15]), (some 25, []), (some 26, []), (some 27, [18]), (some 28, [17, 19, 13]), (some 29, [16, 20]), (some 30, [21]), (none, [22, 20, 0, 1, 2, 3, 4, 5, 6, 7, 8, 9, 10, 11, 12, 13, 14, 15, 16, 17, 18, 19, 20, 21, 22])] (fun y => { tmps := #[.int .i64 J, .pointer (some ⟨B, 0, none⟩), undef, .pointer (some ⟨w.heap.size, 0, none⟩), .int .i64 W7, .slice A N c, .int .i64 J, .int .i64 W7, y 8, y 9, y 10, y 11, y 12, y 13, y 14, y 15, y 16, y 17, y 18, y 19, y 20, y 21, y 22, y 23, y 24, y 25, y 26, y 27, y 28, y 29, y 30], defers := [] }) (fun _ => undef) (fun j => j == 16 || j == 21 || j == 23) [.int .i64 W7, .agg #[.int .i64 2, .int .i64 W7, .int .i64 0], .int .i64 W7, .slice A N c, .int .i64 J, .int .i64 (J + 1), .int .i64 X4, .int .i64 (7 * X4), .int .i64 (1 + 7 * X4), .agg #[.int .i64 3, .int .i64 W7, .int .i64 (1 + 7 * X4)], .slice A N c, .int .i64 J, .int .i64 (J + 1), .int .i64 X28, .int .i64 (1 + X28), .agg #[.int .i64 1, .int .i64 0, .int .i64 (1 + X28)], undef, .slice A N c, .int .i64 J, .int .i64 (J + 2), .int .i64 1, undef, .agg #[.int .i64 3, .int .i64 W7, .int .i64 (1 + 7 * X4)], undef] (fun j y W => match j with | 16 => ∃ g, y 24 = .slice (some ⟨g, 0, none⟩) 3 3 ∧ g ≠ w.heap.size ∧ Blk W g 27 #[.int .i64 2, .int .i64 W7, .int .i64 0, .int .i64 3, .int .i64 W7, .int .i64 (1 + 7 * X4), .int .i64 1, .int .i64 0, .int .i64 (1 + X28)] | 21 => ∃ g, y 29 = .pointer (some ⟨g, 3, none⟩) ∧ g ≠ w.heap.size ∧ Blk W g 27 #[.int .i64 2, .int .i64 W7, .int .i64 0, .int .i64 3, .int .i64 W7, .int .i64 (1 + 7 * X4), .int .i64 1, .int .i64 0, .int .i64 (1 + X28)] | 23 => Blk W w.heap.size 27 #[.int .i64 3, .int .i64 W7, .int .i64 (1 + 7 * X4)] | _ => True) (fun j => match j with | 16 => [24] | 21 => [29] | 23 => [] | _ => []) (fun W W' => ∀ g t cs, g ≠ w.heap.size → Blk W g t cs → Blk W' g t cs) (fun W => Below w.heap.size w W ∧ W.cell? ⟨B, 0, none⟩ = some (.slice A N c) ∧ ∃ a b d, Blk W w.heap.size 27 #[a, b, d]) (by kernel_rfl) (by kernel_rfl) (by decide +kernel) rfl ⟨hb0.drew, HC.out _ hb0.drew, _, _, _, hR0⟩ ?hput ?hloc ?hmono ?hstep ?hdone
    case hput =>
      intro d hd y v
      simp only [List.filterMap_cons, List.filterMap_nil, List.mem_cons, List.not_mem_nil, or_false] at hd
      rcases hd with rfl | rfl | rfl | rfl | rfl | rfl | rfl | rfl | rfl | rfl | rfl | rfl | rfl | rfl | rfl | rfl | rfl | rfl | rfl | rfl | rfl | rfl | rfl
      all_goals rfl
    case hloc =>
      intro j hj y y' W hk hx
      have hj' : j = 16 ∨ j = 21 ∨ j = 23 := by simpa [or_assoc] using hj
      rcases hj' with rfl | rfl | rfl
      · simp only [List.forall_mem_cons, List.not_mem_nil, false_imp_iff, implies_true, and_true] at hk
        show _
        simpa only [hk] using hx
      · simp only [List.forall_mem_cons, List.not_mem_nil, false_imp_iff, implies_true, and_true] at hk
        show _
        simpa only [hk] using hx
      · skip
        exact hx
    case hmono =>
      intro j hj hlast y W W' hg hx
      have hj' : j = 16 ∨ j = 21 ∨ j = 23 := by simpa [or_assoc] using hj
      rcases hj' with rfl | rfl | rfl
      · exact pass_g hg hx
      · exact pass_g hg hx
      · exact absurd hlast (by decide)
    case hdone =>
      intro y W hS hd
      have x23 : (fun (y : Nat → Value) (W : World) => Blk W w.heap.size 27 #[.int .i64 3, .int .i64 W7, .int .i64 (1 + 7 * X4)]) y W := (hd 23 (by decide)).ex rfl
      obtain ⟨hb, hc, a, b, d, hr⟩ := hS
      have r0 := x23.cell 0
      have r1 := x23.cell 1
      have r2 := x23.cell 2
      go_wp2_with fail
      exact bodyPost_ret (v := .agg #[.int .i64 3, .int .i64 W7, .int .i64 (1 + 7 * X4)]) (by simp [results, Tryd.results82, go_sem, r0, r1, r2]) rfl ⟨rfl, hb⟩
    case hstep =>
      refine StepsOk.cons (StepOk.known rfl fun y W hS hd K' hK => ?_) ?_
      · skip
        clear hd
        go_simp
        exact hK.out _ _ rfl (fun _ _ _ _ h => h) hS
      refine StepsOk.cons (StepOk.known rfl fun y W hS hd K' hK => ?_) ?_
      · skip
        have e8 : y 8 = .int .i64 W7 := (hd 0 rfl).val rfl rfl
        clear hd
        go_simp
        exact hK.out _ _ (by first | rfl | (simp only [e8]; done) | (simp only [e8]; rfl)) (fun _ _ _ _ h => h) hS
      refine StepsOk.cons (StepOk.known rfl fun y W hS hd K' hK => ?_) ?_
      · skip
        clear hd
        go_simp
        exact hK.out _ _ rfl (fun _ _ _ _ h => h) hS
      refine StepsOk.cons (StepOk.known rfl fun y W hS hd K' hK => ?_) ?_
      · skip
        clear hd
        have hc := hS.2.1
        go_simp
        exact hK.out _ _ rfl (fun _ _ _ _ h => h) hS
      refine StepsOk.cons (StepOk.known rfl fun y W hS hd K' hK => ?_) ?_
      · skip
        clear hd
        go_simp
        exact hK.out _ _ rfl (fun _ _ _ _ h => h) hS
      refine StepsOk.cons (StepOk.known rfl fun y W hS hd K' hK => ?_) ?_
      · skip
        have e12 : y 12 = .int .i64 J := (hd 4 rfl).val rfl rfl
        clear hd
        go_simp
        exact hK.out _ _ (by first | rfl | (simp only [e12]; done) | (simp only [e12]; rfl)) (fun _ _ _ _ h => h) hS
      refine StepsOk.cons (StepOk.known rfl fun y W hS hd K' hK => ?_) ?_
      · skip
        have e11 : y 11 = .slice A N c := (hd 3 rfl).val rfl rfl
        have e13 : y 13 = .int .i64 (J + 1) := (hd 5 rfl).val rfl rfl
        clear hd
        go_simp
        refine (c2.out _ hS.1).mono ?_
        rintro e W' ⟨rfl, rfl⟩
        go_wp2_with fail
        exact hK.out _ _ (by first | rfl | (simp only [e11, e13]; done) | (simp only [e11, e13]; rfl)) (fun _ _ _ _ h => h) hS
      refine StepsOk.cons (StepOk.known rfl fun y W hS hd K' hK => ?_) ?_
      · skip
        have e14 : y 14 = .int .i64 X4 := (hd 6 rfl).val rfl rfl
        clear hd
        go_simp
        exact hK.out _ _ (by first | rfl | (simp only [e14]; done) | (simp only [e14]; rfl)) (fun _ _ _ _ h => h) hS
      refine StepsOk.cons (StepOk.known rfl fun y W hS hd K' hK => ?_) ?_
      · skip
        have e15 : y 15 = .int .i64 (7 * X4) := (hd 7 rfl).val rfl rfl
        clear hd
        go_simp
        exact hK.out _ _ (by first | rfl | (simp only [e15]; done) | (simp only [e15]; rfl)) (fun _ _ _ _ h => h) hS
      refine StepsOk.cons (StepOk.known rfl fun y W hS hd K' hK => ?_) ?_
      · skip
        have e10 : y 10 = .int .i64 W7 := (hd 2 rfl).val rfl rfl
        have e16 : y 16 = .int .i64 (1 + 7 * X4) := (hd 8 rfl).val rfl rfl
        clear hd
        go_simp
        exact hK.out _ _ (by first | rfl | (simp only [e10, e16]; done) | (simp only [e10, e16]; rfl)) (fun _ _ _ _ h => h) hS
      refine StepsOk.cons (StepOk.known rfl fun y W hS hd K' hK => ?_) ?_
      · skip
        clear hd
        have hc := hS.2.1
        go_simp
        exact hK.out _ _ rfl (fun _ _ _ _ h => h) hS
      refine StepsOk.cons (StepOk.known rfl fun y W hS hd K' hK => ?_) ?_
      · skip
        clear hd
        go_simp
        exact hK.out _ _ rfl (fun _ _ _ _ h => h) hS
      refine StepsOk.cons (StepOk.known rfl fun y W hS hd K' hK => ?_) ?_
      · skip
        have e19 : y 19 = .int .i64 J := (hd 11 rfl).val rfl rfl
        clear hd
        go_simp
        exact hK.out _ _ (by first | rfl | (simp only [e19]; done) | (simp only [e19]; rfl)) (fun _ _ _ _ h => h) hS
      refine StepsOk.cons (StepOk.known rfl fun y W hS hd K' hK => ?_) ?_
      · skip
        have e14 : y 14 = .int .i64 X4 := (hd 6 rfl).val rfl rfl
        have e18 : y 18 = .slice A N c := (hd 10 rfl).val rfl rfl
        have e20 : y 20 = .int .i64 (J + 1) := (hd 12 rfl).val rfl rfl
        clear hd
        go_simp
        refine (c3.out _ hS.1).mono ?_
        rintro e W' ⟨rfl, rfl⟩
        go_wp2_with fail
        exact hK.out _ _ (by first | rfl | (simp only [e14, e18, e20]; done) | (simp only [e14, e18, e20]; rfl)) (fun _ _ _ _ h => h) hS
      refine StepsOk.cons (StepOk.known rfl fun y W hS hd K' hK => ?_) ?_
      · skip
        have e21 : y 21 = .int .i64 X28 := (hd 13 rfl).val rfl rfl
        clear hd
        go_simp
        exact hK.out _ _ (by first | rfl | (simp only [e21]; done) | (simp only [e21]; rfl)) (fun _ _ _ _ h => h) hS
      refine StepsOk.cons (StepOk.known rfl fun y W hS hd K' hK => ?_) ?_
      · skip
        have e22 : y 22 = .int .i64 (1 + X28) := (hd 14 rfl).val rfl rfl
        clear hd
        go_simp
        exact hK.out _ _ (by first | rfl | (simp only [e22]; done) | (simp only [e22]; rfl)) (fun _ _ _ _ h => h) hS
      refine StepsOk.cons (StepOk.other rfl fun y W hS hd K' hK => ?_) ?_
      · skip
        have e9 : y 9 = .agg #[.int .i64 2, .int .i64 W7, .int .i64 0] := (hd 1 rfl).val rfl rfl
        have e17 : y 17 = .agg #[.int .i64 3, .int .i64 W7, .int .i64 (1 + 7 * X4)] := (hd 9 rfl).val rfl rfl
        have e23 : y 23 = .agg #[.int .i64 1, .int .i64 0, .int .i64 (1 + X28)] := (hd 15 rfl).val rfl rfl
        clear hd
        obtain ⟨hb, hc, a, b, d, hr⟩ := hS
        go_simp
        exact hK.out _ _ _ (by first | rfl | (simp only [e9, e17, e23]; done) | (simp only [e9, e17, e23]; rfl)) (fun _ _ _ _ h => h.alloc _) ⟨hb.alloc hb.size _, (hS2 (hb.alloc hb.size _)), a, b, d, hr.alloc _⟩ (show ∃ g, _ = Value.slice (some ⟨g, 0, none⟩) 3 3 ∧ g ≠ w.heap.size ∧ Blk _ g 27 #[.int .i64 2, .int .i64 W7, .int .i64 0, .int .i64 3, .int .i64 W7, .int .i64 (1 + 7 * X4), .int .i64 1, .int .i64 0, .int .i64 (1 + X28)] from ⟨_, rfl, by have := hr.lt; omega, Blk.new W _ _⟩)
      refine StepsOk.cons (StepOk.known rfl fun y W hS hd K' hK => ?_) ?_
      · skip
        clear hd
        have hc := hS.2.1
        go_simp
        exact hK.out _ _ rfl (fun _ _ _ _ h => h) hS
      refine StepsOk.cons (StepOk.known rfl fun y W hS hd K' hK => ?_) ?_
      · skip
        clear hd
        go_simp
        exact hK.out _ _ rfl (fun _ _ _ _ h => h) hS
      refine StepsOk.cons (StepOk.known rfl fun y W hS hd K' hK => ?_) ?_
      · skip
        have e26 : y 26 = .int .i64 J := (hd 18 rfl).val rfl rfl
        clear hd
        go_simp
        exact hK.out _ _ (by first | rfl | (simp only [e26]; done) | (simp only [e26]; rfl)) (fun _ _ _ _ h => h) hS
      refine StepsOk.cons (StepOk.known rfl fun y W hS hd K' hK => ?_) ?_
      · skip
        have e21 : y 21 = .int .i64 X28 := (hd 13 rfl).val rfl rfl
        have e25 : y 25 = .slice A N c := (hd 17 rfl).val rfl rfl
        have e27 : y 27 = .int .i64 (J + 2) := (hd 19 rfl).val rfl rfl
        clear hd
        go_simp
        refine (c4.out _ hS.1).mono ?_
        rintro e W' ⟨rfl, rfl⟩
        go_wp2_with fail
        exact hK.out _ _ (by first | rfl | (simp only [e21, e25, e27]; done) | (simp only [e21, e25, e27]; rfl)) (fun _ _ _ _ h => h) hS
      refine StepsOk.cons (StepOk.other rfl fun y W hS hd K' hK => ?_) ?_
      · skip
        have x16 : (fun (y : Nat → Value) (W : World) => ∃ g, y 24 = .slice (some ⟨g, 0, none⟩) 3 3 ∧ g ≠ w.heap.size ∧ Blk W g 27 #[.int .i64 2, .int .i64 W7, .int .i64 0, .int .i64 3, .int .i64 W7, .int .i64 (1 + 7 * X4), .int .i64 1, .int .i64 0, .int .i64 (1 + X28)]) y W := (hd 16 rfl).ex rfl
        have e28 : y 28 = .int .i64 1 := (hd 20 rfl).val rfl rfl
        clear hd
        obtain ⟨g, h1, h2, h3⟩ := x16
        go_simp
        exact hK.out _ _ _ (by first | rfl | (simp only [e28, h1]; done) | (simp only [e28, h1]; rfl)) (fun _ _ _ _ h => h) hS (show ∃ g, _ = Value.pointer (some ⟨g, 3, none⟩) ∧ g ≠ w.heap.size ∧ Blk W g 27 #[.int .i64 2, .int .i64 W7, .int .i64 0, .int .i64 3, .int .i64 W7, .int .i64 (1 + 7 * X4), .int .i64 1, .int .i64 0, .int .i64 (1 + X28)] from ⟨g, rfl, h2, h3⟩)
      refine StepsOk.cons (StepOk.known rfl fun y W hS hd K' hK => ?_) ?_
      · skip
        have x21 : (fun (y : Nat → Value) (W : World) => ∃ g, y 29 = .pointer (some ⟨g, 3, none⟩) ∧ g ≠ w.heap.size ∧ Blk W g 27 #[.int .i64 2, .int .i64 W7, .int .i64 0, .int .i64 3, .int .i64 W7, .int .i64 (1 + 7 * X4), .int .i64 1, .int .i64 0, .int .i64 (1 + X28)]) y W := (hd 21 rfl).ex rfl
        clear hd
        obtain ⟨g, h1, h2, h3⟩ := x21
        have k0 := (h3.cell 3).trans rfl
        have k1 := (h3.cell 4).trans rfl
        have k2 := (h3.cell 5).trans rfl
        go_simp
        exact hK.out _ _ (by first | rfl | (simp only [h1]; done) | (simp only [h1]; rfl)) (fun _ _ _ _ h => h) hS
      refine StepsOk.cons (StepOk.other rfl fun y W hS hd K' hK => ?_) ?_
      · skip
        have e8 : y 8 = .int .i64 W7 := (hd 0 rfl).val rfl rfl
        have e9 : y 9 = .agg #[.int .i64 2, .int .i64 W7, .int .i64 0] := (hd 1 rfl).val rfl rfl
        have e10 : y 10 = .int .i64 W7 := (hd 2 rfl).val rfl rfl
        have e11 : y 11 = .slice A N c := (hd 3 rfl).val rfl rfl
        have e12 : y 12 = .int .i64 J := (hd 4 rfl).val rfl rfl
        have e13 : y 13 = .int .i64 (J + 1) := (hd 5 rfl).val rfl rfl
        have e14 : y 14 = .int .i64 X4 := (hd 6 rfl).val rfl rfl
        have e15 : y 15 = .int .i64 (7 * X4) := (hd 7 rfl).val rfl rfl
        have e16 : y 16 = .int .i64 (1 + 7 * X4) := (hd 8 rfl).val rfl rfl
        have e17 : y 17 = .agg #[.int .i64 3, .int .i64 W7, .int .i64 (1 + 7 * X4)] := (hd 9 rfl).val rfl rfl
        have e18 : y 18 = .slice A N c := (hd 10 rfl).val rfl rfl
        have e19 : y 19 = .int .i64 J := (hd 11 rfl).val rfl rfl
        have e20 : y 20 = .int .i64 (J + 1) := (hd 12 rfl).val rfl rfl
        have e21 : y 21 = .int .i64 X28 := (hd 13 rfl).val rfl rfl
        have e22 : y 22 = .int .i64 (1 + X28) := (hd 14 rfl).val rfl rfl
        have e23 : y 23 = .agg #[.int .i64 1, .int .i64 0, .int .i64 (1 + X28)] := (hd 15 rfl).val rfl rfl
        have x16 : (fun (y : Nat → Value) (W : World) => ∃ g, y 24 = .slice (some ⟨g, 0, none⟩) 3 3 ∧ g ≠ w.heap.size ∧ Blk W g 27 #[.int .i64 2, .int .i64 W7, .int .i64 0, .int .i64 3, .int .i64 W7, .int .i64 (1 + 7 * X4), .int .i64 1, .int .i64 0, .int .i64 (1 + X28)]) y W := (hd 16 rfl).ex rfl
        have e25 : y 25 = .slice A N c := (hd 17 rfl).val rfl rfl
        have e26 : y 26 = .int .i64 J := (hd 18 rfl).val rfl rfl
        have e27 : y 27 = .int .i64 (J + 2) := (hd 19 rfl).val rfl rfl
        have e28 : y 28 = .int .i64 1 := (hd 20 rfl).val rfl rfl
        have x21 : (fun (y : Nat → Value) (W : World) => ∃ g, y 29 = .pointer (some ⟨g, 3, none⟩) ∧ g ≠ w.heap.size ∧ Blk W g 27 #[.int .i64 2, .int .i64 W7, .int .i64 0, .int .i64 3, .int .i64 W7, .int .i64 (1 + 7 * X4), .int .i64 1, .int .i64 0, .int .i64 (1 + X28)]) y W := (hd 21 rfl).ex rfl
        have e30 : y 30 = .agg #[.int .i64 3, .int .i64 W7, .int .i64 (1 + 7 * X4)] := (hd 22 rfl).val rfl rfl
        clear hd
        obtain ⟨hb, hc, a, b, d, hr⟩ := hS
        have k0 := (hr.cell 0).trans rfl
        have k1 := (hr.cell 1).trans rfl
        have k2 := (hr.cell 2).trans rfl
        have f0 := hr.frozen 0
        have f1 := hr.frozen 1
        have f2 := hr.frozen 2
        have hr3 := ((hr.set_ 0 (.int .i64 3)).set_ 1 (.int .i64 W7)).set_ 2 (.int .i64 (1 + 7 * X4))
        have hb3 := ((hb.setCell (p := ⟨w.heap.size, 0, none⟩) (Nat.le_refl _) (.int .i64 3)).setCell (p := ⟨w.heap.size, 1, none⟩) (Nat.le_refl _) (.int .i64 W7)).setCell (p := ⟨w.heap.size, 2, none⟩) (Nat.le_refl _) (.int .i64 (1 + 7 * X4))
        go_simp
        exact hK.out undef _ _ (by first | rfl | (simp only [e8, e9, e10, e11, e12, e13, e14, e15, e16, e17, e18, e19, e20, e21, e22, e23, e25, e26, e27, e28, e30]; done) | (simp only [e8, e9, e10, e11, e12, e13, e14, e15, e16, e17, e18, e19, e20, e21, e22, e23, e25, e26, e27, e28, e30]; rfl)) (fun g _ _ hg h => ((h.far hg _).far hg _).far hg _) ⟨hb3, hS2 hb3, _, _, _, hr3⟩ hr3
      exact StepsOk.nil
  · go_enter Tryd.func82, Tryd.ntmps82
    go_wp2_with fail
    refine (c1.out _ hb0).mono ?_
    rintro e w1 ⟨rfl, rfl⟩
    go_upto_region 2 with fail
    refine wp_region_shape [(some 8, []), (some 9, [0]), (some 10, []), (some 11, []), (some 12, []), (some 13, [4]), (some 14, [3, 5]), (some 15, [6]), (some 16, [7]), (some 17, [2, 8]), (some 18, []), (some 19, []), (some 20, [11]), (some 21, [10, 12, 6]), (some 22, [13]), (some 23, [14]), (some 24, [1, 9, 15]), (some 25, []), (some 26, []), (some 27, [18]), (some 28, [17, 19, 13]), (some 29, [16, 20]), (some 30, [21]), (none, [22, 20, 0, 1, 2, 3, 4, 5, 6, 7, 8, 9, 10, 11, 12, 13, 14, 15, 16, 17, 18, 19, 20, 21, 22])] (fun y => { tmps := #[.int .i64 J, .pointer (some ⟨B, 0, none⟩), undef, .pointer (some ⟨w.heap.size, 0, none⟩), .int .i64 W7, .slice A N c, .int .i64 J, .int .i64 W7, y 8, y 9, y 10, y 11, y 12, y 13, y 14, y 15, y 16, y 17, y 18, y 19, y 20, y 21, y 22, y 23, y 24, y 25, y 26, y 27, y 28, y 29, y 30], defers := [] }) (fun _ => undef) (fun j => j == 16 || j == 21 || j == 23) [.int .i64 W7, .agg #[.int .i64 2, .int .i64 W7, .int .i64 0], .int .i64 W7, .slice A N c, .int .i64 J, .int .i64 (J + 1), .int .i64 X4, .int .i64 (7 * X4), .int .i64 (1 + 7 * X4), .agg #[.int .i64 3, .int .i64 W7, .int .i64 (1 + 7 * X4)], .slice A N c, .int .i64 J, .int .i64 (J + 1), .int .i64 X28, .int .i64 (1 + X28), .agg #[.int .i64 1, .int .i64 0, .int .i64 (1 + X28)], undef, .slice A N c, .int .i64 J, .int .i64 (J + 2), .int .i64 2, undef, .agg #[.int .i64 1, .int .i64 0, .int .i64 (1 + X28)], undef] (fun j y W => match j with | 16 => ∃ g, y 24 = .slice (some ⟨g, 0, none⟩) 3 3 ∧ g ≠ w.heap.size ∧ Blk W g 27 #[.int .i64 2, .int .i64 W7, .int .i64 0, .int .i64 3, .int .i64 W7, .int .i64 (1 + 7 * X4), .int .i64 1, .int .i64 0, .int .i64 (1 + X28)] | 21 => ∃ g, y 29 = .pointer (some ⟨g, 6, none⟩) ∧ g ≠ w.heap.size ∧ Blk W g 27 #[.int .i64 2, .int .i64 W7, .int .i64 0, .int .i64 3, .int .i64 W7, .int .i64 (1 + 7 * X4), .int .i64 1, .int .i64 0, .int .i64 (1 + X28)] | 23 => Blk W w.heap.size 27 #[.int .i64 1, .int .i64 0, .int .i64 (1 + X28)] | _ => True) (fun j => match j with | 16 => [24] | 21 => [29] | 23 => [] | _ => []) (fun W W' => ∀ g t cs, g ≠ w.heap.size → Blk W g t cs → Blk W' g t cs) (fun W => Below w.heap.size w W ∧ W.cell? ⟨B, 0, none⟩ = some (.slice A N c) ∧ ∃ a b d, Blk W w.heap.size 27 #[a, b, d]) (by kernel_rfl) (by kernel_rfl) (by decide +kernel) rfl ⟨hb0.drew, HC.out _ hb0.drew, _, _, _, hR0⟩ ?hput ?hloc ?hmono ?hstep ?hdone
    case hput =>
      intro d hd y v
      simp only [List.filterMap_cons, List.filterMap_nil, List.mem_cons, List.not_mem_nil, or_false] at hd
      rcases hd with rfl | rfl | rfl | rfl | rfl | rfl | rfl | rfl | rfl | rfl | rfl | rfl | rfl | rfl | rfl | rfl | rfl | rfl | rfl | rfl | rfl | rfl | rfl
      all_goals rfl
    case hloc =>
      intro j hj y y' W hk hx
      have hj' : j = 16 ∨ j = 21 ∨ j = 23 := by simpa [or_assoc] using hj
      rcases hj' with rfl | rfl | rfl
      · simp only [List.forall_mem_cons, List.not_mem_nil, false_imp_iff, implies_true, and_true] at hk
        show _
        simpa only [hk] using hx
      · simp only [List.forall_mem_cons, List.not_mem_nil, false_imp_iff, implies_true, and_true] at hk
        show _
        simpa only [hk] using hx
      · skip
        exact hx
    case hmono =>
      intro j hj hlast y W W' hg hx
      have hj' : j = 16 ∨ j = 21 ∨ j = 23 := by simpa [or_assoc] using hj
      rcases hj' with rfl | rfl | rfl
      · exact pass_g hg hx
      · exact pass_g hg hx
      · exact absurd hlast (by decide)
    case hdone =>
      intro y W hS hd
      have x23 : (fun (y : Nat → Value) (W : World) => Blk W w.heap.size 27 #[.int .i64 1, .int .i64 0, .int .i64 (1 + X28)]) y W := (hd 23 (by decide)).ex rfl
      obtain ⟨hb, hc, a, b, d, hr⟩ := hS
      have r0 := x23.cell 0
      have r1 := x23.cell 1
      have r2 := x23.cell 2
      go_wp2_with fail
      exact bodyPost_ret (v := .agg #[.int .i64 1, .int .i64 0, .int .i64 (1 + X28)]) (by simp [results, Tryd.results82, go_sem, r0, r1, r2]) rfl ⟨rfl, hb⟩
    case hstep =>
      refine StepsOk.cons (StepOk.known rfl fun y W hS hd K' hK => ?_) ?_
      · skip
        clear hd
        go_simp
        exact hK.out _ _ rfl (fun _ _ _ _ h => h) hS
      refine StepsOk.cons (StepOk.known rfl fun y W hS hd K' hK => ?_) ?_
      · skip
        have e8 : y 8 = .int .i64 W7 := (hd 0 rfl).val rfl rfl
        clear hd
        go_simp
        exact hK.out _ _ (by first | rfl | (simp only [e8]; done) | (simp only [e8]; rfl)) (fun _ _ _ _ h => h) hS
      refine StepsOk.cons (StepOk.known rfl fun y W hS hd K' hK => ?_) ?_
      · skip
        clear hd
        go_simp
        exact hK.out _ _ rfl (fun _ _ _ _ h => h) hS
      refine StepsOk.cons (StepOk.known rfl fun y W hS hd K' hK => ?_) ?_
      · skip
        clear hd
        have hc := hS.2.1
        go_simp
        exact hK.out _ _ rfl (fun _ _ _ _ h => h) hS
      refine StepsOk.cons (StepOk.known rfl fun y W hS hd K' hK => ?_) ?_
      · skip
        clear hd
        go_simp
        exact hK.out _ _ rfl (fun _ _ _ _ h => h) hS
      refine StepsOk.cons (StepOk.known rfl fun y W hS hd K' hK => ?_) ?_
      · skip
        have e12 : y 12 = .int .i64 J := (hd 4 rfl).val rfl rfl
        clear hd
        go_simp
        exact hK.out _ _ (by first | rfl | (simp only [e12]; done) | (simp only [e12]; rfl)) (fun _ _ _ _ h => h) hS
      refine StepsOk.cons (StepOk.known rfl fun y W hS hd K' hK => ?_) ?_
      · skip
        have e11 : y 11 = .slice A N c := (hd 3 rfl).val rfl rfl
        have e13 : y 13 = .int .i64 (J + 1) := (hd 5 rfl).val rfl rfl
        clear hd
        go_simp
        refine (c2.out _ hS.1).mono ?_
        rintro e W' ⟨rfl, rfl⟩
        go_wp2_with fail
        exact hK.out _ _ (by first | rfl | (simp only [e11, e13]; done) | (simp only [e11, e13]; rfl)) (fun _ _ _ _ h => h) hS
      refine StepsOk.cons (StepOk.known rfl fun y W hS hd K' hK => ?_) ?_
      · skip
        have e14 : y 14 = .int .i64 X4 := (hd 6 rfl).val rfl rfl
        clear hd
        go_simp
        exact hK.out _ _ (by first | rfl | (simp only [e14]; done) | (simp only [e14]; rfl)) (fun _ _ _ _ h => h) hS
      refine StepsOk.cons (StepOk.known rfl fun y W hS hd K' hK => ?_) ?_
      · skip
        have e15 : y 15 = .int .i64 (7 * X4) := (hd 7 rfl).val rfl rfl
        clear hd
        go_simp
        exact hK.out _ _ (by first | rfl | (simp only [e15]; done) | (simp only [e15]; rfl)) (fun _ _ _ _ h => h) hS
      refine StepsOk.cons (StepOk.known rfl fun y W hS hd K' hK => ?_) ?_
      · skip
        have e10 : y 10 = .int .i64 W7 := (hd 2 rfl).val rfl rfl
        have e16 : y 16 = .int .i64 (1 + 7 * X4) := (hd 8 rfl).val rfl rfl
        clear hd
        go_simp
        exact hK.out _ _ (by first | rfl | (simp only [e10, e16]; done) | (simp only [e10, e16]; rfl)) (fun _ _ _ _ h => h) hS
      refine StepsOk.cons (StepOk.known rfl fun y W hS hd K' hK => ?_) ?_
      · skip
        clear hd
        have hc := hS.2.1
        go_simp
        exact hK.out _ _ rfl (fun _ _ _ _ h => h) hS
      refine StepsOk.cons (StepOk.known rfl fun y W hS hd K' hK => ?_) ?_
      · skip
        clear hd
        go_simp
        exact hK.out _ _ rfl (fun _ _ _ _ h => h) hS
      refine StepsOk.cons (StepOk.known rfl fun y W hS hd K' hK => ?_) ?_
      · skip
        have e19 : y 19 = .int .i64 J := (hd 11 rfl).val rfl rfl
        clear hd
        go_simp
        exact hK.out _ _ (by first | rfl | (simp only [e19]; done) | (simp only [e19]; rfl)) (fun _ _ _ _ h => h) hS
      refine StepsOk.cons (StepOk.known rfl fun y W hS hd K' hK => ?_) ?_
      · skip
        have e14 : y 14 = .int .i64 X4 := (hd 6 rfl).val rfl rfl
        have e18 : y 18 = .slice A N c := (hd 10 rfl).val rfl rfl
        have e20 : y 20 = .int .i64 (J + 1) := (hd 12 rfl).val rfl rfl
        clear hd
        go_simp
        refine (c3.out _ hS.1).mono ?_
        rintro e W' ⟨rfl, rfl⟩
        go_wp2_with fail
        exact hK.out _ _ (by first | rfl | (simp only [e14, e18, e20]; done) | (simp only [e14, e18, e20]; rfl)) (fun _ _ _ _ h => h) hS
      refine StepsOk.cons (StepOk.known rfl fun y W hS hd K' hK => ?_) ?_
      · skip
        have e21 : y 21 = .int .i64 X28 := (hd 13 rfl).val rfl rfl
        clear hd
        go_simp
        exact hK.out _ _ (by first | rfl | (simp only [e21]; done) | (simp only [e21]; rfl)) (fun _ _ _ _ h => h) hS
      refine StepsOk.cons (StepOk.known rfl fun y W hS hd K' hK => ?_) ?_
      · skip
        have e22 : y 22 = .int .i64 (1 + X28) := (hd 14 rfl).val rfl rfl
        clear hd
        go_simp
        exact hK.out _ _ (by first | rfl | (simp only [e22]; done) | (simp only [e22]; rfl)) (fun _ _ _ _ h => h) hS
      refine StepsOk.cons (StepOk.other rfl fun y W hS hd K' hK => ?_) ?_
      · skip
        have e9 : y 9 = .agg #[.int .i64 2, .int .i64 W7, .int .i64 0] := (hd 1 rfl).val rfl rfl
        have e17 : y 17 = .agg #[.int .i64 3, .int .i64 W7, .int .i64 (1 + 7 * X4)] := (hd 9 rfl).val rfl rfl
        have e23 : y 23 = .agg #[.int .i64 1, .int .i64 0, .int .i64 (1 + X28)] := (hd 15 rfl).val rfl rfl
        clear hd
        obtain ⟨hb, hc, a, b, d, hr⟩ := hS
        go_simp
        exact hK.out _ _ _ (by first | rfl | (simp only [e9, e17, e23]; done) | (simp only [e9, e17, e23]; rfl)) (fun _ _ _ _ h => h.alloc _) ⟨hb.alloc hb.size _, (hS2 (hb.alloc hb.size _)), a, b, d, hr.alloc _⟩ (show ∃ g, _ = Value.slice (some ⟨g, 0, none⟩) 3 3 ∧ g ≠ w.heap.size ∧ Blk _ g 27 #[.int .i64 2, .int .i64 W7, .int .i64 0, .int .i64 3, .int .i64 W7, .int .i64 (1 + 7 * X4), .int .i64 1, .int .i64 0, .int .i64 (1 + X28)] from ⟨_, rfl, by have := hr.lt; omega, Blk.new W _ _⟩)
      refine StepsOk.cons (StepOk.known rfl fun y W hS hd K' hK => ?_) ?_
      · skip
        clear hd
        have hc := hS.2.1
        go_simp
        exact hK.out _ _ rfl (fun _ _ _ _ h => h) hS
      refine StepsOk.cons (StepOk.known rfl fun y W hS hd K' hK => ?_) ?_
      · skip
        clear hd
        go_simp
        exact hK.out _ _ rfl (fun _ _ _ _ h => h) hS
      refine StepsOk.cons (StepOk.known rfl fun y W hS hd K' hK => ?_) ?_
      · skip
        have e26 : y 26 = .int .i64 J := (hd 18 rfl).val rfl rfl
        clear hd
        go_simp
        exact hK.out _ _ (by first | rfl | (simp only [e26]; done) | (simp only [e26]; rfl)) (fun _ _ _ _ h => h) hS
      refine StepsOk.cons (StepOk.known rfl fun y W hS hd K' hK => ?_) ?_
      · skip
        have e21 : y 21 = .int .i64 X28 := (hd 13 rfl).val rfl rfl
        have e25 : y 25 = .slice A N c := (hd 17 rfl).val rfl rfl
        have e27 : y 27 = .int .i64 (J + 2) := (hd 19 rfl).val rfl rfl
        clear hd
        go_simp
        refine (c4.out _ hS.1).mono ?_
        rintro e W' ⟨rfl, rfl⟩
        go_wp2_with fail
        exact hK.out _ _ (by first | rfl | (simp only [e21, e25, e27]; done) | (simp only [e21, e25, e27]; rfl)) (fun _ _ _ _ h => h) hS
      refine StepsOk.cons (StepOk.other rfl fun y W hS hd K' hK => ?_) ?_
      · skip
        have x16 : (fun (y : Nat → Value) (W : World) => ∃ g, y 24 = .slice (some ⟨g, 0, none⟩) 3 3 ∧ g ≠ w.heap.size ∧ Blk W g 27 #[.int .i64 2, .int .i64 W7, .int .i64 0, .int .i64 3, .int .i64 W7, .int .i64 (1 + 7 * X4), .int .i64 1, .int .i64 0, .int .i64 (1 + X28)]) y W := (hd 16 rfl).ex rfl
        have e28 : y 28 = .int .i64 2 := (hd 20 rfl).val rfl rfl
        clear hd
        obtain ⟨g, h1, h2, h3⟩ := x16
        go_simp
        exact hK.out _ _ _ (by first | rfl | (simp only [e28, h1]; done) | (simp only [e28, h1]; rfl)) (fun _ _ _ _ h => h) hS (show ∃ g, _ = Value.pointer (some ⟨g, 6, none⟩) ∧ g ≠ w.heap.size ∧ Blk W g 27 #[.int .i64 2, .int .i64 W7, .int .i64 0, .int .i64 3, .int .i64 W7, .int .i64 (1 + 7 * X4), .int .i64 1, .int .i64 0, .int .i64 (1 + X28)] from ⟨g, rfl, h2, h3⟩)
      refine StepsOk.cons (StepOk.known rfl fun y W hS hd K' hK => ?_) ?_
      · skip
        have x21 : (fun (y : Nat → Value) (W : World) => ∃ g, y 29 = .pointer (some ⟨g, 6, none⟩) ∧ g ≠ w.heap.size ∧ Blk W g 27 #[.int .i64 2, .int .i64 W7, .int .i64 0, .int .i64 3, .int .i64 W7, .int .i64 (1 + 7 * X4), .int .i64 1, .int .i64 0, .int .i64 (1 + X28)]) y W := (hd 21 rfl).ex rfl
        clear hd
        obtain ⟨g, h1, h2, h3⟩ := x21
        have k0 := (h3.cell 6).trans rfl
        have k1 := (h3.cell 7).trans rfl
        have k2 := (h3.cell 8).trans rfl
        go_simp
        exact hK.out _ _ (by first | rfl | (simp only [h1]; done) | (simp only [h1]; rfl)) (fun _ _ _ _ h => h) hS
      refine StepsOk.cons (StepOk.other rfl fun y W hS hd K' hK => ?_) ?_
      · skip
        have e8 : y 8 = .int .i64 W7 := (hd 0 rfl).val rfl rfl
        have e9 : y 9 = .agg #[.int .i64 2, .int .i64 W7, .int .i64 0] := (hd 1 rfl).val rfl rfl
        have e10 : y 10 = .int .i64 W7 := (hd 2 rfl).val rfl rfl
        have e11 : y 11 = .slice A N c := (hd 3 rfl).val rfl rfl
        have e12 : y 12 = .int .i64 J := (hd 4 rfl).val rfl rfl
        have e13 : y 13 = .int .i64 (J + 1) := (hd 5 rfl).val rfl rfl
        have e14 : y 14 = .int .i64 X4 := (hd 6 rfl).val rfl rfl
        have e15 : y 15 = .int .i64 (7 * X4) := (hd 7 rfl).val rfl rfl
        have e16 : y 16 = .int .i64 (1 + 7 * X4) := (hd 8 rfl).val rfl rfl
        have e17 : y 17 = .agg #[.int .i64 3, .int .i64 W7, .int .i64 (1 + 7 * X4)] := (hd 9 rfl).val rfl rfl
        have e18 : y 18 = .slice A N c := (hd 10 rfl).val rfl rfl
        have e19 : y 19 = .int .i64 J := (hd 11 rfl).val rfl rfl
        have e20 : y 20 = .int .i64 (J + 1) := (hd 12 rfl).val rfl rfl
        have e21 : y 21 = .int .i64 X28 := (hd 13 rfl).val rfl rfl
        have e22 : y 22 = .int .i64 (1 + X28) := (hd 14 rfl).val rfl rfl
        have e23 : y 23 = .agg #[.int .i64 1, .int .i64 0, .int .i64 (1 + X28)] := (hd 15 rfl).val rfl rfl
        have x16 : (fun (y : Nat → Value) (W : World) => ∃ g, y 24 = .slice (some ⟨g, 0, none⟩) 3 3 ∧ g ≠ w.heap.size ∧ Blk W g 27 #[.int .i64 2, .int .i64 W7, .int .i64 0, .int .i64 3, .int .i64 W7, .int .i64 (1 + 7 * X4), .int .i64 1, .int .i64 0, .int .i64 (1 + X28)]) y W := (hd 16 rfl).ex rfl
        have e25 : y 25 = .slice A N c := (hd 17 rfl).val rfl rfl
        have e26 : y 26 = .int .i64 J := (hd 18 rfl).val rfl rfl
        have e27 : y 27 = .int .i64 (J + 2) := (hd 19 rfl).val rfl rfl
        have e28 : y 28 = .int .i64 2 := (hd 20 rfl).val rfl rfl
        have x21 : (fun (y : Nat → Value) (W : World) => ∃ g, y 29 = .pointer (some ⟨g, 6, none⟩) ∧ g ≠ w.heap.size ∧ Blk W g 27 #[.int .i64 2, .int .i64 W7, .int .i64 0, .int .i64 3, .int .i64 W7, .int .i64 (1 + 7 * X4), .int .i64 1, .int .i64 0, .int .i64 (1 + X28)]) y W := (hd 21 rfl).ex rfl
        have e30 : y 30 = .agg #[.int .i64 1, .int .i64 0, .int .i64 (1 + X28)] := (hd 22 rfl).val rfl rfl
        clear hd
        obtain ⟨hb, hc, a, b, d, hr⟩ := hS
        have k0 := (hr.cell 0).trans rfl
        have k1 := (hr.cell 1).trans rfl
        have k2 := (hr.cell 2).trans rfl
        have f0 := hr.frozen 0
        have f1 := hr.frozen 1
        have f2 := hr.frozen 2
        have hr3 := ((hr.set_ 0 (.int .i64 1)).set_ 1 (.int .i64 0)).set_ 2 (.int .i64 (1 + X28))
        have hb3 := ((hb.setCell (p := ⟨w.heap.size, 0, none⟩) (Nat.le_refl _) (.int .i64 1)).setCell (p := ⟨w.heap.size, 1, none⟩) (Nat.le_refl _) (.int .i64 0)).setCell (p := ⟨w.heap.size, 2, none⟩) (Nat.le_refl _) (.int .i64 (1 + X28))
        go_simp
        exact hK.out undef _ _ (by first | rfl | (simp only [e8, e9, e10, e11, e12, e13, e14, e15, e16, e17, e18, e19, e20, e21, e22, e23, e25, e26, e27, e28, e30]; done) | (simp only [e8, e9, e10, e11, e12, e13, e14, e15, e16, e17, e18, e19, e20, e21, e22, e23, e25, e26, e27, e28, e30]; rfl)) (fun g _ _ hg h => ((h.far hg _).far hg _).far hg _) ⟨hb3, hS2 hb3, _, _, _, hr3⟩ hr3
      exact StepsOk.nil
end Go.Proofs.YtmhciidliicheaaDoor
