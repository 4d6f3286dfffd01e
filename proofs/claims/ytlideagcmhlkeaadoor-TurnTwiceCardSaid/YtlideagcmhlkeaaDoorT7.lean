/- Texts of one proof, one behind the other: Mad17c; Mad17d; Mad23a; Plain30b; Turn29c; Work29; Flat21; Stor; Era21. -/
import Derived.Test.YtlideagcmhlkeaaDoorT6
import Derived.ArgAppend
import Derived.Laws.OwnMore
import Derived.BigRegion
import Derived.BigQuiet
import Derived.WalkKit
import Derived.Deep.MidRow
import Derived.IntWalk
import Derived.Deep.DeepCutAuto

/- The walk of a pair of rules of a draft (chapter 17). -/
namespace Go.Proofs.YtlideagcmhlkeaaDoor
open Go.RowKit Go.Lib
set_option linter.unusedVariables false

theorem letA (k : Nat) (h : k < 3) : (#[.string ⟨#[83]⟩, .string ⟨#[68]⟩, .string ⟨#[68, 84]⟩] : Array Value)[k]? = some (.string (P17.sLet k)) := by
  match k, h with
  | 0, _ => rfl
  | 1, _ => rfl
  | 2, _ => rfl
theorem letB (k : Nat) (h : k < 2) : (#[.string ⟨#[]⟩, .string ⟨#[83]⟩] : Array Value)[k]? = some (.string (P17.bLet k)) := by
  match k, h with
  | 0, _ => rfl
  | 1, _ => rfl
/-- what a step of a pair's regions keeps -/
structure Gr (W W' : World) : Prop where
  far : ∀ g t cs, t ≠ 83 → Blk W g t cs → Blk W' g t cs
  own : ∀ g, (∃ a b c d e f h i j k l, Blk W g 83 #[a, b, c, d, e, f, h, i, j, k, l]) → ∃ a b c d e f h i j k l, Blk W' g 83 #[a, b, c, d, e, f, h, i, j, k, l]
theorem Gr.refl (W : World) : Gr W W := ⟨fun _ _ _ _ h => h, fun _ h => h⟩
theorem Gr.below {W W' : World} (h : Below W.heap.size W W') : Gr W W' :=
  ⟨fun g t cs _ hb => hb.below h hb.lt, fun g ⟨a, b, c, d, e, f, h', i, j, k, l, hb⟩ => ⟨a, b, c, d, e, f, h', i, j, k, l, hb.below h hb.lt⟩⟩
theorem Gr.alloc (W : World) (ob : Obj) : Gr W (W.alloc ob) := Gr.below ((Below.refl _ W).alloc (Nat.le_refl _) ob)
theorem pass_s {W W' : World} {t : TypeId} {cs : Array Value} {p : Nat → Prop} (ht : t ≠ 83) (hg : Gr W W') (h : ∃ g, p g ∧ Blk W g t cs) : ∃ g, p g ∧ Blk W' g t cs := by
  obtain ⟨g, h1, h3⟩ := h
  exact ⟨g, h1, hg.far g t cs ht h3⟩
theorem pass_o {W W' : World} {p : Nat → Prop} (hg : Gr W W') (h : ∃ g, p g ∧ ∃ a b c d e f h i j k l, Blk W g 83 #[a, b, c, d, e, f, h, i, j, k, l]) : ∃ g, p g ∧ ∃ a b c d e f h i j k l, Blk W' g 83 #[a, b, c, d, e, f, h, i, j, k, l] := by
  obtain ⟨g, h1, h3⟩ := h
  exact ⟨g, h1, hg.own g h3⟩
theorem Gr.set_ {W : World} {g : Nat} {a b c d e f h i j k l : Value} (hb : Blk W g 83 #[a, b, c, d, e, f, h, i, j, k, l]) (n : Nat) (u : Value) : Gr W (W.setCell ⟨g, n, none⟩ u) := by
  refine ⟨fun g' t cs ht h' => h'.far (fun q => ht ?_) u, fun g' ⟨a', b', c', d', e', f', h', i', j', k', l', hb'⟩ => ?_⟩
  · have q' : g' = g := q
    subst q'
    unfold Blk at hb h'
    rw [hb] at h'
    injection h' with h'
    injection h' with _ h' _
    exact h'.symm
  · by_cases q : g' = g
    · subst q
      have := hb.set_ n u
      unfold Blk at this
      match n with
      | 0 | 1 | 2 | 3 | 4 | 5 | 6 | 7 | 8 | 9 | 10 => exact ⟨_, _, _, _, _, _, _, _, _, _, _, this⟩
      | n + 11 =>
        rw [Array.setIfInBounds, dif_neg (by simp)] at this
        exact ⟨_, _, _, _, _, _, _, _, _, _, _, this⟩
    · exact ⟨a', b', c', d', e', f', h', i', j', k', l', hb'.far q u⟩
theorem Gr.trans {A B C : World} (h : Gr A B) (h' : Gr B C) : Gr A C := ⟨fun g t cs ht hb => h'.far g t cs ht (h.far g t cs ht hb), fun g hb => h'.own g (h.own g hb)⟩

set_option maxRecDepth 100000 in
set_option maxHeartbeats 16000000 in
theorem pair17_any (A : Option Addr) (c : Nat) (D : List Int) (i : Nat) (J : Int) (hJ : J = i) (F T V : Int) (w : World) (hi : i ≤ 800) (hD : Dr w A D) :
    Calls Tryd.prog 80 #[.slice A D.length c, .int .i64 J, .int .i64 F, .int .i64 T, .int .i64 V] w fun e w' => (∃ g, e = .returned (.slice (some ⟨g, 0, none⟩) 2 2) ∧ w.heap.size ≤ g ∧ Blk w' g 83 ((P17.pairA D i F T V).cells ++ (P17.pairB D i F T V).cells).toArray) ∧ Below w.heap.size w w' := by
  have c1 : Hid (∀ W, Below w.heap.size w W → Calls Tryd.prog 78 #[.slice A D.length c, .int .i64 J, .int .i64 3] W fun e w' => e = .returned (.int .i64 (P17.at_ D (i + 0) 3 : Int)) ∧ w' = W) := fun W h => at17_at A c D (i + 0) 3 J (by omega) W (by decide) (by omega) (hD.below h)
  have c4 : Hid (∀ W, Below w.heap.size w W → Calls Tryd.prog 78 #[.slice A D.length c, .int .i64 (J + 8), .int .i64 3] W fun e w' => e = .returned (.int .i64 (P17.at_ D (i + 8) 3 : Int)) ∧ w' = W) := fun W h => at17_at A c D (i + 8) 3 (J + 8) (by omega) W (by decide) (by omega) (hD.below h)
  have c5 : Hid (∀ W, Below w.heap.size w W → Calls Tryd.prog 78 #[.slice A D.length c, .int .i64 (J + 1), .int .i64 3] W fun e w' => e = .returned (.int .i64 (P17.at_ D (i + 1) 3 : Int)) ∧ w' = W) := fun W h => at17_at A c D (i + 1) 3 (J + 1) (by omega) W (by decide) (by omega) (hD.below h)
  have c8 : Hid (∀ W, Below w.heap.size w W → Calls Tryd.prog 78 #[.slice A D.length c, .int .i64 (J + 14), .int .i64 2] W fun e w' => e = .returned (.int .i64 (P17.at_ D (i + 14) 2 : Int)) ∧ w' = W) := fun W h => at17_at A c D (i + 14) 2 (J + 14) (by omega) W (by decide) (by omega) (hD.below h)
  have c9 : Hid (∀ W, Below w.heap.size w W → Calls Tryd.prog 78 #[.slice A D.length c, .int .i64 (J + 2), .int .i64 4] W fun e w' => e = .returned (.int .i64 (P17.at_ D (i + 2) 4 : Int)) ∧ w' = W) := fun W h => at17_at A c D (i + 2) 4 (J + 2) (by omega) W (by decide) (by omega) (hD.below h)
  have c3 : Hid (∀ W, Below w.heap.size w W → Calls Tryd.prog 79 #[.slice A D.length c, .int .i64 (J + 6)] W fun e w' => e = .returned (.agg #[.int .i64 ((P17.at_ D (i + 6) 49 : Int) * 1800), .int .i64 (P17.at_ D (i + 7) 3 : Int)]) ∧ Below W.heap.size W w') := fun W h => clock17_any A c D (i + 6) (J + 6) (by omega) W (by omega) (hD.below h)
  have c7 : Hid (∀ W, Below w.heap.size w W → Calls Tryd.prog 79 #[.slice A D.length c, .int .i64 (J + 12)] W fun e w' => e = .returned (.agg #[.int .i64 ((P17.at_ D (i + 12) 49 : Int) * 1800), .int .i64 (P17.at_ D (i + 13) 3 : Int)]) ∧ Below W.heap.size W w') := fun W h => clock17_any A c D (i + 12) (J + 12) (by omega) W (by omega) (hD.below h)
  have c2 : Hid (∀ W, Below w.heap.size w W → Blk W w.heap.size 98 #[.slice A D.length c] → Calls Tryd.prog 104 #[.int .i64 (J + 3), .pointer (some ⟨w.heap.size, 0, none⟩)] W fun e w' => e = .returned (.agg #[.int .i64 (P17.day D (i + 3)).1, .int .i64 (P17.day D (i + 3)).2.1, .int .i64 (P17.day D (i + 3)).2.2]) ∧ Below W.heap.size W w') := fun W h hx => day17_any A c D w.heap.size (i + 3) (J + 3) (by omega) W (by omega) (hD.below h) hx.lt (hx.cell 0)
  have c6 : Hid (∀ W, Below w.heap.size w W → Blk W w.heap.size 98 #[.slice A D.length c] → Calls Tryd.prog 104 #[.int .i64 (J + 9), .pointer (some ⟨w.heap.size, 0, none⟩)] W fun e w' => e = .returned (.agg #[.int .i64 (P17.day D (i + 9)).1, .int .i64 (P17.day D (i + 9)).2.1, .int .i64 (P17.day D (i + 9)).2.2]) ∧ Below W.heap.size W w') := fun W h hx => day17_any A c D w.heap.size (i + 9) (J + 9) (by omega) W (by omega) (hD.below h) hx.lt (hx.cell 0)
  have l1 := P17.at_lt D (i + 0) (show 0 < 3 by decide)
  have l4 := P17.at_lt D (i + 8) (show 0 < 3 by decide)
  have l5 := P17.at_lt D (i + 1) (show 0 < 3 by decide)
  have l8 := P17.at_lt D (i + 14) (show 0 < 2 by decide)
  have l9 := P17.at_lt D (i + 2) (show 0 < 4 by decide)
  have LA := letA _ l4
  have LB := letB _ l8
  have hJ0 : 0 ≤ J := by omega
  have hJ1 : J ≤ 800 := by omega
  have wj1 : IntKind.i64.wrap (J + 1) = J + 1 := IntWalk.i64_in _ (by omega)
  have wj2 : IntKind.i64.wrap (J + 2) = J + 2 := IntWalk.i64_in _ (by omega)
  have wj3 : IntKind.i64.wrap (J + 3) = J + 3 := IntWalk.i64_in _ (by omega)
  have wj6 : IntKind.i64.wrap (J + 6) = J + 6 := IntWalk.i64_in _ (by omega)
  have wj8 : IntKind.i64.wrap (J + 8) = J + 8 := IntWalk.i64_in _ (by omega)
  have wj9 : IntKind.i64.wrap (J + 9) = J + 9 := IntWalk.i64_in _ (by omega)
  have wj12 : IntKind.i64.wrap (J + 12) = J + 12 := IntWalk.i64_in _ (by omega)
  have wj14 : IntKind.i64.wrap (J + 14) = J + 14 := IntWalk.i64_in _ (by omega)
  unfold P17.pairA P17.pairB
  have e0 : i + 0 = i := rfl
  rw [e0] at l1
  rw [e0] at c1
  have hk4 : (P17.at_ D (i + 2) 4 = 0) ∨ ¬ (P17.at_ D (i + 2) 4 = 0) := by omega
  have b3 : ((P17.at_ D i 3 : Nat) : Int) ≤ 3 := by omega
  have b1 : ((P17.at_ D (i + 1) 3 : Nat) : Int) ≤ 3 := by omega
  have b8 : ((P17.at_ D (i + 8) 3 : Nat) : Int) < 3 := by omega
  have b14 : ((P17.at_ D (i + 14) 2 : Nat) : Int) < 2 := by omega
  generalize P17.at_ D i 3 = n3 at *
  generalize P17.at_ D (i + 8) 3 = n8 at *
  generalize P17.at_ D (i + 1) 3 = n1 at *
  generalize P17.at_ D (i + 14) 2 = n14 at *
  generalize P17.at_ D (i + 2) 4 = n2 at *
  generalize (P17.at_ D (i + 6) 49 : Int) * 1800 = s1 at *
  generalize (P17.at_ D (i + 6 + 1) 3 : Int) = s2 at *
  generalize (P17.at_ D (i + 12) 49 : Int) * 1800 = s3 at *
  generalize (P17.at_ D (i + 12 + 1) 3 : Int) = s4 at *
  generalize P17.day D (i + 3) = d at *
  generalize P17.day D (i + 9) = dd at *
  generalize P17.sLet n8 = SL at *
  generalize P17.bLet n14 = BL at *
  generalize D.length = N at *
  obtain ⟨d1, d2, d3⟩ := d
  obtain ⟨d4, d5, d6⟩ := dd
  simp only at c2 c6 ⊢
  have w3 : IntKind.i64.wrap (2 + (n3 : Int)) = 2 + (n3 : Int) := IntWalk.i64_in _ (by omega)
  have w1 : IntKind.i64.wrap (8 + (n1 : Int)) = 8 + (n1 : Int) := IntWalk.i64_in _ (by omega)
  clear hJ hi l1 l4 l5 l8 l9 hD e0 hJ0 hJ1 b3 b1
  have hmf : ∀ (fn : Fn) (first cap : Array Value) (W : World), (Instr.makeFunc fn first cap).run Tryd.prog W = .ok (.func fn first cap) W := fun _ _ _ _ => rfl
  have hb0 := (Below.refl w.heap.size w).alloc (Nat.le_refl _) (.cells #[.slice A N c] 98)
  have hx0 := Blk.new w 98 #[.slice A N c]
  go_enter Tryd.func80, Tryd.ntmps80
  go_upto_region 2 with fail
  clear hmf
  refine wp_region_shape [(some 15, []), (some 16, []), (some 17, []), (some 18, []), (some 19, [2, 3]), (some 20, [4]), (some 21, []), (some 22, []), (some 23, [7]), (some 24, [6, 8, 4]), (some 25, []), (some 26, []), (some 27, [11]), (some 28, [10, 12, 9]), (some 29, []), (some 30, []), (some 31, []), (some 32, []), (some 33, [17]), (some 34, [16, 18, 13]), (some 35, [15, 19]), (some 36, [20]), (some 37, [0, 1, 5, 9, 13, 14, 21]), (some 12, []), (none, [23, 22, 19, 0, 1, 2, 3, 4, 5, 6, 7, 8, 9, 10, 11, 12, 13, 14, 15, 16, 17, 18, 19, 20, 21, 22, 23])] (fun y => { tmps := #[.slice A N c, .int .i64 J, .int .i64 F, .int .i64 T, .int .i64 V, .pointer (some ⟨w.heap.size, 0, none⟩), undef, undef, undef, undef, .slice none 0 0, .func (.func 104) #[] #[.pointer (some ⟨w.heap.size, 0, none⟩)], y 12, undef, .func (.func 104) #[] #[.pointer (some ⟨w.heap.size, 0, none⟩)], y 15, y 16, y 17, y 18, y 19, y 20, y 21, y 22, y 23, y 24, y 25, y 26, y 27, y 28, y 29, y 30, y 31, y 32, y 33, y 34, y 35, y 36, y 37, undef, undef, undef, undef, undef, undef, undef, undef, undef, undef, undef, undef, undef, undef, undef, undef, undef, undef, undef, undef, undef, undef, undef, undef, undef, undef, undef, undef, undef, undef, undef, undef, undef, undef, undef, undef, undef], defers := [] }) (fun _ => undef) (fun j => j == 15 || j == 20 || j == 23 || j == 24) [.int .i64 F, .int .i64 T, .slice A N c, .int .i64 J, .int .i64 (n3 : Int), .int .i64 (2 + (n3 : Int)), .func (.func 104) #[] #[.pointer (some ⟨w.heap.size, 0, none⟩)], .int .i64 J, .int .i64 (J + 3), .agg #[.int .i64 d1, .int .i64 d2, .int .i64 d3], .slice A N c, .int .i64 J, .int .i64 (J + 6), .agg #[.int .i64 s1, .int .i64 s2], .int .i64 V, undef, .slice A N c, .int .i64 J, .int .i64 (J + 8), .int .i64 (n8 : Int), undef, .string SL, .agg #[.string ⟨#[]⟩, .int .i64 F, .int .i64 T, .int .i64 (2 + (n3 : Int)), .int .i64 d1, .int .i64 d2, .int .i64 d3, .int .i64 s1, .int .i64 s2, .int .i64 V, .string SL], undef, undef] (fun j y W => match j with | 15 => ∃ g, y 30 = .slice (some ⟨g, 0, none⟩) 3 3 ∧ Blk W g 9 #[.string ⟨#[83]⟩, .string ⟨#[68]⟩, .string ⟨#[68, 84]⟩] | 20 => ∃ g, y 35 = .pointer (some ⟨g, n8, none⟩) ∧ Blk W g 9 #[.string ⟨#[83]⟩, .string ⟨#[68]⟩, .string ⟨#[68, 84]⟩] | 23 => ∃ g, (y 12 = Value.pointer (some ⟨g, 0, none⟩) ∧ w.heap.size < g) ∧ ∃ a b c d e f h i j k l, Blk W g 83 #[a, b, c, d, e, f, h, i, j, k, l] | 24 => ∃ g, (y 12 = Value.pointer (some ⟨g, 0, none⟩) ∧ w.heap.size < g) ∧ Blk W g 83 #[.string ⟨#[]⟩, .int .i64 F, .int .i64 T, .int .i64 (2 + (n3 : Int)), .int .i64 d1, .int .i64 d2, .int .i64 d3, .int .i64 s1, .int .i64 s2, .int .i64 V, .string SL] | _ => True) (fun j => match j with | 15 => [30] | 20 => [35] | 23 => [12] | 24 => [12] | _ => []) (Gr) (fun W => Below w.heap.size w W ∧ Blk W w.heap.size 98 #[.slice A N c] ∧ True) (by kernel_rfl) (by kernel_rfl) (by decide +kernel) rfl ⟨hb0.drew, hx0, trivial⟩ ?hput1 ?hloc1 ?hmono1 ?hstep1 ?hdone1
  case hput1 =>
    intro d hd y v
    simp only [List.filterMap_cons, List.filterMap_nil, List.mem_cons, List.not_mem_nil, or_false] at hd
    rcases hd with rfl | rfl | rfl | rfl | rfl | rfl | rfl | rfl | rfl | rfl | rfl | rfl | rfl | rfl | rfl | rfl | rfl | rfl | rfl | rfl | rfl | rfl | rfl | rfl
    all_goals rfl
  case hloc1 =>
    intro j hj y y' W hk hx
    have hj' : j = 15 ∨ j = 20 ∨ j = 23 ∨ j = 24 := by simpa [or_assoc] using hj
    rcases hj' with rfl | rfl | rfl | rfl
    · simp only [List.forall_mem_cons, List.not_mem_nil, false_imp_iff, implies_true, and_true] at hk
      show _
      simpa only [hk] using hx
    · simp only [List.forall_mem_cons, List.not_mem_nil, false_imp_iff, implies_true, and_true] at hk
      show _
      simpa only [hk] using hx
    · simp only [List.forall_mem_cons, List.not_mem_nil, false_imp_iff, implies_true, and_true] at hk
      show _
      simpa only [hk] using hx
    · simp only [List.forall_mem_cons, List.not_mem_nil, false_imp_iff, implies_true, and_true] at hk
      show _
      simpa only [hk] using hx
  case hmono1 =>
    intro j hj hlast y W W' hg hx
    have hj' : j = 15 ∨ j = 20 ∨ j = 23 ∨ j = 24 := by simpa [or_assoc] using hj
    rcases hj' with rfl | rfl | rfl | rfl
    · exact pass_s (by decide) hg hx
    · exact pass_s (by decide) hg hx
    · exact pass_o hg hx
    · exact absurd hlast (by decide)
  case hdone1 =>
    intro y1 W1 hS hd
    have x24 : (fun (y : Nat → Value) (W : World) => ∃ g, (y 12 = Value.pointer (some ⟨g, 0, none⟩) ∧ w.heap.size < g) ∧ Blk W g 83 #[.string ⟨#[]⟩, .int .i64 F, .int .i64 T, .int .i64 (2 + (n3 : Int)), .int .i64 d1, .int .i64 d2, .int .i64 d3, .int .i64 s1, .int .i64 s2, .int .i64 V, .string SL]) y1 W1 := (hd 24 (by decide)).ex rfl
    obtain ⟨hb1, hx1, _⟩ := hS
    obtain ⟨g1, ⟨e12, hzn0⟩, hz0⟩ := x24
    clear hd
    rw [e12]
    clear e12
    go_upto_region 3 with fail
    refine wp_region_shape [(some 38, []), (some 39, []), (some 40, []), (some 41, []), (some 42, [3]), (some 43, [2, 4]), (some 44, [5]), (some 45, []), (some 46, []), (some 47, [8]), (some 48, [7, 9, 5]), (some 49, []), (some 50, []), (some 51, [12]), (some 52, [11, 13, 10]), (some 53, []), (some 54, []), (some 55, []), (some 56, [17]), (some 57, [16, 18, 14]), (some 58, [15, 19]), (some 59, [20]), (some 60, [0, 1, 6, 10, 14, 21]), (some 13, []), (none, [23, 22, 19, 0, 1, 2, 3, 4, 5, 6, 7, 8, 9, 10, 11, 12, 13, 14, 15, 16, 17, 18, 19, 20, 21, 22, 23])] (fun y => { tmps := #[.slice A N c, .int .i64 J, .int .i64 F, .int .i64 T, .int .i64 V, .pointer (some ⟨w.heap.size, 0, none⟩), undef, undef, undef, undef, .slice none 0 0, .func (.func 104) #[] #[.pointer (some ⟨w.heap.size, 0, none⟩)], .pointer (some ⟨g1, 0, none⟩), y 13, .func (.func 104) #[] #[.pointer (some ⟨w.heap.size, 0, none⟩)], y1 15, y1 16, y1 17, y1 18, y1 19, y1 20, y1 21, y1 22, y1 23, y1 24, y1 25, y1 26, y1 27, y1 28, y1 29, y1 30, y1 31, y1 32, y1 33, y1 34, y1 35, y1 36, y1 37, y 38, y 39, y 40, y 41, y 42, y 43, y 44, y 45, y 46, y 47, y 48, y 49, y 50, y 51, y 52, y 53, y 54, y 55, y 56, y 57, y 58, y 59, y 60, undef, undef, undef, undef, undef, undef, undef, undef, undef, undef, undef, undef, undef, undef], defers := [] }) (fun _ => undef) (fun j => j == 15 || j == 20 || j == 23 || j == 24) [.int .i64 F, .int .i64 T, .slice A N c, .int .i64 J, .int .i64 (J + 1), .int .i64 (n1 : Int), .int .i64 (8 + (n1 : Int)), .func (.func 104) #[] #[.pointer (some ⟨w.heap.size, 0, none⟩)], .int .i64 J, .int .i64 (J + 9), .agg #[.int .i64 d4, .int .i64 d5, .int .i64 d6], .slice A N c, .int .i64 J, .int .i64 (J + 12), .agg #[.int .i64 s3, .int .i64 s4], undef, .slice A N c, .int .i64 J, .int .i64 (J + 14), .int .i64 (n14 : Int), undef, .string BL, .agg #[.string ⟨#[]⟩, .int .i64 F, .int .i64 T, .int .i64 (8 + (n1 : Int)), .int .i64 d4, .int .i64 d5, .int .i64 d6, .int .i64 s3, .int .i64 s4, .int .i64 0, .string BL], undef, undef] (fun j y W => match j with | 15 => ∃ g, y 53 = .slice (some ⟨g, 0, none⟩) 2 2 ∧ Blk W g 9 #[.string ⟨#[]⟩, .string ⟨#[83]⟩] | 20 => ∃ g, y 58 = .pointer (some ⟨g, n14, none⟩) ∧ Blk W g 9 #[.string ⟨#[]⟩, .string ⟨#[83]⟩] | 23 => ∃ g, (y 13 = Value.pointer (some ⟨g, 0, none⟩) ∧ w.heap.size < g ∧ g ≠ g1) ∧ ∃ a b c d e f h i j k l, Blk W g 83 #[a, b, c, d, e, f, h, i, j, k, l] | 24 => ∃ g, (y 13 = Value.pointer (some ⟨g, 0, none⟩) ∧ w.heap.size < g ∧ g ≠ g1) ∧ Blk W g 83 #[.string ⟨#[]⟩, .int .i64 F, .int .i64 T, .int .i64 (8 + (n1 : Int)), .int .i64 d4, .int .i64 d5, .int .i64 d6, .int .i64 s3, .int .i64 s4, .int .i64 0, .string BL] | _ => True) (fun j => match j with | 15 => [53] | 20 => [58] | 23 => [13] | 24 => [13] | _ => []) (Gr) (fun W => Below w.heap.size w W ∧ Blk W w.heap.size 98 #[.slice A N c] ∧ Blk W g1 83 #[.string ⟨#[]⟩, .int .i64 F, .int .i64 T, .int .i64 (2 + (n3 : Int)), .int .i64 d1, .int .i64 d2, .int .i64 d3, .int .i64 s1, .int .i64 s2, .int .i64 V, .string SL] ∧ w.heap.size < g1) (by kernel_rfl) (by kernel_rfl) (by decide +kernel) rfl ⟨hb1.drew, hx1, hz0, hzn0⟩ ?hput2 ?hloc2 ?hmono2 ?hstep2 ?hdone2
    case hput2 =>
      intro d hd y v
      simp only [List.filterMap_cons, List.filterMap_nil, List.mem_cons, List.not_mem_nil, or_false] at hd
      rcases hd with rfl | rfl | rfl | rfl | rfl | rfl | rfl | rfl | rfl | rfl | rfl | rfl | rfl | rfl | rfl | rfl | rfl | rfl | rfl | rfl | rfl | rfl | rfl | rfl
      all_goals rfl
    case hloc2 =>
      intro j hj y y' W hk hx
      have hj' : j = 15 ∨ j = 20 ∨ j = 23 ∨ j = 24 := by simpa [or_assoc] using hj
      rcases hj' with rfl | rfl | rfl | rfl
      · simp only [List.forall_mem_cons, List.not_mem_nil, false_imp_iff, implies_true, and_true] at hk
        show _
        simpa only [hk] using hx
      · simp only [List.forall_mem_cons, List.not_mem_nil, false_imp_iff, implies_true, and_true] at hk
        show _
        simpa only [hk] using hx
      · simp only [List.forall_mem_cons, List.not_mem_nil, false_imp_iff, implies_true, and_true] at hk
        show _
        simpa only [hk] using hx
      · simp only [List.forall_mem_cons, List.not_mem_nil, false_imp_iff, implies_true, and_true] at hk
        show _
        simpa only [hk] using hx
    case hmono2 =>
      intro j hj hlast y W W' hg hx
      have hj' : j = 15 ∨ j = 20 ∨ j = 23 ∨ j = 24 := by simpa [or_assoc] using hj
      rcases hj' with rfl | rfl | rfl | rfl
      · exact pass_s (by decide) hg hx
      · exact pass_s (by decide) hg hx
      · exact pass_o hg hx
      · exact absurd hlast (by decide)
    case hdone2 =>
      intro y2 W2 hS hd
      have x24 : (fun (y : Nat → Value) (W : World) => ∃ g, (y 13 = Value.pointer (some ⟨g, 0, none⟩) ∧ w.heap.size < g ∧ g ≠ g1) ∧ Blk W g 83 #[.string ⟨#[]⟩, .int .i64 F, .int .i64 T, .int .i64 (8 + (n1 : Int)), .int .i64 d4, .int .i64 d5, .int .i64 d6, .int .i64 s3, .int .i64 s4, .int .i64 0, .string BL]) y2 W2 := (hd 24 (by decide)).ex rfl
      obtain ⟨hb5, hx5, hz5, _⟩ := hS
      obtain ⟨g2, ⟨e13, h2n, h21⟩, hq5⟩ := x24
      have hcc := (hx5.cell 0).trans rfl
      clear hd hx5
      have a0 := (hz5.cell 0).trans rfl
      have a1 := (hz5.cell 1).trans rfl
      have a2 := (hz5.cell 2).trans rfl
      have a3 := (hz5.cell 3).trans rfl
      have a4 := (hz5.cell 4).trans rfl
      have a5 := (hz5.cell 5).trans rfl
      have a6 := (hz5.cell 6).trans rfl
      have a7 := (hz5.cell 7).trans rfl
      have a8 := (hz5.cell 8).trans rfl
      have a9 := (hz5.cell 9).trans rfl
      have a10 := (hz5.cell 10).trans rfl
      have b0 := (hq5.cell 0).trans rfl
      have b1 := (hq5.cell 1).trans rfl
      have b2 := (hq5.cell 2).trans rfl
      have b3 := (hq5.cell 3).trans rfl
      have b4 := (hq5.cell 4).trans rfl
      have b5 := (hq5.cell 5).trans rfl
      have b6 := (hq5.cell 6).trans rfl
      have b7 := (hq5.cell 7).trans rfl
      have b8 := (hq5.cell 8).trans rfl
      have b9 := (hq5.cell 9).trans rfl
      have b10 := (hq5.cell 10).trans rfl
      go_wp2_with fail
      refine (c9.out _ hb5).mono ?_
      rintro e W3 ⟨rfl, rfl⟩
      rcases hk4 with rfl | hk4
      · have u1 := hz5.frozen 9
        have u2 := hq5.frozen 9
        have hz6 : Blk ((W3.setCell ⟨g1, 9, none⟩ (.int .i64 0)).setCell ⟨g2, 9, none⟩ (.int .i64 V)) g1 83 #[.string ⟨#[]⟩, .int .i64 F, .int .i64 T, .int .i64 (2 + (n3 : Int)), .int .i64 d1, .int .i64 d2, .int .i64 d3, .int .i64 s1, .int .i64 s2, .int .i64 0, .string SL] := (hz5.set_ 9 (.int .i64 0)).far (p := ⟨g2, 9, none⟩) (fun q => h21 q.symm) (.int .i64 V)
        have hq6 : Blk ((W3.setCell ⟨g1, 9, none⟩ (.int .i64 0)).setCell ⟨g2, 9, none⟩ (.int .i64 V)) g2 83 #[.string ⟨#[]⟩, .int .i64 F, .int .i64 T, .int .i64 (8 + (n1 : Int)), .int .i64 d4, .int .i64 d5, .int .i64 d6, .int .i64 s3, .int .i64 s4, .int .i64 V, .string BL] := (hq5.far (p := ⟨g1, 9, none⟩) (fun q => h21 q) (.int .i64 0)).set_ 9 (.int .i64 V)
        have hb6 : Below w.heap.size w ((W3.setCell ⟨g1, 9, none⟩ (.int .i64 0)).setCell ⟨g2, 9, none⟩ (.int .i64 V)) := (hb5.setCell (p := ⟨g1, 9, none⟩) (Nat.le_of_lt hzn0) (.int .i64 0)).setCell (p := ⟨g2, 9, none⟩) (Nat.le_of_lt h2n) (.int .i64 V)
        have HZ := Lib.hid (And.intro hz6 (And.intro hq6 hb6))
        clear hz6 hq6 hb6
        go_upto_region 6 with fail
        obtain ⟨hz6, hq6, hb6⟩ := HZ.out
        clear HZ u1 u2 a0 b0 a1 b1 a2 b2 a3 b3 a4 b4 a5 b5 a6 b6 a7 b7 a8 b8 a9 b9 a10 b10
        generalize ((W3.setCell ⟨g1, 9, none⟩ (.int .i64 0)).setCell ⟨g2, 9, none⟩ (.int .i64 V)) = V5 at *
        have a0 := (hz6.cell 0).trans rfl
        have a1 := (hz6.cell 1).trans rfl
        have a2 := (hz6.cell 2).trans rfl
        have a3 := (hz6.cell 3).trans rfl
        have a4 := (hz6.cell 4).trans rfl
        have a5 := (hz6.cell 5).trans rfl
        have a6 := (hz6.cell 6).trans rfl
        have a7 := (hz6.cell 7).trans rfl
        have a8 := (hz6.cell 8).trans rfl
        have a9 := (hz6.cell 9).trans rfl
        have a10 := (hz6.cell 10).trans rfl
        have b0 := (hq6.cell 0).trans rfl
        have b1 := (hq6.cell 1).trans rfl
        have b2 := (hq6.cell 2).trans rfl
        have b3 := (hq6.cell 3).trans rfl
        have b4 := (hq6.cell 4).trans rfl
        have b5 := (hq6.cell 5).trans rfl
        have b6 := (hq6.cell 6).trans rfl
        have b7 := (hq6.cell 7).trans rfl
        have b8 := (hq6.cell 8).trans rfl
        have b9 := (hq6.cell 9).trans rfl
        have b10 := (hq6.cell 10).trans rfl
        have HB := Lib.hid hb6
        clear hz6 hq6 hb6 hz5 hq5 hb5
        go_wp2_with fail
        go_ret
        exact ⟨⟨_, rfl, HB.out.size, Blk.new _ _ _⟩, HB.out.alloc HB.out.size _⟩
      · have HB := Lib.hid hb5
        clear hz5 hq5 hb5
        go_wp2_with fail
        go_ret
        refine ⟨⟨_, rfl, HB.out.size, ?_⟩, HB.out.alloc HB.out.size _⟩
        first | (rw [if_neg hk4, if_neg hk4]; exact Blk.new _ _ _) | exact Blk.new _ _ _
    case hstep2 =>
      refine StepsOk.cons (StepOk.known rfl fun y W hS hd K' hK => ?_) ?_
      · skip
        clear hd
        go_simp
        exact hK.out _ _ rfl (Gr.refl _) hS
      refine StepsOk.cons (StepOk.known rfl fun y W hS hd K' hK => ?_) ?_
      · skip
        clear hd
        go_simp
        exact hK.out _ _ rfl (Gr.refl _) hS
      refine StepsOk.cons (StepOk.known rfl fun y W hS hd K' hK => ?_) ?_
      · skip
        clear hd
        have hc := (hS.2.1.cell 0).trans rfl
        go_simp
        exact hK.out _ _ rfl (Gr.refl _) hS
      refine StepsOk.cons (StepOk.known rfl fun y W hS hd K' hK => ?_) ?_
      · skip
        clear hd
        go_simp
        exact hK.out _ _ rfl (Gr.refl _) hS
      refine StepsOk.cons (StepOk.known rfl fun y W hS hd K' hK => ?_) ?_
      · skip
        have e41 : y 41 = .int .i64 J := (hd 3 rfl).val rfl rfl
        clear hd
        go_simp
        exact hK.out _ _ (by first | rfl | (simp only [e41]; done) | (simp only [e41]; rfl)) (Gr.refl _) hS
      refine StepsOk.cons (StepOk.known rfl fun y W hS hd K' hK => ?_) ?_
      · skip
        have e40 : y 40 = .slice A N c := (hd 2 rfl).val rfl rfl
        have e42 : y 42 = .int .i64 (J + 1) := (hd 4 rfl).val rfl rfl
        clear hd
        go_simp
        refine (c5.out _ hS.1).mono ?_
        rintro e W' ⟨rfl, rfl⟩
        go_wp2_with fail
        exact hK.out _ _ (by first | rfl | (simp only [e40, e42]; done) | (simp only [e40, e42]; rfl)) (Gr.refl _) hS
      refine StepsOk.cons (StepOk.known rfl fun y W hS hd K' hK => ?_) ?_
      · skip
        have e43 : y 43 = .int .i64 (n1 : Int) := (hd 5 rfl).val rfl rfl
        clear hd
        go_simp
        exact hK.out _ _ (by first | rfl | (simp only [e43]; done) | (simp only [e43]; rfl)) (Gr.refl _) hS
      refine StepsOk.cons (StepOk.known rfl fun y W hS hd K' hK => ?_) ?_
      · skip
        clear hd
        go_simp
        exact hK.out _ _ rfl (Gr.refl _) hS
      refine StepsOk.cons (StepOk.known rfl fun y W hS hd K' hK => ?_) ?_
      · skip
        clear hd
        go_simp
        exact hK.out _ _ rfl (Gr.refl _) hS
      refine StepsOk.cons (StepOk.known rfl fun y W hS hd K' hK => ?_) ?_
      · skip
        have e46 : y 46 = .int .i64 J := (hd 8 rfl).val rfl rfl
        clear hd
        go_simp
        exact hK.out _ _ (by first | rfl | (simp only [e46]; done) | (simp only [e46]; rfl)) (Gr.refl _) hS
      refine StepsOk.cons (StepOk.known rfl fun y W hS hd K' hK => ?_) ?_
      · skip
        have e43 : y 43 = .int .i64 (n1 : Int) := (hd 5 rfl).val rfl rfl
        have e45 : y 45 = .func (.func 104) #[] #[.pointer (some ⟨w.heap.size, 0, none⟩)] := (hd 7 rfl).val rfl rfl
        have e47 : y 47 = .int .i64 (J + 9) := (hd 9 rfl).val rfl rfl
        clear hd
        go_simp
        refine (c6.out _ hS.1 hS.2.1).mono ?_
        rintro e W' ⟨rfl, hc⟩
        go_wp2_with fail
        obtain ⟨hb, hx, hz, hzn⟩ := hS
        exact hK.out _ _ (by first | rfl | (simp only [e43, e45, e47]; done) | (simp only [e43, e45, e47]; rfl)) (Gr.below hc) ⟨hb.trans (hc.mono hb.size), hx.below hc hx.lt, hz.below hc hz.lt, hzn⟩
      refine StepsOk.cons (StepOk.known rfl fun y W hS hd K' hK => ?_) ?_
      · skip
        clear hd
        have hc := (hS.2.1.cell 0).trans rfl
        go_simp
        exact hK.out _ _ rfl (Gr.refl _) hS
      refine StepsOk.cons (StepOk.known rfl fun y W hS hd K' hK => ?_) ?_
      · skip
        clear hd
        go_simp
        exact hK.out _ _ rfl (Gr.refl _) hS
      refine StepsOk.cons (StepOk.known rfl fun y W hS hd K' hK => ?_) ?_
      · skip
        have e50 : y 50 = .int .i64 J := (hd 12 rfl).val rfl rfl
        clear hd
        go_simp
        exact hK.out _ _ (by first | rfl | (simp only [e50]; done) | (simp only [e50]; rfl)) (Gr.refl _) hS
      refine StepsOk.cons (StepOk.known rfl fun y W hS hd K' hK => ?_) ?_
      · skip
        have e48 : y 48 = .agg #[.int .i64 d4, .int .i64 d5, .int .i64 d6] := (hd 10 rfl).val rfl rfl
        have e49 : y 49 = .slice A N c := (hd 11 rfl).val rfl rfl
        have e51 : y 51 = .int .i64 (J + 12) := (hd 13 rfl).val rfl rfl
        clear hd
        go_simp
        refine (c7.out _ hS.1).mono ?_
        rintro e W' ⟨rfl, hc⟩
        go_wp2_with fail
        obtain ⟨hb, hx, hz, hzn⟩ := hS
        exact hK.out _ _ (by first | rfl | (simp only [e48, e49, e51]; done) | (simp only [e48, e49, e51]; rfl)) (Gr.below hc) ⟨hb.trans (hc.mono hb.size), hx.below hc hx.lt, hz.below hc hz.lt, hzn⟩
      refine StepsOk.cons (StepOk.other rfl fun y W hS hd K' hK => ?_) ?_
      · skip
        clear hd
        obtain ⟨hb, hx, hz, hzn⟩ := hS
        go_simp
        exact hK.out _ _ _ rfl (Gr.alloc W _) ⟨hb.alloc hb.size _, hx.alloc _, hz.alloc _, hzn⟩ (show ∃ g, _ = Value.slice (some ⟨g, 0, none⟩) 2 2 ∧ Blk _ g 9 #[.string ⟨#[]⟩, .string ⟨#[83]⟩] from ⟨_, rfl, Blk.new W _ _⟩)
      refine StepsOk.cons (StepOk.known rfl fun y W hS hd K' hK => ?_) ?_
      · skip
        clear hd
        have hc := (hS.2.1.cell 0).trans rfl
        go_simp
        exact hK.out _ _ rfl (Gr.refl _) hS
      refine StepsOk.cons (StepOk.known rfl fun y W hS hd K' hK => ?_) ?_
      · skip
        clear hd
        go_simp
        exact hK.out _ _ rfl (Gr.refl _) hS
      refine StepsOk.cons (StepOk.known rfl fun y W hS hd K' hK => ?_) ?_
      · skip
        have e55 : y 55 = .int .i64 J := (hd 17 rfl).val rfl rfl
        clear hd
        go_simp
        exact hK.out _ _ (by first | rfl | (simp only [e55]; done) | (simp only [e55]; rfl)) (Gr.refl _) hS
      refine StepsOk.cons (StepOk.known rfl fun y W hS hd K' hK => ?_) ?_
      · skip
        have e52 : y 52 = .agg #[.int .i64 s3, .int .i64 s4] := (hd 14 rfl).val rfl rfl
        have e54 : y 54 = .slice A N c := (hd 16 rfl).val rfl rfl
        have e56 : y 56 = .int .i64 (J + 14) := (hd 18 rfl).val rfl rfl
        clear hd
        go_simp
        refine (c8.out _ hS.1).mono ?_
        rintro e W' ⟨rfl, rfl⟩
        go_wp2_with fail
        exact hK.out _ _ (by first | rfl | (simp only [e52, e54, e56]; done) | (simp only [e52, e54, e56]; rfl)) (Gr.refl _) hS
      refine StepsOk.cons (StepOk.other rfl fun y W hS hd K' hK => ?_) ?_
      · skip
        have x15 : (fun (y : Nat → Value) (W : World) => ∃ g, y 53 = .slice (some ⟨g, 0, none⟩) 2 2 ∧ Blk W g 9 #[.string ⟨#[]⟩, .string ⟨#[83]⟩]) y W := (hd 15 rfl).ex rfl
        have e57 : y 57 = .int .i64 (n14 : Int) := (hd 19 rfl).val rfl rfl
        clear hd
        obtain ⟨g, h1, h3⟩ := x15
        go_simp
        exact hK.out _ _ _ (by first | rfl | (simp only [e57, h1]; done) | (simp only [e57, h1]; rfl)) (Gr.refl _) hS (show ∃ g, _ = Value.pointer (some ⟨g, n14, none⟩) ∧ Blk W g 9 #[.string ⟨#[]⟩, .string ⟨#[83]⟩] from ⟨g, rfl, h3⟩)
      refine StepsOk.cons (StepOk.known rfl fun y W hS hd K' hK => ?_) ?_
      · skip
        have x20 : (fun (y : Nat → Value) (W : World) => ∃ g, y 58 = .pointer (some ⟨g, n14, none⟩) ∧ Blk W g 9 #[.string ⟨#[]⟩, .string ⟨#[83]⟩]) y W := (hd 20 rfl).ex rfl
        clear hd
        obtain ⟨g, h1, h3⟩ := x20
        have k0 := (h3.cell n14).trans LB
        go_simp
        exact hK.out _ _ (by first | rfl | (simp only [h1]; done) | (simp only [h1]; rfl)) (Gr.refl _) hS
      refine StepsOk.cons (StepOk.known rfl fun y W hS hd K' hK => ?_) ?_
      · skip
        have e38 : y 38 = .int .i64 F := (hd 0 rfl).val rfl rfl
        have e39 : y 39 = .int .i64 T := (hd 1 rfl).val rfl rfl
        have e44 : y 44 = .int .i64 (8 + (n1 : Int)) := (hd 6 rfl).val rfl rfl
        have e48 : y 48 = .agg #[.int .i64 d4, .int .i64 d5, .int .i64 d6] := (hd 10 rfl).val rfl rfl
        have e52 : y 52 = .agg #[.int .i64 s3, .int .i64 s4] := (hd 14 rfl).val rfl rfl
        have e59 : y 59 = .string BL := (hd 21 rfl).val rfl rfl
        clear hd
        go_simp
        exact hK.out _ _ (by first | rfl | (simp only [e38, e39, e44, e48, e52, e59]; done) | (simp only [e38, e39, e44, e48, e52, e59]; rfl)) (Gr.refl _) hS
      refine StepsOk.cons (StepOk.other rfl fun y W hS hd K' hK => ?_) ?_
      · skip
        clear hd
        obtain ⟨hb, hx, hz, hzn⟩ := hS
        go_simp
        exact hK.out _ _ _ rfl (Gr.alloc W _) ⟨hb.alloc hb.size _, hx.alloc _, hz.alloc _, hzn⟩ (show ∃ g, (_ = Value.pointer (some ⟨g, 0, none⟩) ∧ w.heap.size < g ∧ g ≠ g1) ∧ ∃ a b c d e f h i j k l, Blk _ g 83 #[a, b, c, d, e, f, h, i, j, k, l] from ⟨W.heap.size, ⟨rfl, hx.lt, fun q => by have := hz.lt; omega⟩, _, _, _, _, _, _, _, _, _, _, _, Blk.new W 83 #[.string ⟨#[]⟩, .int .i64 0, .int .i64 0, .int .i64 0, .int .i64 0, .int .i64 0, .int .i64 0, .int .i64 0, .int .i64 0, .int .i64 0, .string ⟨#[]⟩]⟩)
      refine StepsOk.cons (StepOk.other rfl fun y W hS hd K' hK => ?_) ?_
      · skip
        have e60 : y 60 = .agg #[.string ⟨#[]⟩, .int .i64 F, .int .i64 T, .int .i64 (8 + (n1 : Int)), .int .i64 d4, .int .i64 d5, .int .i64 d6, .int .i64 s3, .int .i64 s4, .int .i64 0, .string BL] := (hd 22 rfl).val rfl rfl
        have x23 : (fun (y : Nat → Value) (W : World) => ∃ g, (y 13 = Value.pointer (some ⟨g, 0, none⟩) ∧ w.heap.size < g ∧ g ≠ g1) ∧ ∃ a b c d e f h i j k l, Blk W g 83 #[a, b, c, d, e, f, h, i, j, k, l]) y W := (hd 23 rfl).ex rfl
        clear hd
        obtain ⟨g, ⟨h1, h2, h2b⟩, a, b, c, d, e, f, h, i, j, k, l, hr0⟩ := x23
        have k0 := (hr0.cell 0).trans rfl
        have k1 := (hr0.cell 1).trans rfl
        have k2 := (hr0.cell 2).trans rfl
        have k3 := (hr0.cell 3).trans rfl
        have k4 := (hr0.cell 4).trans rfl
        have k5 := (hr0.cell 5).trans rfl
        have k6 := (hr0.cell 6).trans rfl
        have k7 := (hr0.cell 7).trans rfl
        have k8 := (hr0.cell 8).trans rfl
        have k9 := (hr0.cell 9).trans rfl
        have k10 := (hr0.cell 10).trans rfl
        have f0 := hr0.frozen 0
        have f1 := hr0.frozen 1
        have f2 := hr0.frozen 2
        have f3 := hr0.frozen 3
        have f4 := hr0.frozen 4
        have f5 := hr0.frozen 5
        have f6 := hr0.frozen 6
        have f7 := hr0.frozen 7
        have f8 := hr0.frozen 8
        have f9 := hr0.frozen 9
        have f10 := hr0.frozen 10
        have hr1 : Blk _ g 83 #[.string ⟨#[]⟩, b, c, d, e, f, h, i, j, k, l] := hr0.set_ 0 (.string ⟨#[]⟩)
        have q1 := Gr.set_ hr0 0 (.string ⟨#[]⟩)
        have hr2 : Blk _ g 83 #[.string ⟨#[]⟩, .int .i64 F, c, d, e, f, h, i, j, k, l] := hr1.set_ 1 (.int .i64 F)
        have q2 := Gr.set_ hr1 1 (.int .i64 F)
        have hr3 : Blk _ g 83 #[.string ⟨#[]⟩, .int .i64 F, .int .i64 T, d, e, f, h, i, j, k, l] := hr2.set_ 2 (.int .i64 T)
        have q3 := Gr.set_ hr2 2 (.int .i64 T)
        have hr4 : Blk _ g 83 #[.string ⟨#[]⟩, .int .i64 F, .int .i64 T, .int .i64 (8 + (n1 : Int)), e, f, h, i, j, k, l] := hr3.set_ 3 (.int .i64 (8 + (n1 : Int)))
        have q4 := Gr.set_ hr3 3 (.int .i64 (8 + (n1 : Int)))
        have hr5 : Blk _ g 83 #[.string ⟨#[]⟩, .int .i64 F, .int .i64 T, .int .i64 (8 + (n1 : Int)), .int .i64 d4, f, h, i, j, k, l] := hr4.set_ 4 (.int .i64 d4)
        have q5 := Gr.set_ hr4 4 (.int .i64 d4)
        have hr6 : Blk _ g 83 #[.string ⟨#[]⟩, .int .i64 F, .int .i64 T, .int .i64 (8 + (n1 : Int)), .int .i64 d4, .int .i64 d5, h, i, j, k, l] := hr5.set_ 5 (.int .i64 d5)
        have q6 := Gr.set_ hr5 5 (.int .i64 d5)
        have hr7 : Blk _ g 83 #[.string ⟨#[]⟩, .int .i64 F, .int .i64 T, .int .i64 (8 + (n1 : Int)), .int .i64 d4, .int .i64 d5, .int .i64 d6, i, j, k, l] := hr6.set_ 6 (.int .i64 d6)
        have q7 := Gr.set_ hr6 6 (.int .i64 d6)
        have hr8 : Blk _ g 83 #[.string ⟨#[]⟩, .int .i64 F, .int .i64 T, .int .i64 (8 + (n1 : Int)), .int .i64 d4, .int .i64 d5, .int .i64 d6, .int .i64 s3, j, k, l] := hr7.set_ 7 (.int .i64 s3)
        have q8 := Gr.set_ hr7 7 (.int .i64 s3)
        have hr9 : Blk _ g 83 #[.string ⟨#[]⟩, .int .i64 F, .int .i64 T, .int .i64 (8 + (n1 : Int)), .int .i64 d4, .int .i64 d5, .int .i64 d6, .int .i64 s3, .int .i64 s4, k, l] := hr8.set_ 8 (.int .i64 s4)
        have q9 := Gr.set_ hr8 8 (.int .i64 s4)
        have hr10 : Blk _ g 83 #[.string ⟨#[]⟩, .int .i64 F, .int .i64 T, .int .i64 (8 + (n1 : Int)), .int .i64 d4, .int .i64 d5, .int .i64 d6, .int .i64 s3, .int .i64 s4, .int .i64 0, l] := hr9.set_ 9 (.int .i64 0)
        have q10 := Gr.set_ hr9 9 (.int .i64 0)
        have hr11 : Blk _ g 83 #[.string ⟨#[]⟩, .int .i64 F, .int .i64 T, .int .i64 (8 + (n1 : Int)), .int .i64 d4, .int .i64 d5, .int .i64 d6, .int .i64 s3, .int .i64 s4, .int .i64 0, .string BL] := hr10.set_ 10 (.string BL)
        have q11 := Gr.set_ hr10 10 (.string BL)
        have hG := q1.trans (q2.trans (q3.trans (q4.trans (q5.trans (q6.trans (q7.trans (q8.trans (q9.trans (q10.trans (q11))))))))))
        obtain ⟨hb, hx, hz, hzn⟩ := hS
        have hb2 := (((((((((((hb.setCell (p := ⟨g, 0, none⟩) (Nat.le_of_lt h2) (.string ⟨#[]⟩)).setCell (p := ⟨g, 1, none⟩) (Nat.le_of_lt h2) (.int .i64 F)).setCell (p := ⟨g, 2, none⟩) (Nat.le_of_lt h2) (.int .i64 T)).setCell (p := ⟨g, 3, none⟩) (Nat.le_of_lt h2) (.int .i64 (8 + (n1 : Int)))).setCell (p := ⟨g, 4, none⟩) (Nat.le_of_lt h2) (.int .i64 d4)).setCell (p := ⟨g, 5, none⟩) (Nat.le_of_lt h2) (.int .i64 d5)).setCell (p := ⟨g, 6, none⟩) (Nat.le_of_lt h2) (.int .i64 d6)).setCell (p := ⟨g, 7, none⟩) (Nat.le_of_lt h2) (.int .i64 s3)).setCell (p := ⟨g, 8, none⟩) (Nat.le_of_lt h2) (.int .i64 s4)).setCell (p := ⟨g, 9, none⟩) (Nat.le_of_lt h2) (.int .i64 0)).setCell (p := ⟨g, 10, none⟩) (Nat.le_of_lt h2) (.string BL))
        have HX := Lib.hid hx
        have hz2 := (((((((((((hz.far (p := ⟨g, 0, none⟩) (fun q => h2b q.symm) (.string ⟨#[]⟩)).far (p := ⟨g, 1, none⟩) (fun q => h2b q.symm) (.int .i64 F)).far (p := ⟨g, 2, none⟩) (fun q => h2b q.symm) (.int .i64 T)).far (p := ⟨g, 3, none⟩) (fun q => h2b q.symm) (.int .i64 (8 + (n1 : Int)))).far (p := ⟨g, 4, none⟩) (fun q => h2b q.symm) (.int .i64 d4)).far (p := ⟨g, 5, none⟩) (fun q => h2b q.symm) (.int .i64 d5)).far (p := ⟨g, 6, none⟩) (fun q => h2b q.symm) (.int .i64 d6)).far (p := ⟨g, 7, none⟩) (fun q => h2b q.symm) (.int .i64 s3)).far (p := ⟨g, 8, none⟩) (fun q => h2b q.symm) (.int .i64 s4)).far (p := ⟨g, 9, none⟩) (fun q => h2b q.symm) (.int .i64 0)).far (p := ⟨g, 10, none⟩) (fun q => h2b q.symm) (.string BL))
        have HH := Lib.hid (And.intro hr11 (And.intro hG hb2))
        have HZ := Lib.hid hz2
        clear hr0 hr1 hr2 hr3 hr4 hr5 hr6 hr7 hr8 hr9 hr10 hr11 q1 q2 q3 q4 q5 q6 q7 q8 q9 q10 q11 hG hb2 hb hx hz hz2
        go_simp
        exact hK.out undef _ _ (by first | rfl | (simp only [e60, h1]; done) | (simp only [e60, h1]; rfl)) HH.out.2.1 ⟨HH.out.2.2, HH.out.2.1.far _ _ _ (by decide) HX.out, HZ.out, hzn⟩ (show ∃ g, (y 13 = Value.pointer (some ⟨g, 0, none⟩) ∧ w.heap.size < g ∧ g ≠ g1) ∧ Blk _ g 83 #[.string ⟨#[]⟩, .int .i64 F, .int .i64 T, .int .i64 (8 + (n1 : Int)), .int .i64 d4, .int .i64 d5, .int .i64 d6, .int .i64 s3, .int .i64 s4, .int .i64 0, .string BL] from ⟨g, ⟨h1, h2, h2b⟩, HH.out.1⟩)
      exact StepsOk.nil
    
  case hstep1 =>
    refine StepsOk.cons (StepOk.known rfl fun y W hS hd K' hK => ?_) ?_
    · skip
      clear hd
      go_simp
      exact hK.out _ _ rfl (Gr.refl _) hS
    refine StepsOk.cons (StepOk.known rfl fun y W hS hd K' hK => ?_) ?_
    · skip
      clear hd
      go_simp
      exact hK.out _ _ rfl (Gr.refl _) hS
    refine StepsOk.cons (StepOk.known rfl fun y W hS hd K' hK => ?_) ?_
    · skip
      clear hd
      have hc := (hS.2.1.cell 0).trans rfl
      go_simp
      exact hK.out _ _ rfl (Gr.refl _) hS
    refine StepsOk.cons (StepOk.known rfl fun y W hS hd K' hK => ?_) ?_
    · skip
      clear hd
      go_simp
      exact hK.out _ _ rfl (Gr.refl _) hS
    refine StepsOk.cons (StepOk.known rfl fun y W hS hd K' hK => ?_) ?_
    · skip
      have e17 : y 17 = .slice A N c := (hd 2 rfl).val rfl rfl
      have e18 : y 18 = .int .i64 J := (hd 3 rfl).val rfl rfl
      clear hd
      go_simp
      refine (c1.out _ hS.1).mono ?_
      rintro e W' ⟨rfl, rfl⟩
      go_wp2_with fail
      exact hK.out _ _ (by first | rfl | (simp only [e17, e18]; done) | (simp only [e17, e18]; rfl)) (Gr.refl _) hS
    refine StepsOk.cons (StepOk.known rfl fun y W hS hd K' hK => ?_) ?_
    · skip
      have e19 : y 19 = .int .i64 (n3 : Int) := (hd 4 rfl).val rfl rfl
      clear hd
      go_simp
      exact hK.out _ _ (by first | rfl | (simp only [e19]; done) | (simp only [e19]; rfl)) (Gr.refl _) hS
    refine StepsOk.cons (StepOk.known rfl fun y W hS hd K' hK => ?_) ?_
    · skip
      clear hd
      go_simp
      exact hK.out _ _ rfl (Gr.refl _) hS
    refine StepsOk.cons (StepOk.known rfl fun y W hS hd K' hK => ?_) ?_
    · skip
      clear hd
      go_simp
      exact hK.out _ _ rfl (Gr.refl _) hS
    refine StepsOk.cons (StepOk.known rfl fun y W hS hd K' hK => ?_) ?_
    · skip
      have e22 : y 22 = .int .i64 J := (hd 7 rfl).val rfl rfl
      clear hd
      go_simp
      exact hK.out _ _ (by first | rfl | (simp only [e22]; done) | (simp only [e22]; rfl)) (Gr.refl _) hS
    refine StepsOk.cons (StepOk.known rfl fun y W hS hd K' hK => ?_) ?_
    · skip
      have e19 : y 19 = .int .i64 (n3 : Int) := (hd 4 rfl).val rfl rfl
      have e21 : y 21 = .func (.func 104) #[] #[.pointer (some ⟨w.heap.size, 0, none⟩)] := (hd 6 rfl).val rfl rfl
      have e23 : y 23 = .int .i64 (J + 3) := (hd 8 rfl).val rfl rfl
      clear hd
      go_simp
      refine (c2.out _ hS.1 hS.2.1).mono ?_
      rintro e W' ⟨rfl, hc⟩
      go_wp2_with fail
      obtain ⟨hb, hx, ht⟩ := hS
      exact hK.out _ _ (by first | rfl | (simp only [e19, e21, e23]; done) | (simp only [e19, e21, e23]; rfl)) (Gr.below hc) ⟨hb.trans (hc.mono hb.size), hx.below hc hx.lt, ht⟩
    refine StepsOk.cons (StepOk.known rfl fun y W hS hd K' hK => ?_) ?_
    · skip
      clear hd
      have hc := (hS.2.1.cell 0).trans rfl
      go_simp
      exact hK.out _ _ rfl (Gr.refl _) hS
    refine StepsOk.cons (StepOk.known rfl fun y W hS hd K' hK => ?_) ?_
    · skip
      clear hd
      go_simp
      exact hK.out _ _ rfl (Gr.refl _) hS
    refine StepsOk.cons (StepOk.known rfl fun y W hS hd K' hK => ?_) ?_
    · skip
      have e26 : y 26 = .int .i64 J := (hd 11 rfl).val rfl rfl
      clear hd
      go_simp
      exact hK.out _ _ (by first | rfl | (simp only [e26]; done) | (simp only [e26]; rfl)) (Gr.refl _) hS
    refine StepsOk.cons (StepOk.known rfl fun y W hS hd K' hK => ?_) ?_
    · skip
      have e24 : y 24 = .agg #[.int .i64 d1, .int .i64 d2, .int .i64 d3] := (hd 9 rfl).val rfl rfl
      have e25 : y 25 = .slice A N c := (hd 10 rfl).val rfl rfl
      have e27 : y 27 = .int .i64 (J + 6) := (hd 12 rfl).val rfl rfl
      clear hd
      go_simp
      refine (c3.out _ hS.1).mono ?_
      rintro e W' ⟨rfl, hc⟩
      go_wp2_with fail
      obtain ⟨hb, hx, ht⟩ := hS
      exact hK.out _ _ (by first | rfl | (simp only [e24, e25, e27]; done) | (simp only [e24, e25, e27]; rfl)) (Gr.below hc) ⟨hb.trans (hc.mono hb.size), hx.below hc hx.lt, ht⟩
    refine StepsOk.cons (StepOk.known rfl fun y W hS hd K' hK => ?_) ?_
    · skip
      clear hd
      go_simp
      exact hK.out _ _ rfl (Gr.refl _) hS
    refine StepsOk.cons (StepOk.other rfl fun y W hS hd K' hK => ?_) ?_
    · skip
      clear hd
      obtain ⟨hb, hx, ht⟩ := hS
      go_simp
      exact hK.out _ _ _ rfl (Gr.alloc W _) ⟨hb.alloc hb.size _, hx.alloc _, ht⟩ (show ∃ g, _ = Value.slice (some ⟨g, 0, none⟩) 3 3 ∧ Blk _ g 9 #[.string ⟨#[83]⟩, .string ⟨#[68]⟩, .string ⟨#[68, 84]⟩] from ⟨_, rfl, Blk.new W _ _⟩)
    refine StepsOk.cons (StepOk.known rfl fun y W hS hd K' hK => ?_) ?_
    · skip
      clear hd
      have hc := (hS.2.1.cell 0).trans rfl
      go_simp
      exact hK.out _ _ rfl (Gr.refl _) hS
    refine StepsOk.cons (StepOk.known rfl fun y W hS hd K' hK => ?_) ?_
    · skip
      clear hd
      go_simp
      exact hK.out _ _ rfl (Gr.refl _) hS
    refine StepsOk.cons (StepOk.known rfl fun y W hS hd K' hK => ?_) ?_
    · skip
      have e32 : y 32 = .int .i64 J := (hd 17 rfl).val rfl rfl
      clear hd
      go_simp
      exact hK.out _ _ (by first | rfl | (simp only [e32]; done) | (simp only [e32]; rfl)) (Gr.refl _) hS
    refine StepsOk.cons (StepOk.known rfl fun y W hS hd K' hK => ?_) ?_
    · skip
      have e28 : y 28 = .agg #[.int .i64 s1, .int .i64 s2] := (hd 13 rfl).val rfl rfl
      have e31 : y 31 = .slice A N c := (hd 16 rfl).val rfl rfl
      have e33 : y 33 = .int .i64 (J + 8) := (hd 18 rfl).val rfl rfl
      clear hd
      go_simp
      refine (c4.out _ hS.1).mono ?_
      rintro e W' ⟨rfl, rfl⟩
      go_wp2_with fail
      exact hK.out _ _ (by first | rfl | (simp only [e28, e31, e33]; done) | (simp only [e28, e31, e33]; rfl)) (Gr.refl _) hS
    refine StepsOk.cons (StepOk.other rfl fun y W hS hd K' hK => ?_) ?_
    · skip
      have x15 : (fun (y : Nat → Value) (W : World) => ∃ g, y 30 = .slice (some ⟨g, 0, none⟩) 3 3 ∧ Blk W g 9 #[.string ⟨#[83]⟩, .string ⟨#[68]⟩, .string ⟨#[68, 84]⟩]) y W := (hd 15 rfl).ex rfl
      have e34 : y 34 = .int .i64 (n8 : Int) := (hd 19 rfl).val rfl rfl
      clear hd
      obtain ⟨g, h1, h3⟩ := x15
      go_simp
      exact hK.out _ _ _ (by first | rfl | (simp only [e34, h1]; done) | (simp only [e34, h1]; rfl)) (Gr.refl _) hS (show ∃ g, _ = Value.pointer (some ⟨g, n8, none⟩) ∧ Blk W g 9 #[.string ⟨#[83]⟩, .string ⟨#[68]⟩, .string ⟨#[68, 84]⟩] from ⟨g, rfl, h3⟩)
    refine StepsOk.cons (StepOk.known rfl fun y W hS hd K' hK => ?_) ?_
    · skip
      have x20 : (fun (y : Nat → Value) (W : World) => ∃ g, y 35 = .pointer (some ⟨g, n8, none⟩) ∧ Blk W g 9 #[.string ⟨#[83]⟩, .string ⟨#[68]⟩, .string ⟨#[68, 84]⟩]) y W := (hd 20 rfl).ex rfl
      clear hd
      obtain ⟨g, h1, h3⟩ := x20
      have k0 := (h3.cell n8).trans LA
      go_simp
      exact hK.out _ _ (by first | rfl | (simp only [h1]; done) | (simp only [h1]; rfl)) (Gr.refl _) hS
    refine StepsOk.cons (StepOk.known rfl fun y W hS hd K' hK => ?_) ?_
    · skip
      have e15 : y 15 = .int .i64 F := (hd 0 rfl).val rfl rfl
      have e16 : y 16 = .int .i64 T := (hd 1 rfl).val rfl rfl
      have e20 : y 20 = .int .i64 (2 + (n3 : Int)) := (hd 5 rfl).val rfl rfl
      have e24 : y 24 = .agg #[.int .i64 d1, .int .i64 d2, .int .i64 d3] := (hd 9 rfl).val rfl rfl
      have e28 : y 28 = .agg #[.int .i64 s1, .int .i64 s2] := (hd 13 rfl).val rfl rfl
      have e29 : y 29 = .int .i64 V := (hd 14 rfl).val rfl rfl
      have e36 : y 36 = .string SL := (hd 21 rfl).val rfl rfl
      clear hd
      go_simp
      exact hK.out _ _ (by first | rfl | (simp only [e15, e16, e20, e24, e28, e29, e36]; done) | (simp only [e15, e16, e20, e24, e28, e29, e36]; rfl)) (Gr.refl _) hS
    refine StepsOk.cons (StepOk.other rfl fun y W hS hd K' hK => ?_) ?_
    · skip
      clear hd
      obtain ⟨hb, hx, ht⟩ := hS
      go_simp
      exact hK.out _ _ _ rfl (Gr.alloc W _) ⟨hb.alloc hb.size _, hx.alloc _, ht⟩ (show ∃ g, (_ = Value.pointer (some ⟨g, 0, none⟩) ∧ w.heap.size < g) ∧ ∃ a b c d e f h i j k l, Blk _ g 83 #[a, b, c, d, e, f, h, i, j, k, l] from ⟨W.heap.size, ⟨rfl, hx.lt⟩, _, _, _, _, _, _, _, _, _, _, _, Blk.new W 83 #[.string ⟨#[]⟩, .int .i64 0, .int .i64 0, .int .i64 0, .int .i64 0, .int .i64 0, .int .i64 0, .int .i64 0, .int .i64 0, .int .i64 0, .string ⟨#[]⟩]⟩)
    refine StepsOk.cons (StepOk.other rfl fun y W hS hd K' hK => ?_) ?_
    · skip
      have e37 : y 37 = .agg #[.string ⟨#[]⟩, .int .i64 F, .int .i64 T, .int .i64 (2 + (n3 : Int)), .int .i64 d1, .int .i64 d2, .int .i64 d3, .int .i64 s1, .int .i64 s2, .int .i64 V, .string SL] := (hd 22 rfl).val rfl rfl
      have x23 : (fun (y : Nat → Value) (W : World) => ∃ g, (y 12 = Value.pointer (some ⟨g, 0, none⟩) ∧ w.heap.size < g) ∧ ∃ a b c d e f h i j k l, Blk W g 83 #[a, b, c, d, e, f, h, i, j, k, l]) y W := (hd 23 rfl).ex rfl
      clear hd
      obtain ⟨g, ⟨h1, h2⟩, a, b, c, d, e, f, h, i, j, k, l, hr0⟩ := x23
      have k0 := (hr0.cell 0).trans rfl
      have k1 := (hr0.cell 1).trans rfl
      have k2 := (hr0.cell 2).trans rfl
      have k3 := (hr0.cell 3).trans rfl
      have k4 := (hr0.cell 4).trans rfl
      have k5 := (hr0.cell 5).trans rfl
      have k6 := (hr0.cell 6).trans rfl
      have k7 := (hr0.cell 7).trans rfl
      have k8 := (hr0.cell 8).trans rfl
      have k9 := (hr0.cell 9).trans rfl
      have k10 := (hr0.cell 10).trans rfl
      have f0 := hr0.frozen 0
      have f1 := hr0.frozen 1
      have f2 := hr0.frozen 2
      have f3 := hr0.frozen 3
      have f4 := hr0.frozen 4
      have f5 := hr0.frozen 5
      have f6 := hr0.frozen 6
      have f7 := hr0.frozen 7
      have f8 := hr0.frozen 8
      have f9 := hr0.frozen 9
      have f10 := hr0.frozen 10
      have hr1 : Blk _ g 83 #[.string ⟨#[]⟩, b, c, d, e, f, h, i, j, k, l] := hr0.set_ 0 (.string ⟨#[]⟩)
      have q1 := Gr.set_ hr0 0 (.string ⟨#[]⟩)
      have hr2 : Blk _ g 83 #[.string ⟨#[]⟩, .int .i64 F, c, d, e, f, h, i, j, k, l] := hr1.set_ 1 (.int .i64 F)
      have q2 := Gr.set_ hr1 1 (.int .i64 F)
      have hr3 : Blk _ g 83 #[.string ⟨#[]⟩, .int .i64 F, .int .i64 T, d, e, f, h, i, j, k, l] := hr2.set_ 2 (.int .i64 T)
      have q3 := Gr.set_ hr2 2 (.int .i64 T)
      have hr4 : Blk _ g 83 #[.string ⟨#[]⟩, .int .i64 F, .int .i64 T, .int .i64 (2 + (n3 : Int)), e, f, h, i, j, k, l] := hr3.set_ 3 (.int .i64 (2 + (n3 : Int)))
      have q4 := Gr.set_ hr3 3 (.int .i64 (2 + (n3 : Int)))
      have hr5 : Blk _ g 83 #[.string ⟨#[]⟩, .int .i64 F, .int .i64 T, .int .i64 (2 + (n3 : Int)), .int .i64 d1, f, h, i, j, k, l] := hr4.set_ 4 (.int .i64 d1)
      have q5 := Gr.set_ hr4 4 (.int .i64 d1)
      have hr6 : Blk _ g 83 #[.string ⟨#[]⟩, .int .i64 F, .int .i64 T, .int .i64 (2 + (n3 : Int)), .int .i64 d1, .int .i64 d2, h, i, j, k, l] := hr5.set_ 5 (.int .i64 d2)
      have q6 := Gr.set_ hr5 5 (.int .i64 d2)
      have hr7 : Blk _ g 83 #[.string ⟨#[]⟩, .int .i64 F, .int .i64 T, .int .i64 (2 + (n3 : Int)), .int .i64 d1, .int .i64 d2, .int .i64 d3, i, j, k, l] := hr6.set_ 6 (.int .i64 d3)
      have q7 := Gr.set_ hr6 6 (.int .i64 d3)
      have hr8 : Blk _ g 83 #[.string ⟨#[]⟩, .int .i64 F, .int .i64 T, .int .i64 (2 + (n3 : Int)), .int .i64 d1, .int .i64 d2, .int .i64 d3, .int .i64 s1, j, k, l] := hr7.set_ 7 (.int .i64 s1)
      have q8 := Gr.set_ hr7 7 (.int .i64 s1)
      have hr9 : Blk _ g 83 #[.string ⟨#[]⟩, .int .i64 F, .int .i64 T, .int .i64 (2 + (n3 : Int)), .int .i64 d1, .int .i64 d2, .int .i64 d3, .int .i64 s1, .int .i64 s2, k, l] := hr8.set_ 8 (.int .i64 s2)
      have q9 := Gr.set_ hr8 8 (.int .i64 s2)
      have hr10 : Blk _ g 83 #[.string ⟨#[]⟩, .int .i64 F, .int .i64 T, .int .i64 (2 + (n3 : Int)), .int .i64 d1, .int .i64 d2, .int .i64 d3, .int .i64 s1, .int .i64 s2, .int .i64 V, l] := hr9.set_ 9 (.int .i64 V)
      have q10 := Gr.set_ hr9 9 (.int .i64 V)
      have hr11 : Blk _ g 83 #[.string ⟨#[]⟩, .int .i64 F, .int .i64 T, .int .i64 (2 + (n3 : Int)), .int .i64 d1, .int .i64 d2, .int .i64 d3, .int .i64 s1, .int .i64 s2, .int .i64 V, .string SL] := hr10.set_ 10 (.string SL)
      have q11 := Gr.set_ hr10 10 (.string SL)
      have hG := q1.trans (q2.trans (q3.trans (q4.trans (q5.trans (q6.trans (q7.trans (q8.trans (q9.trans (q10.trans (q11))))))))))
      obtain ⟨hb, hx, ht⟩ := hS
      have hb2 := (((((((((((hb.setCell (p := ⟨g, 0, none⟩) (Nat.le_of_lt h2) (.string ⟨#[]⟩)).setCell (p := ⟨g, 1, none⟩) (Nat.le_of_lt h2) (.int .i64 F)).setCell (p := ⟨g, 2, none⟩) (Nat.le_of_lt h2) (.int .i64 T)).setCell (p := ⟨g, 3, none⟩) (Nat.le_of_lt h2) (.int .i64 (2 + (n3 : Int)))).setCell (p := ⟨g, 4, none⟩) (Nat.le_of_lt h2) (.int .i64 d1)).setCell (p := ⟨g, 5, none⟩) (Nat.le_of_lt h2) (.int .i64 d2)).setCell (p := ⟨g, 6, none⟩) (Nat.le_of_lt h2) (.int .i64 d3)).setCell (p := ⟨g, 7, none⟩) (Nat.le_of_lt h2) (.int .i64 s1)).setCell (p := ⟨g, 8, none⟩) (Nat.le_of_lt h2) (.int .i64 s2)).setCell (p := ⟨g, 9, none⟩) (Nat.le_of_lt h2) (.int .i64 V)).setCell (p := ⟨g, 10, none⟩) (Nat.le_of_lt h2) (.string SL))
      have HX := Lib.hid hx
      have HH := Lib.hid (And.intro hr11 (And.intro hG hb2))
      clear hr0 hr1 hr2 hr3 hr4 hr5 hr6 hr7 hr8 hr9 hr10 hr11 q1 q2 q3 q4 q5 q6 q7 q8 q9 q10 q11 hG hb2 hb hx
      go_simp
      exact hK.out undef _ _ (by first | rfl | (simp only [e37, h1]; done) | (simp only [e37, h1]; rfl)) HH.out.2.1 ⟨HH.out.2.2, HH.out.2.1.far _ _ _ (by decide) HX.out, ht⟩ (show ∃ g, (y 12 = Value.pointer (some ⟨g, 0, none⟩) ∧ w.heap.size < g) ∧ Blk _ g 83 #[.string ⟨#[]⟩, .int .i64 F, .int .i64 T, .int .i64 (2 + (n3 : Int)), .int .i64 d1, .int .i64 d2, .int .i64 d3, .int .i64 s1, .int .i64 s2, .int .i64 V, .string SL] from ⟨g, ⟨h1, h2⟩, HH.out.1⟩)
    exact StepsOk.nil
end Go.Proofs.YtlideagcmhlkeaaDoor

/- The walk of Draft.Made (chapter 17): the rules that a draft makes. -/
namespace Go.Proofs.YtlideagcmhlkeaaDoor
open Go.RowKit Go.Lib
set_option linter.unusedVariables false

def r17 (L : List RV) : List Value := L.flatMap RV.cells
theorem r17_app (L M : List RV) : r17 (L ++ M) = r17 L ++ r17 M := by unfold r17; rw [List.flatMap_append]
theorem r17_name (nm : ByteArray) : ∀ (L : List RV) (k : Nat) (r : RV), L[k]? = some r → r17 (L.set k (P17.named nm r)) = (r17 L).set (k * 11) (.string nm)
  | [], k, r, h => by simp at h
  | a :: L, 0, r, h => by
    rw [List.getElem?_cons_zero] at h
    injection h with h
    subst h
    rfl
  | a :: L, k + 1, r, h => by
    rw [List.getElem?_cons_succ] at h
    have ih := r17_name nm L k r h
    show a.cells ++ r17 (L.set k _) = (a.cells ++ r17 L).set ((k + 1) * 11) _
    rw [ih, List.set_append_right _ _ (by show 11 ≤ _; omega)]
    congr 2
    show _ = (k + 1) * 11 - 11
    omega
theorem flat17 : ∀ (L : List RV) (k : Nat) (r : RV), L[k]? = some r → (r17 L)[k * 11]? = some (.string r.name)
  | [], k, r, h => by simp at h
  | a :: L, 0, r, h => by
    rw [List.getElem?_cons_zero] at h
    injection h with h
    subst h
    rfl
  | a :: L, k + 1, r, h => by
    rw [List.getElem?_cons_succ] at h
    show (a.cells ++ r17 L)[(k + 1) * 11]? = _
    rw [List.getElem?_append_right (by show 11 ≤ _; omega)]
    have ih := flat17 L k r h
    rw [show (k + 1) * 11 - a.cells.length = k * 11 from by show (k + 1) * 11 - 11 = k * 11; omega]
    exact ih
/-- the rules of which the first k have their name -/
def mix17 (nm : ByteArray) (L : List RV) (k : Nat) : List RV := (L.take k).map (P17.named nm) ++ L.drop k
theorem mix_zero (nm : ByteArray) (L : List RV) : mix17 nm L 0 = L := by unfold mix17; simp
theorem mix_all (nm : ByteArray) (L : List RV) : mix17 nm L L.length = L.map (P17.named nm) := by unfold mix17; simp
theorem mix_at (nm : ByteArray) (L : List RV) (k : Nat) (r : RV) (h : L[k]? = some r) : (mix17 nm L k)[k]? = some r := by
  have hk := (List.getElem?_eq_some_iff.mp h).1
  unfold mix17
  rw [List.getElem?_append_right (by rw [List.length_map, List.length_take]; omega), List.length_map, List.length_take, List.getElem?_drop]
  rw [show k + (k - min k L.length) = k by omega]
  exact h
theorem mix_succ (nm : ByteArray) (L : List RV) (k : Nat) (r : RV) (h : L[k]? = some r) : mix17 nm L (k + 1) = (mix17 nm L k).set k (P17.named nm r) := by
  have hk := (List.getElem?_eq_some_iff.mp h).1
  have hl : ((L.take k).map (P17.named nm)).length = k := by rw [List.length_map, List.length_take]; omega
  unfold mix17
  rw [List.set_append_right _ _ (by omega), hl, Nat.sub_self, List.take_add_one, h, List.map_append, List.append_assoc]
  congr 1
  rw [List.drop_eq_getElem_cons hk, (List.getElem?_eq_some_iff.mp h).2]
  rfl
theorem infoR17 : (Tryd.prog.info? 83).map (fun i => (i.zero, i.size, i.bytes)) = some (some (.agg #[.string ⟨#[]⟩, .int .i64 0, .int .i64 0, .int .i64 0, .int .i64 0, .int .i64 0, .int .i64 0, .int .i64 0, .int .i64 0, .int .i64 0, .string ⟨#[]⟩]), 11, 104) := by kernel_rfl
theorem cells_one (r : RV) : ∀ u ∈ r.cells, u.oneCell' = true := by
  intro u hu
  unfold RV.cells at hu
  simp only [List.mem_cons, List.not_mem_nil, or_false] at hu
  rcases hu with rfl | rfl | rfl | rfl | rfl | rfl | rfl | rfl | rfl | rfl | rfl <;> rfl
theorem cells_one2 (r s : RV) : ∀ u ∈ r.cells ++ s.cells, u.oneCell' = true := by
  intro u hu
  rcases List.mem_append.1 hu with h | h
  · exact cells_one r u h
  · exact cells_one s u h
theorem sv_at (k : Nat) (h : k < 5) : (#[.int .i64 3600, .int .i64 3600, .int .i64 1800, .int .i64 7200, .int .i64 (-3600)] : Array Value)[k]? = some (.int .i64 (P17.svOf k)) := by
  match k, h with
  | 0, _ | 1, _ | 2, _ | 3, _ | 4, _ => rfl
set_option maxRecDepth 100000 in
set_option maxHeartbeats 16000000 in
theorem made17_any (A : Option Addr) (c : Nat) (D : List Int) (nm : ByteArray) (w : World) (hD : Dr w A D) :
    Calls Tryd.prog 44 #[.slice A D.length c, .string nm] w fun e w' => (∃ v, e = .returned v ∧ w'.ownsRow w.heap.size 83 11 v (P17.made D nm).length (r17 (P17.made D nm))) ∧ Below w.heap.size w w' := by
  have a0 : Hid (∀ W, Below w.heap.size w W → Calls Tryd.prog 78 #[.slice A D.length c, .int .i64 0, .int .i64 5] W fun e w' => e = .returned (.int .i64 (P17.at_ D 0 5 : Int)) ∧ w' = W) := fun W h => at17_at A c D 0 5 0 rfl W (by decide) (by decide) (hD.below h)
  have a1 : Hid (∀ W, Below w.heap.size w W → Calls Tryd.prog 78 #[.slice A D.length c, .int .i64 1, .int .i64 80] W fun e w' => e = .returned (.int .i64 (P17.at_ D 1 80 : Int)) ∧ w' = W) := fun W h => at17_at A c D 1 80 1 rfl W (by decide) (by decide) (hD.below h)
  have a2 : Hid (∀ W, Below w.heap.size w W → Calls Tryd.prog 78 #[.slice A D.length c, .int .i64 2, .int .i64 3] W fun e w' => e = .returned (.int .i64 (P17.at_ D 2 3 : Int)) ∧ w' = W) := fun W h => at17_at A c D 2 3 2 rfl W (by decide) (by decide) (hD.below h)
  have a3 : Hid (∀ W, Below w.heap.size w W → Calls Tryd.prog 78 #[.slice A D.length c, .int .i64 3, .int .i64 28] W fun e w' => e = .returned (.int .i64 (P17.at_ D 3 28 : Int)) ∧ w' = W) := fun W h => at17_at A c D 3 28 3 rfl W (by decide) (by decide) (hD.below h)
  have a5 : Hid (∀ W, Below w.heap.size w W → Calls Tryd.prog 78 #[.slice A D.length c, .int .i64 5, .int .i64 2] W fun e w' => e = .returned (.int .i64 (P17.at_ D 5 2 : Int)) ∧ w' = W) := fun W h => at17_at A c D 5 2 5 rfl W (by decide) (by decide) (hD.below h)
  have a6 : Hid (∀ W, Below w.heap.size w W → Calls Tryd.prog 78 #[.slice A D.length c, .int .i64 6, .int .i64 12] W fun e w' => e = .returned (.int .i64 (P17.at_ D 6 12 : Int)) ∧ w' = W) := fun W h => at17_at A c D 6 12 6 rfl W (by decide) (by decide) (hD.below h)
  have a8 : Hid (∀ W, Below w.heap.size w W → Calls Tryd.prog 78 #[.slice A D.length c, .int .i64 8, .int .i64 5] W fun e w' => e = .returned (.int .i64 (P17.at_ D 8 5 : Int)) ∧ w' = W) := fun W h => at17_at A c D 8 5 8 rfl W (by decide) (by decide) (hD.below h)
  have a9 : Hid (∀ W, Below w.heap.size w W → Calls Tryd.prog 78 #[.slice A D.length c, .int .i64 9, .int .i64 6] W fun e w' => e = .returned (.int .i64 (P17.at_ D 9 6 : Int)) ∧ w' = W) := fun W h => at17_at A c D 9 6 9 rfl W (by decide) (by decide) (hD.below h)
  have a10 : Hid (∀ W, Below w.heap.size w W → Calls Tryd.prog 78 #[.slice A D.length c, .int .i64 10, .int .i64 3] W fun e w' => e = .returned (.int .i64 (P17.at_ D 10 3 : Int)) ∧ w' = W) := fun W h => at17_at A c D 10 3 10 rfl W (by decide) (by decide) (hD.below h)
  have ck : Hid (∀ W, Below w.heap.size w W → Calls Tryd.prog 79 #[.slice A D.length c, .int .i64 4] W fun e w' => e = .returned (.agg #[.int .i64 ((P17.at_ D 4 49 : Int) * 1800), .int .i64 (P17.at_ D 5 3 : Int)]) ∧ Below W.heap.size W w') := fun W h => clock17_any A c D 4 4 rfl W (by decide) (hD.below h)
  have p7 : Hid (∀ F T V W, Below w.heap.size w W → Calls Tryd.prog 80 #[.slice A D.length c, .int .i64 7, .int .i64 F, .int .i64 T, .int .i64 V] W fun e w' => (∃ g, e = .returned (.slice (some ⟨g, 0, none⟩) 2 2) ∧ W.heap.size ≤ g ∧ Blk w' g 83 ((P17.pairA D 7 F T V).cells ++ (P17.pairB D 7 F T V).cells).toArray) ∧ Below W.heap.size W w') := fun F T V W h => pair17_any A c D 7 7 rfl F T V W (by decide) (hD.below h)
  have p11 : Hid (∀ F T V W, Below w.heap.size w W → Calls Tryd.prog 80 #[.slice A D.length c, .int .i64 11, .int .i64 F, .int .i64 T, .int .i64 V] W fun e w' => (∃ g, e = .returned (.slice (some ⟨g, 0, none⟩) 2 2) ∧ W.heap.size ≤ g ∧ Blk w' g 83 ((P17.pairA D 11 F T V).cells ++ (P17.pairB D 11 F T V).cells).toArray) ∧ Below W.heap.size W w') := fun F T V W h => pair17_any A c D 11 11 rfl F T V W (by decide) (hD.below h)
  have l0 := P17.at_lt D 0 (show 0 < 5 by decide)
  have l1 := P17.at_lt D 1 (show 0 < 80 by decide)
  have l2 := P17.at_lt D 2 (show 0 < 3 by decide)
  have l3 := P17.at_lt D 3 (show 0 < 28 by decide)
  have l5 := P17.at_lt D 5 (show 0 < 2 by decide)
  have l6 := P17.at_lt D 6 (show 0 < 12 by decide)
  have l8 := P17.at_lt D 8 (show 0 < 5 by decide)
  have l9 := P17.at_lt D 9 (show 0 < 6 by decide)
  have l10 := P17.at_lt D 10 (show 0 < 3 by decide)
  have hk0 := sv_at _ l0
  have hV : P17.svOf (P17.at_ D 0 5) = P17.sv D := rfl
  rw [hV] at hk0
  have hp1 : (P17.at_ D 2 3 = 0 ∧ P17.part1 D = [P17.oneR D] ∧ P17.from1 D = P17.from0 D + 1) ∨ (¬ P17.at_ D 2 3 = 0 ∧ P17.part1 D = [] ∧ P17.from1 D = P17.from0 D) := by
    unfold P17.part1 P17.from1
    by_cases h : P17.at_ D 2 3 = 0
    · exact .inl ⟨h, if_pos h, if_pos h⟩
    · exact .inr ⟨h, if_neg h, if_neg h⟩
  have hp2 : (P17.at_ D 5 2 = 0 ∧ P17.part2 D = P17.pair D 7 (P17.from1 D) (P17.to1 D) (P17.sv D) ∧ P17.from2 D = P17.to1 D + 1 + (P17.at_ D 8 5 : Int)) ∨ (¬ P17.at_ D 5 2 = 0 ∧ P17.part2 D = [] ∧ P17.from2 D = P17.from1 D) := by
    unfold P17.part2 P17.from2
    by_cases h : P17.at_ D 5 2 = 0
    · exact .inl ⟨h, if_pos h, if_pos h⟩
    · exact .inr ⟨h, if_neg h, if_neg h⟩
  have hp3 : (P17.at_ D 10 3 = 0 ∧ P17.to2 D = P17.from2 D + (P17.at_ D 9 6 : Int)) ∨ (¬ P17.at_ D 10 3 = 0 ∧ P17.to2 D = 1048576) := by
    unfold P17.to2
    by_cases h : P17.at_ D 10 3 = 0
    · exact .inl ⟨h, if_pos h⟩
    · exact .inr ⟨h, if_neg h⟩
  have hf0 : P17.from0 D = 1900 + (P17.at_ D 1 80 : Int) := rfl
  have ht1 : P17.to1 D = P17.from1 D + (P17.at_ D 6 12 : Int) := rfl
  have h1R : P17.oneR D = ⟨⟨#[]⟩, P17.from0 D, P17.from0 D, 6, 1, 0, 1 + (P17.at_ D 3 28 : Int), (P17.at_ D 4 49 : Int) * 1800, (P17.at_ D 5 3 : Int), 0, ⟨#[83]⟩⟩ := rfl
  have hraw : P17.raw D = P17.part1 D ++ P17.part2 D ++ P17.pair D 11 (P17.from2 D) (P17.to2 D) (P17.sv D) := rfl
  have hmade : P17.made D nm = (P17.raw D).map (P17.named nm) := rfl
  have h5 := (P17.raw_good D).2.1
  have h2 := (P17.raw_good D).1
  have hpr : ∀ i F T V, P17.pair D i F T V = [P17.pairA D i F T V, P17.pairB D i F T V] := fun _ _ _ _ => rfl
  rw [hmade]
  clear hmade hV
  have HR := Lib.hid hraw
  have HP := Lib.hid hpr
  have H1 := Lib.hid h1R
  clear hraw hpr h1R
  generalize P17.raw D = RW at *
  generalize P17.part1 D = R1 at *
  generalize P17.part2 D = R2 at *
  generalize P17.from0 D = F0 at *
  generalize P17.from1 D = F1 at *
  generalize P17.from2 D = F2 at *
  generalize P17.to1 D = T1 at *
  generalize P17.to2 D = T2 at *
  generalize P17.sv D = SV at *
  generalize P17.at_ D 0 5 = n0 at *
  generalize P17.at_ D 1 80 = n1 at *
  generalize P17.at_ D 2 3 = n2 at *
  generalize P17.at_ D 3 28 = n3 at *
  generalize P17.at_ D 5 2 = n5 at *
  generalize P17.at_ D 6 12 = n6 at *
  generalize P17.at_ D 8 5 = n8 at *
  generalize P17.at_ D 9 6 = n9 at *
  generalize P17.at_ D 10 3 = n10 at *
  generalize (P17.at_ D 4 49 : Int) * 1800 = C1 at *
  generalize (P17.at_ D 5 3 : Int) = C2 at *
  generalize D.length = N at *
  have i0 : (n0 : Int) < 5 := by omega
  have i1 : (n1 : Int) < 80 := by omega
  have i2 : (n2 : Int) < 3 := by omega
  have i3 : (n3 : Int) < 28 := by omega
  have i5 : (n5 : Int) < 2 := by omega
  have i6 : (n6 : Int) < 12 := by omega
  have i8 : (n8 : Int) < 5 := by omega
  have i9 : (n9 : Int) < 6 := by omega
  have i10 : (n10 : Int) < 3 := by omega
  have HL := Lib.hid (And.intro h2 h5)
  clear h2 h5 hD l0 l1 l2 l3 l5 l6 l8 l9 l10
  have F0b : 1900 ≤ F0 ∧ F0 ≤ 1980 := by omega
  have F1b : 1900 ≤ F1 ∧ F1 ≤ 1981 := by rcases hp1 with ⟨_, _, h⟩ | ⟨_, _, h⟩ <;> omega
  have T1b : 1900 ≤ T1 ∧ T1 ≤ 1993 := by omega
  have F2b : 1900 ≤ F2 ∧ F2 ≤ 2000 := by rcases hp2 with ⟨_, _, h⟩ | ⟨_, _, h⟩ <;> omega
  obtain ⟨F0x, F0y⟩ := F0b
  obtain ⟨F1x, F1y⟩ := F1b
  obtain ⟨T1x, T1y⟩ := T1b
  obtain ⟨F2x, F2y⟩ := F2b
  obtain ⟨i0', hi, hz0, hz1, hz2⟩ := info_parts infoR17
  have hb0 := (Below.refl w.heap.size w).alloc (Nat.le_refl _) (.cells #[.int .i64 3600, .int .i64 3600, .int .i64 1800, .int .i64 7200, .int .i64 (-3600)] 2)
  have hA0 := Blk.new w 2 #[.int .i64 3600, .int .i64 3600, .int .i64 1800, .int .i64 7200, .int .i64 (-3600)]
  have k0 := (hA0.cell n0).trans hk0
  have hO0 : (w.alloc (.cells #[.int .i64 3600, .int .i64 3600, .int .i64 1800, .int .i64 7200, .int .i64 (-3600)] 2)).ownsRow w.heap.size 83 11 (.slice none 0 0) 0 [] := ⟨rfl, .inl ⟨rfl, rfl⟩⟩
  clear hA0 hk0
  go_enter Tryd.func44, Tryd.ntmps44
  have HF0 := Lib.hid hf0.symm
  have HT1 := Lib.hid ht1.symm
  clear hf0 ht1
  go_wp2_with fail
  refine (a0.out _ hb0).mono ?_
  rintro e wq ⟨rfl, rfl⟩
  go_wp2_with fail
  refine (a1.out _ hb0).mono ?_
  rintro e wq ⟨rfl, rfl⟩
  go_wp2_with fail
  rw [HF0.out]
  generalize w.alloc (.cells #[.int .i64 3600, .int .i64 3600, .int .i64 1800, .int .i64 7200, .int .i64 (-3600)] 2) = W1 at *
  refine (a2.out _ hb0).mono ?_
  rintro e wq ⟨rfl, rfl⟩
  go_upto_if 21 with fail
  go_cut [6, 7] (fun s6 s7 wx => s6 = .int .i64 F1 ∧ wx.ownsRow w.heap.size 83 11 s7 R1.length (r17 R1) ∧ Below w.heap.size w wx)
  case first =>
    rcases hp1 with ⟨z, rfl, rfl⟩ | ⟨z, rfl, rfl⟩
    · subst z
      have HW : Hid (r17 [P17.oneR D] = [.string ⟨#[]⟩, .int .i64 F0, .int .i64 F0, .int .i64 6, .int .i64 1, .int .i64 0, .int .i64 (1 + (n3 : Int)), .int .i64 C1, .int .i64 C2, .int .i64 0, .string ⟨#[83]⟩]) := Lib.hid (by rw [H1.out]; rfl)
      clear HR HP H1 HL hp2 hp3 p7 p11 a5 a6 a8 a9 a10
      go_wp2_with fail
      refine (a3.out _ hb0).mono ?_
      rintro e wq ⟨rfl, rfl⟩
      go_wp2_with fail
      refine (ck.out _ hb0).mono ?_
      rintro e W2 ⟨rfl, hc⟩
      have hb2 := hb0.trans (hc.mono hb0.size)
      have hO2 := own_below hO0 hc
      have HO := Lib.hid (hO2.alloc (.cells #[.string ⟨#[]⟩, .int .i64 F0, .int .i64 F0, .int .i64 6, .int .i64 1, .int .i64 0, .int .i64 (1 + (n3 : Int)), .int .i64 C1, .int .i64 C2, .int .i64 0, .string ⟨#[83]⟩] 83))
      have HB := Lib.hid (hb2.alloc hb2.size (.cells #[.string ⟨#[]⟩, .int .i64 F0, .int .i64 F0, .int .i64 6, .int .i64 1, .int .i64 0, .int .i64 (1 + (n3 : Int)), .int .i64 C1, .int .i64 C2, .int .i64 0, .string ⟨#[83]⟩] 83))
      have HN := Lib.hid (Blk.new W2 83 #[.string ⟨#[]⟩, .int .i64 F0, .int .i64 F0, .int .i64 6, .int .i64 1, .int .i64 0, .int .i64 (1 + (n3 : Int)), .int .i64 C1, .int .i64 C2, .int .i64 0, .string ⟨#[83]⟩])
      clear hO2 hb2 hc hb0 hO0 a3 ck a0 a1 a2
      go_wp2_with (at_builtin; refine wpList_append_own _ rfl _ _ 27 rfl w.heap.size 83 i0' (.agg #[.string ⟨#[]⟩, .int .i64 0, .int .i64 0, .int .i64 0, .int .i64 0, .int .i64 0, .int .i64 0, .int .i64 0, .int .i64 0, .int .i64 0, .string ⟨#[]⟩]) 11 104 Tryd.underlying27 hi hz0 hz1 hz2 rfl (by decide) _ _ _ rfl HO.out ⟨W2.heap.size, 0, none⟩ 1 1 [.string ⟨#[]⟩, .int .i64 F0, .int .i64 F0, .int .i64 6, .int .i64 1, .int .i64 0, .int .i64 (1 + (n3 : Int)), .int .i64 C1, .int .i64 C2, .int .i64 0, .string ⟨#[83]⟩] rfl rfl (blk_cells HN.out) (by simp [Value.oneCell']) (by decide) (by decide) HB.out.size ?_)
      intro v1 wa hown hgr hne
      have hb3 := own_grown HB.out HO.out hgr HB.out.size (Nat.le_refl _)
      rw [← HW.out] at hown
      have HE := Lib.hid (And.intro hown hb3)
      clear hown hb3 hgr hne HO HB HN HW
      go_wp2_with fail
      go_meet
      exact ⟨rfl, HE.out.1, HE.out.2⟩
    · have z' : ((n2 : Int) == 0) = false := by rw [beq_eq_false_iff_ne]; omega
      have HE := Lib.hid (And.intro hO0 hb0)
      clear hO0 hb0
      go_wp2_with fail
      go_meet
      exact ⟨rfl, HE.out.1, HE.out.2⟩
  case rest =>
    obtain ⟨rfl, hO1, hb1⟩ := hcut
    clear hO0 hb0 hp1 H1 a0 a1 a2 a3 ck HF0
    go_wp2_with fail
    refine (a5.out _ hb1).mono ?_
    rintro e wq ⟨rfl, rfl⟩
    go_upto_if 38 with fail
    go_cut [6, 7] (fun s6 s7 wx => s6 = .int .i64 F2 ∧ wx.ownsRow w.heap.size 83 11 s7 (R1 ++ R2).length (r17 (R1 ++ R2)) ∧ Below w.heap.size w wx)
    case first =>
      rcases hp2 with ⟨z, rfl, hF2⟩ | ⟨z, rfl, rfl⟩
      · subst z
        have HF2 := Lib.hid hF2.symm
        have HL2 : Hid (R1.length ≤ 5) := Lib.hid (by have := HL.out.2; rw [HR.out] at this; simp only [List.length_append] at this; omega)
        clear hF2 hp3 a9 a10 p11 HR
        go_wp2_with fail
        refine (a6.out _ hb1).mono ?_
        rintro e wq ⟨rfl, rfl⟩
        go_wp2_with fail
        rw [HT1.out]
        refine (p7.out _ _ _ _ hb1).mono ?_
        rintro e W2 ⟨⟨g, rfl, hg, hBk⟩, hc⟩
        have HB := Lib.hid (hb1.trans (hc.mono hb1.size))
        have HO := Lib.hid (own_below hO1 hc)
        have HN := Lib.hid hBk
        clear hO1 hg hBk hc 
        go_wp2_with (at_builtin; refine wpList_append_own _ rfl _ _ 27 rfl w.heap.size 83 i0' (.agg #[.string ⟨#[]⟩, .int .i64 0, .int .i64 0, .int .i64 0, .int .i64 0, .int .i64 0, .int .i64 0, .int .i64 0, .int .i64 0, .int .i64 0, .string ⟨#[]⟩]) 11 104 Tryd.underlying27 hi hz0 hz1 hz2 rfl (by decide) _ _ _ rfl HO.out ⟨g, 0, none⟩ 2 2 ((P17.pairA D 7 F1 T1 SV).cells ++ (P17.pairB D 7 F1 T1 SV).cells) rfl rfl (blk_cells HN.out) (cells_one2 _ _) (by have := HL2.out; simp only [maxLen]; omega) (by have := HL2.out; omega) HB.out.size ?_)
        intro v1 wa hown hgr hne
        have hb3 := own_grown HB.out HO.out hgr HB.out.size (Nat.le_refl _)
        have HX : Hid (r17 (R1 ++ [P17.pairA D 7 F1 T1 SV, P17.pairB D 7 F1 T1 SV]) = r17 R1 ++ ((P17.pairA D 7 F1 T1 SV).cells ++ (P17.pairB D 7 F1 T1 SV).cells)) := Lib.hid (by rw [r17_app]; show _ ++ (_ ++ (_ ++ [])) = _; rw [List.append_nil])
        rw [← HX.out] at hown
        have HE := Lib.hid (And.intro hown hb3)
        have hb4 := hb3
        clear hown hb3 hgr hne HO HB HN HX hb1
        go_wp2_with fail
        refine (a8.out _ hb4).mono ?_
        rintro e wq ⟨rfl, rfl⟩
        go_wp2_with fail
        rw [HF2.out]
        go_meet
        exact ⟨rfl, by rw [HP.out, List.length_append]; exact HE.out.1, HE.out.2⟩
      · have z' : ((n5 : Int) == 0) = false := by rw [beq_eq_false_iff_ne]; omega
        have HE := Lib.hid (And.intro hO1 hb1)
        clear hO1 hb1
        go_wp2_with fail
        go_meet
        exact ⟨rfl, by rw [List.append_nil]; exact HE.out.1, HE.out.2⟩
    case rest =>
      obtain ⟨rfl, hO2, hb2⟩ := hcut
      clear hO1 hb1 hp2 a5 a6 a8 p7 HT1
      go_wp2_with fail
      refine (a9.out _ hb2).mono ?_
      rintro e wq ⟨rfl, rfl⟩
      go_wp2_with fail
      refine (a10.out _ hb2).mono ?_
      rintro e wq ⟨rfl, rfl⟩
      go_upto_if 61 with fail
      go_cut [7, 9] (fun s7 s9 wx => s9 = .int .i64 T2 ∧ wx.ownsRow w.heap.size 83 11 s7 (R1 ++ R2).length (r17 (R1 ++ R2)) ∧ Below w.heap.size w wx)
      case first =>
        rcases hp3 with ⟨z, hT2⟩ | ⟨z, rfl⟩
        · subst z
          have HT2 := Lib.hid hT2.symm
          have HE := Lib.hid (And.intro hO2 hb2)
          clear hT2 hO2 hb2 HR HP HL p11 a9 a10
          go_wp2_with fail
          rw [HT2.out]
          go_meet
          exact ⟨rfl, HE.out.1, HE.out.2⟩
        · have z' : (0 : Int) < (n10 : Int) := by omega
          have HE := Lib.hid (And.intro hO2 hb2)
          clear hO2 hb2 HR HP HL p11 a9 a10
          go_wp2_with fail
          go_meet
          exact ⟨rfl, HE.out.1, HE.out.2⟩
      case rest =>
        obtain ⟨rfl, hO3, hb3⟩ := hcut
        clear hO2 hb2 hp3 a9 a10
        have HL2 : Hid ((R1 ++ R2).length ≤ 5) := Lib.hid (by have := HL.out.2; rw [HR.out] at this; simp only [List.length_append] at this ⊢; omega)
        go_wp2_with fail
        have hb1 := hb3
        clear hb3
        refine (p11.out _ _ _ _ hb1).mono ?_
        rintro e W2 ⟨⟨g, rfl, hg, hBk⟩, hc⟩
        have HB := Lib.hid (hb1.trans (hc.mono hb1.size))
        have HO := Lib.hid (own_below hO3 hc)
        have HN := Lib.hid hBk
        clear hO3 hg hBk hc 
        go_wp2_with (at_builtin; refine wpList_append_own _ rfl _ _ 27 rfl w.heap.size 83 i0' (.agg #[.string ⟨#[]⟩, .int .i64 0, .int .i64 0, .int .i64 0, .int .i64 0, .int .i64 0, .int .i64 0, .int .i64 0, .int .i64 0, .int .i64 0, .string ⟨#[]⟩]) 11 104 Tryd.underlying27 hi hz0 hz1 hz2 rfl (by decide) _ _ _ rfl HO.out ⟨g, 0, none⟩ 2 2 ((P17.pairA D 11 F2 T2 SV).cells ++ (P17.pairB D 11 F2 T2 SV).cells) rfl rfl (blk_cells HN.out) (cells_one2 _ _) (by have := HL2.out; simp only [maxLen]; omega) (by have := HL2.out; omega) HB.out.size ?_)
        intro v1 wa hown hgr hne
        have hb3 := own_grown HB.out HO.out hgr HB.out.size (Nat.le_refl _)
        have HX : Hid (r17 ((R1 ++ R2) ++ [P17.pairA D 11 F2 T2 SV, P17.pairB D 11 F2 T2 SV]) = r17 (R1 ++ R2) ++ ((P17.pairA D 11 F2 T2 SV).cells ++ (P17.pairB D 11 F2 T2 SV).cells)) := Lib.hid (by rw [r17_app]; show _ ++ (_ ++ (_ ++ [])) = _; rw [List.append_nil])
        rw [← HX.out] at hown
        have HRW : Hid (R1.length + R2.length + 2 = RW.length ∧ RW = R1 ++ R2 ++ [P17.pairA D 11 F2 T2 SV, P17.pairB D 11 F2 T2 SV]) := Lib.hid (by rw [HP.out] at HR; refine ⟨?_, HR.out⟩; rw [HR.out]; simp only [List.length_append]; rfl)
        rw [← HRW.out.2, HRW.out.1] at hown
        clear hb1 HO HB HN HX HL2 HR HP p11 hgr hne
        obtain ⟨NR, hNR⟩ : ∃ NR, RW.length = NR := ⟨_, rfl⟩
        have hN2 : 2 ≤ NR := by rw [← hNR]; exact HL.out.1
        have hN5 : NR ≤ 5 := by rw [← hNR]; exact HL.out.2
        have HNR := Lib.hid hNR
        rw [hNR] at hown
        clear hNR
        obtain ⟨Bq, cap, rfl, hBq, hBlt, hcap, _⟩ := own_form hown (by omega)
        have hN5i : (NR : Int) ≤ 5 := by omega
        rw [← mix_zero nm RW] at hown
        go_wp2_with fail
        generalize wa = W4 at *
        go_loopw [71] (fun s71 wr => ∃ k : Nat, k ≤ NR ∧ s71 = .int .i64 (k : Int) ∧ wr.ownsRow w.heap.size 83 11 (.slice (some ⟨Bq, 0, none⟩) NR cap) NR (r17 (mix17 nm RW k)) ∧ Below w.heap.size w wr) (fun i _ => NR - (intOf i).toNat)
        case atStart => exact ⟨0, Nat.zero_le _, rfl, hown, hb3⟩
        case round =>
          clear hown hb3
          obtain ⟨k, hk, rfl, hO, hb⟩ := hrel
          by_cases hlt : k < NR
          · obtain ⟨r, hr⟩ : ∃ r, RW[k]? = some r := ⟨_, List.getElem?_eq_getElem (by rw [HNR.out]; exact hlt)⟩
            have hki : (k : Int) < (NR : Int) := by omega
            have hfr : wr.frozen? ⟨Bq, k * 11, none⟩ = false := hO.frozenAt _
            have hmr := mix_at nm RW k r hr
            have hce : wr.cell? ⟨Bq, k * 11, none⟩ = some (.string r.name) := by
              rw [hO.cellAt (k * 11) (by omega)]
              have q := flat17 (mix17 nm RW k) k r hmr
              exact q
            have hst := (hO.stored (k * 11) (.string nm)).1
            rw [← r17_name nm _ k r hmr, ← mix_succ nm RW k r hr] at hst
            have HS := Lib.hid hst
            have HB := Lib.hid (hb.setCell (p := ⟨Bq, k * 11, none⟩) hBq (.string nm))
            clear hO hb hst hmr hr
            go_wp2_with fail
            go_roundw
            case rel => exact ⟨k + 1, by omega, by go_num, HS.out, HB.out⟩
            case measure => simp [intOf]; omega
          · obtain rfl : k = NR := by omega
            have hal : mix17 nm RW k = RW.map (P17.named nm) := by rw [← HNR.out]; exact mix_all nm RW
            rw [hal] at hO
            have hln : (RW.map (P17.named nm)).length = k := by rw [List.length_map]; exact HNR.out
            have HE := Lib.hid (And.intro hO hb)
            have HLN := Lib.hid hln
            clear hO hb hal hln
            go_wp2_with fail
            go_ret
            exact ⟨⟨_, rfl, by rw [HLN.out]; exact HE.out.1⟩, HE.out.2⟩
end Go.Proofs.YtlideagcmhlkeaaDoor

/- Drafts of layer 23 as values, and what the source that one makes is good for. No function of the program. -/
namespace Go.Proofs.YtlideagcmhlkeaaDoor
open Go.RowKit
set_option linter.unusedVariables false

/-- a draft by its cells -/
structure D23 where
  sA : Option Addr
  sc : Nat
  sets : List (Option Addr × Nat × List Int)
  zA : Option Addr
  zc : Nat
  zones : List (Option Addr × Nat × List E23)
  lA : Option Addr
  lc : Nat
  links : List Int
def setCells (s : Option Addr × Nat × List Int) : List Value := [.slice s.1 s.2.2.length s.2.1]
def zoneCells (s : Option Addr × Nat × List E23) : List Value := [.slice s.1 s.2.2.length s.2.1]
structure D23In (w : World) (d : D23) : Prop where
  sets : CellsIn 1 setCells w d.sA d.sets
  zones : CellsIn 1 zoneCells w d.zA d.zones
  links : CellsIn 1 u8Cell w d.lA d.links
  draws : ∀ s ∈ d.sets, Dr w s.1 s.2.2
  eras : ∀ z ∈ d.zones, CellsIn 8 E23.cells w z.1 z.2.2 ∧ (∀ x ∈ z.2.2, x.ok) ∧ z.2.2.length ≤ maxLen ∧ z.2.2.length ≤ z.2.1
  nums : ∀ n ∈ d.links, 0 ≤ n ∧ n ≤ 255
  lens : d.sets.length ≤ maxLen ∧ d.zones.length ≤ maxLen ∧ d.links.length ≤ maxLen
  caps : d.zones.length ≤ d.zc ∧ d.links.length ≤ d.lc
theorem D23In.below {w w' : World} {d : D23} (h : D23In w d) (hb : Below w.heap.size w w') : D23In w' d :=
  ⟨h.sets.below hb, h.zones.below hb, h.links.below hb, fun s hs => (h.draws s hs).below hb, fun z hz => ⟨(h.eras z hz).1.below hb, (h.eras z hz).2⟩, h.nums, h.lens, h.caps⟩
/-- the bytes of the set at a place -/
def D23.dr (d : D23) (i : Nat) : List Int := (d.sets[i]?.map (·.2.2)).getD []
/-- the rules of the first sets -/
def rulesTo (D : Nat → List Int) (n : Nat) : List RV := (List.range n).flatMap fun i => P17.made (D i) (rn i)
theorem rulesTo_succ (D : Nat → List Int) (n : Nat) : rulesTo D (n + 1) = rulesTo D n ++ P17.made (D n) (rn n) := by
  unfold rulesTo
  rw [List.range_succ, List.flatMap_append, List.flatMap_singleton]
theorem rn_inj : ∀ i, i < 3 → ∀ k, k < 3 → rn i = rn k → i = k := by decide +kernel
theorem ofSet_app (A B : List RV) (nm : ByteArray) : ofSet (A ++ B) nm = ofSet A nm ++ ofSet B nm := by unfold ofSet; rw [List.filter_append]
theorem ofSet_made (D : List Int) (a nm : ByteArray) : ofSet (P17.made D a) nm = if a = nm then P17.made D a else [] := by
  unfold ofSet
  have hn : ∀ r ∈ P17.made D a, r.name = a := fun r hr => by
    unfold P17.made at hr
    obtain ⟨x, _, rfl⟩ := List.mem_map.1 hr
    rfl
  by_cases h : a = nm
  · rw [if_pos h, List.filter_eq_self]
    intro r hr
    rw [hn r hr, h]
    exact decide_eq_true rfl
  · rw [if_neg h, List.filter_eq_nil_iff]
    intro r hr
    rw [hn r hr, decide_eq_true_eq]
    exact h
theorem ofSet_rules (D : Nat → List Int) (k : Nat) (hk : k < 3) : ∀ n, n ≤ 3 → ofSet (rulesTo D n) (rn k) = if k < n then P17.made (D k) (rn k) else []
  | 0, _ => by rw [if_neg (by omega)]; rfl
  | n + 1, hn => by
    rw [rulesTo_succ, ofSet_app, ofSet_rules D k hk n (by omega), ofSet_made]
    by_cases h : k < n
    · rw [if_pos h, if_pos (show k < n + 1 by omega), if_neg (fun q : rn n = rn k => by have := rn_inj n (by omega) k hk q; omega), List.append_nil]
    · rw [if_neg h, List.nil_append]
      by_cases h2 : n = k
      · subst h2
        rw [if_pos (show rn n = rn n from rfl), if_pos (show n < n + 1 by omega)]
      · rw [if_neg (fun q : rn n = rn k => h2 (rn_inj n (by omega) k hk q)), if_neg (show ¬ k < n + 1 by omega)]
/-- what the source of a draft is good for -/
structure Good23 (t : SV) : Prop where
  zones : 1 ≤ t.zones.length ∧ t.zones.length ≤ 3
  lens : t.rules.length ≤ 15 ∧ t.links.length ≤ 4 ∧ t.shifts = []
  eras : ∀ z ∈ t.zones, 1 ≤ z.eras.length ∧ z.eras.length ≤ 4
  era : ∀ z ∈ t.zones, ∀ e ∈ z.eras, GoodE t.rules e
  saves : SvOk t.rules
theorem GE23.good {D : Nat → List Int} {N : Nat} {e : EV} (h : GE23 N e) (hN : N ≤ 3) : GoodE (rulesTo D N) e :=
  ⟨h.off, h.kind, h.fmt, h.save, fun hk => by
    obtain ⟨k, hk1, hs⟩ := h.set hk
    refine ⟨P17.sv (D k), ?_, ?_⟩
    · have := P17.sv_cases (D k)
      omega
    · rw [hs, ofSet_rules D k (by omega) N hN, if_pos hk1]
      exact (P17.made_good (D k) (rn k)).other⟩
theorem Good23.few {t : SV} (h : Good23 t) : Few30 t := by
  have h1 := h.zones; have h2 := h.lens
  refine ⟨⟨by omega, by omega, by omega, by rw [h2.2.2]; decide⟩, fun z hz => by have := h.eras z hz; omega, fun z hz e he => ?_, h.saves⟩
  have g := h.era z hz e he
  have g1 := g.off; have g2 := g.save; have g3 := fmt23_size g.fmt
  exact ⟨by omega, by omega, by omega⟩
end Go.Proofs.YtlideagcmhlkeaaDoor

/- The plain law of ExpandBack (chapter 30): expanded, expanded twice, contracted again. No function of the program beyond the relations. -/
namespace Go.Proofs.YtlideagcmhlkeaaDoor
open Go.RowKit
set_option linter.unusedVariables false
set_option linter.unusedSectionVars false

theorem mapS_get {G : EV → EV} {s : SV} {i : Nat} {y : ZV} (h : (mapS G s).zones[i]? = some y) : ∃ z, s.zones[i]? = some z ∧ y = mapE G z := by
  have h' : (s.zones.map (mapE G))[i]? = some y := h
  rw [List.getElem?_map] at h'
  obtain ⟨z, hz, rfl⟩ := Option.map_eq_some_iff.1 h'
  exact ⟨z, hz, rfl⟩
theorem mapS_same {a t : SV} (G : EV → EV) (h : sSame14 a t) : sSame14 (mapS G a) (mapS G t) := by
  refine ⟨h.rules, h.links, h.shifts, by show (a.zones.map _).length = (t.zones.map _).length; rw [List.length_map, List.length_map]; exact h.zones.1, fun i x y hi hx hy => ?_⟩
  obtain ⟨z, hz, rfl⟩ := mapS_get hx
  obtain ⟨z', hz', rfl⟩ := mapS_get hy
  obtain ⟨h1, h2⟩ := h.zones.2 i z z' (List.getElem?_eq_some_iff.1 hz).1 hz hz'
  exact ⟨h1, by show z.eras.map G = z'.eras.map G; rw [h2]⟩
theorem mapS_congr {t : SV} {G H : EV → EV} (h : ∀ z ∈ t.zones, ∀ e ∈ z.eras, G e = H e) : sSame14 (mapS G t) (mapS H t) := by
  refine ⟨rfl, rfl, rfl, by show (t.zones.map _).length = (t.zones.map _).length; rw [List.length_map, List.length_map], fun i x y hi hx hy => ?_⟩
  obtain ⟨z, hz, rfl⟩ := mapS_get hx
  obtain ⟨z', hz', rfl⟩ := mapS_get hy
  rw [hz] at hz'
  injection hz' with hz'
  subst hz'
  exact ⟨rfl, List.map_congr_left fun e he => h z (List.mem_of_getElem? hz) e he⟩
theorem mapS_id {t : SV} {G : EV → EV} (h : ∀ z ∈ t.zones, ∀ e ∈ z.eras, G e = e) : sSame14 (mapS G t) t := by
  refine (mapS_congr (H := fun e => e) h).trans ⟨rfl, rfl, rfl, by show (t.zones.map _).length = t.zones.length; simp, fun i x y hi hx hy => ?_⟩
  obtain ⟨z, hz, rfl⟩ := mapS_get hx
  rw [hz] at hy
  injection hy with hy
  subst hy
  exact ⟨rfl, by show z.eras.map _ = z.eras; simp⟩
/-- the eras of a source that is the same as a changed one -/
theorem eras_of_map {a t : SV} {G : EV → EV} (h : sSame14 a (mapS G t)) {z : ZV} (hz : z ∈ a.zones) {e : EV} (he : e ∈ z.eras) : ∃ y ∈ t.zones, ∃ x ∈ y.eras, e = G x := by
  obtain ⟨y, hy, _, h2⟩ := same_eras h z hz
  obtain ⟨x, hx, rfl⟩ := List.mem_map.1 (show y ∈ t.zones.map (mapE G) from hy)
  rw [h2] at he
  obtain ⟨u, hu, rfl⟩ := List.mem_map.1 (show e ∈ x.eras.map G from he)
  exact ⟨x, hx, u, hu, rfl⟩
theorem errs_ok {F : EV → ByteArray × Int} {Z : List ZV} (h : ∀ z ∈ Z, ∀ e ∈ z.eras, (F e).2 = 0) : ErrIs F Z 0 :=
  ErrIs.ok (i := Z.length) (fun a b z e hz he _ => h z (List.mem_of_getElem? hz) e (List.mem_of_getElem? he)) (Nat.le_refl _)
theorem Res30.ok {F : EV → ByteArray × Int} {s t : SV} {n : Int} (h : Res30 F s t n) (hk : ∀ z ∈ s.zones, ∀ e ∈ z.eras, (F e).2 = 0) : n = 0 ∧ sSame14 t (mapS (fmtE F) s) := by
  have e := h.err.uniq (errs_ok hk)
  exact ⟨e, h.yes e⟩
theorem exp_len (k off s : Int) (l : List Int) : (P20.expansion k off s l).1.length ≤ 15 := by
  have tl := text_le
  have o1 : ∀ t : List UInt8, t.length ≤ 7 → (P20.one t).1.length ≤ 15 := fun t h => by
    unfold P20.one
    split
    · simp
    · show t.length ≤ 15; omega
  have o2 : ∀ t u : List UInt8, t.length ≤ 7 → u.length ≤ 7 → (P20.both t u).1.length ≤ 15 := fun t u h h' => by
    unfold P20.both
    split
    · simp
    · show (t ++ 47 :: u).length ≤ 15; rw [List.length_append, List.length_cons]; omega
  unfold P20.expansion
  split
  · exact o1 _ (tl _)
  · split
    · exact o1 _ (tl _)
    · split
      · split
        · exact o2 _ _ (tl _) (tl _)
        · split
          · simp
          · exact o1 _ (tl _)
      · simp
theorem few_map {a t : SV} {G : EV → EV} (hf : Few30 t) (h : sSame14 a (mapS G t)) (hg : ∀ z ∈ t.zones, ∀ e ∈ z.eras, (G e).off = e.off ∧ (G e).save = e.save ∧ (G e).fmt.size ≤ 1100000) : Few30 a := by
  have hl := same_lens h
  have hzl : (mapS G t).zones.length = t.zones.length := by show (t.zones.map _).length = _; simp
  have hq := hf.lens
  refine ⟨⟨by rw [hl.1]; exact hq.1, by rw [hl.2.1, hzl]; exact hq.2.1, by rw [hl.2.2.1]; exact hq.2.2.1, by rw [hl.2.2.2]; exact hq.2.2.2⟩, fun z hz => ?_, fun z hz e he => ?_, by rw [h.rules]; exact hf.saves⟩
  · obtain ⟨y, hy, _, h2⟩ := same_eras h z hz
    obtain ⟨x, hx, rfl⟩ := List.mem_map.1 (show y ∈ t.zones.map (mapE G) from hy)
    rw [h2]
    show (x.eras.map G).length ≤ 1000
    rw [List.length_map]
    exact hf.eras x hx
  · obtain ⟨y, hy, x, hx, rfl⟩ := eras_of_map h hz he
    obtain ⟨g1, g2, g3⟩ := hg y hy x hx
    rw [g1, g2]
    exact ⟨(hf.nums y hy x hx).1, (hf.nums y hy x hx).2.1, g3⟩
theorem few_same {a t : SV} (hf : Few30 t) (h : sSame14 a t) : Few30 a :=
  few_map hf (h.trans (mapS_id (G := fun e => e) fun _ _ _ _ => rfl).symm) fun z hz e he => ⟨rfl, rfl, (hf.nums z hz e he).2.2⟩
section
variable {t a : SV} (hg : Good23 t) (ha : sSame14 a (mapS (fmtE (exF t.rules)) t))
include hg ha
end
end Go.Proofs.YtlideagcmhlkeaaDoor

/- The walk of turn.Eras (chapter 29). -/
namespace Go.Proofs.YtlideagcmhlkeaaDoor
open Go.RowKit Go.Shelf Go.Proofs
set_option linter.unusedVariables false
set_option linter.unusedSimpArgs false
attribute [local go_sem] Oper.semAt_some

theorem kept_gs {W W' : World} {row : Option Nat} (hg : W.grownBy W' row) (hr : ∀ r, row = some r → ∃ o : Obj, W.heap[r]? = some o ∧ o.isCells = false) : GS W W' := by
  have key : ∀ (g : Nat) (e : TypeId) (cur : Array Value), W.heap[g]? = some (.cells cur e (0, 0)) → W'.heap[g]? = some (.cells cur e (0, 0)) := fun g e cur h => (hg.block g (Array.getElem?_eq_some_iff.1 h).1 fun q => by
    obtain ⟨o, h1, h2⟩ := hr g q.symm
    rw [h] at h1
    injection h1 with h1
    subst h1
    cases h2).trans h
  exact ⟨fun g e cur _ h => key g e cur h, fun g ⟨a, b, c, d, h⟩ => ⟨a, b, c, d, key g _ _ h⟩⟩
theorem kept_blk {W W' : World} {row : Option Nat} {g : Nat} {t : TypeId} {cs : Array Value} (h : Blk W g t cs) (hg : W.grownBy W' row) (hr : ∀ r, row = some r → ∃ o : Obj, W.heap[r]? = some o ∧ o.isCells = false) : Blk W' g t cs :=
  (hg.block g h.lt fun q => by
    obtain ⟨o, h1, h2⟩ := hr g q.symm
    unfold Blk at h
    rw [h] at h1
    injection h1 with h1
    subst h1
    cases h2).trans h
set_option maxRecDepth 100000 in
set_option maxHeartbeats 4000000 in
theorem erasf_any (s : SV) (w : World) :
    Calls Tryd.prog 58 #[.agg #[.slice s.rA s.rules.length s.rc, .slice s.zA s.zones.length s.zc, .slice s.kA s.links.length s.kc, .slice s.hA s.shifts.length s.hc]] w fun e w' => e = .returned (.func (.func 94) #[] #[.pointer (some ⟨w.heap.size, 0, none⟩)]) ∧
      w' = w.alloc (.cells #[.slice s.rA s.rules.length s.rc, .slice s.zA s.zones.length s.zc, .slice s.kA s.links.length s.kc, .slice s.hA s.shifts.length s.hc] 32) := by
  go_enter Tryd.func58, Tryd.ntmps58
  go_wp2_with fail
  go_ret
  exact ⟨rfl, rfl⟩
/-- where the walk of Eras stands -/
structure It (w W : World) (set : ByteArray) (c : SV) (Y : List ZV) (g5 base : Nat) : Prop where
  set : Blk W (w.heap.size + 1) 9 #[.string set]
  res : Blk W (w.heap.size + 2) 32 #[.slice none 0 0, .slice none 0 0, .slice none 0 0, .slice none 0 0]
  out : Blk W g5 32 #[.slice c.rA c.rules.length c.rc, .slice c.zA c.zones.length c.zc, .slice c.kA c.links.length c.kc, .slice c.hA c.shifts.length c.hc]
  cp : CopyOf W base { c with zones := Y } { c with zones := Y }
  like : likeZ c.zones Y
  sz : ∀ y ∈ Y, ∀ e ∈ y.eras, e.fmt.size ≤ 1100000
  bel : Below w.heap.size w W
  le : w.heap.size + 3 ≤ base ∧ w.heap.size + 3 ≤ g5
theorem It.below {w W W' : World} {set : ByteArray} {c : SV} {Y : List ZV} {g5 base : Nat} (h : It w W set c Y g5 base) (hb : Below W.heap.size W W') : It w W' set c Y g5 base :=
  ⟨h.set.below hb h.set.lt, h.res.below hb h.res.lt, h.out.below hb h.out.lt, h.cp.below hb, h.like, h.sz, h.bel.trans (hb.mono h.bel.size), h.le⟩
theorem It.kept {w W W' : World} {set : ByteArray} {c : SV} {Y : List ZV} {g5 base B : Nat} {row : Option Nat} (h : It w W set c Y g5 base) (hB : w.heap.size ≤ B) (hg : W.grownBy W' row) (hr : ∀ r, row = some r → B ≤ r ∧ ∃ o : Obj, W.heap[r]? = some o ∧ o.isCells = false) : It w W' set c Y g5 base :=
  ⟨kept_blk h.set hg fun r e => (hr r e).2, kept_blk h.res hg fun r e => (hr r e).2, kept_blk h.out hg fun r e => (hr r e).2, h.cp.gs (kept_gs hg fun r e => (hr r e).2), h.like, h.sz, ownFrom_below (β := Unit) (n₀ := w.heap.size) (w₀ := w) (Nat.le_refl _) hB () W W' row h.bel hg hr, h.le⟩
theorem turnE_size (set : ByteArray) (e : EV) : (turnE set e).fmt.size = e.fmt.size := by
  unfold turnE
  split
  · exact turnB_size _
  · rfl
theorem mem_modify {α : Type} {L : List α} {k : Nat} {f : α → α} {x : α} (h : x ∈ L.modify k f) : ∃ y ∈ L, x = y ∨ x = f y := by
  obtain ⟨i, hi⟩ := List.mem_iff_getElem?.1 h
  rw [List.getElem?_modify] at hi
  cases hq : L[i]? with
  | none => rw [hq] at hi; cases hi
  | some y =>
    rw [hq] at hi
    injection hi with hi
    refine ⟨y, List.mem_of_getElem? hq, ?_⟩
    subst hi
    by_cases h : k = i
    · exact .inr (if_pos h)
    · exact .inl (if_neg h)
theorem sz_chg {set : ByteArray} {Y : List ZV} (h : ∀ y ∈ Y, ∀ e ∈ y.eras, e.fmt.size ≤ 1100000) (p : Nat × Nat) : ∀ y ∈ chgP (turnE set) Y p, ∀ e ∈ y.eras, e.fmt.size ≤ 1100000 := fun y hy e he => by
  obtain ⟨z, hz, rfl | rfl⟩ := mem_modify hy
  · exact h _ hz e he
  · obtain ⟨x, hx, rfl | rfl⟩ := mem_modify (show e ∈ z.eras.modify p.2 (turnE set) from he)
    · exact h z hz _ hx
    · rw [turnE_size]
      exact h z hz x hx
/-- an era at a place -/
theorem It.at_ {w W : World} {set : ByteArray} {c : SV} {Y : List ZV} {g5 base : Nat} (h : It w W set c Y g5 base) {p : Nat × Nat} (hp : PlOk c.zones p) :
    ∃ (y : ZV) (e : EV) (g : Nat), Y[p.1]? = some y ∧ y.eras[p.2]? = some e ∧ y.A = some ⟨g, 0, none⟩ ∧ zb c.zones p.1 = g ∧ base ≤ g ∧ RowOf W base 47 13 EV.cells (some ⟨g, 0, none⟩) y.c y.eras := by
  obtain ⟨z, e0, hz, he0⟩ := hp
  obtain ⟨y, hy⟩ : ∃ y, Y[p.1]? = some y := ⟨_, List.getElem?_eq_getElem (by rw [h.like.1]; exact (List.getElem?_eq_some_iff.1 hz).1)⟩
  obtain ⟨hA, hc, hn, hl⟩ := h.like.2 p.1 z y hz hy
  have hk := (List.getElem?_eq_some_iff.1 he0).1
  obtain ⟨e, he⟩ : ∃ e, y.eras[p.2]? = some e := ⟨_, List.getElem?_eq_getElem (by omega)⟩
  obtain ⟨g, hgA, hgb, _⟩ := h.cp.eraAddr (show ({ c with zones := Y } : SV).zones[p.1]? = some y from hy) (by omega)
  have hrow := h.cp.zones.2.eras p.1 y hy
  rw [hgA] at hrow
  exact ⟨y, e, g, hy, he, hgA, zb_at hz (hA ▸ hgA), hgb, hrow⟩
/-- the era there is turned, with a new FORMAT -/
theorem It.set_ {w W : World} {set : ByteArray} {c : SV} {Y : List ZV} {g5 base : Nat} (h : It w W set c Y g5 base) {p : Nat × Nat} {y : ZV} {e : EV} {g : Nat} (hy : Y[p.1]? = some y) (he : y.eras[p.2]? = some e) (hA : y.A = some ⟨g, 0, none⟩) (hk : e.kind = 2) (hs : e.set = set) :
    It w (W.setCell ⟨g, p.2 * 13 + 4, none⟩ (.string (turnB e.fmt))) set c (chgP (turnE set) Y p) g5 base := by
  have hrow := h.cp.zones.2.eras p.1 y hy
  rw [hA] at hrow
  have hO : (Value.slice (some ⟨g, 0, none⟩) y.eras.length y.c).ownBlock = some g := rfl
  have hge := (World.ownsRow.lt hrow g rfl).1
  have hl := h.le
  refine ⟨blk_set_other h.set hrow hO (by decide) _, blk_set_other h.res hrow hO (by decide) _, blk_set_other h.out hrow hO (by decide) _, ?_, h.like.chg _ _, sz_chg h.sz _, h.bel.setCell (by show w.heap.size ≤ g; omega) _, h.le⟩
  obtain ⟨i, k⟩ := p
  rw [chgP_set hy he]
  exact h.cp.setCell (t := { c with zones := Y }) hy hA he (.string (turnB e.fmt)) (by decide) (by rw [turnE_yes hk hs]; rfl)
theorem set_self {α : Type} {L : List α} {k : Nat} {x : α} (h : L[k]? = some x) : L.set k x = L := List.ext_getElem? fun i => by
  by_cases hi : k = i
  · subst hi
    rw [List.getElem?_set_self (List.getElem?_eq_some_iff.1 h).1, h]
  · rw [List.getElem?_set_ne hi]
theorem It.skip {w W : World} {set : ByteArray} {c : SV} {Y : List ZV} {g5 base : Nat} (h : It w W set c Y g5 base) {p : Nat × Nat} {y : ZV} {e : EV} (hy : Y[p.1]? = some y) (he : y.eras[p.2]? = some e) (hn : ¬ (e.kind = 2 ∧ e.set = set)) :
    It w W set c (chgP (turnE set) Y p) g5 base := by
  obtain ⟨i, k⟩ := p
  have e1 : chgP (turnE set) Y (i, k) = Y := by
    rw [chgP_set hy he, turnE_no hn, set_self he]
    exact set_self hy
  rw [e1]
  exact h
theorem ko_below {W W' : World} (h : Below W.heap.size W W') : KeepsOthers W W' := ⟨h.size, fun k o hk _ => (h.block k (Array.getElem?_eq_some_iff.1 hk).1).trans hk⟩
theorem KE.set_row {α : Type} {W : World} {base m : Nat} {f : α → List Value} {g c : Nat} {L : List α} (h : RowOf W base 47 m f (some ⟨g, 0, none⟩) c L) (n : Nat) (u : Value) : KE W (W.setCell ⟨g, n, none⟩ u) := fun g' e cur he hb =>
  (Below.heap_setCell W _ u g' (fun q => he (by
    obtain ⟨cur', hc⟩ := block_of h (show (Value.slice (some ⟨g, 0, none⟩) L.length c).ownBlock = some g from rfl)
    have q' : g' = g := q
    subst q'
    rw [hb] at hc
    injection hc with hc
    injection hc with _ hc _))).trans hb
theorem CopyOf.low {W : World} {b b' : Nat} {s t : SV} (h : CopyOf W b s t) (hb : b' ≤ b) : CopyOf W b' s t :=
  ⟨⟨h.rules.1, h.rules.2.low hb⟩, ⟨h.zones.1.low hb, ⟨h.zones.2.same, fun i y hy => (h.zones.2.eras i y hy).low hb, h.zones.2.apart⟩⟩, ⟨h.links.1, h.links.2.low hb⟩, ⟨h.shifts.1, h.shifts.2.low hb⟩⟩
set_option maxRecDepth 100000 in
set_option maxHeartbeats 8000000 in
theorem teras_any (s : SV) (set : ByteArray) (w : World) (hS : SrcIn w s) (hf : Few30 s) (hv : Vars21 w) :
    Calls Tryd.prog 31 #[.agg #[.slice s.rA s.rules.length s.rc, .slice s.zA s.zones.length s.zc, .slice s.kA s.links.length s.kc, .slice s.hA s.shifts.length s.hc], .string set] w fun x w' => ∃ t : SV, x = .returned (.agg #[.slice t.rA t.rules.length t.rc, .slice t.zA t.zones.length t.zc, .slice t.kA t.links.length t.kc, .slice t.hA t.shifts.length t.hc]) ∧ CopyOf w' w.heap.size t t ∧ sSame14 t (mapS (turnE set) s) ∧ Below w.heap.size w w' := by
  have hx1 := (Blk.newAt (w.alloc (.cells #[.slice s.rA s.rules.length s.rc, .slice s.zA s.zones.length s.zc, .slice s.kA s.links.length s.kc, .slice s.hA s.shifts.length s.hc] 32)) (w.heap.size + 1) (by simp) 9 #[.string set]).alloc (.cells #[.slice none 0 0, .slice none 0 0, .slice none 0 0, .slice none 0 0] 32)
  have hx2 := Blk.newAt ((w.alloc (.cells #[.slice s.rA s.rules.length s.rc, .slice s.zA s.zones.length s.zc, .slice s.kA s.links.length s.kc, .slice s.hA s.shifts.length s.hc] 32)).alloc (.cells #[.string set] 9)) (w.heap.size + 2) (by simp) 32 #[.slice none 0 0, .slice none 0 0, .slice none 0 0, .slice none 0 0]
  have hx0 := ((Blk.new w 32 #[.slice s.rA s.rules.length s.rc, .slice s.zA s.zones.length s.zc, .slice s.kA s.links.length s.kc, .slice s.hA s.shifts.length s.hc]).alloc (.cells #[.string set] 9)).alloc (.cells #[.slice none 0 0, .slice none 0 0, .slice none 0 0, .slice none 0 0] 32)
  have hb3 := (((Below.refl w.heap.size w).alloc (Nat.le_refl _) (.cells #[.slice s.rA s.rules.length s.rc, .slice s.zA s.zones.length s.zc, .slice s.kA s.links.length s.kc, .slice s.hA s.shifts.length s.hc] 32)).alloc (by simp) (.cells #[.string set] 9)).alloc (by simp; omega) (.cells #[.slice none 0 0, .slice none 0 0, .slice none 0 0, .slice none 0 0] 32)
  have HX1 := Lib.hid hx1; have HX2 := Lib.hid hx2; have HB3 := Lib.hid hb3; have HV := Lib.hid hv; have HFW := Lib.hid hf
  have cP := Lib.hid (pcopy_any s (((w.alloc (.cells #[.slice s.rA s.rules.length s.rc, .slice s.zA s.zones.length s.zc, .slice s.kA s.links.length s.kc, .slice s.hA s.shifts.length s.hc] 32)).alloc (.cells #[.string set] 9)).alloc (.cells #[.slice none 0 0, .slice none 0 0, .slice none 0 0, .slice none 0 0] 32)) (hS.below hb3) hf)
  have c0 := (hx0.cell 0).trans rfl; have c1 := (hx0.cell 1).trans rfl; have c2 := (hx0.cell 2).trans rfl; have c3 := (hx0.cell 3).trans rfl
  clear hS hf hv hx0 hx1 hx2 hb3
  refine (callsIn_wide (n := 6)).1 ?_
  refine callsIn_of_wp_marks Tryd.func31 rfl trivial ?_ rfl
  simp only [Tryd.ntmps31, List.size_toArray, List.length_cons, List.length_nil, Nat.reduceAdd, Nat.reduceSub, Array.replicate_succ, Array.replicate_zero, List.push_toArray, List.append_toArray, List.nil_append, List.cons_append]
  gi_wp2
  refine ⟨trivial, ?_⟩
  refine (callsIn_wide.2 cP.out).mono ?_
  rintro e W4 ⟨c, rfl, hC, hc⟩
  have al := (Below.refl W4.heap.size W4).alloc (Nat.le_refl _) (.cells #[.slice c.rA c.rules.length c.rc, .slice c.zA c.zones.length c.zc, .slice c.kA c.links.length c.kc, .slice c.hA c.shifts.length c.hc] 32)
  have HC5 := Lib.hid ((hC.self).below al)
  have HCS := Lib.hid hC.same
  have hbw := HB3.out.trans (hc.mono HB3.out.size)
  have HO5 := Lib.hid (Blk.new W4 32 #[.slice c.rA c.rules.length c.rc, .slice c.zA c.zones.length c.zc, .slice c.kA c.links.length c.kc, .slice c.hA c.shifts.length c.hc])
  have HIT := Lib.hid (show It w (W4.alloc (.cells #[.slice c.rA c.rules.length c.rc, .slice c.zA c.zones.length c.zc, .slice c.kA c.links.length c.kc, .slice c.hA c.shifts.length c.hc] 32)) set c c.zones W4.heap.size (w.heap.size + 5) from
    ⟨(HX1.out.below hc HX1.out.lt).alloc _, (HX2.out.below hc HX2.out.lt).alloc _, HO5.out, (by have q := HC5.out; simp at q; exact q), likeZ.refl _, (fun y hy e he => by obtain ⟨x, hx, _, h2⟩ := same_eras HCS.out y hy; rw [h2] at he; exact (HFW.out.nums x hx e he).2.2), hbw.trans (al.mono hbw.size), by omega, by have := hc.size; simp at this; omega⟩)
  have y0 := (HO5.out.cell 0).trans rfl; have y1 := (HO5.out.cell 1).trans rfl; have y2 := (HO5.out.cell 2).trans rfl; have y3 := (HO5.out.cell 3).trans rfl
  clear hC hc al hbw HX1 HX2 HB3 cP c0 c1 c2 c3 HC5
  gi_wp2_with (refine ⟨trivial, ?_⟩; gi_at_call 58; refine (callsIn_wide.2 (erasf_any c _)).mono ?_; rintro e w5 ⟨rfl, rfl⟩)
  have al6 := (Below.refl (W4.alloc (.cells #[.slice c.rA c.rules.length c.rc, .slice c.zA c.zones.length c.zc, .slice c.kA c.links.length c.kc, .slice c.hA c.shifts.length c.hc] 32)).heap.size (W4.alloc (.cells #[.slice c.rA c.rules.length c.rc, .slice c.zA c.zones.length c.zc, .slice c.kA c.links.length c.kc, .slice c.hA c.shifts.length c.hc] 32))).alloc (Nat.le_refl _) (.cells #[.slice c.rA c.rules.length c.rc, .slice c.zA c.zones.length c.zc, .slice c.kA c.links.length c.kc, .slice c.hA c.shifts.length c.hc] 32)
  have HI6 := Lib.hid (HIT.out.below al6)
  have HB6 := Lib.hid (Blk.newAt (W4.alloc (.cells #[.slice c.rA c.rules.length c.rc, .slice c.zA c.zones.length c.zc, .slice c.kA c.links.length c.kc, .slice c.hA c.shifts.length c.hc] 32)) (W4.heap.size + 1) (by simp) 32 #[.slice c.rA c.rules.length c.rc, .slice c.zA c.zones.length c.zc, .slice c.kA c.links.length c.kc, .slice c.hA c.shifts.length c.hc])
  have HS6 := Lib.hid (show ((W4.alloc (.cells #[.slice c.rA c.rules.length c.rc, .slice c.zA c.zones.length c.zc, .slice c.kA c.links.length c.kc, .slice c.hA c.shifts.length c.hc] 32)).alloc (.cells #[.slice c.rA c.rules.length c.rc, .slice c.zA c.zones.length c.zc, .slice c.kA c.links.length c.kc, .slice c.hA c.shifts.length c.hc] 32)).heap.size = W4.heap.size + 2 by simp)
  have HCF := Lib.hid (few_same HFW.out HCS.out)
  clear al6 HIT HO5 y0 y1 y2 y3
  generalize ((W4.alloc (.cells #[.slice c.rA c.rules.length c.rc, .slice c.zA c.zones.length c.zc, .slice c.kA c.links.length c.kc, .slice c.hA c.shifts.length c.hc] 32)).alloc (.cells #[.slice c.rA c.rules.length c.rc, .slice c.zA c.zones.length c.zc, .slice c.kA c.links.length c.kc, .slice c.hA c.shifts.length c.hc] 32)) = W6 at HI6 HB6 HS6 ⊢
  generalize W4.heap.size = g5 at HI6 HB6 HS6 ⊢
  refine wpIn_rangeFunc_ownG rfl (by omega) (gf := 94) (lb := #[.pointer (some ⟨g5 + 1, 0, none⟩)]) rfl trivial (enters_of Tryd.func94 (by kernel_rfl) rfl)
    (encs := fun x : Pl c.zones => #[.pointer (some ⟨zb c.zones x.1.1, x.1.2 * 13, none⟩)]) (Kp := KE) (S := fun ys => vals ys = plTo c.zones c.zones.length 0) (Sp := fun _ => True) (N := 1000001) (w0 := W6)
    (fun l J Jx W hW hJ _ hY h0 => eras_in _ (by omega) l (g5 + 1) (w.heap.size + 5) c ⟨HCF.out.lens.2.1, HCF.out.eras⟩ J Jx W hJ hY (HB6.out.below hW HB6.out.lt) (HI6.out.cp.zones.1.below hW) (fun i z hz => (HI6.out.cp.zones.2.eras i z hz).below hW) h0)
    (fun h k => h.trans k) (fun W l o o' _ h1 h2 _ => KE.putObj W l o o' h1 h2) (Below.refl _ _) (fun _ => rfl)
    (fun pre W => It w W set c (chgs (turnE set) c.zones (vals pre)) g5 (w.heap.size + 5)) (fun _ _ _ => False)
    (fun s A B row hs hg hr => hs.kept (by have := HI6.out.bel.size; omega) hg hr) (fun cc s A B row hs hg hr => hs.elim) HI6.out
    (fun x => { tmps := #[.agg #[.slice s.rA s.rules.length s.rc, .slice s.zA s.zones.length s.zc, .slice s.kA s.links.length s.kc, .slice s.hA s.shifts.length s.hc], .string set, .pointer (some ⟨w.heap.size, 0, none⟩), .pointer (some ⟨w.heap.size + 1, 0, none⟩), .pointer (some ⟨w.heap.size + 1 + 1, 0, none⟩), .pointer (some ⟨g5, 0, none⟩), .pointer (some ⟨zb c.zones x.1.1, x.1.2 * 13, none⟩), .agg #[.slice s.rA s.rules.length s.rc, .slice s.zA s.zones.length s.zc, .slice s.kA s.links.length s.kc, .slice s.hA s.shifts.length s.hc], .agg #[.slice c.rA c.rules.length c.rc, .slice c.zA c.zones.length c.zc, .slice c.kA c.links.length c.kc, .slice c.hA c.shifts.length c.hc], .agg #[.slice c.rA c.rules.length c.rc, .slice c.zA c.zones.length c.zc, .slice c.kA c.links.length c.kc, .slice c.hA c.shifts.length c.hc], .func (.func 94) #[] #[.pointer (some ⟨g5 + 1, 0, none⟩)], .pointer (some ⟨zb c.zones x.1.1, x.1.2 * 13, none⟩), undef, undef, undef, undef, undef, undef, undef, undef, undef, undef, undef, undef, undef, undef, undef, undef, undef, undef, undef, undef, undef, undef], defers := [] }) ?assign ?body ?done ?stop
  case assign =>
    intro l x W K hK
    gi_wp2
    exact hK
  case body =>
    rintro l pre ⟨⟨i, k⟩, hp⟩ W hI hlen
    obtain ⟨y, e, g, hy, he, hA, hzb, hgb, hrow⟩ := hI.at_ hp
    show Code.wpIn _ _ _ _ _ _ W
    have hzb' : zb c.zones i = g := hzb
    have e1 := hrow.cellAt len_era he 1 _ rfl
    have e3 := hrow.cellAt len_era he 3 _ rfl
    have e4 := hrow.cellAt len_era he 4 _ rfl
    have f4 := hrow.frozenAt (k * 13 + 4)
    have s0 := (hI.set.cell 0).trans rfl
    have hsz : e.fmt.size ≤ 1100000 := hI.sz y (List.mem_of_getElem? hy) e (List.mem_of_getElem? he)
    have HI := Lib.hid hI; have HY := Lib.hid hy; have HE := Lib.hid he; have HA := Lib.hid hA
    simp only [hzb']
    have hgl : g < W.heap.size := (World.ownsRow.lt hrow g rfl).2
    have HGL := Lib.hid hgl; have HROW := Lib.hid hrow
    clear hI hy he hA hzb hzb' hrow hlen hgl
    have hmx : Tryd.prog.follows .mixedOrders = true := by kernel_rfl
    by_cases hks : e.kind = 2 ∧ e.set = set
    · obtain ⟨hk, hs⟩ := hks
      have hk2 : (e.kind == 2) = true := by rw [hk]; rfl
      have hs2 : (e.set.toList == set.toList) = true := by rw [hs]; simp
      have cF := Lib.hid (fun W' (h : Below w.heap.size w W') => tformat_any e.fmt W' hsz (HV.out.below h))
      have HN := Lib.hid (show ∀ W', Below W.heap.size W W' → It w (W'.setCell ⟨g, k * 13 + 4, none⟩ (.string (turnB e.fmt))) set c (chgs (turnE set) c.zones (vals (pre ++ [(⟨(i, k), hp⟩ : Pl c.zones)]))) g5 (w.heap.size + 5) from fun W' hb => by
        rw [vals_snoc, chgs_snoc]
        exact (HI.out.below hb).set_ (p := (i, k)) HY.out HE.out HA.out hk hs)
      clear hk hs hsz
      gi_wp2
      gi_region_o
      all_goals gi_wp2
      all_goals
        refine ⟨trivial, ?_⟩
        refine (CallsIn.inRound l (callsIn_wide.2 (cF.out _ HI.out.bel.drew))).mono ?_
        rintro x W2 ⟨rfl, hc⟩
        have hb2 : Below W.heap.size W W2 := ((Below.refl W.heap.size W).drew).trans hc
        have e4 : W2.cell? ⟨g, k * 13 + 4, none⟩ = some (.string e.fmt) := (hb2.cell (p := ⟨g, k * 13 + 4, none⟩) HGL.out).trans e4
        have f4 : W2.frozen? ⟨g, k * 13 + 4, none⟩ = false := RowOf.frozenAt (HROW.out.below hb2) _
        have HK := Lib.hid (And.intro (((ko_below hb2).trans (KeepsOthers.setCell W2 ⟨g, k * 13 + 4, none⟩ (.string (turnB e.fmt)))).from W6.heap.size) (And.intro ((KE.below hb2).trans (KE.set_row (HROW.out.below hb2) (k * 13 + 4) (.string (turnB e.fmt)))) (HN.out W2 hb2)))
        clear hc hb2
        gi_wp2
        exact ⟨HK.out.1, HK.out.2.1, HK.out.2.2⟩
    · have HN := Lib.hid (show It w W set c (chgs (turnE set) c.zones (vals (pre ++ [(⟨(i, k), hp⟩ : Pl c.zones)]))) g5 (w.heap.size + 5) from by
        rw [vals_snoc, chgs_snoc]
        exact HI.out.skip (p := (i, k)) HY.out HE.out hks)
      have HD := Lib.hid (show It w W.drew set c (chgs (turnE set) c.zones (vals (pre ++ [(⟨(i, k), hp⟩ : Pl c.zones)]))) g5 (w.heap.size + 5) from HN.out.below (Below.refl _ _).drew)
      by_cases hk : e.kind = 2
      · have hk2 : (e.kind == 2) = true := by rw [hk]; rfl
        have hs2 : (e.set.toList == set.toList) = false := eq_b _ _ (fun q => hks ⟨hk, q⟩)
        clear hk hks hsz
        gi_wp2
        gi_region_o
        all_goals gi_wp2
        all_goals exact ⟨(KeepsOthers.drew W).from _, KE.below (Below.refl _ _).drew, HD.out⟩
      · have hk2 : (e.kind == 2) = false := by simpa using hk
        clear hk hks hsz
        gi_wp2
        gi_region_o
        all_goals gi_wp2
        all_goals exact ⟨(KeepsOthers.drew W).from _, KE.below (Below.refl _ _).drew, HD.out⟩
  case done =>
    rintro D ys W hD hys hI hK
    have HYS := Lib.hid hys
    obtain ⟨Y, hY⟩ : ∃ Y, chgs (turnE set) c.zones (vals ys) = Y := ⟨_, rfl⟩
    rw [hY] at hI
    have HYE := Lib.hid hY
    have o0 := (hI.out.cell 0).trans rfl; have o1 := (hI.out.cell 1).trans rfl; have o2 := (hI.out.cell 2).trans rfl; have o3 := (hI.out.cell 3).trans rfl
    have r0 := (hI.res.cell 0).trans rfl; have r1 := (hI.res.cell 1).trans rfl; have r2 := (hI.res.cell 2).trans rfl; have r3 := (hI.res.cell 3).trans rfl
    have z0 := hI.res.frozen 0; have z1 := hI.res.frozen 1; have z2 := hI.res.frozen 2; have z3 := hI.res.frozen 3
    have q4 := GS.set4 hI.res (.slice c.rA c.rules.length c.rc) (.slice c.zA c.zones.length c.zc) (.slice c.kA c.links.length c.kc) (.slice c.hA c.shifts.length c.hc)
    have hb4 := below_set4 hI.bel (show w.heap.size ≤ w.heap.size + 2 by omega) (.slice c.rA c.rules.length c.rc) (.slice c.zA c.zones.length c.zc) (.slice c.kA c.links.length c.kc) (.slice c.hA c.shifts.length c.hc)
    have hko := (((KeepsOthers.setCell W ⟨w.heap.size + 2, 0, none⟩ (.slice c.rA c.rules.length c.rc)).trans (KeepsOthers.setCell _ ⟨w.heap.size + 2, 1, none⟩ (.slice c.zA c.zones.length c.zc))).trans (KeepsOthers.setCell _ ⟨w.heap.size + 2, 2, none⟩ (.slice c.kA c.links.length c.kc))).trans (KeepsOthers.setCell _ ⟨w.heap.size + 2, 3, none⟩ (.slice c.hA c.shifts.length c.hc))
    have hK8 := hko.same D _ hK rfl
    have hgr := grownBy_putObj' ((((W.setCell ⟨w.heap.size + 2, 0, none⟩ (.slice c.rA c.rules.length c.rc)).setCell ⟨w.heap.size + 2, 1, none⟩ (.slice c.zA c.zones.length c.zc)).setCell ⟨w.heap.size + 2, 2, none⟩ (.slice c.kA c.links.length c.kc)).setCell ⟨w.heap.size + 2, 3, none⟩ (.slice c.hA c.shifts.length c.hc)) D (.deferred none)
    have hrw : ∀ r, some D = some r → ∃ o : Obj, ((((W.setCell ⟨w.heap.size + 2, 0, none⟩ (.slice c.rA c.rules.length c.rc)).setCell ⟨w.heap.size + 2, 1, none⟩ (.slice c.zA c.zones.length c.zc)).setCell ⟨w.heap.size + 2, 2, none⟩ (.slice c.kA c.links.length c.kc)).setCell ⟨w.heap.size + 2, 3, none⟩ (.slice c.hA c.shifts.length c.hc)).heap[r]? = some o ∧ o.isCells = false := fun r e => by cases e; exact ⟨_, hK8, rfl⟩
    have hbk := kept_blk q4.2 hgr hrw
    have hcp := (hI.cp.gs q4.1).gs (kept_gs hgr hrw)
    have hdw : w.heap.size ≤ D := Nat.le_trans HI6.out.bel.size hD
    have hbf := hb4.grown hgr hb4.size (fun k e => by cases e; exact hdw)
    have k0 := (hbk.cell 0).trans rfl; have k1 := (hbk.cell 1).trans rfl; have k2 := (hbk.cell 2).trans rfl; have k3 := (hbk.cell 3).trans rfl
    have HCP := Lib.hid hcp; have HBF := Lib.hid hbf; have HK8 := Lib.hid hK8
    have hyl := Lib.hid hI.like.1
    have HZS := Lib.hid (show zSame14 Y (c.zones.map (mapE (turnE set))) by rw [← HYE.out, HYS.out]; exact chgs_all _ _)
    clear q4 hb4 hko hgr hrw hbk hcp hbf hI hY hys hK hK8
    gi_wp2
    refine ⟨by simp, .inl ⟨_, _, rfl, run_takeDeferred HK8.out, ?_⟩⟩
    refine ⟨.agg #[.slice c.rA c.rules.length c.rc, .slice c.zA c.zones.length c.zc, .slice c.kA c.links.length c.kc, .slice c.hA c.shifts.length c.hc], ?_, ?_⟩
    · simp [results, Tryd.results31, go_sem, k0, k1, k2, k3]
    · refine ⟨{ c with zones := Y }, ?_, HCP.out.low (by omega), ⟨HCS.out.rules, HCS.out.links, HCS.out.shifts, HZS.out.trans (mapS_same (turnE set) HCS.out).zones⟩, HBF.out⟩
      show _ = Ending.returned (.agg #[_, .slice c.zA Y.length c.zc, _, _])
      rw [hyl.out]
  case stop =>
    rintro D cc pre W hD _ h
    exact h.elim
end Go.Proofs.YtlideagcmhlkeaaDoor

/- The examples of chapter 29 (works). -/
namespace Go.Proofs.YtlideagcmhlkeaaDoor
open Go.RowKit Go.Lib
set_option linter.unusedVariables false
set_option linter.unusedSimpArgs false

theorem ex29 : ∀ k, k < 6 → ∃ a b, ((#[.string ⟨#[67, 69, 84, 47, 67, 69, 83, 84]⟩, .string ⟨#[67, 69, 83, 84, 47, 67, 69, 84]⟩, .string ⟨#[43, 48, 53, 47, 43, 48, 54]⟩, .string ⟨#[43, 48, 54, 47, 43, 48, 53]⟩, .string ⟨#[69, 37, 115, 84]⟩, .string ⟨#[69, 37, 115, 84]⟩, .string ⟨#[37, 122]⟩, .string ⟨#[37, 122]⟩, .string ⟨#[65, 47, 66]⟩, .string ⟨#[65, 47, 66]⟩, .string ⟨#[]⟩, .string ⟨#[]⟩] : Array Value)[k * 2]? = some (.string a)) ∧ ((#[.string ⟨#[67, 69, 84, 47, 67, 69, 83, 84]⟩, .string ⟨#[67, 69, 83, 84, 47, 67, 69, 84]⟩, .string ⟨#[43, 48, 53, 47, 43, 48, 54]⟩, .string ⟨#[43, 48, 54, 47, 43, 48, 53]⟩, .string ⟨#[69, 37, 115, 84]⟩, .string ⟨#[69, 37, 115, 84]⟩, .string ⟨#[37, 122]⟩, .string ⟨#[37, 122]⟩, .string ⟨#[65, 47, 66]⟩, .string ⟨#[65, 47, 66]⟩, .string ⟨#[]⟩, .string ⟨#[]⟩] : Array Value)[k * 2 + 1]? = some (.string b)) ∧ turnB a = b ∧ a.size ≤ 100 := fun k hk => by
  match k, hk with
  | 0, _ | 1, _ | 2, _ | 3, _ | 4, _ | 5, _ => exact ⟨_, _, rfl, rfl, by decide +kernel, by decide⟩
theorem cells_blk {α : Type} {w : World} {g m : Nat} {t : TypeId} {cs : Array Value} {f : α → List Value} {L : List α} (h : Blk w g t cs) (hm : 0 < m) (hf : ∀ a, (f a).length = m) (hc : cs.toList = L.flatMap f) : CellsIn m f w (some ⟨g, 0, none⟩) L := by
  intro k r hr
  refine ⟨g, 0, rfl, h.lt, fun j u hu => ?_⟩
  have hj : j < m := by have := (List.getElem?_eq_some_iff.1 hu).1; rw [hf] at this; exact this
  rw [Nat.zero_add, h.cell, ← Array.getElem?_toList, hc]
  have q := flat_pick hf L k j r hj hr
  rw [q]
  exact hu
/-- the source of the example -/
def s29 (B1 B2 : Nat) : SV := ⟨none, 0, [], some ⟨B2, 0, none⟩, 1, [⟨⟨#[90]⟩, some ⟨B1, 0, none⟩, 3, [⟨0, 0, 0, ⟨#[]⟩, ⟨#[71, 77, 84, 47, 66, 83, 84]⟩, false, 0, 0, 0, 0, 0, 0, 0⟩, ⟨0, 2, 0, ⟨#[82]⟩, ⟨#[71, 77, 84, 47, 66, 83, 84]⟩, false, 0, 0, 0, 0, 0, 0, 0⟩, ⟨0, 2, 0, ⟨#[81]⟩, ⟨#[71, 77, 84, 47, 66, 83, 84]⟩, false, 0, 0, 0, 0, 0, 0, 0⟩]⟩], none, 0, [], none, 0, []⟩
theorem s29_in {w : World} {B1 B2 : Nat} (h1 : Blk w B1 47 #[.int .i64 0, .int .i64 0, .int .i64 0, .string ⟨#[]⟩, .string ⟨#[71, 77, 84, 47, 66, 83, 84]⟩, .bool false, .int .i64 0, .int .i64 0, .int .i64 0, .int .i64 0, .int .i64 0, .int .i64 0, .int .i64 0, .int .i64 0, .int .i64 2, .int .i64 0, .string ⟨#[82]⟩, .string ⟨#[71, 77, 84, 47, 66, 83, 84]⟩, .bool false, .int .i64 0, .int .i64 0, .int .i64 0, .int .i64 0, .int .i64 0, .int .i64 0, .int .i64 0, .int .i64 0, .int .i64 2, .int .i64 0, .string ⟨#[81]⟩, .string ⟨#[71, 77, 84, 47, 66, 83, 84]⟩, .bool false, .int .i64 0, .int .i64 0, .int .i64 0, .int .i64 0, .int .i64 0, .int .i64 0, .int .i64 0]) (h2 : Blk w B2 39 #[.string ⟨#[90]⟩, .slice (some ⟨B1, 0, none⟩) 3 3]) : SrcIn w (s29 B1 B2) := by
  refine ⟨fun k r h => by simp [s29] at h, cells_blk h2 (by decide) len_zone rfl, fun k r h => by simp [s29] at h, fun k r h => by simp [s29] at h, fun z hz => ?_⟩
  obtain rfl := List.mem_singleton.1 hz
  exact cells_blk h1 (by decide) len_era rfl
theorem s29_few (B1 B2 : Nat) : Few30 (s29 B1 B2) := by
  refine ⟨by simp [s29], fun z hz => ?_, fun z hz e he => ?_, fun y hy => by simp [s29, svs] at hy⟩
  · obtain rfl := List.mem_singleton.1 hz
    show 3 ≤ 1000
    decide
  · obtain rfl := List.mem_singleton.1 hz
    have key : ∀ e ∈ ([⟨0, 0, 0, ⟨#[]⟩, ⟨#[71, 77, 84, 47, 66, 83, 84]⟩, false, 0, 0, 0, 0, 0, 0, 0⟩, ⟨0, 2, 0, ⟨#[82]⟩, ⟨#[71, 77, 84, 47, 66, 83, 84]⟩, false, 0, 0, 0, 0, 0, 0, 0⟩, ⟨0, 2, 0, ⟨#[81]⟩, ⟨#[71, 77, 84, 47, 66, 83, 84]⟩, false, 0, 0, 0, 0, 0, 0, 0⟩] : List EV), (-9223372036854775808 ≤ e.off ∧ e.off ≤ 9223372036854775807) ∧ (-9223372036854775808 ≤ e.save ∧ e.save ≤ 9223372036854775807) ∧ e.fmt.size ≤ 1100000 := by decide
    exact key e he
theorem s29_turn (B1 B2 : Nat) : mapS (turnE ⟨#[82]⟩) (s29 B1 B2) = ⟨none, 0, [], some ⟨B2, 0, none⟩, 1, [⟨⟨#[90]⟩, some ⟨B1, 0, none⟩, 3, [⟨0, 0, 0, ⟨#[]⟩, ⟨#[71, 77, 84, 47, 66, 83, 84]⟩, false, 0, 0, 0, 0, 0, 0, 0⟩, ⟨0, 2, 0, ⟨#[82]⟩, ⟨#[66, 83, 84, 47, 71, 77, 84]⟩, false, 0, 0, 0, 0, 0, 0, 0⟩, ⟨0, 2, 0, ⟨#[81]⟩, ⟨#[71, 77, 84, 47, 66, 83, 84]⟩, false, 0, 0, 0, 0, 0, 0, 0⟩]⟩], none, 0, [], none, 0, []⟩ := by
  have h : turnB ⟨#[71, 77, 84, 47, 66, 83, 84]⟩ = ⟨#[66, 83, 84, 47, 71, 77, 84]⟩ := by decide +kernel
  unfold mapS s29 mapE
  simp [turnE, h]
set_option maxRecDepth 100000 in
set_option maxHeartbeats 8000000 in
theorem works29_any (w : World) (hv : Vars21 w) : Calls Tryd.prog 30 #[] w fun x w' => x = .returned (.bool true) ∧ Below w.heap.size w w' := by
  have HV := Lib.hid hv
  have HB0 := Lib.hid (Blk.new w 115 #[.string ⟨#[67, 69, 84, 47, 67, 69, 83, 84]⟩, .string ⟨#[67, 69, 83, 84, 47, 67, 69, 84]⟩, .string ⟨#[43, 48, 53, 47, 43, 48, 54]⟩, .string ⟨#[43, 48, 54, 47, 43, 48, 53]⟩, .string ⟨#[69, 37, 115, 84]⟩, .string ⟨#[69, 37, 115, 84]⟩, .string ⟨#[37, 122]⟩, .string ⟨#[37, 122]⟩, .string ⟨#[65, 47, 66]⟩, .string ⟨#[65, 47, 66]⟩, .string ⟨#[]⟩, .string ⟨#[]⟩])
  have HW0 := Lib.hid ((Below.refl w.heap.size w).alloc (Nat.le_refl _) (.cells #[.string ⟨#[67, 69, 84, 47, 67, 69, 83, 84]⟩, .string ⟨#[67, 69, 83, 84, 47, 67, 69, 84]⟩, .string ⟨#[43, 48, 53, 47, 43, 48, 54]⟩, .string ⟨#[43, 48, 54, 47, 43, 48, 53]⟩, .string ⟨#[69, 37, 115, 84]⟩, .string ⟨#[69, 37, 115, 84]⟩, .string ⟨#[37, 122]⟩, .string ⟨#[37, 122]⟩, .string ⟨#[65, 47, 66]⟩, .string ⟨#[65, 47, 66]⟩, .string ⟨#[]⟩, .string ⟨#[]⟩] 115))
  clear hv
  go_enter Tryd.func30, Tryd.ntmps30
  go_wp2_with fail
  go_loopw [2, 12] (fun s2 i W => ∃ k : Nat, k ≤ 6 ∧ i = .int .i64 k ∧ Below (w.alloc (.cells #[.string ⟨#[67, 69, 84, 47, 67, 69, 83, 84]⟩, .string ⟨#[67, 69, 83, 84, 47, 67, 69, 84]⟩, .string ⟨#[43, 48, 53, 47, 43, 48, 54]⟩, .string ⟨#[43, 48, 54, 47, 43, 48, 53]⟩, .string ⟨#[69, 37, 115, 84]⟩, .string ⟨#[69, 37, 115, 84]⟩, .string ⟨#[37, 122]⟩, .string ⟨#[37, 122]⟩, .string ⟨#[65, 47, 66]⟩, .string ⟨#[65, 47, 66]⟩, .string ⟨#[]⟩, .string ⟨#[]⟩] 115)).heap.size (w.alloc (.cells #[.string ⟨#[67, 69, 84, 47, 67, 69, 83, 84]⟩, .string ⟨#[67, 69, 83, 84, 47, 67, 69, 84]⟩, .string ⟨#[43, 48, 53, 47, 43, 48, 54]⟩, .string ⟨#[43, 48, 54, 47, 43, 48, 53]⟩, .string ⟨#[69, 37, 115, 84]⟩, .string ⟨#[69, 37, 115, 84]⟩, .string ⟨#[37, 122]⟩, .string ⟨#[37, 122]⟩, .string ⟨#[65, 47, 66]⟩, .string ⟨#[65, 47, 66]⟩, .string ⟨#[]⟩, .string ⟨#[]⟩] 115)) W) (fun _ i _ => 6 - (intOf i).toNat)
  case atStart => exact ⟨0, by decide, rfl, Below.refl _ _⟩
  case round =>
    obtain ⟨k, hk, rfl, hb⟩ := hrel
    have HB := Lib.hid hb
    by_cases hlt : k < 6
    · have hki : (k : Int) < 6 := by omega
      have hk0 : (0 : Int) ≤ (k : Int) := by omega
      obtain ⟨a, b, h1, h2, h3, h4⟩ := ex29 k hlt
      have hbb := HB0.out.below hb HB0.out.lt
      have c0 := (hbb.cell (k * 2)).trans h1
      have c1 := (hbb.cell (k * 2 + 1)).trans h2
      have HX := Lib.hid (Blk.new wr 115 #[.string a, .string b])
      have H3 := Lib.hid h3; have H4 := Lib.hid h4; have HLT := Lib.hid hlt
      clear hb hlt h1 h2 h3 h4 hbb
      go_upto_region 4 with fail
      clear c0 c1
      refine wp_region_shape [(some 16, []), (some 17, [0]), (some 18, [1]), (some 19, []), (some 20, [3]), (some 21, [2, 4])] (fun y => { tmps := #[u0, undef, .pointer (some ⟨wr.heap.size, 0, none⟩), undef, .agg #[.string ⟨#[67, 69, 84, 47, 67, 69, 83, 84]⟩, .string ⟨#[67, 69, 83, 84, 47, 67, 69, 84]⟩], .agg #[.string ⟨#[43, 48, 53, 47, 43, 48, 54]⟩, .string ⟨#[43, 48, 54, 47, 43, 48, 53]⟩], .agg #[.string ⟨#[69, 37, 115, 84]⟩, .string ⟨#[69, 37, 115, 84]⟩], .agg #[.string ⟨#[37, 122]⟩, .string ⟨#[37, 122]⟩], .agg #[.string ⟨#[65, 47, 66]⟩, .string ⟨#[65, 47, 66]⟩], .agg #[.string ⟨#[]⟩, .string ⟨#[]⟩], .slice (some ⟨w.heap.size, 0, none⟩) 6 6, .int .i64 6, .int .i64 k, .bool true, .pointer (some ⟨w.heap.size, k * 2, none⟩), .agg #[.string a, .string b], y 16, y 17, y 18, y 19, y 20, y 21, u22, undef, undef, undef, undef, undef, undef, undef, undef, undef, undef, undef, undef, undef, undef, undef, undef, undef, undef, undef, undef, undef, undef, undef, undef, undef, undef, undef, undef, undef, undef, undef, undef, undef, undef, undef, undef, undef, undef, undef, undef, undef, undef, undef, undef, undef, undef, undef, undef, undef, undef, undef, undef, undef, undef], defers := [] }) (fun k => match k with | 16 => u16 | 17 => u17 | 18 => u18 | 19 => u19 | 20 => u20 | 21 => u21 | _ => undef) (fun j => false) [.pointer (some ⟨wr.heap.size, 0, none⟩), .string a, .string b, .pointer (some ⟨wr.heap.size, 1, none⟩), .string b, .bool false] (fun j y W => match j with  | _ => True) (fun j => match j with  | _ => []) (fun W W' => Below W.heap.size W W') (fun W => Below (wr.alloc (.cells #[.string a, .string b] 115)).heap.size (wr.alloc (.cells #[.string a, .string b] 115)) W) (by kernel_rfl) (by kernel_rfl) (by decide +kernel) rfl (Below.refl _ _).drew ?hput4 ?hloc4 ?hmono4 ?hstep4 ?hdone4
      case hput4 =>
        intro d hd y v
        simp only [List.filterMap_cons, List.filterMap_nil, List.mem_cons, List.not_mem_nil, or_false] at hd
        rcases hd with rfl | rfl | rfl | rfl | rfl | rfl
        all_goals rfl
      case hloc4 =>
        intro j hj; cases hj
      case hmono4 =>
        intro j hj; cases hj
      case hdone4 =>
        intro y4 w4 hS hd
        have e21 : y4 21 = .bool false := (hd 5 (by decide)).val rfl rfl
        rw [e21]
        have HBN := Lib.hid (HB.out.trans ((((Below.refl wr.heap.size wr).alloc (Nat.le_refl _) (.cells #[.string a, .string b] 115)).trans (hS.mono (by simp))).mono HB.out.size))
        clear hd hS
        go_wp2_with fail
        go_roundw
        case rel => exact ⟨k + 1, by have := HLT.out; omega, by go_num, HBN.out⟩
        case measure => have := HLT.out; simp [intOf]; omega
      case hstep4 =>
        refine StepsOk.cons (StepOk.known rfl fun y W hS hd K' hK => ?_) ?_
        · skip
          clear hd
          go_simp
          exact hK.out _ _ rfl (Below.refl _ _) hS
        refine StepsOk.cons (StepOk.known rfl fun y W hS hd K' hK => ?_) ?_
        · skip
          have e16 : y 16 = .pointer (some ⟨wr.heap.size, 0, none⟩) := (hd 0 rfl).val rfl rfl
          clear hd
          have r := ((HX.out.below hS HX.out.lt).cell 0).trans rfl
          go_simp
          exact hK.out _ _ (by first | rfl | (simp only [e16]; done) | (simp only [e16]; rfl)) (Below.refl _ _) hS
        refine StepsOk.cons (StepOk.known rfl fun y W hS hd K' hK => ?_) ?_
        · skip
          have e17 : y 17 = .string a := (hd 1 rfl).val rfl rfl
          clear hd
          have hbw : Below w.heap.size w W := HW0.out.trans ((HB.out.trans ((((Below.refl wr.heap.size wr).alloc (Nat.le_refl _) (.cells #[.string a, .string b] 115)).trans (hS.mono (by simp))).mono HB.out.size)).mono HW0.out.size)
          have cF := tformat_any a W (by have := H4.out; omega) (HV.out.below hbw)
          rw [H3.out] at cF
          go_simp
          refine cF.mono ?_
          rintro x W' ⟨rfl, hc⟩
          go_wp2_with fail
          exact hK.out _ _ (by first | rfl | (simp only [e17]; done) | (simp only [e17]; rfl)) hc (hS.trans (hc.mono hS.size))
        refine StepsOk.cons (StepOk.known rfl fun y W hS hd K' hK => ?_) ?_
        · skip
          clear hd
          go_simp
          exact hK.out _ _ rfl (Below.refl _ _) hS
        refine StepsOk.cons (StepOk.known rfl fun y W hS hd K' hK => ?_) ?_
        · skip
          have e19 : y 19 = .pointer (some ⟨wr.heap.size, 1, none⟩) := (hd 3 rfl).val rfl rfl
          clear hd
          have r := ((HX.out.below hS HX.out.lt).cell 1).trans rfl
          go_simp
          exact hK.out _ _ (by first | rfl | (simp only [e19]; done) | (simp only [e19]; rfl)) (Below.refl _ _) hS
        refine StepsOk.cons (StepOk.known rfl fun y W hS hd K' hK => ?_) ?_
        · skip
          have e18 : y 18 = .string b := (hd 2 rfl).val rfl rfl
          have e20 : y 20 = .string b := (hd 4 rfl).val rfl rfl
          clear hd
          have hq : (b.toList == b.toList) = true := by simp
          go_simp
          exact hK.out _ _ (by first | rfl | (simp only [e18, e20]; done) | (simp only [e18, e20]; rfl)) (Below.refl _ _) hS
        exact StepsOk.nil
    · obtain rfl : k = 6 := by omega
      obtain ⟨wz, hwz⟩ : ∃ x, x = wr := ⟨_, rfl⟩
      subst hwz
      have hbz := HW0.out.trans (hb.mono HW0.out.size)
      have hb2 := (hbz.alloc hbz.size (.cells #[.int .i64 0, .int .i64 0, .int .i64 0, .string ⟨#[]⟩, .string ⟨#[71, 77, 84, 47, 66, 83, 84]⟩, .bool false, .int .i64 0, .int .i64 0, .int .i64 0, .int .i64 0, .int .i64 0, .int .i64 0, .int .i64 0, .int .i64 0, .int .i64 2, .int .i64 0, .string ⟨#[82]⟩, .string ⟨#[71, 77, 84, 47, 66, 83, 84]⟩, .bool false, .int .i64 0, .int .i64 0, .int .i64 0, .int .i64 0, .int .i64 0, .int .i64 0, .int .i64 0, .int .i64 0, .int .i64 2, .int .i64 0, .string ⟨#[81]⟩, .string ⟨#[71, 77, 84, 47, 66, 83, 84]⟩, .bool false, .int .i64 0, .int .i64 0, .int .i64 0, .int .i64 0, .int .i64 0, .int .i64 0, .int .i64 0] 47)).alloc (by have := hbz.size; simp; omega) (.cells #[.string ⟨#[90]⟩, .slice (some ⟨wz.heap.size, 0, none⟩) 3 3] 39)
      have h1 := (Blk.new wz 47 #[.int .i64 0, .int .i64 0, .int .i64 0, .string ⟨#[]⟩, .string ⟨#[71, 77, 84, 47, 66, 83, 84]⟩, .bool false, .int .i64 0, .int .i64 0, .int .i64 0, .int .i64 0, .int .i64 0, .int .i64 0, .int .i64 0, .int .i64 0, .int .i64 2, .int .i64 0, .string ⟨#[82]⟩, .string ⟨#[71, 77, 84, 47, 66, 83, 84]⟩, .bool false, .int .i64 0, .int .i64 0, .int .i64 0, .int .i64 0, .int .i64 0, .int .i64 0, .int .i64 0, .int .i64 0, .int .i64 2, .int .i64 0, .string ⟨#[81]⟩, .string ⟨#[71, 77, 84, 47, 66, 83, 84]⟩, .bool false, .int .i64 0, .int .i64 0, .int .i64 0, .int .i64 0, .int .i64 0, .int .i64 0, .int .i64 0]).alloc (.cells #[.string ⟨#[90]⟩, .slice (some ⟨wz.heap.size, 0, none⟩) 3 3] 39)
      have h2 := Blk.newAt (wz.alloc (.cells #[.int .i64 0, .int .i64 0, .int .i64 0, .string ⟨#[]⟩, .string ⟨#[71, 77, 84, 47, 66, 83, 84]⟩, .bool false, .int .i64 0, .int .i64 0, .int .i64 0, .int .i64 0, .int .i64 0, .int .i64 0, .int .i64 0, .int .i64 0, .int .i64 2, .int .i64 0, .string ⟨#[82]⟩, .string ⟨#[71, 77, 84, 47, 66, 83, 84]⟩, .bool false, .int .i64 0, .int .i64 0, .int .i64 0, .int .i64 0, .int .i64 0, .int .i64 0, .int .i64 0, .int .i64 0, .int .i64 2, .int .i64 0, .string ⟨#[81]⟩, .string ⟨#[71, 77, 84, 47, 66, 83, 84]⟩, .bool false, .int .i64 0, .int .i64 0, .int .i64 0, .int .i64 0, .int .i64 0, .int .i64 0, .int .i64 0] 47)) (wz.heap.size + 1) (by simp) 39 #[.string ⟨#[90]⟩, .slice (some ⟨wz.heap.size, 0, none⟩) 3 3]
      have cT := Lib.hid (teras_any (s29 wz.heap.size (wz.heap.size + 1)) ⟨#[82]⟩ ((wz.alloc (.cells #[.int .i64 0, .int .i64 0, .int .i64 0, .string ⟨#[]⟩, .string ⟨#[71, 77, 84, 47, 66, 83, 84]⟩, .bool false, .int .i64 0, .int .i64 0, .int .i64 0, .int .i64 0, .int .i64 0, .int .i64 0, .int .i64 0, .int .i64 0, .int .i64 2, .int .i64 0, .string ⟨#[82]⟩, .string ⟨#[71, 77, 84, 47, 66, 83, 84]⟩, .bool false, .int .i64 0, .int .i64 0, .int .i64 0, .int .i64 0, .int .i64 0, .int .i64 0, .int .i64 0, .int .i64 0, .int .i64 2, .int .i64 0, .string ⟨#[81]⟩, .string ⟨#[71, 77, 84, 47, 66, 83, 84]⟩, .bool false, .int .i64 0, .int .i64 0, .int .i64 0, .int .i64 0, .int .i64 0, .int .i64 0, .int .i64 0] 47)).alloc (.cells #[.string ⟨#[90]⟩, .slice (some ⟨wz.heap.size, 0, none⟩) 3 3] 39)) (s29_in h1 h2) (s29_few _ _) (HV.out.below hb2))
      have HB2 := Lib.hid hb2
      clear hb hbz hb2 h1 h2
      go_wp2_with fail
      refine cT.out.mono ?_
      rintro x W5 ⟨t, rfl, hC, hs, hc⟩
      rw [s29_turn] at hs
      have hl : t.zones.length = 1 := hs.zones.1
      obtain ⟨y, hy⟩ : ∃ y, t.zones[0]? = some y := ⟨_, List.getElem?_eq_getElem (by omega)⟩
      have hye := (hs.zones.2 0 y _ (by omega) hy rfl).2
      obtain ⟨zg, hzA, _, hzl⟩ := hC.zones.1.addr (by omega)
      obtain ⟨yg, hyA, _, hyl⟩ := hC.eraAddr hy (by rw [hye]; show 0 < 3; decide)
      have hal := (Below.refl W5.heap.size W5).alloc (Nat.le_refl _) (.cells #[.slice t.rA t.rules.length t.rc, .slice (some ⟨zg, 0, none⟩) 1 t.zc, .slice t.kA t.links.length t.kc, .slice t.hA t.shifts.length t.hc] 32)
      have hzr := hC.zones.1.below hal
      have her := (hC.zones.2.eras 0 y hy).below hal
      rw [hzA] at hzr
      rw [hyA, hye] at her
      have n1 := hzr.cellAt len_zone hy 1 _ rfl
      rw [hyA, hye] at n1
      have m0 := her.cellAt len_era (k := 0) rfl 4 _ rfl
      have m1 := her.cellAt len_era (k := 1) rfl 4 _ rfl
      have m2 := her.cellAt len_era (k := 2) rfl 4 _ rfl
      have HBE := Lib.hid ((HB2.out.trans (hc.mono HB2.out.size)).trans (hal.mono (HB2.out.trans (hc.mono HB2.out.size)).size))
      clear hC hs hc hal hzr her hy hye hyA cT HB2

      go_wp2_with fail
      go_ret
      exact ⟨rfl, HBE.out⟩
end Go.Proofs.YtlideagcmhlkeaaDoor

/- A cell of a flat table of elements. No function of the program. -/
namespace Go.Proofs.YtlideagcmhlkeaaDoor
open Go.RowKit
set_option linter.unusedVariables false

end Go.Proofs.YtlideagcmhlkeaaDoor

/- A whole struct is stored into a block that is known whole. No function of the program. -/
namespace Go.Proofs.YtlideagcmhlkeaaDoor
open Go.RowKit
set_option linter.unusedVariables false

theorem blk_setCells {g : Nat} {t : TypeId} : ∀ (vs : List Value) (o : Nat) (w : World) (cs : Array Value), Blk w g t cs → o + vs.length ≤ cs.size → Blk (w.setCells g o vs) g t (cs.toList.take o ++ vs ++ cs.toList.drop (o + vs.length)).toArray
  | [], o, w, cs, h, _ => by
    have e : (cs.toList.take o ++ [] ++ cs.toList.drop (o + 0)).toArray = cs := by
      rw [List.append_nil, Nat.add_zero, List.take_append_drop]
    show Blk w g t (cs.toList.take o ++ [] ++ cs.toList.drop (o + 0)).toArray
    rw [e]; exact h
  | v :: r, o, w, cs, h, hl => by
    rw [List.length_cons] at hl
    have ih := blk_setCells r (o + 1) (w.setCell ⟨g, o, none⟩ v) (cs.setIfInBounds o v) (h.set_ o v) (by rw [Array.size_setIfInBounds]; omega)
    have e : (cs.setIfInBounds o v).toList.take (o + 1) ++ r ++ (cs.setIfInBounds o v).toList.drop (o + 1 + r.length) = cs.toList.take o ++ (v :: r) ++ cs.toList.drop (o + (v :: r).length) := by
      rw [Array.toList_setIfInBounds, List.length_cons]
      have ho : o < cs.toList.length := by rw [Array.length_toList]; omega
      rw [List.take_add_one, List.getElem?_set_self ho, List.take_set_of_le (Nat.le_refl _), List.drop_set_of_lt (by omega)]
      simp [Nat.add_assoc, Nat.add_comm 1]
    rw [e] at ih
    exact ih
theorem below_setCells {B g : Nat} {a : World} (hg : B ≤ g) : ∀ (vs : List Value) (o : Nat) (w : World), Below B a w → Below B a (w.setCells g o vs)
  | [], _, _, h => h
  | v :: r, o, w, h => below_setCells hg r (o + 1) _ (h.setCell (p := ⟨g, o, none⟩) hg v)
theorem far_setCells {g g' : Nat} {t : TypeId} {cs : Array Value} (hg : g' ≠ g) : ∀ (vs : List Value) (o : Nat) (w : World), Blk w g' t cs → Blk (w.setCells g o vs) g' t cs
  | [], _, _, h => h
  | v :: r, o, w, h => far_setCells hg r (o + 1) _ (h.far (p := ⟨g, o, none⟩) hg v)
theorem there_of_blk {w : World} {g : Nat} {t : TypeId} {cs : Array Value} (h : Blk w g t cs) : w.there g 0 cs.size := fun j hj => by
  rw [Nat.zero_add]
  exact ⟨by rw [Blk.cell h, Array.getElem?_eq_getElem hj]; rfl, Blk.frozen h j⟩
theorem wpList_store_blk {P : Program} {ops : Array Oper} {rest : List Oper} {op : Oper} {a : Act} {w : World} {Q : Exit → Act → World → Prop} (hgd : op.guard = none) (ty : TypeId) (x y : Operand) (ho : op.op = .store ty x y)
    (g : Nat) (cells : List Value) (hx : a.eval x = .pointer (some ⟨g, 0, none⟩)) (hy : a.eval y = .agg cells.toArray) (t : TypeId) (cs : Array Value) (hB : Blk w g t cs) (hs : cs.size = cells.length)
    (hi : (P.info? ty).map (·.size) = some cells.length) (h1 : ∀ v ∈ cells, v.oneCell' = true)
    (h : ∀ w', Blk w' g t cells.toArray → (∀ B b, B ≤ g → Below B b w → Below B b w') → (∀ g' t' cs', g' ≠ g → Blk w g' t' cs' → Blk w' g' t' cs') → wpList P ops Q rest (a.put op.dst undef) w') : wpList P ops Q (op :: rest) a w := by
  have hsz : cells.toArray.size = cells.length := List.size_toArray
  refine wpList_store_mid hgd ty x y ho g 0 cells.toArray hx hy ?_ (by rw [hsz]; exact hi) (all_oneCell_toArray h1) ?_
  · have := there_of_blk hB
    rw [hs] at this
    rw [hsz]; exact this
  · refine h _ ?_ (fun B b hb hw => below_setCells hb _ _ _ hw) (fun g' t' cs' hne hb => far_setCells hne _ _ _ hb)
    have q := blk_setCells cells.toArray.toList 0 w cs hB (by rw [Nat.zero_add, Array.length_toList, hsz, hs]; exact Nat.le_refl _)
    have e : (cs.toList.take 0 ++ cells.toArray.toList ++ cs.toList.drop (0 + cells.toArray.toList.length)).toArray = cells.toArray := by
      have : cs.toList.drop (0 + cells.toArray.toList.length) = [] := List.drop_eq_nil_iff.2 (by rw [Array.length_toList, Array.length_toList, hsz, hs]; omega)
      rw [this]; simp
    rw [e] at q
    exact q
end Go.Proofs.YtlideagcmhlkeaaDoor

/- The walk of Era (chapter 21): an era by numbers; rules of a set as the callees read them. -/
namespace Go.Proofs.YtlideagcmhlkeaaDoor
open Go.RowKit Go.Lib
set_option linter.unusedVariables false

theorem belowEra (w : World) (o1 o2 o3 : Obj) : Below w.heap.size w (((w.alloc o1).alloc o2).alloc o3) := (((Below.refl _ w).alloc (Nat.le_refl _) o1).alloc (by simp) o2).alloc (by simp; omega) o3
/-- the FORMAT by a number -/
def fmt21 (K off : Int) (L : List RV) : ByteArray :=
  if K = 0 then ⟨#[76, 77, 84]⟩ else if K = 1 then ⟨#[67, 69, 84, 47, 67, 69, 83, 84]⟩ else if K = 2 then ⟨#[69, 69, 37, 115, 84]⟩ else if K = 3 then ⟨#[37, 122]⟩ else str (P20.expansion 2 (offOf off) 0 (svs L)).1
set_option maxRecDepth 100000 in
set_option maxHeartbeats 8000000 in
theorem era21_any (A : Option Addr) (c : Nat) (L : List RV) (off kd : Int) (w : World) (ho : 0 ≤ off ∧ off ≤ 255) (hk : 0 ≤ kd ∧ kd ≤ 255) (hl : L.length ≤ 1100000) (hsv : SvOk L) (hR : RulesIn w A L) :
    Calls Tryd.prog 70 #[.slice A L.length c, .int .u8 off, .int .u8 kd] w fun e w' => e = .returned (.agg #[.int .i64 (offOf off), .int .i64 2, .int .i64 0, .string ⟨#[82]⟩, .string (fmt21 (kd.tmod 5) off L), .bool false, .int .i64 0, .int .i64 0, .int .i64 0, .int .i64 0, .int .i64 0, .int .i64 0, .int .i64 0]) ∧ Below w.heap.size w w' := by
  have hb := offOf_bd ho.1
  have cE : Hid (∀ W, Below w.heap.size w W → Calls Tryd.prog 18 #[.agg #[.int .i64 (offOf off), .int .i64 2, .int .i64 0, .string ⟨#[82]⟩, .string ⟨#[]⟩, .bool false, .int .i64 0, .int .i64 0, .int .i64 0, .int .i64 0, .int .i64 0, .int .i64 0, .int .i64 0], .slice A L.length c] W fun e w' => e = .returned (.tuple #[.string (str (P20.expansion 2 (offOf off) 0 (svs L)).1), .int .i64 (P20.expansion 2 (offOf off) 0 (svs L)).2]) ∧ Below W.heap.size W w') := fun W h => expansion_any (offOf off) 2 0 _ _ _ _ _ _ _ _ _ _ A L c W ⟨by omega, by omega⟩ ⟨by decide, by decide⟩ hl hsv (hR.below h)
  have hO : off.tmod 49 = off % 49 := Int.tmod_eq_emod_of_nonneg ho.1
  have hK : kd.tmod 5 = kd % 5 := Int.tmod_eq_emod_of_nonneg hk.1
  have hO2 : 0 ≤ off % 49 ∧ off % 49 ≤ 48 := by omega
  have hK2 : kd % 5 = 0 ∨ kd % 5 = 1 ∨ kd % 5 = 2 ∨ kd % 5 = 3 ∨ kd % 5 = 4 := by omega
  rw [← hO] at hO2
  rw [← hK] at hK2
  clear hO hK hb hR hsv hl
  have hoo : offOf off = (off.tmod 49 - 24) * 1800 := rfl
  obtain ⟨o0, o1⟩ := ho
  obtain ⟨k0, k1⟩ := hk
  obtain ⟨O, hO⟩ : ∃ O, off.tmod 49 = O := ⟨_, rfl⟩
  rw [hO] at hoo hO2
  unfold fmt21
  generalize (P20.expansion 2 (offOf off) 0 (svs L)).2 = X2 at *
  generalize str (P20.expansion 2 (offOf off) 0 (svs L)).1 = XS at *
  rw [hoo] at cE ⊢
  clear hoo
  obtain ⟨O0, O1⟩ := hO2
  generalize L.length = N at *
  rcases hK2 with hK | hK | hK | hK | hK
  · rw [hK]
    go_enter Tryd.func70, Tryd.ntmps70
    go_wp2_with fail
    exact bodyPost_ret (v := .agg #[.int .i64 ((O - 24) * 1800), .int .i64 2, .int .i64 0, .string ⟨#[82]⟩, .string ⟨#[76, 77, 84]⟩, .bool false, .int .i64 0, .int .i64 0, .int .i64 0, .int .i64 0, .int .i64 0, .int .i64 0, .int .i64 0]) (by simp [results, Tryd.results70, go_sem]) rfl ⟨rfl, belowEra _ _ _ _⟩
  · rw [hK]
    go_enter Tryd.func70, Tryd.ntmps70
    go_wp2_with fail
    exact bodyPost_ret (v := .agg #[.int .i64 ((O - 24) * 1800), .int .i64 2, .int .i64 0, .string ⟨#[82]⟩, .string ⟨#[67, 69, 84, 47, 67, 69, 83, 84]⟩, .bool false, .int .i64 0, .int .i64 0, .int .i64 0, .int .i64 0, .int .i64 0, .int .i64 0, .int .i64 0]) (by simp [results, Tryd.results70, go_sem]) rfl ⟨rfl, belowEra _ _ _ _⟩
  · rw [hK]
    go_enter Tryd.func70, Tryd.ntmps70
    go_wp2_with fail
    exact bodyPost_ret (v := .agg #[.int .i64 ((O - 24) * 1800), .int .i64 2, .int .i64 0, .string ⟨#[82]⟩, .string ⟨#[69, 69, 37, 115, 84]⟩, .bool false, .int .i64 0, .int .i64 0, .int .i64 0, .int .i64 0, .int .i64 0, .int .i64 0, .int .i64 0]) (by simp [results, Tryd.results70, go_sem]) rfl ⟨rfl, belowEra _ _ _ _⟩
  · rw [hK]
    go_enter Tryd.func70, Tryd.ntmps70
    go_wp2_with fail
    exact bodyPost_ret (v := .agg #[.int .i64 ((O - 24) * 1800), .int .i64 2, .int .i64 0, .string ⟨#[82]⟩, .string ⟨#[37, 122]⟩, .bool false, .int .i64 0, .int .i64 0, .int .i64 0, .int .i64 0, .int .i64 0, .int .i64 0, .int .i64 0]) (by simp [results, Tryd.results70, go_sem]) rfl ⟨rfl, belowEra _ _ _ _⟩
  · rw [hK]
    go_enter Tryd.func70, Tryd.ntmps70
    go_wp2_with fail
    refine (cE.out _ ?_).mono ?_
    · exact belowEra _ _ _ _
    rintro e W2 ⟨rfl, hc⟩
    have hb2 := (belowEra w (.cells #[.int .i64 0, .int .i64 0, .int .i64 0, .string ⟨#[]⟩, .string ⟨#[]⟩, .bool false, .int .i64 0, .int .i64 0, .int .i64 0, .int .i64 0, .int .i64 0, .int .i64 0, .int .i64 0] 47) (.cells #[.int .i64 ((O - 24) * 1800), .int .i64 2, .int .i64 0, .string ⟨#[82]⟩, .string ⟨#[]⟩, .bool false, .int .i64 0, .int .i64 0, .int .i64 0, .int .i64 0, .int .i64 0, .int .i64 0, .int .i64 0] 47) (.cells #[.string ⟨#[76, 77, 84]⟩, .string ⟨#[67, 69, 84, 47, 67, 69, 83, 84]⟩, .string ⟨#[69, 69, 37, 115, 84]⟩, .string ⟨#[37, 122]⟩, .string ⟨#[]⟩] 9)).trans (hc.mono (belowEra w _ _ _).size)
    have hE0 := (Blk.newAt (w.alloc (.cells #[.int .i64 0, .int .i64 0, .int .i64 0, .string ⟨#[]⟩, .string ⟨#[]⟩, .bool false, .int .i64 0, .int .i64 0, .int .i64 0, .int .i64 0, .int .i64 0, .int .i64 0, .int .i64 0] 47)) (w.heap.size + 1) (by simp) 47 #[.int .i64 ((O - 24) * 1800), .int .i64 2, .int .i64 0, .string ⟨#[82]⟩, .string ⟨#[]⟩, .bool false, .int .i64 0, .int .i64 0, .int .i64 0, .int .i64 0, .int .i64 0, .int .i64 0, .int .i64 0]).alloc (.cells #[.string ⟨#[76, 77, 84]⟩, .string ⟨#[67, 69, 84, 47, 67, 69, 83, 84]⟩, .string ⟨#[69, 69, 37, 115, 84]⟩, .string ⟨#[37, 122]⟩, .string ⟨#[]⟩] 9)
    have hZ0 := ((Blk.new w 47 #[.int .i64 0, .int .i64 0, .int .i64 0, .string ⟨#[]⟩, .string ⟨#[]⟩, .bool false, .int .i64 0, .int .i64 0, .int .i64 0, .int .i64 0, .int .i64 0, .int .i64 0, .int .i64 0]).alloc (.cells #[.int .i64 ((O - 24) * 1800), .int .i64 2, .int .i64 0, .string ⟨#[82]⟩, .string ⟨#[]⟩, .bool false, .int .i64 0, .int .i64 0, .int .i64 0, .int .i64 0, .int .i64 0, .int .i64 0, .int .i64 0] 47)).alloc (.cells #[.string ⟨#[76, 77, 84]⟩, .string ⟨#[67, 69, 84, 47, 67, 69, 83, 84]⟩, .string ⟨#[69, 69, 37, 115, 84]⟩, .string ⟨#[37, 122]⟩, .string ⟨#[]⟩] 9)
    have hE := hE0.below hc hE0.lt
    have hZ := hZ0.below hc hZ0.lt
    clear hE0 hZ0 hc cE
    have e4 := (hE.cell 4).trans rfl
    have f13 := hE.frozen 4
    have hE3 : Blk (W2.setCell ⟨w.heap.size + 1, 4, none⟩ (.string XS)) (w.heap.size + 1) 47 #[.int .i64 ((O - 24) * 1800), .int .i64 2, .int .i64 0, .string ⟨#[82]⟩, .string XS, .bool false, .int .i64 0, .int .i64 0, .int .i64 0, .int .i64 0, .int .i64 0, .int .i64 0, .int .i64 0] := hE.set_ 4 _
    have hZ3 : Blk (W2.setCell ⟨w.heap.size + 1, 4, none⟩ (.string XS)) w.heap.size 47 #[.int .i64 0, .int .i64 0, .int .i64 0, .string ⟨#[]⟩, .string ⟨#[]⟩, .bool false, .int .i64 0, .int .i64 0, .int .i64 0, .int .i64 0, .int .i64 0, .int .i64 0, .int .i64 0] := hZ.far (p := ⟨w.heap.size + 1, 4, none⟩) (by simp) _
    have hb3 := hb2.setCell (p := ⟨w.heap.size + 1, 4, none⟩) (Nat.le_succ _) (.string XS)
    have HH := Lib.hid (And.intro hE3 (And.intro hZ3 hb3))
    clear hE hZ hb2 hE3 hZ3 hb3
    go_upto_region 5 with fail
    obtain ⟨hE3, hZ3, hq0⟩ := HH.out
    clear HH e4 f13
    generalize W2.setCell ⟨w.heap.size + 1, 4, none⟩ (.string XS) = W3 at *
    have e0 := (hE3.cell 0).trans rfl
    have e1 := (hE3.cell 1).trans rfl
    have e2 := (hE3.cell 2).trans rfl
    have e3 := (hE3.cell 3).trans rfl
    have e4 := (hE3.cell 4).trans rfl
    have e5 := (hE3.cell 5).trans rfl
    have e6 := (hE3.cell 6).trans rfl
    have e7 := (hE3.cell 7).trans rfl
    have e8 := (hE3.cell 8).trans rfl
    have e9 := (hE3.cell 9).trans rfl
    have e10 := (hE3.cell 10).trans rfl
    have e11 := (hE3.cell 11).trans rfl
    have e12 := (hE3.cell 12).trans rfl
    have HZ := Lib.hid hZ3
    have HQ := Lib.hid hq0
    clear hZ3 hE3 hq0
    go_step
    go_simp
    go_step
    go_step
    go_simp
    go_step
    refine wpList_store_blk rfl _ _ _ rfl w.heap.size [.int .i64 ((O - 24) * 1800), .int .i64 2, .int .i64 0, .string ⟨#[82]⟩, .string XS, .bool false, .int .i64 0, .int .i64 0, .int .i64 0, .int .i64 0, .int .i64 0, .int .i64 0, .int .i64 0] rfl rfl _ _ HZ.out rfl (by kernel_rfl) (by simp [Value.oneCell']) ?_
    intro W4 hR hBl _
    have r0 := (hR.cell 0).trans rfl
    have r1 := (hR.cell 1).trans rfl
    have r2 := (hR.cell 2).trans rfl
    have r3 := (hR.cell 3).trans rfl
    have r4 := (hR.cell 4).trans rfl
    have r5 := (hR.cell 5).trans rfl
    have r6 := (hR.cell 6).trans rfl
    have r7 := (hR.cell 7).trans rfl
    have r8 := (hR.cell 8).trans rfl
    have r9 := (hR.cell 9).trans rfl
    have r10 := (hR.cell 10).trans rfl
    have r11 := (hR.cell 11).trans rfl
    have r12 := (hR.cell 12).trans rfl
    have HQ4 := Lib.hid (hBl _ _ (Nat.le_refl _) HQ.out)
    clear hR hBl HQ HZ e0 e1 e2 e3 e4 e5 e6 e7 e8 e9 e10 e11 e12
    go_wp2_with fail
    exact bodyPost_ret (v := .agg #[.int .i64 ((O - 24) * 1800), .int .i64 2, .int .i64 0, .string ⟨#[82]⟩, .string XS, .bool false, .int .i64 0, .int .i64 0, .int .i64 0, .int .i64 0, .int .i64 0, .int .i64 0, .int .i64 0]) (by simp [results, Tryd.results70, go_sem, r0, r1, r2, r3, r4, r5, r6, r7, r8, r9, r10, r11, r12]) rfl ⟨rfl, HQ4.out⟩
end Go.Proofs.YtlideagcmhlkeaaDoor
