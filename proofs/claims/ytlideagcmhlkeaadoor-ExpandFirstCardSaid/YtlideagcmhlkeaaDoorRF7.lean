/- Texts of one proof, one behind the other: Mad17c; Mad17d; Mad23a; Plain30b; Plain30c; First30; Plain30d. -/
import Derived.Test.YtlideagcmhlkeaaDoorRF6
import Derived.ArgAppend
import Derived.Laws.OwnMore

/- The walk of a pair of rules of a draft (chapter 17). -/
namespace Go.Proofs.YtlideagcmhlkeaaDoor
open Go.RowKit Go.Lib
set_option linter.unusedVariables false

theorem letA (k : Nat) (h : k < 3) : (#[.string ⟨#[83]⟩, .string ⟨#[68]⟩, .string ⟨#[68, 84]⟩] : Array Value)[k]? = some (.string (P17.sLet k)) := by
  match k, h with
  | 0, _ => rfl
  | 1, _ => rfl
  | 2, _ => rfl
theorem letB (k : Nat) (h : k < 2) : (#[.string ⟨#[]⟩, .string ⟨#[83]⟩] : Array Value)[k]? = some (.string (P17.bLet k)) := by
  match k, h with
  | 0, _ => rfl
  | 1, _ => rfl
/-- what a step of a pair's regions keeps -/
structure Gr (W W' : World) : Prop where
  far : ∀ g t cs, t ≠ 83 → Blk W g t cs → Blk W' g t cs
  own : ∀ g, (∃ a b c d e f h i j k l, Blk W g 83 #[a, b, c, d, e, f, h, i, j, k, l]) → ∃ a b c d e f h i j k l, Blk W' g 83 #[a, b, c, d, e, f, h, i, j, k, l]
theorem Gr.refl (W : World) : Gr W W := ⟨fun _ _ _ _ h => h, fun _ h => h⟩
theorem Gr.below {W W' : World} (h : Below W.heap.size W W') : Gr W W' :=
  ⟨fun g t cs _ hb => hb.below h hb.lt, fun g ⟨a, b, c, d, e, f, h', i, j, k, l, hb⟩ => ⟨a, b, c, d, e, f, h', i, j, k, l, hb.below h hb.lt⟩⟩
theorem Gr.alloc (W : World) (ob : Obj) : Gr W (W.alloc ob) := Gr.below ((Below.refl _ W).alloc (Nat.le_refl _) ob)
theorem pass_s {W W' : World} {t : TypeId} {cs : Array Value} {p : Nat → Prop} (ht : t ≠ 83) (hg : Gr W W') (h : ∃ g, p g ∧ Blk W g t cs) : ∃ g, p g ∧ Blk W' g t cs := by
  obtain ⟨g, h1, h3⟩ := h
  exact ⟨g, h1, hg.far g t cs ht h3⟩
theorem pass_o {W W' : World} {p : Nat → Prop} (hg : Gr W W') (h : ∃ g, p g ∧ ∃ a b c d e f h i j k l, Blk W g 83 #[a, b, c, d, e, f, h, i, j, k, l]) : ∃ g, p g ∧ ∃ a b c d e f h i j k l, Blk W' g 83 #[a, b, c, d, e, f, h, i, j, k, l] := by
  obtain ⟨g, h1, h3⟩ := h
  exact ⟨g, h1, hg.own g h3⟩
theorem Gr.set_ {W : World} {g : Nat} {a b c d e f h i j k l : Value} (hb : Blk W g 83 #[a, b, c, d, e, f, h, i, j, k, l]) (n : Nat) (u : Value) : Gr W (W.setCell ⟨g, n, none⟩ u) := by
  refine ⟨fun g' t cs ht h' => h'.far (fun q => ht ?_) u, fun g' ⟨a', b', c', d', e', f', h', i', j', k', l', hb'⟩ => ?_⟩
  · have q' : g' = g := q
    subst q'
    unfold Blk at hb h'
    rw [hb] at h'
    injection h' with h'
    injection h' with _ h' _
    exact h'.symm
  · by_cases q : g' = g
    · subst q
      have := hb.set_ n u
      unfold Blk at this
      match n with
      | 0 | 1 | 2 | 3 | 4 | 5 | 6 | 7 | 8 | 9 | 10 => exact ⟨_, _, _, _, _, _, _, _, _, _, _, this⟩
      | n + 11 =>
        rw [Array.setIfInBounds, dif_neg (by simp)] at this
        exact ⟨_, _, _, _, _, _, _, _, _, _, _, this⟩
    · exact ⟨a', b', c', d', e', f', h', i', j', k', l', hb'.far q u⟩
theorem Gr.trans {A B C : World} (h : Gr A B) (h' : Gr B C) : Gr A C := ⟨fun g t cs ht hb => h'.far g t cs ht (h.far g t cs ht hb), fun g hb => h'.own g (h.own g hb)⟩

set_option maxRecDepth 100000 in
set_option maxHeartbeats 16000000 in
theorem pair17_any (A : Option Addr) (c : Nat) (D : List Int) (i : Nat) (J : Int) (hJ : J = i) (F T V : Int) (w : World) (hi : i ≤ 800) (hD : Dr w A D) :
    Calls Tryd.prog 80 #[.slice A D.length c, .int .i64 J, .int .i64 F, .int .i64 T, .int .i64 V] w fun e w' => (∃ g, e = .returned (.slice (some ⟨g, 0, none⟩) 2 2) ∧ w.heap.size ≤ g ∧ Blk w' g 83 ((P17.pairA D i F T V).cells ++ (P17.pairB D i F T V).cells).toArray) ∧ Below w.heap.size w w' := by
  have c1 : Hid (∀ W, Below w.heap.size w W → Calls Tryd.prog 78 #[.slice A D.length c, .int .i64 J, .int .i64 3] W fun e w' => e = .returned (.int .i64 (P17.at_ D (i + 0) 3 : Int)) ∧ w' = W) := fun W h => at17_at A c D (i + 0) 3 J (by omega) W (by decide) (by omega) (hD.below h)
  have c4 : Hid (∀ W, Below w.heap.size w W → Calls Tryd.prog 78 #[.slice A D.length c, .int .i64 (J + 8), .int .i64 3] W fun e w' => e = .returned (.int .i64 (P17.at_ D (i + 8) 3 : Int)) ∧ w' = W) := fun W h => at17_at A c D (i + 8) 3 (J + 8) (by omega) W (by decide) (by omega) (hD.below h)
  have c5 : Hid (∀ W, Below w.heap.size w W → Calls Tryd.prog 78 #[.slice A D.length c, .int .i64 (J + 1), .int .i64 3] W fun e w' => e = .returned (.int .i64 (P17.at_ D (i + 1) 3 : Int)) ∧ w' = W) := fun W h => at17_at A c D (i + 1) 3 (J + 1) (by omega) W (by decide) (by omega) (hD.below h)
  have c8 : Hid (∀ W, Below w.heap.size w W → Calls Tryd.prog 78 #[.slice A D.length c, .int .i64 (J + 14), .int .i64 2] W fun e w' => e = .returned (.int .i64 (P17.at_ D (i + 14) 2 : Int)) ∧ w' = W) := fun W h => at17_at A c D (i + 14) 2 (J + 14) (by omega) W (by decide) (by omega) (hD.below h)
  have c9 : Hid (∀ W, Below w.heap.size w W → Calls Tryd.prog 78 #[.slice A D.length c, .int .i64 (J + 2), .int .i64 4] W fun e w' => e = .returned (.int .i64 (P17.at_ D (i + 2) 4 : Int)) ∧ w' = W) := fun W h => at17_at A c D (i + 2) 4 (J + 2) (by omega) W (by decide) (by omega) (hD.below h)
  have c3 : Hid (∀ W, Below w.heap.size w W → Calls Tryd.prog 79 #[.slice A D.length c, .int .i64 (J + 6)] W fun e w' => e = .returned (.agg #[.int .i64 ((P17.at_ D (i + 6) 49 : Int) * 1800), .int .i64 (P17.at_ D (i + 7) 3 : Int)]) ∧ Below W.heap.size W w') := fun W h => clock17_any A c D (i + 6) (J + 6) (by omega) W (by omega) (hD.below h)
  have c7 : Hid (∀ W, Below w.heap.size w W → Calls Tryd.prog 79 #[.slice A D.length c, .int .i64 (J + 12)] W fun e w' => e = .returned (.agg #[.int .i64 ((P17.at_ D (i + 12) 49 : Int) * 1800), .int .i64 (P17.at_ D (i + 13) 3 : Int)]) ∧ Below W.heap.size W w') := fun W h => clock17_any A c D (i + 12) (J + 12) (by omega) W (by omega) (hD.below h)
  have c2 : Hid (∀ W, Below w.heap.size w W → Blk W w.heap.size 98 #[.slice A D.length c] → Calls Tryd.prog 104 #[.int .i64 (J + 3), .pointer (some ⟨w.heap.size, 0, none⟩)] W fun e w' => e = .returned (.agg #[.int .i64 (P17.day D (i + 3)).1, .int .i64 (P17.day D (i + 3)).2.1, .int .i64 (P17.day D (i + 3)).2.2]) ∧ Below W.heap.size W w') := fun W h hx => day17_any A c D w.heap.size (i + 3) (J + 3) (by omega) W (by omega) (hD.below h) hx.lt (hx.cell 0)
  have c6 : Hid (∀ W, Below w.heap.size w W → Blk W w.heap.size 98 #[.slice A D.length c] → Calls Tryd.prog 104 #[.int .i64 (J + 9), .pointer (some ⟨w.heap.size, 0, none⟩)] W fun e w' => e = .returned (.agg #[.int .i64 (P17.day D (i + 9)).1, .int .i64 (P17.day D (i + 9)).2.1, .int .i64 (P17.day D (i + 9)).2.2]) ∧ Below W.heap.size W w') := fun W h hx => day17_any A c D w.heap.size (i + 9) (J + 9) (by omega) W (by omega) (hD.below h) hx.lt (hx.cell 0)
  have l1 := P17.at_lt D (i + 0) (show 0 < 3 by decide)
  have l4 := P17.at_lt D (i + 8) (show 0 < 3 by decide)
  have l5 := P17.at_lt D (i + 1) (show 0 < 3 by decide)
  have l8 := P17.at_lt D (i + 14) (show 0 < 2 by decide)
  have l9 := P17.at_lt D (i + 2) (show 0 < 4 by decide)
  have LA := letA _ l4
  have LB := letB _ l8
  have hJ0 : 0 ≤ J := by omega
  have hJ1 : J ≤ 800 := by omega
  have wj1 : IntKind.i64.wrap (J + 1) = J + 1 := IntWalk.i64_in _ (by omega)
  have wj2 : IntKind.i64.wrap (J + 2) = J + 2 := IntWalk.i64_in _ (by omega)
  have wj3 : IntKind.i64.wrap (J + 3) = J + 3 := IntWalk.i64_in _ (by omega)
  have wj6 : IntKind.i64.wrap (J + 6) = J + 6 := IntWalk.i64_in _ (by omega)
  have wj8 : IntKind.i64.wrap (J + 8) = J + 8 := IntWalk.i64_in _ (by omega)
  have wj9 : IntKind.i64.wrap (J + 9) = J + 9 := IntWalk.i64_in _ (by omega)
  have wj12 : IntKind.i64.wrap (J + 12) = J + 12 := IntWalk.i64_in _ (by omega)
  have wj14 : IntKind.i64.wrap (J + 14) = J + 14 := IntWalk.i64_in _ (by omega)
  unfold P17.pairA P17.pairB
  have e0 : i + 0 = i := rfl
  rw [e0] at l1
  rw [e0] at c1
  have hk4 : (P17.at_ D (i + 2) 4 = 0) ∨ ¬ (P17.at_ D (i + 2) 4 = 0) := by omega
  have b3 : ((P17.at_ D i 3 : Nat) : Int) ≤ 3 := by omega
  have b1 : ((P17.at_ D (i + 1) 3 : Nat) : Int) ≤ 3 := by omega
  have b8 : ((P17.at_ D (i + 8) 3 : Nat) : Int) < 3 := by omega
  have b14 : ((P17.at_ D (i + 14) 2 : Nat) : Int) < 2 := by omega
  generalize P17.at_ D i 3 = n3 at *
  generalize P17.at_ D (i + 8) 3 = n8 at *
  generalize P17.at_ D (i + 1) 3 = n1 at *
  generalize P17.at_ D (i + 14) 2 = n14 at *
  generalize P17.at_ D (i + 2) 4 = n2 at *
  generalize (P17.at_ D (i + 6) 49 : Int) * 1800 = s1 at *
  generalize (P17.at_ D (i + 6 + 1) 3 : Int) = s2 at *
  generalize (P17.at_ D (i + 12) 49 : Int) * 1800 = s3 at *
  generalize (P17.at_ D (i + 12 + 1) 3 : Int) = s4 at *
  generalize P17.day D (i + 3) = d at *
  generalize P17.day D (i + 9) = dd at *
  generalize P17.sLet n8 = SL at *
  generalize P17.bLet n14 = BL at *
  generalize D.length = N at *
  obtain ⟨d1, d2, d3⟩ := d
  obtain ⟨d4, d5, d6⟩ := dd
  simp only at c2 c6 ⊢
  have w3 : IntKind.i64.wrap (2 + (n3 : Int)) = 2 + (n3 : Int) := IntWalk.i64_in _ (by omega)
  have w1 : IntKind.i64.wrap (8 + (n1 : Int)) = 8 + (n1 : Int) := IntWalk.i64_in _ (by omega)
  clear hJ hi l1 l4 l5 l8 l9 hD e0 hJ0 hJ1 b3 b1
  have hmf : ∀ (fn : Fn) (first cap : Array Value) (W : World), (Instr.makeFunc fn first cap).run Tryd.prog W = .ok (.func fn first cap) W := fun _ _ _ _ => rfl
  have hb0 := (Below.refl w.heap.size w).alloc (Nat.le_refl _) (.cells #[.slice A N c] 98)
  have hx0 := Blk.new w 98 #[.slice A N c]
  go_enter Tryd.func80, Tryd.ntmps80
  go_upto_region 2 with fail
  clear hmf
  refine wp_region_shape [(some 15, []), (some 16, []), (some 17, []), (some 18, []), (some 19, [2, 3]), (some 20, [4]), (some 21, []), (some 22, []), (some 23, [7]), (some 24, [6, 8, 4]), (some 25, []), (some 26, []), (some 27, [11]), (some 28, [10, 12, 9]), (some 29, []), (some 30, []), (some 31, []), (some 32, []), (some 33, [17]), (some 34, [16, 18, 13]), (some 35, [15, 19]), (some 36, [20]), (some 37, [0, 1, 5, 9, 13, 14, 21]), (some 12, []), (none, [23, 22, 19, 0, 1, 2, 3, 4, 5, 6, 7, 8, 9, 10, 11, 12, 13, 14, 15, 16, 17, 18, 19, 20, 21, 22, 23])] (fun y => { tmps := #[.slice A N c, .int .i64 J, .int .i64 F, .int .i64 T, .int .i64 V, .pointer (some ⟨w.heap.size, 0, none⟩), undef, undef, undef, undef, .slice none 0 0, .func (.func 104) #[] #[.pointer (some ⟨w.heap.size, 0, none⟩)], y 12, undef, .func (.func 104) #[] #[.pointer (some ⟨w.heap.size, 0, none⟩)], y 15, y 16, y 17, y 18, y 19, y 20, y 21, y 22, y 23, y 24, y 25, y 26, y 27, y 28, y 29, y 30, y 31, y 32, y 33, y 34, y 35, y 36, y 37, undef, undef, undef, undef, undef, undef, undef, undef, undef, undef, undef, undef, undef, undef, undef, undef, undef, undef, undef, undef, undef, undef, undef, undef, undef, undef, undef, undef, undef, undef, undef, undef, undef, undef, undef, undef, undef], defers := [] }) (fun _ => undef) (fun j => j == 15 || j == 20 || j == 23 || j == 24) [.int .i64 F, .int .i64 T, .slice A N c, .int .i64 J, .int .i64 (n3 : Int), .int .i64 (2 + (n3 : Int)), .func (.func 104) #[] #[.pointer (some ⟨w.heap.size, 0, none⟩)], .int .i64 J, .int .i64 (J + 3), .agg #[.int .i64 d1, .int .i64 d2, .int .i64 d3], .slice A N c, .int .i64 J, .int .i64 (J + 6), .agg #[.int .i64 s1, .int .i64 s2], .int .i64 V, undef, .slice A N c, .int .i64 J, .int .i64 (J + 8), .int .i64 (n8 : Int), undef, .string SL, .agg #[.string ⟨#[]⟩, .int .i64 F, .int .i64 T, .int .i64 (2 + (n3 : Int)), .int .i64 d1, .int .i64 d2, .int .i64 d3, .int .i64 s1, .int .i64 s2, .int .i64 V, .string SL], undef, undef] (fun j y W => match j with | 15 => ∃ g, y 30 = .slice (some ⟨g, 0, none⟩) 3 3 ∧ Blk W g 9 #[.string ⟨#[83]⟩, .string ⟨#[68]⟩, .string ⟨#[68, 84]⟩] | 20 => ∃ g, y 35 = .pointer (some ⟨g, n8, none⟩) ∧ Blk W g 9 #[.string ⟨#[83]⟩, .string ⟨#[68]⟩, .string ⟨#[68, 84]⟩] | 23 => ∃ g, (y 12 = Value.pointer (some ⟨g, 0, none⟩) ∧ w.heap.size < g) ∧ ∃ a b c d e f h i j k l, Blk W g 83 #[a, b, c, d, e, f, h, i, j, k, l] | 24 => ∃ g, (y 12 = Value.pointer (some ⟨g, 0, none⟩) ∧ w.heap.size < g) ∧ Blk W g 83 #[.string ⟨#[]⟩, .int .i64 F, .int .i64 T, .int .i64 (2 + (n3 : Int)), .int .i64 d1, .int .i64 d2, .int .i64 d3, .int .i64 s1, .int .i64 s2, .int .i64 V, .string SL] | _ => True) (fun j => match j with | 15 => [30] | 20 => [35] | 23 => [12] | 24 => [12] | _ => []) (Gr) (fun W => Below w.heap.size w W ∧ Blk W w.heap.size 98 #[.slice A N c] ∧ True) (by kernel_rfl) (by kernel_rfl) (by decide +kernel) rfl ⟨hb0.drew, hx0, trivial⟩ ?hput1 ?hloc1 ?hmono1 ?hstep1 ?hdone1
  case hput1 =>
    intro d hd y v
    simp only [List.filterMap_cons, List.filterMap_nil, List.mem_cons, List.not_mem_nil, or_false] at hd
    rcases hd with rfl | rfl | rfl | rfl | rfl | rfl | rfl | rfl | rfl | rfl | rfl | rfl | rfl | rfl | rfl | rfl | rfl | rfl | rfl | rfl | rfl | rfl | rfl | rfl
    all_goals rfl
  case hloc1 =>
    intro j hj y y' W hk hx
    have hj' : j = 15 ∨ j = 20 ∨ j = 23 ∨ j = 24 := by simpa [or_assoc] using hj
    rcases hj' with rfl | rfl | rfl | rfl
    · simp only [List.forall_mem_cons, List.not_mem_nil, false_imp_iff, implies_true, and_true] at hk
      show _
      simpa only [hk] using hx
    · simp only [List.forall_mem_cons, List.not_mem_nil, false_imp_iff, implies_true, and_true] at hk
      show _
      simpa only [hk] using hx
    · simp only [List.forall_mem_cons, List.not_mem_nil, false_imp_iff, implies_true, and_true] at hk
      show _
      simpa only [hk] using hx
    · simp only [List.forall_mem_cons, List.not_mem_nil, false_imp_iff, implies_true, and_true] at hk
      show _
      simpa only [hk] using hx
  case hmono1 =>
    intro j hj hlast y W W' hg hx
    have hj' : j = 15 ∨ j = 20 ∨ j = 23 ∨ j = 24 := by simpa [or_assoc] using hj
    rcases hj' with rfl | rfl | rfl | rfl
    · exact pass_s (by decide) hg hx
    · exact pass_s (by decide) hg hx
    · exact pass_o hg hx
    · exact absurd hlast (by decide)
  case hdone1 =>
    intro y1 W1 hS hd
    have x24 : (fun (y : Nat → Value) (W : World) => ∃ g, (y 12 = Value.pointer (some ⟨g, 0, none⟩) ∧ w.heap.size < g) ∧ Blk W g 83 #[.string ⟨#[]⟩, .int .i64 F, .int .i64 T, .int .i64 (2 + (n3 : Int)), .int .i64 d1, .int .i64 d2, .int .i64 d3, .int .i64 s1, .int .i64 s2, .int .i64 V, .string SL]) y1 W1 := (hd 24 (by decide)).ex rfl
    obtain ⟨hb1, hx1, _⟩ := hS
    obtain ⟨g1, ⟨e12, hzn0⟩, hz0⟩ := x24
    clear hd
    rw [e12]
    clear e12
    go_upto_region 3 with fail
    refine wp_region_shape [(some 38, []), (some 39, []), (some 40, []), (some 41, []), (some 42, [3]), (some 43, [2, 4]), (some 44, [5]), (some 45, []), (some 46, []), (some 47, [8]), (some 48, [7, 9, 5]), (some 49, []), (some 50, []), (some 51, [12]), (some 52, [11, 13, 10]), (some 53, []), (some 54, []), (some 55, []), (some 56, [17]), (some 57, [16, 18, 14]), (some 58, [15, 19]), (some 59, [20]), (some 60, [0, 1, 6, 10, 14, 21]), (some 13, []), (none, [23, 22, 19, 0, 1, 2, 3, 4, 5, 6, 7, 8, 9, 10, 11, 12, 13, 14, 15, 16, 17, 18, 19, 20, 21, 22, 23])] (fun y => { tmps := #[.slice A N c, .int .i64 J, .int .i64 F, .int .i64 T, .int .i64 V, .pointer (some ⟨w.heap.size, 0, none⟩), undef, undef, undef, undef, .slice none 0 0, .func (.func 104) #[] #[.pointer (some ⟨w.heap.size, 0, none⟩)], .pointer (some ⟨g1, 0, none⟩), y 13, .func (.func 104) #[] #[.pointer (some ⟨w.heap.size, 0, none⟩)], y1 15, y1 16, y1 17, y1 18, y1 19, y1 20, y1 21, y1 22, y1 23, y1 24, y1 25, y1 26, y1 27, y1 28, y1 29, y1 30, y1 31, y1 32, y1 33, y1 34, y1 35, y1 36, y1 37, y 38, y 39, y 40, y 41, y 42, y 43, y 44, y 45, y 46, y 47, y 48, y 49, y 50, y 51, y 52, y 53, y 54, y 55, y 56, y 57, y 58, y 59, y 60, undef, undef, undef, undef, undef, undef, undef, undef, undef, undef, undef, undef, undef, undef], defers := [] }) (fun _ => undef) (fun j => j == 15 || j == 20 || j == 23 || j == 24) [.int .i64 F, .int .i64 T, .slice A N c, .int .i64 J, .int .i64 (J + 1), .int .i64 (n1 : Int), .int .i64 (8 + (n1 : Int)), .func (.func 104) #[] #[.pointer (some ⟨w.heap.size, 0, none⟩)], .int .i64 J, .int .i64 (J + 9), .agg #[.int .i64 d4, .int .i64 d5, .int .i64 d6], .slice A N c, .int .i64 J, .int .i64 (J + 12), .agg #[.int .i64 s3, .int .i64 s4], undef, .slice A N c, .int .i64 J, .int .i64 (J + 14), .int .i64 (n14 : Int), undef, .string BL, .agg #[.string ⟨#[]⟩, .int .i64 F, .int .i64 T, .int .i64 (8 + (n1 : Int)), .int .i64 d4, .int .i64 d5, .int .i64 d6, .int .i64 s3, .int .i64 s4, .int .i64 0, .string BL], undef, undef] (fun j y W => match j with | 15 => ∃ g, y 53 = .slice (some ⟨g, 0, none⟩) 2 2 ∧ Blk W g 9 #[.string ⟨#[]⟩, .string ⟨#[83]⟩] | 20 => ∃ g, y 58 = .pointer (some ⟨g, n14, none⟩) ∧ Blk W g 9 #[.string ⟨#[]⟩, .string ⟨#[83]⟩] | 23 => ∃ g, (y 13 = Value.pointer (some ⟨g, 0, none⟩) ∧ w.heap.size < g ∧ g ≠ g1) ∧ ∃ a b c d e f h i j k l, Blk W g 83 #[a, b, c, d, e, f, h, i, j, k, l] | 24 => ∃ g, (y 13 = Value.pointer (some ⟨g, 0, none⟩) ∧ w.heap.size < g ∧ g ≠ g1) ∧ Blk W g 83 #[.string ⟨#[]⟩, .int .i64 F, .int .i64 T, .int .i64 (8 + (n1 : Int)), .int .i64 d4, .int .i64 d5, .int .i64 d6, .int .i64 s3, .int .i64 s4, .int .i64 0, .string BL] | _ => True) (fun j => match j with | 15 => [53] | 20 => [58] | 23 => [13] | 24 => [13] | _ => []) (Gr) (fun W => Below w.heap.size w W ∧ Blk W w.heap.size 98 #[.slice A N c] ∧ Blk W g1 83 #[.string ⟨#[]⟩, .int .i64 F, .int .i64 T, .int .i64 (2 + (n3 : Int)), .int .i64 d1, .int .i64 d2, .int .i64 d3, .int .i64 s1, .int .i64 s2, .int .i64 V, .string SL] ∧ w.heap.size < g1) (by kernel_rfl) (by kernel_rfl) (by decide +kernel) rfl ⟨hb1.drew, hx1, hz0, hzn0⟩ ?hput2 ?hloc2 ?hmono2 ?hstep2 ?hdone2
    case hput2 =>
      intro d hd y v
      simp only [List.filterMap_cons, List.filterMap_nil, List.mem_cons, List.not_mem_nil, or_false] at hd
      rcases hd with rfl | rfl | rfl | rfl | rfl | rfl | rfl | rfl | rfl | rfl | rfl | rfl | rfl | rfl | rfl | rfl | rfl | rfl | rfl | rfl | rfl | rfl | rfl | rfl
      all_goals rfl
    case hloc2 =>
      intro j hj y y' W hk hx
      have hj' : j = 15 ∨ j = 20 ∨ j = 23 ∨ j = 24 := by simpa [or_assoc] using hj
      rcases hj' with rfl | rfl | rfl | rfl
      · simp only [List.forall_mem_cons, List.not_mem_nil, false_imp_iff, implies_true, and_true] at hk
        show _
        simpa only [hk] using hx
      · simp only [List.forall_mem_cons, List.not_mem_nil, false_imp_iff, implies_true, and_true] at hk
        show _
        simpa only [hk] using hx
      · simp only [List.forall_mem_cons, List.not_mem_nil, false_imp_iff, implies_true, and_true] at hk
        show _
        simpa only [hk] using hx
      · simp only [List.forall_mem_cons, List.not_mem_nil, false_imp_iff, implies_true, and_true] at hk
        show _
        simpa only [hk] using hx
    case hmono2 =>
      intro j hj hlast y W W' hg hx
      have hj' : j = 15 ∨ j = 20 ∨ j = 23 ∨ j = 24 := by simpa [or_assoc] using hj
      rcases hj' with rfl | rfl | rfl | rfl
      · exact pass_s (by decide) hg hx
      · exact pass_s (by decide) hg hx
      · exact pass_o hg hx
      · exact absurd hlast (by decide)
    case hdone2 =>
      intro y2 W2 hS hd
      have x24 : (fun (y : Nat → Value) (W : World) => ∃ g, (y 13 = Value.pointer (some ⟨g, 0, none⟩) ∧ w.heap.size < g ∧ g ≠ g1) ∧ Blk W g 83 #[.string ⟨#[]⟩, .int .i64 F, .int .i64 T, .int .i64 (8 + (n1 : Int)), .int .i64 d4, .int .i64 d5, .int .i64 d6, .int .i64 s3, .int .i64 s4, .int .i64 0, .string BL]) y2 W2 := (hd 24 (by decide)).ex rfl
      obtain ⟨hb5, hx5, hz5, _⟩ := hS
      obtain ⟨g2, ⟨e13, h2n, h21⟩, hq5⟩ := x24
      have hcc := (hx5.cell 0).trans rfl
      clear hd hx5
      have a0 := (hz5.cell 0).trans rfl
      have a1 := (hz5.cell 1).trans rfl
      have a2 := (hz5.cell 2).trans rfl
      have a3 := (hz5.cell 3).trans rfl
      have a4 := (hz5.cell 4).trans rfl
      have a5 := (hz5.cell 5).trans rfl
      have a6 := (hz5.cell 6).trans rfl
      have a7 := (hz5.cell 7).trans rfl
      have a8 := (hz5.cell 8).trans rfl
      have a9 := (hz5.cell 9).trans rfl
      have a10 := (hz5.cell 10).trans rfl
      have b0 := (hq5.cell 0).trans rfl
      have b1 := (hq5.cell 1).trans rfl
      have b2 := (hq5.cell 2).trans rfl
      have b3 := (hq5.cell 3).trans rfl
      have b4 := (hq5.cell 4).trans rfl
      have b5 := (hq5.cell 5).trans rfl
      have b6 := (hq5.cell 6).trans rfl
      have b7 := (hq5.cell 7).trans rfl
      have b8 := (hq5.cell 8).trans rfl
      have b9 := (hq5.cell 9).trans rfl
      have b10 := (hq5.cell 10).trans rfl
      go_wp2_with fail
      refine (c9.out _ hb5).mono ?_
      rintro e W3 ⟨rfl, rfl⟩
      rcases hk4 with rfl | hk4
      · have u1 := hz5.frozen 9
        have u2 := hq5.frozen 9
        have hz6 : Blk ((W3.setCell ⟨g1, 9, none⟩ (.int .i64 0)).setCell ⟨g2, 9, none⟩ (.int .i64 V)) g1 83 #[.string ⟨#[]⟩, .int .i64 F, .int .i64 T, .int .i64 (2 + (n3 : Int)), .int .i64 d1, .int .i64 d2, .int .i64 d3, .int .i64 s1, .int .i64 s2, .int .i64 0, .string SL] := (hz5.set_ 9 (.int .i64 0)).far (p := ⟨g2, 9, none⟩) (fun q => h21 q.symm) (.int .i64 V)
        have hq6 : Blk ((W3.setCell ⟨g1, 9, none⟩ (.int .i64 0)).setCell ⟨g2, 9, none⟩ (.int .i64 V)) g2 83 #[.string ⟨#[]⟩, .int .i64 F, .int .i64 T, .int .i64 (8 + (n1 : Int)), .int .i64 d4, .int .i64 d5, .int .i64 d6, .int .i64 s3, .int .i64 s4, .int .i64 V, .string BL] := (hq5.far (p := ⟨g1, 9, none⟩) (fun q => h21 q) (.int .i64 0)).set_ 9 (.int .i64 V)
        have hb6 : Below w.heap.size w ((W3.setCell ⟨g1, 9, none⟩ (.int .i64 0)).setCell ⟨g2, 9, none⟩ (.int .i64 V)) := (hb5.setCell (p := ⟨g1, 9, none⟩) (Nat.le_of_lt hzn0) (.int .i64 0)).setCell (p := ⟨g2, 9, none⟩) (Nat.le_of_lt h2n) (.int .i64 V)
        have HZ := Lib.hid (And.intro hz6 (And.intro hq6 hb6))
        clear hz6 hq6 hb6
        go_upto_region 6 with fail
        obtain ⟨hz6, hq6, hb6⟩ := HZ.out
        clear HZ u1 u2 a0 b0 a1 b1 a2 b2 a3 b3 a4 b4 a5 b5 a6 b6 a7 b7 a8 b8 a9 b9 a10 b10
        generalize ((W3.setCell ⟨g1, 9, none⟩ (.int .i64 0)).setCell ⟨g2, 9, none⟩ (.int .i64 V)) = V5 at *
        have a0 := (hz6.cell 0).trans rfl
        have a1 := (hz6.cell 1).trans rfl
        have a2 := (hz6.cell 2).trans rfl
        have a3 := (hz6.cell 3).trans rfl
        have a4 := (hz6.cell 4).trans rfl
        have a5 := (hz6.cell 5).trans rfl
        have a6 := (hz6.cell 6).trans rfl
        have a7 := (hz6.cell 7).trans rfl
        have a8 := (hz6.cell 8).trans rfl
        have a9 := (hz6.cell 9).trans rfl
        have a10 := (hz6.cell 10).trans rfl
        have b0 := (hq6.cell 0).trans rfl
        have b1 := (hq6.cell 1).trans rfl
        have b2 := (hq6.cell 2).trans rfl
        have b3 := (hq6.cell 3).trans rfl
        have b4 := (hq6.cell 4).trans rfl
        have b5 := (hq6.cell 5).trans rfl
        have b6 := (hq6.cell 6).trans rfl
        have b7 := (hq6.cell 7).trans rfl
        have b8 := (hq6.cell 8).trans rfl
        have b9 := (hq6.cell 9).trans rfl
        have b10 := (hq6.cell 10).trans rfl
        have HB := Lib.hid hb6
        clear hz6 hq6 hb6 hz5 hq5 hb5
        go_wp2_with fail
        go_ret
        exact ⟨⟨_, rfl, HB.out.size, Blk.new _ _ _⟩, HB.out.alloc HB.out.size _⟩
      · have HB := Lib.hid hb5
        clear hz5 hq5 hb5
        go_wp2_with fail
        go_ret
        refine ⟨⟨_, rfl, HB.out.size, ?_⟩, HB.out.alloc HB.out.size _⟩
        first | (rw [if_neg hk4, if_neg hk4]; exact Blk.new _ _ _) | exact Blk.new _ _ _
    case hstep2 =>
      refine StepsOk.cons (StepOk.known rfl fun y W hS hd K' hK => ?_) ?_
      · skip
        clear hd
        go_simp
        exact hK.out _ _ rfl (Gr.refl _) hS
      refine StepsOk.cons (StepOk.known rfl fun y W hS hd K' hK => ?_) ?_
      · skip
        clear hd
        go_simp
        exact hK.out _ _ rfl (Gr.refl _) hS
      refine StepsOk.cons (StepOk.known rfl fun y W hS hd K' hK => ?_) ?_
      · skip
        clear hd
        have hc := (hS.2.1.cell 0).trans rfl
        go_simp
        exact hK.out _ _ rfl (Gr.refl _) hS
      refine StepsOk.cons (StepOk.known rfl fun y W hS hd K' hK => ?_) ?_
      · skip
        clear hd
        go_simp
        exact hK.out _ _ rfl (Gr.refl _) hS
      refine StepsOk.cons (StepOk.known rfl fun y W hS hd K' hK => ?_) ?_
      · skip
        have e41 : y 41 = .int .i64 J := (hd 3 rfl).val rfl rfl
        clear hd
        go_simp
        exact hK.out _ _ (by first | rfl | (simp only [e41]; done) | (simp only [e41]; rfl)) (Gr.refl _) hS
      refine StepsOk.cons (StepOk.known rfl fun y W hS hd K' hK => ?_) ?_
      · skip
        have e40 : y 40 = .slice A N c := (hd 2 rfl).val rfl rfl
        have e42 : y 42 = .int .i64 (J + 1) := (hd 4 rfl).val rfl rfl
        clear hd
        go_simp
        refine (c5.out _ hS.1).mono ?_
        rintro e W' ⟨rfl, rfl⟩
        go_wp2_with fail
        exact hK.out _ _ (by first | rfl | (simp only [e40, e42]; done) | (simp only [e40, e42]; rfl)) (Gr.refl _) hS
      refine StepsOk.cons (StepOk.known rfl fun y W hS hd K' hK => ?_) ?_
      · skip
        have e43 : y 43 = .int .i64 (n1 : Int) := (hd 5 rfl).val rfl rfl
        clear hd
        go_simp
        exact hK.out _ _ (by first | rfl | (simp only [e43]; done) | (simp only [e43]; rfl)) (Gr.refl _) hS
      refine StepsOk.cons (StepOk.known rfl fun y W hS hd K' hK => ?_) ?_
      · skip
        clear hd
        go_simp
        exact hK.out _ _ rfl (Gr.refl _) hS
      refine StepsOk.cons (StepOk.known rfl fun y W hS hd K' hK => ?_) ?_
      · skip
        clear hd
        go_simp
        exact hK.out _ _ rfl (Gr.refl _) hS
      refine StepsOk.cons (StepOk.known rfl fun y W hS hd K' hK => ?_) ?_
      · skip
        have e46 : y 46 = .int .i64 J := (hd 8 rfl).val rfl rfl
        clear hd
        go_simp
        exact hK.out _ _ (by first | rfl | (simp only [e46]; done) | (simp only [e46]; rfl)) (Gr.refl _) hS
      refine StepsOk.cons (StepOk.known rfl fun y W hS hd K' hK => ?_) ?_
      · skip
        have e43 : y 43 = .int .i64 (n1 : Int) := (hd 5 rfl).val rfl rfl
        have e45 : y 45 = .func (.func 104) #[] #[.pointer (some ⟨w.heap.size, 0, none⟩)] := (hd 7 rfl).val rfl rfl
        have e47 : y 47 = .int .i64 (J + 9) := (hd 9 rfl).val rfl rfl
        clear hd
        go_simp
        refine (c6.out _ hS.1 hS.2.1).mono ?_
        rintro e W' ⟨rfl, hc⟩
        go_wp2_with fail
        obtain ⟨hb, hx, hz, hzn⟩ := hS
        exact hK.out _ _ (by first | rfl | (simp only [e43, e45, e47]; done) | (simp only [e43, e45, e47]; rfl)) (Gr.below hc) ⟨hb.trans (hc.mono hb.size), hx.below hc hx.lt, hz.below hc hz.lt, hzn⟩
      refine StepsOk.cons (StepOk.known rfl fun y W hS hd K' hK => ?_) ?_
      · skip
        clear hd
        have hc := (hS.2.1.cell 0).trans rfl
        go_simp
        exact hK.out _ _ rfl (Gr.refl _) hS
      refine StepsOk.cons (StepOk.known rfl fun y W hS hd K' hK => ?_) ?_
      · skip
        clear hd
        go_simp
        exact hK.out _ _ rfl (Gr.refl _) hS
      refine StepsOk.cons (StepOk.known rfl fun y W hS hd K' hK => ?_) ?_
      · skip
        have e50 : y 50 = .int .i64 J := (hd 12 rfl).val rfl rfl
        clear hd
        go_simp
        exact hK.out _ _ (by first | rfl | (simp only [e50]; done) | (simp only [e50]; rfl)) (Gr.refl _) hS
      refine StepsOk.cons (StepOk.known rfl fun y W hS hd K' hK => ?_) ?_
      · skip
        have e48 : y 48 = .agg #[.int .i64 d4, .int .i64 d5, .int .i64 d6] := (hd 10 rfl).val rfl rfl
        have e49 : y 49 = .slice A N c := (hd 11 rfl).val rfl rfl
        have e51 : y 51 = .int .i64 (J + 12) := (hd 13 rfl).val rfl rfl
        clear hd
        go_simp
        refine (c7.out _ hS.1).mono ?_
        rintro e W' ⟨rfl, hc⟩
        go_wp2_with fail
        obtain ⟨hb, hx, hz, hzn⟩ := hS
        exact hK.out _ _ (by first | rfl | (simp only [e48, e49, e51]; done) | (simp only [e48, e49, e51]; rfl)) (Gr.below hc) ⟨hb.trans (hc.mono hb.size), hx.below hc hx.lt, hz.below hc hz.lt, hzn⟩
      refine StepsOk.cons (StepOk.other rfl fun y W hS hd K' hK => ?_) ?_
      · skip
        clear hd
        obtain ⟨hb, hx, hz, hzn⟩ := hS
        go_simp
        exact hK.out _ _ _ rfl (Gr.alloc W _) ⟨hb.alloc hb.size _, hx.alloc _, hz.alloc _, hzn⟩ (show ∃ g, _ = Value.slice (some ⟨g, 0, none⟩) 2 2 ∧ Blk _ g 9 #[.string ⟨#[]⟩, .string ⟨#[83]⟩] from ⟨_, rfl, Blk.new W _ _⟩)
      refine StepsOk.cons (StepOk.known rfl fun y W hS hd K' hK => ?_) ?_
      · skip
        clear hd
        have hc := (hS.2.1.cell 0).trans rfl
        go_simp
        exact hK.out _ _ rfl (Gr.refl _) hS
      refine StepsOk.cons (StepOk.known rfl fun y W hS hd K' hK => ?_) ?_
      · skip
        clear hd
        go_simp
        exact hK.out _ _ rfl (Gr.refl _) hS
      refine StepsOk.cons (StepOk.known rfl fun y W hS hd K' hK => ?_) ?_
      · skip
        have e55 : y 55 = .int .i64 J := (hd 17 rfl).val rfl rfl
        clear hd
        go_simp
        exact hK.out _ _ (by first | rfl | (simp only [e55]; done) | (simp only [e55]; rfl)) (Gr.refl _) hS
      refine StepsOk.cons (StepOk.known rfl fun y W hS hd K' hK => ?_) ?_
      · skip
        have e52 : y 52 = .agg #[.int .i64 s3, .int .i64 s4] := (hd 14 rfl).val rfl rfl
        have e54 : y 54 = .slice A N c := (hd 16 rfl).val rfl rfl
        have e56 : y 56 = .int .i64 (J + 14) := (hd 18 rfl).val rfl rfl
        clear hd
        go_simp
        refine (c8.out _ hS.1).mono ?_
        rintro e W' ⟨rfl, rfl⟩
        go_wp2_with fail
        exact hK.out _ _ (by first | rfl | (simp only [e52, e54, e56]; done) | (simp only [e52, e54, e56]; rfl)) (Gr.refl _) hS
      refine StepsOk.cons (StepOk.other rfl fun y W hS hd K' hK => ?_) ?_
      · skip
        have x15 : (fun (y : Nat → Value) (W : World) => ∃ g, y 53 = .slice (some ⟨g, 0, none⟩) 2 2 ∧ Blk W g 9 #[.string ⟨#[]⟩, .string ⟨#[83]⟩]) y W := (hd 15 rfl).ex rfl
        have e57 : y 57 = .int .i64 (n14 : Int) := (hd 19 rfl).val rfl rfl
        clear hd
        obtain ⟨g, h1, h3⟩ := x15
        go_simp
        exact hK.out _ _ _ (by first | rfl | (simp only [e57, h1]; done) | (simp only [e57, h1]; rfl)) (Gr.refl _) hS (show ∃ g, _ = Value.pointer (some ⟨g, n14, none⟩) ∧ Blk W g 9 #[.string ⟨#[]⟩, .string ⟨#[83]⟩] from ⟨g, rfl, h3⟩)
      refine StepsOk.cons (StepOk.known rfl fun y W hS hd K' hK => ?_) ?_
      · skip
        have x20 : (fun (y : Nat → Value) (W : World) => ∃ g, y 58 = .pointer (some ⟨g, n14, none⟩) ∧ Blk W g 9 #[.string ⟨#[]⟩, .string ⟨#[83]⟩]) y W := (hd 20 rfl).ex rfl
        clear hd
        obtain ⟨g, h1, h3⟩ := x20
        have k0 := (h3.cell n14).trans LB
        go_simp
        exact hK.out _ _ (by first | rfl | (simp only [h1]; done) | (simp only [h1]; rfl)) (Gr.refl _) hS
      refine StepsOk.cons (StepOk.known rfl fun y W hS hd K' hK => ?_) ?_
      · skip
        have e38 : y 38 = .int .i64 F := (hd 0 rfl).val rfl rfl
        have e39 : y 39 = .int .i64 T := (hd 1 rfl).val rfl rfl
        have e44 : y 44 = .int .i64 (8 + (n1 : Int)) := (hd 6 rfl).val rfl rfl
        have e48 : y 48 = .agg #[.int .i64 d4, .int .i64 d5, .int .i64 d6] := (hd 10 rfl).val rfl rfl
        have e52 : y 52 = .agg #[.int .i64 s3, .int .i64 s4] := (hd 14 rfl).val rfl rfl
        have e59 : y 59 = .string BL := (hd 21 rfl).val rfl rfl
        clear hd
        go_simp
        exact hK.out _ _ (by first | rfl | (simp only [e38, e39, e44, e48, e52, e59]; done) | (simp only [e38, e39, e44, e48, e52, e59]; rfl)) (Gr.refl _) hS
      refine StepsOk.cons (StepOk.other rfl fun y W hS hd K' hK => ?_) ?_
      · skip
        clear hd
        obtain ⟨hb, hx, hz, hzn⟩ := hS
        go_simp
        exact hK.out _ _ _ rfl (Gr.alloc W _) ⟨hb.alloc hb.size _, hx.alloc _, hz.alloc _, hzn⟩ (show ∃ g, (_ = Value.pointer (some ⟨g, 0, none⟩) ∧ w.heap.size < g ∧ g ≠ g1) ∧ ∃ a b c d e f h i j k l, Blk _ g 83 #[a, b, c, d, e, f, h, i, j, k, l] from ⟨W.heap.size, ⟨rfl, hx.lt, fun q => by have := hz.lt; omega⟩, _, _, _, _, _, _, _, _, _, _, _, Blk.new W 83 #[.string ⟨#[]⟩, .int .i64 0, .int .i64 0, .int .i64 0, .int .i64 0, .int .i64 0, .int .i64 0, .int .i64 0, .int .i64 0, .int .i64 0, .string ⟨#[]⟩]⟩)
      refine StepsOk.cons (StepOk.other rfl fun y W hS hd K' hK => ?_) ?_
      · skip
        have e60 : y 60 = .agg #[.string ⟨#[]⟩, .int .i64 F, .int .i64 T, .int .i64 (8 + (n1 : Int)), .int .i64 d4, .int .i64 d5, .int .i64 d6, .int .i64 s3, .int .i64 s4, .int .i64 0, .string BL] := (hd 22 rfl).val rfl rfl
        have x23 : (fun (y : Nat → Value) (W : World) => ∃ g, (y 13 = Value.pointer (some ⟨g, 0, none⟩) ∧ w.heap.size < g ∧ g ≠ g1) ∧ ∃ a b c d e f h i j k l, Blk W g 83 #[a, b, c, d, e, f, h, i, j, k, l]) y W := (hd 23 rfl).ex rfl
        clear hd
        obtain ⟨g, ⟨h1, h2, h2b⟩, a, b, c, d, e, f, h, i, j, k, l, hr0⟩ := x23
        have k0 := (hr0.cell 0).trans rfl
        have k1 := (hr0.cell 1).trans rfl
        have k2 := (hr0.cell 2).trans rfl
        have k3 := (hr0.cell 3).trans rfl
        have k4 := (hr0.cell 4).trans rfl
        have k5 := (hr0.cell 5).trans rfl
        have k6 := (hr0.cell 6).trans rfl
        have k7 := (hr0.cell 7).trans rfl
        have k8 := (hr0.cell 8).trans rfl
        have k9 := (hr0.cell 9).trans rfl
        have k10 := (hr0.cell 10).trans rfl
        have f0 := hr0.frozen 0
        have f1 := hr0.frozen 1
        have f2 := hr0.frozen 2
        have f3 := hr0.frozen 3
        have f4 := hr0.frozen 4
        have f5 := hr0.frozen 5
        have f6 := hr0.frozen 6
        have f7 := hr0.frozen 7
        have f8 := hr0.frozen 8
        have f9 := hr0.frozen 9
        have f10 := hr0.frozen 10
        have hr1 : Blk _ g 83 #[.string ⟨#[]⟩, b, c, d, e, f, h, i, j, k, l] := hr0.set_ 0 (.string ⟨#[]⟩)
        have q1 := Gr.set_ hr0 0 (.string ⟨#[]⟩)
        have hr2 : Blk _ g 83 #[.string ⟨#[]⟩, .int .i64 F, c, d, e, f, h, i, j, k, l] := hr1.set_ 1 (.int .i64 F)
        have q2 := Gr.set_ hr1 1 (.int .i64 F)
        have hr3 : Blk _ g 83 #[.string ⟨#[]⟩, .int .i64 F, .int .i64 T, d, e, f, h, i, j, k, l] := hr2.set_ 2 (.int .i64 T)
        have q3 := Gr.set_ hr2 2 (.int .i64 T)
        have hr4 : Blk _ g 83 #[.string ⟨#[]⟩, .int .i64 F, .int .i64 T, .int .i64 (8 + (n1 : Int)), e, f, h, i, j, k, l] := hr3.set_ 3 (.int .i64 (8 + (n1 : Int)))
        have q4 := Gr.set_ hr3 3 (.int .i64 (8 + (n1 : Int)))
        have hr5 : Blk _ g 83 #[.string ⟨#[]⟩, .int .i64 F, .int .i64 T, .int .i64 (8 + (n1 : Int)), .int .i64 d4, f, h, i, j, k, l] := hr4.set_ 4 (.int .i64 d4)
        have q5 := Gr.set_ hr4 4 (.int .i64 d4)
        have hr6 : Blk _ g 83 #[.string ⟨#[]⟩, .int .i64 F, .int .i64 T, .int .i64 (8 + (n1 : Int)), .int .i64 d4, .int .i64 d5, h, i, j, k, l] := hr5.set_ 5 (.int .i64 d5)
        have q6 := Gr.set_ hr5 5 (.int .i64 d5)
        have hr7 : Blk _ g 83 #[.string ⟨#[]⟩, .int .i64 F, .int .i64 T, .int .i64 (8 + (n1 : Int)), .int .i64 d4, .int .i64 d5, .int .i64 d6, i, j, k, l] := hr6.set_ 6 (.int .i64 d6)
        have q7 := Gr.set_ hr6 6 (.int .i64 d6)
        have hr8 : Blk _ g 83 #[.string ⟨#[]⟩, .int .i64 F, .int .i64 T, .int .i64 (8 + (n1 : Int)), .int .i64 d4, .int .i64 d5, .int .i64 d6, .int .i64 s3, j, k, l] := hr7.set_ 7 (.int .i64 s3)
        have q8 := Gr.set_ hr7 7 (.int .i64 s3)
        have hr9 : Blk _ g 83 #[.string ⟨#[]⟩, .int .i64 F, .int .i64 T, .int .i64 (8 + (n1 : Int)), .int .i64 d4, .int .i64 d5, .int .i64 d6, .int .i64 s3, .int .i64 s4, k, l] := hr8.set_ 8 (.int .i64 s4)
        have q9 := Gr.set_ hr8 8 (.int .i64 s4)
        have hr10 : Blk _ g 83 #[.string ⟨#[]⟩, .int .i64 F, .int .i64 T, .int .i64 (8 + (n1 : Int)), .int .i64 d4, .int .i64 d5, .int .i64 d6, .int .i64 s3, .int .i64 s4, .int .i64 0, l] := hr9.set_ 9 (.int .i64 0)
        have q10 := Gr.set_ hr9 9 (.int .i64 0)
        have hr11 : Blk _ g 83 #[.string ⟨#[]⟩, .int .i64 F, .int .i64 T, .int .i64 (8 + (n1 : Int)), .int .i64 d4, .int .i64 d5, .int .i64 d6, .int .i64 s3, .int .i64 s4, .int .i64 0, .string BL] := hr10.set_ 10 (.string BL)
        have q11 := Gr.set_ hr10 10 (.string BL)
        have hG := q1.trans (q2.trans (q3.trans (q4.trans (q5.trans (q6.trans (q7.trans (q8.trans (q9.trans (q10.trans (q11))))))))))
        obtain ⟨hb, hx, hz, hzn⟩ := hS
        have hb2 := (((((((((((hb.setCell (p := ⟨g, 0, none⟩) (Nat.le_of_lt h2) (.string ⟨#[]⟩)).setCell (p := ⟨g, 1, none⟩) (Nat.le_of_lt h2) (.int .i64 F)).setCell (p := ⟨g, 2, none⟩) (Nat.le_of_lt h2) (.int .i64 T)).setCell (p := ⟨g, 3, none⟩) (Nat.le_of_lt h2) (.int .i64 (8 + (n1 : Int)))).setCell (p := ⟨g, 4, none⟩) (Nat.le_of_lt h2) (.int .i64 d4)).setCell (p := ⟨g, 5, none⟩) (Nat.le_of_lt h2) (.int .i64 d5)).setCell (p := ⟨g, 6, none⟩) (Nat.le_of_lt h2) (.int .i64 d6)).setCell (p := ⟨g, 7, none⟩) (Nat.le_of_lt h2) (.int .i64 s3)).setCell (p := ⟨g, 8, none⟩) (Nat.le_of_lt h2) (.int .i64 s4)).setCell (p := ⟨g, 9, none⟩) (Nat.le_of_lt h2) (.int .i64 0)).setCell (p := ⟨g, 10, none⟩) (Nat.le_of_lt h2) (.string BL))
        have HX := Lib.hid hx
        have hz2 := (((((((((((hz.far (p := ⟨g, 0, none⟩) (fun q => h2b q.symm) (.string ⟨#[]⟩)).far (p := ⟨g, 1, none⟩) (fun q => h2b q.symm) (.int .i64 F)).far (p := ⟨g, 2, none⟩) (fun q => h2b q.symm) (.int .i64 T)).far (p := ⟨g, 3, none⟩) (fun q => h2b q.symm) (.int .i64 (8 + (n1 : Int)))).far (p := ⟨g, 4, none⟩) (fun q => h2b q.symm) (.int .i64 d4)).far (p := ⟨g, 5, none⟩) (fun q => h2b q.symm) (.int .i64 d5)).far (p := ⟨g, 6, none⟩) (fun q => h2b q.symm) (.int .i64 d6)).far (p := ⟨g, 7, none⟩) (fun q => h2b q.symm) (.int .i64 s3)).far (p := ⟨g, 8, none⟩) (fun q => h2b q.symm) (.int .i64 s4)).far (p := ⟨g, 9, none⟩) (fun q => h2b q.symm) (.int .i64 0)).far (p := ⟨g, 10, none⟩) (fun q => h2b q.symm) (.string BL))
        have HH := Lib.hid (And.intro hr11 (And.intro hG hb2))
        have HZ := Lib.hid hz2
        clear hr0 hr1 hr2 hr3 hr4 hr5 hr6 hr7 hr8 hr9 hr10 hr11 q1 q2 q3 q4 q5 q6 q7 q8 q9 q10 q11 hG hb2 hb hx hz hz2
        go_simp
        exact hK.out undef _ _ (by first | rfl | (simp only [e60, h1]; done) | (simp only [e60, h1]; rfl)) HH.out.2.1 ⟨HH.out.2.2, HH.out.2.1.far _ _ _ (by decide) HX.out, HZ.out, hzn⟩ (show ∃ g, (y 13 = Value.pointer (some ⟨g, 0, none⟩) ∧ w.heap.size < g ∧ g ≠ g1) ∧ Blk _ g 83 #[.string ⟨#[]⟩, .int .i64 F, .int .i64 T, .int .i64 (8 + (n1 : Int)), .int .i64 d4, .int .i64 d5, .int .i64 d6, .int .i64 s3, .int .i64 s4, .int .i64 0, .string BL] from ⟨g, ⟨h1, h2, h2b⟩, HH.out.1⟩)
      exact StepsOk.nil
    
  case hstep1 =>
    refine StepsOk.cons (StepOk.known rfl fun y W hS hd K' hK => ?_) ?_
    · skip
      clear hd
      go_simp
      exact hK.out _ _ rfl (Gr.refl _) hS
    refine StepsOk.cons (StepOk.known rfl fun y W hS hd K' hK => ?_) ?_
    · skip
      clear hd
      go_simp
      exact hK.out _ _ rfl (Gr.refl _) hS
    refine StepsOk.cons (StepOk.known rfl fun y W hS hd K' hK => ?_) ?_
    · skip
      clear hd
      have hc := (hS.2.1.cell 0).trans rfl
      go_simp
      exact hK.out _ _ rfl (Gr.refl _) hS
    refine StepsOk.cons (StepOk.known rfl fun y W hS hd K' hK => ?_) ?_
    · skip
      clear hd
      go_simp
      exact hK.out _ _ rfl (Gr.refl _) hS
    refine StepsOk.cons (StepOk.known rfl fun y W hS hd K' hK => ?_) ?_
    · skip
      have e17 : y 17 = .slice A N c := (hd 2 rfl).val rfl rfl
      have e18 : y 18 = .int .i64 J := (hd 3 rfl).val rfl rfl
      clear hd
      go_simp
      refine (c1.out _ hS.1).mono ?_
      rintro e W' ⟨rfl, rfl⟩
      go_wp2_with fail
      exact hK.out _ _ (by first | rfl | (simp only [e17, e18]; done) | (simp only [e17, e18]; rfl)) (Gr.refl _) hS
    refine StepsOk.cons (StepOk.known rfl fun y W hS hd K' hK => ?_) ?_
    · skip
      have e19 : y 19 = .int .i64 (n3 : Int) := (hd 4 rfl).val rfl rfl
      clear hd
      go_simp
      exact hK.out _ _ (by first | rfl | (simp only [e19]; done) | (simp only [e19]; rfl)) (Gr.refl _) hS
    refine StepsOk.cons (StepOk.known rfl fun y W hS hd K' hK => ?_) ?_
    · skip
      clear hd
      go_simp
      exact hK.out _ _ rfl (Gr.refl _) hS
    refine StepsOk.cons (StepOk.known rfl fun y W hS hd K' hK => ?_) ?_
    · skip
      clear hd
      go_simp
      exact hK.out _ _ rfl (Gr.refl _) hS
    refine StepsOk.cons (StepOk.known rfl fun y W hS hd K' hK => ?_) ?_
    · skip
      have e22 : y 22 = .int .i64 J := (hd 7 rfl).val rfl rfl
      clear hd
      go_simp
      exact hK.out _ _ (by first | rfl | (simp only [e22]; done) | (simp only [e22]; rfl)) (Gr.refl _) hS
    refine StepsOk.cons (StepOk.known rfl fun y W hS hd K' hK => ?_) ?_
    · skip
      have e19 : y 19 = .int .i64 (n3 : Int) := (hd 4 rfl).val rfl rfl
      have e21 : y 21 = .func (.func 104) #[] #[.pointer (some ⟨w.heap.size, 0, none⟩)] := (hd 6 rfl).val rfl rfl
      have e23 : y 23 = .int .i64 (J + 3) := (hd 8 rfl).val rfl rfl
      clear hd
      go_simp
      refine (c2.out _ hS.1 hS.2.1).mono ?_
      rintro e W' ⟨rfl, hc⟩
      go_wp2_with fail
      obtain ⟨hb, hx, ht⟩ := hS
      exact hK.out _ _ (by first | rfl | (simp only [e19, e21, e23]; done) | (simp only [e19, e21, e23]; rfl)) (Gr.below hc) ⟨hb.trans (hc.mono hb.size), hx.below hc hx.lt, ht⟩
    refine StepsOk.cons (StepOk.known rfl fun y W hS hd K' hK => ?_) ?_
    · skip
      clear hd
      have hc := (hS.2.1.cell 0).trans rfl
      go_simp
      exact hK.out _ _ rfl (Gr.refl _) hS
    refine StepsOk.cons (StepOk.known rfl fun y W hS hd K' hK => ?_) ?_
    · skip
      clear hd
      go_simp
      exact hK.out _ _ rfl (Gr.refl _) hS
    refine StepsOk.cons (StepOk.known rfl fun y W hS hd K' hK => ?_) ?_
    · skip
      have e26 : y 26 = .int .i64 J := (hd 11 rfl).val rfl rfl
      clear hd
      go_simp
      exact hK.out _ _ (by first | rfl | (simp only [e26]; done) | (simp only [e26]; rfl)) (Gr.refl _) hS
    refine StepsOk.cons (StepOk.known rfl fun y W hS hd K' hK => ?_) ?_
    · skip
      have e24 : y 24 = .agg #[.int .i64 d1, .int .i64 d2, .int .i64 d3] := (hd 9 rfl).val rfl rfl
      have e25 : y 25 = .slice A N c := (hd 10 rfl).val rfl rfl
      have e27 : y 27 = .int .i64 (J + 6) := (hd 12 rfl).val rfl rfl
      clear hd
      go_simp
      refine (c3.out _ hS.1).mono ?_
      rintro e W' ⟨rfl, hc⟩
      go_wp2_with fail
      obtain ⟨hb, hx, ht⟩ := hS
      exact hK.out _ _ (by first | rfl | (simp only [e24, e25, e27]; done) | (simp only [e24, e25, e27]; rfl)) (Gr.below hc) ⟨hb.trans (hc.mono hb.size), hx.below hc hx.lt, ht⟩
    refine StepsOk.cons (StepOk.known rfl fun y W hS hd K' hK => ?_) ?_
    · skip
      clear hd
      go_simp
      exact hK.out _ _ rfl (Gr.refl _) hS
    refine StepsOk.cons (StepOk.other rfl fun y W hS hd K' hK => ?_) ?_
    · skip
      clear hd
      obtain ⟨hb, hx, ht⟩ := hS
      go_simp
      exact hK.out _ _ _ rfl (Gr.alloc W _) ⟨hb.alloc hb.size _, hx.alloc _, ht⟩ (show ∃ g, _ = Value.slice (some ⟨g, 0, none⟩) 3 3 ∧ Blk _ g 9 #[.string ⟨#[83]⟩, .string ⟨#[68]⟩, .string ⟨#[68, 84]⟩] from ⟨_, rfl, Blk.new W _ _⟩)
    refine StepsOk.cons (StepOk.known rfl fun y W hS hd K' hK => ?_) ?_
    · skip
      clear hd
      have hc := (hS.2.1.cell 0).trans rfl
      go_simp
      exact hK.out _ _ rfl (Gr.refl _) hS
    refine StepsOk.cons (StepOk.known rfl fun y W hS hd K' hK => ?_) ?_
    · skip
      clear hd
      go_simp
      exact hK.out _ _ rfl (Gr.refl _) hS
    refine StepsOk.cons (StepOk.known rfl fun y W hS hd K' hK => ?_) ?_
    · skip
      have e32 : y 32 = .int .i64 J := (hd 17 rfl).val rfl rfl
      clear hd
      go_simp
      exact hK.out _ _ (by first | rfl | (simp only [e32]; done) | (simp only [e32]; rfl)) (Gr.refl _) hS
    refine StepsOk.cons (StepOk.known rfl fun y W hS hd K' hK => ?_) ?_
    · skip
      have e28 : y 28 = .agg #[.int .i64 s1, .int .i64 s2] := (hd 13 rfl).val rfl rfl
      have e31 : y 31 = .slice A N c := (hd 16 rfl).val rfl rfl
      have e33 : y 33 = .int .i64 (J + 8) := (hd 18 rfl).val rfl rfl
      clear hd
      go_simp
      refine (c4.out _ hS.1).mono ?_
      rintro e W' ⟨rfl, rfl⟩
      go_wp2_with fail
      exact hK.out _ _ (by first | rfl | (simp only [e28, e31, e33]; done) | (simp only [e28, e31, e33]; rfl)) (Gr.refl _) hS
    refine StepsOk.cons (StepOk.other rfl fun y W hS hd K' hK => ?_) ?_
    · skip
      have x15 : (fun (y : Nat → Value) (W : World) => ∃ g, y 30 = .slice (some ⟨g, 0, none⟩) 3 3 ∧ Blk W g 9 #[.string ⟨#[83]⟩, .string ⟨#[68]⟩, .string ⟨#[68, 84]⟩]) y W := (hd 15 rfl).ex rfl
      have e34 : y 34 = .int .i64 (n8 : Int) := (hd 19 rfl).val rfl rfl
      clear hd
      obtain ⟨g, h1, h3⟩ := x15
      go_simp
      exact hK.out _ _ _ (by first | rfl | (simp only [e34, h1]; done) | (simp only [e34, h1]; rfl)) (Gr.refl _) hS (show ∃ g, _ = Value.pointer (some ⟨g, n8, none⟩) ∧ Blk W g 9 #[.string ⟨#[83]⟩, .string ⟨#[68]⟩, .string ⟨#[68, 84]⟩] from ⟨g, rfl, h3⟩)
    refine StepsOk.cons (StepOk.known rfl fun y W hS hd K' hK => ?_) ?_
    · skip
      have x20 : (fun (y : Nat → Value) (W : World) => ∃ g, y 35 = .pointer (some ⟨g, n8, none⟩) ∧ Blk W g 9 #[.string ⟨#[83]⟩, .string ⟨#[68]⟩, .string ⟨#[68, 84]⟩]) y W := (hd 20 rfl).ex rfl
      clear hd
      obtain ⟨g, h1, h3⟩ := x20
      have k0 := (h3.cell n8).trans LA
      go_simp
      exact hK.out _ _ (by first | rfl | (simp only [h1]; done) | (simp only [h1]; rfl)) (Gr.refl _) hS
    refine StepsOk.cons (StepOk.known rfl fun y W hS hd K' hK => ?_) ?_
    · skip
      have e15 : y 15 = .int .i64 F := (hd 0 rfl).val rfl rfl
      have e16 : y 16 = .int .i64 T := (hd 1 rfl).val rfl rfl
      have e20 : y 20 = .int .i64 (2 + (n3 : Int)) := (hd 5 rfl).val rfl rfl
      have e24 : y 24 = .agg #[.int .i64 d1, .int .i64 d2, .int .i64 d3] := (hd 9 rfl).val rfl rfl
      have e28 : y 28 = .agg #[.int .i64 s1, .int .i64 s2] := (hd 13 rfl).val rfl rfl
      have e29 : y 29 = .int .i64 V := (hd 14 rfl).val rfl rfl
      have e36 : y 36 = .string SL := (hd 21 rfl).val rfl rfl
      clear hd
      go_simp
      exact hK.out _ _ (by first | rfl | (simp only [e15, e16, e20, e24, e28, e29, e36]; done) | (simp only [e15, e16, e20, e24, e28, e29, e36]; rfl)) (Gr.refl _) hS
    refine StepsOk.cons (StepOk.other rfl fun y W hS hd K' hK => ?_) ?_
    · skip
      clear hd
      obtain ⟨hb, hx, ht⟩ := hS
      go_simp
      exact hK.out _ _ _ rfl (Gr.alloc W _) ⟨hb.alloc hb.size _, hx.alloc _, ht⟩ (show ∃ g, (_ = Value.pointer (some ⟨g, 0, none⟩) ∧ w.heap.size < g) ∧ ∃ a b c d e f h i j k l, Blk _ g 83 #[a, b, c, d, e, f, h, i, j, k, l] from ⟨W.heap.size, ⟨rfl, hx.lt⟩, _, _, _, _, _, _, _, _, _, _, _, Blk.new W 83 #[.string ⟨#[]⟩, .int .i64 0, .int .i64 0, .int .i64 0, .int .i64 0, .int .i64 0, .int .i64 0, .int .i64 0, .int .i64 0, .int .i64 0, .string ⟨#[]⟩]⟩)
    refine StepsOk.cons (StepOk.other rfl fun y W hS hd K' hK => ?_) ?_
    · skip
      have e37 : y 37 = .agg #[.string ⟨#[]⟩, .int .i64 F, .int .i64 T, .int .i64 (2 + (n3 : Int)), .int .i64 d1, .int .i64 d2, .int .i64 d3, .int .i64 s1, .int .i64 s2, .int .i64 V, .string SL] := (hd 22 rfl).val rfl rfl
      have x23 : (fun (y : Nat → Value) (W : World) => ∃ g, (y 12 = Value.pointer (some ⟨g, 0, none⟩) ∧ w.heap.size < g) ∧ ∃ a b c d e f h i j k l, Blk W g 83 #[a, b, c, d, e, f, h, i, j, k, l]) y W := (hd 23 rfl).ex rfl
      clear hd
      obtain ⟨g, ⟨h1, h2⟩, a, b, c, d, e, f, h, i, j, k, l, hr0⟩ := x23
      have k0 := (hr0.cell 0).trans rfl
      have k1 := (hr0.cell 1).trans rfl
      have k2 := (hr0.cell 2).trans rfl
      have k3 := (hr0.cell 3).trans rfl
      have k4 := (hr0.cell 4).trans rfl
      have k5 := (hr0.cell 5).trans rfl
      have k6 := (hr0.cell 6).trans rfl
      have k7 := (hr0.cell 7).trans rfl
      have k8 := (hr0.cell 8).trans rfl
      have k9 := (hr0.cell 9).trans rfl
      have k10 := (hr0.cell 10).trans rfl
      have f0 := hr0.frozen 0
      have f1 := hr0.frozen 1
      have f2 := hr0.frozen 2
      have f3 := hr0.frozen 3
      have f4 := hr0.frozen 4
      have f5 := hr0.frozen 5
      have f6 := hr0.frozen 6
      have f7 := hr0.frozen 7
      have f8 := hr0.frozen 8
      have f9 := hr0.frozen 9
      have f10 := hr0.frozen 10
      have hr1 : Blk _ g 83 #[.string ⟨#[]⟩, b, c, d, e, f, h, i, j, k, l] := hr0.set_ 0 (.string ⟨#[]⟩)
      have q1 := Gr.set_ hr0 0 (.string ⟨#[]⟩)
      have hr2 : Blk _ g 83 #[.string ⟨#[]⟩, .int .i64 F, c, d, e, f, h, i, j, k, l] := hr1.set_ 1 (.int .i64 F)
      have q2 := Gr.set_ hr1 1 (.int .i64 F)
      have hr3 : Blk _ g 83 #[.string ⟨#[]⟩, .int .i64 F, .int .i64 T, d, e, f, h, i, j, k, l] := hr2.set_ 2 (.int .i64 T)
      have q3 := Gr.set_ hr2 2 (.int .i64 T)
      have hr4 : Blk _ g 83 #[.string ⟨#[]⟩, .int .i64 F, .int .i64 T, .int .i64 (2 + (n3 : Int)), e, f, h, i, j, k, l] := hr3.set_ 3 (.int .i64 (2 + (n3 : Int)))
      have q4 := Gr.set_ hr3 3 (.int .i64 (2 + (n3 : Int)))
      have hr5 : Blk _ g 83 #[.string ⟨#[]⟩, .int .i64 F, .int .i64 T, .int .i64 (2 + (n3 : Int)), .int .i64 d1, f, h, i, j, k, l] := hr4.set_ 4 (.int .i64 d1)
      have q5 := Gr.set_ hr4 4 (.int .i64 d1)
      have hr6 : Blk _ g 83 #[.string ⟨#[]⟩, .int .i64 F, .int .i64 T, .int .i64 (2 + (n3 : Int)), .int .i64 d1, .int .i64 d2, h, i, j, k, l] := hr5.set_ 5 (.int .i64 d2)
      have q6 := Gr.set_ hr5 5 (.int .i64 d2)
      have hr7 : Blk _ g 83 #[.string ⟨#[]⟩, .int .i64 F, .int .i64 T, .int .i64 (2 + (n3 : Int)), .int .i64 d1, .int .i64 d2, .int .i64 d3, i, j, k, l] := hr6.set_ 6 (.int .i64 d3)
      have q7 := Gr.set_ hr6 6 (.int .i64 d3)
      have hr8 : Blk _ g 83 #[.string ⟨#[]⟩, .int .i64 F, .int .i64 T, .int .i64 (2 + (n3 : Int)), .int .i64 d1, .int .i64 d2, .int .i64 d3, .int .i64 s1, j, k, l] := hr7.set_ 7 (.int .i64 s1)
      have q8 := Gr.set_ hr7 7 (.int .i64 s1)
      have hr9 : Blk _ g 83 #[.string ⟨#[]⟩, .int .i64 F, .int .i64 T, .int .i64 (2 + (n3 : Int)), .int .i64 d1, .int .i64 d2, .int .i64 d3, .int .i64 s1, .int .i64 s2, k, l] := hr8.set_ 8 (.int .i64 s2)
      have q9 := Gr.set_ hr8 8 (.int .i64 s2)
      have hr10 : Blk _ g 83 #[.string ⟨#[]⟩, .int .i64 F, .int .i64 T, .int .i64 (2 + (n3 : Int)), .int .i64 d1, .int .i64 d2, .int .i64 d3, .int .i64 s1, .int .i64 s2, .int .i64 V, l] := hr9.set_ 9 (.int .i64 V)
      have q10 := Gr.set_ hr9 9 (.int .i64 V)
      have hr11 : Blk _ g 83 #[.string ⟨#[]⟩, .int .i64 F, .int .i64 T, .int .i64 (2 + (n3 : Int)), .int .i64 d1, .int .i64 d2, .int .i64 d3, .int .i64 s1, .int .i64 s2, .int .i64 V, .string SL] := hr10.set_ 10 (.string SL)
      have q11 := Gr.set_ hr10 10 (.string SL)
      have hG := q1.trans (q2.trans (q3.trans (q4.trans (q5.trans (q6.trans (q7.trans (q8.trans (q9.trans (q10.trans (q11))))))))))
      obtain ⟨hb, hx, ht⟩ := hS
      have hb2 := (((((((((((hb.setCell (p := ⟨g, 0, none⟩) (Nat.le_of_lt h2) (.string ⟨#[]⟩)).setCell (p := ⟨g, 1, none⟩) (Nat.le_of_lt h2) (.int .i64 F)).setCell (p := ⟨g, 2, none⟩) (Nat.le_of_lt h2) (.int .i64 T)).setCell (p := ⟨g, 3, none⟩) (Nat.le_of_lt h2) (.int .i64 (2 + (n3 : Int)))).setCell (p := ⟨g, 4, none⟩) (Nat.le_of_lt h2) (.int .i64 d1)).setCell (p := ⟨g, 5, none⟩) (Nat.le_of_lt h2) (.int .i64 d2)).setCell (p := ⟨g, 6, none⟩) (Nat.le_of_lt h2) (.int .i64 d3)).setCell (p := ⟨g, 7, none⟩) (Nat.le_of_lt h2) (.int .i64 s1)).setCell (p := ⟨g, 8, none⟩) (Nat.le_of_lt h2) (.int .i64 s2)).setCell (p := ⟨g, 9, none⟩) (Nat.le_of_lt h2) (.int .i64 V)).setCell (p := ⟨g, 10, none⟩) (Nat.le_of_lt h2) (.string SL))
      have HX := Lib.hid hx
      have HH := Lib.hid (And.intro hr11 (And.intro hG hb2))
      clear hr0 hr1 hr2 hr3 hr4 hr5 hr6 hr7 hr8 hr9 hr10 hr11 q1 q2 q3 q4 q5 q6 q7 q8 q9 q10 q11 hG hb2 hb hx
      go_simp
      exact hK.out undef _ _ (by first | rfl | (simp only [e37, h1]; done) | (simp only [e37, h1]; rfl)) HH.out.2.1 ⟨HH.out.2.2, HH.out.2.1.far _ _ _ (by decide) HX.out, ht⟩ (show ∃ g, (y 12 = Value.pointer (some ⟨g, 0, none⟩) ∧ w.heap.size < g) ∧ Blk _ g 83 #[.string ⟨#[]⟩, .int .i64 F, .int .i64 T, .int .i64 (2 + (n3 : Int)), .int .i64 d1, .int .i64 d2, .int .i64 d3, .int .i64 s1, .int .i64 s2, .int .i64 V, .string SL] from ⟨g, ⟨h1, h2⟩, HH.out.1⟩)
    exact StepsOk.nil
end Go.Proofs.YtlideagcmhlkeaaDoor

/- The walk of Draft.Made (chapter 17): the rules that a draft makes. -/
namespace Go.Proofs.YtlideagcmhlkeaaDoor
open Go.RowKit Go.Lib
set_option linter.unusedVariables false

def r17 (L : List RV) : List Value := L.flatMap RV.cells
theorem r17_app (L M : List RV) : r17 (L ++ M) = r17 L ++ r17 M := by unfold r17; rw [List.flatMap_append]
theorem r17_name (nm : ByteArray) : ∀ (L : List RV) (k : Nat) (r : RV), L[k]? = some r → r17 (L.set k (P17.named nm r)) = (r17 L).set (k * 11) (.string nm)
  | [], k, r, h => by simp at h
  | a :: L, 0, r, h => by
    rw [List.getElem?_cons_zero] at h
    injection h with h
    subst h
    rfl
  | a :: L, k + 1, r, h => by
    rw [List.getElem?_cons_succ] at h
    have ih := r17_name nm L k r h
    show a.cells ++ r17 (L.set k _) = (a.cells ++ r17 L).set ((k + 1) * 11) _
    rw [ih, List.set_append_right _ _ (by show 11 ≤ _; omega)]
    congr 2
    show _ = (k + 1) * 11 - 11
    omega
theorem flat17 : ∀ (L : List RV) (k : Nat) (r : RV), L[k]? = some r → (r17 L)[k * 11]? = some (.string r.name)
  | [], k, r, h => by simp at h
  | a :: L, 0, r, h => by
    rw [List.getElem?_cons_zero] at h
    injection h with h
    subst h
    rfl
  | a :: L, k + 1, r, h => by
    rw [List.getElem?_cons_succ] at h
    show (a.cells ++ r17 L)[(k + 1) * 11]? = _
    rw [List.getElem?_append_right (by show 11 ≤ _; omega)]
    have ih := flat17 L k r h
    rw [show (k + 1) * 11 - a.cells.length = k * 11 from by show (k + 1) * 11 - 11 = k * 11; omega]
    exact ih
/-- the rules of which the first k have their name -/
def mix17 (nm : ByteArray) (L : List RV) (k : Nat) : List RV := (L.take k).map (P17.named nm) ++ L.drop k
theorem mix_zero (nm : ByteArray) (L : List RV) : mix17 nm L 0 = L := by unfold mix17; simp
theorem mix_all (nm : ByteArray) (L : List RV) : mix17 nm L L.length = L.map (P17.named nm) := by unfold mix17; simp
theorem mix_at (nm : ByteArray) (L : List RV) (k : Nat) (r : RV) (h : L[k]? = some r) : (mix17 nm L k)[k]? = some r := by
  have hk := (List.getElem?_eq_some_iff.mp h).1
  unfold mix17
  rw [List.getElem?_append_right (by rw [List.length_map, List.length_take]; omega), List.length_map, List.length_take, List.getElem?_drop]
  rw [show k + (k - min k L.length) = k by omega]
  exact h
theorem mix_succ (nm : ByteArray) (L : List RV) (k : Nat) (r : RV) (h : L[k]? = some r) : mix17 nm L (k + 1) = (mix17 nm L k).set k (P17.named nm r) := by
  have hk := (List.getElem?_eq_some_iff.mp h).1
  have hl : ((L.take k).map (P17.named nm)).length = k := by rw [List.length_map, List.length_take]; omega
  unfold mix17
  rw [List.set_append_right _ _ (by omega), hl, Nat.sub_self, List.take_add_one, h, List.map_append, List.append_assoc]
  congr 1
  rw [List.drop_eq_getElem_cons hk, (List.getElem?_eq_some_iff.mp h).2]
  rfl
theorem infoR17 : (Tryd.prog.info? 83).map (fun i => (i.zero, i.size, i.bytes)) = some (some (.agg #[.string ⟨#[]⟩, .int .i64 0, .int .i64 0, .int .i64 0, .int .i64 0, .int .i64 0, .int .i64 0, .int .i64 0, .int .i64 0, .int .i64 0, .string ⟨#[]⟩]), 11, 104) := by kernel_rfl
theorem cells_one (r : RV) : ∀ u ∈ r.cells, u.oneCell' = true := by
  intro u hu
  unfold RV.cells at hu
  simp only [List.mem_cons, List.not_mem_nil, or_false] at hu
  rcases hu with rfl | rfl | rfl | rfl | rfl | rfl | rfl | rfl | rfl | rfl | rfl <;> rfl
theorem cells_one2 (r s : RV) : ∀ u ∈ r.cells ++ s.cells, u.oneCell' = true := by
  intro u hu
  rcases List.mem_append.1 hu with h | h
  · exact cells_one r u h
  · exact cells_one s u h
theorem sv_at (k : Nat) (h : k < 5) : (#[.int .i64 3600, .int .i64 3600, .int .i64 1800, .int .i64 7200, .int .i64 (-3600)] : Array Value)[k]? = some (.int .i64 (P17.svOf k)) := by
  match k, h with
  | 0, _ | 1, _ | 2, _ | 3, _ | 4, _ => rfl
set_option maxRecDepth 100000 in
set_option maxHeartbeats 16000000 in
theorem made17_any (A : Option Addr) (c : Nat) (D : List Int) (nm : ByteArray) (w : World) (hD : Dr w A D) :
    Calls Tryd.prog 44 #[.slice A D.length c, .string nm] w fun e w' => (∃ v, e = .returned v ∧ w'.ownsRow w.heap.size 83 11 v (P17.made D nm).length (r17 (P17.made D nm))) ∧ Below w.heap.size w w' := by
  have a0 : Hid (∀ W, Below w.heap.size w W → Calls Tryd.prog 78 #[.slice A D.length c, .int .i64 0, .int .i64 5] W fun e w' => e = .returned (.int .i64 (P17.at_ D 0 5 : Int)) ∧ w' = W) := fun W h => at17_at A c D 0 5 0 rfl W (by decide) (by decide) (hD.below h)
  have a1 : Hid (∀ W, Below w.heap.size w W → Calls Tryd.prog 78 #[.slice A D.length c, .int .i64 1, .int .i64 80] W fun e w' => e = .returned (.int .i64 (P17.at_ D 1 80 : Int)) ∧ w' = W) := fun W h => at17_at A c D 1 80 1 rfl W (by decide) (by decide) (hD.below h)
  have a2 : Hid (∀ W, Below w.heap.size w W → Calls Tryd.prog 78 #[.slice A D.length c, .int .i64 2, .int .i64 3] W fun e w' => e = .returned (.int .i64 (P17.at_ D 2 3 : Int)) ∧ w' = W) := fun W h => at17_at A c D 2 3 2 rfl W (by decide) (by decide) (hD.below h)
  have a3 : Hid (∀ W, Below w.heap.size w W → Calls Tryd.prog 78 #[.slice A D.length c, .int .i64 3, .int .i64 28] W fun e w' => e = .returned (.int .i64 (P17.at_ D 3 28 : Int)) ∧ w' = W) := fun W h => at17_at A c D 3 28 3 rfl W (by decide) (by decide) (hD.below h)
  have a5 : Hid (∀ W, Below w.heap.size w W → Calls Tryd.prog 78 #[.slice A D.length c, .int .i64 5, .int .i64 2] W fun e w' => e = .returned (.int .i64 (P17.at_ D 5 2 : Int)) ∧ w' = W) := fun W h => at17_at A c D 5 2 5 rfl W (by decide) (by decide) (hD.below h)
  have a6 : Hid (∀ W, Below w.heap.size w W → Calls Tryd.prog 78 #[.slice A D.length c, .int .i64 6, .int .i64 12] W fun e w' => e = .returned (.int .i64 (P17.at_ D 6 12 : Int)) ∧ w' = W) := fun W h => at17_at A c D 6 12 6 rfl W (by decide) (by decide) (hD.below h)
  have a8 : Hid (∀ W, Below w.heap.size w W → Calls Tryd.prog 78 #[.slice A D.length c, .int .i64 8, .int .i64 5] W fun e w' => e = .returned (.int .i64 (P17.at_ D 8 5 : Int)) ∧ w' = W) := fun W h => at17_at A c D 8 5 8 rfl W (by decide) (by decide) (hD.below h)
  have a9 : Hid (∀ W, Below w.heap.size w W → Calls Tryd.prog 78 #[.slice A D.length c, .int .i64 9, .int .i64 6] W fun e w' => e = .returned (.int .i64 (P17.at_ D 9 6 : Int)) ∧ w' = W) := fun W h => at17_at A c D 9 6 9 rfl W (by decide) (by decide) (hD.below h)
  have a10 : Hid (∀ W, Below w.heap.size w W → Calls Tryd.prog 78 #[.slice A D.length c, .int .i64 10, .int .i64 3] W fun e w' => e = .returned (.int .i64 (P17.at_ D 10 3 : Int)) ∧ w' = W) := fun W h => at17_at A c D 10 3 10 rfl W (by decide) (by decide) (hD.below h)
  have ck : Hid (∀ W, Below w.heap.size w W → Calls Tryd.prog 79 #[.slice A D.length c, .int .i64 4] W fun e w' => e = .returned (.agg #[.int .i64 ((P17.at_ D 4 49 : Int) * 1800), .int .i64 (P17.at_ D 5 3 : Int)]) ∧ Below W.heap.size W w') := fun W h => clock17_any A c D 4 4 rfl W (by decide) (hD.below h)
  have p7 : Hid (∀ F T V W, Below w.heap.size w W → Calls Tryd.prog 80 #[.slice A D.length c, .int .i64 7, .int .i64 F, .int .i64 T, .int .i64 V] W fun e w' => (∃ g, e = .returned (.slice (some ⟨g, 0, none⟩) 2 2) ∧ W.heap.size ≤ g ∧ Blk w' g 83 ((P17.pairA D 7 F T V).cells ++ (P17.pairB D 7 F T V).cells).toArray) ∧ Below W.heap.size W w') := fun F T V W h => pair17_any A c D 7 7 rfl F T V W (by decide) (hD.below h)
  have p11 : Hid (∀ F T V W, Below w.heap.size w W → Calls Tryd.prog 80 #[.slice A D.length c, .int .i64 11, .int .i64 F, .int .i64 T, .int .i64 V] W fun e w' => (∃ g, e = .returned (.slice (some ⟨g, 0, none⟩) 2 2) ∧ W.heap.size ≤ g ∧ Blk w' g 83 ((P17.pairA D 11 F T V).cells ++ (P17.pairB D 11 F T V).cells).toArray) ∧ Below W.heap.size W w') := fun F T V W h => pair17_any A c D 11 11 rfl F T V W (by decide) (hD.below h)
  have l0 := P17.at_lt D 0 (show 0 < 5 by decide)
  have l1 := P17.at_lt D 1 (show 0 < 80 by decide)
  have l2 := P17.at_lt D 2 (show 0 < 3 by decide)
  have l3 := P17.at_lt D 3 (show 0 < 28 by decide)
  have l5 := P17.at_lt D 5 (show 0 < 2 by decide)
  have l6 := P17.at_lt D 6 (show 0 < 12 by decide)
  have l8 := P17.at_lt D 8 (show 0 < 5 by decide)
  have l9 := P17.at_lt D 9 (show 0 < 6 by decide)
  have l10 := P17.at_lt D 10 (show 0 < 3 by decide)
  have hk0 := sv_at _ l0
  have hV : P17.svOf (P17.at_ D 0 5) = P17.sv D := rfl
  rw [hV] at hk0
  have hp1 : (P17.at_ D 2 3 = 0 ∧ P17.part1 D = [P17.oneR D] ∧ P17.from1 D = P17.from0 D + 1) ∨ (¬ P17.at_ D 2 3 = 0 ∧ P17.part1 D = [] ∧ P17.from1 D = P17.from0 D) := by
    unfold P17.part1 P17.from1
    by_cases h : P17.at_ D 2 3 = 0
    · exact .inl ⟨h, if_pos h, if_pos h⟩
    · exact .inr ⟨h, if_neg h, if_neg h⟩
  have hp2 : (P17.at_ D 5 2 = 0 ∧ P17.part2 D = P17.pair D 7 (P17.from1 D) (P17.to1 D) (P17.sv D) ∧ P17.from2 D = P17.to1 D + 1 + (P17.at_ D 8 5 : Int)) ∨ (¬ P17.at_ D 5 2 = 0 ∧ P17.part2 D = [] ∧ P17.from2 D = P17.from1 D) := by
    unfold P17.part2 P17.from2
    by_cases h : P17.at_ D 5 2 = 0
    · exact .inl ⟨h, if_pos h, if_pos h⟩
    · exact .inr ⟨h, if_neg h, if_neg h⟩
  have hp3 : (P17.at_ D 10 3 = 0 ∧ P17.to2 D = P17.from2 D + (P17.at_ D 9 6 : Int)) ∨ (¬ P17.at_ D 10 3 = 0 ∧ P17.to2 D = 1048576) := by
    unfold P17.to2
    by_cases h : P17.at_ D 10 3 = 0
    · exact .inl ⟨h, if_pos h⟩
    · exact .inr ⟨h, if_neg h⟩
  have hf0 : P17.from0 D = 1900 + (P17.at_ D 1 80 : Int) := rfl
  have ht1 : P17.to1 D = P17.from1 D + (P17.at_ D 6 12 : Int) := rfl
  have h1R : P17.oneR D = ⟨⟨#[]⟩, P17.from0 D, P17.from0 D, 6, 1, 0, 1 + (P17.at_ D 3 28 : Int), (P17.at_ D 4 49 : Int) * 1800, (P17.at_ D 5 3 : Int), 0, ⟨#[83]⟩⟩ := rfl
  have hraw : P17.raw D = P17.part1 D ++ P17.part2 D ++ P17.pair D 11 (P17.from2 D) (P17.to2 D) (P17.sv D) := rfl
  have hmade : P17.made D nm = (P17.raw D).map (P17.named nm) := rfl
  have h5 := (P17.raw_good D).2.1
  have h2 := (P17.raw_good D).1
  have hpr : ∀ i F T V, P17.pair D i F T V = [P17.pairA D i F T V, P17.pairB D i F T V] := fun _ _ _ _ => rfl
  rw [hmade]
  clear hmade hV
  have HR := Lib.hid hraw
  have HP := Lib.hid hpr
  have H1 := Lib.hid h1R
  clear hraw hpr h1R
  generalize P17.raw D = RW at *
  generalize P17.part1 D = R1 at *
  generalize P17.part2 D = R2 at *
  generalize P17.from0 D = F0 at *
  generalize P17.from1 D = F1 at *
  generalize P17.from2 D = F2 at *
  generalize P17.to1 D = T1 at *
  generalize P17.to2 D = T2 at *
  generalize P17.sv D = SV at *
  generalize P17.at_ D 0 5 = n0 at *
  generalize P17.at_ D 1 80 = n1 at *
  generalize P17.at_ D 2 3 = n2 at *
  generalize P17.at_ D 3 28 = n3 at *
  generalize P17.at_ D 5 2 = n5 at *
  generalize P17.at_ D 6 12 = n6 at *
  generalize P17.at_ D 8 5 = n8 at *
  generalize P17.at_ D 9 6 = n9 at *
  generalize P17.at_ D 10 3 = n10 at *
  generalize (P17.at_ D 4 49 : Int) * 1800 = C1 at *
  generalize (P17.at_ D 5 3 : Int) = C2 at *
  generalize D.length = N at *
  have i0 : (n0 : Int) < 5 := by omega
  have i1 : (n1 : Int) < 80 := by omega
  have i2 : (n2 : Int) < 3 := by omega
  have i3 : (n3 : Int) < 28 := by omega
  have i5 : (n5 : Int) < 2 := by omega
  have i6 : (n6 : Int) < 12 := by omega
  have i8 : (n8 : Int) < 5 := by omega
  have i9 : (n9 : Int) < 6 := by omega
  have i10 : (n10 : Int) < 3 := by omega
  have HL := Lib.hid (And.intro h2 h5)
  clear h2 h5 hD l0 l1 l2 l3 l5 l6 l8 l9 l10
  have F0b : 1900 ≤ F0 ∧ F0 ≤ 1980 := by omega
  have F1b : 1900 ≤ F1 ∧ F1 ≤ 1981 := by rcases hp1 with ⟨_, _, h⟩ | ⟨_, _, h⟩ <;> omega
  have T1b : 1900 ≤ T1 ∧ T1 ≤ 1993 := by omega
  have F2b : 1900 ≤ F2 ∧ F2 ≤ 2000 := by rcases hp2 with ⟨_, _, h⟩ | ⟨_, _, h⟩ <;> omega
  obtain ⟨F0x, F0y⟩ := F0b
  obtain ⟨F1x, F1y⟩ := F1b
  obtain ⟨T1x, T1y⟩ := T1b
  obtain ⟨F2x, F2y⟩ := F2b
  obtain ⟨i0', hi, hz0, hz1, hz2⟩ := info_parts infoR17
  have hb0 := (Below.refl w.heap.size w).alloc (Nat.le_refl _) (.cells #[.int .i64 3600, .int .i64 3600, .int .i64 1800, .int .i64 7200, .int .i64 (-3600)] 2)
  have hA0 := Blk.new w 2 #[.int .i64 3600, .int .i64 3600, .int .i64 1800, .int .i64 7200, .int .i64 (-3600)]
  have k0 := (hA0.cell n0).trans hk0
  have hO0 : (w.alloc (.cells #[.int .i64 3600, .int .i64 3600, .int .i64 1800, .int .i64 7200, .int .i64 (-3600)] 2)).ownsRow w.heap.size 83 11 (.slice none 0 0) 0 [] := ⟨rfl, .inl ⟨rfl, rfl⟩⟩
  clear hA0 hk0
  go_enter Tryd.func44, Tryd.ntmps44
  have HF0 := Lib.hid hf0.symm
  have HT1 := Lib.hid ht1.symm
  clear hf0 ht1
  go_wp2_with fail
  refine (a0.out _ hb0).mono ?_
  rintro e wq ⟨rfl, rfl⟩
  go_wp2_with fail
  refine (a1.out _ hb0).mono ?_
  rintro e wq ⟨rfl, rfl⟩
  go_wp2_with fail
  rw [HF0.out]
  generalize w.alloc (.cells #[.int .i64 3600, .int .i64 3600, .int .i64 1800, .int .i64 7200, .int .i64 (-3600)] 2) = W1 at *
  refine (a2.out _ hb0).mono ?_
  rintro e wq ⟨rfl, rfl⟩
  go_upto_if 21 with fail
  go_cut [6, 7] (fun s6 s7 wx => s6 = .int .i64 F1 ∧ wx.ownsRow w.heap.size 83 11 s7 R1.length (r17 R1) ∧ Below w.heap.size w wx)
  case first =>
    rcases hp1 with ⟨z, rfl, rfl⟩ | ⟨z, rfl, rfl⟩
    · subst z
      have HW : Hid (r17 [P17.oneR D] = [.string ⟨#[]⟩, .int .i64 F0, .int .i64 F0, .int .i64 6, .int .i64 1, .int .i64 0, .int .i64 (1 + (n3 : Int)), .int .i64 C1, .int .i64 C2, .int .i64 0, .string ⟨#[83]⟩]) := Lib.hid (by rw [H1.out]; rfl)
      clear HR HP H1 HL hp2 hp3 p7 p11 a5 a6 a8 a9 a10
      go_wp2_with fail
      refine (a3.out _ hb0).mono ?_
      rintro e wq ⟨rfl, rfl⟩
      go_wp2_with fail
      refine (ck.out _ hb0).mono ?_
      rintro e W2 ⟨rfl, hc⟩
      have hb2 := hb0.trans (hc.mono hb0.size)
      have hO2 := own_below hO0 hc
      have HO := Lib.hid (hO2.alloc (.cells #[.string ⟨#[]⟩, .int .i64 F0, .int .i64 F0, .int .i64 6, .int .i64 1, .int .i64 0, .int .i64 (1 + (n3 : Int)), .int .i64 C1, .int .i64 C2, .int .i64 0, .string ⟨#[83]⟩] 83))
      have HB := Lib.hid (hb2.alloc hb2.size (.cells #[.string ⟨#[]⟩, .int .i64 F0, .int .i64 F0, .int .i64 6, .int .i64 1, .int .i64 0, .int .i64 (1 + (n3 : Int)), .int .i64 C1, .int .i64 C2, .int .i64 0, .string ⟨#[83]⟩] 83))
      have HN := Lib.hid (Blk.new W2 83 #[.string ⟨#[]⟩, .int .i64 F0, .int .i64 F0, .int .i64 6, .int .i64 1, .int .i64 0, .int .i64 (1 + (n3 : Int)), .int .i64 C1, .int .i64 C2, .int .i64 0, .string ⟨#[83]⟩])
      clear hO2 hb2 hc hb0 hO0 a3 ck a0 a1 a2
      go_wp2_with (at_builtin; refine wpList_append_own _ rfl _ _ 27 rfl w.heap.size 83 i0' (.agg #[.string ⟨#[]⟩, .int .i64 0, .int .i64 0, .int .i64 0, .int .i64 0, .int .i64 0, .int .i64 0, .int .i64 0, .int .i64 0, .int .i64 0, .string ⟨#[]⟩]) 11 104 Tryd.underlying27 hi hz0 hz1 hz2 rfl (by decide) _ _ _ rfl HO.out ⟨W2.heap.size, 0, none⟩ 1 1 [.string ⟨#[]⟩, .int .i64 F0, .int .i64 F0, .int .i64 6, .int .i64 1, .int .i64 0, .int .i64 (1 + (n3 : Int)), .int .i64 C1, .int .i64 C2, .int .i64 0, .string ⟨#[83]⟩] rfl rfl (blk_cells HN.out) (by simp [Value.oneCell']) (by decide) (by decide) HB.out.size ?_)
      intro v1 wa hown hgr hne
      have hb3 := own_grown HB.out HO.out hgr HB.out.size (Nat.le_refl _)
      rw [← HW.out] at hown
      have HE := Lib.hid (And.intro hown hb3)
      clear hown hb3 hgr hne HO HB HN HW
      go_wp2_with fail
      go_meet
      exact ⟨rfl, HE.out.1, HE.out.2⟩
    · have z' : ((n2 : Int) == 0) = false := by rw [beq_eq_false_iff_ne]; omega
      have HE := Lib.hid (And.intro hO0 hb0)
      clear hO0 hb0
      go_wp2_with fail
      go_meet
      exact ⟨rfl, HE.out.1, HE.out.2⟩
  case rest =>
    obtain ⟨rfl, hO1, hb1⟩ := hcut
    clear hO0 hb0 hp1 H1 a0 a1 a2 a3 ck HF0
    go_wp2_with fail
    refine (a5.out _ hb1).mono ?_
    rintro e wq ⟨rfl, rfl⟩
    go_upto_if 38 with fail
    go_cut [6, 7] (fun s6 s7 wx => s6 = .int .i64 F2 ∧ wx.ownsRow w.heap.size 83 11 s7 (R1 ++ R2).length (r17 (R1 ++ R2)) ∧ Below w.heap.size w wx)
    case first =>
      rcases hp2 with ⟨z, rfl, hF2⟩ | ⟨z, rfl, rfl⟩
      · subst z
        have HF2 := Lib.hid hF2.symm
        have HL2 : Hid (R1.length ≤ 5) := Lib.hid (by have := HL.out.2; rw [HR.out] at this; simp only [List.length_append] at this; omega)
        clear hF2 hp3 a9 a10 p11 HR
        go_wp2_with fail
        refine (a6.out _ hb1).mono ?_
        rintro e wq ⟨rfl, rfl⟩
        go_wp2_with fail
        rw [HT1.out]
        refine (p7.out _ _ _ _ hb1).mono ?_
        rintro e W2 ⟨⟨g, rfl, hg, hBk⟩, hc⟩
        have HB := Lib.hid (hb1.trans (hc.mono hb1.size))
        have HO := Lib.hid (own_below hO1 hc)
        have HN := Lib.hid hBk
        clear hO1 hg hBk hc 
        go_wp2_with (at_builtin; refine wpList_append_own _ rfl _ _ 27 rfl w.heap.size 83 i0' (.agg #[.string ⟨#[]⟩, .int .i64 0, .int .i64 0, .int .i64 0, .int .i64 0, .int .i64 0, .int .i64 0, .int .i64 0, .int .i64 0, .int .i64 0, .string ⟨#[]⟩]) 11 104 Tryd.underlying27 hi hz0 hz1 hz2 rfl (by decide) _ _ _ rfl HO.out ⟨g, 0, none⟩ 2 2 ((P17.pairA D 7 F1 T1 SV).cells ++ (P17.pairB D 7 F1 T1 SV).cells) rfl rfl (blk_cells HN.out) (cells_one2 _ _) (by have := HL2.out; simp only [maxLen]; omega) (by have := HL2.out; omega) HB.out.size ?_)
        intro v1 wa hown hgr hne
        have hb3 := own_grown HB.out HO.out hgr HB.out.size (Nat.le_refl _)
        have HX : Hid (r17 (R1 ++ [P17.pairA D 7 F1 T1 SV, P17.pairB D 7 F1 T1 SV]) = r17 R1 ++ ((P17.pairA D 7 F1 T1 SV).cells ++ (P17.pairB D 7 F1 T1 SV).cells)) := Lib.hid (by rw [r17_app]; show _ ++ (_ ++ (_ ++ [])) = _; rw [List.append_nil])
        rw [← HX.out] at hown
        have HE := Lib.hid (And.intro hown hb3)
        have hb4 := hb3
        clear hown hb3 hgr hne HO HB HN HX hb1
        go_wp2_with fail
        refine (a8.out _ hb4).mono ?_
        rintro e wq ⟨rfl, rfl⟩
        go_wp2_with fail
        rw [HF2.out]
        go_meet
        exact ⟨rfl, by rw [HP.out, List.length_append]; exact HE.out.1, HE.out.2⟩
      · have z' : ((n5 : Int) == 0) = false := by rw [beq_eq_false_iff_ne]; omega
        have HE := Lib.hid (And.intro hO1 hb1)
        clear hO1 hb1
        go_wp2_with fail
        go_meet
        exact ⟨rfl, by rw [List.append_nil]; exact HE.out.1, HE.out.2⟩
    case rest =>
      obtain ⟨rfl, hO2, hb2⟩ := hcut
      clear hO1 hb1 hp2 a5 a6 a8 p7 HT1
      go_wp2_with fail
      refine (a9.out _ hb2).mono ?_
      rintro e wq ⟨rfl, rfl⟩
      go_wp2_with fail
      refine (a10.out _ hb2).mono ?_
      rintro e wq ⟨rfl, rfl⟩
      go_upto_if 61 with fail
      go_cut [7, 9] (fun s7 s9 wx => s9 = .int .i64 T2 ∧ wx.ownsRow w.heap.size 83 11 s7 (R1 ++ R2).length (r17 (R1 ++ R2)) ∧ Below w.heap.size w wx)
      case first =>
        rcases hp3 with ⟨z, hT2⟩ | ⟨z, rfl⟩
        · subst z
          have HT2 := Lib.hid hT2.symm
          have HE := Lib.hid (And.intro hO2 hb2)
          clear hT2 hO2 hb2 HR HP HL p11 a9 a10
          go_wp2_with fail
          rw [HT2.out]
          go_meet
          exact ⟨rfl, HE.out.1, HE.out.2⟩
        · have z' : (0 : Int) < (n10 : Int) := by omega
          have HE := Lib.hid (And.intro hO2 hb2)
          clear hO2 hb2 HR HP HL p11 a9 a10
          go_wp2_with fail
          go_meet
          exact ⟨rfl, HE.out.1, HE.out.2⟩
      case rest =>
        obtain ⟨rfl, hO3, hb3⟩ := hcut
        clear hO2 hb2 hp3 a9 a10
        have HL2 : Hid ((R1 ++ R2).length ≤ 5) := Lib.hid (by have := HL.out.2; rw [HR.out] at this; simp only [List.length_append] at this ⊢; omega)
        go_wp2_with fail
        have hb1 := hb3
        clear hb3
        refine (p11.out _ _ _ _ hb1).mono ?_
        rintro e W2 ⟨⟨g, rfl, hg, hBk⟩, hc⟩
        have HB := Lib.hid (hb1.trans (hc.mono hb1.size))
        have HO := Lib.hid (own_below hO3 hc)
        have HN := Lib.hid hBk
        clear hO3 hg hBk hc 
        go_wp2_with (at_builtin; refine wpList_append_own _ rfl _ _ 27 rfl w.heap.size 83 i0' (.agg #[.string ⟨#[]⟩, .int .i64 0, .int .i64 0, .int .i64 0, .int .i64 0, .int .i64 0, .int .i64 0, .int .i64 0, .int .i64 0, .int .i64 0, .string ⟨#[]⟩]) 11 104 Tryd.underlying27 hi hz0 hz1 hz2 rfl (by decide) _ _ _ rfl HO.out ⟨g, 0, none⟩ 2 2 ((P17.pairA D 11 F2 T2 SV).cells ++ (P17.pairB D 11 F2 T2 SV).cells) rfl rfl (blk_cells HN.out) (cells_one2 _ _) (by have := HL2.out; simp only [maxLen]; omega) (by have := HL2.out; omega) HB.out.size ?_)
        intro v1 wa hown hgr hne
        have hb3 := own_grown HB.out HO.out hgr HB.out.size (Nat.le_refl _)
        have HX : Hid (r17 ((R1 ++ R2) ++ [P17.pairA D 11 F2 T2 SV, P17.pairB D 11 F2 T2 SV]) = r17 (R1 ++ R2) ++ ((P17.pairA D 11 F2 T2 SV).cells ++ (P17.pairB D 11 F2 T2 SV).cells)) := Lib.hid (by rw [r17_app]; show _ ++ (_ ++ (_ ++ [])) = _; rw [List.append_nil])
        rw [← HX.out] at hown
        have HRW : Hid (R1.length + R2.length + 2 = RW.length ∧ RW = R1 ++ R2 ++ [P17.pairA D 11 F2 T2 SV, P17.pairB D 11 F2 T2 SV]) := Lib.hid (by rw [HP.out] at HR; refine ⟨?_, HR.out⟩; rw [HR.out]; simp only [List.length_append]; rfl)
        rw [← HRW.out.2, HRW.out.1] at hown
        clear hb1 HO HB HN HX HL2 HR HP p11 hgr hne
        obtain ⟨NR, hNR⟩ : ∃ NR, RW.length = NR := ⟨_, rfl⟩
        have hN2 : 2 ≤ NR := by rw [← hNR]; exact HL.out.1
        have hN5 : NR ≤ 5 := by rw [← hNR]; exact HL.out.2
        have HNR := Lib.hid hNR
        rw [hNR] at hown
        clear hNR
        obtain ⟨Bq, cap, rfl, hBq, hBlt, hcap, _⟩ := own_form hown (by omega)
        have hN5i : (NR : Int) ≤ 5 := by omega
        rw [← mix_zero nm RW] at hown
        go_wp2_with fail
        generalize wa = W4 at *
        go_loopw [71] (fun s71 wr => ∃ k : Nat, k ≤ NR ∧ s71 = .int .i64 (k : Int) ∧ wr.ownsRow w.heap.size 83 11 (.slice (some ⟨Bq, 0, none⟩) NR cap) NR (r17 (mix17 nm RW k)) ∧ Below w.heap.size w wr) (fun i _ => NR - (intOf i).toNat)
        case atStart => exact ⟨0, Nat.zero_le _, rfl, hown, hb3⟩
        case round =>
          clear hown hb3
          obtain ⟨k, hk, rfl, hO, hb⟩ := hrel
          by_cases hlt : k < NR
          · obtain ⟨r, hr⟩ : ∃ r, RW[k]? = some r := ⟨_, List.getElem?_eq_getElem (by rw [HNR.out]; exact hlt)⟩
            have hki : (k : Int) < (NR : Int) := by omega
            have hfr : wr.frozen? ⟨Bq, k * 11, none⟩ = false := hO.frozenAt _
            have hmr := mix_at nm RW k r hr
            have hce : wr.cell? ⟨Bq, k * 11, none⟩ = some (.string r.name) := by
              rw [hO.cellAt (k * 11) (by omega)]
              have q := flat17 (mix17 nm RW k) k r hmr
              exact q
            have hst := (hO.stored (k * 11) (.string nm)).1
            rw [← r17_name nm _ k r hmr, ← mix_succ nm RW k r hr] at hst
            have HS := Lib.hid hst
            have HB := Lib.hid (hb.setCell (p := ⟨Bq, k * 11, none⟩) hBq (.string nm))
            clear hO hb hst hmr hr
            go_wp2_with fail
            go_roundw
            case rel => exact ⟨k + 1, by omega, by go_num, HS.out, HB.out⟩
            case measure => simp [intOf]; omega
          · obtain rfl : k = NR := by omega
            have hal : mix17 nm RW k = RW.map (P17.named nm) := by rw [← HNR.out]; exact mix_all nm RW
            rw [hal] at hO
            have hln : (RW.map (P17.named nm)).length = k := by rw [List.length_map]; exact HNR.out
            have HE := Lib.hid (And.intro hO hb)
            have HLN := Lib.hid hln
            clear hO hb hal hln
            go_wp2_with fail
            go_ret
            exact ⟨⟨_, rfl, by rw [HLN.out]; exact HE.out.1⟩, HE.out.2⟩
end Go.Proofs.YtlideagcmhlkeaaDoor

/- Drafts of layer 23 as values, and what the source that one makes is good for. No function of the program. -/
namespace Go.Proofs.YtlideagcmhlkeaaDoor
open Go.RowKit
set_option linter.unusedVariables false

/-- a draft by its cells -/
structure D23 where
  sA : Option Addr
  sc : Nat
  sets : List (Option Addr × Nat × List Int)
  zA : Option Addr
  zc : Nat
  zones : List (Option Addr × Nat × List E23)
  lA : Option Addr
  lc : Nat
  links : List Int
def setCells (s : Option Addr × Nat × List Int) : List Value := [.slice s.1 s.2.2.length s.2.1]
def zoneCells (s : Option Addr × Nat × List E23) : List Value := [.slice s.1 s.2.2.length s.2.1]
structure D23In (w : World) (d : D23) : Prop where
  sets : CellsIn 1 setCells w d.sA d.sets
  zones : CellsIn 1 zoneCells w d.zA d.zones
  links : CellsIn 1 u8Cell w d.lA d.links
  draws : ∀ s ∈ d.sets, Dr w s.1 s.2.2
  eras : ∀ z ∈ d.zones, CellsIn 8 E23.cells w z.1 z.2.2 ∧ (∀ x ∈ z.2.2, x.ok) ∧ z.2.2.length ≤ maxLen ∧ z.2.2.length ≤ z.2.1
  nums : ∀ n ∈ d.links, 0 ≤ n ∧ n ≤ 255
  lens : d.sets.length ≤ maxLen ∧ d.zones.length ≤ maxLen ∧ d.links.length ≤ maxLen
  caps : d.zones.length ≤ d.zc ∧ d.links.length ≤ d.lc
theorem D23In.below {w w' : World} {d : D23} (h : D23In w d) (hb : Below w.heap.size w w') : D23In w' d :=
  ⟨h.sets.below hb, h.zones.below hb, h.links.below hb, fun s hs => (h.draws s hs).below hb, fun z hz => ⟨(h.eras z hz).1.below hb, (h.eras z hz).2⟩, h.nums, h.lens, h.caps⟩
/-- the bytes of the set at a place -/
def D23.dr (d : D23) (i : Nat) : List Int := (d.sets[i]?.map (·.2.2)).getD []
/-- the rules of the first sets -/
def rulesTo (D : Nat → List Int) (n : Nat) : List RV := (List.range n).flatMap fun i => P17.made (D i) (rn i)
theorem rulesTo_succ (D : Nat → List Int) (n : Nat) : rulesTo D (n + 1) = rulesTo D n ++ P17.made (D n) (rn n) := by
  unfold rulesTo
  rw [List.range_succ, List.flatMap_append, List.flatMap_singleton]
theorem rn_inj : ∀ i, i < 3 → ∀ k, k < 3 → rn i = rn k → i = k := by decide +kernel
theorem ofSet_app (A B : List RV) (nm : ByteArray) : ofSet (A ++ B) nm = ofSet A nm ++ ofSet B nm := by unfold ofSet; rw [List.filter_append]
theorem ofSet_made (D : List Int) (a nm : ByteArray) : ofSet (P17.made D a) nm = if a = nm then P17.made D a else [] := by
  unfold ofSet
  have hn : ∀ r ∈ P17.made D a, r.name = a := fun r hr => by
    unfold P17.made at hr
    obtain ⟨x, _, rfl⟩ := List.mem_map.1 hr
    rfl
  by_cases h : a = nm
  · rw [if_pos h, List.filter_eq_self]
    intro r hr
    rw [hn r hr, h]
    exact decide_eq_true rfl
  · rw [if_neg h, List.filter_eq_nil_iff]
    intro r hr
    rw [hn r hr, decide_eq_true_eq]
    exact h
theorem ofSet_rules (D : Nat → List Int) (k : Nat) (hk : k < 3) : ∀ n, n ≤ 3 → ofSet (rulesTo D n) (rn k) = if k < n then P17.made (D k) (rn k) else []
  | 0, _ => by rw [if_neg (by omega)]; rfl
  | n + 1, hn => by
    rw [rulesTo_succ, ofSet_app, ofSet_rules D k hk n (by omega), ofSet_made]
    by_cases h : k < n
    · rw [if_pos h, if_pos (show k < n + 1 by omega), if_neg (fun q : rn n = rn k => by have := rn_inj n (by omega) k hk q; omega), List.append_nil]
    · rw [if_neg h, List.nil_append]
      by_cases h2 : n = k
      · subst h2
        rw [if_pos (show rn n = rn n from rfl), if_pos (show n < n + 1 by omega)]
      · rw [if_neg (fun q : rn n = rn k => h2 (rn_inj n (by omega) k hk q)), if_neg (show ¬ k < n + 1 by omega)]
theorem rulesTo_len (D : Nat → List Int) : ∀ n, (rulesTo D n).length ≤ 5 * n
  | 0 => by simp [rulesTo]
  | n + 1 => by
    have h1 := rulesTo_len D n
    have h2 := (P17.made_good (D n) (rn n)).five
    rw [rulesTo_succ, List.length_append]
    omega
/-- what the source of a draft is good for -/
structure Good23 (t : SV) : Prop where
  zones : 1 ≤ t.zones.length ∧ t.zones.length ≤ 3
  lens : t.rules.length ≤ 15 ∧ t.links.length ≤ 4 ∧ t.shifts = []
  eras : ∀ z ∈ t.zones, 1 ≤ z.eras.length ∧ z.eras.length ≤ 4
  era : ∀ z ∈ t.zones, ∀ e ∈ z.eras, GoodE t.rules e
  saves : SvOk t.rules
theorem GE23.good {D : Nat → List Int} {N : Nat} {e : EV} (h : GE23 N e) (hN : N ≤ 3) : GoodE (rulesTo D N) e :=
  ⟨h.off, h.kind, h.fmt, h.save, fun hk => by
    obtain ⟨k, hk1, hs⟩ := h.set hk
    refine ⟨P17.sv (D k), ?_, ?_⟩
    · have := P17.sv_cases (D k)
      omega
    · rw [hs, ofSet_rules D k (by omega) N hN, if_pos hk1]
      exact (P17.made_good (D k) (rn k)).other⟩
theorem Good23.few {t : SV} (h : Good23 t) : Few30 t := by
  have h1 := h.zones; have h2 := h.lens
  refine ⟨⟨by omega, by omega, by omega, by rw [h2.2.2]; decide⟩, fun z hz => by have := h.eras z hz; omega, fun z hz e he => ?_, h.saves⟩
  have g := h.era z hz e he
  have g1 := g.off; have g2 := g.save; have g3 := fmt23_size g.fmt
  exact ⟨by omega, by omega, by omega⟩
end Go.Proofs.YtlideagcmhlkeaaDoor

/- The plain law of ExpandBack (chapter 30): expanded, expanded twice, contracted again. No function of the program beyond the relations. -/
namespace Go.Proofs.YtlideagcmhlkeaaDoor
open Go.RowKit
set_option linter.unusedVariables false
set_option linter.unusedSectionVars false

theorem mapS_get {G : EV → EV} {s : SV} {i : Nat} {y : ZV} (h : (mapS G s).zones[i]? = some y) : ∃ z, s.zones[i]? = some z ∧ y = mapE G z := by
  have h' : (s.zones.map (mapE G))[i]? = some y := h
  rw [List.getElem?_map] at h'
  obtain ⟨z, hz, rfl⟩ := Option.map_eq_some_iff.1 h'
  exact ⟨z, hz, rfl⟩
theorem mapS_congr {t : SV} {G H : EV → EV} (h : ∀ z ∈ t.zones, ∀ e ∈ z.eras, G e = H e) : sSame14 (mapS G t) (mapS H t) := by
  refine ⟨rfl, rfl, rfl, by show (t.zones.map _).length = (t.zones.map _).length; rw [List.length_map, List.length_map], fun i x y hi hx hy => ?_⟩
  obtain ⟨z, hz, rfl⟩ := mapS_get hx
  obtain ⟨z', hz', rfl⟩ := mapS_get hy
  rw [hz] at hz'
  injection hz' with hz'
  subst hz'
  exact ⟨rfl, List.map_congr_left fun e he => h z (List.mem_of_getElem? hz) e he⟩
theorem mapS_id {t : SV} {G : EV → EV} (h : ∀ z ∈ t.zones, ∀ e ∈ z.eras, G e = e) : sSame14 (mapS G t) t := by
  refine (mapS_congr (H := fun e => e) h).trans ⟨rfl, rfl, rfl, by show (t.zones.map _).length = t.zones.length; simp, fun i x y hi hx hy => ?_⟩
  obtain ⟨z, hz, rfl⟩ := mapS_get hx
  rw [hz] at hy
  injection hy with hy
  subst hy
  exact ⟨rfl, by show z.eras.map _ = z.eras; simp⟩
/-- the eras of a source that is the same as a changed one -/
theorem eras_of_map {a t : SV} {G : EV → EV} (h : sSame14 a (mapS G t)) {z : ZV} (hz : z ∈ a.zones) {e : EV} (he : e ∈ z.eras) : ∃ y ∈ t.zones, ∃ x ∈ y.eras, e = G x := by
  obtain ⟨y, hy, _, h2⟩ := same_eras h z hz
  obtain ⟨x, hx, rfl⟩ := List.mem_map.1 (show y ∈ t.zones.map (mapE G) from hy)
  rw [h2] at he
  obtain ⟨u, hu, rfl⟩ := List.mem_map.1 (show e ∈ x.eras.map G from he)
  exact ⟨x, hx, u, hu, rfl⟩
theorem errs_ok {F : EV → ByteArray × Int} {Z : List ZV} (h : ∀ z ∈ Z, ∀ e ∈ z.eras, (F e).2 = 0) : ErrIs F Z 0 :=
  ErrIs.ok (i := Z.length) (fun a b z e hz he _ => h z (List.mem_of_getElem? hz) e (List.mem_of_getElem? he)) (Nat.le_refl _)
theorem Res30.ok {F : EV → ByteArray × Int} {s t : SV} {n : Int} (h : Res30 F s t n) (hk : ∀ z ∈ s.zones, ∀ e ∈ z.eras, (F e).2 = 0) : n = 0 ∧ sSame14 t (mapS (fmtE F) s) := by
  have e := h.err.uniq (errs_ok hk)
  exact ⟨e, h.yes e⟩
theorem few_map {a t : SV} {G : EV → EV} (hf : Few30 t) (h : sSame14 a (mapS G t)) (hg : ∀ z ∈ t.zones, ∀ e ∈ z.eras, (G e).off = e.off ∧ (G e).save = e.save ∧ (G e).fmt.size ≤ 1000000) : Few30 a := by
  have hl := same_lens h
  have hzl : (mapS G t).zones.length = t.zones.length := by show (t.zones.map _).length = _; simp
  have hq := hf.lens
  refine ⟨⟨by rw [hl.1]; exact hq.1, by rw [hl.2.1, hzl]; exact hq.2.1, by rw [hl.2.2.1]; exact hq.2.2.1, by rw [hl.2.2.2]; exact hq.2.2.2⟩, fun z hz => ?_, fun z hz e he => ?_, by rw [h.rules]; exact hf.saves⟩
  · obtain ⟨y, hy, _, h2⟩ := same_eras h z hz
    obtain ⟨x, hx, rfl⟩ := List.mem_map.1 (show y ∈ t.zones.map (mapE G) from hy)
    rw [h2]
    show (x.eras.map G).length ≤ 1000
    rw [List.length_map]
    exact hf.eras x hx
  · obtain ⟨y, hy, x, hx, rfl⟩ := eras_of_map h hz he
    obtain ⟨g1, g2, g3⟩ := hg y hy x hx
    rw [g1, g2]
    exact ⟨(hf.nums y hy x hx).1, (hf.nums y hy x hx).2.1, g3⟩
theorem few_same {a t : SV} (hf : Few30 t) (h : sSame14 a t) : Few30 a :=
  few_map hf (h.trans (mapS_id (G := fun e => e) fun _ _ _ _ => rfl).symm) fun z hz e he => ⟨rfl, rfl, (hf.nums z hz e he).2.2⟩
section
variable {t a : SV} (hg : Good23 t) (ha : sSame14 a (mapS (fmtE (exF t.rules)) t))
include hg ha
end
end Go.Proofs.YtlideagcmhlkeaaDoor

/- The plain law of ExpandAbbrs (chapter 30): the abbreviations of an expanded era. No function of the program beyond the relations. -/
namespace Go.Proofs.YtlideagcmhlkeaaDoor
open Go.RowKit
set_option linter.unusedVariables false

/-- the abbreviation stays -/
theorem GoodE.abbr {R : List RV} {e : EV} (h : GoodE R e) : ∀ s ∈ saves23 R e, ∀ lt, P21.abbrv (P4.bl e.fmt) e.off s lt = P21.abbrv (P4.bl (exF R e).1) e.off s lt := fun s hs lt => by
  by_cases hz : e.fmt = ⟨#[37, 122]⟩
  · obtain ⟨l, hn, _, ha⟩ := h.num
    rw [(h.ex.2.2.2 hz).1, hn, hz]
    exact ha s hs lt
  · rw [h.ex.2.2.1 hz]
theorem GoodE.other {R : List RV} {e : EV} (h : GoodE R e) (hk : e.kind = 2) : (P20.other (svs (ofSet R e.set))).2 = true := by
  obtain ⟨y, _, hy⟩ := h.set hk
  rw [hy]
end Go.Proofs.YtlideagcmhlkeaaDoor

/- A copied source whose last zone gets eras more, and whose eras are replaced whole (memory, for ExpandFirst). No function of the program. -/
namespace Go.Proofs.YtlideagcmhlkeaaDoor
open Go.RowKit
set_option linter.unusedVariables false

theorem row_keep {W W' : World} {base n size : Nat} {e : TypeId} {v u : Value} {xs : List Value} (h : W.ownsRow base e size v n xs) (hg : W.grownBy W' u.ownBlock) (hne : ∀ g, v.ownBlock = some g → u.ownBlock ≠ some g) : W'.ownsRow base e size v n xs := by
  refine ⟨h.1, ?_⟩
  rcases h.2 with q | ⟨g, cap, cur, hv, hb, hh, hr⟩
  · exact .inl q
  · exact .inr ⟨g, cap, cur, hv, hb, (hg.block g (Array.getElem?_eq_some_iff.1 hh).1 fun q => hne g (by rw [hv]; rfl) q.symm).trans hh, hr⟩
theorem RowOf.own_addr {α : Type} {W : World} {base : Nat} {e : TypeId} {m : Nat} {f : α → List Value} {A : Option Addr} {c : Nat} {L : List α} (h : RowOf W base e m f A c L) {g : Nat} (hg : (Value.slice A L.length c).ownBlock = some g) : A = some ⟨g, 0, none⟩ ∧ g < W.heap.size := by
  rcases h.2 with ⟨q2, _⟩ | ⟨g2, cap, cur, hv, hb, hh, _⟩
  · rw [q2] at hg; cases hg
  · rw [hv] at hg
    have q3 : g2 = g := Option.some.inj hg
    subst q3
    injection hv with hA
    exact ⟨hA, (Array.getElem?_eq_some_iff.1 hh).1⟩
/-- the source with another zone at a place -/
def SV.setZone (t : SV) (i : Nat) (z : ZV) : SV := { t with zones := t.zones.set i z }
/-- a zone's eras grow, and the zone is written -/
theorem CopyOf.grow {W W' : World} {base : Nat} {t : SV} (h : CopyOf W base t t) {i : Nat} {z : ZV} (hz : t.zones[i]? = some z) {A' : Option Addr} {c' : Nat} {E' : List EV} (hown : RowOf W' base 47 13 EV.cells A' c' E') (hgr : W.grownBy W' (Value.slice z.A z.eras.length z.c).ownBlock)
    (hnew : (Value.slice A' E'.length c').ownBlock = (Value.slice z.A z.eras.length z.c).ownBlock ∨ (Value.slice A' E'.length c').ownBlock = some W.heap.size) {g0 : Nat} (hzA : t.zA = some ⟨g0, 0, none⟩) :
    CopyOf (W'.setCell ⟨g0, i * 2 + 1, none⟩ (.slice A' E'.length c')) base (t.setZone i ⟨z.name, A', c', E'⟩) (t.setZone i ⟨z.name, A', c', E'⟩) := by
  have hrow := h.zones.2.eras i z hz
  have hzr : RowOf W' base 39 2 ZV.cells (some ⟨g0, 0, none⟩) t.zc t.zones := by rw [← hzA]; exact row_other h.zones.1 hrow (by decide) hgr
  have hO : (Value.slice (some ⟨g0, 0, none⟩) t.zones.length t.zc).ownBlock = some g0 := rfl
  -- a zone other than that one, before
  have old : ∀ (a : Nat) (y : ZV), a ≠ i → t.zones[a]? = some y → ∀ g, (Value.slice y.A y.eras.length y.c).ownBlock = some g → (Value.slice z.A z.eras.length z.c).ownBlock ≠ some g ∧ (Value.slice A' E'.length c').ownBlock ≠ some g := fun a y hai hy g hg => by
    obtain ⟨hyA, hlt⟩ := (h.zones.2.eras a y hy).own_addr hg
    have hne : (Value.slice z.A z.eras.length z.c).ownBlock ≠ some g := fun q => by
      obtain ⟨hA, _⟩ := hrow.own_addr q
      rcases Nat.lt_or_gt_of_ne hai with hl | hl
      · exact h.zones.2.apart a i y z hl hy hz g hyA hA
      · exact h.zones.2.apart i a z y hl hz hy g hA hyA
    refine ⟨hne, fun q => ?_⟩
    rcases hnew with r | r
    · exact hne (r.symm.trans q)
    · rw [r] at q
      have := Option.some.inj q
      omega
  have key : ∀ (a : Nat) (y : ZV), (t.zones.set i ⟨z.name, A', c', E'⟩)[a]? = some y → (a = i ∧ y = ⟨z.name, A', c', E'⟩) ∨ (a ≠ i ∧ t.zones[a]? = some y) := fun a y hy => by
    by_cases hi : i = a
    · subst hi
      rw [List.getElem?_set_self (List.getElem?_eq_some_iff.1 hz).1] at hy
      injection hy with hy
      exact .inl ⟨rfl, hy.symm⟩
    · rw [List.getElem?_set_ne hi] at hy
      exact .inr ⟨fun q => hi q.symm, hy⟩
  have far : ∀ (A : Option Addr) (g : Nat), A = some ⟨g, 0, none⟩ → ∀ n c, (Value.slice A n c).ownBlock = some g := fun A g hA n c => by rw [hA]; rfl
  refine ⟨⟨rfl, row_set_other (row_other h.rules.2 hrow (by decide) hgr) hzr hO (by decide) _⟩, ⟨?_, ⟨⟨rfl, fun i z y hz hy => by rw [hz] at hy; injection hy with hy; subst hy; exact ⟨rfl, rfl⟩⟩, fun a y hy => ?_, fun a b y y2 hab hya hyb g h1 h2 => ?_⟩⟩, ⟨rfl, row_set_other (row_other h.links.2 hrow (by decide) hgr) hzr hO (by decide) _⟩, ⟨rfl, row_set_other (row_other h.shifts.2 hrow (by decide) hgr) hzr hO (by decide) _⟩⟩
  · show RowOf _ base 39 2 ZV.cells t.zA t.zc (t.zones.set i _)
    rw [hzA]
    exact hzr.set_ len_zone i 1 z ⟨z.name, A', c', E'⟩ _ (by decide) hz rfl
  · rcases key a y hy with ⟨_, rfl⟩ | ⟨hai, hy2⟩
    · exact row_set_other hown hzr hO (by decide) _
    · exact row_set_other (row_keep (h.zones.2.eras a y hy2) hgr fun g hg => (old a y hai hy2 g hg).1) hzr hO (by decide) _
  · rcases key a y hya with ⟨rfl, rfl⟩ | ⟨hai, hy2⟩
    · rcases key b y2 hyb with ⟨rfl, _⟩ | ⟨hbi, hy3⟩
      · omega
      · exact (old b y2 hbi hy3 g (far _ _ h2 _ _)).2 (far _ _ h1 _ _)
    · rcases key b y2 hyb with ⟨rfl, rfl⟩ | ⟨hbi, hy3⟩
      · exact (old a y hai hy2 g (far _ _ h1 _ _)).2 (far _ _ h2 _ _)
      · exact h.zones.2.apart a b y y2 hab hy2 hy3 g h1 h2
theorem SV.setEra_at {t : SV} {i k : Nat} {z : ZV} {e : EV} (hz : t.zones[i]? = some z) : (t.setEra i z k e).zones[i]? = some { z with eras := z.eras.set k e } := by
  show (t.zones.set i _)[i]? = _
  rw [List.getElem?_set_self (List.getElem?_eq_some_iff.1 hz).1]
theorem SV.setEra_two {t : SV} {i k : Nat} {z : ZV} (e f : EV) (hz : t.zones[i]? = some z) : (t.setEra i z k e).setEra i { z with eras := z.eras.set k e } k f = t.setEra i z k f := by
  unfold SV.setEra
  simp [List.set_set]
/-- an era is written whole -/
theorem CopyOf.setWhole {W : World} {base : Nat} {t : SV} (h : CopyOf W base t t) {i : Nat} {z : ZV} (hz : t.zones[i]? = some z) {g : Nat} (hA : z.A = some ⟨g, 0, none⟩) {k : Nat} {x : EV} (hk : z.eras[k]? = some x) (e : EV) :
    CopyOf (((((((((((((W.setCell ⟨g, k * 13 + 0, none⟩ (.int .i64 e.off)).setCell ⟨g, k * 13 + 1, none⟩ (.int .i64 e.kind)).setCell ⟨g, k * 13 + 2, none⟩ (.int .i64 e.save)).setCell ⟨g, k * 13 + 3, none⟩ (.string e.set)).setCell ⟨g, k * 13 + 4, none⟩ (.string e.fmt)).setCell ⟨g, k * 13 + 5, none⟩ (.bool e.ui)).setCell ⟨g, k * 13 + 6, none⟩ (.int .i64 e.uy)).setCell ⟨g, k * 13 + 7, none⟩ (.int .i64 e.um)).setCell ⟨g, k * 13 + 8, none⟩ (.int .i64 e.dk)).setCell ⟨g, k * 13 + 9, none⟩ (.int .i64 e.dw)).setCell ⟨g, k * 13 + 10, none⟩ (.int .i64 e.dd)).setCell ⟨g, k * 13 + 11, none⟩ (.int .i64 e.asec)).setCell ⟨g, k * 13 + 12, none⟩ (.int .i64 e.ab)) base (t.setEra i z k e) (t.setEra i z k e) := by
  have hl := (List.getElem?_eq_some_iff.1 hk).1
  have step : ∀ (V : World) (y y' : EV) (j : Nat) (u : Value), CopyOf V base (t.setEra i z k y) (t.setEra i z k y) → j < 13 → y'.cells = y.cells.set j u → CopyOf (V.setCell ⟨g, k * 13 + j, none⟩ u) base (t.setEra i z k y') (t.setEra i z k y') := fun V y y' j u hc hj hy => by
    have q := hc.setCell (SV.setEra_at hz) (show ({ z with eras := z.eras.set k y } : ZV).A = some ⟨g, 0, none⟩ from hA) (k := k) (x := y) (y := y') (by show (z.eras.set k y)[k]? = some y; rw [List.getElem?_set_self hl]) u hj hy
    have e1 : (t.setEra i z k y).setEra i { z with eras := z.eras.set k y } k y' = t.setEra i z k y' := SV.setEra_two y y' hz
    rw [← e1]
    exact q
  have c0 : CopyOf (W.setCell ⟨g, k * 13 + 0, none⟩ (.int .i64 e.off)) base (t.setEra i z k { x with off := e.off }) (t.setEra i z k { x with off := e.off }) := h.setCell hz hA hk _ (by decide) rfl
  have c1 := step _ _ { x with off := e.off, kind := e.kind } 1 (.int .i64 e.kind) c0 (by decide) rfl
  have c2 := step _ _ { x with off := e.off, kind := e.kind, save := e.save } 2 (.int .i64 e.save) c1 (by decide) rfl
  have c3 := step _ _ { x with off := e.off, kind := e.kind, save := e.save, set := e.set } 3 (.string e.set) c2 (by decide) rfl
  have c4 := step _ _ { x with off := e.off, kind := e.kind, save := e.save, set := e.set, fmt := e.fmt } 4 (.string e.fmt) c3 (by decide) rfl
  have c5 := step _ _ { x with off := e.off, kind := e.kind, save := e.save, set := e.set, fmt := e.fmt, ui := e.ui } 5 (.bool e.ui) c4 (by decide) rfl
  have c6 := step _ _ { x with off := e.off, kind := e.kind, save := e.save, set := e.set, fmt := e.fmt, ui := e.ui, uy := e.uy } 6 (.int .i64 e.uy) c5 (by decide) rfl
  have c7 := step _ _ { x with off := e.off, kind := e.kind, save := e.save, set := e.set, fmt := e.fmt, ui := e.ui, uy := e.uy, um := e.um } 7 (.int .i64 e.um) c6 (by decide) rfl
  have c8 := step _ _ { x with off := e.off, kind := e.kind, save := e.save, set := e.set, fmt := e.fmt, ui := e.ui, uy := e.uy, um := e.um, dk := e.dk } 8 (.int .i64 e.dk) c7 (by decide) rfl
  have c9 := step _ _ { x with off := e.off, kind := e.kind, save := e.save, set := e.set, fmt := e.fmt, ui := e.ui, uy := e.uy, um := e.um, dk := e.dk, dw := e.dw } 9 (.int .i64 e.dw) c8 (by decide) rfl
  have c10 := step _ _ { x with off := e.off, kind := e.kind, save := e.save, set := e.set, fmt := e.fmt, ui := e.ui, uy := e.uy, um := e.um, dk := e.dk, dw := e.dw, dd := e.dd } 10 (.int .i64 e.dd) c9 (by decide) rfl
  have c11 := step _ _ { x with off := e.off, kind := e.kind, save := e.save, set := e.set, fmt := e.fmt, ui := e.ui, uy := e.uy, um := e.um, dk := e.dk, dw := e.dw, dd := e.dd, asec := e.asec } 11 (.int .i64 e.asec) c10 (by decide) rfl
  exact step _ _ e 12 (.int .i64 e.ab) c11 (by decide) rfl
end Go.Proofs.YtlideagcmhlkeaaDoor

/- The plain law of ExpandFirst (chapter 30): the first era that is wrong says what. No function of the program beyond the relations. -/
namespace Go.Proofs.YtlideagcmhlkeaaDoor
open Go.RowKit
set_option linter.unusedVariables false

/-- the eras of the law: an offset that is too big, and a kind that is none -/
def farE : EV := ⟨86400, 0, 0, ⟨#[]⟩, ⟨#[37, 122]⟩, false, 0, 0, 0, 0, 0, 0, 0⟩
def kindE : EV := ⟨0, 3, 0, ⟨#[]⟩, ⟨#[37, 122]⟩, false, 0, 0, 0, 0, 0, 0, 0⟩
def num2E : EV := ⟨3600, 0, 0, ⟨#[]⟩, ⟨#[43, 48, 50]⟩, false, 0, 0, 0, 0, 0, 0, 0⟩
def kind2E : EV := ⟨0, 3, 0, ⟨#[]⟩, ⟨#[43, 48, 50]⟩, false, 0, 0, 0, 0, 0, 0, 0⟩
theorem ex_far (R : List RV) : (exF R farE).2 = 3 := by
  have : exF R farE = num30 R farE := if_pos (show farE.fmt = ⟨#[37, 122]⟩ from rfl)
  rw [this]
  show (P20.expansion 0 86400 0 (svs (if (0 : Int) = 2 then ofSet R ⟨#[]⟩ else []))).2 = 3
  rw [if_neg (by decide)]
  decide +kernel
theorem ex_kind (R : List RV) : (exF R kindE).2 = 2 := by
  have : exF R kindE = num30 R kindE := if_pos (show kindE.fmt = ⟨#[37, 122]⟩ from rfl)
  rw [this]
  show (P20.expansion 3 0 0 (svs (if (3 : Int) = 2 then ofSet R ⟨#[]⟩ else []))).2 = 2
  rw [if_neg (by decide)]
  decide +kernel
theorem co_num2 (R : List RV) : (coF R num2E).2 = 15 := by
  have hk : P21.kind (P4.bl num2E.fmt) = 5 := by decide +kernel
  have hn : num30 R num2E = (⟨#[43, 48, 49]⟩, 0) := by
    show (str (P20.expansion 0 3600 0 (svs (if (0 : Int) = 2 then ofSet R ⟨#[]⟩ else []))).1, (P20.expansion 0 3600 0 (svs (if (0 : Int) = 2 then ofSet R ⟨#[]⟩ else []))).2) = _
    rw [if_neg (by decide)]
    decide +kernel
  unfold coF
  rw [if_pos hk, hn, if_pos rfl, if_neg (by decide)]
/-- the first error, where a zone has eras more -/
theorem first_err {F : EV → ByteArray × Int} {c : SV} {i : Nat} {z : ZV} (hz : c.zones[i]? = some z) (hF : ∀ y ∈ c.zones, ∀ e ∈ y.eras, (F e).2 = 0) {nm : ByteArray} {A : Option Addr} {k : Nat} {x : EV} {l : List EV} (hx : (F x).2 ≠ 0) :
    ErrIs F (c.setZone i ⟨nm, A, k, z.eras ++ x :: l⟩).zones (F x).2 := by
  have hl := (List.getElem?_eq_some_iff.1 hz).1
  refine .inr ⟨hx, i, z.eras.length, ⟨nm, A, k, z.eras ++ x :: l⟩, x, ?_, ?_, fun a b y e hy he hp => ?_, rfl⟩
  · show (c.zones.set i _)[i]? = _
    rw [List.getElem?_set_self hl]
  · show (z.eras ++ x :: l)[z.eras.length]? = _
    simp
  · have hy' : (c.zones.set i ⟨nm, A, k, z.eras ++ x :: l⟩)[a]? = some y := hy
    by_cases hi : i = a
    · subst hi
      rw [List.getElem?_set_self hl] at hy'
      injection hy' with hy'
      subst hy'
      have hb : b < z.eras.length := by omega
      have he' : (z.eras ++ x :: l)[b]? = some e := he
      rw [List.getElem?_append_left hb] at he'
      exact hF z (List.mem_of_getElem? hz) e (List.mem_of_getElem? he')
    · rw [List.getElem?_set_ne hi] at hy'
      exact hF y (List.mem_of_getElem? hy') e (List.mem_of_getElem? he)
theorem first_few {c : SV} (hf : Few30 c) {i : Nat} {z : ZV} (hz : c.zones[i]? = some z) (h4 : z.eras.length ≤ 4) {nm : ByteArray} {A : Option Addr} {k : Nat} {l : List EV} (hl : l.length ≤ 2)
    (hn : ∀ e ∈ l, (-9223372036854775808 ≤ e.off ∧ e.off ≤ 9223372036854775807) ∧ (-9223372036854775808 ≤ e.save ∧ e.save ≤ 9223372036854775807) ∧ e.fmt.size ≤ 1000000) : Few30 (c.setZone i ⟨nm, A, k, z.eras ++ l⟩) := by
  have key : ∀ y ∈ (c.setZone i ⟨nm, A, k, z.eras ++ l⟩).zones, y = ⟨nm, A, k, z.eras ++ l⟩ ∨ y ∈ c.zones := fun y hy => by
    have hy' : y ∈ c.zones.set i ⟨nm, A, k, z.eras ++ l⟩ := hy
    exact (List.mem_or_eq_of_mem_set hy').symm
  refine ⟨⟨hf.lens.1, by show (c.zones.set i _).length ≤ 1000; rw [List.length_set]; exact hf.lens.2.1, hf.lens.2.2⟩, fun y hy => ?_, fun y hy e he => ?_, hf.saves⟩
  · rcases key y hy with rfl | hy
    · show (z.eras ++ l).length ≤ 1000
      rw [List.length_append]
      omega
    · exact hf.eras y hy
  · rcases key y hy with rfl | hy
    · rcases List.mem_append.1 (show e ∈ z.eras ++ l from he) with h | h
      · exact hf.nums z (List.mem_of_getElem? hz) e h
      · exact hn e h
    · exact hf.nums y hy e he
/-- two eras replaced -/
theorem first_two (c : SV) {i : Nat} {z : ZV} (hz : c.zones[i]? = some z) (nm : ByteArray) (A : Option Addr) (k : Nat) (x1 x2 y1 y2 : EV) :
    ((c.setZone i ⟨nm, A, k, z.eras ++ [x1, x2]⟩).setEra i ⟨nm, A, k, z.eras ++ [x1, x2]⟩ z.eras.length y1).setEra i ⟨nm, A, k, (z.eras ++ [x1, x2]).set z.eras.length y1⟩ (z.eras.length + 1) y2 = c.setZone i ⟨nm, A, k, z.eras ++ [y1, y2]⟩ := by
  unfold SV.setEra SV.setZone
  simp
theorem first_good {R : List RV} {c t : SV} (hg : Good23 t) (h : sSame14 c t) : (∀ y ∈ c.zones, ∀ e ∈ y.eras, (exF t.rules e).2 = 0) ∧ (∀ y ∈ c.zones, ∀ e ∈ y.eras, (coF t.rules e).2 = 0) ∧ ∀ y ∈ c.zones, y.eras.length ≤ 4 ∧ 1 ≤ y.eras.length := by
  refine ⟨fun y hy e he => ?_, fun y hy e he => ?_, fun y hy => ?_⟩
  · obtain ⟨x, hx, _, h2⟩ := same_eras h y hy
    rw [h2] at he
    exact (hg.era x hx e he).ex.1
  · obtain ⟨x, hx, _, h2⟩ := same_eras h y hy
    rw [h2] at he
    rw [(hg.era x hx e he).co0]
  · obtain ⟨x, hx, _, h2⟩ := same_eras h y hy
    rw [h2]
    have := hg.eras x hx
    omega
end Go.Proofs.YtlideagcmhlkeaaDoor
