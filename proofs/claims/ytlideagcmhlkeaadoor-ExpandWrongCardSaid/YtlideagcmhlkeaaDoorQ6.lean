/- Texts of one proof, one behind the other: Fmt21f; Fmt21h; Plain21m; Plain23; Stor; Laid21; Shape; Open20. -/
import Derived.Test.YtlideagcmhlkeaaDoorQ5
import Derived.Deep.RegionHeld3
import Derived.Deep.CutBlock
import Derived.Deep.MidRow
import Derived.Test.YtlideagcmhlkeaaDoorRows
import Derived.Lib.LaidTab
import Derived.Stop.LaidErr
import Derived.Handed
import Derived.HandedShaped
import Derived.Deep.Slices
import Derived.Deep.Fields
import Derived.ChangeSame
import Derived.WideShapes

/- The walks of the abbreviations of FORMATs (chapter 21): format.Abbr and the reference's. -/
namespace Go.Proofs.YtlideagcmhlkeaaDoor
open Go.RowKit Go.Lib
set_option linter.unusedVariables false

theorem two_of2 {l : List UInt8} (h : P21.kind l = 2) : P21.two l = true := by
  obtain ⟨a, b, hs, _⟩ := P21.kind_is2 h
  unfold P21.two; rw [hs, h]; rfl
theorem two_kind {l : List UInt8} (h : P21.two l = true) : P21.kind l = 2 ∨ P21.kind l = 5 := by
  unfold P21.two at h
  simp only [Bool.and_eq_true, Bool.or_eq_true, decide_eq_true_eq] at h
  exact h.2
theorem parts_of {l : List UInt8} : P21.parts l = if P21.two l = true then ((P21.slash l).1, (P21.slash l).2.1, true) else ([], [], false) := rfl
theorem pct_len (s : ByteArray) : (P21.pct (P4.bl s)).1.length + (P21.pct (P4.bl s)).2.1.length ≤ s.size := by
  have := cut_len (P4.bl s) [37, 115]
  rwa [P4.bl_len] at this
theorem kind3_letter {l : List UInt8} (h : P21.kind l = 3) : P21.letter l = true := P21.kind_is3 h
def keepS {w V : World} {x : Int} {t : ByteArray} (W : World) : Prop := W.cell? ⟨V.heap.size, 0, none⟩ = some (.int .i64 x) ∧ W.cell? ⟨V.heap.size, 1, none⟩ = some (.string t) ∧ V.heap.size < W.heap.size ∧ Below w.heap.size w W
theorem keepA {w V W W' : World} {x : Int} {t : ByteArray} (hb : Below W.heap.size W W') (h : W.cell? ⟨V.heap.size, 0, none⟩ = some (.int .i64 x) ∧ W.cell? ⟨V.heap.size, 1, none⟩ = some (.string t) ∧ V.heap.size < W.heap.size ∧ Below w.heap.size w W) :
    W'.cell? ⟨V.heap.size, 0, none⟩ = some (.int .i64 x) ∧ W'.cell? ⟨V.heap.size, 1, none⟩ = some (.string t) ∧ V.heap.size < W'.heap.size ∧ Below w.heap.size w W' :=
  ⟨(hb.cell (p := ⟨V.heap.size, 0, none⟩) h.2.2.1).trans h.1, (hb.cell (p := ⟨V.heap.size, 1, none⟩) h.2.2.1).trans h.2.1, Nat.lt_of_lt_of_le h.2.2.1 hb.size, h.2.2.2.trans (hb.mono h.2.2.2.size)⟩
theorem belA {w V W : World} {x : Int} {t : ByteArray} (h : W.cell? ⟨V.heap.size, 0, none⟩ = some (.int .i64 x) ∧ W.cell? ⟨V.heap.size, 1, none⟩ = some (.string t) ∧ V.heap.size < W.heap.size ∧ Below w.heap.size w W) : Below w.heap.size w W := h.2.2.2
theorem abbrv_two0 {f lt : List UInt8} {off : Int} (h : P21.two f = true) : P21.abbrv f off 0 lt = ((P21.slash f).1, 0) := by unfold P21.abbrv; rw [if_pos h, if_pos rfl]
theorem abbrv_two1 {f lt : List UInt8} {off save : Int} (h : P21.two f = true) (hs : save ≠ 0) : P21.abbrv f off save lt = ((P21.slash f).2.1, 0) := by unfold P21.abbrv; rw [if_pos h, if_neg hs]
theorem abbrv_k0 {f lt : List UInt8} {off save : Int} (h : P21.two f = false) (hk : P21.kind f = 0) : P21.abbrv f off save lt = ([], 15) := by unfold P21.abbrv; rw [if_neg (by rw [h]; decide), hk]; rfl
theorem abbrv_k1 {f lt : List UInt8} {off save : Int} (h : P21.two f = false) (hk : P21.kind f = 1 ∨ P21.kind f = 5) : P21.abbrv f off save lt = (f, 0) := by unfold P21.abbrv; rw [if_neg (by rw [h]; decide)]; rcases hk with hk | hk <;> rw [hk] <;> rfl
theorem abbrv_k3 {f lt : List UInt8} {off save : Int} (h : P21.two f = false) (hk : P21.kind f = 3) : P21.abbrv f off save lt = P21.out ((P21.pct f).1 ++ lt ++ (P21.pct f).2.1) (P21.abbr ((P21.pct f).1 ++ lt ++ (P21.pct f).2.1)) := by unfold P21.abbrv; rw [if_neg (by rw [h]; decide), hk]; rfl
theorem abbrv_k4 {f lt : List UInt8} {off save : Int} (h : P21.two f = false) (hk : P21.kind f = 4) : P21.abbrv f off save lt = P21.out (P20.text (off + save)) (decide (P20.text (off + save) ≠ [])) := by unfold P21.abbrv; rw [if_neg (by rw [h]; decide), hk]; rfl
theorem cat3_run {P : Program} (a b c : List UInt8) (h : a.length + b.length + c.length ≤ 2000000) : (∀ W, (Op.stringOp .add (str a) (str b)).run P W = .ok (.string (str (a ++ b))) W) ∧ ∀ W, (Op.stringOp .add (str (a ++ b)) (str c)).run P W = .ok (.string (str (a ++ b ++ c))) W :=
  ⟨cat_run a b (by omega), cat_run (a ++ b) c (by rw [List.length_append]; omega)⟩
theorem out_pair (t : List UInt8) (b : Bool) : (.string (if b = true then str t else str []) : Value) = .string (str (P21.out t b).1) ∧ (if b = true then (0 : Int) else 15) = (P21.out t b).2 := by
  unfold P21.out; cases b <;> exact ⟨rfl, rfl⟩
set_option maxRecDepth 100000 in
set_option maxHeartbeats 8000000 in
theorem fabbr_any (s : ByteArray) (off save : Int) (lt : ByteArray) (w : World) (hs : s.size ≤ 500000) (hlt : lt.size ≤ 500000) (ho : -9223372036854775808 ≤ off ∧ off ≤ 9223372036854775807) (hsv : -9223372036854775808 ≤ save ∧ save ≤ 9223372036854775807) (hv : Vars21 w) :
    Calls Tryd.prog 17 #[.string s, .int .i64 off, .agg #[.int .i64 save, .string lt]] w fun e w' => e = .returned (.tuple #[.string (str (P21.abbrv (P4.bl s) off save (P4.bl lt)).1), .int .i64 (P21.abbrv (P4.bl s) off save (P4.bl lt)).2]) ∧ Below w.heap.size w w' := by
  have cP : Hid (∀ W, Vars21 W → Calls Tryd.prog 37 #[.string s] W fun e w' => e = .returned (.tuple #[.string (str (P21.parts (P4.bl s)).1), .string (str (P21.parts (P4.bl s)).2.1), .bool (P21.parts (P4.bl s)).2.2]) ∧ Below W.heap.size W w') := fun W h => parts_any s W (by omega) h
  have hB := Blk.new w 53 #[.int .i64 save, .string lt]
  have hb0 := (Below.refl w.heap.size w).alloc (Nat.le_refl _) (.cells #[.int .i64 save, .string lt] 53)
  have hv0 := hv.below hb0
  cases hT : P21.two (P4.bl s) with
  | true =>
    rw [parts_of, if_pos hT] at cP
    by_cases hz : save = 0
    · skip
      subst hz
      rw [abbrv_two0 hT]
      generalize P21.slash (P4.bl s) = U at cP ⊢
      clear hT
      go_enter Tryd.func17, Tryd.ntmps17
      go_wp2_with fail
      refine (cP.out _ hv0).mono ?_
      rintro e w1 ⟨rfl, hc1⟩
      have hB1 := hB.below hc1 hB.lt
      have hb1 := hb0.trans (hc1.mono hb0.size)
      have k0 := (hB1.cell 0).trans rfl
      clear hB hb0 hv0 hB1 hc1
      go_wp2_with fail
      go_ret2
      exact ⟨rfl, hb1⟩
    · skip
      rw [abbrv_two1 hT hz]
      have hz2 : (save == 0) = false := by rw [beq_eq_false_iff_ne]; exact hz
      generalize P21.slash (P4.bl s) = U at cP ⊢
      clear hT hz
      go_enter Tryd.func17, Tryd.ntmps17
      go_wp2_with fail
      refine (cP.out _ hv0).mono ?_
      rintro e w1 ⟨rfl, hc1⟩
      have hB1 := hB.below hc1 hB.lt
      have hb1 := hb0.trans (hc1.mono hb0.size)
      have k0 := (hB1.cell 0).trans rfl
      clear hB hb0 hv0 hB1 hc1
      go_wp2_with fail
      go_ret2
      exact ⟨rfl, hb1⟩
  | false =>
    rw [parts_of, if_neg (by rw [hT]; decide)] at cP
    have cK : Hid (∀ W, Vars21 W → Calls Tryd.prog 36 #[.string s] W fun e w' => e = .returned (.int .i64 (P21.kind (P4.bl s))) ∧ Below W.heap.size W w') := fun W h => kind_any s W (by omega) h
    rcases P21.kind_cases (P4.bl s) with hK | hK | hK | hK | hK | hK
    · rw [hK] at cK
      rw [abbrv_k0 hT hK]
      clear hT hK
      go_enter Tryd.func17, Tryd.ntmps17
      go_wp2_with fail
      refine (cP.out _ hv0).mono ?_
      rintro e w1 ⟨rfl, hc1⟩
      have hB1 := hB.below hc1 hB.lt
      have hb1 := hb0.trans (hc1.mono hb0.size)
      have hv1 := hv.below hb1
      clear hB hb0 hv0 hc1
      go_wp2_with fail
      refine (cK.out _ hv1).mono ?_
      rintro e w2 ⟨rfl, hc2⟩
      have hB2 := hB1.below hc2 hB1.lt
      have hb2 := hb1.trans (hc2.mono hb1.size)
      have hv2 := hv.below hb2
      clear hB1 hb1 hv1 hc2
      clear hB2 hv2
      go_wp2_with fail
      go_ret2
      exact ⟨rfl, hb2⟩
    · rw [hK] at cK
      rw [abbrv_k1 hT (.inl hK)]
      clear hT hK
      go_enter Tryd.func17, Tryd.ntmps17
      go_wp2_with fail
      refine (cP.out _ hv0).mono ?_
      rintro e w1 ⟨rfl, hc1⟩
      have hB1 := hB.below hc1 hB.lt
      have hb1 := hb0.trans (hc1.mono hb0.size)
      have hv1 := hv.below hb1
      clear hB hb0 hv0 hc1
      go_wp2_with fail
      refine (cK.out _ hv1).mono ?_
      rintro e w2 ⟨rfl, hc2⟩
      have hB2 := hB1.below hc2 hB1.lt
      have hb2 := hb1.trans (hc2.mono hb1.size)
      have hv2 := hv.below hb2
      clear hB1 hb1 hv1 hc2
      clear hB2 hv2
      go_wp2_with fail
      go_ret2
      exact ⟨rfl, hb2⟩
    · rw [hK] at cK
      rw [two_of2 hK] at hT; cases hT
    · rw [hK] at cK
      rw [abbrv_k3 hT hK]
      have cL : Hid (∀ W, Vars21 W → Calls Tryd.prog 50 #[.string s] W fun e w' => e = .returned (.tuple #[.string (str (P21.pct (P4.bl s)).1), .string (str (P21.pct (P4.bl s)).2.1), .bool (P21.letter (P4.bl s))]) ∧ Below W.heap.size W w') := fun W h => around_any s W (by omega) h
      have hpl := pct_len s
      have hll := P4.bl_len lt
      have hcs := cat3_run (P := Tryd.prog) (P21.pct (P4.bl s)).1 (P4.bl lt) (P21.pct (P4.bl s)).2.1 (by omega)
      have cA : Hid (∀ W, Calls Tryd.prog 52 #[.string (str ((P21.pct (P4.bl s)).1 ++ P4.bl lt ++ (P21.pct (P4.bl s)).2.1))] W fun e w' => e = .returned (.bool (P21.abbr ((P21.pct (P4.bl s)).1 ++ P4.bl lt ++ (P21.pct (P4.bl s)).2.1))) ∧ Below W.heap.size W w') := fun W => abbr_any (str _) W (by rw [str_size, List.length_append, List.length_append]; omega)
      have hop := out_pair ((P21.pct (P4.bl s)).1 ++ P4.bl lt ++ (P21.pct (P4.bl s)).2.1) (P21.abbr ((P21.pct (P4.bl s)).1 ++ P4.bl lt ++ (P21.pct (P4.bl s)).2.1))
      rw [← hop.2, ← hop.1]
      clear hop hpl hll hT hK
      rw [str_bl] at hcs
      generalize P21.abbr ((P21.pct (P4.bl s)).1 ++ P4.bl lt ++ (P21.pct (P4.bl s)).2.1) = Z at cA ⊢
      generalize str ((P21.pct (P4.bl s)).1 ++ P4.bl lt ++ (P21.pct (P4.bl s)).2.1) = SZ at cA hcs ⊢
      generalize str ((P21.pct (P4.bl s)).1 ++ P4.bl lt) = SY at hcs
      generalize str (P21.pct (P4.bl s)).1 = SA at cL hcs
      generalize str (P21.pct (P4.bl s)).2.1 = SB at cL hcs
      obtain ⟨hc1', hc2'⟩ := hcs
      have HC := Lib.hid (And.intro hc1' hc2')
      clear hc1' hc2'
      have cR : Hid (∀ W, Calls Tryd.prog 51 #[.string SZ, .bool Z] W fun e w' => e = .returned (.tuple #[.string (if Z = true then SZ else str []), .int .i64 (if Z = true then 0 else 15)]) ∧ w' = W) := fun W => right_any SZ Z W
      generalize (if Z = true then SZ else str []) = R1 at cR ⊢
      generalize (if Z = true then (0 : Int) else 15) = R2 at cR ⊢
      go_enter Tryd.func17, Tryd.ntmps17
      go_wp2_with fail
      refine (cP.out _ hv0).mono ?_
      rintro e w1 ⟨rfl, hc1⟩
      have hB1 := hB.below hc1 hB.lt
      have hb1 := hb0.trans (hc1.mono hb0.size)
      have hv1 := hv.below hb1
      clear hB hb0 hv0 hc1
      go_wp2_with fail
      refine (cK.out _ hv1).mono ?_
      rintro e w2 ⟨rfl, hc2⟩
      have hB2 := hB1.below hc2 hB1.lt
      have hb2 := hb1.trans (hc2.mono hb1.size)
      have hv2 := hv.below hb2
      clear hB1 hb1 hv1 hc2
      go_wp2_with fail
      refine (cL.out _ hv2).mono ?_
      rintro e w3 ⟨rfl, hc3⟩
      have hB3 := hB2.below hc3 hB2.lt
      have hb3 := hb2.trans (hc3.mono hb2.size)
      have HS := Lib.hid (show w3.cell? ⟨w.heap.size, 0, none⟩ = some (.int .i64 save) ∧ w3.cell? ⟨w.heap.size, 1, none⟩ = some (.string lt) ∧ w.heap.size < w3.heap.size ∧ Below w.heap.size w w3 from ⟨(hB3.cell 0).trans rfl, (hB3.cell 1).trans rfl, hB3.lt, hb3⟩)
      clear hB2 hb2 hv2 hB3 hc3 hb3
      have hc1' := HC.out.1
      have hc2' := HC.out.2
      go_wp2_with fail
      go_region_held3 (fun W => W.cell? ⟨w.heap.size, 0, none⟩ = some (.int .i64 save) ∧ W.cell? ⟨w.heap.size, 1, none⟩ = some (.string lt) ∧ w.heap.size < W.heap.size ∧ Below w.heap.size w W) (first | exact keepA ((Below.refl _ _).drew) HS.out | exact keepA (by assumption) (by assumption) | assumption) (first | (go_at_call 52; refine (cA.out _).mono ?_; rintro e w' ⟨rfl, hb⟩) | (go_at_call 51; refine (cR.out _).mono ?_; rintro e w' ⟨rfl, rfl⟩))
      all_goals
        have hb4 := belA (by assumption)
        clear HS
        go_wp2_with fail
        go_ret2
        exact ⟨rfl, hb4⟩
    · rw [hK] at cK
      rw [abbrv_k4 hT hK]
      clear hT hK
      have cA : Hid (∀ W, Calls Tryd.prog 53 #[.int .i64 off, .int .i64 save] W fun e w' => e = .returned (.tuple #[.int .i64 (if inZ (off + save) = true then off + save else 0), .bool (inZ (off + save))]) ∧ w' = W) := fun W => add_any off save W ho hsv
      have hX : ∃ X : Int, (if inZ (off + save) = true then off + save else 0) = X ∧ -9223372036854775808 ≤ X ∧ X ≤ 9223372036854775807 ∧ (if (inZ (off + save) && decide (P20.text X ≠ [])) = true then (P20.text X, (0 : Int)) else ([], 15)) = P21.out (P20.text (off + save)) (decide (P20.text (off + save) ≠ [])) := by
        by_cases hq : -9223372036854775808 ≤ off + save ∧ off + save ≤ 9223372036854775807
        · have hi : inZ (off + save) = true := by unfold inZ; rw [decide_eq_true hq.1, decide_eq_true hq.2]; rfl
          refine ⟨off + save, by rw [if_pos hi], hq.1, hq.2, ?_⟩
          rw [hi, Bool.true_and]; rfl
        · have hi : inZ (off + save) = false := by
            unfold inZ
            by_cases q : -9223372036854775808 ≤ off + save
            · rw [decide_eq_false (p := off + save ≤ 9223372036854775807) (fun r => hq ⟨q, r⟩), Bool.and_false]
            · rw [decide_eq_false q]; rfl
          refine ⟨0, by rw [if_neg (by rw [hi]; decide)], by decide, by decide, ?_⟩
          rw [hi, P20.text_out (x := off + save) (by omega)]; rfl
      obtain ⟨X, hX1, hX2, hX3, hX4⟩ := hX
      rw [hX1] at cA
      rw [← hX4]
      have cT : Hid (∀ W, Calls Tryd.prog 24 #[.int .i64 X] W fun e w' => e = .returned (.string (str (P20.text X))) ∧ Below W.heap.size W w') := fun W => ntext_any X W hX2 hX3
      clear hX1 hX2 hX3 hX4
      have hne : (P20.text X ≠ [] ∧ ((str (P20.text X)).toList.isEmpty = false ∧ ¬ (str (P20.text X)).toList = [])) ∨ (¬ P20.text X ≠ [] ∧ (str (P20.text X)).toList.isEmpty = true ∧ (str (P20.text X)).toList = []) := by
        rw [str_toList]
        by_cases q : P20.text X = []
        · exact .inr ⟨fun r => r q, by rw [q]; rfl, q⟩
        · exact .inl ⟨q, by rw [List.isEmpty_eq_false_iff]; exact q, q⟩
      generalize inZ (off + save) = Z at cA ⊢
      generalize P20.text X = t at cT hne ⊢
      have cR : Hid (∀ (b : Bool) W, Calls Tryd.prog 51 #[.string (str t), .bool b] W fun e w' => e = .returned (.tuple #[.string (if b = true then str t else str []), .int .i64 (if b = true then 0 else 15)]) ∧ w' = W) := fun b W => right_any (str t) b W
      rw [show (.string (str (if (Z && decide (t ≠ [])) = true then (t, (0 : Int)) else ([], 15)).1) : Value) = .string (if (Z && decide (t ≠ [])) = true then str t else str []) by split <;> rfl, show (if (Z && decide (t ≠ [])) = true then (t, (0 : Int)) else ([], 15)).2 = if (Z && decide (t ≠ [])) = true then 0 else 15 by split <;> rfl]
      generalize str t = ST at cT cR hne ⊢
      rcases hne with ⟨hn1, hn2, hn3⟩ | ⟨hn1, hn2, hn3⟩
      · rw [decide_eq_true hn1]
        clear hn1
        cases Z with
        | true =>
          go_enter Tryd.func17, Tryd.ntmps17
          go_wp2_with fail
          refine (cP.out _ hv0).mono ?_
          rintro e w1 ⟨rfl, hc1⟩
          have hB1 := hB.below hc1 hB.lt
          have hb1 := hb0.trans (hc1.mono hb0.size)
          have hv1 := hv.below hb1
          clear hB hb0 hv0 hc1
          go_wp2_with fail
          refine (cK.out _ hv1).mono ?_
          rintro e w2 ⟨rfl, hc2⟩
          have hB2 := hB1.below hc2 hB1.lt
          have hb2 := hb1.trans (hc2.mono hb1.size)
          have hv2 := hv.below hb2
          clear hB1 hb1 hv1 hc2
          have k0 := (hB2.cell 0).trans rfl
          have k1 := (hB2.cell 1).trans rfl
          go_wp2_with (go_at_call 53; refine (cA.out _).mono ?_; rintro e w' ⟨rfl, rfl⟩)
          refine (cT.out _).mono ?_
          rintro e w4 ⟨rfl, hc4⟩
          have hb4 := hb2.trans (hc4.mono hb2.size)
          clear k0 k1 hB2 hv2 hc4
          go_wp2_with fail
          refine (cR.out _ _).mono ?_
          rintro e w5 ⟨rfl, rfl⟩
          go_wp2_with fail
          go_ret2
          exact ⟨rfl, hb4⟩
        | false =>
          go_enter Tryd.func17, Tryd.ntmps17
          go_wp2_with fail
          refine (cP.out _ hv0).mono ?_
          rintro e w1 ⟨rfl, hc1⟩
          have hB1 := hB.below hc1 hB.lt
          have hb1 := hb0.trans (hc1.mono hb0.size)
          have hv1 := hv.below hb1
          clear hB hb0 hv0 hc1
          go_wp2_with fail
          refine (cK.out _ hv1).mono ?_
          rintro e w2 ⟨rfl, hc2⟩
          have hB2 := hB1.below hc2 hB1.lt
          have hb2 := hb1.trans (hc2.mono hb1.size)
          have hv2 := hv.below hb2
          clear hB1 hb1 hv1 hc2
          have k0 := (hB2.cell 0).trans rfl
          have k1 := (hB2.cell 1).trans rfl
          go_wp2_with (go_at_call 53; refine (cA.out _).mono ?_; rintro e w' ⟨rfl, rfl⟩)
          refine (cT.out _).mono ?_
          rintro e w4 ⟨rfl, hc4⟩
          have hb4 := hb2.trans (hc4.mono hb2.size)
          clear k0 k1 hB2 hv2 hc4
          go_wp2_with fail
          refine (cR.out _ _).mono ?_
          rintro e w5 ⟨rfl, rfl⟩
          go_wp2_with fail
          go_ret2
          exact ⟨rfl, hb4⟩
      · rw [decide_eq_false hn1]
        clear hn1
        cases Z with
        | true =>
          go_enter Tryd.func17, Tryd.ntmps17
          go_wp2_with fail
          refine (cP.out _ hv0).mono ?_
          rintro e w1 ⟨rfl, hc1⟩
          have hB1 := hB.below hc1 hB.lt
          have hb1 := hb0.trans (hc1.mono hb0.size)
          have hv1 := hv.below hb1
          clear hB hb0 hv0 hc1
          go_wp2_with fail
          refine (cK.out _ hv1).mono ?_
          rintro e w2 ⟨rfl, hc2⟩
          have hB2 := hB1.below hc2 hB1.lt
          have hb2 := hb1.trans (hc2.mono hb1.size)
          have hv2 := hv.below hb2
          clear hB1 hb1 hv1 hc2
          have k0 := (hB2.cell 0).trans rfl
          have k1 := (hB2.cell 1).trans rfl
          go_wp2_with (go_at_call 53; refine (cA.out _).mono ?_; rintro e w' ⟨rfl, rfl⟩)
          refine (cT.out _).mono ?_
          rintro e w4 ⟨rfl, hc4⟩
          have hb4 := hb2.trans (hc4.mono hb2.size)
          clear k0 k1 hB2 hv2 hc4
          go_wp2_with fail
          refine (cR.out _ _).mono ?_
          rintro e w5 ⟨rfl, rfl⟩
          go_wp2_with fail
          go_ret2
          exact ⟨rfl, hb4⟩
        | false =>
          go_enter Tryd.func17, Tryd.ntmps17
          go_wp2_with fail
          refine (cP.out _ hv0).mono ?_
          rintro e w1 ⟨rfl, hc1⟩
          have hB1 := hB.below hc1 hB.lt
          have hb1 := hb0.trans (hc1.mono hb0.size)
          have hv1 := hv.below hb1
          clear hB hb0 hv0 hc1
          go_wp2_with fail
          refine (cK.out _ hv1).mono ?_
          rintro e w2 ⟨rfl, hc2⟩
          have hB2 := hB1.below hc2 hB1.lt
          have hb2 := hb1.trans (hc2.mono hb1.size)
          have hv2 := hv.below hb2
          clear hB1 hb1 hv1 hc2
          have k0 := (hB2.cell 0).trans rfl
          have k1 := (hB2.cell 1).trans rfl
          go_wp2_with (go_at_call 53; refine (cA.out _).mono ?_; rintro e w' ⟨rfl, rfl⟩)
          refine (cT.out _).mono ?_
          rintro e w4 ⟨rfl, hc4⟩
          have hb4 := hb2.trans (hc4.mono hb2.size)
          clear k0 k1 hB2 hv2 hc4
          go_wp2_with fail
          refine (cR.out _ _).mono ?_
          rintro e w5 ⟨rfl, rfl⟩
          go_wp2_with fail
          go_ret2
          exact ⟨rfl, hb4⟩
    · rw [hK] at cK
      rw [abbrv_k1 hT (.inr hK)]
      clear hT hK
      go_enter Tryd.func17, Tryd.ntmps17
      go_wp2_with fail
      refine (cP.out _ hv0).mono ?_
      rintro e w1 ⟨rfl, hc1⟩
      have hB1 := hB.below hc1 hB.lt
      have hb1 := hb0.trans (hc1.mono hb0.size)
      have hv1 := hv.below hb1
      clear hB hb0 hv0 hc1
      go_wp2_with fail
      refine (cK.out _ hv1).mono ?_
      rintro e w2 ⟨rfl, hc2⟩
      have hB2 := hB1.below hc2 hB1.lt
      have hb2 := hb1.trans (hc2.mono hb1.size)
      have hv2 := hv.below hb2
      clear hB1 hb1 hv1 hc2
      clear hB2 hv2
      go_wp2_with fail
      go_ret2
      exact ⟨rfl, hb2⟩
end Go.Proofs.YtlideagcmhlkeaaDoor

/- The walk of format.Check (chapter 21). -/
namespace Go.Proofs.YtlideagcmhlkeaaDoor
open Go.RowKit Go.Lib
set_option linter.unusedVariables false

def lets (L : List RV) : List (List UInt8) := L.map fun r => P4.bl r.letter
theorem lets_take {L : List RV} {k : Nat} {r : RV} (h : L[k]? = some r) : (lets L).take (k + 1) = (lets L).take k ++ [P4.bl r.letter] := by
  rw [List.take_add_one, show (lets L)[k]? = some (P4.bl r.letter) by unfold lets; rw [List.getElem?_map, h]; rfl]; rfl
/-- the letters of a row of strings -/
structure LetsIn (w : World) (v : Value) (ls : List (List UInt8)) : Prop where
  form : ∃ A cap, v = .slice A ls.length cap ∧ ∀ k x, ls[k]? = some x → ∃ b, A = some ⟨b, 0, none⟩ ∧ b < w.heap.size ∧ w.cell? ⟨b, k, none⟩ = some (.string (str x))
theorem LetsIn.of_own {w : World} {base : Nat} {v : Value} {ls : List (List UInt8)} (h : w.ownsRow base 9 1 v ls.length (svals ls)) : LetsIn w v ls := by
  rcases Nat.eq_zero_or_pos ls.length with q | q
  · rcases h.2 with ⟨rfl, _⟩ | ⟨g, cap, cur, rfl, _⟩
    · refine ⟨none, 0, by rw [q], fun k x hx => ?_⟩
      have := (List.getElem?_eq_some_iff.mp hx).1; omega
    · refine ⟨some ⟨g, 0, none⟩, cap, rfl, fun k x hx => ?_⟩
      have := (List.getElem?_eq_some_iff.mp hx).1; omega
  · obtain ⟨B, cap, rfl, hB0, hB1, hcap, hcs⟩ := own_form h q
    exact ⟨some ⟨B, 0, none⟩, cap, rfl, fun k x hx => ⟨B, rfl, hB1, hcs k _ (by unfold svals; rw [List.getElem?_map, hx]; rfl)⟩⟩
theorem check_def (f : List UInt8) (off kd save : Int) (ls : List (List UInt8)) (sv : List Int) : P21.check f off kd save ls sv = if P21.kind f = 0 then 15 else if P21.kind f = 3 then (if ((if kd = 2 then ls else [[]]).all fun x => P21.abbr ((P21.pct f).1 ++ x ++ (P21.pct f).2.1)) = true then 0 else 15) else if P21.kind f < 4 then 0 else if (P20.expansion kd off save sv).2 ≠ 0 ∨ (P21.kind f = 5 ∧ (P20.expansion kd off save sv).1 ≠ f) then 15 else 0 := rfl
theorem two_not3 {l : List UInt8} (h : P21.kind l = 3) : P21.two l = false := by
  cases q : P21.two l with
  | false => rfl
  | true => rcases two_kind q with q | q <;> rw [h] at q <;> exact absurd q (by decide)
theorem out2 (t : List UInt8) (b : Bool) : (P21.out t b).2 = if b = true then 0 else 15 := by unfold P21.out; cases b <;> rfl
/-- all so far, and one more -/
theorem all_one {α : Type} {p : α → Bool} {l : List α} {k : Nat} {x : α} (h : l[k]? = some x) (ha : (l.take k).all p = true) (hx : p x = true) : (l.take (k + 1)).all p = true := by
  rw [List.take_add_one, h, List.all_append, ha]; simp [hx]
theorem all_bad {α : Type} {p : α → Bool} {l : List α} {k : Nat} {x : α} (h : l[k]? = some x) (hx : p x = false) : l.all p = false := by
  cases q : l.all p with
  | false => rfl
  | true => rw [List.all_eq_true] at q; rw [q x (List.mem_of_getElem? h)] at hx; cases hx

end Go.Proofs.YtlideagcmhlkeaaDoor

/- The plain law of FORMATs of sets that are made by numbers (chapter 21): %z, what stands for it, letters; no program in sight. -/
namespace Go.Proofs.YtlideagcmhlkeaaDoor
set_option linter.unusedVariables false

namespace P21
theorem ofrom_y {y : Int} (hy : y ≠ 0) : ∀ l : List Int, (∀ x ∈ l, x = 0 ∨ x = y) → P20.otherFrom y l = (y, true)
  | [], _ => by rw [P20.otherFrom, decide_eq_true hy]
  | a :: l, h => by
    have ih := ofrom_y hy l fun x hx => h x (List.mem_cons_of_mem _ hx)
    rw [P20.otherFrom]
    rcases h a (List.mem_cons_self ..) with rfl | rfl
    · rw [if_pos rfl, ih]
    · rw [if_neg hy, if_neg (by simp), ih]
theorem other_good {y : Int} (hy : y ≠ 0) : ∀ l : List Int, (∀ x ∈ l, x = 0 ∨ x = y) → y ∈ l → P20.other l = (y, true)
  | [], _, hm => by cases hm
  | a :: l, h, hm => by
    have hl : ∀ x ∈ l, x = 0 ∨ x = y := fun x hx => h x (List.mem_cons_of_mem _ hx)
    unfold P20.other
    rw [P20.otherFrom]
    by_cases h0 : a = 0
    · rw [if_pos h0]
      refine other_good hy l hl ?_
      rcases List.mem_cons.1 hm with h1 | h1
      · exact absurd (h1.trans h0) hy
      · exact h1
    · rw [if_neg h0, if_neg (by simp)]
      rcases h a (List.mem_cons_self ..) with h1 | rfl
      · exact absurd h1 h0
      · exact ofrom_y hy l hl
/-- what stands for %z -/
def xt (off y : Int) : List UInt8 := P20.text off ++ 47 :: P20.text (off + y)
/-- offset and save within a day, and with each other -/
structure Fits (off y : Int) : Prop where
  o0 : -86399 ≤ off
  o1 : off ≤ 86399
  s0 : -86399 ≤ off + y
  s1 : off + y ≤ 86399
section
variable {off y : Int} (h : Fits off y)
include h
theorem Fits.n1 : num (P20.text off) = true := num_of_text h.o0 h.o1
theorem Fits.n2 : num (P20.text (off + y)) = true := num_of_text h.s0 h.s1
theorem xt_slash : slash (xt off y) = (P20.text off, P20.text (off + y), true) := slash_at fun c hc q => by
  rw [q] at hc; have := num_mem h.n1 _ hc; revert this; decide
theorem xt_kind : kind (xt off y) = 5 := kind5s (xt_slash h) h.n1 h.n2
theorem xt_two : two (xt off y) = true := by unfold two; rw [xt_slash h, xt_kind h]; rfl
theorem xt_parts : parts (xt off y) = (P20.text off, P20.text (off + y), true) := by unfold parts; rw [if_pos (xt_two h), xt_slash h]
theorem xt_exp {l : List Int} (s : Int) (hl : P20.other l = (y, true)) : P20.expansion 2 off s l = (xt off y, 0) := by
  unfold P20.expansion
  rw [if_neg (by decide), if_neg (by decide), if_pos rfl, hl, if_pos rfl]
  unfold P20.both
  rw [if_neg (by rintro (q | q); exact P20.text_ne h.o0 h.o1 q; exact P20.text_ne h.s0 h.s1 q)]
  rfl
theorem xt_abbr (s : Int) (lt : List UInt8) : abbrv (xt off y) off s lt = (if s = 0 then P20.text off else P20.text (off + y), 0) := by
  unfold abbrv
  rw [if_pos (xt_two h), xt_slash h]
  by_cases h0 : s = 0 <;> simp [h0]
theorem xt_abbr' (o s : Int) (lt : List UInt8) : abbrv (xt off y) o s lt = (if s = 0 then P20.text off else P20.text (off + y), 0) := by
  unfold abbrv
  rw [if_pos (xt_two h), xt_slash h]
  by_cases h0 : s = 0 <;> simp [h0]
theorem z_abbr {s : Int} (hs : s = 0 ∨ s = y) (lt : List UInt8) : abbrv [37, 122] off s lt = (if s = 0 then P20.text off else P20.text (off + y), 0) := by
  have ht : two [37, 122] = false := by decide +kernel
  unfold abbrv
  rw [if_neg (by rw [ht]; decide), if_neg (by rw [kind_z]; decide), if_pos kind_z]
  by_cases h0 : s = 0
  · subst h0
    rw [if_pos rfl, Int.add_zero, out, decide_eq_true (P20.text_ne h.o0 h.o1)]; rfl
  · rw [hs.resolve_left h0, if_neg (by rw [← hs.resolve_left h0]; exact h0), out, decide_eq_true (P20.text_ne h.s0 h.s1)]; rfl
theorem z_check {l : List Int} (s : Int) (ls : List (List UInt8)) (hl : P20.other l = (y, true)) : check [37, 122] off 2 s ls l = 0 := by
  unfold check
  rw [kind_z, if_neg (by decide), if_neg (by decide), if_neg (by decide), xt_exp h s hl, if_neg (by simp)]
theorem xt_check {l : List Int} (s : Int) (ls : List (List UInt8)) (hl : P20.other l = (y, true)) : check (xt off y) off 2 s ls l = 0 := by
  unfold check
  rw [xt_kind h, if_neg (by decide), if_neg (by decide), if_neg (by decide), xt_exp h s hl, if_neg (by simp)]
theorem xt_wrong {o2 : Int} (h2 : Fits o2 y) (hne : o2 ≠ off) {l : List Int} (s : Int) (ls : List (List UInt8)) (hl : P20.other l = (y, true)) : check (xt off y) o2 2 s ls l = 15 := by
  have hx : xt o2 y ≠ xt off y := fun q => by
    have e := xt_slash h2
    rw [q, xt_slash h] at e
    injection e with e1 e2
    exact hne (P20.text_inj h2.o0 h2.o1 h.o0 h.o1 e1.symm)
  unfold check
  rw [xt_kind h, if_neg (by decide), if_neg (by decide), if_neg (by decide), xt_exp h2 s hl, if_pos (.inr ⟨rfl, hx⟩)]
end
end P21
/-- the offset of an era by a number -/
def offOf (o : Int) : Int := (o.tmod 49 - 24) * 1800
theorem offOf_bd {o : Int} (h : 0 ≤ o) : -43200 ≤ offOf o ∧ offOf o ≤ 43200 := by
  unfold offOf
  rw [Int.tmod_eq_emod_of_nonneg h]
  omega
theorem fits_of {D : List Int} {off : Int} (h : -43200 ≤ off ∧ off ≤ 70000) : P21.Fits off (P17.sv D) := by
  have := P17.sv_cases D
  exact ⟨by omega, by omega, by omega, by omega⟩
theorem P17.Good.other {D : List Int} {nm : ByteArray} {L : List RV} (h : P17.Good D nm L) : P20.other (svs L) = (P17.sv D, true) := by
  refine P21.other_good (P17.sv_ne D) _ (fun x hx => ?_) ?_
  · unfold svs at hx
    obtain ⟨r, hr, rfl⟩ := List.mem_map.1 hx
    exact h.saves r hr
  · obtain ⟨r, hr, e⟩ := h.has
    exact List.mem_map.2 ⟨r, hr, e⟩
theorem P17.Good.sv {D : List Int} {nm : ByteArray} {L : List RV} (h : P17.Good D nm L) : ∀ x ∈ svs L, x = 0 ∨ x = P17.sv D := fun x hx => by
  unfold svs at hx
  obtain ⟨r, hr, rfl⟩ := List.mem_map.1 hx
  exact h.saves r hr
theorem P17.Good.svOk {D : List Int} {nm : ByteArray} {L : List RV} (h : P17.Good D nm L) : SvOk L := fun y hy => by
  have := P17.sv_cases D
  rcases h.sv y hy with rfl | rfl <;> omega
theorem P17.isLet_size {b : ByteArray} (h : P17.isLet b) : b.size ≤ 2 := by rcases h with rfl | rfl | rfl | rfl <;> decide
theorem P17.Good.lets {D : List Int} {nm : ByteArray} {L : List RV} (h : P17.Good D nm L) : ∀ x ∈ lets L, x = [] ∨ x = [83] ∨ x = [68] ∨ x = [68, 84] := fun x hx => by
  unfold Go.Proofs.YtlideagcmhlkeaaDoor.lets at hx
  obtain ⟨r, hr, rfl⟩ := List.mem_map.1 hx
  rcases h.letters r hr with e | e | e | e <;> rw [e]
  · exact .inl rfl
  · exact .inr (.inl rfl)
  · exact .inr (.inr (.inl rfl))
  · exact .inr (.inr (.inr rfl))
end Go.Proofs.YtlideagcmhlkeaaDoor

/- Sources of layer 23, made of numbers: what Expand and Contract answer there (the plain law of chapter 30). No function of the program. -/
namespace Go.Proofs.YtlideagcmhlkeaaDoor
set_option linter.unusedVariables false

/-- the FORMATs of layer 23 -/
def isFmt23 (b : ByteArray) : Prop := b = ⟨#[76, 77, 84]⟩ ∨ b = ⟨#[71, 77, 84, 47, 66, 83, 84]⟩ ∨ b = ⟨#[69, 37, 115, 83, 84]⟩ ∨ b = ⟨#[37, 122]⟩ ∨ b = ⟨#[67, 69, 84, 47, 67, 69, 83, 84]⟩ ∨ b = ⟨#[87, 83, 84]⟩
/-- an era of layer 23, whose set has one save other than 0 -/
structure GoodE (R : List RV) (e : EV) : Prop where
  off : -42300 ≤ e.off ∧ e.off ≤ 42300
  kind : e.kind = 0 ∨ e.kind = 1 ∨ e.kind = 2
  fmt : isFmt23 e.fmt
  save : 0 ≤ e.save ∧ e.save ≤ 7200
  set : e.kind = 2 → ∃ y, (y = 3600 ∨ y = 1800 ∨ y = 7200 ∨ y = -3600) ∧ P20.other (svs (ofSet R e.set)) = (y, true)
/-- FORMATs of layer 23: %z, or one that is no number -/
theorem fmt23_kind {b : ByteArray} (h : isFmt23 b) : b = ⟨#[37, 122]⟩ ∨ (P21.kind (P4.bl b) ≠ 4 ∧ P21.kind (P4.bl b) ≠ 5 ∧ b ≠ ⟨#[37, 122]⟩) := by
  rcases h with rfl | rfl | rfl | rfl | rfl | rfl
  · exact .inr (by decide +kernel)
  · exact .inr (by decide +kernel)
  · exact .inr (by decide +kernel)
  · exact .inl rfl
  · exact .inr (by decide +kernel)
  · exact .inr (by decide +kernel)
theorem fmt23_size {b : ByteArray} (h : isFmt23 b) : b.size ≤ 8 := by
  rcases h with rfl | rfl | rfl | rfl | rfl | rfl <;> decide
theorem abbrv_num {o : Int} (h0 : -86399 ≤ o) (h1 : o ≤ 86399) (off s : Int) (lt : List UInt8) : P21.abbrv (P20.text o) off s lt = (P20.text o, 0) := by
  have hn := P21.num_of_text h0 h1
  have hk := P21.kind5 hn
  have ht : P21.two (P20.text o) = false := by
    have hs : (P21.slash (P20.text o)).2.2 = false := P21.slash_no fun c hc q => by
      rw [q] at hc; have := P21.num_mem hn _ hc; revert this; decide
    rw [P21.two_eq, hs]; rfl
  unfold P21.abbrv
  rw [if_neg (by rw [ht]; decide), if_neg (by rw [hk]; decide), if_neg (by rw [hk]; decide), if_neg (by rw [hk]; decide)]
theorem abbrv_z {o s : Int} (h0 : -86399 ≤ o + s) (h1 : o + s ≤ 86399) (lt : List UInt8) : P21.abbrv [37, 122] o s lt = (P20.text (o + s), 0) := by
  have ht : P21.two [37, 122] = false := by decide +kernel
  unfold P21.abbrv
  rw [if_neg (by rw [ht]; decide), if_neg (by rw [P21.kind_z]; decide), if_pos P21.kind_z, P21.out, decide_eq_true (P20.text_ne h0 h1)]
  rfl
/-- the saves that are asked of an era -/
def saves23 (R : List RV) (e : EV) : List Int := if e.kind = 2 then [0, (P20.other (svs (ofSet R e.set))).1] else if e.kind = 1 then [e.save] else [0]
theorem GoodE.num {R : List RV} {e : EV} (h : GoodE R e) : ∃ l : List UInt8, num30 R e = (str l, 0) ∧ P21.kind l = 5 ∧ ∀ s ∈ saves23 R e, ∀ lt, P21.abbrv [37, 122] e.off s lt = P21.abbrv l e.off s lt := by
  have h1 := h.off; have h2 := h.save
  rcases h.kind with k | k | k
  · refine ⟨P20.text e.off, ?_, P21.kind5 (P21.num_of_text (by omega) (by omega)), fun s hs lt => ?_⟩
    · unfold num30
      rw [k]
      have : P20.expansion 0 e.off e.save (svs (if (0 : Int) = 2 then ofSet R e.set else [])) = (P20.text e.off, 0) := by
        unfold P20.expansion P20.one
        rw [if_pos rfl, if_neg (P20.text_ne (by omega) (by omega))]
      rw [this]
    · unfold saves23 at hs
      rw [if_neg (by omega), if_neg (by omega)] at hs
      obtain rfl := List.mem_singleton.1 hs
      rw [abbrv_num (by omega) (by omega), abbrv_z (by omega) (by omega), Int.add_zero]
  · refine ⟨P20.text (e.off + e.save), ?_, P21.kind5 (P21.num_of_text (by omega) (by omega)), fun s hs lt => ?_⟩
    · unfold num30
      rw [k]
      have : P20.expansion 1 e.off e.save (svs (if (1 : Int) = 2 then ofSet R e.set else [])) = (P20.text (e.off + e.save), 0) := by
        unfold P20.expansion P20.one
        rw [if_neg (by decide), if_pos rfl, if_neg (P20.text_ne (by omega) (by omega))]
      rw [this]
    · unfold saves23 at hs
      rw [if_neg (by omega), if_pos k] at hs
      obtain rfl := List.mem_singleton.1 hs
      rw [abbrv_num (by omega) (by omega), abbrv_z (by omega) (by omega)]
  · obtain ⟨y, hy, ho⟩ := h.set k
    have hF : P21.Fits e.off y := ⟨by omega, by omega, by omega, by omega⟩
    refine ⟨P21.xt e.off y, ?_, P21.xt_kind hF, fun s hs lt => ?_⟩
    · unfold num30
      rw [k, if_pos rfl, P21.xt_exp hF e.save ho]
    · unfold saves23 at hs
      rw [if_pos k, ho] at hs
      have hs2 : s = 0 ∨ s = y := by simpa using hs
      rw [P21.z_abbr hF hs2, P21.xt_abbr hF]
/-- what Expand makes of an era of layer 23 -/
theorem GoodE.ex {R : List RV} {e : EV} (h : GoodE R e) : (exF R e).2 = 0 ∧ P21.kind (P4.bl (exF R e).1) ≠ 4 ∧ (e.fmt ≠ ⟨#[37, 122]⟩ → (exF R e).1 = e.fmt) ∧ (e.fmt = ⟨#[37, 122]⟩ → exF R e = num30 R e ∧ P21.kind (P4.bl (exF R e).1) = 5) := by
  obtain ⟨l, hn, hk, _⟩ := h.num
  rcases fmt23_kind h.fmt with hz | ⟨k4, k5, hz⟩
  · have he : exF R e = num30 R e := by unfold exF; rw [if_pos hz]
    refine ⟨by rw [he, hn], by rw [he, hn]; show P21.kind l ≠ 4; rw [hk]; decide, fun q => absurd hz q, fun _ => ⟨he, ?_⟩⟩
    rw [he, hn]
    exact hk
  · have he : exF R e = (e.fmt, 0) := by unfold exF; rw [if_neg hz]
    exact ⟨by rw [he], by rw [he]; exact k4, fun _ => by rw [he], fun q => absurd q hz⟩
theorem exF_no (R : List RV) (e : EV) (h : e.fmt ≠ ⟨#[37, 122]⟩) : exF R e = (e.fmt, 0) := by unfold exF; rw [if_neg h]
/-- ... twice: as once -/
theorem GoodE.ex2 {R : List RV} {e : EV} (h : GoodE R e) : exF R (fmtE (exF R) e) = ((exF R e).1, 0) := by
  have hne : (exF R e).1 ≠ ⟨#[37, 122]⟩ := fun q => by
    have := h.ex.2.1
    rw [q] at this
    exact this (by decide +kernel)
  exact exF_no R (fmtE (exF R) e) hne
theorem coF_yes (R : List RV) (e : EV) (h : P21.kind (P4.bl e.fmt) = 5) (h0 : (num30 R e).2 = 0) (h1 : (num30 R e).1 = e.fmt) : coF R e = (⟨#[37, 122]⟩, 0) := by unfold coF; rw [if_pos h, if_pos h0, if_pos h1]
theorem coF_no (R : List RV) (e : EV) (h : P21.kind (P4.bl e.fmt) ≠ 5) : coF R e = (e.fmt, 0) := by unfold coF; rw [if_neg h]
/-- ... and contracted again: as before -/
theorem GoodE.co {R : List RV} {e : EV} (h : GoodE R e) : coF R (fmtE (exF R) e) = (e.fmt, 0) := by
  obtain ⟨l, hn, hk, _⟩ := h.num
  rcases fmt23_kind h.fmt with hz | ⟨k4, k5, hz⟩
  · have hx := (h.ex.2.2.2 hz)
    have h1 : num30 R (fmtE (exF R) e) = num30 R e := rfl
    rw [coF_yes R (fmtE (exF R) e) hx.2 (by rw [h1, hn]) (by rw [h1]; show _ = (exF R e).1; rw [hx.1]), hz]
  · have hx := h.ex.2.2.1 hz
    rw [coF_no R (fmtE (exF R) e) (show ¬ P21.kind (P4.bl (exF R e).1) = 5 by rw [hx]; exact k5)]
    show ((exF R e).1, 0) = _
    rw [hx]
theorem GoodE.co0 {R : List RV} {e : EV} (h : GoodE R e) : coF R e = (e.fmt, 0) := by
  unfold coF
  rw [if_neg ?_]
  rcases fmt23_kind h.fmt with hz | ⟨k4, k5, hz⟩
  · rw [hz]; decide +kernel
  · exact k5
theorem GoodE.no5 {R : List RV} {e : EV} (h : GoodE R e) : P21.kind (P4.bl e.fmt) ≠ 5 := by
  rcases fmt23_kind h.fmt with hz | ⟨k4, k5, hz⟩
  · rw [hz]; decide +kernel
  · exact k5
end Go.Proofs.YtlideagcmhlkeaaDoor

/- A whole struct is stored into a block that is known whole. No function of the program. -/
namespace Go.Proofs.YtlideagcmhlkeaaDoor
open Go.RowKit
set_option linter.unusedVariables false

theorem blk_setCells {g : Nat} {t : TypeId} : ∀ (vs : List Value) (o : Nat) (w : World) (cs : Array Value), Blk w g t cs → o + vs.length ≤ cs.size → Blk (w.setCells g o vs) g t (cs.toList.take o ++ vs ++ cs.toList.drop (o + vs.length)).toArray
  | [], o, w, cs, h, _ => by
    have e : (cs.toList.take o ++ [] ++ cs.toList.drop (o + 0)).toArray = cs := by
      rw [List.append_nil, Nat.add_zero, List.take_append_drop]
    show Blk w g t (cs.toList.take o ++ [] ++ cs.toList.drop (o + 0)).toArray
    rw [e]; exact h
  | v :: r, o, w, cs, h, hl => by
    rw [List.length_cons] at hl
    have ih := blk_setCells r (o + 1) (w.setCell ⟨g, o, none⟩ v) (cs.setIfInBounds o v) (h.set_ o v) (by rw [Array.size_setIfInBounds]; omega)
    have e : (cs.setIfInBounds o v).toList.take (o + 1) ++ r ++ (cs.setIfInBounds o v).toList.drop (o + 1 + r.length) = cs.toList.take o ++ (v :: r) ++ cs.toList.drop (o + (v :: r).length) := by
      rw [Array.toList_setIfInBounds, List.length_cons]
      have ho : o < cs.toList.length := by rw [Array.length_toList]; omega
      rw [List.take_add_one, List.getElem?_set_self ho, List.take_set_of_le (Nat.le_refl _), List.drop_set_of_lt (by omega)]
      simp [Nat.add_assoc, Nat.add_comm 1]
    rw [e] at ih
    exact ih
theorem below_setCells {B g : Nat} {a : World} (hg : B ≤ g) : ∀ (vs : List Value) (o : Nat) (w : World), Below B a w → Below B a (w.setCells g o vs)
  | [], _, _, h => h
  | v :: r, o, w, h => below_setCells hg r (o + 1) _ (h.setCell (p := ⟨g, o, none⟩) hg v)
theorem far_setCells {g g' : Nat} {t : TypeId} {cs : Array Value} (hg : g' ≠ g) : ∀ (vs : List Value) (o : Nat) (w : World), Blk w g' t cs → Blk (w.setCells g o vs) g' t cs
  | [], _, _, h => h
  | v :: r, o, w, h => far_setCells hg r (o + 1) _ (h.far (p := ⟨g, o, none⟩) hg v)
theorem there_of_blk {w : World} {g : Nat} {t : TypeId} {cs : Array Value} (h : Blk w g t cs) : w.there g 0 cs.size := fun j hj => by
  rw [Nat.zero_add]
  exact ⟨by rw [Blk.cell h, Array.getElem?_eq_getElem hj]; rfl, Blk.frozen h j⟩
theorem wpList_store_blk {P : Program} {ops : Array Oper} {rest : List Oper} {op : Oper} {a : Act} {w : World} {Q : Exit → Act → World → Prop} (hgd : op.guard = none) (ty : TypeId) (x y : Operand) (ho : op.op = .store ty x y)
    (g : Nat) (cells : List Value) (hx : a.eval x = .pointer (some ⟨g, 0, none⟩)) (hy : a.eval y = .agg cells.toArray) (t : TypeId) (cs : Array Value) (hB : Blk w g t cs) (hs : cs.size = cells.length)
    (hi : (P.info? ty).map (·.size) = some cells.length) (h1 : ∀ v ∈ cells, v.oneCell' = true)
    (h : ∀ w', Blk w' g t cells.toArray → (∀ B b, B ≤ g → Below B b w → Below B b w') → (∀ g' t' cs', g' ≠ g → Blk w g' t' cs' → Blk w' g' t' cs') → wpList P ops Q rest (a.put op.dst undef) w') : wpList P ops Q (op :: rest) a w := by
  have hsz : cells.toArray.size = cells.length := List.size_toArray
  refine wpList_store_mid hgd ty x y ho g 0 cells.toArray hx hy ?_ (by rw [hsz]; exact hi) (all_oneCell_toArray h1) ?_
  · have := there_of_blk hB
    rw [hs] at this
    rw [hsz]; exact this
  · refine h _ ?_ (fun B b hb hw => below_setCells hb _ _ _ hw) (fun g' t' cs' hne hb => far_setCells hne _ _ _ hb)
    have q := blk_setCells cells.toArray.toList 0 w cs hB (by rw [Nat.zero_add, Array.length_toList, hsz, hs]; exact Nat.le_refl _)
    have e : (cs.toList.take 0 ++ cells.toArray.toList ++ cs.toList.drop (0 + cells.toArray.toList.length)).toArray = cells.toArray := by
      have : cs.toList.drop (0 + cells.toArray.toList.length) = [] := List.drop_eq_nil_iff.2 (by rw [Array.length_toList, Array.length_toList, hsz, hs]; omega)
      rw [this]; simp
    rw [e] at q
    exact q
end Go.Proofs.YtlideagcmhlkeaaDoor

/- What the rows' list of variables, and the world's shape, give the walks of chapters 21 and 24. -/
namespace Go.Proofs.YtlideagcmhlkeaaDoor
open Go.RowKit
set_option linter.unusedVariables false

theorem tSyn : (Tryd.prog.globals[3]?).map (·.type) = some 161 := by kernel_rfl
theorem cErr : Tryd.prog.cellsOf 219 = 1 := by kernel_rfl
theorem cStr : Tryd.prog.cellsOf 9 = 1 := by kernel_rfl
theorem starErr : "*" ++ "errors.errorString" = "*errors.errorString" := by decide
theorem rowErr (u : TypeId) (h : Tryd.prog.typeName? 3 u = some "*errors.errorString") : u = 217 := by
  exact typeName_ptr_named (nm := "errors.errorString") (by rw [starErr]; kernel_rfl) (by kernel_rfl) (by decide) u (by rw [starErr]; exact h)
theorem vars21_of {W : World} {rest : List (String × DataW Unit)} (h4 : laidMet Tryd.prog (("strconv.ErrSyntax", Rows.laid_strconv_ErrSyntax) :: rest) W) (hsh : W.ShapedOpen Tryd.prog) : Vars21 W := by
  obtain ⟨a, s, hs, _, _, _⟩ := laid_sentinel h4 gSyn tSyn Tryd.underlying161 rowErr Tryd.underlying217 Tryd.underlying219 rfl rfl Tryd.underlying9 cErr cStr
  have lt : ∀ {g : Nat} {n : String} {cs : Array Value}, Tryd.prog.globalNamed n = some g → W.var? Tryd.prog n = some cs → g < W.heap.size := by
    intro g n cs hg hv
    unfold World.var? at hv
    simp only [hg, Option.bind_some] at hv
    rcases Nat.lt_or_ge g W.heap.size with q | q
    · exact q
    · rw [Array.getElem?_eq_none q] at hv; cases hv
  have hm := Tryd.laysM145.s1_3 W hsh
  have hlt : 1 < W.heap.size := by
    obtain ⟨m, hm⟩ := hm
    rcases Nat.lt_or_ge 1 W.heap.size with q | q
    · exact q
    · exfalso
      have hm' : W.cell? ⟨1, 0, none⟩ = some (.int .i64 m) := hm
      unfold World.cell? at hm'
      rw [Array.getElem?_eq_none q] at hm'
      cases hm'
  exact ⟨⟨⟨_, _, hs⟩, lt gSyn hs⟩, hm, hlt⟩
/-- four other variables stand ahead of it in the row's list -/
theorem vars21_of_laid {W : World} {a b c d : String × DataW Unit} {rest : List (String × DataW Unit)} (h : laidMet Tryd.prog (a :: b :: c :: d :: ("strconv.ErrSyntax", Rows.laid_strconv_ErrSyntax) :: rest) W) (hsh : W.ShapedOpen Tryd.prog) : Vars21 W := by
  exact vars21_of h.tail.tail.tail.tail hsh
/-- five of them -/
theorem vars21_of_laid5 {W : World} {a b c d e : String × DataW Unit} {rest : List (String × DataW Unit)} (h : laidMet Tryd.prog (a :: b :: c :: d :: e :: ("strconv.ErrSyntax", Rows.laid_strconv_ErrSyntax) :: rest) W) (hsh : W.ShapedOpen Tryd.prog) : Vars21 W := by
  exact vars21_of h.tail.tail.tail.tail.tail hsh
/-- the same, and the world's shape -/
theorem vars21s_of_laid5 {W : World} {a b c d e : String × DataW Unit} {rest : List (String × DataW Unit)} (h : laidMet Tryd.prog (a :: b :: c :: d :: e :: ("strconv.ErrSyntax", Rows.laid_strconv_ErrSyntax) :: rest) W) (hsh : W.ShapedOpen Tryd.prog) : Vars21 W ∧ W.ShapedOpen Tryd.prog := ⟨vars21_of_laid5 h hsh, hsh⟩
end Go.Proofs.YtlideagcmhlkeaaDoor

/- The wrap of a law's row whose walk asks for the world's shape beside the listed variables. No function of the program. -/
namespace Go.Proofs.YtlideagcmhlkeaaDoor
open Go
section
variable {H : Type} {enc : TypeId × Value → H}
theorem handed_shaped {a : Assume} {C : Checked} {os : Os} {f : FuncId} {fn : Func} {s : ChangeSpec} {conds : List PathCond} {apart fresh handsOn again : Bool} {X : World → Array Value → Prop}
    (hX : ∀ (w w' : World) (args : Array Value), w.heap = w'.heap → X w args → X w' args)
    (own : ownKnob C.prog.godebug = none) (started : os.Started) (noInit : C.prog.inits.idxOf? f = none) (hfn : C.prog.funcs[f]? = some fn)
    (witness : ∃ (w : World) (tape : Tape) (i : Input), w.os = os ∧ (w.forCall tape i).Shaped C.prog ∧ i.vars = [] ∧ Input.okWide C.prog (w.forCall tape i) .any w.heap.size f i ∧
      ((s.pre enc C.prog fn conds apart (w.forCall tape i).memory i.args ∧ X (w.forCall tape i).memory i.args) ∧ sizedMet enc C.prog fn (OpenSpec.ofChange s) apart (w.forCall tape i).memory i.args) ∧ a.holds C.prog (lone (Frame.enter C.prog f i.args .normal) [] (w.forCall tape i)))
    (contract : ∀ (W : World) (base : Nat) (args : Array Value) (ds gs : List (DataW H)) (before : List MemPlace),
      (∀ (j : Nat) t v, fn.params[j]? = some t → args[j]? = some v → Value.okWide C.prog W .any base t v) →
      DataW.Whole enc C.prog fn.params.toList s.vars apart W args.toList ds gs before →
      conds.all (PathCond.test C.prog ⟨fn.params.toList, ds, s.plain.varTypes C.prog, gs⟩) = true →
      (DataW.weightsEach C.prog (fn.params.toList ++ s.plain.varTypes C.prog) (ds ++ gs)).all (· ≤ reachBytes) = true → X W args → W.ShapedOpen C.prog →
      a.holds C.prog (lone (Frame.enter C.prog f args .normal) [] W) →
      Calls C.prog f args W fun e W' => ∃ v, e = .returned v ∧ s.post enc C.prog fn apart fresh handsOn again W args v W') :
    ReturnsInHanded a C os f .any (fun w args => (s.pre enc C.prog fn conds apart w args ∧ X w args) ∧ sizedMet enc C.prog fn (OpenSpec.ofChange s) apart w args) (s.post enc C.prog fn apart fresh handsOn again) := by
  refine returnsInHanded_of_calls own started noInit witness ?_
  intro w tape i _ hsh _ hok hpre hholds
  obtain ⟨_, _, _, fn', hfn', _, _, _, _, hval⟩ := hok
  obtain rfl : fn' = fn := Option.some.inj (hfn'.symm.trans hfn)
  obtain ⟨⟨⟨ds, gs, before, hw, hc⟩, hx⟩, hz⟩ := hpre
  have hw' := DataW.Whole.of_heap (w' := w.forCall tape i) (by rfl) hw
  refine (contract (w.forCall tape i) w.heap.size i.args ds gs before hval hw' hc (hz.weights hw) (hX _ _ _ (by rfl) hx) hsh hholds).mono fun e W' h => ?_
  obtain ⟨v, he, hp⟩ := h
  subst he
  exact ChangeSpec.post_blind hp
end
end Go.Proofs.YtlideagcmhlkeaaDoor

/- What an era by value and a slice of rules that come in read as (for the cards of chapter 20 and above). -/
namespace Go.Proofs.YtlideagcmhlkeaaDoor
open Go.RowKit Go.ChangeShapes Go.WideShapes
set_option linter.unusedVariables false

section
variable {H : Type} {enc : TypeId × Value → H} {w : World} {base : Nat} {sp : Nat → Bool} {held : Bool}
theorem field_of {P : Program} {t : TypeId} {fs : Array Field} {fuel : Nat} {cs : List Value} {x : DataW H × List MemPlace} (ht : P.underlying t = some (.struct fs)) (h : DataW.trod enc P w base sp held fuel t cs = some x) (i : Nat) (ty : TypeId) (o s : Nat)
    (hf : (fs[i]?).map (fun f => (f.type, f.offset, P.cellsOf f.type)) = some (ty, o, s)) : ∃ n y, DataW.trod enc P w base sp held n ty ((cs.drop o).take s) = some y := by
  obtain ⟨xs, n, _, _, _, hl, hg⟩ := DataW.trod_struct ht h
  cases hq : fs[i]? with
  | none => rw [hq] at hf; cases hf
  | some f =>
    rw [hq] at hf
    simp only [Option.map_some, Option.some.injEq, Prod.mk.injEq] at hf
    obtain ⟨rfl, rfl, rfl⟩ := hf
    have hi : i < xs.length := by rw [hl]; exact (Array.getElem?_eq_some_iff.1 hq).1
    exact ⟨n, xs[i], (hg i f hq).trans (List.getElem?_eq_getElem hi)⟩
theorem leaf_int {P : Program} {t : TypeId} {fs : Array Field} {fuel : Nat} {cs : List Value} {x : DataW H × List MemPlace} (ht : P.underlying t = some (.struct fs)) (h : DataW.trod enc P w base sp held fuel t cs = some x) (i : Nat) (ty : TypeId) (o : Nat) (k : IntKind)
    (hf : (fs[i]?).map (fun f => (f.type, f.offset, P.cellsOf f.type)) = some (ty, o, 1)) (hk : P.underlying ty = some (.int k)) : ∃ n, (cs.drop o).take 1 = [.int k n] ∧ (Lit.int k n).wf = true := by
  obtain ⟨n, y, hy⟩ := field_of ht h i ty o 1 hf
  obtain ⟨z, e, _, hw⟩ := DataW.trod_int hk hy
  exact ⟨z, e, hw⟩
theorem leaf_str {P : Program} {t : TypeId} {fs : Array Field} {fuel : Nat} {cs : List Value} {x : DataW H × List MemPlace} (ht : P.underlying t = some (.struct fs)) (h : DataW.trod enc P w base sp held fuel t cs = some x) (i : Nat) (ty : TypeId) (o : Nat)
    (hf : (fs[i]?).map (fun f => (f.type, f.offset, P.cellsOf f.type)) = some (ty, o, 1)) (hk : P.underlying ty = some .string) : ∃ s : ByteArray, (cs.drop o).take 1 = [.string s] ∧ s.size ≤ maxLen := by
  obtain ⟨n, y, hy⟩ := field_of ht h i ty o 1 hf
  obtain ⟨z, e, _, hw⟩ := DataW.trod_string hk hy
  exact ⟨z, e, hw⟩
theorem leaf_bool {P : Program} {t : TypeId} {fs : Array Field} {fuel : Nat} {cs : List Value} {x : DataW H × List MemPlace} (ht : P.underlying t = some (.struct fs)) (h : DataW.trod enc P w base sp held fuel t cs = some x) (i : Nat) (ty : TypeId) (o : Nat)
    (hf : (fs[i]?).map (fun f => (f.type, f.offset, P.cellsOf f.type)) = some (ty, o, 1)) (hk : P.underlying ty = some .bool) : ∃ b, (cs.drop o).take 1 = [.bool b] := by
  obtain ⟨n, y, hy⟩ := field_of ht h i ty o 1 hf
  obtain ⟨z, e, _⟩ := DataW.trod_bool hk hy
  exact ⟨z, e⟩
/-- a rule's cells -/
theorem open_rule {fuel : Nat} {cs : List Value} {x : DataW H × List MemPlace} (hlen : cs.length = 11) (h : DataW.trod enc Tryd.prog w base sp held fuel 83 cs = some x) : ∃ r : RV, cs = r.cells ∧ (Lit.int .i64 r.save).wf = true := by
  match cs, hlen with
  | [c0, c1, c2, c3, c4, c5, c6, c7, c8, c9, c10], _ =>
    obtain ⟨s0, e0, _⟩ := leaf_str Tryd.underlying83 h 0 9 0 (by kernel_rfl) Tryd.underlying9
    obtain ⟨n1, e1, _⟩ := leaf_int Tryd.underlying83 h 1 3 1 .i64 (by kernel_rfl) Tryd.underlying3
    obtain ⟨n2, e2, _⟩ := leaf_int Tryd.underlying83 h 2 3 2 .i64 (by kernel_rfl) Tryd.underlying3
    obtain ⟨n3, e3, _⟩ := leaf_int Tryd.underlying83 h 3 3 3 .i64 (by kernel_rfl) Tryd.underlying3
    obtain ⟨m, y, hd⟩ := field_of Tryd.underlying83 h 4 41 4 3 (by kernel_rfl)
    obtain ⟨n4, e4, _⟩ := leaf_int Tryd.underlying41 hd 0 3 0 .i64 (by kernel_rfl) Tryd.underlying3
    obtain ⟨n5, e5, _⟩ := leaf_int Tryd.underlying41 hd 1 3 1 .i64 (by kernel_rfl) Tryd.underlying3
    obtain ⟨n6, e6, _⟩ := leaf_int Tryd.underlying41 hd 2 3 2 .i64 (by kernel_rfl) Tryd.underlying3
    obtain ⟨m', y', hc⟩ := field_of Tryd.underlying83 h 5 43 7 2 (by kernel_rfl)
    obtain ⟨n7, e7, _⟩ := leaf_int Tryd.underlying43 hc 0 2 0 .i64 (by kernel_rfl) Tryd.underlying2
    obtain ⟨n8, e8, _⟩ := leaf_int Tryd.underlying43 hc 1 3 1 .i64 (by kernel_rfl) Tryd.underlying3
    obtain ⟨n9, e9, w9⟩ := leaf_int Tryd.underlying83 h 6 2 9 .i64 (by kernel_rfl) Tryd.underlying2
    obtain ⟨s10, e10, _⟩ := leaf_str Tryd.underlying83 h 7 9 10 (by kernel_rfl) Tryd.underlying9
    simp only [List.drop_succ_cons, List.drop_zero, List.take_succ_cons, List.take_zero, List.cons.injEq, and_true] at e0 e1 e2 e3 e4 e5 e6 e7 e8 e9 e10
    subst e0 e1 e2 e3 e4 e5 e6 e7 e8 e9 e10
    exact ⟨⟨s0, n1, n2, n3, n4, n5, n6, n7, n8, n9, s10⟩, rfl, w9⟩
/-- an era by value -/
theorem open_era {fuel : Nat} {cs : List Value} {x : DataW H × List MemPlace} (hlen : cs.length = 13) (h : DataW.trod enc Tryd.prog w base sp held fuel 47 cs = some x) :
    ∃ (off kind save : Int) (set fmt : ByteArray) (ui : Bool) (uy um dk dw dd asec ab : Int), cs = [.int .i64 off, .int .i64 kind, .int .i64 save, .string set, .string fmt, .bool ui, .int .i64 uy, .int .i64 um, .int .i64 dk, .int .i64 dw, .int .i64 dd, .int .i64 asec, .int .i64 ab] ∧
      (Lit.int .i64 off).wf = true ∧ (Lit.int .i64 kind).wf = true ∧ (Lit.int .i64 save).wf = true ∧ set.size ≤ maxLen ∧ fmt.size ≤ maxLen := by
  match cs, hlen with
  | [c0, c1, c2, c3, c4, c5, c6, c7, c8, c9, c10, c11, c12], _ =>
    obtain ⟨n0, e0, w0⟩ := leaf_int Tryd.underlying47 h 0 2 0 .i64 (by kernel_rfl) Tryd.underlying2
    obtain ⟨n1, e1, w1⟩ := leaf_int Tryd.underlying47 h 1 3 1 .i64 (by kernel_rfl) Tryd.underlying3
    obtain ⟨n2, e2, w2⟩ := leaf_int Tryd.underlying47 h 2 2 2 .i64 (by kernel_rfl) Tryd.underlying2
    obtain ⟨s3, e3, w3⟩ := leaf_str Tryd.underlying47 h 3 9 3 (by kernel_rfl) Tryd.underlying9
    obtain ⟨s4, e4, w4⟩ := leaf_str Tryd.underlying47 h 4 9 4 (by kernel_rfl) Tryd.underlying9
    obtain ⟨m, y, hu⟩ := field_of Tryd.underlying47 h 5 45 5 8 (by kernel_rfl)
    obtain ⟨b5, e5⟩ := leaf_bool Tryd.underlying45 hu 0 4 0 (by kernel_rfl) Tryd.underlying4
    obtain ⟨n6, e6, _⟩ := leaf_int Tryd.underlying45 hu 1 3 1 .i64 (by kernel_rfl) Tryd.underlying3
    obtain ⟨n7, e7, _⟩ := leaf_int Tryd.underlying45 hu 2 3 2 .i64 (by kernel_rfl) Tryd.underlying3
    obtain ⟨m', y', hd⟩ := field_of Tryd.underlying45 hu 3 41 3 3 (by kernel_rfl)
    obtain ⟨n8, e8, _⟩ := leaf_int Tryd.underlying41 hd 0 3 0 .i64 (by kernel_rfl) Tryd.underlying3
    obtain ⟨n9, e9, _⟩ := leaf_int Tryd.underlying41 hd 1 3 1 .i64 (by kernel_rfl) Tryd.underlying3
    obtain ⟨n10, e10, _⟩ := leaf_int Tryd.underlying41 hd 2 3 2 .i64 (by kernel_rfl) Tryd.underlying3
    obtain ⟨m'', y'', hc⟩ := field_of Tryd.underlying45 hu 4 43 6 2 (by kernel_rfl)
    obtain ⟨n11, e11, _⟩ := leaf_int Tryd.underlying43 hc 0 2 0 .i64 (by kernel_rfl) Tryd.underlying2
    obtain ⟨n12, e12, _⟩ := leaf_int Tryd.underlying43 hc 1 3 1 .i64 (by kernel_rfl) Tryd.underlying3
    simp only [List.drop_succ_cons, List.drop_zero, List.take_succ_cons, List.take_zero, List.cons.injEq, and_true] at e0 e1 e2 e3 e4 e5 e6 e7 e8 e9 e10 e11 e12
    subst e0 e1 e2 e3 e4 e5 e6 e7 e8 e9 e10 e11 e12
    exact ⟨n0, n1, n2, s3, s4, b5, n6, n7, n8, n9, n10, n11, n12, rfl, w0, w1, w2, w3, w4⟩
theorem add_spotless (b o : Nat) (k j : Nat) : ((⟨b, o, none⟩ : Addr).add k).add j = ⟨b, o + k + j, none⟩ := by
  unfold Addr.add
  by_cases hk : k = 0 <;> by_cases hj : j = 0 <;> simp [hk, hj]
/-- a slice of rules that comes in -/
theorem open_rules {v : Value} {d : DataW H} {p : List MemPlace} (hok : ∃ a len cap, v = .slice a len cap) (h : DataW.Trod enc Tryd.prog w base sp held 27 v d p) :
    ∃ (A : Option Addr) (c : Nat) (L : List RV), v = .slice A L.length c ∧ L.length ≤ maxLen ∧ RulesIn w A L ∧ ∀ r ∈ L, (Lit.int .i64 r.save).wf = true := by
  obtain ⟨a0, len0, cap0, rfl⟩ := hok
  obtain ⟨fuel, hf⟩ := h
  rcases Go.Deep.open_slice Tryd.underlying27 hf with ⟨h0, _⟩ | ⟨a, len, cap, m, n, D, Pl, hcs, hb, hl, hm, hmm, hx, hi⟩
  · refine ⟨none, 0, [], ?_, Nat.zero_le _, RulesIn.nil _ _, fun r hr => by simp at hr⟩
    have : [Value.slice a0 len0 cap0] = [Value.slice none 0 0] := h0
    injection this
  · have hv : [Value.slice a0 len0 cap0] = [Value.slice (some a) len cap] := hcs
    injection hv with hv
    rw [hv]
    have hC : Tryd.prog.cellsOf 83 = 11 := by kernel_rfl
    have hlm : len ≤ m := by rw [hmm]; split <;> omega
    have key : ∀ i, i < len → ∃ r : RV, (Lit.int .i64 r.save).wf = true ∧ ∀ j u, r.cells[j]? = some u → w.cell? ((a.add (i * 11)).add j) = some u := by
      intro i hil
      obtain ⟨cs', hc, ht⟩ := hi i (by omega)
      rw [hC] at hc
      obtain ⟨_, hcl, hat⟩ := World.cells?_some hc
      obtain ⟨r, hr, hw⟩ := open_rule hcl ht
      refine ⟨r, hw, fun j u hu => ?_⟩
      have hj : j < 11 := (List.getElem?_eq_some_iff.mp hu).1
      rw [hat j hj, hr]; exact hu
    have key2 : ∃ L : List RV, L.length = len ∧ ∀ i r, L[i]? = some r → (Lit.int .i64 r.save).wf = true ∧ ∀ j u, r.cells[j]? = some u → w.cell? ((a.add (i * 11)).add j) = some u := by
      refine ⟨List.ofFn (fun i : Fin len => Classical.choose (key i.1 i.2)), by simp, fun i r hr => ?_⟩
      have hil : i < len := by have := (List.getElem?_eq_some_iff.mp hr).1; simpa using this
      rw [List.getElem?_ofFn, dif_pos hil] at hr
      injection hr with hr
      rw [← hr]
      exact Classical.choose_spec (key i hil)
    obtain ⟨L, hLl, hL⟩ := key2
    refine ⟨some a, cap, L, by rw [hLl], by rw [hLl]; omega, fun k r hr => ?_, fun r hr => ?_⟩
    · have h0 := (hL k r hr).2
      have hs : a.spot = none := by
        have h00 : 0 < L.length := by have := (List.getElem?_eq_some_iff.mp hr).1; omega
        have q := (hL 0 _ (List.getElem?_eq_getElem h00)).2 0 _ rfl
        rw [Nat.zero_mul] at q
        exact World.cell?_spot (by simpa [Addr.add] using q)
      obtain ⟨b, o, s⟩ := a
      simp only at hs
      subst hs
      have hc0 := h0 0 _ rfl
      refine ⟨b, o, rfl, ?_, fun j u hu => ?_⟩
      · rw [add_spotless] at hc0
        unfold World.cell? at hc0
        rcases Nat.lt_or_ge b w.heap.size with q | q
        · exact q
        · rw [Array.getElem?_eq_none q] at hc0; cases hc0
      · have := h0 j u hu
        rwa [add_spotless] at this
    · obtain ⟨k, hk⟩ := List.mem_iff_getElem?.1 hr
      exact (hL k r hk).1
end
end Go.Proofs.YtlideagcmhlkeaaDoor
