/- The walks of the abbreviations of FORMATs (chapter 21): format.Abbr and the reference's. -/
import Derived.Test.YtmhciidliicheaaDoorFmt21e
import Derived.Deep.RegionHeld3
namespace Go.Proofs.YtmhciidliicheaaDoor
open Go.RowKit Go.Lib
set_option linter.unusedVariables false

theorem two_of2 {l : List UInt8} (h : P21.kind l = 2) : P21.two l = true := by
  obtain ⟨a, b, hs, _⟩ := P21.kind_is2 h
  unfold P21.two; rw [hs, h]; rfl
theorem two_kind {l : List UInt8} (h : P21.two l = true) : P21.kind l = 2 ∨ P21.kind l = 5 := by
  unfold P21.two at h
  simp only [Bool.and_eq_true, Bool.or_eq_true, decide_eq_true_eq] at h
  exact h.2
theorem parts_of {l : List UInt8} : P21.parts l = if P21.two l = true then ((P21.slash l).1, (P21.slash l).2.1, true) else ([], [], false) := rfl
theorem pct_len (s : ByteArray) : (P21.pct (P4.bl s)).1.length + (P21.pct (P4.bl s)).2.1.length ≤ s.size := by
  have := cut_len (P4.bl s) [37, 115]
  rwa [P4.bl_len] at this
theorem kind3_letter {l : List UInt8} (h : P21.kind l = 3) : P21.letter l = true := P21.kind_is3 h
def keepS {w V : World} {x : Int} {t : ByteArray} (W : World) : Prop := W.cell? ⟨V.heap.size, 0, none⟩ = some (.int .i64 x) ∧ W.cell? ⟨V.heap.size, 1, none⟩ = some (.string t) ∧ V.heap.size < W.heap.size ∧ Below w.heap.size w W
theorem keepA {w V W W' : World} {x : Int} {t : ByteArray} (hb : Below W.heap.size W W') (h : W.cell? ⟨V.heap.size, 0, none⟩ = some (.int .i64 x) ∧ W.cell? ⟨V.heap.size, 1, none⟩ = some (.string t) ∧ V.heap.size < W.heap.size ∧ Below w.heap.size w W) :
    W'.cell? ⟨V.heap.size, 0, none⟩ = some (.int .i64 x) ∧ W'.cell? ⟨V.heap.size, 1, none⟩ = some (.string t) ∧ V.heap.size < W'.heap.size ∧ Below w.heap.size w W' :=
  ⟨(hb.cell (p := ⟨V.heap.size, 0, none⟩) h.2.2.1).trans h.1, (hb.cell (p := ⟨V.heap.size, 1, none⟩) h.2.2.1).trans h.2.1, Nat.lt_of_lt_of_le h.2.2.1 hb.size, h.2.2.2.trans (hb.mono h.2.2.2.size)⟩
theorem belA {w V W : World} {x : Int} {t : ByteArray} (h : W.cell? ⟨V.heap.size, 0, none⟩ = some (.int .i64 x) ∧ W.cell? ⟨V.heap.size, 1, none⟩ = some (.string t) ∧ V.heap.size < W.heap.size ∧ Below w.heap.size w W) : Below w.heap.size w W := h.2.2.2
theorem abbrv_two0 {f lt : List UInt8} {off : Int} (h : P21.two f = true) : P21.abbrv f off 0 lt = ((P21.slash f).1, 0) := by unfold P21.abbrv; rw [if_pos h, if_pos rfl]
theorem abbrv_two1 {f lt : List UInt8} {off save : Int} (h : P21.two f = true) (hs : save ≠ 0) : P21.abbrv f off save lt = ((P21.slash f).2.1, 0) := by unfold P21.abbrv; rw [if_pos h, if_neg hs]
theorem abbrv_k0 {f lt : List UInt8} {off save : Int} (h : P21.two f = false) (hk : P21.kind f = 0) : P21.abbrv f off save lt = ([], 15) := by unfold P21.abbrv; rw [if_neg (by rw [h]; decide), hk]; rfl
theorem abbrv_k1 {f lt : List UInt8} {off save : Int} (h : P21.two f = false) (hk : P21.kind f = 1 ∨ P21.kind f = 5) : P21.abbrv f off save lt = (f, 0) := by unfold P21.abbrv; rw [if_neg (by rw [h]; decide)]; rcases hk with hk | hk <;> rw [hk] <;> rfl
theorem abbrv_k3 {f lt : List UInt8} {off save : Int} (h : P21.two f = false) (hk : P21.kind f = 3) : P21.abbrv f off save lt = P21.out ((P21.pct f).1 ++ lt ++ (P21.pct f).2.1) (P21.abbr ((P21.pct f).1 ++ lt ++ (P21.pct f).2.1)) := by unfold P21.abbrv; rw [if_neg (by rw [h]; decide), hk]; rfl
theorem abbrv_k4 {f lt : List UInt8} {off save : Int} (h : P21.two f = false) (hk : P21.kind f = 4) : P21.abbrv f off save lt = P21.out (P20.text (off + save)) (decide (P20.text (off + save) ≠ [])) := by unfold P21.abbrv; rw [if_neg (by rw [h]; decide), hk]; rfl
theorem cat3_run {P : Program} (a b c : List UInt8) (h : a.length + b.length + c.length ≤ 2000000) : (∀ W, (Op.stringOp .add (str a) (str b)).run P W = .ok (.string (str (a ++ b))) W) ∧ ∀ W, (Op.stringOp .add (str (a ++ b)) (str c)).run P W = .ok (.string (str (a ++ b ++ c))) W :=
  ⟨cat_run a b (by omega), cat_run (a ++ b) c (by rw [List.length_append]; omega)⟩
theorem out_pair (t : List UInt8) (b : Bool) : (.string (if b = true then str t else str []) : Value) = .string (str (P21.out t b).1) ∧ (if b = true then (0 : Int) else 15) = (P21.out t b).2 := by
  unfold P21.out; cases b <;> exact ⟨rfl, rfl⟩
set_option maxRecDepth 100000 in
set_option maxHeartbeats 8000000 in
theorem fabbr_any (s : ByteArray) (off save : Int) (lt : ByteArray) (w : World) (hs : s.size ≤ 500000) (hlt : lt.size ≤ 500000) (ho : -9223372036854775808 ≤ off ∧ off ≤ 9223372036854775807) (hsv : -9223372036854775808 ≤ save ∧ save ≤ 9223372036854775807) (hv : Vars21 w) :
    Calls Tryd.prog 17 #[.string s, .int .i64 off, .agg #[.int .i64 save, .string lt]] w fun e w' => e = .returned (.tuple #[.string (str (P21.abbrv (P4.bl s) off save (P4.bl lt)).1), .int .i64 (P21.abbrv (P4.bl s) off save (P4.bl lt)).2]) ∧ Below w.heap.size w w' := by
  have cP : Hid (∀ W, Vars21 W → Calls Tryd.prog 25 #[.string s] W fun e w' => e = .returned (.tuple #[.string (str (P21.parts (P4.bl s)).1), .string (str (P21.parts (P4.bl s)).2.1), .bool (P21.parts (P4.bl s)).2.2]) ∧ Below W.heap.size W w') := fun W h => parts_any s W (by omega) h
  have hB := Blk.new w 42 #[.int .i64 save, .string lt]
  have hb0 := (Below.refl w.heap.size w).alloc (Nat.le_refl _) (.cells #[.int .i64 save, .string lt] 42)
  have hv0 := hv.below hb0
  cases hT : P21.two (P4.bl s) with
  | true =>
    rw [parts_of, if_pos hT] at cP
    by_cases hz : save = 0
    · skip
      subst hz
      rw [abbrv_two0 hT]
      generalize P21.slash (P4.bl s) = U at cP ⊢
      clear hT
      go_enter Tryd.func17, Tryd.ntmps17
      go_wp2_with fail
      refine (cP.out _ hv0).mono ?_
      rintro e w1 ⟨rfl, hc1⟩
      have hB1 := hB.below hc1 hB.lt
      have hb1 := hb0.trans (hc1.mono hb0.size)
      have k0 := (hB1.cell 0).trans rfl
      clear hB hb0 hv0 hB1 hc1
      go_wp2_with fail
      go_ret2
      exact ⟨rfl, hb1⟩
    · skip
      rw [abbrv_two1 hT hz]
      have hz2 : (save == 0) = false := by rw [beq_eq_false_iff_ne]; exact hz
      generalize P21.slash (P4.bl s) = U at cP ⊢
      clear hT hz
      go_enter Tryd.func17, Tryd.ntmps17
      go_wp2_with fail
      refine (cP.out _ hv0).mono ?_
      rintro e w1 ⟨rfl, hc1⟩
      have hB1 := hB.below hc1 hB.lt
      have hb1 := hb0.trans (hc1.mono hb0.size)
      have k0 := (hB1.cell 0).trans rfl
      clear hB hb0 hv0 hB1 hc1
      go_wp2_with fail
      go_ret2
      exact ⟨rfl, hb1⟩
  | false =>
    rw [parts_of, if_neg (by rw [hT]; decide)] at cP
    have cK : Hid (∀ W, Vars21 W → Calls Tryd.prog 18 #[.string s] W fun e w' => e = .returned (.int .i64 (P21.kind (P4.bl s))) ∧ Below W.heap.size W w') := fun W h => kind_any s W (by omega) h
    rcases P21.kind_cases (P4.bl s) with hK | hK | hK | hK | hK | hK
    · rw [hK] at cK
      rw [abbrv_k0 hT hK]
      clear hT hK
      go_enter Tryd.func17, Tryd.ntmps17
      go_wp2_with fail
      refine (cP.out _ hv0).mono ?_
      rintro e w1 ⟨rfl, hc1⟩
      have hB1 := hB.below hc1 hB.lt
      have hb1 := hb0.trans (hc1.mono hb0.size)
      have hv1 := hv.below hb1
      clear hB hb0 hv0 hc1
      go_wp2_with fail
      refine (cK.out _ hv1).mono ?_
      rintro e w2 ⟨rfl, hc2⟩
      have hB2 := hB1.below hc2 hB1.lt
      have hb2 := hb1.trans (hc2.mono hb1.size)
      have hv2 := hv.below hb2
      clear hB1 hb1 hv1 hc2
      clear hB2 hv2
      go_wp2_with fail
      go_ret2
      exact ⟨rfl, hb2⟩
    · rw [hK] at cK
      rw [abbrv_k1 hT (.inl hK)]
      clear hT hK
      go_enter Tryd.func17, Tryd.ntmps17
      go_wp2_with fail
      refine (cP.out _ hv0).mono ?_
      rintro e w1 ⟨rfl, hc1⟩
      have hB1 := hB.below hc1 hB.lt
      have hb1 := hb0.trans (hc1.mono hb0.size)
      have hv1 := hv.below hb1
      clear hB hb0 hv0 hc1
      go_wp2_with fail
      refine (cK.out _ hv1).mono ?_
      rintro e w2 ⟨rfl, hc2⟩
      have hB2 := hB1.below hc2 hB1.lt
      have hb2 := hb1.trans (hc2.mono hb1.size)
      have hv2 := hv.below hb2
      clear hB1 hb1 hv1 hc2
      clear hB2 hv2
      go_wp2_with fail
      go_ret2
      exact ⟨rfl, hb2⟩
    · rw [hK] at cK
      rw [two_of2 hK] at hT; cases hT
    · rw [hK] at cK
      rw [abbrv_k3 hT hK]
      have cL : Hid (∀ W, Vars21 W → Calls Tryd.prog 50 #[.string s] W fun e w' => e = .returned (.tuple #[.string (str (P21.pct (P4.bl s)).1), .string (str (P21.pct (P4.bl s)).2.1), .bool (P21.letter (P4.bl s))]) ∧ Below W.heap.size W w') := fun W h => around_any s W (by omega) h
      have hpl := pct_len s
      have hll := P4.bl_len lt
      have hcs := cat3_run (P := Tryd.prog) (P21.pct (P4.bl s)).1 (P4.bl lt) (P21.pct (P4.bl s)).2.1 (by omega)
      have cA : Hid (∀ W, Calls Tryd.prog 20 #[.string (str ((P21.pct (P4.bl s)).1 ++ P4.bl lt ++ (P21.pct (P4.bl s)).2.1))] W fun e w' => e = .returned (.bool (P21.abbr ((P21.pct (P4.bl s)).1 ++ P4.bl lt ++ (P21.pct (P4.bl s)).2.1))) ∧ Below W.heap.size W w') := fun W => abbr_any (str _) W (by rw [str_size, List.length_append, List.length_append]; omega)
      have hop := out_pair ((P21.pct (P4.bl s)).1 ++ P4.bl lt ++ (P21.pct (P4.bl s)).2.1) (P21.abbr ((P21.pct (P4.bl s)).1 ++ P4.bl lt ++ (P21.pct (P4.bl s)).2.1))
      rw [← hop.2, ← hop.1]
      clear hop hpl hll hT hK
      rw [str_bl] at hcs
      generalize P21.abbr ((P21.pct (P4.bl s)).1 ++ P4.bl lt ++ (P21.pct (P4.bl s)).2.1) = Z at cA ⊢
      generalize str ((P21.pct (P4.bl s)).1 ++ P4.bl lt ++ (P21.pct (P4.bl s)).2.1) = SZ at cA hcs ⊢
      generalize str ((P21.pct (P4.bl s)).1 ++ P4.bl lt) = SY at hcs
      generalize str (P21.pct (P4.bl s)).1 = SA at cL hcs
      generalize str (P21.pct (P4.bl s)).2.1 = SB at cL hcs
      obtain ⟨hc1', hc2'⟩ := hcs
      have HC := Lib.hid (And.intro hc1' hc2')
      clear hc1' hc2'
      have cR : Hid (∀ W, Calls Tryd.prog 51 #[.string SZ, .bool Z] W fun e w' => e = .returned (.tuple #[.string (if Z = true then SZ else str []), .int .i64 (if Z = true then 0 else 15)]) ∧ w' = W) := fun W => right_any SZ Z W
      generalize (if Z = true then SZ else str []) = R1 at cR ⊢
      generalize (if Z = true then (0 : Int) else 15) = R2 at cR ⊢
      go_enter Tryd.func17, Tryd.ntmps17
      go_wp2_with fail
      refine (cP.out _ hv0).mono ?_
      rintro e w1 ⟨rfl, hc1⟩
      have hB1 := hB.below hc1 hB.lt
      have hb1 := hb0.trans (hc1.mono hb0.size)
      have hv1 := hv.below hb1
      clear hB hb0 hv0 hc1
      go_wp2_with fail
      refine (cK.out _ hv1).mono ?_
      rintro e w2 ⟨rfl, hc2⟩
      have hB2 := hB1.below hc2 hB1.lt
      have hb2 := hb1.trans (hc2.mono hb1.size)
      have hv2 := hv.below hb2
      clear hB1 hb1 hv1 hc2
      go_wp2_with fail
      refine (cL.out _ hv2).mono ?_
      rintro e w3 ⟨rfl, hc3⟩
      have hB3 := hB2.below hc3 hB2.lt
      have hb3 := hb2.trans (hc3.mono hb2.size)
      have HS := Lib.hid (show w3.cell? ⟨w.heap.size, 0, none⟩ = some (.int .i64 save) ∧ w3.cell? ⟨w.heap.size, 1, none⟩ = some (.string lt) ∧ w.heap.size < w3.heap.size ∧ Below w.heap.size w w3 from ⟨(hB3.cell 0).trans rfl, (hB3.cell 1).trans rfl, hB3.lt, hb3⟩)
      clear hB2 hb2 hv2 hB3 hc3 hb3
      have hc1' := HC.out.1
      have hc2' := HC.out.2
      go_wp2_with fail
      go_region_held3 (fun W => W.cell? ⟨w.heap.size, 0, none⟩ = some (.int .i64 save) ∧ W.cell? ⟨w.heap.size, 1, none⟩ = some (.string lt) ∧ w.heap.size < W.heap.size ∧ Below w.heap.size w W) (first | exact keepA ((Below.refl _ _).drew) HS.out | exact keepA (by assumption) (by assumption) | assumption) (first | (go_at_call 20; refine (cA.out _).mono ?_; rintro e w' ⟨rfl, hb⟩) | (go_at_call 51; refine (cR.out _).mono ?_; rintro e w' ⟨rfl, rfl⟩))
      all_goals
        have hb4 := belA (by assumption)
        clear HS
        go_wp2_with fail
        go_ret2
        exact ⟨rfl, hb4⟩
    · rw [hK] at cK
      rw [abbrv_k4 hT hK]
      clear hT hK
      have cA : Hid (∀ W, Calls Tryd.prog 52 #[.int .i64 off, .int .i64 save] W fun e w' => e = .returned (.tuple #[.int .i64 (if inZ (off + save) = true then off + save else 0), .bool (inZ (off + save))]) ∧ w' = W) := fun W => add_any off save W ho hsv
      have hX : ∃ X : Int, (if inZ (off + save) = true then off + save else 0) = X ∧ -9223372036854775808 ≤ X ∧ X ≤ 9223372036854775807 ∧ (if (inZ (off + save) && decide (P20.text X ≠ [])) = true then (P20.text X, (0 : Int)) else ([], 15)) = P21.out (P20.text (off + save)) (decide (P20.text (off + save) ≠ [])) := by
        by_cases hq : -9223372036854775808 ≤ off + save ∧ off + save ≤ 9223372036854775807
        · have hi : inZ (off + save) = true := by unfold inZ; rw [decide_eq_true hq.1, decide_eq_true hq.2]; rfl
          refine ⟨off + save, by rw [if_pos hi], hq.1, hq.2, ?_⟩
          rw [hi, Bool.true_and]; rfl
        · have hi : inZ (off + save) = false := by
            unfold inZ
            by_cases q : -9223372036854775808 ≤ off + save
            · rw [decide_eq_false (p := off + save ≤ 9223372036854775807) (fun r => hq ⟨q, r⟩), Bool.and_false]
            · rw [decide_eq_false q]; rfl
          refine ⟨0, by rw [if_neg (by rw [hi]; decide)], by decide, by decide, ?_⟩
          rw [hi, P20.text_out (x := off + save) (by omega)]; rfl
      obtain ⟨X, hX1, hX2, hX3, hX4⟩ := hX
      rw [hX1] at cA
      rw [← hX4]
      have cT : Hid (∀ W, Calls Tryd.prog 40 #[.int .i64 X] W fun e w' => e = .returned (.string (str (P20.text X))) ∧ Below W.heap.size W w') := fun W => ntext_any X W hX2 hX3
      clear hX1 hX2 hX3 hX4
      have hne : (P20.text X ≠ [] ∧ ((str (P20.text X)).toList.isEmpty = false ∧ ¬ (str (P20.text X)).toList = [])) ∨ (¬ P20.text X ≠ [] ∧ (str (P20.text X)).toList.isEmpty = true ∧ (str (P20.text X)).toList = []) := by
        rw [str_toList]
        by_cases q : P20.text X = []
        · exact .inr ⟨fun r => r q, by rw [q]; rfl, q⟩
        · exact .inl ⟨q, by rw [List.isEmpty_eq_false_iff]; exact q, q⟩
      generalize inZ (off + save) = Z at cA ⊢
      generalize P20.text X = t at cT hne ⊢
      have cR : Hid (∀ (b : Bool) W, Calls Tryd.prog 51 #[.string (str t), .bool b] W fun e w' => e = .returned (.tuple #[.string (if b = true then str t else str []), .int .i64 (if b = true then 0 else 15)]) ∧ w' = W) := fun b W => right_any (str t) b W
      rw [show (.string (str (if (Z && decide (t ≠ [])) = true then (t, (0 : Int)) else ([], 15)).1) : Value) = .string (if (Z && decide (t ≠ [])) = true then str t else str []) by split <;> rfl, show (if (Z && decide (t ≠ [])) = true then (t, (0 : Int)) else ([], 15)).2 = if (Z && decide (t ≠ [])) = true then 0 else 15 by split <;> rfl]
      generalize str t = ST at cT cR hne ⊢
      rcases hne with ⟨hn1, hn2, hn3⟩ | ⟨hn1, hn2, hn3⟩
      · rw [decide_eq_true hn1]
        clear hn1
        cases Z with
        | true =>
          go_enter Tryd.func17, Tryd.ntmps17
          go_wp2_with fail
          refine (cP.out _ hv0).mono ?_
          rintro e w1 ⟨rfl, hc1⟩
          have hB1 := hB.below hc1 hB.lt
          have hb1 := hb0.trans (hc1.mono hb0.size)
          have hv1 := hv.below hb1
          clear hB hb0 hv0 hc1
          go_wp2_with fail
          refine (cK.out _ hv1).mono ?_
          rintro e w2 ⟨rfl, hc2⟩
          have hB2 := hB1.below hc2 hB1.lt
          have hb2 := hb1.trans (hc2.mono hb1.size)
          have hv2 := hv.below hb2
          clear hB1 hb1 hv1 hc2
          have k0 := (hB2.cell 0).trans rfl
          have k1 := (hB2.cell 1).trans rfl
          go_wp2_with (go_at_call 52; refine (cA.out _).mono ?_; rintro e w' ⟨rfl, rfl⟩)
          refine (cT.out _).mono ?_
          rintro e w4 ⟨rfl, hc4⟩
          have hb4 := hb2.trans (hc4.mono hb2.size)
          clear k0 k1 hB2 hv2 hc4
          go_wp2_with fail
          refine (cR.out _ _).mono ?_
          rintro e w5 ⟨rfl, rfl⟩
          go_wp2_with fail
          go_ret2
          exact ⟨rfl, hb4⟩
        | false =>
          go_enter Tryd.func17, Tryd.ntmps17
          go_wp2_with fail
          refine (cP.out _ hv0).mono ?_
          rintro e w1 ⟨rfl, hc1⟩
          have hB1 := hB.below hc1 hB.lt
          have hb1 := hb0.trans (hc1.mono hb0.size)
          have hv1 := hv.below hb1
          clear hB hb0 hv0 hc1
          go_wp2_with fail
          refine (cK.out _ hv1).mono ?_
          rintro e w2 ⟨rfl, hc2⟩
          have hB2 := hB1.below hc2 hB1.lt
          have hb2 := hb1.trans (hc2.mono hb1.size)
          have hv2 := hv.below hb2
          clear hB1 hb1 hv1 hc2
          have k0 := (hB2.cell 0).trans rfl
          have k1 := (hB2.cell 1).trans rfl
          go_wp2_with (go_at_call 52; refine (cA.out _).mono ?_; rintro e w' ⟨rfl, rfl⟩)
          refine (cT.out _).mono ?_
          rintro e w4 ⟨rfl, hc4⟩
          have hb4 := hb2.trans (hc4.mono hb2.size)
          clear k0 k1 hB2 hv2 hc4
          go_wp2_with fail
          refine (cR.out _ _).mono ?_
          rintro e w5 ⟨rfl, rfl⟩
          go_wp2_with fail
          go_ret2
          exact ⟨rfl, hb4⟩
      · rw [decide_eq_false hn1]
        clear hn1
        cases Z with
        | true =>
          go_enter Tryd.func17, Tryd.ntmps17
          go_wp2_with fail
          refine (cP.out _ hv0).mono ?_
          rintro e w1 ⟨rfl, hc1⟩
          have hB1 := hB.below hc1 hB.lt
          have hb1 := hb0.trans (hc1.mono hb0.size)
          have hv1 := hv.below hb1
          clear hB hb0 hv0 hc1
          go_wp2_with fail
          refine (cK.out _ hv1).mono ?_
          rintro e w2 ⟨rfl, hc2⟩
          have hB2 := hB1.below hc2 hB1.lt
          have hb2 := hb1.trans (hc2.mono hb1.size)
          have hv2 := hv.below hb2
          clear hB1 hb1 hv1 hc2
          have k0 := (hB2.cell 0).trans rfl
          have k1 := (hB2.cell 1).trans rfl
          go_wp2_with (go_at_call 52; refine (cA.out _).mono ?_; rintro e w' ⟨rfl, rfl⟩)
          refine (cT.out _).mono ?_
          rintro e w4 ⟨rfl, hc4⟩
          have hb4 := hb2.trans (hc4.mono hb2.size)
          clear k0 k1 hB2 hv2 hc4
          go_wp2_with fail
          refine (cR.out _ _).mono ?_
          rintro e w5 ⟨rfl, rfl⟩
          go_wp2_with fail
          go_ret2
          exact ⟨rfl, hb4⟩
        | false =>
          go_enter Tryd.func17, Tryd.ntmps17
          go_wp2_with fail
          refine (cP.out _ hv0).mono ?_
          rintro e w1 ⟨rfl, hc1⟩
          have hB1 := hB.below hc1 hB.lt
          have hb1 := hb0.trans (hc1.mono hb0.size)
          have hv1 := hv.below hb1
          clear hB hb0 hv0 hc1
          go_wp2_with fail
          refine (cK.out _ hv1).mono ?_
          rintro e w2 ⟨rfl, hc2⟩
          have hB2 := hB1.below hc2 hB1.lt
          have hb2 := hb1.trans (hc2.mono hb1.size)
          have hv2 := hv.below hb2
          clear hB1 hb1 hv1 hc2
          have k0 := (hB2.cell 0).trans rfl
          have k1 := (hB2.cell 1).trans rfl
          go_wp2_with (go_at_call 52; refine (cA.out _).mono ?_; rintro e w' ⟨rfl, rfl⟩)
          refine (cT.out _).mono ?_
          rintro e w4 ⟨rfl, hc4⟩
          have hb4 := hb2.trans (hc4.mono hb2.size)
          clear k0 k1 hB2 hv2 hc4
          go_wp2_with fail
          refine (cR.out _ _).mono ?_
          rintro e w5 ⟨rfl, rfl⟩
          go_wp2_with fail
          go_ret2
          exact ⟨rfl, hb4⟩
    · rw [hK] at cK
      rw [abbrv_k1 hT (.inr hK)]
      clear hT hK
      go_enter Tryd.func17, Tryd.ntmps17
      go_wp2_with fail
      refine (cP.out _ hv0).mono ?_
      rintro e w1 ⟨rfl, hc1⟩
      have hB1 := hB.below hc1 hB.lt
      have hb1 := hb0.trans (hc1.mono hb0.size)
      have hv1 := hv.below hb1
      clear hB hb0 hv0 hc1
      go_wp2_with fail
      refine (cK.out _ hv1).mono ?_
      rintro e w2 ⟨rfl, hc2⟩
      have hB2 := hB1.below hc2 hB1.lt
      have hb2 := hb1.trans (hc2.mono hb1.size)
      have hv2 := hv.below hb2
      clear hB1 hb1 hv1 hc2
      clear hB2 hv2
      go_wp2_with fail
      go_ret2
      exact ⟨rfl, hb2⟩
end Go.Proofs.YtmhciidliicheaaDoor
