/- The walks of the laws ReportTexts and ReportCompares (chapter 32). -/
import Derived.Test.YtggdfgdnpicepaaDoorEx32
import Derived.Test.YtggdfgdnpicepaaDoorRep32h
import Derived.OpenShut
namespace Go.Proofs.YtggdfgdnpicepaaDoor
open Go.RowKit
set_option linter.unusedVariables false

set_option maxRecDepth 100000 in
set_option maxHeartbeats 4000000 in
theorem walkReportTexts (A : Option Addr) (c : Nat) (L : List P32.CV) (w : World) (hl : L.length ≤ maxLen) (hC : CellsIn 4 P32.CV.cells w A L) (hok : ChOk L) (hv : Vars w) :
    Calls Tryd.prog 4 #[.slice A L.length c] w fun e w' => e = .returned (.bool true) ∧ Below w.heap.size w w' := by
  unfold maxLen at hl
  by_cases h40 : 40 < L.length
  · have hli : (40 : Int) < (L.length : Int) := by omega
    clear hC hok
    go_enter Tryd.func4, Tryd.ntmps4
    go_wp2_with fail
    refine (works32_any _ hv).mono ?_
    rintro e w1 ⟨rfl, hc⟩
    go_wp2_with fail
    go_ret
    exact ⟨rfl, hc⟩
  · have hli : (L.length : Int) ≤ 40 := by omega
    have c1 := Lib.hid (rep_text A c L w (by omega) hC hok hv)
    have c2 : Hid (∀ W, Below w.heap.size w W → Calls Tryd.prog 21 #[.slice A L.length c] W fun e w' => e = .returned (.tuple #[.string (str (P32.text L).1), .int .i64 (P32.text L).2]) ∧ Below W.heap.size W w') := Lib.hid (fun W h => rtext_any A c L W (by omega) (hC.below h) hok)
    generalize P32.text L = R at c1 c2
    obtain ⟨T, E⟩ := R
    clear hC hok
    go_enter Tryd.func4, Tryd.ntmps4
    go_wp2_with fail
    refine c1.out.mono ?_
    rintro e w1 ⟨rfl, h1⟩
    have H1 := Lib.hid h1
    clear h1
    go_wp2_with fail
    refine (c2.out _ H1.out).mono ?_
    rintro e w2 ⟨rfl, h2⟩
    have H2 := Lib.hid (H1.out.trans (h2.mono H1.out.size))
    clear h2 H1
    go_wp2_with fail
    refine (works32_any _ (hv.below H2.out)).mono ?_
    rintro e w3 ⟨rfl, h3⟩
    have H3 := Lib.hid (H2.out.trans (h3.mono H2.out.size))
    clear h3 H2
    go_wp2_with fail
    go_ret
    exact ⟨rfl, H3.out⟩

/-- few, as a Bool -/
theorem few_bool (s : SV) : ∃ R : Bool, (R = true ↔ few s) := by
  rcases Classical.em (few s) with h | h
  · exact ⟨true, by simp [h]⟩
  · exact ⟨false, by simp [h]⟩
theorem cmp_len (a b : SV) (h : few a) : (P32.chS a b).length ≤ 1000 := by
  have h1 := P32.ch_len P32.diffR P32.mkR a.rules b.rules a.rules.length
  have h2 := chZ_len a.zones b.zones h.2.2.2.2 a.zones.length
  have := h.1
  have := h.2.1
  unfold P32.chS
  rw [List.length_append]
  omega
set_option maxRecDepth 100000 in
set_option maxHeartbeats 8000000 in
theorem walkReportCompares (a b : SV) (w : World) (hA : SrcIn w a) (hsa : SrcSz a) (hB : SrcIn w b) (hsb : SrcSz b) (hv : Vars w) :
    Calls Tryd.prog 3 #[.agg #[.slice a.rA a.rules.length a.rc, .slice a.zA a.zones.length a.zc, .slice a.kA a.links.length a.kc, .slice a.hA a.shifts.length a.hc], .agg #[.slice b.rA b.rules.length b.rc, .slice b.zA b.zones.length b.zc, .slice b.kA b.links.length b.kc, .slice b.hA b.shifts.length b.hc]] w fun e w' => e = .returned (.bool true) ∧ Below w.heap.size w w' := by
  have hB1 := Blk.new w 27 #[.slice a.rA a.rules.length a.rc, .slice a.zA a.zones.length a.zc, .slice a.kA a.links.length a.kc, .slice a.hA a.shifts.length a.hc]
  have hb1 := (Below.refl w.heap.size w).alloc (Nat.le_refl _) (.cells #[.slice a.rA a.rules.length a.rc, .slice a.zA a.zones.length a.zc, .slice a.kA a.links.length a.kc, .slice a.hA a.shifts.length a.hc] 27)
  have hB1' := hB1.alloc (.cells #[.slice b.rA b.rules.length b.rc, .slice b.zA b.zones.length b.zc, .slice b.kA b.links.length b.kc, .slice b.hA b.shifts.length b.hc] 27)
  have hB2 := Blk.newAt (w.alloc (.cells #[.slice a.rA a.rules.length a.rc, .slice a.zA a.zones.length a.zc, .slice a.kA a.links.length a.kc, .slice a.hA a.shifts.length a.hc] 27)) (w.heap.size + 1) (by simp) 27 #[.slice b.rA b.rules.length b.rc, .slice b.zA b.zones.length b.zc, .slice b.kA b.links.length b.kc, .slice b.hA b.shifts.length b.hc]
  have hb2 := hb1.alloc hb1.size (.cells #[.slice b.rA b.rules.length b.rc, .slice b.zA b.zones.length b.zc, .slice b.kA b.links.length b.kc, .slice b.hA b.shifts.length b.hc] 27)
  have HX := Lib.hid (show Boxes a b w ((w.alloc (.cells #[.slice a.rA a.rules.length a.rc, .slice a.zA a.zones.length a.zc, .slice a.kA a.links.length a.kc, .slice a.hA a.shifts.length a.hc] 27)).alloc (.cells #[.slice b.rA b.rules.length b.rc, .slice b.zA b.zones.length b.zc, .slice b.kA b.links.length b.kc, .slice b.hA b.shifts.length b.hc] 27)) from ⟨hB1', hB2, hb2⟩)
  clear hB1 hb1 hB1' hB2 hb2
  obtain ⟨RA, hRA⟩ := few_bool a
  obtain ⟨RB, hRB⟩ := few_bool b
  have HA := Lib.hid hA; have HB := Lib.hid hB; have HSA := Lib.hid hsa; have HSB := Lib.hid hsb; have HRA := Lib.hid hRA; have HRB := Lib.hid hRB
  have cA : Hid (∀ W, Boxes a b w W → Calls Tryd.prog 15 #[.agg #[.slice a.rA a.rules.length a.rc, .slice a.zA a.zones.length a.zc, .slice a.kA a.links.length a.kc, .slice a.hA a.shifts.length a.hc]] W fun e w' => e = .returned (.bool RA) ∧ Boxes a b w w') := Lib.hid (fun W h => (few_any a RA W hRA (hA.below h.2.2)).mono fun _ _ ⟨he, hb⟩ => ⟨he, h.below hb⟩)
  have cB : Hid (∀ W, Boxes a b w W → Calls Tryd.prog 15 #[.agg #[.slice b.rA b.rules.length b.rc, .slice b.zA b.zones.length b.zc, .slice b.kA b.links.length b.kc, .slice b.hA b.shifts.length b.hc]] W fun e w' => e = .returned (.bool RB) ∧ Boxes a b w w') := Lib.hid (fun W h => (few_any b RB W hRB (hB.below h.2.2)).mono fun _ _ ⟨he, hb⟩ => ⟨he, h.below hb⟩)
  have cW : Hid (∀ W, Boxes a b w W → Calls Tryd.prog 16 #[] W fun e w' => e = .returned (.bool true) ∧ Boxes a b w w') := Lib.hid (fun W h => (works32_any W (hv.below h.2.2)).mono fun _ _ ⟨he, hb⟩ => ⟨he, h.below hb⟩)
  have ka0 := (HX.out.1.cell 0).trans rfl
  have ka1 := (HX.out.1.cell 1).trans rfl
  have ka2 := (HX.out.1.cell 2).trans rfl
  have ka3 := (HX.out.1.cell 3).trans rfl
  clear hA hB hsa hsb hRA hRB
  go_enter Tryd.func3, Tryd.ntmps3
  go_wp2_with fail
  refine (cA.out _ HX.out).mono ?_
  rintro e w1 ⟨rfl, h1⟩
  have HX1 := Lib.hid h1
  clear h1 HX ka0 ka1 ka2 ka3 cA
  cases RA with
  | false =>
    clear HA HB HSA HSB HRA HRB cB
    go_wp2_with fail
    refine (cW.out _ HX1.out).mono ?_
    rintro e w2 ⟨rfl, h2⟩
    have H2 := Lib.hid h2.2.2
    clear h2 cW
    go_wp2_with fail
    go_ret
    exact ⟨rfl, H2.out⟩
  | true =>
    have kb0 := (HX1.out.2.1.cell 0).trans rfl
    have kb1 := (HX1.out.2.1.cell 1).trans rfl
    have kb2 := (HX1.out.2.1.cell 2).trans rfl
    have kb3 := (HX1.out.2.1.cell 3).trans rfl
    go_wp2_with fail
    refine (cB.out _ HX1.out).mono ?_
    rintro e w2 ⟨rfl, h2⟩
    have HX2 := Lib.hid h2
    clear h2 HX1 kb0 kb1 kb2 kb3 cB
    cases RB with
    | false =>
      clear HA HB HSA HSB HRA HRB
      go_wp2_with fail
      refine (cW.out _ HX2.out).mono ?_
      rintro e w3 ⟨rfl, h3⟩
      have H3 := Lib.hid h3.2.2
      clear h3 cW
      go_wp2_with fail
      go_ret
      exact ⟨rfl, H3.out⟩
    | true =>
      have ka0 := (HX2.out.1.cell 0).trans rfl
      have ka1 := (HX2.out.1.cell 1).trans rfl
      have ka2 := (HX2.out.1.cell 2).trans rfl
      have ka3 := (HX2.out.1.cell 3).trans rfl
      have kb0 := (HX2.out.2.1.cell 0).trans rfl
      have kb1 := (HX2.out.2.1.cell 1).trans rfl
      have kb2 := (HX2.out.2.1.cell 2).trans rfl
      have kb3 := (HX2.out.2.1.cell 3).trans rfl
      have HF := Lib.hid (HRA.out.1 trivial)
      have c1 := Lib.hid (compare_any a b w2 (HA.out.below HX2.out.2.2) (HB.out.below HX2.out.2.2) HF.out HSB.out)
      clear HRA HRB
      go_wp2_with fail
      refine c1.out.mono ?_
      intro e w3 hres
      have HRES := Lib.hid hres
      have hb3 : Below w2.heap.size w2 w3 := by
        rcases hres with ⟨_, _, h⟩ | ⟨_, _, h⟩ <;> exact h
      have HX3 := Lib.hid (HX2.out.below hb3)
      clear hres hb3 HX2 ka0 ka1 ka2 ka3 kb0 kb1 kb2 kb3 c1
      have ka0 := (HX3.out.1.cell 0).trans rfl
      have ka1 := (HX3.out.1.cell 1).trans rfl
      have ka2 := (HX3.out.1.cell 2).trans rfl
      have ka3 := (HX3.out.1.cell 3).trans rfl
      have kb0 := (HX3.out.2.1.cell 0).trans rfl
      have kb1 := (HX3.out.2.1.cell 1).trans rfl
      have kb2 := (HX3.out.2.1.cell 2).trans rfl
      have kb3 := (HX3.out.2.1.cell 3).trans rfl
      have c2 := Lib.hid (rcompare_any a b w3 (HA.out.below HX3.out.2.2) (HB.out.below HX3.out.2.2) HF.out HSB.out)
      rcases Classical.em (P32.okS a b) with hok | hno
      · have hr : ∃ A c, e = .returned (.tuple #[.slice A (P32.chS a b).length c, .int .i64 0]) ∧ ChIn w3 A (P32.chS a b) := by
          rcases HRES.out with ⟨_, ⟨A, c, h1, h2⟩, _⟩ | ⟨h1, _⟩
          · exact ⟨A, c, h1, h2⟩
          · exact absurd hok h1
        obtain ⟨A1, a1, rfl, hl1⟩ := hr
        have HL1 := Lib.hid hl1
        have HOK := Lib.hid hok
        clear hl1 hok HRES
        go_wp2_with fail
        refine c2.out.mono ?_
        intro e w4 hres
        have hr : ∃ A c, e = .returned (.tuple #[.slice A (P32.chS a b).length c, .int .i64 0]) ∧ ChIn w4 A (P32.chS a b) ∧ Below w3.heap.size w3 w4 := by
          rcases hres with ⟨_, ⟨A, c, h1, h2⟩, h3⟩ | ⟨h1, _⟩
          · exact ⟨A, c, h1, h2, h3⟩
          · exact absurd HOK.out h1
        obtain ⟨A2, a2, rfl, hl2, hb4⟩ := hr
        have HX4 := Lib.hid (HX3.out.below hb4)
        have cS := Lib.hid (same_any A1 A2 a1 a2 (P32.chS a b) (P32.chS a b) true w4 (by simp) (HL1.out.below hb4) hl2 (cmp_len a b HF.out) (by have := cmp_len a b HF.out; simp only [maxLen]; omega))
        clear hres hl2 hb4 HX3 ka0 ka1 ka2 ka3 kb0 kb1 kb2 kb3 c2 HL1
        generalize (P32.chS a b).length = N at cS ⊢
        go_wp2_with fail
        refine cS.out.mono ?_
        rintro e w5 ⟨rfl, hq⟩
        have HX5 := Lib.hid (HX4.out.below (hq.below w4.heap.size))
        clear hq HX4 cS
        go_wp2_with fail
        refine (cW.out _ HX5.out).mono ?_
        rintro e w6 ⟨rfl, h6⟩
        have H6 := Lib.hid h6.2.2
        clear h6 cW HX5
        go_wp2_with fail
        go_ret
        exact ⟨rfl, H6.out⟩
      · have hr : e = .returned (.tuple #[.slice none 0 0, .int .i64 2]) := by
          rcases HRES.out with ⟨h, _⟩ | ⟨_, h, _⟩
          · exact absurd h hno
          · exact h
        subst hr
        have HNO := Lib.hid hno
        clear hno HRES
        go_wp2_with fail
        refine c2.out.mono ?_
        intro e w4 hres
        have hr : e = .returned (.tuple #[.slice none 0 0, .int .i64 2]) ∧ Below w3.heap.size w3 w4 := by
          rcases hres with ⟨h, _⟩ | ⟨_, h, h2⟩
          · exact absurd h HNO.out
          · exact ⟨h, h2⟩
        obtain ⟨rfl, hb4⟩ := hr
        have HX4 := Lib.hid (HX3.out.below hb4)
        have cS := Lib.hid (same_any none none 0 0 [] [] true w4 (by simp) (CellsIn.nil _ _) (CellsIn.nil _ _) (by decide) (by decide))
        clear hres hb4 HX3 ka0 ka1 ka2 ka3 kb0 kb1 kb2 kb3 c2
        go_wp2_with fail
        refine cS.out.mono ?_
        rintro e w5 ⟨rfl, hq⟩
        have HX5 := Lib.hid (HX4.out.below (hq.below w4.heap.size))
        clear hq HX4 cS
        go_wp2_with fail
        refine (cW.out _ HX5.out).mono ?_
        rintro e w6 ⟨rfl, h6⟩
        have H6 := Lib.hid h6.2.2
        clear h6 cW HX5
        go_wp2_with fail
        go_ret
        exact ⟨rfl, H6.out⟩
end Go.Proofs.YtggdfgdnpicepaaDoor
