/- ReportShapes: for every input whose arguments hold together at most 1048576 values and letters the law returns true, and each argument reads as before. The listed package-level variables read as listed; the card ties them to the program's text. -/
import Derived.Test.YtlideagcmhlkeaaDoorV4
import Derived.BigRegion
import Derived.BigQuiet
import Derived.IntWalk
import Derived.Deep.DeepCutAuto
import Derived.Test.YtlideagcmhlkeaaDoorCards
import Derived.Test.YtlideagcmhlkeaaDoorTie
import Derived.Carry
import Derived.WalkKit
import Derived.ProofKit
import Derived.OpenShut
import Derived.ShutString
import Derived.LaidMore
import Derived.ChangeOld
import Derived.Below
import Derived.Stop.Joined
import Derived.Lib.SmallJoins
import Derived.SevenTiedAt
import Derived.Deep.DeepHandedRow

/- The walk of the law ReportShapes (chapter 32). -/
namespace Go.Proofs.YtlideagcmhlkeaaDoor
open Go.RowKit Go.Lib
set_option linter.unusedVariables false
set_option linter.unusedSimpArgs false
set_option pp.maxSteps 100000
theorem few_boolS (s : SV) : ∃ R : Bool, (R = true ↔ few s) := by
  rcases Classical.em (few s) with h | h
  · exact ⟨true, by simp [h]⟩
  · exact ⟨false, by simp [h]⟩
set_option maxRecDepth 100000 in
set_option maxHeartbeats 16000000 in
theorem walkReportShapes (s : SV) (what wher : Int) (w : World) (hS : SrcIn w s) (hfm : SmallStr 1048576 s) (hwhat : 0 ≤ what ∧ what ≤ 255) (hwher : 0 ≤ wher ∧ wher ≤ 255) (hv : Vars w) :
    Calls Tryd.prog 12 #[.agg #[.slice s.rA s.rules.length s.rc, .slice s.zA s.zones.length s.zc, .slice s.kA s.links.length s.kc, .slice s.hA s.shifts.length s.hc], .int .u8 what, .int .u8 wher] w fun e w' => e = .returned (.bool true) ∧ Below w.heap.size w w' := by
  have hX := Blk.new w 32 #[.slice s.rA s.rules.length s.rc, .slice s.zA s.zones.length s.zc, .slice s.kA s.links.length s.kc, .slice s.hA s.shifts.length s.hc]
  have hb0 := (Below.refl w.heap.size w).alloc (Nat.le_refl _) (.cells #[.slice s.rA s.rules.length s.rc, .slice s.zA s.zones.length s.zc, .slice s.kA s.links.length s.kc, .slice s.hA s.shifts.length s.hc] 32)
  have HS := Lib.hid (hS.below hb0); have HB := Lib.hid hb0; have HX := Lib.hid hX; have HFM := Lib.hid hfm; have HV := Lib.hid hv; have HWT := Lib.hid hwhat; have HWR := Lib.hid hwher
  have c0 := (hX.cell 0).trans rfl; have c1 := (hX.cell 1).trans rfl; have c2 := (hX.cell 2).trans rfl; have c3 := (hX.cell 3).trans rfl
  clear hX hb0 hS hfm hv hwhat hwher
  obtain ⟨RB, hRB⟩ := few_boolS s
  go_enter Tryd.func12, Tryd.ntmps12
  go_wp2_with fail
  refine (few_any s RB _ hRB HS.out).mono ?_
  rintro e W1 ⟨rfl, hc⟩
  have HB1 := Lib.hid (HB.out.trans (hc.mono HB.out.size))
  have HS1 := Lib.hid (HS.out.below hc)
  have HX1 := Lib.hid (HX.out.below hc HX.out.lt)
  clear hc HS HB HX c0 c1 c2 c3
  cases RB with
  | false =>
    clear hRB
    go_wp2_with fail
    refine (works32_any _ (HV.out.below HB1.out)).mono ?_
    rintro e W9 ⟨rfl, hc⟩
    have HBE := Lib.hid (HB1.out.trans (hc.mono HB1.out.size))
    clear hc
    go_wp2_with fail
    go_ret
    exact ⟨rfl, HBE.out⟩
  | true =>
  have HF := Lib.hid (hRB.1 rfl)
  clear hRB
  have c0 := (HX1.out.cell 0).trans rfl; have c1 := (HX1.out.cell 1).trans rfl; have c2 := (HX1.out.cell 2).trans rfl; have c3 := (HX1.out.cell 3).trans rfl
  go_wp2_with fail
  refine (copy28 s W1 HS1.out HF.out).mono ?_
  rintro e W2 ⟨t, rfl, hcp, hc⟩
  have HX2 := Lib.hid (HX1.out.below hc HX1.out.lt)
  have HB2 := Lib.hid (HB1.out.trans (hc.mono HB1.out.size))
  have HCP := Lib.hid hcp; have HC12 := Lib.hid hc
  have c0 := (HX2.out.cell 0).trans rfl; have c1 := (HX2.out.cell 1).trans rfl; have c2 := (HX2.out.cell 2).trans rfl; have c3 := (HX2.out.cell 3).trans rfl
  have f0 := HX2.out.frozen 0; have f1 := HX2.out.frozen 1; have f2 := HX2.out.frozen 2; have f3 := HX2.out.frozen 3
  clear hcp hc HX1
  have HSB := Lib.hid (show Sb w ((((W2.setCell ⟨w.heap.size, 0, none⟩ (.slice t.rA t.rules.length t.rc)).setCell ⟨w.heap.size, 1, none⟩ (.slice t.zA t.zones.length t.zc)).setCell ⟨w.heap.size, 2, none⟩ (.slice t.kA t.links.length t.kc)).setCell ⟨w.heap.size, 3, none⟩ (.slice t.hA t.shifts.length t.hc)) w.heap.size w.heap.size W1.heap.size t from Sb.start HX2.out HCP.out.self32 HB2.out ⟨HB1.out.size, Nat.le_refl _⟩)
  have HS3 := Lib.hid (HSB.out.below ((Below.refl ((((W2.setCell ⟨w.heap.size, 0, none⟩ (.slice t.rA t.rules.length t.rc)).setCell ⟨w.heap.size, 1, none⟩ (.slice t.zA t.zones.length t.zc)).setCell ⟨w.heap.size, 2, none⟩ (.slice t.kA t.links.length t.kc)).setCell ⟨w.heap.size, 3, none⟩ (.slice t.hA t.shifts.length t.hc)).heap.size ((((W2.setCell ⟨w.heap.size, 0, none⟩ (.slice t.rA t.rules.length t.rc)).setCell ⟨w.heap.size, 1, none⟩ (.slice t.zA t.zones.length t.zc)).setCell ⟨w.heap.size, 2, none⟩ (.slice t.kA t.links.length t.kc)).setCell ⟨w.heap.size, 3, none⟩ (.slice t.hA t.shifts.length t.hc))).alloc (Nat.le_refl _) (.cells #[.string ⟨#[82]⟩, .int .i64 0, .int .i64 0, .int .i64 0, .int .i64 0, .int .i64 0, .int .i64 0, .int .i64 0, .int .i64 0, .int .i64 0, .string ⟨#[]⟩] 83)))
  have HNB := Lib.hid (Blk.newAt ((((W2.setCell ⟨w.heap.size, 0, none⟩ (.slice t.rA t.rules.length t.rc)).setCell ⟨w.heap.size, 1, none⟩ (.slice t.zA t.zones.length t.zc)).setCell ⟨w.heap.size, 2, none⟩ (.slice t.kA t.links.length t.kc)).setCell ⟨w.heap.size, 3, none⟩ (.slice t.hA t.shifts.length t.hc)) W2.heap.size (by simp) 83 #[.string ⟨#[82]⟩, .int .i64 0, .int .i64 0, .int .i64 0, .int .i64 0, .int .i64 0, .int .i64 0, .int .i64 0, .int .i64 0, .int .i64 0, .string ⟨#[]⟩])
  have HSZ := Lib.hid (show W1.heap.size ≤ (((((W2.setCell ⟨w.heap.size, 0, none⟩ (.slice t.rA t.rules.length t.rc)).setCell ⟨w.heap.size, 1, none⟩ (.slice t.zA t.zones.length t.zc)).setCell ⟨w.heap.size, 2, none⟩ (.slice t.kA t.links.length t.kc)).setCell ⟨w.heap.size, 3, none⟩ (.slice t.hA t.shifts.length t.hc)).alloc (.cells #[.string ⟨#[82]⟩, .int .i64 0, .int .i64 0, .int .i64 0, .int .i64 0, .int .i64 0, .int .i64 0, .int .i64 0, .int .i64 0, .int .i64 0, .string ⟨#[]⟩] 83)).heap.size from by have := HC12.out.size; simp; omega)
  have HTL := Lib.hid (show t.rules.length ≤ 40 ∧ t.zones.length ≤ 10 ∧ t.links.length ≤ 40 from ⟨by rw [HCP.out.rules.1]; exact HF.out.1, by rw [HCP.out.zones.2.same.1]; exact HF.out.2.1, by rw [HCP.out.links.1]; exact HF.out.2.2.1⟩)
  clear HX2 HSB
  obtain ⟨i0, hi, hz0, hz1, hz2⟩ := info_parts infoRuleC
  go_wp2_with (at_builtin; refine wpList_append_own _ rfl _ _ 27 rfl W1.heap.size 83 i0 _ 11 104 Tryd.underlying27 hi hz0 hz1 hz2 rfl (by decide) _ _ _ rfl HS3.out.cp.rules.2 ⟨W2.heap.size, 0, none⟩ 1 1 [.string ⟨#[82]⟩, .int .i64 0, .int .i64 0, .int .i64 0, .int .i64 0, .int .i64 0, .int .i64 0, .int .i64 0, .int .i64 0, .int .i64 0, .string ⟨#[]⟩] rfl rfl (blk_cells HNB.out) (by simp [Value.oneCell']) (by have := HTL.out.1; show t.rules.length + 1 ≤ maxLen; simp only [maxLen]; omega) (by have := HTL.out.1; show (t.rules.length + 1) * 104 ≤ _; omega) HSZ.out ?_)
  clear hi hz0 hz1 hz2
  intro v1 W6 hown hgr hne
  obtain ⟨rA', rc', rfl⟩ := row_is32 hown
  have HS4 := Lib.hid (show Sb w (W6.setCell ⟨w.heap.size, 0, none⟩ (.slice rA' (t.rules.length + 1) rc')) w.heap.size w.heap.size W1.heap.size { t with rules := t.rules ++ [(⟨⟨#[82]⟩, 0, 0, 0, 0, 0, 0, 0, 0, 0, ⟨#[]⟩⟩ : RV)], rA := rA', rc := rc' } from HS3.out.growR hgr (show RowOf W6 W1.heap.size 83 11 RV.cells rA' rc' (t.rules ++ [(⟨⟨#[82]⟩, 0, 0, 0, 0, 0, 0, 0, 0, 0, ⟨#[]⟩⟩ : RV)]) from by unfold RowOf; rw [List.length_append, List.flatMap_append]; exact hown))
  have ho := blk_other32 HS3.out.box HS3.out.cp.rules.2 (by decide) hgr
  have g0 := (ho.cell 0).trans rfl; have g1 := (ho.cell 1).trans rfl
  have f1 := ho.frozen 1; have f0 := ho.frozen 0
  have HSZ1 := Lib.hid (Nat.le_trans HSZ.out hgr.size)
  clear hown hgr hne HNB HSZ ho HS3 c0 c1 c2 c3 f2 f3
  have HE1 := Lib.hid (show RowOf ((W6.setCell ⟨w.heap.size, 0, none⟩ (.slice rA' (t.rules.length + 1) rc')).alloc (.cells #[.int .i64 0, .int .i64 0, .int .i64 0, .string ⟨#[]⟩, .string ⟨#[65]⟩, .bool false, .int .i64 0, .int .i64 0, .int .i64 0, .int .i64 0, .int .i64 0, .int .i64 0, .int .i64 0] 47)) W1.heap.size 47 13 EV.cells (some ⟨W6.heap.size, 0, none⟩) 1 [(⟨0, 0, 0, ⟨#[]⟩, ⟨#[65]⟩, false, 0, 0, 0, 0, 0, 0, 0⟩ : EV)] from own_new (base := W1.heap.size) 13 1 (Blk.newAt (W6.setCell ⟨w.heap.size, 0, none⟩ (.slice rA' (t.rules.length + 1) rc')) W6.heap.size (by simp) 47 #[.int .i64 0, .int .i64 0, .int .i64 0, .string ⟨#[]⟩, .string ⟨#[65]⟩, .bool false, .int .i64 0, .int .i64 0, .int .i64 0, .int .i64 0, .int .i64 0, .int .i64 0, .int .i64 0]) HSZ1.out rfl (by decide))
  have hal1 := (Below.refl (W6.setCell ⟨w.heap.size, 0, none⟩ (.slice rA' (t.rules.length + 1) rc')).heap.size (W6.setCell ⟨w.heap.size, 0, none⟩ (.slice rA' (t.rules.length + 1) rc'))).alloc (Nat.le_refl _) (.cells #[.int .i64 0, .int .i64 0, .int .i64 0, .string ⟨#[]⟩, .string ⟨#[65]⟩, .bool false, .int .i64 0, .int .i64 0, .int .i64 0, .int .i64 0, .int .i64 0, .int .i64 0, .int .i64 0] 47)
  have hal2 := (Below.refl ((W6.setCell ⟨w.heap.size, 0, none⟩ (.slice rA' (t.rules.length + 1) rc')).alloc (.cells #[.int .i64 0, .int .i64 0, .int .i64 0, .string ⟨#[]⟩, .string ⟨#[65]⟩, .bool false, .int .i64 0, .int .i64 0, .int .i64 0, .int .i64 0, .int .i64 0, .int .i64 0, .int .i64 0] 47)).heap.size ((W6.setCell ⟨w.heap.size, 0, none⟩ (.slice rA' (t.rules.length + 1) rc')).alloc (.cells #[.int .i64 0, .int .i64 0, .int .i64 0, .string ⟨#[]⟩, .string ⟨#[65]⟩, .bool false, .int .i64 0, .int .i64 0, .int .i64 0, .int .i64 0, .int .i64 0, .int .i64 0, .int .i64 0] 47))).alloc (Nat.le_refl _) (.cells #[.string ⟨#[90]⟩, .slice (some ⟨W6.heap.size, 0, none⟩) 1 1] 39)
  have HE2 := Lib.hid (show RowOf (((W6.setCell ⟨w.heap.size, 0, none⟩ (.slice rA' (t.rules.length + 1) rc')).alloc (.cells #[.int .i64 0, .int .i64 0, .int .i64 0, .string ⟨#[]⟩, .string ⟨#[65]⟩, .bool false, .int .i64 0, .int .i64 0, .int .i64 0, .int .i64 0, .int .i64 0, .int .i64 0, .int .i64 0] 47)).alloc (.cells #[.string ⟨#[90]⟩, .slice (some ⟨W6.heap.size, 0, none⟩) 1 1] 39)) W1.heap.size 47 13 EV.cells (some ⟨W6.heap.size, 0, none⟩) 1 [(⟨0, 0, 0, ⟨#[]⟩, ⟨#[65]⟩, false, 0, 0, 0, 0, 0, 0, 0⟩ : EV)] from RowOf.below HE1.out hal2)
  have HAP := Lib.hid (show ∀ y ∈ t.zones, ∀ g, y.A = some ⟨g, 0, none⟩ → (some ⟨W6.heap.size, 0, none⟩ : Option Addr) ≠ some ⟨g, 0, none⟩ from fun y hy g hA q => by
    have h1 := HS4.out.freshA (y := y) hy hA
    injection q with q
    injection q with q
    simp at h1
    omega)
  have HS5 := Lib.hid ((HS4.out.below hal1).below hal2)
  have HNB := Lib.hid (Blk.newAt ((W6.setCell ⟨w.heap.size, 0, none⟩ (.slice rA' (t.rules.length + 1) rc')).alloc (.cells #[.int .i64 0, .int .i64 0, .int .i64 0, .string ⟨#[]⟩, .string ⟨#[65]⟩, .bool false, .int .i64 0, .int .i64 0, .int .i64 0, .int .i64 0, .int .i64 0, .int .i64 0, .int .i64 0] 47)) (W6.heap.size + 1) (by simp) 39 #[.string ⟨#[90]⟩, .slice (some ⟨W6.heap.size, 0, none⟩) 1 1])
  have HSZ := Lib.hid (show W1.heap.size ≤ (((W6.setCell ⟨w.heap.size, 0, none⟩ (.slice rA' (t.rules.length + 1) rc')).alloc (.cells #[.int .i64 0, .int .i64 0, .int .i64 0, .string ⟨#[]⟩, .string ⟨#[65]⟩, .bool false, .int .i64 0, .int .i64 0, .int .i64 0, .int .i64 0, .int .i64 0, .int .i64 0, .int .i64 0] 47)).alloc (.cells #[.string ⟨#[90]⟩, .slice (some ⟨W6.heap.size, 0, none⟩) 1 1] 39)).heap.size from by have := HSZ1.out; simp; omega)
  clear hal1 hal2 HE1 HS4
  obtain ⟨i0, hi, hz0, hz1, hz2⟩ := info_parts infoZone
  go_wp2_with (at_builtin; refine wpList_append_own _ rfl _ _ 28 rfl W1.heap.size 39 i0 _ 2 40 Tryd.underlying28 hi hz0 hz1 hz2 rfl (by decide) _ _ _ rfl HS5.out.cp.zones.1 ⟨W6.heap.size + 1, 0, none⟩ 1 1 [.string ⟨#[90]⟩, .slice (some ⟨W6.heap.size, 0, none⟩) 1 1] rfl rfl (blk_cells HNB.out) (by simp [Value.oneCell']) (by have := HTL.out.2.1; show t.zones.length + 1 ≤ maxLen; simp only [maxLen]; omega) (by have := HTL.out.2.1; show (t.zones.length + 1) * 40 ≤ _; omega) HSZ.out ?_)
  clear hi hz0 hz1 hz2
  intro v2 W7 hown hgr hne
  obtain ⟨zA', zc', rfl⟩ := row_is32 hown
  have HS6 := Lib.hid (show Sb w (W7.setCell ⟨w.heap.size, 1, none⟩ (.slice zA' (t.zones.length + 1) zc')) w.heap.size w.heap.size W1.heap.size { { t with rules := t.rules ++ [(⟨⟨#[82]⟩, 0, 0, 0, 0, 0, 0, 0, 0, 0, ⟨#[]⟩⟩ : RV)], rA := rA', rc := rc' } with zones := t.zones ++ [(⟨⟨#[90]⟩, some ⟨W6.heap.size, 0, none⟩, 1, [(⟨0, 0, 0, ⟨#[]⟩, ⟨#[65]⟩, false, 0, 0, 0, 0, 0, 0, 0⟩ : EV)]⟩ : ZV)], zA := zA', zc := zc' } from HS5.out.growZ (z := (⟨⟨#[90]⟩, some ⟨W6.heap.size, 0, none⟩, 1, [(⟨0, 0, 0, ⟨#[]⟩, ⟨#[65]⟩, false, 0, 0, 0, 0, 0, 0, 0⟩ : EV)]⟩ : ZV)) HE2.out HAP.out hgr (show RowOf W7 W1.heap.size 39 2 ZV.cells zA' zc' (t.zones ++ [(⟨⟨#[90]⟩, some ⟨W6.heap.size, 0, none⟩, 1, [(⟨0, 0, 0, ⟨#[]⟩, ⟨#[65]⟩, false, 0, 0, 0, 0, 0, 0, 0⟩ : EV)]⟩ : ZV)]) from by unfold RowOf; rw [List.length_append, List.flatMap_append]; exact hown))
  have ho := blk_other32 HS5.out.box HS5.out.cp.zones.1 (by decide) hgr
  have k1 := (ho.cell 1).trans rfl; have k2 := (ho.cell 2).trans rfl
  have q1 := ho.frozen 1; have q2 := ho.frozen 2
  have HSZ2 := Lib.hid (Nat.le_trans HSZ.out hgr.size)
  clear hown hgr hne HNB HSZ ho HS5 g0 g1 f0 f1 HE2 HAP
  have HS7 := Lib.hid (HS6.out.below ((Below.refl (W7.setCell ⟨w.heap.size, 1, none⟩ (.slice zA' (t.zones.length + 1) zc')).heap.size (W7.setCell ⟨w.heap.size, 1, none⟩ (.slice zA' (t.zones.length + 1) zc'))).alloc (Nat.le_refl _) (.cells #[.string ⟨#[90]⟩, .string ⟨#[76]⟩] 94)))
  have HNB := Lib.hid (Blk.newAt (W7.setCell ⟨w.heap.size, 1, none⟩ (.slice zA' (t.zones.length + 1) zc')) W7.heap.size (by simp) 94 #[.string ⟨#[90]⟩, .string ⟨#[76]⟩])
  have HSZ := Lib.hid (show W1.heap.size ≤ ((W7.setCell ⟨w.heap.size, 1, none⟩ (.slice zA' (t.zones.length + 1) zc')).alloc (.cells #[.string ⟨#[90]⟩, .string ⟨#[76]⟩] 94)).heap.size from by have := HSZ2.out; simp; omega)
  clear HS6
  obtain ⟨i0, hi, hz0, hz1, hz2⟩ := info_parts infoLink
  go_wp2_with (at_builtin; refine wpList_append_own _ rfl _ _ 29 rfl W1.heap.size 94 i0 _ 2 32 Tryd.underlying29 hi hz0 hz1 hz2 rfl (by decide) _ _ _ rfl HS7.out.cp.links.2 ⟨W7.heap.size, 0, none⟩ 1 1 [.string ⟨#[90]⟩, .string ⟨#[76]⟩] rfl rfl (blk_cells HNB.out) (by simp [Value.oneCell']) (by have := HTL.out.2.2; show t.links.length + 1 ≤ maxLen; simp only [maxLen]; omega) (by have := HTL.out.2.2; show (t.links.length + 1) * 32 ≤ _; omega) HSZ.out ?_)
  clear hi hz0 hz1 hz2
  intro v3 W8 hown hgr hne
  obtain ⟨kA', kc', rfl⟩ := row_is32 hown
  have HS8 := Lib.hid (show Sb w (W8.setCell ⟨w.heap.size, 2, none⟩ (.slice kA' (t.links.length + 1) kc')) w.heap.size w.heap.size W1.heap.size ({ { { t with rules := t.rules ++ [(⟨⟨#[82]⟩, 0, 0, 0, 0, 0, 0, 0, 0, 0, ⟨#[]⟩⟩ : RV)], rA := rA', rc := rc' } with zones := t.zones ++ [(⟨⟨#[90]⟩, some ⟨W6.heap.size, 0, none⟩, 1, [(⟨0, 0, 0, ⟨#[]⟩, ⟨#[65]⟩, false, 0, 0, 0, 0, 0, 0, 0⟩ : EV)]⟩ : ZV)], zA := zA', zc := zc' } with links := t.links ++ [(⟨⟨#[90]⟩, ⟨#[76]⟩⟩ : KV)], kA := kA', kc := kc' } : SV) from HS7.out.growK hgr (show RowOf W8 W1.heap.size 94 2 KV.cells kA' kc' (t.links ++ [(⟨⟨#[90]⟩, ⟨#[76]⟩⟩ : KV)]) from by unfold RowOf; rw [List.length_append, List.flatMap_append]; exact hown))
  have ho := blk_other32 HS7.out.box HS7.out.cp.links.2 (by decide) hgr
  have k0 := (ho.cell 0).trans rfl; have k1' := (ho.cell 1).trans rfl; have k2' := (ho.cell 2).trans rfl; have k3 := (ho.cell 3).trans rfl
  have q2' := ho.frozen 2
  have HGR := Lib.hid (show Gr ({ { { t with rules := t.rules ++ [(⟨⟨#[82]⟩, 0, 0, 0, 0, 0, 0, 0, 0, 0, ⟨#[]⟩⟩ : RV)], rA := rA', rc := rc' } with zones := t.zones ++ [(⟨⟨#[90]⟩, some ⟨W6.heap.size, 0, none⟩, 1, [(⟨0, 0, 0, ⟨#[]⟩, ⟨#[65]⟩, false, 0, 0, 0, 0, 0, 0, 0⟩ : EV)]⟩ : ZV)], zA := zA', zc := zc' } with links := t.links ++ [(⟨⟨#[90]⟩, ⟨#[76]⟩⟩ : KV)], kA := kA', kc := kc' } : SV) from grown32 (t := t) (like_sm (like32 HCP.out) HCP.out.shifts.1 HF.out.sm) (like_str (like32 HCP.out) HFM.out) HTL.out ⟨by decide, by decide⟩ ⟨by show (⟨#[90]⟩ : ByteArray).size ≤ 1; decide, rfl, fun e he => by rw [List.mem_singleton.1 he]; exact ⟨by decide, by decide⟩⟩ (by decide))
  clear hown hgr hne HNB HSZ ho HS7 k1 k2 q1 q2 HSZ2 HSZ1 HTL HCP
  go_wp2_with fail
  clear k0 k1' k2' k3 q2'
  generalize (W8.setCell ⟨w.heap.size, 2, none⟩ (.slice kA' (t.links.length + 1) kc')) = WF at HS8 ⊢
  obtain ⟨u, hu⟩ : ∃ u : SV, u = ({ { { t with rules := t.rules ++ [(⟨⟨#[82]⟩, 0, 0, 0, 0, 0, 0, 0, 0, 0, ⟨#[]⟩⟩ : RV)], rA := rA', rc := rc' } with zones := t.zones ++ [(⟨⟨#[90]⟩, some ⟨W6.heap.size, 0, none⟩, 1, [(⟨0, 0, 0, ⟨#[]⟩, ⟨#[65]⟩, false, 0, 0, 0, 0, 0, 0, 0⟩ : EV)]⟩ : ZV)], zA := zA', zc := zc' } with links := t.links ++ [(⟨⟨#[90]⟩, ⟨#[76]⟩⟩ : KV)], kA := kA', kc := kc' } : SV) := ⟨_, rfl⟩
  have e1 : (Value.slice rA' (t.rules.length + 1) rc') = .slice u.rA u.rules.length u.rc := by rw [hu]; simp
  have e2 : (Value.slice zA' (t.zones.length + 1) zc') = .slice u.zA u.zones.length u.zc := by rw [hu]; simp
  have e3 : (Value.slice kA' (t.links.length + 1) kc') = .slice u.kA u.links.length u.kc := by rw [hu]; simp
  have e4 : (Value.slice t.hA t.shifts.length t.hc) = .slice u.hA u.shifts.length u.hc := by rw [hu]
  rw [e1, e2, e3, e4]
  rw [← hu] at HS8 HGR
  clear hu e1 e2 e3 e4
  refine (copy28W u WF HS8.out.cp.src HGR.out.sm.k).mono ?_
  rintro e W9 ⟨v, rfl, hcp, hc⟩
  have HLK := Lib.hid (like32 hcp); have HGV := Lib.hid (like_gr (like32 hcp) hcp.shifts.1 HGR.out)
  have HCV := Lib.hid hcp.self32; have HC9 := Lib.hid hc
  clear hcp hc
  go_wp2_with fail
  have hal := (Below.refl W9.heap.size W9).alloc (Nat.le_refl _) (.cells #[.slice v.rA v.rules.length v.rc, .slice v.zA v.zones.length v.zc, .slice v.kA v.links.length v.kc, .slice v.hA v.shifts.length v.hc] 32)
  have HSV := Lib.hid (show Sb WF (W9.alloc (.cells #[.slice v.rA v.rules.length v.rc, .slice v.zA v.zones.length v.zc, .slice v.kA v.links.length v.kc, .slice v.hA v.shifts.length v.hc] 32)) WF.heap.size W9.heap.size WF.heap.size v from ⟨Blk.new W9 32 #[.slice v.rA v.rules.length v.rc, .slice v.zA v.zones.length v.zc, .slice v.kA v.links.length v.kc, .slice v.hA v.shifts.length v.hc], HCV.out.below32 hal, HC9.out.trans (hal.mono HC9.out.size), ⟨Nat.le_refl _, HC9.out.size⟩⟩)
  clear hal HCV HC9
  generalize (W9.alloc (.cells #[.slice v.rA v.rules.length v.rc, .slice v.zA v.zones.length v.zc, .slice v.kA v.links.length v.kc, .slice v.hA v.shifts.length v.hc] 32)) = V at HSV ⊢
  generalize W9.heap.size = G7 at HSV ⊢
  obtain ⟨zl, hzl, hzl1, hzl2⟩ := HGV.out.z0
  obtain ⟨nw, hnw, hnw2⟩ := nat_of wher HWR.out
  subst hnw
  obtain ⟨hi2, ha⟩ := mod_natS nw v.rules.length HGV.out.r0
  obtain ⟨hj2, hb⟩ := mod_natS nw v.zones.length hzl2
  obtain ⟨hm2, hd⟩ := mod_natS nw v.links.length HGV.out.k0
  obtain ⟨x, hx⟩ : ∃ x, v.rules[nw % v.rules.length]? = some x := ⟨_, List.getElem?_eq_getElem hi2⟩
  obtain ⟨z1, hz1⟩ : ∃ z, v.zones[nw % v.zones.length]? = some z := ⟨_, List.getElem?_eq_getElem hj2⟩
  obtain ⟨y, hy⟩ : ∃ y, v.links[nw % v.links.length]? = some y := ⟨_, List.getElem?_eq_getElem hm2⟩
  obtain ⟨Br, hrA, hrc, hrf⟩ := HSV.out.ruleAt hx
  obtain ⟨Bz, hzA, hzc, hzf⟩ := HSV.out.zoneAt hz1
  obtain ⟨Bk, hkA, hkc, hkf⟩ := HSV.out.linkAt hy
  have HrA := Lib.hid hrA; have HzA := Lib.hid hzA; have HkA := Lib.hid hkA
  have p0 : V.cell? ⟨G7, 0, none⟩ = some (.slice (some ⟨Br, 0, none⟩) v.rules.length v.rc) := by have q := HSV.out.box.cell 0; rw [hrA] at q; exact q
  have p1 : V.cell? ⟨G7, 1, none⟩ = some (.slice (some ⟨Bz, 0, none⟩) v.zones.length v.zc) := by have q := HSV.out.box.cell 1; rw [hzA] at q; exact q
  have p2 : V.cell? ⟨G7, 2, none⟩ = some (.slice (some ⟨Bk, 0, none⟩) v.links.length v.kc) := by have q := HSV.out.box.cell 2; rw [hkA] at q; exact q
  have HIX := Lib.hid (show v.rules[nw % v.rules.length]? = some x ∧ v.zones[nw % v.zones.length]? = some z1 ∧ v.links[nw % v.links.length]? = some y from ⟨hx, hz1, hy⟩)
  have HZL := Lib.hid (show v.zones[v.zones.length - 1]? = some zl ∧ 0 < zl.eras.length ∧ 0 < v.zones.length from ⟨hzl, hzl1, hzl2⟩)
  obtain ⟨ha1, ha2, ha3, ha4⟩ := ha
  obtain ⟨hb1, hb2, hb3, hb4⟩ := hb
  obtain ⟨hd1, hd2, hd3, hd4⟩ := hd
  clear hi2 hj2 hm2 hx hz1 hy hrA hzA hkA hrc hrf hzc hzf hkc hkf hzl hzl1 hzl2
  go_big_quiet (fail)
  clear ha1 ha2 ha3 ha4 hb1 hb2 hb3 hb4 hd1 hd2 hd3 hd4 p0 p2
  have HSV2 := Lib.hid (HSV.out.below (below_drewN (Below.refl V.heap.size V) nq))
  have q1 : (V.drewN nq).cell? ⟨G7, 1, none⟩ = some (.slice (some ⟨Bz, 0, none⟩) v.zones.length v.zc) := p1
  clear p1 HSV
  generalize V.drewN nq = V0 at HSV2 q1 ⊢
  generalize nw % v.rules.length = i at HIX ⊢
  generalize nw % v.zones.length = j at HIX ⊢
  generalize nw % v.links.length = m at HIX ⊢
  have m1 : V0.cell? ⟨Bz, j * 2 + 1, none⟩ = some (.slice z1.A z1.eras.length z1.c) := (HSV2.out.zoneC HzA.out HIX.out.2.1).1 1 _ rfl
  go_upto_if 76 with fail
  go_cut [9] (fun s9 wx => ∃ (J : Nat) (zx : ZV), v.zones[J]? = some zx ∧ 0 < zx.eras.length ∧ s9 = .pointer (some ⟨Bz, J * 2, none⟩) ∧ wx = V0)
  case first =>
    by_cases hE : z1.eras.length = 0
    · have hEi : ((z1.eras.length : Int) == 0) = true := by rw [hE]; rfl
      have hz50 : (v.zones.length : Int) ≤ 50 := by have := HGV.out.sm.2.1; omega
      have hz1l : (1 : Int) ≤ (v.zones.length : Int) := by have := HZL.out.2.2; omega
      clear hE m1
      go_wp2_with fail
      go_meet
      exact ⟨v.zones.length - 1, zl, HZL.out.1, HZL.out.2.1, rfl, rfl⟩
    · have hEi : ((z1.eras.length : Int) == 0) = false := by rw [beq_eq_false_iff_ne]; omega
      have HE0 := Lib.hid hE
      clear hE m1
      go_wp2_with fail
      go_meet
      exact ⟨j, z1, HIX.out.2.1, by have := HE0.out; omega, rfl, rfl⟩
  case rest =>
    obtain ⟨J, zx, hzx, hz0, rfl, HWC0⟩ := hcut
    subst HWC0
    clear q1 m1
    obtain ⟨hk2, ha⟩ := mod_natS nw zx.eras.length hz0
    obtain ⟨ex, hex⟩ : ∃ y, zx.eras[nw % zx.eras.length]? = some y := ⟨_, List.getElem?_eq_getElem hk2⟩
    obtain ⟨Be, heA, _, _⟩ := HSV2.out.eraAt hzx hex
    have m1 : wc.cell? ⟨Bz, J * 2 + 1, none⟩ = some (.slice (some ⟨Be, 0, none⟩) zx.eras.length zx.c) := by rw [← heA]; exact (HSV2.out.zoneC HzA.out hzx).1 1 _ rfl
    have HZX := Lib.hid hzx; have HEX := Lib.hid hex; have HEA := Lib.hid heA
    have hz0' : (1 : Int) ≤ (zx.eras.length : Int) := by omega
    obtain ⟨ha1, ha2, ha3, ha4⟩ := ha
    clear hzx hz0 hk2 hex heA
    go_wp2_with fail
    go_quiet (fail)
    have HSV3 := Lib.hid (HSV2.out.below (below_drewN (Below.refl wc.heap.size wc) nq))
    clear ha1 ha2 ha3 ha4 m1 HSV2 hz0'
    generalize wc.drewN nq = V5 at HSV3 ⊢
    generalize nw % zx.eras.length = k at HEX ⊢
    obtain ⟨q, hq, hq20⟩ := mod20 what HWT.out
    have hw0 : 0 ≤ what := HWT.out.1
    have hw1 : what ≤ 255 := HWT.out.2
    rename_i Kx hKx
    refine hKx _ _ ?_
    refine wp_seq_k fun Ky hKy => ?_
    clear hKx Kx
    refine wp_cut (fun a' w' => ∃ l : List Value, l.length = 305 ∧ (∃ t' : SV, Hid (Fn WF w' WF.heap.size G7 t' ∧ ¬ P32.okS u t' ∧ Sz t')) ∧ a' = ⟨(.agg #[.slice s.rA s.rules.length s.rc, .slice s.zA s.zones.length s.zc, .slice s.kA s.links.length s.kc, .slice s.hA s.shifts.length s.hc] :: .int .u8 what :: .int .u8 nw :: .pointer (some ⟨w.heap.size, 0, none⟩) :: undef :: undef :: .bool false :: .pointer (some ⟨G7, 0, none⟩) :: .pointer (some ⟨Br, i * 11, none⟩) :: .pointer (some ⟨Bz, J * 2, none⟩) :: .pointer (some ⟨Bk, m * 2, none⟩) :: .pointer (some ⟨Be, k * 13, none⟩) :: undef :: undef :: undef :: undef :: l).toArray, []⟩) ?rest ?first
    case first =>
      intro _ _ _ _
      go_upto_if 105 with fail
      rw [hq]
      clear hq hw0 hw1
      rcases hq20 with rfl | rfl | rfl | rfl | rfl | rfl | rfl | rfl | rfl | rfl | rfl | rfl | rfl | rfl | rfl | rfl | rfl | rfl | rfl | rfl
      · have r0 : V5.cell? ⟨Br, i * 11, none⟩ = some (.string x.name) := (HSV3.out.ruleC HrA.out HIX.out.1).1 0 _ rfl
        have f0 : V5.frozen? ⟨Br, i * 11, none⟩ = false := (HSV3.out.ruleC HrA.out HIX.out.1).2 _
        have hcat : ∀ W, (Op.stringOp .add x.name ⟨#[120]⟩).run Tryd.prog W = .ok (.string (x.name ++ ⟨#[120]⟩)) W := fun W => run_string_add_sum (w := W) _ _ (by have h := (HGV.out.str.rules x (List.mem_of_getElem? HIX.out.1)).1; have h2 : (⟨#[120]⟩ : ByteArray).size = 1 := rfl; first | omega | (unfold maxLen; omega))
        go_wp2_with fail
        refine Met.intro ?_
        rename_i hJ _
        refine hJ _ _ ?_
        exact ⟨_, rfl, ⟨_, Lib.hid ⟨HSV3.out.rule HrA.out HIX.out.1 0 {x with name := x.name ++ ⟨#[120]⟩} (.string (x.name ++ ⟨#[120]⟩)) (by decide) rfl, P32.no_rule HLK.out HIX.out.1 (rule_no fun h => absurd (h.1).symm (str_more _)), HGV.out.sm.ruleZ _ _⟩⟩, rfl⟩
      · have r0 : V5.cell? ⟨Br, i * 11 + 1, none⟩ = some (.int .i64 x.frm) := (HSV3.out.ruleC HrA.out HIX.out.1).1 1 _ rfl
        have f0 : V5.frozen? ⟨Br, i * 11 + 1, none⟩ = false := (HSV3.out.ruleC HrA.out HIX.out.1).2 _
        go_wp2_with fail
        refine Met.intro ?_
        rename_i hJ _
        refine hJ _ _ ?_
        exact ⟨_, rfl, ⟨_, Lib.hid ⟨HSV3.out.rule HrA.out HIX.out.1 1 {x with frm := wrap64 (x.frm + 1)} (.int .i64 (wrap64 (x.frm + 1))) (by decide) rfl, P32.no_rule HLK.out HIX.out.1 (rule_no fun h => absurd (h.2.1).symm (wrap_more _)), HGV.out.sm.ruleZ _ _⟩⟩, rfl⟩
      · have r0 : V5.cell? ⟨Br, i * 11 + 2, none⟩ = some (.int .i64 x.til) := (HSV3.out.ruleC HrA.out HIX.out.1).1 2 _ rfl
        have f0 : V5.frozen? ⟨Br, i * 11 + 2, none⟩ = false := (HSV3.out.ruleC HrA.out HIX.out.1).2 _
        go_wp2_with fail
        refine Met.intro ?_
        rename_i hJ _
        refine hJ _ _ ?_
        exact ⟨_, rfl, ⟨_, Lib.hid ⟨HSV3.out.rule HrA.out HIX.out.1 2 {x with til := wrap64 (x.til - 1)} (.int .i64 (wrap64 (x.til - 1))) (by decide) rfl, P32.no_rule HLK.out HIX.out.1 (rule_no fun h => absurd (h.2.2.1).symm (wrap_less _)), HGV.out.sm.ruleZ _ _⟩⟩, rfl⟩
      · have r0 : V5.cell? ⟨Br, i * 11 + 3, none⟩ = some (.int .i64 x.month) := (HSV3.out.ruleC HrA.out HIX.out.1).1 3 _ rfl
        have f0 : V5.frozen? ⟨Br, i * 11 + 3, none⟩ = false := (HSV3.out.ruleC HrA.out HIX.out.1).2 _
        go_wp2_with fail
        refine Met.intro ?_
        rename_i hJ _
        refine hJ _ _ ?_
        exact ⟨_, rfl, ⟨_, Lib.hid ⟨HSV3.out.rule HrA.out HIX.out.1 3 {x with month := wrap64 (x.month + 1)} (.int .i64 (wrap64 (x.month + 1))) (by decide) rfl, P32.no_rule HLK.out HIX.out.1 (rule_no fun h => absurd (h.2.2.2.1).symm (wrap_more _)), HGV.out.sm.ruleZ _ _⟩⟩, rfl⟩
      · have r0 : V5.cell? ⟨Br, i * 11 + 4, none⟩ = some (.int .i64 x.dk) := (HSV3.out.ruleC HrA.out HIX.out.1).1 4 _ rfl
        have f0 : V5.frozen? ⟨Br, i * 11 + 4, none⟩ = false := (HSV3.out.ruleC HrA.out HIX.out.1).2 _
        go_wp2_with fail
        refine Met.intro ?_
        rename_i hJ _
        refine hJ _ _ ?_
        exact ⟨_, rfl, ⟨_, Lib.hid ⟨HSV3.out.rule HrA.out HIX.out.1 4 {x with dk := wrap64 (x.dk + 1)} (.int .i64 (wrap64 (x.dk + 1))) (by decide) rfl, P32.no_rule HLK.out HIX.out.1 (rule_no fun h => absurd (h.2.2.2.2.1).symm (wrap_more _)), HGV.out.sm.ruleZ _ _⟩⟩, rfl⟩
      · have r0 : V5.cell? ⟨Br, i * 11 + 6, none⟩ = some (.int .i64 x.dd) := (HSV3.out.ruleC HrA.out HIX.out.1).1 6 _ rfl
        have f0 : V5.frozen? ⟨Br, i * 11 + 6, none⟩ = false := (HSV3.out.ruleC HrA.out HIX.out.1).2 _
        go_wp2_with fail
        refine Met.intro ?_
        rename_i hJ _
        refine hJ _ _ ?_
        exact ⟨_, rfl, ⟨_, Lib.hid ⟨HSV3.out.rule HrA.out HIX.out.1 6 {x with dd := wrap64 (x.dd - 1)} (.int .i64 (wrap64 (x.dd - 1))) (by decide) rfl, P32.no_rule HLK.out HIX.out.1 (rule_no fun h => absurd (h.2.2.2.2.2.2.1).symm (wrap_less _)), HGV.out.sm.ruleZ _ _⟩⟩, rfl⟩
      · have r0 : V5.cell? ⟨Br, i * 11 + 8, none⟩ = some (.int .i64 x.abase) := (HSV3.out.ruleC HrA.out HIX.out.1).1 8 _ rfl
        have f0 : V5.frozen? ⟨Br, i * 11 + 8, none⟩ = false := (HSV3.out.ruleC HrA.out HIX.out.1).2 _
        go_wp2_with fail
        refine Met.intro ?_
        rename_i hJ _
        refine hJ _ _ ?_
        exact ⟨_, rfl, ⟨_, Lib.hid ⟨HSV3.out.rule HrA.out HIX.out.1 8 {x with abase := wrap64 (x.abase + 1)} (.int .i64 (wrap64 (x.abase + 1))) (by decide) rfl, P32.no_rule HLK.out HIX.out.1 (rule_no fun h => absurd (h.2.2.2.2.2.2.2.1).symm (wrap_more _)), HGV.out.sm.ruleZ _ _⟩⟩, rfl⟩
      · have r0 : V5.cell? ⟨Br, i * 11 + 10, none⟩ = some (.string x.letter) := (HSV3.out.ruleC HrA.out HIX.out.1).1 10 _ rfl
        have f0 : V5.frozen? ⟨Br, i * 11 + 10, none⟩ = false := (HSV3.out.ruleC HrA.out HIX.out.1).2 _
        have hcat : ∀ W, (Op.stringOp .add x.letter ⟨#[120]⟩).run Tryd.prog W = .ok (.string (x.letter ++ ⟨#[120]⟩)) W := fun W => run_string_add_sum (w := W) _ _ (by have h := (HGV.out.str.rules x (List.mem_of_getElem? HIX.out.1)).2; have h2 : (⟨#[120]⟩ : ByteArray).size = 1 := rfl; first | omega | (unfold maxLen; omega))
        go_wp2_with fail
        refine Met.intro ?_
        rename_i hJ _
        refine hJ _ _ ?_
        exact ⟨_, rfl, ⟨_, Lib.hid ⟨HSV3.out.rule HrA.out HIX.out.1 10 {x with letter := x.letter ++ ⟨#[120]⟩} (.string (x.letter ++ ⟨#[120]⟩)) (by decide) rfl, P32.no_rule HLK.out HIX.out.1 (rule_no fun h => absurd (h.2.2.2.2.2.2.2.2).symm (str_more _)), HGV.out.sm.ruleZ _ _⟩⟩, rfl⟩
      · have r0 : V5.cell? ⟨Bz, J * 2, none⟩ = some (.string zx.name) := (HSV3.out.zoneC HzA.out HZX.out).1 0 _ rfl
        have f0 : V5.frozen? ⟨Bz, J * 2, none⟩ = false := (HSV3.out.zoneC HzA.out HZX.out).2 _
        have hcat : ∀ W, (Op.stringOp .add zx.name ⟨#[120]⟩).run Tryd.prog W = .ok (.string (zx.name ++ ⟨#[120]⟩)) W := fun W => run_string_add_sum (w := W) _ _ (by have h := HGV.out.str.zones zx (List.mem_of_getElem? HZX.out); have h2 : (⟨#[120]⟩ : ByteArray).size = 1 := rfl; first | omega | (unfold maxLen; omega))
        go_wp2_with fail
        refine Met.intro ?_
        rename_i hJ _
        refine hJ _ _ ?_
        exact ⟨_, rfl, ⟨_, Lib.hid ⟨HSV3.out.zname HzA.out HZX.out _, P32.no_zname HLK.out HZX.out (str_more _), HGV.out.sm.zoneZ _ _ (by have := HGV.out.sm.2.2.2.2 zx (List.mem_of_getElem? HZX.out); show zx.eras.length ≤ 60; omega)⟩⟩, rfl⟩
      · have r0 : V5.cell? ⟨Bz, J * 2 + 1, none⟩ = some (.slice zx.A zx.eras.length zx.c) := (HSV3.out.zoneC HzA.out HZX.out).1 1 _ rfl
        have HS4 := Lib.hid (HSV3.out.below ((Below.refl V5.heap.size V5).alloc (Nat.le_refl _) (.cells #[.int .i64 0, .int .i64 0, .int .i64 0, .string ⟨#[]⟩, .string ⟨#[]⟩, .bool false, .int .i64 0, .int .i64 0, .int .i64 0, .int .i64 0, .int .i64 0, .int .i64 0, .int .i64 0] 47)))
        have HNB := Lib.hid (Blk.newAt V5 V5.heap.size rfl 47 #[.int .i64 0, .int .i64 0, .int .i64 0, .string ⟨#[]⟩, .string ⟨#[]⟩, .bool false, .int .i64 0, .int .i64 0, .int .i64 0, .int .i64 0, .int .i64 0, .int .i64 0, .int .i64 0])
        have HSZ := Lib.hid (show WF.heap.size ≤ (V5.alloc (.cells #[.int .i64 0, .int .i64 0, .int .i64 0, .string ⟨#[]⟩, .string ⟨#[]⟩, .bool false, .int .i64 0, .int .i64 0, .int .i64 0, .int .i64 0, .int .i64 0, .int .i64 0, .int .i64 0] 47)).heap.size from by have := HSV3.out.bel.size; simp; omega)
        have HLL := Lib.hid (show zx.eras.length ≤ 50 from HGV.out.sm.2.2.2.2 zx (List.mem_of_getElem? HZX.out))
        obtain ⟨i1, hi, hz0, hz1, hz2⟩ := info_parts infoEra
        go_wp2_with (at_builtin; refine wpList_append_own _ rfl _ _ 37 rfl WF.heap.size 47 i1 _ 13 120 Tryd.underlying37 hi hz0 hz1 hz2 rfl (by decide) _ _ _ rfl (HS4.out.cp.zones.2.eras J zx HZX.out) ⟨V5.heap.size, 0, none⟩ 1 1 [.int .i64 0, .int .i64 0, .int .i64 0, .string ⟨#[]⟩, .string ⟨#[]⟩, .bool false, .int .i64 0, .int .i64 0, .int .i64 0, .int .i64 0, .int .i64 0, .int .i64 0, .int .i64 0] rfl rfl (blk_cells HNB.out) (by simp [Value.oneCell']) (by have := HLL.out; show zx.eras.length + 1 ≤ maxLen; simp only [maxLen]; omega) (by have := HLL.out; show (zx.eras.length + 1) * 120 ≤ _; omega) HSZ.out ?_)
        clear hi hz0 hz1 hz2
        intro v4 W6 hown hgr hne
        obtain ⟨A', c', rfl⟩ := row_is32 hown
        have hrw : RowOf W6 WF.heap.size 47 13 EV.cells A' c' (zx.eras ++ [(⟨0, 0, 0, ⟨#[]⟩, ⟨#[]⟩, false, 0, 0, 0, 0, 0, 0, 0⟩ : EV)]) := by unfold RowOf; rw [List.length_append, List.flatMap_append]; exact hown
        have hzr : RowOf W6 WF.heap.size 39 2 ZV.cells v.zA v.zc v.zones := row_other HS4.out.cp.zones.1 (HS4.out.cp.zones.2.eras J zx HZX.out) (by decide) hgr
        rw [HzA.out] at hzr
        have r1 : W6.cell? ⟨Bz, J * 2 + 1, none⟩ = some (.slice zx.A zx.eras.length zx.c) := hzr.cellAt32 len_zone HZX.out 1 _ rfl
        have f1 : W6.frozen? ⟨Bz, J * 2 + 1, none⟩ = false := hzr.frozenAt32 _
        have HFN := Lib.hid (HS4.out.growE HzA.out HZX.out hgr hrw)
        clear hzr hrw hown hgr hne HNB HSZ r0
        go_wp2_with fail
        refine Met.intro ?_
        rename_i hJ _
        refine hJ _ _ ?_
        exact ⟨_, rfl, ⟨_, Lib.hid ⟨HFN.out, P32.no_elen HLK.out HZX.out (by simp), HGV.out.sm.zoneZ _ _ (by have := HLL.out; show (zx.eras ++ [(⟨0, 0, 0, ⟨#[]⟩, ⟨#[]⟩, false, 0, 0, 0, 0, 0, 0, 0⟩ : EV)]).length ≤ 60; simp; omega)⟩⟩, rfl⟩
      · have r0 : V5.cell? ⟨Be, k * 13 + 1, none⟩ = some (.int .i64 ex.kind) := (HSV3.out.eraC HZX.out HEA.out HEX.out).1 1 _ rfl
        have f0 : V5.frozen? ⟨Be, k * 13 + 1, none⟩ = false := (HSV3.out.eraC HZX.out HEA.out HEX.out).2 _
        go_wp2_with fail
        refine Met.intro ?_
        rename_i hJ _
        refine hJ _ _ ?_
        exact ⟨_, rfl, ⟨_, Lib.hid ⟨HSV3.out.era HZX.out HEA.out HEX.out 1 {ex with kind := wrap64 (ex.kind + 1)} (.int .i64 (wrap64 (ex.kind + 1))) (by decide) rfl, P32.no_era HLK.out HZX.out HEX.out (era_no fun h => absurd (h.1).symm (wrap_more _)), HGV.out.sm.eraZ HZX.out _ _⟩⟩, rfl⟩
      · have r0 : V5.cell? ⟨Be, k * 13 + 2, none⟩ = some (.int .i64 ex.save) := (HSV3.out.eraC HZX.out HEA.out HEX.out).1 2 _ rfl
        have f0 : V5.frozen? ⟨Be, k * 13 + 2, none⟩ = false := (HSV3.out.eraC HZX.out HEA.out HEX.out).2 _
        go_wp2_with fail
        refine Met.intro ?_
        rename_i hJ _
        refine hJ _ _ ?_
        exact ⟨_, rfl, ⟨_, Lib.hid ⟨HSV3.out.era HZX.out HEA.out HEX.out 2 {ex with save := wrap64 (ex.save + 1)} (.int .i64 (wrap64 (ex.save + 1))) (by decide) rfl, P32.no_era HLK.out HZX.out HEX.out (era_no fun h => absurd (h.2.1).symm (wrap_more _)), HGV.out.sm.eraZ HZX.out _ _⟩⟩, rfl⟩
      · have r0 : V5.cell? ⟨Be, k * 13 + 3, none⟩ = some (.string ex.set) := (HSV3.out.eraC HZX.out HEA.out HEX.out).1 3 _ rfl
        have f0 : V5.frozen? ⟨Be, k * 13 + 3, none⟩ = false := (HSV3.out.eraC HZX.out HEA.out HEX.out).2 _
        have hcat : ∀ W, (Op.stringOp .add ex.set ⟨#[120]⟩).run Tryd.prog W = .ok (.string (ex.set ++ ⟨#[120]⟩)) W := fun W => run_string_add_sum (w := W) _ _ (by have h := (HGV.out.str.eras zx (List.mem_of_getElem? HZX.out) ex (List.mem_of_getElem? HEX.out)).1; have h2 : (⟨#[120]⟩ : ByteArray).size = 1 := rfl; first | omega | (unfold maxLen; omega))
        go_wp2_with fail
        refine Met.intro ?_
        rename_i hJ _
        refine hJ _ _ ?_
        exact ⟨_, rfl, ⟨_, Lib.hid ⟨HSV3.out.era HZX.out HEA.out HEX.out 3 {ex with set := ex.set ++ ⟨#[120]⟩} (.string (ex.set ++ ⟨#[120]⟩)) (by decide) rfl, P32.no_era HLK.out HZX.out HEX.out (era_no fun h => absurd (h.2.2.1).symm (str_more _)), HGV.out.sm.eraZ HZX.out _ _⟩⟩, rfl⟩
      · have r0 : V5.cell? ⟨Be, k * 13 + 5, none⟩ = some (.bool ex.ui) := (HSV3.out.eraC HZX.out HEA.out HEX.out).1 5 _ rfl
        have f0 : V5.frozen? ⟨Be, k * 13 + 5, none⟩ = false := (HSV3.out.eraC HZX.out HEA.out HEX.out).2 _
        go_wp2_with fail
        refine Met.intro ?_
        rename_i hJ _
        refine hJ _ _ ?_
        exact ⟨_, rfl, ⟨_, Lib.hid ⟨HSV3.out.era HZX.out HEA.out HEX.out 5 {ex with ui := !ex.ui} (.bool (!ex.ui)) (by decide) rfl, P32.no_era HLK.out HZX.out HEX.out (era_no fun h => absurd (h.2.2.2.1).symm (bool_not _)), HGV.out.sm.eraZ HZX.out _ _⟩⟩, rfl⟩
      · have r0 : V5.cell? ⟨Be, k * 13 + 6, none⟩ = some (.int .i64 ex.uy) := (HSV3.out.eraC HZX.out HEA.out HEX.out).1 6 _ rfl
        have f0 : V5.frozen? ⟨Be, k * 13 + 6, none⟩ = false := (HSV3.out.eraC HZX.out HEA.out HEX.out).2 _
        go_wp2_with fail
        refine Met.intro ?_
        rename_i hJ _
        refine hJ _ _ ?_
        exact ⟨_, rfl, ⟨_, Lib.hid ⟨HSV3.out.era HZX.out HEA.out HEX.out 6 {ex with uy := wrap64 (ex.uy + 1)} (.int .i64 (wrap64 (ex.uy + 1))) (by decide) rfl, P32.no_era HLK.out HZX.out HEX.out (era_no fun h => absurd (h.2.2.2.2.1).symm (wrap_more _)), HGV.out.sm.eraZ HZX.out _ _⟩⟩, rfl⟩
      · have r0 : V5.cell? ⟨Be, k * 13 + 12, none⟩ = some (.int .i64 ex.ab) := (HSV3.out.eraC HZX.out HEA.out HEX.out).1 12 _ rfl
        have f0 : V5.frozen? ⟨Be, k * 13 + 12, none⟩ = false := (HSV3.out.eraC HZX.out HEA.out HEX.out).2 _
        go_wp2_with fail
        refine Met.intro ?_
        rename_i hJ _
        refine hJ _ _ ?_
        exact ⟨_, rfl, ⟨_, Lib.hid ⟨HSV3.out.era HZX.out HEA.out HEX.out 12 {ex with ab := wrap64 (ex.ab - 1)} (.int .i64 (wrap64 (ex.ab - 1))) (by decide) rfl, P32.no_era HLK.out HZX.out HEX.out (era_no fun h => absurd (h.2.2.2.2.2.2.2.2.2).symm (wrap_less _)), HGV.out.sm.eraZ HZX.out _ _⟩⟩, rfl⟩
      · have r0 : V5.cell? ⟨Bk, m * 2, none⟩ = some (.string y.target) := (HSV3.out.linkC HkA.out HIX.out.2.2).1 0 _ rfl
        have f0 : V5.frozen? ⟨Bk, m * 2, none⟩ = false := (HSV3.out.linkC HkA.out HIX.out.2.2).2 _
        have hcat : ∀ W, (Op.stringOp .add y.target ⟨#[120]⟩).run Tryd.prog W = .ok (.string (y.target ++ ⟨#[120]⟩)) W := fun W => run_string_add_sum (w := W) _ _ (by have h := HGV.out.str.links y (List.mem_of_getElem? HIX.out.2.2); have h2 : (⟨#[120]⟩ : ByteArray).size = 1 := rfl; first | omega | (unfold maxLen; omega))
        go_wp2_with fail
        refine Met.intro ?_
        rename_i hJ _
        refine hJ _ _ ?_
        exact ⟨_, rfl, ⟨_, Lib.hid ⟨HSV3.out.link HkA.out HIX.out.2.2 0 {y with target := y.target ++ ⟨#[120]⟩} (.string (y.target ++ ⟨#[120]⟩)) (by decide) rfl, P32.no_link (link_no HLK.out.links HIX.out.2.2), HGV.out.sm.linkZ _ _⟩⟩, rfl⟩
      · have r0 : V5.cell? ⟨G7, 2, none⟩ = some (.slice (some ⟨Bk, 0, none⟩) v.links.length v.kc) := by have q := HSV3.out.box.cell 2; rw [HkA.out] at q; exact q
        have f0 : V5.frozen? ⟨G7, 2, none⟩ = false := HSV3.out.box.frozen 2
        have hl1 : (1 : Int) ≤ (v.links.length : Int) := by have := HGV.out.k0; omega
        have hl2 : (v.links.length : Int) ≤ 50 := by have := HGV.out.sm.2.2.1; omega
        have hl3 : (v.links.length : Int) ≤ (v.kc : Int) := by have := HSV3.out.capK HGV.out.k0; omega
        have hl4 : (1 : Int) ≤ (v.kc : Int) := by omega
        have hl5 : 1 ≤ v.links.length := by omega
        have hl6 : v.links.length ≤ v.kc := by omega
        have hl7 : 1 ≤ v.kc := by omega
        go_wp2_with fail
        · refine Met.intro ?_
          rename_i hJ _
          refine hJ _ _ ?_
          exact ⟨_, rfl, ⟨_, Lib.hid ⟨HSV3.out.tailK HkA.out HGV.out.k0 (fun h1 => absurd h1 (by omega)), P32.no_link (tail_no HLK.out.links HGV.out.k0), HGV.out.sm.tailZ _ _⟩⟩, rfl⟩
        · refine Met.intro ?_
          rename_i hJ _
          refine hJ _ _ ?_
          exact ⟨_, rfl, ⟨_, Lib.hid ⟨HSV3.out.tailK HkA.out HGV.out.k0 (fun _ => rfl), P32.no_link (tail_no HLK.out.links HGV.out.k0), HGV.out.sm.tailZ _ _⟩⟩, rfl⟩
      · have r0 : V5.cell? ⟨G7, 1, none⟩ = some (.slice v.zA v.zones.length v.zc) := HSV3.out.box.cell 1
        have HS4 := Lib.hid (HSV3.out.below ((Below.refl V5.heap.size V5).alloc (Nat.le_refl _) (.cells #[.string ⟨#[]⟩, .slice none 0 0] 39)))
        have HNB := Lib.hid (Blk.newAt V5 V5.heap.size rfl 39 #[.string ⟨#[]⟩, .slice none 0 0])
        have HSZ := Lib.hid (show WF.heap.size ≤ (V5.alloc (.cells #[.string ⟨#[]⟩, .slice none 0 0] 39)).heap.size from by have := HSV3.out.bel.size; simp; omega)
        have HLL := Lib.hid (show v.zones.length ≤ 50 from HGV.out.sm.2.1)
        obtain ⟨i1, hi, hz0, hz1, hz2⟩ := info_parts infoZone
        go_wp2_with (at_builtin; refine wpList_append_own _ rfl _ _ 28 rfl WF.heap.size 39 i1 _ 2 40 Tryd.underlying28 hi hz0 hz1 hz2 rfl (by decide) _ _ _ rfl HS4.out.cp.zones.1 ⟨V5.heap.size, 0, none⟩ 1 1 [.string ⟨#[]⟩, .slice none 0 0] rfl rfl (blk_cells HNB.out) (by simp [Value.oneCell']) (by have := HLL.out; show v.zones.length + 1 ≤ maxLen; simp only [maxLen]; omega) (by have := HLL.out; show (v.zones.length + 1) * 40 ≤ _; omega) HSZ.out ?_)
        clear hi hz0 hz1 hz2
        intro v4 W6 hown hgr hne
        obtain ⟨A', c', rfl⟩ := row_is32 hown
        have hrw : RowOf W6 WF.heap.size 39 2 ZV.cells A' c' (v.zones ++ [(⟨⟨#[]⟩, none, 0, []⟩ : ZV)]) := by unfold RowOf; rw [List.length_append, List.flatMap_append]; exact hown
        have ho := blk_other32 HS4.out.box HS4.out.cp.zones.1 (by decide) hgr
        have r1 := (ho.cell 1).trans rfl
        have f1 := ho.frozen 1
        have HFN := Lib.hid (HS4.out.growZ (z := (⟨⟨#[]⟩, none, 0, []⟩ : ZV)) (World.ownsRow_nil ..) (fun _ _ _ _ q => nomatch q) hgr hrw).fin
        clear hrw hown hgr hne HNB HSZ r0 ho
        go_wp2_with fail
        refine Met.intro ?_
        rename_i hJ _
        refine hJ _ _ ?_
        exact ⟨_, rfl, ⟨_, Lib.hid ⟨HFN.out, P32.no_zlen (by show (v.zones ++ [(⟨⟨#[]⟩, none, 0, []⟩ : ZV)]).length ≠ u.zones.length; rw [← HLK.out.len]; simp), HGV.out.sm.growZ _ (by decide) _ _⟩⟩, rfl⟩
      · have r0 : V5.cell? ⟨G7, 0, none⟩ = some (.slice v.rA v.rules.length v.rc) := HSV3.out.box.cell 0
        have HS4 := Lib.hid (HSV3.out.below ((Below.refl V5.heap.size V5).alloc (Nat.le_refl _) (.cells #[.string ⟨#[]⟩, .int .i64 0, .int .i64 0, .int .i64 0, .int .i64 0, .int .i64 0, .int .i64 0, .int .i64 0, .int .i64 0, .int .i64 0, .string ⟨#[]⟩] 83)))
        have HNB := Lib.hid (Blk.newAt V5 V5.heap.size rfl 83 #[.string ⟨#[]⟩, .int .i64 0, .int .i64 0, .int .i64 0, .int .i64 0, .int .i64 0, .int .i64 0, .int .i64 0, .int .i64 0, .int .i64 0, .string ⟨#[]⟩])
        have HSZ := Lib.hid (show WF.heap.size ≤ (V5.alloc (.cells #[.string ⟨#[]⟩, .int .i64 0, .int .i64 0, .int .i64 0, .int .i64 0, .int .i64 0, .int .i64 0, .int .i64 0, .int .i64 0, .int .i64 0, .string ⟨#[]⟩] 83)).heap.size from by have := HSV3.out.bel.size; simp; omega)
        have HLL := Lib.hid (show v.rules.length ≤ 50 from HGV.out.sm.1)
        obtain ⟨i1, hi, hz0, hz1, hz2⟩ := info_parts infoRuleC
        go_wp2_with (at_builtin; refine wpList_append_own _ rfl _ _ 27 rfl WF.heap.size 83 i1 _ 11 104 Tryd.underlying27 hi hz0 hz1 hz2 rfl (by decide) _ _ _ rfl HS4.out.cp.rules.2 ⟨V5.heap.size, 0, none⟩ 1 1 [.string ⟨#[]⟩, .int .i64 0, .int .i64 0, .int .i64 0, .int .i64 0, .int .i64 0, .int .i64 0, .int .i64 0, .int .i64 0, .int .i64 0, .string ⟨#[]⟩] rfl rfl (blk_cells HNB.out) (by simp [Value.oneCell']) (by have := HLL.out; show v.rules.length + 1 ≤ maxLen; simp only [maxLen]; omega) (by have := HLL.out; show (v.rules.length + 1) * 104 ≤ _; omega) HSZ.out ?_)
        clear hi hz0 hz1 hz2
        intro v4 W6 hown hgr hne
        obtain ⟨A', c', rfl⟩ := row_is32 hown
        have hrw : RowOf W6 WF.heap.size 83 11 RV.cells A' c' (v.rules ++ [(⟨⟨#[]⟩, 0, 0, 0, 0, 0, 0, 0, 0, 0, ⟨#[]⟩⟩ : RV)]) := by unfold RowOf; rw [List.length_append, List.flatMap_append]; exact hown
        have ho := blk_other32 HS4.out.box HS4.out.cp.rules.2 (by decide) hgr
        have r1 := (ho.cell 0).trans rfl
        have f1 := ho.frozen 0
        have HFN := Lib.hid (HS4.out.growR hgr hrw).fin
        clear hrw hown hgr hne HNB HSZ r0 ho
        go_wp2_with fail
        refine Met.intro ?_
        rename_i hJ _
        refine hJ _ _ ?_
        exact ⟨_, rfl, ⟨_, Lib.hid ⟨HFN.out, P32.no_rlen (by show (v.rules ++ [(⟨⟨#[]⟩, 0, 0, 0, 0, 0, 0, 0, 0, 0, ⟨#[]⟩⟩ : RV)]).length ≠ u.rules.length; rw [← HLK.out.rules]; simp), HGV.out.sm.growR _ _ _⟩⟩, rfl⟩
    case rest =>
      intro _ wc hinv
      obtain ⟨l, hl, ⟨t', HT⟩, rfl⟩ := hinv
      obtain ⟨u16, l16, rfl, h16⟩ := unconsS hl
      clear hl
      obtain ⟨u17, l17, rfl, h17⟩ := unconsS h16
      clear h16
      obtain ⟨u18, l18, rfl, h18⟩ := unconsS h17
      clear h17
      obtain ⟨u19, l19, rfl, h19⟩ := unconsS h18
      clear h18
      obtain ⟨u20, l20, rfl, h20⟩ := unconsS h19
      clear h19
      obtain ⟨u21, l21, rfl, h21⟩ := unconsS h20
      clear h20
      obtain ⟨u22, l22, rfl, h22⟩ := unconsS h21
      clear h21
      obtain ⟨u23, l23, rfl, h23⟩ := unconsS h22
      clear h22
      obtain ⟨u24, l24, rfl, h24⟩ := unconsS h23
      clear h23
      obtain ⟨u25, l25, rfl, h25⟩ := unconsS h24
      clear h24
      obtain ⟨u26, l26, rfl, h26⟩ := unconsS h25
      clear h25
      obtain ⟨u27, l27, rfl, h27⟩ := unconsS h26
      clear h26
      obtain ⟨u28, l28, rfl, h28⟩ := unconsS h27
      clear h27
      obtain ⟨u29, l29, rfl, h29⟩ := unconsS h28
      clear h28
      obtain ⟨u30, l30, rfl, h30⟩ := unconsS h29
      clear h29
      obtain ⟨u31, l31, rfl, h31⟩ := unconsS h30
      clear h30
      obtain ⟨u32, l32, rfl, h32⟩ := unconsS h31
      clear h31
      obtain ⟨u33, l33, rfl, h33⟩ := unconsS h32
      clear h32
      obtain ⟨u34, l34, rfl, h34⟩ := unconsS h33
      clear h33
      obtain ⟨u35, l35, rfl, h35⟩ := unconsS h34
      clear h34
      obtain ⟨u36, l36, rfl, h36⟩ := unconsS h35
      clear h35
      obtain ⟨u37, l37, rfl, h37⟩ := unconsS h36
      clear h36
      obtain ⟨u38, l38, rfl, h38⟩ := unconsS h37
      clear h37
      obtain ⟨u39, l39, rfl, h39⟩ := unconsS h38
      clear h38
      obtain ⟨u40, l40, rfl, h40⟩ := unconsS h39
      clear h39
      obtain ⟨u41, l41, rfl, h41⟩ := unconsS h40
      clear h40
      obtain ⟨u42, l42, rfl, h42⟩ := unconsS h41
      clear h41
      obtain ⟨u43, l43, rfl, h43⟩ := unconsS h42
      clear h42
      obtain ⟨u44, l44, rfl, h44⟩ := unconsS h43
      clear h43
      obtain ⟨u45, l45, rfl, h45⟩ := unconsS h44
      clear h44
      obtain ⟨u46, l46, rfl, h46⟩ := unconsS h45
      clear h45
      obtain ⟨u47, l47, rfl, h47⟩ := unconsS h46
      clear h46
      obtain ⟨u48, l48, rfl, h48⟩ := unconsS h47
      clear h47
      obtain ⟨u49, l49, rfl, h49⟩ := unconsS h48
      clear h48
      obtain ⟨u50, l50, rfl, h50⟩ := unconsS h49
      clear h49
      obtain ⟨u51, l51, rfl, h51⟩ := unconsS h50
      clear h50
      obtain ⟨u52, l52, rfl, h52⟩ := unconsS h51
      clear h51
      obtain ⟨u53, l53, rfl, h53⟩ := unconsS h52
      clear h52
      obtain ⟨u54, l54, rfl, h54⟩ := unconsS h53
      clear h53
      obtain ⟨u55, l55, rfl, h55⟩ := unconsS h54
      clear h54
      obtain ⟨u56, l56, rfl, h56⟩ := unconsS h55
      clear h55
      obtain ⟨u57, l57, rfl, h57⟩ := unconsS h56
      clear h56
      obtain ⟨u58, l58, rfl, h58⟩ := unconsS h57
      clear h57
      obtain ⟨u59, l59, rfl, h59⟩ := unconsS h58
      clear h58
      obtain ⟨u60, l60, rfl, h60⟩ := unconsS h59
      clear h59
      obtain ⟨u61, l61, rfl, h61⟩ := unconsS h60
      clear h60
      obtain ⟨u62, l62, rfl, h62⟩ := unconsS h61
      clear h61
      obtain ⟨u63, l63, rfl, h63⟩ := unconsS h62
      clear h62
      obtain ⟨u64, l64, rfl, h64⟩ := unconsS h63
      clear h63
      obtain ⟨u65, l65, rfl, h65⟩ := unconsS h64
      clear h64
      obtain ⟨u66, l66, rfl, h66⟩ := unconsS h65
      clear h65
      obtain ⟨u67, l67, rfl, h67⟩ := unconsS h66
      clear h66
      obtain ⟨u68, l68, rfl, h68⟩ := unconsS h67
      clear h67
      obtain ⟨u69, l69, rfl, h69⟩ := unconsS h68
      clear h68
      obtain ⟨u70, l70, rfl, h70⟩ := unconsS h69
      clear h69
      obtain ⟨u71, l71, rfl, h71⟩ := unconsS h70
      clear h70
      obtain ⟨u72, l72, rfl, h72⟩ := unconsS h71
      clear h71
      obtain ⟨u73, l73, rfl, h73⟩ := unconsS h72
      clear h72
      obtain ⟨u74, l74, rfl, h74⟩ := unconsS h73
      clear h73
      obtain ⟨u75, l75, rfl, h75⟩ := unconsS h74
      clear h74
      obtain ⟨u76, l76, rfl, h76⟩ := unconsS h75
      clear h75
      obtain ⟨u77, l77, rfl, h77⟩ := unconsS h76
      clear h76
      obtain ⟨u78, l78, rfl, h78⟩ := unconsS h77
      clear h77
      obtain ⟨u79, l79, rfl, h79⟩ := unconsS h78
      clear h78
      obtain ⟨u80, l80, rfl, h80⟩ := unconsS h79
      clear h79
      obtain ⟨u81, l81, rfl, h81⟩ := unconsS h80
      clear h80
      obtain ⟨u82, l82, rfl, h82⟩ := unconsS h81
      clear h81
      obtain ⟨u83, l83, rfl, h83⟩ := unconsS h82
      clear h82
      obtain ⟨u84, l84, rfl, h84⟩ := unconsS h83
      clear h83
      obtain ⟨u85, l85, rfl, h85⟩ := unconsS h84
      clear h84
      obtain ⟨u86, l86, rfl, h86⟩ := unconsS h85
      clear h85
      obtain ⟨u87, l87, rfl, h87⟩ := unconsS h86
      clear h86
      obtain ⟨u88, l88, rfl, h88⟩ := unconsS h87
      clear h87
      obtain ⟨u89, l89, rfl, h89⟩ := unconsS h88
      clear h88
      obtain ⟨u90, l90, rfl, h90⟩ := unconsS h89
      clear h89
      obtain ⟨u91, l91, rfl, h91⟩ := unconsS h90
      clear h90
      obtain ⟨u92, l92, rfl, h92⟩ := unconsS h91
      clear h91
      obtain ⟨u93, l93, rfl, h93⟩ := unconsS h92
      clear h92
      obtain ⟨u94, l94, rfl, h94⟩ := unconsS h93
      clear h93
      obtain ⟨u95, l95, rfl, h95⟩ := unconsS h94
      clear h94
      obtain ⟨u96, l96, rfl, h96⟩ := unconsS h95
      clear h95
      obtain ⟨u97, l97, rfl, h97⟩ := unconsS h96
      clear h96
      obtain ⟨u98, l98, rfl, h98⟩ := unconsS h97
      clear h97
      obtain ⟨u99, l99, rfl, h99⟩ := unconsS h98
      clear h98
      obtain ⟨u100, l100, rfl, h100⟩ := unconsS h99
      clear h99
      obtain ⟨u101, l101, rfl, h101⟩ := unconsS h100
      clear h100
      obtain ⟨u102, l102, rfl, h102⟩ := unconsS h101
      clear h101
      obtain ⟨u103, l103, rfl, h103⟩ := unconsS h102
      clear h102
      obtain ⟨u104, l104, rfl, h104⟩ := unconsS h103
      clear h103
      obtain ⟨u105, l105, rfl, h105⟩ := unconsS h104
      clear h104
      obtain ⟨u106, l106, rfl, h106⟩ := unconsS h105
      clear h105
      obtain ⟨u107, l107, rfl, h107⟩ := unconsS h106
      clear h106
      obtain ⟨u108, l108, rfl, h108⟩ := unconsS h107
      clear h107
      obtain ⟨u109, l109, rfl, h109⟩ := unconsS h108
      clear h108
      obtain ⟨u110, l110, rfl, h110⟩ := unconsS h109
      clear h109
      obtain ⟨u111, l111, rfl, h111⟩ := unconsS h110
      clear h110
      obtain ⟨u112, l112, rfl, h112⟩ := unconsS h111
      clear h111
      obtain ⟨u113, l113, rfl, h113⟩ := unconsS h112
      clear h112
      obtain ⟨u114, l114, rfl, h114⟩ := unconsS h113
      clear h113
      obtain ⟨u115, l115, rfl, h115⟩ := unconsS h114
      clear h114
      obtain ⟨u116, l116, rfl, h116⟩ := unconsS h115
      clear h115
      obtain ⟨u117, l117, rfl, h117⟩ := unconsS h116
      clear h116
      obtain ⟨u118, l118, rfl, h118⟩ := unconsS h117
      clear h117
      obtain ⟨u119, l119, rfl, h119⟩ := unconsS h118
      clear h118
      obtain ⟨u120, l120, rfl, h120⟩ := unconsS h119
      clear h119
      obtain ⟨u121, l121, rfl, h121⟩ := unconsS h120
      clear h120
      obtain ⟨u122, l122, rfl, h122⟩ := unconsS h121
      clear h121
      obtain ⟨u123, l123, rfl, h123⟩ := unconsS h122
      clear h122
      obtain ⟨u124, l124, rfl, h124⟩ := unconsS h123
      clear h123
      obtain ⟨u125, l125, rfl, h125⟩ := unconsS h124
      clear h124
      obtain ⟨u126, l126, rfl, h126⟩ := unconsS h125
      clear h125
      obtain ⟨u127, l127, rfl, h127⟩ := unconsS h126
      clear h126
      obtain ⟨u128, l128, rfl, h128⟩ := unconsS h127
      clear h127
      obtain ⟨u129, l129, rfl, h129⟩ := unconsS h128
      clear h128
      obtain ⟨u130, l130, rfl, h130⟩ := unconsS h129
      clear h129
      obtain ⟨u131, l131, rfl, h131⟩ := unconsS h130
      clear h130
      obtain ⟨u132, l132, rfl, h132⟩ := unconsS h131
      clear h131
      obtain ⟨u133, l133, rfl, h133⟩ := unconsS h132
      clear h132
      obtain ⟨u134, l134, rfl, h134⟩ := unconsS h133
      clear h133
      obtain ⟨u135, l135, rfl, h135⟩ := unconsS h134
      clear h134
      obtain ⟨u136, l136, rfl, h136⟩ := unconsS h135
      clear h135
      obtain ⟨u137, l137, rfl, h137⟩ := unconsS h136
      clear h136
      obtain ⟨u138, l138, rfl, h138⟩ := unconsS h137
      clear h137
      obtain ⟨u139, l139, rfl, h139⟩ := unconsS h138
      clear h138
      obtain ⟨u140, l140, rfl, h140⟩ := unconsS h139
      clear h139
      obtain ⟨u141, l141, rfl, h141⟩ := unconsS h140
      clear h140
      obtain ⟨u142, l142, rfl, h142⟩ := unconsS h141
      clear h141
      obtain ⟨u143, l143, rfl, h143⟩ := unconsS h142
      clear h142
      obtain ⟨u144, l144, rfl, h144⟩ := unconsS h143
      clear h143
      obtain ⟨u145, l145, rfl, h145⟩ := unconsS h144
      clear h144
      obtain ⟨u146, l146, rfl, h146⟩ := unconsS h145
      clear h145
      obtain ⟨u147, l147, rfl, h147⟩ := unconsS h146
      clear h146
      obtain ⟨u148, l148, rfl, h148⟩ := unconsS h147
      clear h147
      obtain ⟨u149, l149, rfl, h149⟩ := unconsS h148
      clear h148
      obtain ⟨u150, l150, rfl, h150⟩ := unconsS h149
      clear h149
      obtain ⟨u151, l151, rfl, h151⟩ := unconsS h150
      clear h150
      obtain ⟨u152, l152, rfl, h152⟩ := unconsS h151
      clear h151
      obtain ⟨u153, l153, rfl, h153⟩ := unconsS h152
      clear h152
      obtain ⟨u154, l154, rfl, h154⟩ := unconsS h153
      clear h153
      obtain ⟨u155, l155, rfl, h155⟩ := unconsS h154
      clear h154
      obtain ⟨u156, l156, rfl, h156⟩ := unconsS h155
      clear h155
      obtain ⟨u157, l157, rfl, h157⟩ := unconsS h156
      clear h156
      obtain ⟨u158, l158, rfl, h158⟩ := unconsS h157
      clear h157
      obtain ⟨u159, l159, rfl, h159⟩ := unconsS h158
      clear h158
      obtain ⟨u160, l160, rfl, h160⟩ := unconsS h159
      clear h159
      obtain ⟨u161, l161, rfl, h161⟩ := unconsS h160
      clear h160
      obtain ⟨u162, l162, rfl, h162⟩ := unconsS h161
      clear h161
      obtain ⟨u163, l163, rfl, h163⟩ := unconsS h162
      clear h162
      obtain ⟨u164, l164, rfl, h164⟩ := unconsS h163
      clear h163
      obtain ⟨u165, l165, rfl, h165⟩ := unconsS h164
      clear h164
      obtain ⟨u166, l166, rfl, h166⟩ := unconsS h165
      clear h165
      obtain ⟨u167, l167, rfl, h167⟩ := unconsS h166
      clear h166
      obtain ⟨u168, l168, rfl, h168⟩ := unconsS h167
      clear h167
      obtain ⟨u169, l169, rfl, h169⟩ := unconsS h168
      clear h168
      obtain ⟨u170, l170, rfl, h170⟩ := unconsS h169
      clear h169
      obtain ⟨u171, l171, rfl, h171⟩ := unconsS h170
      clear h170
      obtain ⟨u172, l172, rfl, h172⟩ := unconsS h171
      clear h171
      obtain ⟨u173, l173, rfl, h173⟩ := unconsS h172
      clear h172
      obtain ⟨u174, l174, rfl, h174⟩ := unconsS h173
      clear h173
      obtain ⟨u175, l175, rfl, h175⟩ := unconsS h174
      clear h174
      obtain ⟨u176, l176, rfl, h176⟩ := unconsS h175
      clear h175
      obtain ⟨u177, l177, rfl, h177⟩ := unconsS h176
      clear h176
      obtain ⟨u178, l178, rfl, h178⟩ := unconsS h177
      clear h177
      obtain ⟨u179, l179, rfl, h179⟩ := unconsS h178
      clear h178
      obtain ⟨u180, l180, rfl, h180⟩ := unconsS h179
      clear h179
      obtain ⟨u181, l181, rfl, h181⟩ := unconsS h180
      clear h180
      obtain ⟨u182, l182, rfl, h182⟩ := unconsS h181
      clear h181
      obtain ⟨u183, l183, rfl, h183⟩ := unconsS h182
      clear h182
      obtain ⟨u184, l184, rfl, h184⟩ := unconsS h183
      clear h183
      obtain ⟨u185, l185, rfl, h185⟩ := unconsS h184
      clear h184
      obtain ⟨u186, l186, rfl, h186⟩ := unconsS h185
      clear h185
      obtain ⟨u187, l187, rfl, h187⟩ := unconsS h186
      clear h186
      obtain ⟨u188, l188, rfl, h188⟩ := unconsS h187
      clear h187
      obtain ⟨u189, l189, rfl, h189⟩ := unconsS h188
      clear h188
      obtain ⟨u190, l190, rfl, h190⟩ := unconsS h189
      clear h189
      obtain ⟨u191, l191, rfl, h191⟩ := unconsS h190
      clear h190
      obtain ⟨u192, l192, rfl, h192⟩ := unconsS h191
      clear h191
      obtain ⟨u193, l193, rfl, h193⟩ := unconsS h192
      clear h192
      obtain ⟨u194, l194, rfl, h194⟩ := unconsS h193
      clear h193
      obtain ⟨u195, l195, rfl, h195⟩ := unconsS h194
      clear h194
      obtain ⟨u196, l196, rfl, h196⟩ := unconsS h195
      clear h195
      obtain ⟨u197, l197, rfl, h197⟩ := unconsS h196
      clear h196
      obtain ⟨u198, l198, rfl, h198⟩ := unconsS h197
      clear h197
      obtain ⟨u199, l199, rfl, h199⟩ := unconsS h198
      clear h198
      obtain ⟨u200, l200, rfl, h200⟩ := unconsS h199
      clear h199
      obtain ⟨u201, l201, rfl, h201⟩ := unconsS h200
      clear h200
      obtain ⟨u202, l202, rfl, h202⟩ := unconsS h201
      clear h201
      obtain ⟨u203, l203, rfl, h203⟩ := unconsS h202
      clear h202
      obtain ⟨u204, l204, rfl, h204⟩ := unconsS h203
      clear h203
      obtain ⟨u205, l205, rfl, h205⟩ := unconsS h204
      clear h204
      obtain ⟨u206, l206, rfl, h206⟩ := unconsS h205
      clear h205
      obtain ⟨u207, l207, rfl, h207⟩ := unconsS h206
      clear h206
      obtain ⟨u208, l208, rfl, h208⟩ := unconsS h207
      clear h207
      obtain ⟨u209, l209, rfl, h209⟩ := unconsS h208
      clear h208
      obtain ⟨u210, l210, rfl, h210⟩ := unconsS h209
      clear h209
      obtain ⟨u211, l211, rfl, h211⟩ := unconsS h210
      clear h210
      obtain ⟨u212, l212, rfl, h212⟩ := unconsS h211
      clear h211
      obtain ⟨u213, l213, rfl, h213⟩ := unconsS h212
      clear h212
      obtain ⟨u214, l214, rfl, h214⟩ := unconsS h213
      clear h213
      obtain ⟨u215, l215, rfl, h215⟩ := unconsS h214
      clear h214
      obtain ⟨u216, l216, rfl, h216⟩ := unconsS h215
      clear h215
      obtain ⟨u217, l217, rfl, h217⟩ := unconsS h216
      clear h216
      obtain ⟨u218, l218, rfl, h218⟩ := unconsS h217
      clear h217
      obtain ⟨u219, l219, rfl, h219⟩ := unconsS h218
      clear h218
      obtain ⟨u220, l220, rfl, h220⟩ := unconsS h219
      clear h219
      obtain ⟨u221, l221, rfl, h221⟩ := unconsS h220
      clear h220
      obtain ⟨u222, l222, rfl, h222⟩ := unconsS h221
      clear h221
      obtain ⟨u223, l223, rfl, h223⟩ := unconsS h222
      clear h222
      obtain ⟨u224, l224, rfl, h224⟩ := unconsS h223
      clear h223
      obtain ⟨u225, l225, rfl, h225⟩ := unconsS h224
      clear h224
      obtain ⟨u226, l226, rfl, h226⟩ := unconsS h225
      clear h225
      obtain ⟨u227, l227, rfl, h227⟩ := unconsS h226
      clear h226
      obtain ⟨u228, l228, rfl, h228⟩ := unconsS h227
      clear h227
      obtain ⟨u229, l229, rfl, h229⟩ := unconsS h228
      clear h228
      obtain ⟨u230, l230, rfl, h230⟩ := unconsS h229
      clear h229
      obtain ⟨u231, l231, rfl, h231⟩ := unconsS h230
      clear h230
      obtain ⟨u232, l232, rfl, h232⟩ := unconsS h231
      clear h231
      obtain ⟨u233, l233, rfl, h233⟩ := unconsS h232
      clear h232
      obtain ⟨u234, l234, rfl, h234⟩ := unconsS h233
      clear h233
      obtain ⟨u235, l235, rfl, h235⟩ := unconsS h234
      clear h234
      obtain ⟨u236, l236, rfl, h236⟩ := unconsS h235
      clear h235
      obtain ⟨u237, l237, rfl, h237⟩ := unconsS h236
      clear h236
      obtain ⟨u238, l238, rfl, h238⟩ := unconsS h237
      clear h237
      obtain ⟨u239, l239, rfl, h239⟩ := unconsS h238
      clear h238
      obtain ⟨u240, l240, rfl, h240⟩ := unconsS h239
      clear h239
      obtain ⟨u241, l241, rfl, h241⟩ := unconsS h240
      clear h240
      obtain ⟨u242, l242, rfl, h242⟩ := unconsS h241
      clear h241
      obtain ⟨u243, l243, rfl, h243⟩ := unconsS h242
      clear h242
      obtain ⟨u244, l244, rfl, h244⟩ := unconsS h243
      clear h243
      obtain ⟨u245, l245, rfl, h245⟩ := unconsS h244
      clear h244
      obtain ⟨u246, l246, rfl, h246⟩ := unconsS h245
      clear h245
      obtain ⟨u247, l247, rfl, h247⟩ := unconsS h246
      clear h246
      obtain ⟨u248, l248, rfl, h248⟩ := unconsS h247
      clear h247
      obtain ⟨u249, l249, rfl, h249⟩ := unconsS h248
      clear h248
      obtain ⟨u250, l250, rfl, h250⟩ := unconsS h249
      clear h249
      obtain ⟨u251, l251, rfl, h251⟩ := unconsS h250
      clear h250
      obtain ⟨u252, l252, rfl, h252⟩ := unconsS h251
      clear h251
      obtain ⟨u253, l253, rfl, h253⟩ := unconsS h252
      clear h252
      obtain ⟨u254, l254, rfl, h254⟩ := unconsS h253
      clear h253
      obtain ⟨u255, l255, rfl, h255⟩ := unconsS h254
      clear h254
      obtain ⟨u256, l256, rfl, h256⟩ := unconsS h255
      clear h255
      obtain ⟨u257, l257, rfl, h257⟩ := unconsS h256
      clear h256
      obtain ⟨u258, l258, rfl, h258⟩ := unconsS h257
      clear h257
      obtain ⟨u259, l259, rfl, h259⟩ := unconsS h258
      clear h258
      obtain ⟨u260, l260, rfl, h260⟩ := unconsS h259
      clear h259
      obtain ⟨u261, l261, rfl, h261⟩ := unconsS h260
      clear h260
      obtain ⟨u262, l262, rfl, h262⟩ := unconsS h261
      clear h261
      obtain ⟨u263, l263, rfl, h263⟩ := unconsS h262
      clear h262
      obtain ⟨u264, l264, rfl, h264⟩ := unconsS h263
      clear h263
      obtain ⟨u265, l265, rfl, h265⟩ := unconsS h264
      clear h264
      obtain ⟨u266, l266, rfl, h266⟩ := unconsS h265
      clear h265
      obtain ⟨u267, l267, rfl, h267⟩ := unconsS h266
      clear h266
      obtain ⟨u268, l268, rfl, h268⟩ := unconsS h267
      clear h267
      obtain ⟨u269, l269, rfl, h269⟩ := unconsS h268
      clear h268
      obtain ⟨u270, l270, rfl, h270⟩ := unconsS h269
      clear h269
      obtain ⟨u271, l271, rfl, h271⟩ := unconsS h270
      clear h270
      obtain ⟨u272, l272, rfl, h272⟩ := unconsS h271
      clear h271
      obtain ⟨u273, l273, rfl, h273⟩ := unconsS h272
      clear h272
      obtain ⟨u274, l274, rfl, h274⟩ := unconsS h273
      clear h273
      obtain ⟨u275, l275, rfl, h275⟩ := unconsS h274
      clear h274
      obtain ⟨u276, l276, rfl, h276⟩ := unconsS h275
      clear h275
      obtain ⟨u277, l277, rfl, h277⟩ := unconsS h276
      clear h276
      obtain ⟨u278, l278, rfl, h278⟩ := unconsS h277
      clear h277
      obtain ⟨u279, l279, rfl, h279⟩ := unconsS h278
      clear h278
      obtain ⟨u280, l280, rfl, h280⟩ := unconsS h279
      clear h279
      obtain ⟨u281, l281, rfl, h281⟩ := unconsS h280
      clear h280
      obtain ⟨u282, l282, rfl, h282⟩ := unconsS h281
      clear h281
      obtain ⟨u283, l283, rfl, h283⟩ := unconsS h282
      clear h282
      obtain ⟨u284, l284, rfl, h284⟩ := unconsS h283
      clear h283
      obtain ⟨u285, l285, rfl, h285⟩ := unconsS h284
      clear h284
      obtain ⟨u286, l286, rfl, h286⟩ := unconsS h285
      clear h285
      obtain ⟨u287, l287, rfl, h287⟩ := unconsS h286
      clear h286
      obtain ⟨u288, l288, rfl, h288⟩ := unconsS h287
      clear h287
      obtain ⟨u289, l289, rfl, h289⟩ := unconsS h288
      clear h288
      obtain ⟨u290, l290, rfl, h290⟩ := unconsS h289
      clear h289
      obtain ⟨u291, l291, rfl, h291⟩ := unconsS h290
      clear h290
      obtain ⟨u292, l292, rfl, h292⟩ := unconsS h291
      clear h291
      obtain ⟨u293, l293, rfl, h293⟩ := unconsS h292
      clear h292
      obtain ⟨u294, l294, rfl, h294⟩ := unconsS h293
      clear h293
      obtain ⟨u295, l295, rfl, h295⟩ := unconsS h294
      clear h294
      obtain ⟨u296, l296, rfl, h296⟩ := unconsS h295
      clear h295
      obtain ⟨u297, l297, rfl, h297⟩ := unconsS h296
      clear h296
      obtain ⟨u298, l298, rfl, h298⟩ := unconsS h297
      clear h297
      obtain ⟨u299, l299, rfl, h299⟩ := unconsS h298
      clear h298
      obtain ⟨u300, l300, rfl, h300⟩ := unconsS h299
      clear h299
      obtain ⟨u301, l301, rfl, h301⟩ := unconsS h300
      clear h300
      obtain ⟨u302, l302, rfl, h302⟩ := unconsS h301
      clear h301
      obtain ⟨u303, l303, rfl, h303⟩ := unconsS h302
      clear h302
      obtain ⟨u304, l304, rfl, h304⟩ := unconsS h303
      clear h303
      obtain ⟨u305, l305, rfl, h305⟩ := unconsS h304
      clear h304
      obtain ⟨u306, l306, rfl, h306⟩ := unconsS h305
      clear h305
      obtain ⟨u307, l307, rfl, h307⟩ := unconsS h306
      clear h306
      obtain ⟨u308, l308, rfl, h308⟩ := unconsS h307
      clear h307
      obtain ⟨u309, l309, rfl, h309⟩ := unconsS h308
      clear h308
      obtain ⟨u310, l310, rfl, h310⟩ := unconsS h309
      clear h309
      obtain ⟨u311, l311, rfl, h311⟩ := unconsS h310
      clear h310
      obtain ⟨u312, l312, rfl, h312⟩ := unconsS h311
      clear h311
      obtain ⟨u313, l313, rfl, h313⟩ := unconsS h312
      clear h312
      obtain ⟨u314, l314, rfl, h314⟩ := unconsS h313
      clear h313
      obtain ⟨u315, l315, rfl, h315⟩ := unconsS h314
      clear h314
      obtain ⟨u316, l316, rfl, h316⟩ := unconsS h315
      clear h315
      obtain ⟨u317, l317, rfl, h317⟩ := unconsS h316
      clear h316
      obtain ⟨u318, l318, rfl, h318⟩ := unconsS h317
      clear h317
      obtain ⟨u319, l319, rfl, h319⟩ := unconsS h318
      clear h318
      obtain ⟨u320, l320, rfl, h320⟩ := unconsS h319
      clear h319
      obtain rfl := List.length_eq_zero_iff.1 h320
      clear h320
      have HU := Lib.hid (HS8.out.below HT.out.1.bel)
      have c0 := (HU.out.box.cell 0).trans rfl; have c1 := (HU.out.box.cell 1).trans rfl; have c2 := (HU.out.box.cell 2).trans rfl; have c3 := (HU.out.box.cell 3).trans rfl
      have d0 := (HT.out.1.box.cell 0).trans rfl; have d1 := (HT.out.1.box.cell 1).trans rfl; have d2 := (HT.out.1.box.cell 2).trans rfl; have d3 := (HT.out.1.box.cell 3).trans rfl
      clear hq hw0 hw1 hq20
      go_wp2_with fail
      clear c0 c1 c2 c3 d0 d1 d2 d3
      refine (no_call (a := u) (b := t') HT.out.2.1 HU.out.cp.src HT.out.1.src HGR.out.sm.z.1 HT.out.2.2.2).mono ?_
      rintro e W12 ⟨rfl, hc⟩
      have HU2 := Lib.hid (HU.out.below hc); have HF2 := Lib.hid (HT.out.1.below HT.out.1.bel.size hc)
      clear hc
      have c0 := (HU2.out.box.cell 0).trans rfl; have c1 := (HU2.out.box.cell 1).trans rfl; have c2 := (HU2.out.box.cell 2).trans rfl; have c3 := (HU2.out.box.cell 3).trans rfl
      have d0 := (HF2.out.box.cell 0).trans rfl; have d1 := (HF2.out.box.cell 1).trans rfl; have d2 := (HF2.out.box.cell 2).trans rfl; have d3 := (HF2.out.box.cell 3).trans rfl
      go_wp2_with fail
      clear c0 c1 c2 c3 d0 d1 d2 d3
      refine (no_call (a := t') (b := u) (fun q => HT.out.2.1 (P32.okS_symm q)) HF2.out.src HU2.out.cp.src HT.out.2.2.1 HGR.out.sm.z.2).mono ?_
      rintro e W13 ⟨rfl, hc⟩
      have HB3 := Lib.hid (HU2.out.below hc).bel
      clear hc
      go_wp2_with fail
      refine (works32_any _ (HV.out.below HB3.out)).mono ?_
      rintro e W9 ⟨rfl, hc⟩
      have HBE := Lib.hid (HB3.out.trans (hc.mono HB3.out.size))
      clear hc
      go_wp2_with fail
      go_ret
      exact ⟨rfl, HBE.out⟩
end Go.Proofs.YtlideagcmhlkeaaDoor

/- ReportShapes: for every input whose arguments hold together at most 1048576 values and letters the law returns true, and each argument reads as before. The listed package-level variables read as listed; the card ties them to the program's text. -/
namespace Go.Proofs.YtlideagcmhlkeaaDoor.lawReportShapes
open Go.ChangeShapes Go.WideShapes Go.ChangeAt Go.RowKit Go.Joins
open Go.ChangeMaps (open_string shut_string)
set_option linter.unusedVariables false
set_option linter.unusedSimpArgs false

theorem laidOut : laidOutB Tryd.prog = true := by kernel_rfl
theorem own : ownKnob Tryd.prog.godebug = none := by kernel_rfl
theorem door_met (os : Os) (args : Array Value) : laidMetH Tryd.prog Rows.reportShapesUptoRow.laid ((World.doorLaid Tryd.prog 400 os).forCall (fun _ _ => 0) ⟨#[], args, []⟩).memory :=
  laidMetH_of_parts3 (fuel := 8) (laidMet_of_run' 8 (by kernel_rfl) (by kernel_rfl)) (by kernel_rfl) (by kernel_rfl)
theorem reads (os : Os) {H : Type} (enc : TypeId × Value → H) : ∃ places, DataW.whole enc Tryd.prog ((World.doorLaid Tryd.prog 400 os).forCall (fun _ _ => 0) ⟨#[], #[.agg #[.slice none 0 0, .slice none 0 0, .slice none 0 0, .slice none 0 0], .int .u8 0, .int .u8 0], []⟩).memory Tryd.f12.params.toList Rows.reportShapesSpec.vars false (#[.agg #[.slice none 0 0, .slice none 0 0, .slice none 0 0, .slice none 0 0], .int .u8 0, .int .u8 0] : Array Value).toList 8 = some ([.agg [.nil, .nil, .nil, .nil], .lit (.int .u8 0), .lit (.int .u8 0)], [], places) :=
  ⟨[], by kernel_rfl⟩
set_option maxRecDepth 100000 in
theorem lifted (os : Os) (started : os.Started) (H : Type) (enc : TypeId × Value → H) (F : Stop.Interp) :
    ReturnsInHanded {} Tryd.checked os 12 .any ((Rows.OpenSpec.upto Rows.reportShapesSpec).preRow enc Tryd.prog Tryd.f12 Rows.reportShapesUptoRow.domain false Rows.reportShapesUptoRow.laid)
      (((Rows.OpenSpec.upto Rows.reportShapesSpec).at F).post enc Tryd.prog Tryd.f12 false true false false) := by
  obtain ⟨places, hx⟩ := reads os enc
  refine returnsInHanded_of_row (C := Tryd.checked) (s := Rows.OpenSpec.upto Rows.reportShapesSpec) own started (by kernel_rfl) Tryd.func12
    (witness_row_shaped (enc := enc) (C := Tryd.checked) (os := os) false (World.doorLaid Tryd.prog 400 os) #[.agg #[.slice none 0 0, .slice none 0 0, .slice none 0 0, .slice none 0 0], .int .u8 0, .int .u8 0] rfl (World.shaped_of_RefB (by kernel_rfl) (by kernel_rfl)) (by kernel_rfl)
      (OpenSpec.preRow_of_cond 8 hx (by kernel_rfl) (fun k hk => by cases hk; kernel_rfl) (by kernel_rfl) (door_met os _))) ?_
  intro W base args ds gs before hval0 hW _ hcond _ hL hsh _
  have hval : ∀ (j : Nat) t v, Tryd.f12.params[j]? = some t → args[j]? = some v → Value.okWide Tryd.prog W .any base t v := hval0
  have hbk0 : Rows.uptoSmall H (ds ++ gs) = true := hcond _ rfl
  have hW' := hW
  obtain ⟨p, q, hA0, hV, rfl, hfz, hnd⟩ := hW
  have hA : DataW.TrodAll enc Tryd.prog W 0 (fun _ => true) true Tryd.f12.params.toList args.toList ds p := hA0
  rw [Tryd.params12] at hA hval
  obtain ⟨v0, vs0, d0, ds0, p0, q0, hargs, rfl, rfl, h0, r0⟩ := trodAll_cons hA
  obtain ⟨v1, vs1, d1, ds1, p1, q1, rfl, rfl, rfl, h1, r1⟩ := trodAll_cons r0
  obtain ⟨v2, vs2, d2, ds2, p2, q2, rfl, rfl, rfl, h2, r2⟩ := trodAll_cons r1
  obtain ⟨rfl, rfl, rfl⟩ := trodAll_nil r2
  obtain rfl : args = #[v0, v1, v2] := by cases args; simp_all
  obtain ⟨rfl, rfl⟩ := trodVars_none hV
  have hbk := of_decide_eq_true hbk0
  simp only [List.cons_append, List.nil_append, List.append_nil, Rows.uptoBulkAll] at hbk
  have hB0 : Rows.uptoBulk d0 ≤ 1048576 := by omega
  have hB1 : Rows.uptoBulk d1 ≤ 1048576 := by omega
  have hB2 : Rows.uptoBulk d2 ≤ 1048576 := by omega
  clear hbk hbk0 hcond
  have h0k := h0
  have h1k := h1
  have h2k := h2
  have hlt : ∀ x ∈ (p0 ++ (p1 ++ (p2 ++ []))) ++ [], x.block < W.heap.size := fun x hx => by simpa using hW'.lt x hx
  have hvars := vars_of_laid hL
  have hk0 : ∀ W', Below W.heap.size W W' → DataW.Trod enc Tryd.prog W' 0 (fun b => decide (b < W.heap.size)) true 32 v0 d0 p0 := fun W' bel => Below.trod laidOut (by kernel_rfl) (of_decide_eq_true (by kernel_rfl)) h0k bel (fun x hx => hlt x (by simp [hx]))
  have hk1 : ∀ W', Below W.heap.size W W' → DataW.Trod enc Tryd.prog W' 0 (fun b => decide (b < W.heap.size)) true 5 v1 d1 p1 := fun W' bel => Below.trod laidOut (by kernel_rfl) (of_decide_eq_true (by kernel_rfl)) h1k bel (fun x hx => hlt x (by simp [hx]))
  have hk2 : ∀ W', Below W.heap.size W W' → DataW.Trod enc Tryd.prog W' 0 (fun b => decide (b < W.heap.size)) true 5 v2 d2 p2 := fun W' bel => Below.trod laidOut (by kernel_rfl) (of_decide_eq_true (by kernel_rfl)) h2k bel (fun x hx => hlt x (by simp [hx]))
  obtain ⟨⟨l0⟩, rfl, hz0⟩ := okWide_struct Tryd.underlying32 (hval 0 32 v0 rfl rfl)
  obtain ⟨f0, hf0⟩ := h0
  have hl0 : l0.length = 4 := hz0.trans (by kernel_rfl)
  obtain ⟨s0, hcs0, hS0, hF0⟩ := open_sourceB hl0 hf0 hB0
  subst hcs0
  obtain ⟨a1, rfl, rfl, rfl, w1⟩ := open_int Tryd.underlying5 (hval 1 5 v1 rfl rfl) h1
  obtain ⟨a2, rfl, rfl, rfl, w2⟩ := open_int Tryd.underlying5 (hval 2 5 v2 rfl rfl) h2
  clear hA0 hval0
  refine (walkReportShapes s0 a1 a2 W hS0 hF0 (b8 w1) (b8 w2) hvars).mono fun e W' ⟨he, bel⟩ => ?_
  subst he
  exact ⟨_, rfl, _, _, _, [], _, [], hW', trodAll_mk1 (shut_bool Tryd.underlying4 _), trodAll_cons_mk (hk0 W' bel) (trodAll_cons_mk (hk1 W' bel) (trodAll_cons_mk (hk2 W' bel) (trodAll_mk0))), rfl, World.keptBut_mono (fun p hp => ⟨hp, Or.inr (by simpa using hp)⟩) (bel.frame _), fun h => by cases h⟩

theorem said : Rows.ReportShapesUptoSaid :=
  OpenClaim.holds_of_cond 12 Tryd.f12 rfl rfl rfl rfl rfl rfl rfl ⟨rfl, rfl, rfl, rfl, rfl⟩ rfl rfl rfl rfl rfl (by kernel_rfl) Tryd.func12 (by kernel_rfl)
    (of_decide_eq_true (by kernel_rfl)) (by unfold Func.isWrapper; first | (rw [if_pos (by decide +kernel)]; kernel_rfl) | (rw [if_neg (by decide +kernel)]; exact ⟨rfl, rfl⟩))
    (fun os started H enc _ F => by rw [OpenClaim.pre_eq_preRow]; exact lifted os started H enc F)

/-- No parameter wants a stand-in; the program's own looks are off: what the card asks. -/
theorem plain (f : FuncId) (fn : Func) (hf : Tryd.pinned.checked.prog.funcNamed Rows.reportShapesUptoRow.func = some f) (hfn : Tryd.pinned.checked.prog.funcs[f]? = some fn) :
    true = Tryd.pinned.checked.prog.looks [] ∧ ∀ (j : Nat) t, fn.params[j]? = some t → Tryd.pinned.checked.prog.wantsStandIn t = false := by
  obtain rfl : f = 12 := Option.some.inj ((show Tryd.prog.funcNamed Rows.reportShapesUptoRow.func = some 12 by kernel_rfl).symm.trans hf) |>.symm
  obtain rfl : fn = Tryd.f12 := (Option.some.inj (Tryd.func12.symm.trans hfn)).symm
  refine ⟨by kernel_rfl, fun j t ht => ?_⟩
  rw [Tryd.params12] at ht
  have hm := Array.mem_of_getElem? ht
  have hm2 : t = 32 ∨ t = 5 ∨ t = 5 := by simpa using hm
  rcases hm2 with rfl | rfl | rfl
  · exact (show Tryd.prog.wantsStandIn 32 = false by kernel_rfl)
  · exact (show Tryd.prog.wantsStandIn 5 = false by kernel_rfl)
  · exact (show Tryd.prog.wantsStandIn 5 = false by kernel_rfl)
/-- THE CARD -/
theorem card : Rows.ReportShapesUptoCardSaid :=
  Claim7.holds_tied_plain_at .later [] _ _ _ _ said (fun _ h => by cases h) (by kernel_rfl) (fun _ h => by cases h) reportShapesUpto_row_tie rfl ⟨rfl, rfl⟩ (by kernel_rfl) rfl plain (by kernel_rfl)
end Go.Proofs.YtlideagcmhlkeaaDoor.lawReportShapes
