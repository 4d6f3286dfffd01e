/- TurnSources: for every input whose arguments hold together at most 1048576 values and letters the law returns true, and each argument reads as before. The listed package-level variables read as listed; the card ties them to the program's text. -/
import Derived.Test.YtlideagcmhlkeaaDoorR9
import Derived.BigQuiet
import Derived.Test.YtlideagcmhlkeaaDoorCards
import Derived.Test.YtlideagcmhlkeaaDoorTie
import Derived.Carry
import Derived.WalkKit
import Derived.ProofKit
import Derived.OpenShut
import Derived.ShutString
import Derived.LaidMore
import Derived.ChangeOld
import Derived.Below
import Derived.Stop.Joined
import Derived.Lib.SmallJoins
import Derived.SevenTiedAt
import Derived.Deep.DeepHandedRow

/- The walk of the law TurnSources (chapter 29). -/
namespace Go.Proofs.YtlideagcmhlkeaaDoor
open Go.RowKit Go.Lib
set_option linter.unusedVariables false
set_option linter.unusedSimpArgs false

theorem few30_of29 {s : SV} (h : Few29 s) (k : Nums30 s) (hf : ∀ z ∈ s.zones, ∀ e ∈ z.eras, e.fmt.size ≤ 1048576) : Few30 s := by
  have hl := h.lens
  refine ⟨by omega, fun z hz => ?_, fun z hz e he => ⟨(k.eras z hz e he).1, (k.eras z hz e he).2, by have := hf z hz e he; omega⟩, k.saves⟩
  obtain ⟨i, hi⟩ := List.getElem?_of_mem hz
  have := h.eras i z hi
  omega
theorem same13_yes' {a b : SV} (h : sSame14 a b) (hf : Few30 a) (W : World) (hA : SrcIn W a) (hB : SrcIn W b) :
    Calls Tryd.prog 34 #[.agg #[.slice a.rA a.rules.length a.rc, .slice a.zA a.zones.length a.zc, .slice a.kA a.links.length a.kc, .slice a.hA a.shifts.length a.hc], .agg #[.slice b.rA b.rules.length b.rc, .slice b.zA b.zones.length b.zc, .slice b.kA b.links.length b.kc, .slice b.hA b.shifts.length b.hc]] W fun x W' => x = .returned (.bool true) ∧ Below W.heap.size W W' := by
  refine (same13_any a b W hA hB ⟨hf.lens.1, hf.lens.2.1, hf.lens.2.2.1, hf.lens.2.2.2, hf.eras⟩).mono ?_
  rintro x W' ⟨R, hR, rfl, hb'⟩
  obtain rfl : R = true := hR.2 h
  exact ⟨rfl, hb'⟩
theorem same13_yes29 {a b : SV} (h : sSame14 a b) (hf : a.rules.length ≤ 1000 ∧ a.zones.length ≤ 1000 ∧ a.links.length ≤ 1000 ∧ a.shifts.length ≤ 1000 ∧ ∀ z ∈ a.zones, z.eras.length ≤ 1000) (W : World) (hA : SrcIn W a) (hB : SrcIn W b) :
    Calls Tryd.prog 34 #[.agg #[.slice a.rA a.rules.length a.rc, .slice a.zA a.zones.length a.zc, .slice a.kA a.links.length a.kc, .slice a.hA a.shifts.length a.hc], .agg #[.slice b.rA b.rules.length b.rc, .slice b.zA b.zones.length b.zc, .slice b.kA b.links.length b.kc, .slice b.hA b.shifts.length b.hc]] W fun x W' => x = .returned (.bool true) ∧ Below W.heap.size W W' := by
  refine (same13_any a b W hA hB hf).mono ?_
  rintro x W' ⟨R, hR, rfl, hb'⟩
  obtain rfl : R = true := hR.2 h
  exact ⟨rfl, hb'⟩
set_option maxRecDepth 100000 in
set_option maxHeartbeats 16000000 in
theorem walkTurnSources (f : ByteArray) (s : SV) (set : ByteArray) (w : World) (hS : SrcIn w s) (hN : Nums30 s) (hfm : ∀ z ∈ s.zones, ∀ e ∈ z.eras, e.fmt.size ≤ 1048576) (hfs : f.size ≤ maxLen) (hv : Vars21 w) :
    Calls Tryd.prog 7 #[.string f, .agg #[.slice s.rA s.rules.length s.rc, .slice s.zA s.zones.length s.zc, .slice s.kA s.links.length s.kc, .slice s.hA s.shifts.length s.hc], .string set] w fun x w' => x = .returned (.bool true) ∧ Below w.heap.size w w' := by
  unfold maxLen at hfs
  have hfi : (f.size : Int) ≤ 9223372036854775807 := by omega
  have hX := Blk.new w 32 #[.slice s.rA s.rules.length s.rc, .slice s.zA s.zones.length s.zc, .slice s.kA s.links.length s.kc, .slice s.hA s.shifts.length s.hc]
  have hb0 := (Below.refl w.heap.size w).alloc (Nat.le_refl _) (.cells #[.slice s.rA s.rules.length s.rc, .slice s.zA s.zones.length s.zc, .slice s.kA s.links.length s.kc, .slice s.hA s.shifts.length s.hc] 32)
  have HB := Lib.hid hb0; have HS := Lib.hid (hS.below hb0); have HN := Lib.hid hN; have HV := Lib.hid hv; have HFM := Lib.hid hfm; have HXs := Lib.hid hX
  have c0 := (hX.cell 0).trans rfl; have c1 := (hX.cell 1).trans rfl; have c2 := (hX.cell 2).trans rfl; have c3 := (hX.cell 3).trans rfl
  clear hX hb0 hS hN hv hfm
  by_cases hl : 300 < f.size
  · have hli : (300 : Int) < (f.size : Int) := by omega
    clear hl hfs
    go_enter Tryd.func7, Tryd.ntmps7
    go_wp2_with fail
    refine (works29_any _ (HV.out.below HB.out)).mono ?_
    rintro e W9 ⟨rfl, hc⟩
    have HBE := Lib.hid (HB.out.trans (hc.mono HB.out.size))
    clear hc
    go_wp2_with fail
    go_ret
    exact ⟨rfl, HBE.out⟩
  have hli : ¬ (300 : Int) < (f.size : Int) := by omega
  have HFL := Lib.hid (show f.size ≤ 300 by omega)
  clear hl hfs
  go_enter Tryd.func7, Tryd.ntmps7
  go_wp2_with fail
  refine (few29_any s _ HS.out HN.out.lens).mono ?_
  rintro e W1 ⟨hw, hc⟩
  have HB1 := Lib.hid (HB.out.trans (hc.mono HB.out.size))
  have HS1 := Lib.hid (HS.out.below hc)
  have HX1 := Lib.hid (HXs.out.below hc HXs.out.lt)
  clear hc HS HB HXs c0 c1 c2 c3
  rcases hw with rfl | ⟨rfl, hw⟩
  · go_wp2_with fail
    refine (works29_any _ (HV.out.below HB1.out)).mono ?_
    rintro e W9 ⟨rfl, hc⟩
    have HBE := Lib.hid (HB1.out.trans (hc.mono HB1.out.size))
    clear hc
    go_wp2_with fail
    go_ret
    exact ⟨rfl, HBE.out⟩
  have HF := Lib.hid (few30_of29 hw HN.out HFM.out)
  clear hw
  have c0 := (HX1.out.cell 0).trans rfl; have c1 := (HX1.out.cell 1).trans rfl; have c2 := (HX1.out.cell 2).trans rfl; have c3 := (HX1.out.cell 3).trans rfl
  go_wp2_with fail
  refine (copy14 s W1 HS1.out HF.out).mono ?_
  rintro e W2 ⟨t, rfl, hcp, hc⟩
  have HST := Lib.hid hcp.same
  have HFT := Lib.hid (few_same HF.out hcp.same)
  have hal := (Below.refl W2.heap.size W2).alloc (Nat.le_refl _) (.cells #[.slice t.rA t.rules.length t.rc, .slice t.zA t.zones.length t.zc, .slice t.kA t.links.length t.kc, .slice t.hA t.shifts.length t.hc] 32)
  have HB2 := Lib.hid ((HB1.out.trans (hc.mono HB1.out.size)).trans (hal.mono (HB1.out.trans (hc.mono HB1.out.size)).size))
  have HS2 := Lib.hid ((HS1.out.below hc).below hal)
  have HGT := Lib.hid ((hcp.srcG).below hal)
  have HX2 := Lib.hid ((HX1.out.below hc HX1.out.lt).below hal (HX1.out.below hc HX1.out.lt).lt)
  have HXT := Lib.hid (Blk.new W2 32 #[.slice t.rA t.rules.length t.rc, .slice t.zA t.zones.length t.zc, .slice t.kA t.links.length t.kc, .slice t.hA t.shifts.length t.hc])
  clear hcp hc hal HB1 HS1 HX1 c0 c1 c2 c3
  have c0 := (HXT.out.cell 0).trans rfl; have c1 := (HXT.out.cell 1).trans rfl; have c2 := (HXT.out.cell 2).trans rfl; have c3 := (HXT.out.cell 3).trans rfl
  go_wp2_with fail
  refine (teras_any t set _ HGT.out.src HFT.out (HV.out.below HB2.out)).mono ?_
  rintro e W3 ⟨b, rfl, hcp, hsm, hc⟩
  have HSM := Lib.hid (hsm.trans (HST.out.map' (turnE set)))
  have HFB := Lib.hid (show b.rules.length ≤ 1000 ∧ b.zones.length ≤ 1000 ∧ b.links.length ≤ 1000 ∧ b.shifts.length ≤ 1000 ∧ ∀ z ∈ b.zones, z.eras.length ≤ 1000 from ⟨by rw [hsm.rules]; exact HFT.out.lens.1, by rw [hsm.zones.1]; show (t.zones.map _).length ≤ 1000; rw [List.length_map]; exact HFT.out.lens.2.1, by rw [hsm.links]; exact HFT.out.lens.2.2.1, by rw [hsm.shifts]; exact HFT.out.lens.2.2.2, fun z hz => by
    obtain ⟨i, hi⟩ := List.getElem?_of_mem hz
    have hib : i < b.zones.length := (List.getElem?_eq_some_iff.1 hi).1
    have hit : i < t.zones.length := by have q := hsm.zones.1; rw [show (mapS (turnE set) t).zones.length = t.zones.length from List.length_map _] at q; omega
    have q := hsm.zones.2 i z (mapE (turnE set) t.zones[i]) hib hi (by show (t.zones.map _)[i]? = _; rw [List.getElem?_map, List.getElem?_eq_getElem hit]; rfl)
    rw [q.2]
    show (t.zones[i].eras.map _).length ≤ 1000
    rw [List.length_map]
    exact HFT.out.eras _ (List.getElem_mem hit)⟩)
  have hal := (Below.refl W3.heap.size W3).alloc (Nat.le_refl _) (.cells #[.slice b.rA b.rules.length b.rc, .slice b.zA b.zones.length b.zc, .slice b.kA b.links.length b.kc, .slice b.hA b.shifts.length b.hc] 32)
  have HB := Lib.hid ((HB2.out.trans (hc.mono HB2.out.size)).trans (hal.mono (HB2.out.trans (hc.mono HB2.out.size)).size))
  have HS := Lib.hid ((HS2.out.below hc).below hal)
  have HGt := Lib.hid ((HGT.out.below hc).below hal)
  have HGb := Lib.hid ((hcp.srcG).below hal)
  have HXs := Lib.hid ((HX2.out.below hc HX2.out.lt).below hal (HX2.out.below hc HX2.out.lt).lt)
  have HXt := Lib.hid ((HXT.out.below hc HXT.out.lt).below hal (HXT.out.below hc HXT.out.lt).lt)
  have HXb := Lib.hid (Blk.new W3 32 #[.slice b.rA b.rules.length b.rc, .slice b.zA b.zones.length b.zc, .slice b.kA b.links.length b.kc, .slice b.hA b.shifts.length b.hc])
  clear hcp hsm hc hal HB2 HS2 HGT HX2 HXT c0 c1 c2 c3
  go_upto_region 5 with fail
  generalize (W3.alloc (.cells #[.slice b.rA b.rules.length b.rc, .slice b.zA b.zones.length b.zc, .slice b.kA b.links.length b.kc, .slice b.hA b.shifts.length b.hc] 32)) = V0 at HXs HXt HXb HB HS HGt HGb ⊢
  generalize W2.heap.size = g7 at HXt ⊢; generalize W3.heap.size = g8 at HXb ⊢
  obtain ⟨tf, htf⟩ : ∃ x, turnB f = x := ⟨_, rfl⟩
  have HTF := Lib.hid htf
  clear htf
  refine wp_region_shape [(some 23, []), (some 24, [0]), (some 25, []), (some 26, [2, 1]), (some 27, [1, 3]), (some 28, [4, 3]), (some 29, [5]), (some 30, [5]), (some 31, [5]), (some 32, [7, 8, 5, 5]), (some 33, [6, 9, 9, 5]), (some 34, [5, 10]), (some 35, [11, 10]), (some 36, [12]), (some 37, [12]), (some 38, [13, 14, 12, 12]), (some 39, [12, 15]), (some 40, [16, 15]), (some 41, [17, 17]), (some 42, [17, 18]), (some 6, [19, 18, 0, 1, 2, 3, 4, 5, 6, 7, 8, 9, 10, 11, 12, 13, 14, 15, 16, 17, 18, 19])] (fun y => { tmps := #[.string f, .agg #[.slice s.rA s.rules.length s.rc, .slice s.zA s.zones.length s.zc, .slice s.kA s.links.length s.kc, .slice s.hA s.shifts.length s.hc], .string set, undef, .pointer (some ⟨w.heap.size, 0, none⟩), undef, y 6, .pointer (some ⟨g7, 0, none⟩), .pointer (some ⟨g8, 0, none⟩), .string f, .int .i64 f.size, .bool false, .bool false, .agg #[.slice s.rA s.rules.length s.rc, .slice s.zA s.zones.length s.zc, .slice s.kA s.links.length s.kc, .slice s.hA s.shifts.length s.hc], .bool true, .bool false, .bool false, undef, .agg #[.slice s.rA s.rules.length s.rc, .slice s.zA s.zones.length s.zc, .slice s.kA s.links.length s.kc, .slice s.hA s.shifts.length s.hc], .agg #[.slice t.rA t.rules.length t.rc, .slice t.zA t.zones.length t.zc, .slice t.kA t.links.length t.kc, .slice t.hA t.shifts.length t.hc], .agg #[.slice t.rA t.rules.length t.rc, .slice t.zA t.zones.length t.zc, .slice t.kA t.links.length t.kc, .slice t.hA t.shifts.length t.hc], .string set, .agg #[.slice b.rA b.rules.length b.rc, .slice b.zA b.zones.length b.zc, .slice b.kA b.links.length b.kc, .slice b.hA b.shifts.length b.hc], y 23, y 24, y 25, y 26, y 27, y 28, y 29, y 30, y 31, y 32, y 33, y 34, y 35, y 36, y 37, y 38, y 39, y 40, y 41, y 42], defers := [] }) (fun k => if k = 6 then .bool false else undef) (fun j => j == 9) [.string f, .string tf, .string f, .string tf, .bool true, .bool true, Value.agg #[.slice b.rA b.rules.length b.rc, .slice b.zA b.zones.length b.zc, .slice b.kA b.links.length b.kc, .slice b.hA b.shifts.length b.hc], Value.agg #[.slice s.rA s.rules.length s.rc, .slice s.zA s.zones.length s.zc, .slice s.kA s.links.length s.kc, .slice s.hA s.shifts.length s.hc], .string set, undef, .bool true, .bool true, .bool true, Value.agg #[.slice t.rA t.rules.length t.rc, .slice t.zA t.zones.length t.zc, .slice t.kA t.links.length t.kc, .slice t.hA t.shifts.length t.hc], Value.agg #[.slice s.rA s.rules.length s.rc, .slice s.zA s.zones.length s.zc, .slice s.kA s.links.length s.kc, .slice s.hA s.shifts.length s.hc], .bool true, .bool true, .bool true, .bool true, .bool true, .bool true] (fun j y W => match j with | 9 => ∃ r : SV, y 32 = Value.agg #[.slice r.rA r.rules.length r.rc, .slice r.zA r.zones.length r.zc, .slice r.kA r.links.length r.kc, .slice r.hA r.shifts.length r.hc] ∧ SrcG W r ∧ sSame14 r (mapS (turnE set) s) | _ => True) (fun j => match j with | 9 => [32] | _ => []) (fun W W' => Below W.heap.size W W') (fun W => Below V0.heap.size V0 W) (by kernel_rfl) (by kernel_rfl) (by decide +kernel) rfl (Below.refl _ _).drew ?hput5 ?hloc5 ?hmono5 ?hstep5 ?hdone5
  case hput5 =>
    intro d hd y v
    simp only [List.filterMap_cons, List.filterMap_nil, List.mem_cons, List.not_mem_nil, or_false] at hd
    rcases hd with rfl | rfl | rfl | rfl | rfl | rfl | rfl | rfl | rfl | rfl | rfl | rfl | rfl | rfl | rfl | rfl | rfl | rfl | rfl | rfl | rfl
    all_goals rfl
  case hloc5 =>
    intro j hj y y' W hk hx
    have hj' : j = 9 := by simpa [or_assoc] using hj
    rcases hj' with rfl
    · simp only [List.forall_mem_cons, List.not_mem_nil, false_imp_iff, implies_true, and_true] at hk
      show _
      simpa only [hk] using hx
  case hmono5 =>
    intro j hj hlast y W W' hg hx
    have hj' : j = 9 := by simpa [or_assoc] using hj
    rcases hj' with rfl
    · obtain ⟨r, h1, h2, h3⟩ := hx; exact ⟨r, h1, h2.below hg, h3⟩
  case hdone5 =>
    intro y5 W5 hS hd
    have hfin := HB.out.trans (hS.mono HB.out.size)
    have e6 : y5 6 = .bool true := (hd 20 (by decide)).val rfl rfl
    clear hd
    rw [e6]
    go_wp2_with fail
    go_ret
    exact ⟨rfl, hfin⟩
  case hstep5 =>
    refine StepsOk.cons (StepOk.known rfl fun y W hS hd K' hK => ?_) ?_
    · skip
      clear hd
      go_simp
      exact hK.out _ _ rfl (Below.refl _ _) hS
    refine StepsOk.cons (StepOk.known rfl fun y W hS hd K' hK => ?_) ?_
    · skip
      have e23 : y 23 = .string f := (hd 0 rfl).val rfl rfl
      clear hd
      go_simp
      refine (tformat_any f W (by have := HFL.out; omega) (HV.out.below (HB.out.trans (hS.mono HB.out.size)))).mono ?_
      rintro e W' ⟨rfl, hc⟩
      rw [HTF.out]
      go_wp2_with fail
      exact hK.out _ _ (by first | rfl | (simp only [e23]; done) | (simp only [e23]; rfl)) hc (hS.trans (hc.mono hS.size))
    refine StepsOk.cons (StepOk.known rfl fun y W hS hd K' hK => ?_) ?_
    · skip
      clear hd
      go_simp
      exact hK.out _ _ rfl (Below.refl _ _) hS
    refine StepsOk.cons (StepOk.known rfl fun y W hS hd K' hK => ?_) ?_
    · skip
      have e25 : y 25 = .string f := (hd 2 rfl).val rfl rfl
      clear hd
      go_simp
      refine (rtformat_any f W (by have := HFL.out; omega)).mono ?_
      rintro e W' ⟨rfl, hc⟩
      rw [HTF.out]
      go_wp2_with fail
      exact hK.out _ _ (by first | rfl | (simp only [e25]; done) | (simp only [e25]; rfl)) hc (hS.trans (hc.mono hS.size))
    refine StepsOk.cons (StepOk.known rfl fun y W hS hd K' hK => ?_) ?_
    · skip
      have e24 : y 24 = .string tf := (hd 1 rfl).val rfl rfl
      have e26 : y 26 = .string tf := (hd 3 rfl).val rfl rfl
      clear hd
      go_simp
      exact hK.out _ _ (by first | rfl | (simp only [e24, e26]; done) | (simp only [e24, e26]; rfl)) (Below.refl _ _) hS
    refine StepsOk.cons (StepOk.known rfl fun y W hS hd K' hK => ?_) ?_
    · skip
      have e27 : y 27 = .bool true := (hd 4 rfl).val rfl rfl
      clear hd
      go_simp
      exact hK.out _ _ (by first | rfl | (simp only [e27]; done) | (simp only [e27]; rfl)) (Below.refl _ _) hS
    refine StepsOk.cons (StepOk.known rfl fun y W hS hd K' hK => ?_) ?_
    · skip
      have e28 : y 28 = .bool true := (hd 5 rfl).val rfl rfl
      clear hd
      have hz := HXb.out.below hS HXb.out.lt
      have z0 := (hz.cell 0).trans rfl
      have z1 := (hz.cell 1).trans rfl
      have z2 := (hz.cell 2).trans rfl
      have z3 := (hz.cell 3).trans rfl
      clear hz
      go_simp
      exact hK.out _ _ (by first | rfl | (simp only [e28]; done) | (simp only [e28]; rfl)) (Below.refl _ _) hS
    refine StepsOk.cons (StepOk.known rfl fun y W hS hd K' hK => ?_) ?_
    · skip
      have e28 : y 28 = .bool true := (hd 5 rfl).val rfl rfl
      clear hd
      have hz := HXs.out.below hS HXs.out.lt
      have z0 := (hz.cell 0).trans rfl
      have z1 := (hz.cell 1).trans rfl
      have z2 := (hz.cell 2).trans rfl
      have z3 := (hz.cell 3).trans rfl
      clear hz
      go_simp
      exact hK.out _ _ (by first | rfl | (simp only [e28]; done) | (simp only [e28]; rfl)) (Below.refl _ _) hS
    refine StepsOk.cons (StepOk.known rfl fun y W hS hd K' hK => ?_) ?_
    · skip
      have e28 : y 28 = .bool true := (hd 5 rfl).val rfl rfl
      clear hd
      go_simp
      exact hK.out _ _ (by first | rfl | (simp only [e28]; done) | (simp only [e28]; rfl)) (Below.refl _ _) hS
    refine StepsOk.cons (StepOk.other rfl fun y W hS hd K' hK => ?_) ?_
    · skip
      have e28 : y 28 = .bool true := (hd 5 rfl).val rfl rfl
      have e30 : y 30 = Value.agg #[.slice s.rA s.rules.length s.rc, .slice s.zA s.zones.length s.zc, .slice s.kA s.links.length s.kc, .slice s.hA s.shifts.length s.hc] := (hd 7 rfl).val rfl rfl
      have e31 : y 31 = .string set := (hd 8 rfl).val rfl rfl
      clear hd
      go_simp
      refine (rteras_any s set W (HS.out.below hS) HF.out).mono ?_
      rintro e W' ⟨r, rfl, hG, hsm, hc⟩
      go_wp2_with fail
      exact hK.out _ _ _ (by first | rfl | (simp only [e28, e30, e31]; done) | (simp only [e28, e30, e31]; rfl)) hc (hS.trans (hc.mono hS.size)) (show ∃ r : SV, _ = Value.agg #[.slice r.rA r.rules.length r.rc, .slice r.zA r.zones.length r.zc, .slice r.kA r.links.length r.kc, .slice r.hA r.shifts.length r.hc] ∧ SrcG _ r ∧ sSame14 r (mapS (turnE set) s) from ⟨r, rfl, hG, hsm⟩)
    refine StepsOk.cons (StepOk.known rfl fun y W hS hd K' hK => ?_) ?_
    · skip
      have e28 : y 28 = .bool true := (hd 5 rfl).val rfl rfl
      have e29 : y 29 = Value.agg #[.slice b.rA b.rules.length b.rc, .slice b.zA b.zones.length b.zc, .slice b.kA b.links.length b.kc, .slice b.hA b.shifts.length b.hc] := (hd 6 rfl).val rfl rfl
      have x9 : (fun (y : Nat → Value) (W : World) => ∃ r : SV, y 32 = Value.agg #[.slice r.rA r.rules.length r.rc, .slice r.zA r.zones.length r.zc, .slice r.kA r.links.length r.kc, .slice r.hA r.shifts.length r.hc] ∧ SrcG W r ∧ sSame14 r (mapS (turnE set) s)) y W := (hd 9 rfl).ex rfl
      clear hd
      obtain ⟨r, h1, hq, hs⟩ := x9
      go_simp
      refine (same13_yes29 (HSM.out.trans hs.symm) HFB.out W (HGb.out.below hS).src hq.src).mono ?_
      rintro e W' ⟨rfl, hc⟩
      go_wp2_with fail
      exact hK.out _ _ (by first | rfl | (simp only [h1, e28, e29]; done) | (simp only [h1, e28, e29]; rfl)) hc (hS.trans (hc.mono hS.size))
    refine StepsOk.cons (StepOk.known rfl fun y W hS hd K' hK => ?_) ?_
    · skip
      have e28 : y 28 = .bool true := (hd 5 rfl).val rfl rfl
      have e33 : y 33 = .bool true := (hd 10 rfl).val rfl rfl
      clear hd
      go_simp
      exact hK.out _ _ (by first | rfl | (simp only [e28, e33]; done) | (simp only [e28, e33]; rfl)) (Below.refl _ _) hS
    refine StepsOk.cons (StepOk.known rfl fun y W hS hd K' hK => ?_) ?_
    · skip
      have e34 : y 34 = .bool true := (hd 11 rfl).val rfl rfl
      clear hd
      go_simp
      exact hK.out _ _ (by first | rfl | (simp only [e34]; done) | (simp only [e34]; rfl)) (Below.refl _ _) hS
    refine StepsOk.cons (StepOk.known rfl fun y W hS hd K' hK => ?_) ?_
    · skip
      have e35 : y 35 = .bool true := (hd 12 rfl).val rfl rfl
      clear hd
      have hz := HXt.out.below hS HXt.out.lt
      have z0 := (hz.cell 0).trans rfl
      have z1 := (hz.cell 1).trans rfl
      have z2 := (hz.cell 2).trans rfl
      have z3 := (hz.cell 3).trans rfl
      clear hz
      go_simp
      exact hK.out _ _ (by first | rfl | (simp only [e35]; done) | (simp only [e35]; rfl)) (Below.refl _ _) hS
    refine StepsOk.cons (StepOk.known rfl fun y W hS hd K' hK => ?_) ?_
    · skip
      have e35 : y 35 = .bool true := (hd 12 rfl).val rfl rfl
      clear hd
      have hz := HXs.out.below hS HXs.out.lt
      have z0 := (hz.cell 0).trans rfl
      have z1 := (hz.cell 1).trans rfl
      have z2 := (hz.cell 2).trans rfl
      have z3 := (hz.cell 3).trans rfl
      clear hz
      go_simp
      exact hK.out _ _ (by first | rfl | (simp only [e35]; done) | (simp only [e35]; rfl)) (Below.refl _ _) hS
    refine StepsOk.cons (StepOk.known rfl fun y W hS hd K' hK => ?_) ?_
    · skip
      have e35 : y 35 = .bool true := (hd 12 rfl).val rfl rfl
      have e36 : y 36 = Value.agg #[.slice t.rA t.rules.length t.rc, .slice t.zA t.zones.length t.zc, .slice t.kA t.links.length t.kc, .slice t.hA t.shifts.length t.hc] := (hd 13 rfl).val rfl rfl
      have e37 : y 37 = Value.agg #[.slice s.rA s.rules.length s.rc, .slice s.zA s.zones.length s.zc, .slice s.kA s.links.length s.kc, .slice s.hA s.shifts.length s.hc] := (hd 14 rfl).val rfl rfl
      clear hd
      go_simp
      refine (same13_yes' HST.out HFT.out W (HGt.out.below hS).src (HS.out.below hS)).mono ?_
      rintro e W' ⟨rfl, hc⟩
      go_wp2_with fail
      exact hK.out _ _ (by first | rfl | (simp only [e35, e36, e37]; done) | (simp only [e35, e36, e37]; rfl)) hc (hS.trans (hc.mono hS.size))
    refine StepsOk.cons (StepOk.known rfl fun y W hS hd K' hK => ?_) ?_
    · skip
      have e35 : y 35 = .bool true := (hd 12 rfl).val rfl rfl
      have e38 : y 38 = .bool true := (hd 15 rfl).val rfl rfl
      clear hd
      go_simp
      exact hK.out _ _ (by first | rfl | (simp only [e35, e38]; done) | (simp only [e35, e38]; rfl)) (Below.refl _ _) hS
    refine StepsOk.cons (StepOk.known rfl fun y W hS hd K' hK => ?_) ?_
    · skip
      have e39 : y 39 = .bool true := (hd 16 rfl).val rfl rfl
      clear hd
      go_simp
      exact hK.out _ _ (by first | rfl | (simp only [e39]; done) | (simp only [e39]; rfl)) (Below.refl _ _) hS
    refine StepsOk.cons (StepOk.known rfl fun y W hS hd K' hK => ?_) ?_
    · skip
      have e40 : y 40 = .bool true := (hd 17 rfl).val rfl rfl
      clear hd
      go_simp
      refine (works29_any W (HV.out.below (HB.out.trans (hS.mono HB.out.size)))).mono ?_
      rintro e W' ⟨rfl, hc⟩
      go_wp2_with fail
      exact hK.out _ _ (by first | rfl | (simp only [e40]; done) | (simp only [e40]; rfl)) hc (hS.trans (hc.mono hS.size))
    refine StepsOk.cons (StepOk.known rfl fun y W hS hd K' hK => ?_) ?_
    · skip
      have e40 : y 40 = .bool true := (hd 17 rfl).val rfl rfl
      have e41 : y 41 = .bool true := (hd 18 rfl).val rfl rfl
      clear hd
      go_simp
      exact hK.out _ _ (by first | rfl | (simp only [e40, e41]; done) | (simp only [e40, e41]; rfl)) (Below.refl _ _) hS
    refine StepsOk.cons (StepOk.known rfl fun y W hS hd K' hK => ?_) ?_
    · skip
      have e42 : y 42 = .bool true := (hd 19 rfl).val rfl rfl
      clear hd
      go_simp
      exact hK.out _ _ (by first | rfl | (simp only [e42]; done) | (simp only [e42]; rfl)) (Below.refl _ _) hS
    exact StepsOk.nil
end Go.Proofs.YtlideagcmhlkeaaDoor

/- TurnSources: for every input whose arguments hold together at most 1048576 values and letters the law returns true, and each argument reads as before. The listed package-level variables read as listed; the card ties them to the program's text. -/
namespace Go.Proofs.YtlideagcmhlkeaaDoor.lawTurnSources
open Go.ChangeShapes Go.WideShapes Go.ChangeAt Go.RowKit Go.Joins
open Go.ChangeMaps (open_string shut_string)
set_option linter.unusedVariables false
set_option linter.unusedSimpArgs false

theorem laidOut : laidOutB Tryd.prog = true := by kernel_rfl
theorem own : ownKnob Tryd.prog.godebug = none := by kernel_rfl
theorem door_met (os : Os) (args : Array Value) : laidMetH Tryd.prog Rows.turnSourcesUptoRow.laid ((World.doorLaid Tryd.prog 400 os).forCall (fun _ _ => 0) ⟨#[], args, []⟩).memory :=
  laidMetH_of_parts3 (fuel := 8) (laidMet_of_run' 8 (by kernel_rfl) (by kernel_rfl)) (by kernel_rfl) (by kernel_rfl)
theorem reads (os : Os) {H : Type} (enc : TypeId × Value → H) : ∃ places, DataW.whole enc Tryd.prog ((World.doorLaid Tryd.prog 400 os).forCall (fun _ _ => 0) ⟨#[], #[.string ⟨#[]⟩, .agg #[.slice none 0 0, .slice none 0 0, .slice none 0 0, .slice none 0 0], .string ⟨#[]⟩], []⟩).memory Tryd.f7.params.toList Rows.turnSourcesSpec.vars false (#[.string ⟨#[]⟩, .agg #[.slice none 0 0, .slice none 0 0, .slice none 0 0, .slice none 0 0], .string ⟨#[]⟩] : Array Value).toList 8 = some ([.lit (.string []), .agg [.nil, .nil, .nil, .nil], .lit (.string [])], [], places) :=
  ⟨[], by kernel_rfl⟩
set_option maxRecDepth 100000 in
theorem lifted (os : Os) (started : os.Started) (H : Type) (enc : TypeId × Value → H) (F : Stop.Interp) :
    ReturnsInHanded {} Tryd.checked os 7 .any ((Rows.OpenSpec.upto Rows.turnSourcesSpec).preRow enc Tryd.prog Tryd.f7 Rows.turnSourcesUptoRow.domain false Rows.turnSourcesUptoRow.laid)
      (((Rows.OpenSpec.upto Rows.turnSourcesSpec).at F).post enc Tryd.prog Tryd.f7 false true false false) := by
  obtain ⟨places, hx⟩ := reads os enc
  refine returnsInHanded_of_row (C := Tryd.checked) (s := Rows.OpenSpec.upto Rows.turnSourcesSpec) own started (by kernel_rfl) Tryd.func7
    (witness_row_shaped (enc := enc) (C := Tryd.checked) (os := os) false (World.doorLaid Tryd.prog 400 os) #[.string ⟨#[]⟩, .agg #[.slice none 0 0, .slice none 0 0, .slice none 0 0, .slice none 0 0], .string ⟨#[]⟩] rfl (World.shaped_of_RefB (by kernel_rfl) (by kernel_rfl)) (by kernel_rfl)
      (OpenSpec.preRow_of_cond 8 hx (by kernel_rfl) (fun k hk => by cases hk; kernel_rfl) (by kernel_rfl) (door_met os _))) ?_
  intro W base args ds gs before hval0 hW _ hcond _ hL hsh _
  have hval : ∀ (j : Nat) t v, Tryd.f7.params[j]? = some t → args[j]? = some v → Value.okWide Tryd.prog W .any base t v := hval0
  have hbk0 : Rows.uptoSmall H (ds ++ gs) = true := hcond _ rfl
  have hW' := hW
  obtain ⟨p, q, hA0, hV, rfl, hfz, hnd⟩ := hW
  have hA : DataW.TrodAll enc Tryd.prog W 0 (fun _ => true) true Tryd.f7.params.toList args.toList ds p := hA0
  rw [Tryd.params7] at hA hval
  obtain ⟨v0, vs0, d0, ds0, p0, q0, hargs, rfl, rfl, h0, r0⟩ := trodAll_cons hA
  obtain ⟨v1, vs1, d1, ds1, p1, q1, rfl, rfl, rfl, h1, r1⟩ := trodAll_cons r0
  obtain ⟨v2, vs2, d2, ds2, p2, q2, rfl, rfl, rfl, h2, r2⟩ := trodAll_cons r1
  obtain ⟨rfl, rfl, rfl⟩ := trodAll_nil r2
  obtain rfl : args = #[v0, v1, v2] := by cases args; simp_all
  obtain ⟨rfl, rfl⟩ := trodVars_none hV
  have hbk := of_decide_eq_true hbk0
  simp only [List.cons_append, List.nil_append, List.append_nil, Rows.uptoBulkAll] at hbk
  have hB0 : Rows.uptoBulk d0 ≤ 1048576 := by omega
  have hB1 : Rows.uptoBulk d1 ≤ 1048576 := by omega
  have hB2 : Rows.uptoBulk d2 ≤ 1048576 := by omega
  clear hbk hbk0 hcond
  have h0k := h0
  have h1k := h1
  have h2k := h2
  have hlt : ∀ x ∈ (p0 ++ (p1 ++ (p2 ++ []))) ++ [], x.block < W.heap.size := fun x hx => by simpa using hW'.lt x hx
  have hvars := vars21_of_laid hL hsh
  have hk0 : ∀ W', Below W.heap.size W W' → DataW.Trod enc Tryd.prog W' 0 (fun b => decide (b < W.heap.size)) true 9 v0 d0 p0 := fun W' bel => Below.trod laidOut (by kernel_rfl) (of_decide_eq_true (by kernel_rfl)) h0k bel (fun x hx => hlt x (by simp [hx]))
  have hk1 : ∀ W', Below W.heap.size W W' → DataW.Trod enc Tryd.prog W' 0 (fun b => decide (b < W.heap.size)) true 32 v1 d1 p1 := fun W' bel => Below.trod laidOut (by kernel_rfl) (of_decide_eq_true (by kernel_rfl)) h1k bel (fun x hx => hlt x (by simp [hx]))
  have hk2 : ∀ W', Below W.heap.size W W' → DataW.Trod enc Tryd.prog W' 0 (fun b => decide (b < W.heap.size)) true 9 v2 d2 p2 := fun W' bel => Below.trod laidOut (by kernel_rfl) (of_decide_eq_true (by kernel_rfl)) h2k bel (fun x hx => hlt x (by simp [hx]))
  obtain ⟨a0, rfl, rfl, rfl, w0⟩ := open_string Tryd.underlying9 (hval 0 9 v0 rfl rfl) h0
  obtain ⟨⟨l1⟩, rfl, hz1⟩ := okWide_struct Tryd.underlying32 (hval 1 32 v1 rfl rfl)
  obtain ⟨f1, hf1⟩ := h1
  have hl1 : l1.length = 4 := hz1.trans (by kernel_rfl)
  obtain ⟨s1, hcs1, hS1, hZ1, hF1⟩ := open_sourceB hl1 hf1 hB1
  subst hcs1
  obtain ⟨a2, rfl, rfl, rfl, w2⟩ := open_string Tryd.underlying9 (hval 2 9 v2 rfl rfl) h2
  clear hA0 hval0
  refine (walkTurnSources a0 s1 a2 W hS1 hZ1 hF1 w0 hvars).mono fun e W' ⟨he, bel⟩ => ?_
  subst he
  exact ⟨_, rfl, _, _, _, [], _, [], hW', trodAll_mk1 (shut_bool Tryd.underlying4 _), trodAll_cons_mk (hk0 W' bel) (trodAll_cons_mk (hk1 W' bel) (trodAll_cons_mk (hk2 W' bel) (trodAll_mk0))), rfl, World.keptBut_mono (fun p hp => ⟨hp, Or.inr (by simpa using hp)⟩) (bel.frame _), fun h => by cases h⟩

theorem said : Rows.TurnSourcesUptoSaid :=
  OpenClaim.holds_of_cond 7 Tryd.f7 rfl rfl rfl rfl rfl rfl rfl ⟨rfl, rfl, rfl, rfl, rfl⟩ rfl rfl rfl rfl rfl (by kernel_rfl) Tryd.func7 (by kernel_rfl)
    (of_decide_eq_true (by kernel_rfl)) (by unfold Func.isWrapper; first | (rw [if_pos (by decide +kernel)]; kernel_rfl) | (rw [if_neg (by decide +kernel)]; exact ⟨rfl, rfl⟩))
    (fun os started H enc _ F => by rw [OpenClaim.pre_eq_preRow]; exact lifted os started H enc F)

/-- No parameter wants a stand-in; the program's own looks are off: what the card asks. -/
theorem plain (f : FuncId) (fn : Func) (hf : Tryd.pinned.checked.prog.funcNamed Rows.turnSourcesUptoRow.func = some f) (hfn : Tryd.pinned.checked.prog.funcs[f]? = some fn) :
    true = Tryd.pinned.checked.prog.looks [] ∧ ∀ (j : Nat) t, fn.params[j]? = some t → Tryd.pinned.checked.prog.wantsStandIn t = false := by
  obtain rfl : f = 7 := Option.some.inj ((show Tryd.prog.funcNamed Rows.turnSourcesUptoRow.func = some 7 by kernel_rfl).symm.trans hf) |>.symm
  obtain rfl : fn = Tryd.f7 := (Option.some.inj (Tryd.func7.symm.trans hfn)).symm
  refine ⟨by kernel_rfl, fun j t ht => ?_⟩
  rw [Tryd.params7] at ht
  have hm := Array.mem_of_getElem? ht
  have hm2 : t = 9 ∨ t = 32 ∨ t = 9 := by simpa using hm
  rcases hm2 with rfl | rfl | rfl
  · exact (show Tryd.prog.wantsStandIn 9 = false by kernel_rfl)
  · exact (show Tryd.prog.wantsStandIn 32 = false by kernel_rfl)
  · exact (show Tryd.prog.wantsStandIn 9 = false by kernel_rfl)
/-- THE CARD -/
theorem card : Rows.TurnSourcesUptoCardSaid :=
  Claim7.holds_tied_plain_at .later [] _ _ _ _ said (fun _ h => by cases h) (by kernel_rfl) (fun _ h => by cases h) turnSourcesUpto_row_tie rfl ⟨rfl, rfl⟩ (by kernel_rfl) rfl plain (by kernel_rfl)
end Go.Proofs.YtlideagcmhlkeaaDoor.lawTurnSources
