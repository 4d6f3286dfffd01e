/- The walk of variant.Check (chapter 24). -/
import Derived.Test.YtmhciidliicheaaDoorVar24c
namespace Go.Proofs.YtmhciidliicheaaDoor
open Go.RowKit Go.Lib
set_option linter.unusedVariables false

/-- a source that is not too large -/
structure SmallS (s : SV) : Prop where
  rules : s.rules.length ≤ 1000000
  zones : s.zones.length ≤ 1000000
  shifts : s.shifts.length ≤ 1000000
  eras : ∀ z ∈ s.zones, z.eras.length ≤ 1000000
  fmts : ∀ z ∈ s.zones, ∀ e ∈ z.eras, e.fmt.size ≤ 1000000
theorem check_out {s : SV} {n : Int} (h : P24.isForm n = false) : P24.check s n = ((0, 0, 0), 2) := by unfold P24.check; rw [if_pos h]
theorem check_rule {s : SV} {n : Int} (h : P24.isForm n = true) (hf : 0 ≤ P24.first (P24.negR n) s.rules) : P24.check s n = ((1, P24.first (P24.negR n) s.rules, 0), 17) := by unfold P24.check; rw [if_neg (by rw [h]; decide), if_pos hf]
theorem check_zone {s : SV} {n i k : Int} (h : P24.isForm n = true) (hf : P24.first (P24.negR n) s.rules < 0) (hz : P24.zb n s.zones 0 = some (i, k)) : P24.check s n = ((2, i, k), 17) := by unfold P24.check; rw [if_neg (by rw [h]; decide), if_neg (by omega), hz]
theorem check_none {s : SV} {n : Int} (h : P24.isForm n = true) (hf : P24.first (P24.negR n) s.rules < 0) (hz : P24.zb n s.zones 0 = none) : P24.check s n = if 0 < s.shifts.length ∧ P24.shift n = false then ((4, 0, 0), 17) else ((0, 0, 0), 0) := by unfold P24.check; rw [if_neg (by rw [h]; decide), if_neg (by omega), hz]

set_option maxRecDepth 100000 in
set_option maxHeartbeats 16000000 in
theorem vcheck_any (s : SV) (n : Int) (w : World) (hS : SrcIn w s) (hz : SmallS s) (hv : Vars24 w) :
    Calls Tryd.prog 27 #[.agg s.agg, .int .i64 n] w fun e w' => e = .returned (.tuple #[.agg #[.int .i64 (P24.check s n).1.1, .int .i64 (P24.check s n).1.2.1, .int .i64 (P24.check s n).1.2.2], .int .i64 (P24.check s n).2]) ∧ Below w.heap.size w w' := by
  have hmf : ∀ (fn : Fn) (first cap : Array Value) (w : World), (Instr.makeFunc fn first cap).run Tryd.prog w = .ok (.func fn first cap) w := fun _ _ _ _ => rfl
  obtain ⟨R, hR⟩ : ∃ R, P24.check s n = R := ⟨_, rfl⟩
  rw [hR]
  have HR := Lib.hid hR
  clear hR
  have cO : Hid (∀ W, Vars24 W → Calls Tryd.prog 66 #[.int .i64 n] W fun e w' => e = .returned (.tuple #[.agg #[.string (str (P24.word n)), .bool (P24.neg n), .bool (P24.made n), .bool (P24.num n), .bool (P24.shift n)], .bool (P24.isForm n)]) ∧ Below W.heap.size W w') := fun W h => of24_any n W h
  have cR : Hid (∀ B W, CellsIn 11 RV.cells W s.rA s.rules → Blk W B 136 #[.string (str (P24.word n)), .bool (P24.neg n), .bool (P24.made n), .bool (P24.num n), .bool (P24.shift n)] → Calls Tryd.prog 67 #[.slice s.rA s.rules.length s.rc, .func (.func 68) #[] #[.pointer (some ⟨B, 0, none⟩)]] W fun e w' => e = .returned (.int .i64 (P24.first (P24.negR n) s.rules)) ∧ Below W.heap.size W w') := fun B W h h' => idx_rules n B s.rA s.rc s.rules W hz.rules h h'
  have cE : Hid (∀ z ∈ s.zones, ∀ B W, CellsIn 13 EV.cells W z.A z.eras → Blk W B 136 #[.string (str (P24.word n)), .bool (P24.neg n), .bool (P24.made n), .bool (P24.num n), .bool (P24.shift n)] → Vars24 W → Calls Tryd.prog 70 #[.slice z.A z.eras.length z.c, .func (.func 69) #[] #[.pointer (some ⟨B, 0, none⟩)]] W fun e w' => e = .returned (.int .i64 (P24.first (P24.badV n) z.eras)) ∧ Below W.heap.size W w') := fun z hm B W h h' h'' => idx_eras n B z.A z.c z.eras W (hz.eras z hm) (hz.fmts z hm) h h' h''.v21
  have HO := Lib.hid (fun h => check_out (s := s) (n := n) h)
  have HRu := Lib.hid (fun h h' => check_rule (s := s) (n := n) h h')
  have HZo := Lib.hid (fun i k h h' h'' => check_zone (s := s) (n := n) (i := i) (k := k) h h' h'')
  have HNo := Lib.hid (fun h h' h'' => check_none (s := s) (n := n) h h' h'')
  obtain ⟨rl, zl, hl2, _, _⟩ := hz
  have hrl : (s.rules.length : Int) ≤ 1000000 := by omega
  have hzl : (s.zones.length : Int) ≤ 1000000 := by omega
  have hhl : (s.shifts.length : Int) ≤ 1000000 := by omega
  have HS := Lib.hid hS
  have HZn := Lib.hid (show ∃ zs, zs = s.zones from ⟨_, rfl⟩)
  have hagg : s.agg = #[.slice s.rA s.rules.length s.rc, .slice s.zA s.zones.length s.zc, .slice s.kA s.links.length s.kc, .slice s.hA s.shifts.length s.hc] := rfl
  rw [hagg]
  clear hagg hS rl zl hl2
  generalize hNR : s.rules.length = NR at cR hrl ⊢
  generalize hNZ : s.zones.length = NZ at hzl ⊢
  generalize hNH : s.shifts.length = NH at hhl HNo ⊢
  generalize s.links.length = NK
  generalize hzAe : s.zA = zAA
  have HZAe := Lib.hid hzAe
  clear hzAe
  have HNZ := Lib.hid hNZ
  clear hNR hNZ hNH
  generalize hwd : str (P24.word n) = wd at cO cR cE
  generalize P24.neg n = b1 at cO cR cE
  generalize P24.made n = b2 at cO cR cE
  generalize P24.num n = b3 at cO cR cE
  generalize P24.shift n = b4 at cO cR cE HNo
  generalize P24.isForm n = fo at cO HO HRu HZo HNo
  generalize hFR : P24.first (P24.negR n) s.rules = FR at cR HRu HZo HNo
  have hFR1 := P24.first_ge (P24.negR n) s.rules
  rw [hFR] at hFR1
  have hFR2 : -1 ≤ FR := hFR1.1
  clear hFR hFR1 hwd
  have hX := (Blk.new w 62 #[.slice s.rA NR s.rc, .slice zAA NZ s.zc, .slice s.kA NK s.kc, .slice s.hA NH s.hc]).alloc (.cells #[.int .i64 0, .int .i64 0, .int .i64 0] 65)
  have hD := Blk.newAt (w.alloc (.cells #[.slice s.rA NR s.rc, .slice zAA NZ s.zc, .slice s.kA NK s.kc, .slice s.hA NH s.hc] 62)) (w.heap.size + 1) (by simp) 65 #[.int .i64 0, .int .i64 0, .int .i64 0]
  have hb0 := ((Below.refl w.heap.size w).alloc (Nat.le_refl _) (.cells #[.slice s.rA NR s.rc, .slice zAA NZ s.zc, .slice s.kA NK s.kc, .slice s.hA NH s.hc] 62)).alloc (by simp) (.cells #[.int .i64 0, .int .i64 0, .int .i64 0] 65)
  have hv0 := hv.below hb0
  go_enter Tryd.func27, Tryd.ntmps27
  go_wp2_with fail
  refine (cO.out _ hv0).mono ?_
  rintro e w1 ⟨rfl, hc1⟩
  have hX1 := (hX.below hc1 hX.lt).alloc (.cells #[.string wd, .bool b1, .bool b2, .bool b3, .bool b4] 136)
  have hD1 := (hD.below hc1 hD.lt).alloc (.cells #[.string wd, .bool b1, .bool b2, .bool b3, .bool b4] 136)
  have hb1 := (hb0.trans (hc1.mono hb0.size)).alloc (Nat.le_trans hb0.size hc1.size) (.cells #[.string wd, .bool b1, .bool b2, .bool b3, .bool b4] 136)
  have hV1 := Blk.new w1 136 #[.string wd, .bool b1, .bool b2, .bool b3, .bool b4]
  clear hX hD hb0 hv0 hc1 cO
  cases fo with
  | false =>
    have HG : Hid (R = ((0, 0, 0), 2)) := Lib.hid (HR.out.symm.trans (HO.out rfl))
    clear HR HO HRu HZo HNo cR cE hX1 hV1
    have d0 := (hD1.cell 0).trans rfl
    have d1 := (hD1.cell 1).trans rfl
    have d2 := (hD1.cell 2).trans rfl
    have f0 := hD1.frozen 0
    have f1 := hD1.frozen 1
    have f2 := hD1.frozen 2
    have HD := Lib.hid (((hD1.set_ 0 (.int .i64 (0))).set_ 1 (.int .i64 (0))).set_ 2 (.int .i64 (0)))
    clear hD1
    go_wp2_with fail
    have r0 := HD.out.cell 0
    have r1 := HD.out.cell 1
    have r2 := HD.out.cell 2
    exact bodyPost_ret (v := .tuple #[.agg #[.int .i64 (0), .int .i64 (0), .int .i64 (0)], .int .i64 2]) (by simp [results, Tryd.results27, go_sem, r0, r1, r2]) rfl ⟨by rw [HG.out], ((hb1.setCell (Nat.le_succ _) _).setCell (Nat.le_succ _) _).setCell (Nat.le_succ _) _⟩
  | true =>
    have hR1 := (HS.out.below hb1).rules
    have HV1 := Lib.hid hV1
    have x0 := (hX1.cell 0).trans rfl
    clear HO
    go_wp2_with fail
    refine (cR.out w1.heap.size _ hR1 HV1.out).mono ?_
    rintro e w2 ⟨rfl, hc2⟩
    have hX2 := hX1.below hc2 hX1.lt
    have hD2 := hD1.below hc2 hD1.lt
    have hV2 := HV1.out.below hc2 HV1.out.lt
    have hb2 := hb1.trans (hc2.mono hb1.size)
    clear hX1 hD1 hV1 HV1 hb1 hc2 hR1 x0 cR
    generalize w1.heap.size = BV at hV2 ⊢
    by_cases hF : 0 ≤ FR
    · have HG : Hid (R = ((1, FR, 0), 17)) := Lib.hid (HR.out.symm.trans (HRu.out (by first | rfl | trivial) hF))
      clear HR HRu HZo HNo cE hX2 hV2
      have d0 := (hD2.cell 0).trans rfl
      have d1 := (hD2.cell 1).trans rfl
      have d2 := (hD2.cell 2).trans rfl
      have f0 := hD2.frozen 0
      have f1 := hD2.frozen 1
      have f2 := hD2.frozen 2
      have HD := Lib.hid (((hD2.set_ 0 (.int .i64 (1))).set_ 1 (.int .i64 (FR))).set_ 2 (.int .i64 (0)))
      clear hD2
      go_wp2_with fail
      have r0 := HD.out.cell 0
      have r1 := HD.out.cell 1
      have r2 := HD.out.cell 2
      exact bodyPost_ret (v := .tuple #[.agg #[.int .i64 (1), .int .i64 (FR), .int .i64 (0)], .int .i64 17]) (by simp [results, Tryd.results27, go_sem, r0, r1, r2]) rfl ⟨by rw [HG.out], ((hb2.setCell (Nat.le_succ _) _).setCell (Nat.le_succ _) _).setCell (Nat.le_succ _) _⟩
    · have hF' : FR < 0 := by omega
      have HZ : Hid (∀ i k, P24.zb n s.zones 0 = some (i, k) → R = ((2, i, k), 17)) := Lib.hid fun i k h => HR.out.symm.trans (HZo.out i k (by first | rfl | trivial) hF' h)
      have HN : Hid (P24.zb n s.zones 0 = none → R = if 0 < NH ∧ b4 = false then ((4, 0, 0), 17) else ((0, 0, 0), 0)) := Lib.hid fun h => HR.out.symm.trans (HNo.out (by first | rfl | trivial) hF' h)
      clear HR HRu HZo HNo hF'
      have x1 := (hX2.cell 1).trans rfl
      go_wp2_with fail
      clear x1
      go_loopw [33] (fun i wr => ∃ k : Nat, k ≤ NZ ∧ i = .int .i64 (k : Int) ∧ Hid (P24.zb n (s.zones.drop k) (k : Int) = P24.zb n s.zones 0) ∧ Blk wr w.heap.size 62 #[.slice s.rA NR s.rc, .slice zAA NZ s.zc, .slice s.kA NK s.kc, .slice s.hA NH s.hc] ∧ Blk wr (w.heap.size + 1) 65 #[.int .i64 0, .int .i64 0, .int .i64 0] ∧ Blk wr BV 136 #[.string wd, .bool b1, .bool b2, .bool b3, .bool b4] ∧ Below w.heap.size w wr) (fun i _ => NZ - (intOf i).toNat)
      case atStart => exact ⟨0, Nat.zero_le _, rfl, Lib.hid rfl, hX2, hD2, hV2, hb2⟩
      case round =>
        clear hX2 hD2 hV2 hb2
        obtain ⟨k, hk, rfl, HK, hX, hD, hV, hb⟩ := hrel
        by_cases hlt : k < NZ
        · obtain ⟨z, hz⟩ : ∃ z, s.zones[k]? = some z := ⟨_, List.getElem?_eq_getElem (by rw [HNZ.out]; exact hlt)⟩
          have hki : (k : Int) < (NZ : Int) := by omega
          have hSr := HS.out.below hb
          have HZA := Lib.hid hSr.zones
          obtain ⟨b, o, hzA, hbl, hcc⟩ := HZA.out k z hz
          have c0 : wr.cell? ⟨b, o + k * 2, none⟩ = some (.string z.name) := hcc 0 _ rfl
          have c1 : wr.cell? ⟨b, o + k * 2 + 1, none⟩ = some (.slice z.A z.eras.length z.c) := hcc 1 _ rfl
          have hee := hSr.eras z (List.mem_of_getElem? hz)
          have cZ := cE.out z (List.mem_of_getElem? hz)
          have hskip := fun h => P24.zb_skip (n := n) hz h
          have hhit := fun h => P24.zb_hit (n := n) hz h
          have hge := (P24.first_ge (P24.badV n) z.eras).1
          generalize P24.first (P24.badV n) z.eras = FE at cZ hskip hhit hge
          obtain ⟨zn, zA', zc', zer⟩ := z
          simp only at c0 c1 cZ hee
          have HN2 := Lib.hid hee
          generalize hNE : zer.length = NE at c1 cZ
          have CZ := Lib.hid cZ
          have HH := Lib.hid (And.intro hskip hhit)
          have ezA := HZAe.out.symm.trans hzA
          subst ezA
          clear hzA
          have hX3 := hX.alloc (.cells #[.string zn, .slice zA' NE zc'] 87)
          have hD3 := hD.alloc (.cells #[.string zn, .slice zA' NE zc'] 87)
          have hV3 := hV.alloc (.cells #[.string zn, .slice zA' NE zc'] 87)
          have hb3 := hb.alloc hb.size (.cells #[.string zn, .slice zA' NE zc'] 87)
          have he3 := HN2.out.alloc (.cells #[.string zn, .slice zA' NE zc'] 87)
          have hv3 := hv.below hb3
          clear hX hD hV hb hSr hcc hee cZ hskip hhit HN2 hz hNE HZA
          go_wp2_with fail
          refine (CZ.out BV _ he3 hV3 hv3).mono ?_
          rintro e w4 ⟨rfl, hc4⟩
          have hX4 := hX3.below hc4 hX3.lt
          have hD4 := hD3.below hc4 hD3.lt
          have hV4 := hV3.below hc4 hV3.lt
          have hb4 := hb3.trans (hc4.mono hb3.size)
          clear hX3 hD3 hV3 hb3 he3 hv3 hc4 c0 c1 CZ
          by_cases hFE : 0 ≤ FE
          · have HG : Hid (R = ((2, (k : Int), FE), 17)) := Lib.hid (HZ.out k FE (HK.out.symm.trans (HH.out.2 hFE)))
            clear HZ HN HK HH hX4 hV4 cE
            have d0 := (hD4.cell 0).trans rfl
            have d1 := (hD4.cell 1).trans rfl
            have d2 := (hD4.cell 2).trans rfl
            have f0 := hD4.frozen 0
            have f1 := hD4.frozen 1
            have f2 := hD4.frozen 2
            have HD := Lib.hid (((hD4.set_ 0 (.int .i64 (2))).set_ 1 (.int .i64 ((k : Int)))).set_ 2 (.int .i64 (FE)))
            clear hD4
            go_wp2_with fail
            have r0 := HD.out.cell 0
            have r1 := HD.out.cell 1
            have r2 := HD.out.cell 2
            exact bodyPost_ret (v := .tuple #[.agg #[.int .i64 (2), .int .i64 ((k : Int)), .int .i64 (FE)], .int .i64 17]) (by simp [results, Tryd.results27, go_sem, r0, r1, r2]) rfl ⟨by rw [HG.out], ((hb4.setCell (Nat.le_succ _) _).setCell (Nat.le_succ _) _).setCell (Nat.le_succ _) _⟩
          · have HK2 : Hid (P24.zb n (s.zones.drop (k + 1)) ((k + 1 : Nat) : Int) = P24.zb n s.zones 0) := Lib.hid ((HH.out.1 (by omega)).symm.trans HK.out)
            clear HK HH
            go_wp2_with fail
            go_roundw
            case rel => exact ⟨k + 1, by omega, by go_num, HK2, hX4, hD4, hV4, hb4⟩
            case measure => simp [intOf]; omega
        · obtain rfl : k = NZ := by omega
          have hki : ¬ (k : Int) < (k : Int) := by omega
          have HN3 := Lib.hid (HN.out (HK.out.symm.trans (by rw [List.drop_of_length_le (by rw [HNZ.out]; exact Nat.le_refl _)]; rfl)))
          have x3 := (hX.cell 3).trans rfl
          have v4 := (hV.cell 4).trans rfl
          clear HZ HN HK cE hX hV
          by_cases hNH : 0 < NH
          · have hNHi : (0 : Int) < (NH : Int) := by omega
            cases b4 with
            | false =>
              have HG : Hid (R = ((4, 0, 0), 17)) := Lib.hid (HN3.out.trans (if_pos ⟨hNH, rfl⟩))
              clear HN3
              have d0 := (hD.cell 0).trans rfl
              have d1 := (hD.cell 1).trans rfl
              have d2 := (hD.cell 2).trans rfl
              have f0 := hD.frozen 0
              have f1 := hD.frozen 1
              have f2 := hD.frozen 2
              have HD := Lib.hid (((hD.set_ 0 (.int .i64 (4))).set_ 1 (.int .i64 (0))).set_ 2 (.int .i64 (0)))
              clear hD
              go_wp2_with fail
              have r0 := HD.out.cell 0
              have r1 := HD.out.cell 1
              have r2 := HD.out.cell 2
              exact bodyPost_ret (v := .tuple #[.agg #[.int .i64 (4), .int .i64 (0), .int .i64 (0)], .int .i64 17]) (by simp [results, Tryd.results27, go_sem, r0, r1, r2]) rfl ⟨by rw [HG.out], ((hb.setCell (Nat.le_succ _) _).setCell (Nat.le_succ _) _).setCell (Nat.le_succ _) _⟩
            | true =>
              have HG : Hid (R = ((0, 0, 0), 0)) := Lib.hid (HN3.out.trans (if_neg (by simp)))
              clear HN3
              have d0 := (hD.cell 0).trans rfl
              have d1 := (hD.cell 1).trans rfl
              have d2 := (hD.cell 2).trans rfl
              have f0 := hD.frozen 0
              have f1 := hD.frozen 1
              have f2 := hD.frozen 2
              have HD := Lib.hid (((hD.set_ 0 (.int .i64 (0))).set_ 1 (.int .i64 (0))).set_ 2 (.int .i64 (0)))
              clear hD
              go_wp2_with fail
              have r0 := HD.out.cell 0
              have r1 := HD.out.cell 1
              have r2 := HD.out.cell 2
              exact bodyPost_ret (v := .tuple #[.agg #[.int .i64 (0), .int .i64 (0), .int .i64 (0)], .int .i64 0]) (by simp [results, Tryd.results27, go_sem, r0, r1, r2]) rfl ⟨by rw [HG.out], ((hb.setCell (Nat.le_succ _) _).setCell (Nat.le_succ _) _).setCell (Nat.le_succ _) _⟩
          · have hNHi : ¬ (0 : Int) < (NH : Int) := by omega
            have HG : Hid (R = ((0, 0, 0), 0)) := Lib.hid (HN3.out.trans (if_neg (fun h => hNH h.1)))
            clear HN3
            have d0 := (hD.cell 0).trans rfl
            have d1 := (hD.cell 1).trans rfl
            have d2 := (hD.cell 2).trans rfl
            have f0 := hD.frozen 0
            have f1 := hD.frozen 1
            have f2 := hD.frozen 2
            have HD := Lib.hid (((hD.set_ 0 (.int .i64 (0))).set_ 1 (.int .i64 (0))).set_ 2 (.int .i64 (0)))
            clear hD
            go_wp2_with fail
            have r0 := HD.out.cell 0
            have r1 := HD.out.cell 1
            have r2 := HD.out.cell 2
            exact bodyPost_ret (v := .tuple #[.agg #[.int .i64 (0), .int .i64 (0), .int .i64 (0)], .int .i64 0]) (by simp [results, Tryd.results27, go_sem, r0, r1, r2]) rfl ⟨by rw [HG.out], ((hb.setCell (Nat.le_succ _) _).setCell (Nat.le_succ _) _).setCell (Nat.le_succ _) _⟩
end Go.Proofs.YtmhciidliicheaaDoor
