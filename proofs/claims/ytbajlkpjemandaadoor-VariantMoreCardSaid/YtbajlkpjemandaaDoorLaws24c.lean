/- The walk of the law VariantMore (chapter 24). -/
import Derived.Test.YtbajlkpjemandaaDoorWork24
import Derived.Test.YtbajlkpjemandaaDoorFew24
import Derived.Test.YtbajlkpjemandaaDoorOpen24
import Derived.Test.YtbajlkpjemandaaDoorPlain24m
import Derived.OpenShut
import Derived.IntWalk
namespace Go.Proofs.YtbajlkpjemandaaDoor
open Go.RowKit Go.Lib
set_option linter.unusedVariables false

set_option maxRecDepth 100000 in
set_option maxHeartbeats 16000000 in
theorem walkVariantMore (s : SV) (w : World) (hS : SrcIn w s) (hz : Lens s) (hv : Vars24 w) :
    Calls Tryd.prog 12 #[.agg s.agg] w fun e w' => e = .returned (.bool true) ∧ Below w.heap.size w w' := by
  have cF : Hid (∀ W, Below w.heap.size w W → Calls Tryd.prog 35 #[.agg s.agg] W fun e w' => (e = .returned (.bool false) ∨ (e = .returned (.bool true) ∧ Few24 s)) ∧ Below W.heap.size W w') := fun W h => few24_any s W (hS.below h) hz
  have cC : Hid (SmallS s → ∀ k W, Below w.heap.size w W → Calls Tryd.prog 37 #[.agg s.agg, .int .i64 k] W fun e w' => e = .returned (.tuple #[.agg #[.int .i64 (P24.check s k).1.1, .int .i64 (P24.check s k).1.2.1, .int .i64 (P24.check s k).1.2.2], .int .i64 (P24.check s k).2]) ∧ Below W.heap.size W w') := fun h k W hb => vcheck_any s k W (hS.below hb) h (hv.below hb)
  have e1 := P24.err12 (.inl rfl) s
  have e2 := P24.err12 (.inr rfl) s
  have e3 := P24.err3 s
  have HMo := Lib.hid (fun h1 h2 => @P24.more_no s h1 h2)
  have HS := Lib.hid hS
  have HV := Lib.hid hv
  unfold Lens maxLen at hz
  obtain ⟨z1, z2, z3, z4, z5⟩ := hz
  have HZ4 := Lib.hid z4
  have hagg : s.agg = #[.slice s.rA s.rules.length s.rc, .slice s.zA s.zones.length s.zc, .slice s.kA s.links.length s.kc, .slice s.hA s.shifts.length s.hc] := rfl
  rw [hagg] at cF cC ⊢
  have i1 : (s.rules.length : Int) ≤ 9223372036854775807 := by omega
  have i2 : (s.zones.length : Int) ≤ 9223372036854775807 := by omega
  have i3 : (s.shifts.length : Int) ≤ 9223372036854775807 := by omega
  clear hagg hS z1 z2 z3 z4 z5 hv
  generalize hNR : s.rules.length = NR at i1 cF cC ⊢
  generalize hNZ : s.zones.length = NZ at i2 cF cC ⊢
  generalize s.links.length = NK at cF cC ⊢
  generalize s.shifts.length = NH at i3 e1 e2 cF cC ⊢
  generalize hzAe : s.zA = zAA at cF cC ⊢
  generalize hrAe : s.rA = rAA at cF cC ⊢
  have HNR := Lib.hid hNR
  have HNZ := Lib.hid hNZ
  have HZAe := Lib.hid hzAe
  have HRAe := Lib.hid hrAe
  have HE1 := Lib.hid e1
  have HE2 := Lib.hid e2
  have HE3 := Lib.hid e3
  clear hNR hNZ hzAe hrAe e1 e2 e3
  have hX := Blk.new w 66 #[.slice rAA NR s.rc, .slice zAA NZ s.zc, .slice s.kA NK s.kc, .slice s.hA NH s.hc]
  have hb0 := (Below.refl w.heap.size w).alloc (Nat.le_refl _) (.cells #[.slice rAA NR s.rc, .slice zAA NZ s.zc, .slice s.kA NK s.kc, .slice s.hA NH s.hc] 66)
  have x0 := (hX.cell 0).trans rfl
  have x1 := (hX.cell 1).trans rfl
  have x2 := (hX.cell 2).trans rfl
  have x3 := (hX.cell 3).trans rfl
  go_enter Tryd.func12, Tryd.ntmps12
  go_wp2_with fail
  refine (cF.out _ hb0).mono ?_
  rintro e w1 ⟨he, hc⟩
  have hX1 := hX.below hc hX.lt
  have hb1 := hb0.trans (hc.mono hb0.size)
  clear hX hb0 hc x0 x1 x2 x3 cF
  rcases he with rfl | ⟨rfl, hF⟩
  · clear hX1
    have hv9 := HV.out.below hb1
    go_wp2_with fail
    refine (works24_any _ hv9).mono ?_
    rintro e wE ⟨rfl, hc⟩
    have hb9 := hb1.trans (hc.mono hb1.size)
    go_wp2_with fail
    go_ret
    exact ⟨rfl, hb9⟩
  · have CC := Lib.hid (cC.out hF.small)
    have HFe := Lib.hid (fun z hz e he => hF.small.fmts z hz e he)
    clear cC hF
    have c1 := CC.out 1
    have e1 := HE1.out
    clear HE1
    generalize P24.check s 1 = R at c1 e1
    obtain ⟨⟨a1, b1, d1⟩, E1⟩ := R
    simp only at c1 e1
    have C1 := Lib.hid c1
    have HE1 := Lib.hid e1
    clear c1 e1
    have c2 := CC.out 2
    have e2 := HE2.out
    clear HE2
    generalize P24.check s 2 = R at c2 e2
    obtain ⟨⟨a2, b2, d2⟩, E2⟩ := R
    simp only at c2 e2
    have C2 := Lib.hid c2
    have HE2 := Lib.hid e2
    clear c2 e2
    have c3 := CC.out 3
    have e3 := HE3.out
    clear HE3
    generalize P24.check s 3 = R at c3 e3
    obtain ⟨⟨a3, b3, d3⟩, E3⟩ := R
    simp only at c3 e3
    have C3 := Lib.hid c3
    have HE3 := Lib.hid e3
    clear c3 e3
    clear CC
    have x0 := (hX1.cell 0).trans rfl
    have x1 := (hX1.cell 1).trans rfl
    have x2 := (hX1.cell 2).trans rfl
    have x3 := (hX1.cell 3).trans rfl
    go_wp2_with fail
    refine (C1.out _ hb1).mono ?_
    rintro e v1 ⟨rfl, hc⟩
    have hX2 := (hX1.below hc hX1.lt).alloc (.cells #[.int .i64 a1, .int .i64 b1, .int .i64 d1] 70)
    have hb2 := (hb1.trans (hc.mono hb1.size)).alloc (Nat.le_trans hb1.size hc.size) (.cells #[.int .i64 a1, .int .i64 b1, .int .i64 d1] 70)
    clear hX1 hb1 hc x0 x1 x2 x3 C1
    have x0 := (hX2.cell 0).trans rfl
    have x1 := (hX2.cell 1).trans rfl
    have x2 := (hX2.cell 2).trans rfl
    have x3 := (hX2.cell 3).trans rfl
    go_wp2_with fail
    refine (C2.out _ hb2).mono ?_
    rintro e v2 ⟨rfl, hc⟩
    have hX3 := (hX2.below hc hX2.lt).alloc (.cells #[.int .i64 a2, .int .i64 b2, .int .i64 d2] 70)
    have hb3 := (hb2.trans (hc.mono hb2.size)).alloc (Nat.le_trans hb2.size hc.size) (.cells #[.int .i64 a2, .int .i64 b2, .int .i64 d2] 70)
    clear hX2 hb2 hc x0 x1 x2 x3 C2
    have x0 := (hX3.cell 0).trans rfl
    have x1 := (hX3.cell 1).trans rfl
    have x2 := (hX3.cell 2).trans rfl
    have x3 := (hX3.cell 3).trans rfl
    go_wp2_with fail
    refine (C3.out _ hb3).mono ?_
    rintro e v3 ⟨rfl, hc⟩
    have hX4 := (hX3.below hc hX3.lt).alloc (.cells #[.int .i64 a3, .int .i64 b3, .int .i64 d3] 70)
    have hb4 := (hb3.trans (hc.mono hb3.size)).alloc (Nat.le_trans hb3.size hc.size) (.cells #[.int .i64 a3, .int .i64 b3, .int .i64 d3] 70)
    clear hX3 hb3 hc x0 x1 x2 x3 C3
    have x0 := (hX4.cell 0).trans rfl
    have x1 := (hX4.cell 1).trans rfl
    have x2 := (hX4.cell 2).trans rfl
    have x3 := (hX4.cell 3).trans rfl
    go_wp2_with fail
    clear x0 x1 x2 x3
    generalize v3.alloc (.cells #[.int .i64 a3, .int .i64 b3, .int .i64 d3] 70) = W0 at hX4 hb4 ⊢
    go_loopw [9, 40] (fun q i wr => ∃ (k : Nat) (v : Bool), k ≤ NR ∧ i = .int .i64 (k : Int) ∧ q = .bool v ∧ Hid (v = P24.anyNeg (s.rules.take k)) ∧ Blk wr w.heap.size 66 #[.slice rAA NR s.rc, .slice zAA NZ s.zc, .slice s.kA NK s.kc, .slice s.hA NH s.hc] ∧ Below w.heap.size w wr) (fun _ i _ => NR - (intOf i).toNat)
    case atStart => exact ⟨0, false, Nat.zero_le _, rfl, rfl, Lib.hid rfl, hX4, hb4⟩
    case round =>
      clear hX4 hb4
      obtain ⟨k, v, hk, rfl, rfl, HK, hX, hb⟩ := hrel
      by_cases hlt : k < NR
      · obtain ⟨r, hr⟩ : ∃ r, s.rules[k]? = some r := ⟨_, List.getElem?_eq_getElem (by rw [HNR.out]; exact hlt)⟩
        have hki : (k : Int) < (NR : Int) := by omega
        have x0 := (hX.cell 0).trans rfl
        obtain ⟨b, o, hA, hbl, hcc⟩ := (HS.out.below hb).rules k r hr
        have eA := HRAe.out.symm.trans hA
        subst eA
        have HN : Hid (P24.anyNeg (s.rules.take (k + 1)) = (v || decide (r.save < 0))) := Lib.hid (by unfold P24.anyNeg; rw [List.take_add_one, hr, Option.toList_some, List.any_append, HK.out]; simp [P24.anyNeg])
        have c0 : wr.cell? ⟨b, o + k * 11, none⟩ = some (.string r.name) := hcc 0 _ rfl
        have c1 : wr.cell? ⟨b, o + k * 11 + 1, none⟩ = some (.int .i64 r.frm) := hcc 1 _ rfl
        have c2 : wr.cell? ⟨b, o + k * 11 + 2, none⟩ = some (.int .i64 r.til) := hcc 2 _ rfl
        have c3 : wr.cell? ⟨b, o + k * 11 + 3, none⟩ = some (.int .i64 r.month) := hcc 3 _ rfl
        have c4 : wr.cell? ⟨b, o + k * 11 + 4, none⟩ = some (.int .i64 r.dk) := hcc 4 _ rfl
        have c5 : wr.cell? ⟨b, o + k * 11 + 5, none⟩ = some (.int .i64 r.dw) := hcc 5 _ rfl
        have c6 : wr.cell? ⟨b, o + k * 11 + 6, none⟩ = some (.int .i64 r.dd) := hcc 6 _ rfl
        have c7 : wr.cell? ⟨b, o + k * 11 + 7, none⟩ = some (.int .i64 r.asec) := hcc 7 _ rfl
        have c8 : wr.cell? ⟨b, o + k * 11 + 8, none⟩ = some (.int .i64 r.abase) := hcc 8 _ rfl
        have c9 : wr.cell? ⟨b, o + k * 11 + 9, none⟩ = some (.int .i64 r.save) := hcc 9 _ rfl
        have c10 : wr.cell? ⟨b, o + k * 11 + 10, none⟩ = some (.string r.letter) := hcc 10 _ rfl
        clear hcc hr HK hA
        obtain ⟨r0, r1, r2, r3, r4, r5, r6, r7, r8, r9, r10⟩ := r
        simp only at HN c0 c1 c2 c3 c4 c5 c6 c7 c8 c9 c10
        have hX2 := hX.alloc (.cells #[.string r0, .int .i64 r1, .int .i64 r2, .int .i64 r3, .int .i64 r4, .int .i64 r5, .int .i64 r6, .int .i64 r7, .int .i64 r8, .int .i64 r9, .string r10] 38)
        have hb2 := hb.alloc hb.size (.cells #[.string r0, .int .i64 r1, .int .i64 r2, .int .i64 r3, .int .i64 r4, .int .i64 r5, .int .i64 r6, .int .i64 r7, .int .i64 r8, .int .i64 r9, .string r10] 38)
        cases v with
        | true =>
          go_wp2_with fail
          go_roundw
          case rel => exact ⟨k + 1, true, by omega, by go_num, rfl, Lib.hid (by rw [HN.out]; rfl), hX2, hb2⟩
          case measure => simp [intOf]; omega
        | false =>
          by_cases hsv : r9 < 0
          · go_wp2_with fail
            go_roundw
            case rel => exact ⟨k + 1, true, by omega, by go_num, rfl, Lib.hid (by rw [HN.out]; simp; omega), hX2, hb2⟩
            case measure => simp [intOf]; omega
          · go_wp2_with fail
            go_roundw
            case rel => exact ⟨k + 1, false, by omega, by go_num, rfl, Lib.hid (by rw [HN.out]; simp; omega), hX2, hb2⟩
            case measure => simp [intOf]; omega
      · obtain rfl : NR = k := by omega
        have hki : ¬ (NR : Int) < (NR : Int) := by omega
        have hv : v = P24.anyNeg s.rules := by have q := HK.out; rwa [← HNR.out, List.take_length] at q
        have e1 := HE1.out
        have e2 := HE2.out
        have e3 := HE3.out
        have hmo := HMo.out
        rw [← hv] at e3
        clear HE1 HE2 HE3 HMo HK hv HNR HRAe hk hlt
        generalize P24.none? 1 s = N1 at e1 hmo
        generalize P24.none? 2 s = N2 at e2 e3 hmo
        have x0 := (hX.cell 0).trans rfl
        have x1 := (hX.cell 1).trans rfl
        have x2 := (hX.cell 2).trans rfl
        have x3 := (hX.cell 3).trans rfl
        have hcase : (N1 = true ∧ N2 = true ∧ E1 = 0 ∧ E2 = 0 ∧ NH = 0 ∧ ((v = false ∧ E3 = 0) ∨ (v = true ∧ E3 = 17))) ∨ (E1 = 17 ∧ E2 = 17 ∧ v = true ∧ E3 = 17) ∨ (E1 = 17 ∧ E2 = 17 ∧ v = false ∧ E3 = 17) ∨ (E1 = 17 ∧ E2 = 17 ∧ v = false ∧ E3 = 0 ∧ 0 < NH) ∨ (NH = 0 ∧ E1 = 0 ∧ E2 = 17 ∧ v = true ∧ E3 = 17) ∨ (NH = 0 ∧ E1 = 0 ∧ E2 = 17 ∧ v = false ∧ E3 = 17) ∨ (NH = 0 ∧ E1 = 17 ∧ E2 = 0 ∧ v = true ∧ E3 = 17) ∨ (NH = 0 ∧ E1 = 17 ∧ E2 = 0 ∧ v = false ∧ E3 = 0) := by
          by_cases hH : 0 < NH
          · cases N1 <;> cases N2 <;> cases v <;> simp [hH] at e1 e2 e3 <;> simp [e1, e2, e3, hH] <;> omega
          · obtain rfl : NH = 0 := by omega
            cases N1 <;> cases N2 <;> cases v <;> simp at e1 e2 e3 <;> simp [e1, e2, e3]
        clear e1 e2 e3
        rcases hcase with ⟨rfl, rfl, rfl, rfl, rfl, hcase⟩ | ⟨rfl, rfl, rfl, rfl⟩ | ⟨rfl, rfl, rfl, rfl⟩ | ⟨rfl, rfl, rfl, rfl, hH⟩ | ⟨rfl, rfl, rfl, rfl, rfl⟩ | ⟨rfl, rfl, rfl, rfl, rfl⟩ | ⟨rfl, rfl, rfl, rfl, rfl⟩ | ⟨rfl, rfl, rfl, rfl, rfl⟩
        · have HMo := Lib.hid (fun z (hz : z ∈ s.zones) e he => hmo rfl rfl (z := z) hz (e := e) he)
          clear hmo
          rcases hcase with ⟨rfl, rfl⟩ | ⟨rfl, rfl⟩
          · skip
            go_wp2_with fail
            rename_i wq0
            clear x0 x1 x2 x3 hki
            go_loopw [107] (fun i wr => ∃ k : Nat, k ≤ NZ ∧ i = .int .i64 (k : Int) ∧ Blk wr w.heap.size 66 #[.slice rAA NR s.rc, .slice zAA NZ s.zc, .slice s.kA NK s.kc, .slice s.hA 0 s.hc] ∧ Below w.heap.size w wr) (fun i _ => NZ - (intOf i).toNat)
            case atStart => exact ⟨0, Nat.zero_le _, rfl, hX, hb⟩
            case round =>
              clear hX hb
              obtain ⟨k, hk, rfl, hX, hb⟩ := hrel
              by_cases hlt : k < NZ
              · obtain ⟨z, hz⟩ : ∃ z, s.zones[k]? = some z := ⟨_, List.getElem?_eq_getElem (by rw [HNZ.out]; exact hlt)⟩
                have hki : (k : Int) < (NZ : Int) := by omega
                have x1 := (hX.cell 1).trans rfl
                have hzm := List.mem_of_getElem? hz
                obtain ⟨b, o, hA, hbl, hcc⟩ := (HS.out.below hb).zones k z hz
                have eA := HZAe.out.symm.trans hA
                subst eA
                have c0 : wr.cell? ⟨b, o + k * 2, none⟩ = some (.string z.name) := hcc 0 _ rfl
                have c1 : wr.cell? ⟨b, o + k * 2 + 1, none⟩ = some (.slice z.A z.eras.length z.c) := hcc 1 _ rfl
                have HEC : Hid (∀ W, Below w.heap.size w W → CellsIn 13 EV.cells W z.A z.eras) := Lib.hid fun W h => (HS.out.below h).eras z hzm
                have HFM := Lib.hid (HFe.out z hzm)
                have HM1 := Lib.hid (fun e he => HMo.out z hzm e he)
                have hne := HZ4.out z hzm
                clear hcc hA hz hzm
                obtain ⟨zn, zA', zc', zer⟩ := z
                simp only at c0 c1 HEC HFM HM1 hne
                generalize hNE : zer.length = NE at c1 hne
                have HNE := Lib.hid hNE
                have hnei : (NE : Int) ≤ 9223372036854775807 := by omega
                generalize hzAe : zA' = eAA at c1 HEC
                clear hNE hzAe hne
                have hX2 := hX.alloc (.cells #[.string zn, .slice eAA NE zc'] 87)
                have hb2 := hb.alloc hb.size (.cells #[.string zn, .slice eAA NE zc'] 87)
                clear hX hb
                go_wp2_with fail
                generalize wr.alloc (.cells #[.string zn, .slice eAA NE zc'] 87) = WZ at hX2 hb2 ⊢
                clear x1 c0 c1
                go_loopw [114] (fun i wr => ∃ m : Nat, m ≤ NE ∧ i = .int .i64 (m : Int) ∧ Blk wr w.heap.size 66 #[.slice rAA NR s.rc, .slice (some ⟨b, o, none⟩) NZ s.zc, .slice s.kA NK s.kc, .slice s.hA 0 s.hc] ∧ Below w.heap.size w wr) (fun i _ => NE - (intOf i).toNat)
                case atStart => exact ⟨0, Nat.zero_le _, rfl, hX2, hb2⟩
                case round =>
                  clear hX2 hb2
                  obtain ⟨m, hm, rfl, hX, hb⟩ := hrel
                  by_cases hlm : m < NE
                  · obtain ⟨e, he⟩ : ∃ e, zer[m]? = some e := ⟨_, List.getElem?_eq_getElem (by rw [HNE.out]; exact hlm)⟩
                    have hmi : (m : Int) < (NE : Int) := by omega
                    obtain ⟨b2, o2, hA2, hbl2, hcc2⟩ := HEC.out _ hb m e he
                    subst hA2
                    have k0 : wr.cell? ⟨b2, o2 + m * 13, none⟩ = some (.int .i64 e.off) := hcc2 0 _ rfl
                    have k1 : wr.cell? ⟨b2, o2 + m * 13 + 1, none⟩ = some (.int .i64 e.kind) := hcc2 1 _ rfl
                    have k2 : wr.cell? ⟨b2, o2 + m * 13 + 2, none⟩ = some (.int .i64 e.save) := hcc2 2 _ rfl
                    have k3 : wr.cell? ⟨b2, o2 + m * 13 + 3, none⟩ = some (.string e.set) := hcc2 3 _ rfl
                    have k4 : wr.cell? ⟨b2, o2 + m * 13 + 4, none⟩ = some (.string e.fmt) := hcc2 4 _ rfl
                    have k5 : wr.cell? ⟨b2, o2 + m * 13 + 5, none⟩ = some (.bool e.ui) := hcc2 5 _ rfl
                    have k6 : wr.cell? ⟨b2, o2 + m * 13 + 6, none⟩ = some (.int .i64 e.uy) := hcc2 6 _ rfl
                    have k7 : wr.cell? ⟨b2, o2 + m * 13 + 7, none⟩ = some (.int .i64 e.um) := hcc2 7 _ rfl
                    have k8 : wr.cell? ⟨b2, o2 + m * 13 + 8, none⟩ = some (.int .i64 e.dk) := hcc2 8 _ rfl
                    have k9 : wr.cell? ⟨b2, o2 + m * 13 + 9, none⟩ = some (.int .i64 e.dw) := hcc2 9 _ rfl
                    have k10 : wr.cell? ⟨b2, o2 + m * 13 + 10, none⟩ = some (.int .i64 e.dd) := hcc2 10 _ rfl
                    have k11 : wr.cell? ⟨b2, o2 + m * 13 + 11, none⟩ = some (.int .i64 e.asec) := hcc2 11 _ rfl
                    have k12 : wr.cell? ⟨b2, o2 + m * 13 + 12, none⟩ = some (.int .i64 e.ab) := hcc2 12 _ rfl
                    obtain ⟨hp, hq⟩ := HM1.out e (List.mem_of_getElem? he)
                    have cP : Hid (∀ W, Below w.heap.size w W → Calls Tryd.prog 20 #[.string e.fmt] W fun e' w' => e' = .returned (.tuple #[.int .i64 (P20.parse (P4.bl e.fmt)).1, .int .i64 (P20.parse (P4.bl e.fmt)).2]) ∧ Below W.heap.size W w') := fun W h => nparse_any e.fmt W (HFM.out e (List.mem_of_getElem? he)) (HV.out.below h).v21.num
                    have hq2 : (e.fmt.toList == [37, 122]) = false := by have x := eq_b e.fmt (str [37, 122]) (ne_size hq); rwa [str_toList] at x
                    clear hcc2 he hq
                    obtain ⟨f0, f1, f2, f3, f4, f5, f6, f7, f8, f9, f10, f11, f12⟩ := e
                    simp only at hp cP hq2 k0 k1 k2 k3 k4 k5 k6 k7 k8 k9 k10 k11 k12
                    generalize P20.parse (P4.bl f4) = PR at hp cP
                    obtain ⟨p1, p2⟩ := PR
                    simp only at hp cP
                    have hp2 : (p2 == 0) = false := by rw [beq_eq_false_iff_ne]; exact hp
                    have hX3 := hX.alloc (.cells #[.int .i64 f0, .int .i64 f1, .int .i64 f2, .string f3, .string f4, .bool f5, .int .i64 f6, .int .i64 f7, .int .i64 f8, .int .i64 f9, .int .i64 f10, .int .i64 f11, .int .i64 f12] 33)
                    have hb3 := hb.alloc hb.size (.cells #[.int .i64 f0, .int .i64 f1, .int .i64 f2, .string f3, .string f4, .bool f5, .int .i64 f6, .int .i64 f7, .int .i64 f8, .int .i64 f9, .int .i64 f10, .int .i64 f11, .int .i64 f12] 33)
                    have hE3 := Blk.new wr 33 #[.int .i64 f0, .int .i64 f1, .int .i64 f2, .string f3, .string f4, .bool f5, .int .i64 f6, .int .i64 f7, .int .i64 f8, .int .i64 f9, .int .i64 f10, .int .i64 f11, .int .i64 f12]
                    clear hX hb
                    go_wp2_with fail
                    refine (cP.out _ hb3).mono ?_
                    rintro e wp ⟨rfl, hc⟩
                    have hX4 := hX3.below hc hX3.lt
                    have hE4 := hE3.below hc hE3.lt
                    have hb4 := hb3.trans (hc.mono hb3.size)
                    have q4 := (hE4.cell 4).trans rfl
                    clear hX3 hE3 hb3 hc cP k0 k1 k2 k3 k4 k5 k6 k7 k8 k9 k10 k11 k12
                    go_wp2_with fail
                    go_roundw
                    case rel => exact ⟨m + 1, by omega, by go_num, hX4, hb4⟩
                    case measure => simp [intOf]; omega
                  · obtain rfl : NE = m := by omega
                    have hmi : ¬ (NE : Int) < (NE : Int) := by omega
                    clear HEC HFM HM1
                    go_wp2_with fail
                    go_roundw
                    case rel => exact ⟨k + 1, by omega, by go_num, hX, hb⟩
                    case measure => simp [intOf]; omega
              · obtain rfl : NZ = k := by omega
                have hki : ¬ (NZ : Int) < (NZ : Int) := by omega
                clear hX
                have hv9 := HV.out.below hb
                go_wp2_with fail
                refine (works24_any _ hv9).mono ?_
                rintro e wE ⟨rfl, hc⟩
                have hb9 := hb.trans (hc.mono hb.size)
                go_wp2_with fail
                go_ret
                exact ⟨rfl, hb9⟩
          · skip
            go_wp2_with fail
            rename_i wq0
            clear x0 x1 x2 x3 hki
            go_loopw [107] (fun i wr => ∃ k : Nat, k ≤ NZ ∧ i = .int .i64 (k : Int) ∧ Blk wr w.heap.size 66 #[.slice rAA NR s.rc, .slice zAA NZ s.zc, .slice s.kA NK s.kc, .slice s.hA 0 s.hc] ∧ Below w.heap.size w wr) (fun i _ => NZ - (intOf i).toNat)
            case atStart => exact ⟨0, Nat.zero_le _, rfl, hX, hb⟩
            case round =>
              clear hX hb
              obtain ⟨k, hk, rfl, hX, hb⟩ := hrel
              by_cases hlt : k < NZ
              · obtain ⟨z, hz⟩ : ∃ z, s.zones[k]? = some z := ⟨_, List.getElem?_eq_getElem (by rw [HNZ.out]; exact hlt)⟩
                have hki : (k : Int) < (NZ : Int) := by omega
                have x1 := (hX.cell 1).trans rfl
                have hzm := List.mem_of_getElem? hz
                obtain ⟨b, o, hA, hbl, hcc⟩ := (HS.out.below hb).zones k z hz
                have eA := HZAe.out.symm.trans hA
                subst eA
                have c0 : wr.cell? ⟨b, o + k * 2, none⟩ = some (.string z.name) := hcc 0 _ rfl
                have c1 : wr.cell? ⟨b, o + k * 2 + 1, none⟩ = some (.slice z.A z.eras.length z.c) := hcc 1 _ rfl
                have HEC : Hid (∀ W, Below w.heap.size w W → CellsIn 13 EV.cells W z.A z.eras) := Lib.hid fun W h => (HS.out.below h).eras z hzm
                have HFM := Lib.hid (HFe.out z hzm)
                have HM1 := Lib.hid (fun e he => HMo.out z hzm e he)
                have hne := HZ4.out z hzm
                clear hcc hA hz hzm
                obtain ⟨zn, zA', zc', zer⟩ := z
                simp only at c0 c1 HEC HFM HM1 hne
                generalize hNE : zer.length = NE at c1 hne
                have HNE := Lib.hid hNE
                have hnei : (NE : Int) ≤ 9223372036854775807 := by omega
                generalize hzAe : zA' = eAA at c1 HEC
                clear hNE hzAe hne
                have hX2 := hX.alloc (.cells #[.string zn, .slice eAA NE zc'] 87)
                have hb2 := hb.alloc hb.size (.cells #[.string zn, .slice eAA NE zc'] 87)
                clear hX hb
                go_wp2_with fail
                generalize wr.alloc (.cells #[.string zn, .slice eAA NE zc'] 87) = WZ at hX2 hb2 ⊢
                clear x1 c0 c1
                go_loopw [114] (fun i wr => ∃ m : Nat, m ≤ NE ∧ i = .int .i64 (m : Int) ∧ Blk wr w.heap.size 66 #[.slice rAA NR s.rc, .slice (some ⟨b, o, none⟩) NZ s.zc, .slice s.kA NK s.kc, .slice s.hA 0 s.hc] ∧ Below w.heap.size w wr) (fun i _ => NE - (intOf i).toNat)
                case atStart => exact ⟨0, Nat.zero_le _, rfl, hX2, hb2⟩
                case round =>
                  clear hX2 hb2
                  obtain ⟨m, hm, rfl, hX, hb⟩ := hrel
                  by_cases hlm : m < NE
                  · obtain ⟨e, he⟩ : ∃ e, zer[m]? = some e := ⟨_, List.getElem?_eq_getElem (by rw [HNE.out]; exact hlm)⟩
                    have hmi : (m : Int) < (NE : Int) := by omega
                    obtain ⟨b2, o2, hA2, hbl2, hcc2⟩ := HEC.out _ hb m e he
                    subst hA2
                    have k0 : wr.cell? ⟨b2, o2 + m * 13, none⟩ = some (.int .i64 e.off) := hcc2 0 _ rfl
                    have k1 : wr.cell? ⟨b2, o2 + m * 13 + 1, none⟩ = some (.int .i64 e.kind) := hcc2 1 _ rfl
                    have k2 : wr.cell? ⟨b2, o2 + m * 13 + 2, none⟩ = some (.int .i64 e.save) := hcc2 2 _ rfl
                    have k3 : wr.cell? ⟨b2, o2 + m * 13 + 3, none⟩ = some (.string e.set) := hcc2 3 _ rfl
                    have k4 : wr.cell? ⟨b2, o2 + m * 13 + 4, none⟩ = some (.string e.fmt) := hcc2 4 _ rfl
                    have k5 : wr.cell? ⟨b2, o2 + m * 13 + 5, none⟩ = some (.bool e.ui) := hcc2 5 _ rfl
                    have k6 : wr.cell? ⟨b2, o2 + m * 13 + 6, none⟩ = some (.int .i64 e.uy) := hcc2 6 _ rfl
                    have k7 : wr.cell? ⟨b2, o2 + m * 13 + 7, none⟩ = some (.int .i64 e.um) := hcc2 7 _ rfl
                    have k8 : wr.cell? ⟨b2, o2 + m * 13 + 8, none⟩ = some (.int .i64 e.dk) := hcc2 8 _ rfl
                    have k9 : wr.cell? ⟨b2, o2 + m * 13 + 9, none⟩ = some (.int .i64 e.dw) := hcc2 9 _ rfl
                    have k10 : wr.cell? ⟨b2, o2 + m * 13 + 10, none⟩ = some (.int .i64 e.dd) := hcc2 10 _ rfl
                    have k11 : wr.cell? ⟨b2, o2 + m * 13 + 11, none⟩ = some (.int .i64 e.asec) := hcc2 11 _ rfl
                    have k12 : wr.cell? ⟨b2, o2 + m * 13 + 12, none⟩ = some (.int .i64 e.ab) := hcc2 12 _ rfl
                    obtain ⟨hp, hq⟩ := HM1.out e (List.mem_of_getElem? he)
                    have cP : Hid (∀ W, Below w.heap.size w W → Calls Tryd.prog 20 #[.string e.fmt] W fun e' w' => e' = .returned (.tuple #[.int .i64 (P20.parse (P4.bl e.fmt)).1, .int .i64 (P20.parse (P4.bl e.fmt)).2]) ∧ Below W.heap.size W w') := fun W h => nparse_any e.fmt W (HFM.out e (List.mem_of_getElem? he)) (HV.out.below h).v21.num
                    have hq2 : (e.fmt.toList == [37, 122]) = false := by have x := eq_b e.fmt (str [37, 122]) (ne_size hq); rwa [str_toList] at x
                    clear hcc2 he hq
                    obtain ⟨f0, f1, f2, f3, f4, f5, f6, f7, f8, f9, f10, f11, f12⟩ := e
                    simp only at hp cP hq2 k0 k1 k2 k3 k4 k5 k6 k7 k8 k9 k10 k11 k12
                    generalize P20.parse (P4.bl f4) = PR at hp cP
                    obtain ⟨p1, p2⟩ := PR
                    simp only at hp cP
                    have hp2 : (p2 == 0) = false := by rw [beq_eq_false_iff_ne]; exact hp
                    have hX3 := hX.alloc (.cells #[.int .i64 f0, .int .i64 f1, .int .i64 f2, .string f3, .string f4, .bool f5, .int .i64 f6, .int .i64 f7, .int .i64 f8, .int .i64 f9, .int .i64 f10, .int .i64 f11, .int .i64 f12] 33)
                    have hb3 := hb.alloc hb.size (.cells #[.int .i64 f0, .int .i64 f1, .int .i64 f2, .string f3, .string f4, .bool f5, .int .i64 f6, .int .i64 f7, .int .i64 f8, .int .i64 f9, .int .i64 f10, .int .i64 f11, .int .i64 f12] 33)
                    have hE3 := Blk.new wr 33 #[.int .i64 f0, .int .i64 f1, .int .i64 f2, .string f3, .string f4, .bool f5, .int .i64 f6, .int .i64 f7, .int .i64 f8, .int .i64 f9, .int .i64 f10, .int .i64 f11, .int .i64 f12]
                    clear hX hb
                    go_wp2_with fail
                    refine (cP.out _ hb3).mono ?_
                    rintro e wp ⟨rfl, hc⟩
                    have hX4 := hX3.below hc hX3.lt
                    have hE4 := hE3.below hc hE3.lt
                    have hb4 := hb3.trans (hc.mono hb3.size)
                    have q4 := (hE4.cell 4).trans rfl
                    clear hX3 hE3 hb3 hc cP k0 k1 k2 k3 k4 k5 k6 k7 k8 k9 k10 k11 k12
                    go_wp2_with fail
                    go_roundw
                    case rel => exact ⟨m + 1, by omega, by go_num, hX4, hb4⟩
                    case measure => simp [intOf]; omega
                  · obtain rfl : NE = m := by omega
                    have hmi : ¬ (NE : Int) < (NE : Int) := by omega
                    clear HEC HFM HM1
                    go_wp2_with fail
                    go_roundw
                    case rel => exact ⟨k + 1, by omega, by go_num, hX, hb⟩
                    case measure => simp [intOf]; omega
              · obtain rfl : NZ = k := by omega
                have hki : ¬ (NZ : Int) < (NZ : Int) := by omega
                clear hX
                have hv9 := HV.out.below hb
                go_wp2_with fail
                refine (works24_any _ hv9).mono ?_
                rintro e wE ⟨rfl, hc⟩
                have hb9 := hb.trans (hc.mono hb.size)
                go_wp2_with fail
                go_ret
                exact ⟨rfl, hb9⟩
        · skip
          have hv9 := HV.out.below hb
          go_wp2_with fail
          refine (works24_any _ hv9).mono ?_
          rintro e wE ⟨rfl, hc⟩
          have hb9 := hb.trans (hc.mono hb.size)
          go_wp2_with fail
          go_ret
          exact ⟨rfl, hb9⟩
        · skip
          have hv9 := HV.out.below hb
          go_wp2_with fail
          refine (works24_any _ hv9).mono ?_
          rintro e wE ⟨rfl, hc⟩
          have hb9 := hb.trans (hc.mono hb.size)
          go_wp2_with fail
          go_ret
          exact ⟨rfl, hb9⟩
        · skip
          have hHi : (0 : Int) < (NH : Int) := by omega
          have hv9 := HV.out.below hb
          go_wp2_with fail
          refine (works24_any _ hv9).mono ?_
          rintro e wE ⟨rfl, hc⟩
          have hb9 := hb.trans (hc.mono hb.size)
          go_wp2_with fail
          go_ret
          exact ⟨rfl, hb9⟩
        · skip
          have hv9 := HV.out.below hb
          go_wp2_with fail
          refine (works24_any _ hv9).mono ?_
          rintro e wE ⟨rfl, hc⟩
          have hb9 := hb.trans (hc.mono hb.size)
          go_wp2_with fail
          go_ret
          exact ⟨rfl, hb9⟩
        · skip
          have hv9 := HV.out.below hb
          go_wp2_with fail
          refine (works24_any _ hv9).mono ?_
          rintro e wE ⟨rfl, hc⟩
          have hb9 := hb.trans (hc.mono hb.size)
          go_wp2_with fail
          go_ret
          exact ⟨rfl, hb9⟩
        · skip
          have hv9 := HV.out.below hb
          go_wp2_with fail
          refine (works24_any _ hv9).mono ?_
          rintro e wE ⟨rfl, hc⟩
          have hb9 := hb.trans (hc.mono hb.size)
          go_wp2_with fail
          go_ret
          exact ⟨rfl, hb9⟩
        · skip
          have hv9 := HV.out.below hb
          go_wp2_with fail
          refine (works24_any _ hv9).mono ?_
          rintro e wE ⟨rfl, hc⟩
          have hb9 := hb.trans (hc.mono hb.size)
          go_wp2_with fail
          go_ret
          exact ⟨rfl, hb9⟩

end Go.Proofs.YtbajlkpjemandaaDoor
