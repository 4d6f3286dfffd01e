/- The walk of the reference's Check (chapter 24). -/
import Derived.Test.YtbajlkpjemandaaDoorVar24d
namespace Go.Proofs.YtbajlkpjemandaaDoor
open Go.RowKit Go.Lib
set_option linter.unusedVariables false

theorem word_ne {n : Int} (h : n = 1 ∨ n = 2 ∨ n = 3) : 0 < (P24.word n).length := by rcases h with rfl | rfl | rfl <;> decide

set_option maxRecDepth 100000 in
set_option maxHeartbeats 16000000 in
theorem rvcheck_out (s : SV) (n : Int) (w : World) (hS : SrcIn w s) (hz : SmallS s) (h : n < 1 ∨ 4 ≤ n) :
    Calls Tryd.prog 38 #[.agg s.agg, .int .i64 n] w fun e w' => e = .returned (.tuple #[.agg #[.int .i64 (P24.check s n).1.1, .int .i64 (P24.check s n).1.2.1, .int .i64 (P24.check s n).1.2.2], .int .i64 (P24.check s n).2]) ∧ Below w.heap.size w w' := by
  obtain ⟨R, hR⟩ : ∃ R, P24.check s n = R := ⟨_, rfl⟩
  rw [hR]
  have HR := Lib.hid hR
  clear hR
  have cW := Lib.hid (fun W => rword_any n W)
  have HZm := Lib.hid hz
  obtain ⟨rl, zl, hl2, _, _⟩ := hz
  have hrl : (s.rules.length : Int) ≤ 1000000 := by omega
  have hzl : (s.zones.length : Int) ≤ 1000000 := by omega
  have hhl : (s.shifts.length : Int) ≤ 1000000 := by omega
  have HS := Lib.hid hS
  have hagg : s.agg = #[.slice s.rA s.rules.length s.rc, .slice s.zA s.zones.length s.zc, .slice s.kA s.links.length s.kc, .slice s.hA s.shifts.length s.hc] := rfl
  rw [hagg]
  clear hagg hS rl zl hl2
  have HNo := Lib.hid (fun h h' h'' => check_none (s := s) (n := n) h h' h'')
  generalize hNR : s.rules.length = NR at hrl ⊢
  generalize hNZ : s.zones.length = NZ at hzl ⊢
  generalize hNH : s.shifts.length = NH at hhl HNo ⊢
  generalize s.links.length = NK
  generalize hzAe : s.zA = zAA
  generalize hrAe : s.rA = rAA
  have HZAe := Lib.hid hzAe
  have HRAe := Lib.hid hrAe
  have HNZ := Lib.hid hNZ
  have HNR := Lib.hid hNR
  clear hNR hNZ hNH hzAe hrAe
  have hX := (Blk.new w 66 #[.slice rAA NR s.rc, .slice zAA NZ s.zc, .slice s.kA NK s.kc, .slice s.hA NH s.hc]).alloc (.cells #[.int .i64 0, .int .i64 0, .int .i64 0] 70)
  have hD := Blk.newAt (w.alloc (.cells #[.slice rAA NR s.rc, .slice zAA NZ s.zc, .slice s.kA NK s.kc, .slice s.hA NH s.hc] 66)) (w.heap.size + 1) (by simp) 70 #[.int .i64 0, .int .i64 0, .int .i64 0]
  have hb0 := ((Below.refl w.heap.size w).alloc (Nat.le_refl _) (.cells #[.slice rAA NR s.rc, .slice zAA NZ s.zc, .slice s.kA NK s.kc, .slice s.hA NH s.hc] 66)).alloc (by simp) (.cells #[.int .i64 0, .int .i64 0, .int .i64 0] 70)
  have HG : Hid (R = ((0, 0, 0), 2)) := Lib.hid (HR.out.symm.trans (check_out (row_out h).2))
  have hw0 : P24.word n = [] := by unfold P24.word; rw [if_neg (by omega), if_neg (by omega), if_neg (by omega)]
  rw [hw0] at cW
  have hnil := str_toList []
  clear HR HNo hX hw0 h
  go_enter Tryd.func38, Tryd.ntmps38
  go_wp2_with fail
  refine (cW.out _).mono ?_
  rintro e w1 ⟨rfl, rfl⟩
  clear hD
  go_wp2_with fail
  exact bodyPost_ret (v := .tuple #[.agg #[.int .i64 0, .int .i64 0, .int .i64 0], .int .i64 2]) (by simp [results, Tryd.results38, go_sem]) rfl ⟨by rw [HG.out], hb0⟩
set_option maxRecDepth 100000 in
set_option maxHeartbeats 16000000 in
theorem rvcheck_1 (s : SV) (w : World) (hS : SrcIn w s) (hz : SmallS s) :
    Calls Tryd.prog 38 #[.agg s.agg, .int .i64 1] w fun e w' => e = .returned (.tuple #[.agg #[.int .i64 (P24.check s 1).1.1, .int .i64 (P24.check s 1).1.2.1, .int .i64 (P24.check s 1).1.2.2], .int .i64 (P24.check s 1).2]) ∧ Below w.heap.size w w' := by
  obtain ⟨R, hR⟩ : ∃ R, P24.check s 1 = R := ⟨_, rfl⟩
  rw [hR]
  have HR := Lib.hid hR
  clear hR
  have cW := Lib.hid (fun W => rword_any 1 W)
  have HZm := Lib.hid hz
  obtain ⟨rl, zl, hl2, _, _⟩ := hz
  have hrl : (s.rules.length : Int) ≤ 1000000 := by omega
  have hzl : (s.zones.length : Int) ≤ 1000000 := by omega
  have hhl : (s.shifts.length : Int) ≤ 1000000 := by omega
  have HS := Lib.hid hS
  have hagg : s.agg = #[.slice s.rA s.rules.length s.rc, .slice s.zA s.zones.length s.zc, .slice s.kA s.links.length s.kc, .slice s.hA s.shifts.length s.hc] := rfl
  rw [hagg]
  clear hagg hS rl zl hl2
  have HNo := Lib.hid (fun h h' h'' => check_none (s := s) (n := 1) h h' h'')
  generalize hNR : s.rules.length = NR at hrl ⊢
  generalize hNZ : s.zones.length = NZ at hzl ⊢
  generalize hNH : s.shifts.length = NH at hhl HNo ⊢
  generalize s.links.length = NK
  generalize hzAe : s.zA = zAA
  generalize hrAe : s.rA = rAA
  have HZAe := Lib.hid hzAe
  have HRAe := Lib.hid hrAe
  have HNZ := Lib.hid hNZ
  have HNR := Lib.hid hNR
  clear hNR hNZ hNH hzAe hrAe
  have hX := (Blk.new w 66 #[.slice rAA NR s.rc, .slice zAA NZ s.zc, .slice s.kA NK s.kc, .slice s.hA NH s.hc]).alloc (.cells #[.int .i64 0, .int .i64 0, .int .i64 0] 70)
  have hD := Blk.newAt (w.alloc (.cells #[.slice rAA NR s.rc, .slice zAA NZ s.zc, .slice s.kA NK s.kc, .slice s.hA NH s.hc] 66)) (w.heap.size + 1) (by simp) 70 #[.int .i64 0, .int .i64 0, .int .i64 0]
  have hb0 := ((Below.refl w.heap.size w).alloc (Nat.le_refl _) (.cells #[.slice rAA NR s.rc, .slice zAA NZ s.zc, .slice s.kA NK s.kc, .slice s.hA NH s.hc] 66)).alloc (by simp) (.cells #[.int .i64 0, .int .i64 0, .int .i64 0] 70)
  have hN := @check_none s 1 rfl
  have hRu := fun h => check_rule (s := s) (n := 1) rfl h
  have hZo := fun i k h h' => check_zone (s := s) (n := 1) (i := i) (k := k) rfl h h'
  have HRu := Lib.hid hRu
  have HZo := Lib.hid hZo
  obtain ⟨n1, n2⟩ := str_ne (word_ne (n := 1) (by decide))
  generalize str (P24.word 1) = SW at cW n1 n2
  clear hN hRu hZo
  go_enter Tryd.func38, Tryd.ntmps38
  go_wp2_with fail
  refine (cW.out _).mono ?_
  rintro e w1 ⟨rfl, rfl⟩
  go_wp2_with fail
  clear n1 n2
  go_loopw [6] (fun i wr => ∃ k : Nat, k ≤ NR ∧ i = .int .i64 (k : Int) ∧ Hid (∀ j r, j < k → s.rules[j]? = some r → P24.negR 1 r = false) ∧ Blk wr w.heap.size 66 #[.slice rAA NR s.rc, .slice zAA NZ s.zc, .slice s.kA NK s.kc, .slice s.hA NH s.hc] ∧ Blk wr (w.heap.size + 1) 70 #[.int .i64 0, .int .i64 0, .int .i64 0] ∧ Below w.heap.size w wr) (fun i _ => NR - (intOf i).toNat)
  case atStart => exact ⟨0, Nat.zero_le _, rfl, Lib.hid fun j r hj => absurd hj (Nat.not_lt_zero _), hX, hD, hb0⟩
  case round =>
    clear hX hD hb0
    obtain ⟨k, hk, rfl, HK, hX, hD, hb⟩ := hrel
    have x0 := (hX.cell 0).trans rfl
    by_cases hlt : k < NR
    · obtain ⟨r, hr⟩ : ∃ r, s.rules[k]? = some r := ⟨_, List.getElem?_eq_getElem (by rw [HNR.out]; exact hlt)⟩
      have hki : (k : Int) < (NR : Int) := by omega
      obtain ⟨b, o, hA, hbl, hcc⟩ := (HS.out.below hb).rules k r hr
      have eA := HRAe.out.symm.trans hA
      subst eA
      have c9 : wr.cell? ⟨b, o + k * 11 + 9, none⟩ = some (.int .i64 r.save) := hcc 9 _ rfl
      have hneg : P24.negR 1 r = (decide (r.save < 0) && !P24.neg 1) := rfl
      have hn2 : ∀ j r', j < k → s.rules[j]? = some r' → P24.negR 1 r' = false := HK.out
      by_cases hsv : r.save < 0
      · skip
        have HS2 : Hid (∀ j r', j < k + 1 → s.rules[j]? = some r' → P24.negR 1 r' = false) := Lib.hid fun j r' hj hr' => by
          rcases Nat.lt_succ_iff_lt_or_eq.mp hj with hj | rfl
          · exact hn2 j r' hj hr'
          · rw [hr] at hr'; injection hr' with hr'; rw [← hr', hneg]; simp [P24.neg]
        clear hneg hn2 hcc hA hr HK
        generalize r.save = sv at *
        go_wp2_with fail
        go_roundw
        case rel => exact ⟨k + 1, by omega, by go_num, HS2, hX, hD, hb⟩
        case measure => simp [intOf]; omega
      · skip
        have HS2 : Hid (∀ j r', j < k + 1 → s.rules[j]? = some r' → P24.negR 1 r' = false) := Lib.hid fun j r' hj hr' => by
          rcases Nat.lt_succ_iff_lt_or_eq.mp hj with hj | rfl
          · exact hn2 j r' hj hr'
          · rw [hr] at hr'; injection hr' with hr'; rw [← hr', hneg]; simp [P24.neg]
        clear hneg hn2 hcc hA hr HK
        generalize r.save = sv at *
        go_wp2_with fail
        go_roundw
        case rel => exact ⟨k + 1, by omega, by go_num, HS2, hX, hD, hb⟩
        case measure => simp [intOf]; omega
    · obtain rfl : NR = k := by omega
      have hki : ¬ (NR : Int) < (NR : Int) := by omega
      have hfn : P24.first (P24.negR 1) s.rules < 0 := by
        rw [P24.first_none fun a ha => ?_]; decide
        obtain ⟨j, hj⟩ := List.mem_iff_getElem?.1 ha
        exact HK.out j a (by rw [← HNR.out]; exact (List.getElem?_eq_some_iff.mp hj).1) hj
      have HZ : Hid (∀ i k, P24.zb 1 s.zones 0 = some (i, k) → R = ((2, i, k), 17)) := Lib.hid fun i k h => HR.out.symm.trans (HZo.out i k hfn h)
      have HN : Hid (P24.zb 1 s.zones 0 = none → R = if 0 < NH ∧ P24.shift 1 = false then ((4, 0, 0), 17) else ((0, 0, 0), 0)) := Lib.hid fun h => HR.out.symm.trans (HNo.out rfl hfn h)
      clear HR HRu HZo HNo hfn HK hk hlt
      go_wp2_with fail
      rename_i wq0
      go_loopw [7] (fun i wr => ∃ k : Nat, k ≤ NZ ∧ i = .int .i64 (k : Int) ∧ Hid (P24.zb 1 (s.zones.drop k) (k : Int) = P24.zb 1 s.zones 0) ∧ Blk wr w.heap.size 66 #[.slice rAA NR s.rc, .slice zAA NZ s.zc, .slice s.kA NK s.kc, .slice s.hA NH s.hc] ∧ Blk wr (w.heap.size + 1) 70 #[.int .i64 0, .int .i64 0, .int .i64 0] ∧ Below w.heap.size w wr) (fun i _ => NZ - (intOf i).toNat)
      case atStart => exact ⟨0, Nat.zero_le _, rfl, Lib.hid rfl, hX, hD, hb⟩
      case round =>
        clear hX hD hb hki
        obtain ⟨k, hk, rfl, HK, hX, hD, hb⟩ := hrel
        have x1 := (hX.cell 1).trans rfl
        by_cases hlt : k < NZ
        · obtain ⟨z, hz⟩ : ∃ z, s.zones[k]? = some z := ⟨_, List.getElem?_eq_getElem (by rw [HNZ.out]; exact hlt)⟩
          have hki : (k : Int) < (NZ : Int) := by omega
          have hzm := List.mem_of_getElem? hz
          obtain ⟨b, o, hA, hbl, _⟩ := HS.out.zones k z hz
          have eA := HZAe.out.symm.trans hA
          subst eA
          have HZC : Hid (∀ W, Below w.heap.size w W → W.cell? ⟨b, o + k * 2 + 1, none⟩ = some (.slice z.A z.eras.length z.c)) := Lib.hid fun W h => by
            obtain ⟨b', o', hA', _, hcc⟩ := (HS.out.below h).zones k z hz
            rw [hA] at hA'
            injection hA' with q
            injection q with q1 q2
            subst q1 q2
            exact hcc 1 _ rfl
          have HEC : Hid (∀ W, Below w.heap.size w W → CellsIn 13 EV.cells W z.A z.eras) := Lib.hid fun W h => (HS.out.below h).eras z hzm
          have hskip := fun h => P24.zb_skip (n := 1) hz h
          have hhit := fun h => P24.zb_hit (n := 1) hz h
          have HH := Lib.hid (And.intro hskip hhit)
          have HFM := Lib.hid (HZm.out.fmts z hzm)
          have hne := HZm.out.eras z hzm
          clear hskip hhit hA hz hzm
          obtain ⟨zn, zA', zc', zer⟩ := z
          simp only at HZC HEC HFM hne
          generalize hNE : zer.length = NE at HZC hne
          have HNE := Lib.hid hNE
          have hnei : (NE : Int) ≤ 1000000 := by omega
          generalize hzAe : zA' = eAA at HZC HEC
          clear hNE hzAe
          go_wp2_with fail
          rename_i wq1
          go_loopw [8] (fun i wr => ∃ m : Nat, m ≤ NE ∧ i = .int .i64 (m : Int) ∧ Hid (∀ j e, j < m → zer[j]? = some e → P24.badV 1 e = false) ∧ Blk wr w.heap.size 66 #[.slice rAA NR s.rc, .slice (some ⟨b, o, none⟩) NZ s.zc, .slice s.kA NK s.kc, .slice s.hA NH s.hc] ∧ Blk wr (w.heap.size + 1) 70 #[.int .i64 0, .int .i64 0, .int .i64 0] ∧ Below w.heap.size w wr) (fun i _ => NE - (intOf i).toNat)
          case atStart => exact ⟨0, Nat.zero_le _, rfl, Lib.hid fun j e hj => absurd hj (Nat.not_lt_zero _), hX, hD, hb⟩
          case round =>
            clear hX hD hb x1
            obtain ⟨m, hm, rfl, HM, hX, hD, hb⟩ := hrel
            have x1 := (hX.cell 1).trans rfl
            have c1 := HZC.out _ hb
            by_cases hlm : m < NE
            · obtain ⟨e, he⟩ : ∃ e, zer[m]? = some e := ⟨_, List.getElem?_eq_getElem (by rw [HNE.out]; exact hlm)⟩
              have hmi : (m : Int) < (NE : Int) := by omega
              obtain ⟨b2, o2, hA2, hbl2, hcc2⟩ := HEC.out _ hb m e he
              subst hA2
              have c4 : wr.cell? ⟨b2, o2 + m * 13 + 4, none⟩ = some (.string e.fmt) := hcc2 4 _ rfl
              have cK := Lib.hid (fun W => rkind_any e.fmt W (HFM.out e (List.mem_of_getElem? he)))
              have hbad : P24.badV 1 e = ((decide (P21.kind (P4.bl e.fmt) = 4) && !P24.made 1) || (decide (P21.kind (P4.bl e.fmt) = 5) && !P24.num 1)) := rfl
              have hkc := P21.kind_cases (P4.bl e.fmt)
              generalize P21.kind (P4.bl e.fmt) = K at cK hbad hkc
              generalize e.fmt = fm at c4 cK
              have HBD := Lib.hid hbad
              have HE := Lib.hid he
              clear hbad hcc2 he
              rcases hkc with rfl | rfl | rfl | rfl | rfl | rfl
              · skip
                have HM2 : Hid (∀ j e', j < m + 1 → zer[j]? = some e' → P24.badV 1 e' = false) := Lib.hid fun j e' hj he' => by
                  rcases Nat.lt_succ_iff_lt_or_eq.mp hj with hj | rfl
                  · exact HM.out j e' hj he'
                  · have q := HE.out; rw [q] at he'; injection he' with he'; rw [← he', HBD.out]; rfl
                clear HBD HE HM
                go_wp2_with fail
                refine (cK.out _).mono ?_
                rintro e w4 ⟨rfl, hc4⟩
                have hX4 := hX.below hc4 hX.lt
                have hD4 := hD.below hc4 hD.lt
                have hb4 := hb.trans (hc4.mono hb.size)
                clear hX hD hb hc4 x1 c1 c4 cK
                go_wp2_with fail
                go_roundw
                case rel => exact ⟨m + 1, by omega, by go_num, HM2, hX4, hD4, hb4⟩
                case measure => simp [intOf]; omega
              · skip
                have HM2 : Hid (∀ j e', j < m + 1 → zer[j]? = some e' → P24.badV 1 e' = false) := Lib.hid fun j e' hj he' => by
                  rcases Nat.lt_succ_iff_lt_or_eq.mp hj with hj | rfl
                  · exact HM.out j e' hj he'
                  · have q := HE.out; rw [q] at he'; injection he' with he'; rw [← he', HBD.out]; rfl
                clear HBD HE HM
                go_wp2_with fail
                refine (cK.out _).mono ?_
                rintro e w4 ⟨rfl, hc4⟩
                have hX4 := hX.below hc4 hX.lt
                have hD4 := hD.below hc4 hD.lt
                have hb4 := hb.trans (hc4.mono hb.size)
                clear hX hD hb hc4 x1 c1 c4 cK
                go_wp2_with fail
                go_roundw
                case rel => exact ⟨m + 1, by omega, by go_num, HM2, hX4, hD4, hb4⟩
                case measure => simp [intOf]; omega
              · skip
                have HM2 : Hid (∀ j e', j < m + 1 → zer[j]? = some e' → P24.badV 1 e' = false) := Lib.hid fun j e' hj he' => by
                  rcases Nat.lt_succ_iff_lt_or_eq.mp hj with hj | rfl
                  · exact HM.out j e' hj he'
                  · have q := HE.out; rw [q] at he'; injection he' with he'; rw [← he', HBD.out]; rfl
                clear HBD HE HM
                go_wp2_with fail
                refine (cK.out _).mono ?_
                rintro e w4 ⟨rfl, hc4⟩
                have hX4 := hX.below hc4 hX.lt
                have hD4 := hD.below hc4 hD.lt
                have hb4 := hb.trans (hc4.mono hb.size)
                clear hX hD hb hc4 x1 c1 c4 cK
                go_wp2_with fail
                go_roundw
                case rel => exact ⟨m + 1, by omega, by go_num, HM2, hX4, hD4, hb4⟩
                case measure => simp [intOf]; omega
              · skip
                have HM2 : Hid (∀ j e', j < m + 1 → zer[j]? = some e' → P24.badV 1 e' = false) := Lib.hid fun j e' hj he' => by
                  rcases Nat.lt_succ_iff_lt_or_eq.mp hj with hj | rfl
                  · exact HM.out j e' hj he'
                  · have q := HE.out; rw [q] at he'; injection he' with he'; rw [← he', HBD.out]; rfl
                clear HBD HE HM
                go_wp2_with fail
                refine (cK.out _).mono ?_
                rintro e w4 ⟨rfl, hc4⟩
                have hX4 := hX.below hc4 hX.lt
                have hD4 := hD.below hc4 hD.lt
                have hb4 := hb.trans (hc4.mono hb.size)
                clear hX hD hb hc4 x1 c1 c4 cK
                go_wp2_with fail
                go_roundw
                case rel => exact ⟨m + 1, by omega, by go_num, HM2, hX4, hD4, hb4⟩
                case measure => simp [intOf]; omega
              · skip
                have HM2 : Hid (∀ j e', j < m + 1 → zer[j]? = some e' → P24.badV 1 e' = false) := Lib.hid fun j e' hj he' => by
                  rcases Nat.lt_succ_iff_lt_or_eq.mp hj with hj | rfl
                  · exact HM.out j e' hj he'
                  · have q := HE.out; rw [q] at he'; injection he' with he'; rw [← he', HBD.out]; rfl
                clear HBD HE HM
                go_wp2_with fail
                refine (cK.out _).mono ?_
                rintro e w4 ⟨rfl, hc4⟩
                have hX4 := hX.below hc4 hX.lt
                have hD4 := hD.below hc4 hD.lt
                have hb4 := hb.trans (hc4.mono hb.size)
                clear hX hD hb hc4 x1 c1 c4 cK
                go_wp2_with fail
                go_roundw
                case rel => exact ⟨m + 1, by omega, by go_num, HM2, hX4, hD4, hb4⟩
                case measure => simp [intOf]; omega
              · skip
                have hfi := P24.first_hit (p := P24.badV 1) HE.out (by rw [HBD.out]; rfl) (fun j b hj hb' => HM.out j b hj hb')
                have HG : Hid (R = ((2, (k : Int), (m : Int)), 17)) := by
                  have q := HZ.out k _ (HK.out.symm.trans (HH.out.2 (by show 0 ≤ P24.first (P24.badV 1) zer; rw [hfi]; omega)))
                  exact Lib.hid (by rw [q, show P24.first (P24.badV 1) _ = (m : Int) from hfi])
                clear hfi HZ HN HK HH HM HBD HE
                go_wp2_with fail
                refine (cK.out _).mono ?_
                rintro e w4 ⟨rfl, hc4⟩
                have hX4 := hX.below hc4 hX.lt
                have hD4 := hD.below hc4 hD.lt
                have hb4 := hb.trans (hc4.mono hb.size)
                clear hX hD hb hc4 x1 c1 c4 cK
                clear hX4
                have d0 := (hD4.cell 0).trans rfl
                have d1 := (hD4.cell 1).trans rfl
                have d2 := (hD4.cell 2).trans rfl
                have f0 := hD4.frozen 0
                have f1 := hD4.frozen 1
                have f2 := hD4.frozen 2
                have HD := Lib.hid (((hD4.set_ 0 (.int .i64 (2))).set_ 1 (.int .i64 ((k : Int)))).set_ 2 (.int .i64 ((m : Int))))
                clear hD4
                go_wp2_with fail
                have r0 := HD.out.cell 0
                have r1 := HD.out.cell 1
                have r2 := HD.out.cell 2
                exact bodyPost_ret (v := .tuple #[.agg #[.int .i64 (2), .int .i64 ((k : Int)), .int .i64 ((m : Int))], .int .i64 17]) (by simp [results, Tryd.results38, go_sem, r0, r1, r2]) rfl ⟨by rw [HG.out], ((hb4.setCell (Nat.le_succ _) _).setCell (Nat.le_succ _) _).setCell (Nat.le_succ _) _⟩
            · obtain rfl : m = NE := by omega
              have hmi : ¬ (m : Int) < (m : Int) := by omega
              have hfn : P24.first (P24.badV 1) zer < 0 := by
                rw [P24.first_none fun a ha => ?_]; decide
                obtain ⟨j, hj⟩ := List.mem_iff_getElem?.1 ha
                exact HM.out j a (by rw [← HNE.out]; exact (List.getElem?_eq_some_iff.mp hj).1) hj
              have HK2 : Hid (P24.zb 1 (s.zones.drop (k + 1)) ((k + 1 : Nat) : Int) = P24.zb 1 s.zones 0) := Lib.hid ((HH.out.1 hfn).symm.trans HK.out)
              clear HK HH HM hfn HZC HEC HFM
              go_wp2_with fail
              go_roundw
              case rel => exact ⟨k + 1, by omega, by go_num, HK2, hX, hD, hb⟩
              case measure => simp [intOf]; omega
        · obtain rfl : k = NZ := by omega
          have hki : ¬ (k : Int) < (k : Int) := by omega
          have HN3 := Lib.hid (HN.out (HK.out.symm.trans (by rw [List.drop_of_length_le (by rw [HNZ.out]; exact Nat.le_refl _)]; rfl)))
          have x3 := (hX.cell 3).trans rfl
          clear HZ HN HK hX
          by_cases hNH : 0 < NH
          · have hNHi : (0 : Int) < (NH : Int) := by omega
            have HG : Hid (R = ((4, 0, 0), 17)) := Lib.hid (HN3.out.trans (if_pos ⟨hNH, rfl⟩))
            clear HN3
            have d0 := (hD.cell 0).trans rfl
            have d1 := (hD.cell 1).trans rfl
            have d2 := (hD.cell 2).trans rfl
            have f0 := hD.frozen 0
            have f1 := hD.frozen 1
            have f2 := hD.frozen 2
            have HD := Lib.hid (((hD.set_ 0 (.int .i64 (4))).set_ 1 (.int .i64 (0))).set_ 2 (.int .i64 (0)))
            clear hD
            go_wp2_with fail
            have r0 := HD.out.cell 0
            have r1 := HD.out.cell 1
            have r2 := HD.out.cell 2
            exact bodyPost_ret (v := .tuple #[.agg #[.int .i64 (4), .int .i64 (0), .int .i64 (0)], .int .i64 17]) (by simp [results, Tryd.results38, go_sem, r0, r1, r2]) rfl ⟨by rw [HG.out], ((hb.setCell (Nat.le_succ _) _).setCell (Nat.le_succ _) _).setCell (Nat.le_succ _) _⟩
          · have hNHi : ¬ (0 : Int) < (NH : Int) := by omega
            have HG : Hid (R = ((0, 0, 0), 0)) := Lib.hid (HN3.out.trans (if_neg (fun h => hNH h.1)))
            clear HN3
            have d0 := (hD.cell 0).trans rfl
            have d1 := (hD.cell 1).trans rfl
            have d2 := (hD.cell 2).trans rfl
            have f0 := hD.frozen 0
            have f1 := hD.frozen 1
            have f2 := hD.frozen 2
            have HD := Lib.hid (((hD.set_ 0 (.int .i64 (0))).set_ 1 (.int .i64 (0))).set_ 2 (.int .i64 (0)))
            clear hD
            go_wp2_with fail
            have r0 := HD.out.cell 0
            have r1 := HD.out.cell 1
            have r2 := HD.out.cell 2
            exact bodyPost_ret (v := .tuple #[.agg #[.int .i64 (0), .int .i64 (0), .int .i64 (0)], .int .i64 0]) (by simp [results, Tryd.results38, go_sem, r0, r1, r2]) rfl ⟨by rw [HG.out], ((hb.setCell (Nat.le_succ _) _).setCell (Nat.le_succ _) _).setCell (Nat.le_succ _) _⟩
set_option maxRecDepth 100000 in
set_option maxHeartbeats 16000000 in
theorem rvcheck_2 (s : SV) (w : World) (hS : SrcIn w s) (hz : SmallS s) :
    Calls Tryd.prog 38 #[.agg s.agg, .int .i64 2] w fun e w' => e = .returned (.tuple #[.agg #[.int .i64 (P24.check s 2).1.1, .int .i64 (P24.check s 2).1.2.1, .int .i64 (P24.check s 2).1.2.2], .int .i64 (P24.check s 2).2]) ∧ Below w.heap.size w w' := by
  obtain ⟨R, hR⟩ : ∃ R, P24.check s 2 = R := ⟨_, rfl⟩
  rw [hR]
  have HR := Lib.hid hR
  clear hR
  have cW := Lib.hid (fun W => rword_any 2 W)
  have HZm := Lib.hid hz
  obtain ⟨rl, zl, hl2, _, _⟩ := hz
  have hrl : (s.rules.length : Int) ≤ 1000000 := by omega
  have hzl : (s.zones.length : Int) ≤ 1000000 := by omega
  have hhl : (s.shifts.length : Int) ≤ 1000000 := by omega
  have HS := Lib.hid hS
  have hagg : s.agg = #[.slice s.rA s.rules.length s.rc, .slice s.zA s.zones.length s.zc, .slice s.kA s.links.length s.kc, .slice s.hA s.shifts.length s.hc] := rfl
  rw [hagg]
  clear hagg hS rl zl hl2
  have HNo := Lib.hid (fun h h' h'' => check_none (s := s) (n := 2) h h' h'')
  generalize hNR : s.rules.length = NR at hrl ⊢
  generalize hNZ : s.zones.length = NZ at hzl ⊢
  generalize hNH : s.shifts.length = NH at hhl HNo ⊢
  generalize s.links.length = NK
  generalize hzAe : s.zA = zAA
  generalize hrAe : s.rA = rAA
  have HZAe := Lib.hid hzAe
  have HRAe := Lib.hid hrAe
  have HNZ := Lib.hid hNZ
  have HNR := Lib.hid hNR
  clear hNR hNZ hNH hzAe hrAe
  have hX := (Blk.new w 66 #[.slice rAA NR s.rc, .slice zAA NZ s.zc, .slice s.kA NK s.kc, .slice s.hA NH s.hc]).alloc (.cells #[.int .i64 0, .int .i64 0, .int .i64 0] 70)
  have hD := Blk.newAt (w.alloc (.cells #[.slice rAA NR s.rc, .slice zAA NZ s.zc, .slice s.kA NK s.kc, .slice s.hA NH s.hc] 66)) (w.heap.size + 1) (by simp) 70 #[.int .i64 0, .int .i64 0, .int .i64 0]
  have hb0 := ((Below.refl w.heap.size w).alloc (Nat.le_refl _) (.cells #[.slice rAA NR s.rc, .slice zAA NZ s.zc, .slice s.kA NK s.kc, .slice s.hA NH s.hc] 66)).alloc (by simp) (.cells #[.int .i64 0, .int .i64 0, .int .i64 0] 70)
  have hN := @check_none s 2 rfl
  have hRu := fun h => check_rule (s := s) (n := 2) rfl h
  have hZo := fun i k h h' => check_zone (s := s) (n := 2) (i := i) (k := k) rfl h h'
  have HRu := Lib.hid hRu
  have HZo := Lib.hid hZo
  obtain ⟨n1, n2⟩ := str_ne (word_ne (n := 2) (by decide))
  generalize str (P24.word 2) = SW at cW n1 n2
  clear hN hRu hZo
  go_enter Tryd.func38, Tryd.ntmps38
  go_wp2_with fail
  refine (cW.out _).mono ?_
  rintro e w1 ⟨rfl, rfl⟩
  go_wp2_with fail
  clear n1 n2
  go_loopw [6] (fun i wr => ∃ k : Nat, k ≤ NR ∧ i = .int .i64 (k : Int) ∧ Hid (∀ j r, j < k → s.rules[j]? = some r → P24.negR 2 r = false) ∧ Blk wr w.heap.size 66 #[.slice rAA NR s.rc, .slice zAA NZ s.zc, .slice s.kA NK s.kc, .slice s.hA NH s.hc] ∧ Blk wr (w.heap.size + 1) 70 #[.int .i64 0, .int .i64 0, .int .i64 0] ∧ Below w.heap.size w wr) (fun i _ => NR - (intOf i).toNat)
  case atStart => exact ⟨0, Nat.zero_le _, rfl, Lib.hid fun j r hj => absurd hj (Nat.not_lt_zero _), hX, hD, hb0⟩
  case round =>
    clear hX hD hb0
    obtain ⟨k, hk, rfl, HK, hX, hD, hb⟩ := hrel
    have x0 := (hX.cell 0).trans rfl
    by_cases hlt : k < NR
    · obtain ⟨r, hr⟩ : ∃ r, s.rules[k]? = some r := ⟨_, List.getElem?_eq_getElem (by rw [HNR.out]; exact hlt)⟩
      have hki : (k : Int) < (NR : Int) := by omega
      obtain ⟨b, o, hA, hbl, hcc⟩ := (HS.out.below hb).rules k r hr
      have eA := HRAe.out.symm.trans hA
      subst eA
      have c9 : wr.cell? ⟨b, o + k * 11 + 9, none⟩ = some (.int .i64 r.save) := hcc 9 _ rfl
      have hneg : P24.negR 2 r = (decide (r.save < 0) && !P24.neg 2) := rfl
      have hn2 : ∀ j r', j < k → s.rules[j]? = some r' → P24.negR 2 r' = false := HK.out
      by_cases hsv : r.save < 0
      · skip
        have HS2 : Hid (∀ j r', j < k + 1 → s.rules[j]? = some r' → P24.negR 2 r' = false) := Lib.hid fun j r' hj hr' => by
          rcases Nat.lt_succ_iff_lt_or_eq.mp hj with hj | rfl
          · exact hn2 j r' hj hr'
          · rw [hr] at hr'; injection hr' with hr'; rw [← hr', hneg]; simp [P24.neg]
        clear hneg hn2 hcc hA hr HK
        generalize r.save = sv at *
        go_wp2_with fail
        go_roundw
        case rel => exact ⟨k + 1, by omega, by go_num, HS2, hX, hD, hb⟩
        case measure => simp [intOf]; omega
      · skip
        have HS2 : Hid (∀ j r', j < k + 1 → s.rules[j]? = some r' → P24.negR 2 r' = false) := Lib.hid fun j r' hj hr' => by
          rcases Nat.lt_succ_iff_lt_or_eq.mp hj with hj | rfl
          · exact hn2 j r' hj hr'
          · rw [hr] at hr'; injection hr' with hr'; rw [← hr', hneg]; simp [P24.neg]
        clear hneg hn2 hcc hA hr HK
        generalize r.save = sv at *
        go_wp2_with fail
        go_roundw
        case rel => exact ⟨k + 1, by omega, by go_num, HS2, hX, hD, hb⟩
        case measure => simp [intOf]; omega
    · obtain rfl : NR = k := by omega
      have hki : ¬ (NR : Int) < (NR : Int) := by omega
      have hfn : P24.first (P24.negR 2) s.rules < 0 := by
        rw [P24.first_none fun a ha => ?_]; decide
        obtain ⟨j, hj⟩ := List.mem_iff_getElem?.1 ha
        exact HK.out j a (by rw [← HNR.out]; exact (List.getElem?_eq_some_iff.mp hj).1) hj
      have HZ : Hid (∀ i k, P24.zb 2 s.zones 0 = some (i, k) → R = ((2, i, k), 17)) := Lib.hid fun i k h => HR.out.symm.trans (HZo.out i k hfn h)
      have HN : Hid (P24.zb 2 s.zones 0 = none → R = if 0 < NH ∧ P24.shift 2 = false then ((4, 0, 0), 17) else ((0, 0, 0), 0)) := Lib.hid fun h => HR.out.symm.trans (HNo.out rfl hfn h)
      clear HR HRu HZo HNo hfn HK hk hlt
      go_wp2_with fail
      rename_i wq0
      go_loopw [7] (fun i wr => ∃ k : Nat, k ≤ NZ ∧ i = .int .i64 (k : Int) ∧ Hid (P24.zb 2 (s.zones.drop k) (k : Int) = P24.zb 2 s.zones 0) ∧ Blk wr w.heap.size 66 #[.slice rAA NR s.rc, .slice zAA NZ s.zc, .slice s.kA NK s.kc, .slice s.hA NH s.hc] ∧ Blk wr (w.heap.size + 1) 70 #[.int .i64 0, .int .i64 0, .int .i64 0] ∧ Below w.heap.size w wr) (fun i _ => NZ - (intOf i).toNat)
      case atStart => exact ⟨0, Nat.zero_le _, rfl, Lib.hid rfl, hX, hD, hb⟩
      case round =>
        clear hX hD hb hki
        obtain ⟨k, hk, rfl, HK, hX, hD, hb⟩ := hrel
        have x1 := (hX.cell 1).trans rfl
        by_cases hlt : k < NZ
        · obtain ⟨z, hz⟩ : ∃ z, s.zones[k]? = some z := ⟨_, List.getElem?_eq_getElem (by rw [HNZ.out]; exact hlt)⟩
          have hki : (k : Int) < (NZ : Int) := by omega
          have hzm := List.mem_of_getElem? hz
          obtain ⟨b, o, hA, hbl, _⟩ := HS.out.zones k z hz
          have eA := HZAe.out.symm.trans hA
          subst eA
          have HZC : Hid (∀ W, Below w.heap.size w W → W.cell? ⟨b, o + k * 2 + 1, none⟩ = some (.slice z.A z.eras.length z.c)) := Lib.hid fun W h => by
            obtain ⟨b', o', hA', _, hcc⟩ := (HS.out.below h).zones k z hz
            rw [hA] at hA'
            injection hA' with q
            injection q with q1 q2
            subst q1 q2
            exact hcc 1 _ rfl
          have HEC : Hid (∀ W, Below w.heap.size w W → CellsIn 13 EV.cells W z.A z.eras) := Lib.hid fun W h => (HS.out.below h).eras z hzm
          have hskip := fun h => P24.zb_skip (n := 2) hz h
          have hhit := fun h => P24.zb_hit (n := 2) hz h
          have HH := Lib.hid (And.intro hskip hhit)
          have HFM := Lib.hid (HZm.out.fmts z hzm)
          have hne := HZm.out.eras z hzm
          clear hskip hhit hA hz hzm
          obtain ⟨zn, zA', zc', zer⟩ := z
          simp only at HZC HEC HFM hne
          generalize hNE : zer.length = NE at HZC hne
          have HNE := Lib.hid hNE
          have hnei : (NE : Int) ≤ 1000000 := by omega
          generalize hzAe : zA' = eAA at HZC HEC
          clear hNE hzAe
          go_wp2_with fail
          rename_i wq1
          go_loopw [8] (fun i wr => ∃ m : Nat, m ≤ NE ∧ i = .int .i64 (m : Int) ∧ Hid (∀ j e, j < m → zer[j]? = some e → P24.badV 2 e = false) ∧ Blk wr w.heap.size 66 #[.slice rAA NR s.rc, .slice (some ⟨b, o, none⟩) NZ s.zc, .slice s.kA NK s.kc, .slice s.hA NH s.hc] ∧ Blk wr (w.heap.size + 1) 70 #[.int .i64 0, .int .i64 0, .int .i64 0] ∧ Below w.heap.size w wr) (fun i _ => NE - (intOf i).toNat)
          case atStart => exact ⟨0, Nat.zero_le _, rfl, Lib.hid fun j e hj => absurd hj (Nat.not_lt_zero _), hX, hD, hb⟩
          case round =>
            clear hX hD hb x1
            obtain ⟨m, hm, rfl, HM, hX, hD, hb⟩ := hrel
            have x1 := (hX.cell 1).trans rfl
            have c1 := HZC.out _ hb
            by_cases hlm : m < NE
            · obtain ⟨e, he⟩ : ∃ e, zer[m]? = some e := ⟨_, List.getElem?_eq_getElem (by rw [HNE.out]; exact hlm)⟩
              have hmi : (m : Int) < (NE : Int) := by omega
              obtain ⟨b2, o2, hA2, hbl2, hcc2⟩ := HEC.out _ hb m e he
              subst hA2
              have c4 : wr.cell? ⟨b2, o2 + m * 13 + 4, none⟩ = some (.string e.fmt) := hcc2 4 _ rfl
              have cK := Lib.hid (fun W => rkind_any e.fmt W (HFM.out e (List.mem_of_getElem? he)))
              have hbad : P24.badV 2 e = ((decide (P21.kind (P4.bl e.fmt) = 4) && !P24.made 2) || (decide (P21.kind (P4.bl e.fmt) = 5) && !P24.num 2)) := rfl
              have hkc := P21.kind_cases (P4.bl e.fmt)
              generalize P21.kind (P4.bl e.fmt) = K at cK hbad hkc
              generalize e.fmt = fm at c4 cK
              have HBD := Lib.hid hbad
              have HE := Lib.hid he
              clear hbad hcc2 he
              rcases hkc with rfl | rfl | rfl | rfl | rfl | rfl
              · skip
                have HM2 : Hid (∀ j e', j < m + 1 → zer[j]? = some e' → P24.badV 2 e' = false) := Lib.hid fun j e' hj he' => by
                  rcases Nat.lt_succ_iff_lt_or_eq.mp hj with hj | rfl
                  · exact HM.out j e' hj he'
                  · have q := HE.out; rw [q] at he'; injection he' with he'; rw [← he', HBD.out]; rfl
                clear HBD HE HM
                go_wp2_with fail
                refine (cK.out _).mono ?_
                rintro e w4 ⟨rfl, hc4⟩
                have hX4 := hX.below hc4 hX.lt
                have hD4 := hD.below hc4 hD.lt
                have hb4 := hb.trans (hc4.mono hb.size)
                clear hX hD hb hc4 x1 c1 c4 cK
                go_wp2_with fail
                go_roundw
                case rel => exact ⟨m + 1, by omega, by go_num, HM2, hX4, hD4, hb4⟩
                case measure => simp [intOf]; omega
              · skip
                have HM2 : Hid (∀ j e', j < m + 1 → zer[j]? = some e' → P24.badV 2 e' = false) := Lib.hid fun j e' hj he' => by
                  rcases Nat.lt_succ_iff_lt_or_eq.mp hj with hj | rfl
                  · exact HM.out j e' hj he'
                  · have q := HE.out; rw [q] at he'; injection he' with he'; rw [← he', HBD.out]; rfl
                clear HBD HE HM
                go_wp2_with fail
                refine (cK.out _).mono ?_
                rintro e w4 ⟨rfl, hc4⟩
                have hX4 := hX.below hc4 hX.lt
                have hD4 := hD.below hc4 hD.lt
                have hb4 := hb.trans (hc4.mono hb.size)
                clear hX hD hb hc4 x1 c1 c4 cK
                go_wp2_with fail
                go_roundw
                case rel => exact ⟨m + 1, by omega, by go_num, HM2, hX4, hD4, hb4⟩
                case measure => simp [intOf]; omega
              · skip
                have HM2 : Hid (∀ j e', j < m + 1 → zer[j]? = some e' → P24.badV 2 e' = false) := Lib.hid fun j e' hj he' => by
                  rcases Nat.lt_succ_iff_lt_or_eq.mp hj with hj | rfl
                  · exact HM.out j e' hj he'
                  · have q := HE.out; rw [q] at he'; injection he' with he'; rw [← he', HBD.out]; rfl
                clear HBD HE HM
                go_wp2_with fail
                refine (cK.out _).mono ?_
                rintro e w4 ⟨rfl, hc4⟩
                have hX4 := hX.below hc4 hX.lt
                have hD4 := hD.below hc4 hD.lt
                have hb4 := hb.trans (hc4.mono hb.size)
                clear hX hD hb hc4 x1 c1 c4 cK
                go_wp2_with fail
                go_roundw
                case rel => exact ⟨m + 1, by omega, by go_num, HM2, hX4, hD4, hb4⟩
                case measure => simp [intOf]; omega
              · skip
                have HM2 : Hid (∀ j e', j < m + 1 → zer[j]? = some e' → P24.badV 2 e' = false) := Lib.hid fun j e' hj he' => by
                  rcases Nat.lt_succ_iff_lt_or_eq.mp hj with hj | rfl
                  · exact HM.out j e' hj he'
                  · have q := HE.out; rw [q] at he'; injection he' with he'; rw [← he', HBD.out]; rfl
                clear HBD HE HM
                go_wp2_with fail
                refine (cK.out _).mono ?_
                rintro e w4 ⟨rfl, hc4⟩
                have hX4 := hX.below hc4 hX.lt
                have hD4 := hD.below hc4 hD.lt
                have hb4 := hb.trans (hc4.mono hb.size)
                clear hX hD hb hc4 x1 c1 c4 cK
                go_wp2_with fail
                go_roundw
                case rel => exact ⟨m + 1, by omega, by go_num, HM2, hX4, hD4, hb4⟩
                case measure => simp [intOf]; omega
              · skip
                have hfi := P24.first_hit (p := P24.badV 2) HE.out (by rw [HBD.out]; rfl) (fun j b hj hb' => HM.out j b hj hb')
                have HG : Hid (R = ((2, (k : Int), (m : Int)), 17)) := by
                  have q := HZ.out k _ (HK.out.symm.trans (HH.out.2 (by show 0 ≤ P24.first (P24.badV 2) zer; rw [hfi]; omega)))
                  exact Lib.hid (by rw [q, show P24.first (P24.badV 2) _ = (m : Int) from hfi])
                clear hfi HZ HN HK HH HM HBD HE
                go_wp2_with fail
                refine (cK.out _).mono ?_
                rintro e w4 ⟨rfl, hc4⟩
                have hX4 := hX.below hc4 hX.lt
                have hD4 := hD.below hc4 hD.lt
                have hb4 := hb.trans (hc4.mono hb.size)
                clear hX hD hb hc4 x1 c1 c4 cK
                clear hX4
                have d0 := (hD4.cell 0).trans rfl
                have d1 := (hD4.cell 1).trans rfl
                have d2 := (hD4.cell 2).trans rfl
                have f0 := hD4.frozen 0
                have f1 := hD4.frozen 1
                have f2 := hD4.frozen 2
                have HD := Lib.hid (((hD4.set_ 0 (.int .i64 (2))).set_ 1 (.int .i64 ((k : Int)))).set_ 2 (.int .i64 ((m : Int))))
                clear hD4
                go_wp2_with fail
                have r0 := HD.out.cell 0
                have r1 := HD.out.cell 1
                have r2 := HD.out.cell 2
                exact bodyPost_ret (v := .tuple #[.agg #[.int .i64 (2), .int .i64 ((k : Int)), .int .i64 ((m : Int))], .int .i64 17]) (by simp [results, Tryd.results38, go_sem, r0, r1, r2]) rfl ⟨by rw [HG.out], ((hb4.setCell (Nat.le_succ _) _).setCell (Nat.le_succ _) _).setCell (Nat.le_succ _) _⟩
              · skip
                have HM2 : Hid (∀ j e', j < m + 1 → zer[j]? = some e' → P24.badV 2 e' = false) := Lib.hid fun j e' hj he' => by
                  rcases Nat.lt_succ_iff_lt_or_eq.mp hj with hj | rfl
                  · exact HM.out j e' hj he'
                  · have q := HE.out; rw [q] at he'; injection he' with he'; rw [← he', HBD.out]; rfl
                clear HBD HE HM
                go_wp2_with fail
                refine (cK.out _).mono ?_
                rintro e w4 ⟨rfl, hc4⟩
                have hX4 := hX.below hc4 hX.lt
                have hD4 := hD.below hc4 hD.lt
                have hb4 := hb.trans (hc4.mono hb.size)
                clear hX hD hb hc4 x1 c1 c4 cK
                go_wp2_with fail
                go_roundw
                case rel => exact ⟨m + 1, by omega, by go_num, HM2, hX4, hD4, hb4⟩
                case measure => simp [intOf]; omega
            · obtain rfl : m = NE := by omega
              have hmi : ¬ (m : Int) < (m : Int) := by omega
              have hfn : P24.first (P24.badV 2) zer < 0 := by
                rw [P24.first_none fun a ha => ?_]; decide
                obtain ⟨j, hj⟩ := List.mem_iff_getElem?.1 ha
                exact HM.out j a (by rw [← HNE.out]; exact (List.getElem?_eq_some_iff.mp hj).1) hj
              have HK2 : Hid (P24.zb 2 (s.zones.drop (k + 1)) ((k + 1 : Nat) : Int) = P24.zb 2 s.zones 0) := Lib.hid ((HH.out.1 hfn).symm.trans HK.out)
              clear HK HH HM hfn HZC HEC HFM
              go_wp2_with fail
              go_roundw
              case rel => exact ⟨k + 1, by omega, by go_num, HK2, hX, hD, hb⟩
              case measure => simp [intOf]; omega
        · obtain rfl : k = NZ := by omega
          have hki : ¬ (k : Int) < (k : Int) := by omega
          have HN3 := Lib.hid (HN.out (HK.out.symm.trans (by rw [List.drop_of_length_le (by rw [HNZ.out]; exact Nat.le_refl _)]; rfl)))
          have x3 := (hX.cell 3).trans rfl
          clear HZ HN HK hX
          by_cases hNH : 0 < NH
          · have hNHi : (0 : Int) < (NH : Int) := by omega
            have HG : Hid (R = ((4, 0, 0), 17)) := Lib.hid (HN3.out.trans (if_pos ⟨hNH, rfl⟩))
            clear HN3
            have d0 := (hD.cell 0).trans rfl
            have d1 := (hD.cell 1).trans rfl
            have d2 := (hD.cell 2).trans rfl
            have f0 := hD.frozen 0
            have f1 := hD.frozen 1
            have f2 := hD.frozen 2
            have HD := Lib.hid (((hD.set_ 0 (.int .i64 (4))).set_ 1 (.int .i64 (0))).set_ 2 (.int .i64 (0)))
            clear hD
            go_wp2_with fail
            have r0 := HD.out.cell 0
            have r1 := HD.out.cell 1
            have r2 := HD.out.cell 2
            exact bodyPost_ret (v := .tuple #[.agg #[.int .i64 (4), .int .i64 (0), .int .i64 (0)], .int .i64 17]) (by simp [results, Tryd.results38, go_sem, r0, r1, r2]) rfl ⟨by rw [HG.out], ((hb.setCell (Nat.le_succ _) _).setCell (Nat.le_succ _) _).setCell (Nat.le_succ _) _⟩
          · have hNHi : ¬ (0 : Int) < (NH : Int) := by omega
            have HG : Hid (R = ((0, 0, 0), 0)) := Lib.hid (HN3.out.trans (if_neg (fun h => hNH h.1)))
            clear HN3
            have d0 := (hD.cell 0).trans rfl
            have d1 := (hD.cell 1).trans rfl
            have d2 := (hD.cell 2).trans rfl
            have f0 := hD.frozen 0
            have f1 := hD.frozen 1
            have f2 := hD.frozen 2
            have HD := Lib.hid (((hD.set_ 0 (.int .i64 (0))).set_ 1 (.int .i64 (0))).set_ 2 (.int .i64 (0)))
            clear hD
            go_wp2_with fail
            have r0 := HD.out.cell 0
            have r1 := HD.out.cell 1
            have r2 := HD.out.cell 2
            exact bodyPost_ret (v := .tuple #[.agg #[.int .i64 (0), .int .i64 (0), .int .i64 (0)], .int .i64 0]) (by simp [results, Tryd.results38, go_sem, r0, r1, r2]) rfl ⟨by rw [HG.out], ((hb.setCell (Nat.le_succ _) _).setCell (Nat.le_succ _) _).setCell (Nat.le_succ _) _⟩
set_option maxRecDepth 100000 in
set_option maxHeartbeats 16000000 in
theorem rvcheck_3 (s : SV) (w : World) (hS : SrcIn w s) (hz : SmallS s) :
    Calls Tryd.prog 38 #[.agg s.agg, .int .i64 3] w fun e w' => e = .returned (.tuple #[.agg #[.int .i64 (P24.check s 3).1.1, .int .i64 (P24.check s 3).1.2.1, .int .i64 (P24.check s 3).1.2.2], .int .i64 (P24.check s 3).2]) ∧ Below w.heap.size w w' := by
  obtain ⟨R, hR⟩ : ∃ R, P24.check s 3 = R := ⟨_, rfl⟩
  rw [hR]
  have HR := Lib.hid hR
  clear hR
  have cW := Lib.hid (fun W => rword_any 3 W)
  have HZm := Lib.hid hz
  obtain ⟨rl, zl, hl2, _, _⟩ := hz
  have hrl : (s.rules.length : Int) ≤ 1000000 := by omega
  have hzl : (s.zones.length : Int) ≤ 1000000 := by omega
  have hhl : (s.shifts.length : Int) ≤ 1000000 := by omega
  have HS := Lib.hid hS
  have hagg : s.agg = #[.slice s.rA s.rules.length s.rc, .slice s.zA s.zones.length s.zc, .slice s.kA s.links.length s.kc, .slice s.hA s.shifts.length s.hc] := rfl
  rw [hagg]
  clear hagg hS rl zl hl2
  have HNo := Lib.hid (fun h h' h'' => check_none (s := s) (n := 3) h h' h'')
  generalize hNR : s.rules.length = NR at hrl ⊢
  generalize hNZ : s.zones.length = NZ at hzl ⊢
  generalize hNH : s.shifts.length = NH at hhl HNo ⊢
  generalize s.links.length = NK
  generalize hzAe : s.zA = zAA
  generalize hrAe : s.rA = rAA
  have HZAe := Lib.hid hzAe
  have HRAe := Lib.hid hrAe
  have HNZ := Lib.hid hNZ
  have HNR := Lib.hid hNR
  clear hNR hNZ hNH hzAe hrAe
  have hX := (Blk.new w 66 #[.slice rAA NR s.rc, .slice zAA NZ s.zc, .slice s.kA NK s.kc, .slice s.hA NH s.hc]).alloc (.cells #[.int .i64 0, .int .i64 0, .int .i64 0] 70)
  have hD := Blk.newAt (w.alloc (.cells #[.slice rAA NR s.rc, .slice zAA NZ s.zc, .slice s.kA NK s.kc, .slice s.hA NH s.hc] 66)) (w.heap.size + 1) (by simp) 70 #[.int .i64 0, .int .i64 0, .int .i64 0]
  have hb0 := ((Below.refl w.heap.size w).alloc (Nat.le_refl _) (.cells #[.slice rAA NR s.rc, .slice zAA NZ s.zc, .slice s.kA NK s.kc, .slice s.hA NH s.hc] 66)).alloc (by simp) (.cells #[.int .i64 0, .int .i64 0, .int .i64 0] 70)
  have hN := @check_none s 3 rfl
  have hRu := fun h => check_rule (s := s) (n := 3) rfl h
  have hZo := fun i k h h' => check_zone (s := s) (n := 3) (i := i) (k := k) rfl h h'
  have HRu := Lib.hid hRu
  have HZo := Lib.hid hZo
  obtain ⟨n1, n2⟩ := str_ne (word_ne (n := 3) (by decide))
  generalize str (P24.word 3) = SW at cW n1 n2
  clear hN hRu hZo
  go_enter Tryd.func38, Tryd.ntmps38
  go_wp2_with fail
  refine (cW.out _).mono ?_
  rintro e w1 ⟨rfl, rfl⟩
  go_wp2_with fail
  clear n1 n2
  go_loopw [6] (fun i wr => ∃ k : Nat, k ≤ NR ∧ i = .int .i64 (k : Int) ∧ Hid (∀ j r, j < k → s.rules[j]? = some r → P24.negR 3 r = false) ∧ Blk wr w.heap.size 66 #[.slice rAA NR s.rc, .slice zAA NZ s.zc, .slice s.kA NK s.kc, .slice s.hA NH s.hc] ∧ Blk wr (w.heap.size + 1) 70 #[.int .i64 0, .int .i64 0, .int .i64 0] ∧ Below w.heap.size w wr) (fun i _ => NR - (intOf i).toNat)
  case atStart => exact ⟨0, Nat.zero_le _, rfl, Lib.hid fun j r hj => absurd hj (Nat.not_lt_zero _), hX, hD, hb0⟩
  case round =>
    clear hX hD hb0
    obtain ⟨k, hk, rfl, HK, hX, hD, hb⟩ := hrel
    have x0 := (hX.cell 0).trans rfl
    by_cases hlt : k < NR
    · obtain ⟨r, hr⟩ : ∃ r, s.rules[k]? = some r := ⟨_, List.getElem?_eq_getElem (by rw [HNR.out]; exact hlt)⟩
      have hki : (k : Int) < (NR : Int) := by omega
      obtain ⟨b, o, hA, hbl, hcc⟩ := (HS.out.below hb).rules k r hr
      have eA := HRAe.out.symm.trans hA
      subst eA
      have c9 : wr.cell? ⟨b, o + k * 11 + 9, none⟩ = some (.int .i64 r.save) := hcc 9 _ rfl
      have hneg : P24.negR 3 r = (decide (r.save < 0) && !P24.neg 3) := rfl
      have hn2 : ∀ j r', j < k → s.rules[j]? = some r' → P24.negR 3 r' = false := HK.out
      by_cases hsv : r.save < 0
      · have hfi := P24.first_hit (p := P24.negR 3) hr (by rw [hneg]; simp [P24.neg, hsv]) (fun j b hj hb' => hn2 j b hj hb')
        have HG : Hid (R = ((1, (k : Int), 0), 17)) := by
          have q := HRu.out (by rw [hfi]; omega)
          rw [hfi] at q
          exact Lib.hid (HR.out.symm.trans q)
        clear hneg hn2 hcc hA hr HK hfi HR HRu HZo HNo hX
        generalize r.save = sv at *
        have d0 := (hD.cell 0).trans rfl
        have d1 := (hD.cell 1).trans rfl
        have d2 := (hD.cell 2).trans rfl
        have f0 := hD.frozen 0
        have f1 := hD.frozen 1
        have f2 := hD.frozen 2
        have HD := Lib.hid (((hD.set_ 0 (.int .i64 (1))).set_ 1 (.int .i64 ((k : Int)))).set_ 2 (.int .i64 (0)))
        clear hD
        go_wp2_with fail
        have r0 := HD.out.cell 0
        have r1 := HD.out.cell 1
        have r2 := HD.out.cell 2
        exact bodyPost_ret (v := .tuple #[.agg #[.int .i64 (1), .int .i64 ((k : Int)), .int .i64 (0)], .int .i64 17]) (by simp [results, Tryd.results38, go_sem, r0, r1, r2]) rfl ⟨by rw [HG.out], ((hb.setCell (Nat.le_succ _) _).setCell (Nat.le_succ _) _).setCell (Nat.le_succ _) _⟩
      · skip
        have HS2 : Hid (∀ j r', j < k + 1 → s.rules[j]? = some r' → P24.negR 3 r' = false) := Lib.hid fun j r' hj hr' => by
          rcases Nat.lt_succ_iff_lt_or_eq.mp hj with hj | rfl
          · exact hn2 j r' hj hr'
          · rw [hr] at hr'; injection hr' with hr'; rw [← hr', hneg]; simp [P24.neg, hsv]
        clear hneg hn2 hcc hA hr HK
        generalize r.save = sv at *
        go_wp2_with fail
        go_roundw
        case rel => exact ⟨k + 1, by omega, by go_num, HS2, hX, hD, hb⟩
        case measure => simp [intOf]; omega
    · obtain rfl : NR = k := by omega
      have hki : ¬ (NR : Int) < (NR : Int) := by omega
      have hfn : P24.first (P24.negR 3) s.rules < 0 := by
        rw [P24.first_none fun a ha => ?_]; decide
        obtain ⟨j, hj⟩ := List.mem_iff_getElem?.1 ha
        exact HK.out j a (by rw [← HNR.out]; exact (List.getElem?_eq_some_iff.mp hj).1) hj
      have HZ : Hid (∀ i k, P24.zb 3 s.zones 0 = some (i, k) → R = ((2, i, k), 17)) := Lib.hid fun i k h => HR.out.symm.trans (HZo.out i k hfn h)
      have HN : Hid (P24.zb 3 s.zones 0 = none → R = if 0 < NH ∧ P24.shift 3 = false then ((4, 0, 0), 17) else ((0, 0, 0), 0)) := Lib.hid fun h => HR.out.symm.trans (HNo.out rfl hfn h)
      clear HR HRu HZo HNo hfn HK hk hlt
      go_wp2_with fail
      rename_i wq0
      go_loopw [7] (fun i wr => ∃ k : Nat, k ≤ NZ ∧ i = .int .i64 (k : Int) ∧ Hid (P24.zb 3 (s.zones.drop k) (k : Int) = P24.zb 3 s.zones 0) ∧ Blk wr w.heap.size 66 #[.slice rAA NR s.rc, .slice zAA NZ s.zc, .slice s.kA NK s.kc, .slice s.hA NH s.hc] ∧ Blk wr (w.heap.size + 1) 70 #[.int .i64 0, .int .i64 0, .int .i64 0] ∧ Below w.heap.size w wr) (fun i _ => NZ - (intOf i).toNat)
      case atStart => exact ⟨0, Nat.zero_le _, rfl, Lib.hid rfl, hX, hD, hb⟩
      case round =>
        clear hX hD hb hki
        obtain ⟨k, hk, rfl, HK, hX, hD, hb⟩ := hrel
        have x1 := (hX.cell 1).trans rfl
        by_cases hlt : k < NZ
        · obtain ⟨z, hz⟩ : ∃ z, s.zones[k]? = some z := ⟨_, List.getElem?_eq_getElem (by rw [HNZ.out]; exact hlt)⟩
          have hki : (k : Int) < (NZ : Int) := by omega
          have hzm := List.mem_of_getElem? hz
          obtain ⟨b, o, hA, hbl, _⟩ := HS.out.zones k z hz
          have eA := HZAe.out.symm.trans hA
          subst eA
          have HZC : Hid (∀ W, Below w.heap.size w W → W.cell? ⟨b, o + k * 2 + 1, none⟩ = some (.slice z.A z.eras.length z.c)) := Lib.hid fun W h => by
            obtain ⟨b', o', hA', _, hcc⟩ := (HS.out.below h).zones k z hz
            rw [hA] at hA'
            injection hA' with q
            injection q with q1 q2
            subst q1 q2
            exact hcc 1 _ rfl
          have HEC : Hid (∀ W, Below w.heap.size w W → CellsIn 13 EV.cells W z.A z.eras) := Lib.hid fun W h => (HS.out.below h).eras z hzm
          have hskip := fun h => P24.zb_skip (n := 3) hz h
          have hhit := fun h => P24.zb_hit (n := 3) hz h
          have HH := Lib.hid (And.intro hskip hhit)
          have HFM := Lib.hid (HZm.out.fmts z hzm)
          have hne := HZm.out.eras z hzm
          clear hskip hhit hA hz hzm
          obtain ⟨zn, zA', zc', zer⟩ := z
          simp only at HZC HEC HFM hne
          generalize hNE : zer.length = NE at HZC hne
          have HNE := Lib.hid hNE
          have hnei : (NE : Int) ≤ 1000000 := by omega
          generalize hzAe : zA' = eAA at HZC HEC
          clear hNE hzAe
          go_wp2_with fail
          rename_i wq1
          go_loopw [8] (fun i wr => ∃ m : Nat, m ≤ NE ∧ i = .int .i64 (m : Int) ∧ Hid (∀ j e, j < m → zer[j]? = some e → P24.badV 3 e = false) ∧ Blk wr w.heap.size 66 #[.slice rAA NR s.rc, .slice (some ⟨b, o, none⟩) NZ s.zc, .slice s.kA NK s.kc, .slice s.hA NH s.hc] ∧ Blk wr (w.heap.size + 1) 70 #[.int .i64 0, .int .i64 0, .int .i64 0] ∧ Below w.heap.size w wr) (fun i _ => NE - (intOf i).toNat)
          case atStart => exact ⟨0, Nat.zero_le _, rfl, Lib.hid fun j e hj => absurd hj (Nat.not_lt_zero _), hX, hD, hb⟩
          case round =>
            clear hX hD hb x1
            obtain ⟨m, hm, rfl, HM, hX, hD, hb⟩ := hrel
            have x1 := (hX.cell 1).trans rfl
            have c1 := HZC.out _ hb
            by_cases hlm : m < NE
            · obtain ⟨e, he⟩ : ∃ e, zer[m]? = some e := ⟨_, List.getElem?_eq_getElem (by rw [HNE.out]; exact hlm)⟩
              have hmi : (m : Int) < (NE : Int) := by omega
              obtain ⟨b2, o2, hA2, hbl2, hcc2⟩ := HEC.out _ hb m e he
              subst hA2
              have c4 : wr.cell? ⟨b2, o2 + m * 13 + 4, none⟩ = some (.string e.fmt) := hcc2 4 _ rfl
              have cK := Lib.hid (fun W => rkind_any e.fmt W (HFM.out e (List.mem_of_getElem? he)))
              have hbad : P24.badV 3 e = ((decide (P21.kind (P4.bl e.fmt) = 4) && !P24.made 3) || (decide (P21.kind (P4.bl e.fmt) = 5) && !P24.num 3)) := rfl
              have hkc := P21.kind_cases (P4.bl e.fmt)
              generalize P21.kind (P4.bl e.fmt) = K at cK hbad hkc
              generalize e.fmt = fm at c4 cK
              have HBD := Lib.hid hbad
              have HE := Lib.hid he
              clear hbad hcc2 he
              rcases hkc with rfl | rfl | rfl | rfl | rfl | rfl
              · skip
                have HM2 : Hid (∀ j e', j < m + 1 → zer[j]? = some e' → P24.badV 3 e' = false) := Lib.hid fun j e' hj he' => by
                  rcases Nat.lt_succ_iff_lt_or_eq.mp hj with hj | rfl
                  · exact HM.out j e' hj he'
                  · have q := HE.out; rw [q] at he'; injection he' with he'; rw [← he', HBD.out]; rfl
                clear HBD HE HM
                go_wp2_with fail
                refine (cK.out _).mono ?_
                rintro e w4 ⟨rfl, hc4⟩
                have hX4 := hX.below hc4 hX.lt
                have hD4 := hD.below hc4 hD.lt
                have hb4 := hb.trans (hc4.mono hb.size)
                clear hX hD hb hc4 x1 c1 c4 cK
                go_wp2_with fail
                go_roundw
                case rel => exact ⟨m + 1, by omega, by go_num, HM2, hX4, hD4, hb4⟩
                case measure => simp [intOf]; omega
              · skip
                have HM2 : Hid (∀ j e', j < m + 1 → zer[j]? = some e' → P24.badV 3 e' = false) := Lib.hid fun j e' hj he' => by
                  rcases Nat.lt_succ_iff_lt_or_eq.mp hj with hj | rfl
                  · exact HM.out j e' hj he'
                  · have q := HE.out; rw [q] at he'; injection he' with he'; rw [← he', HBD.out]; rfl
                clear HBD HE HM
                go_wp2_with fail
                refine (cK.out _).mono ?_
                rintro e w4 ⟨rfl, hc4⟩
                have hX4 := hX.below hc4 hX.lt
                have hD4 := hD.below hc4 hD.lt
                have hb4 := hb.trans (hc4.mono hb.size)
                clear hX hD hb hc4 x1 c1 c4 cK
                go_wp2_with fail
                go_roundw
                case rel => exact ⟨m + 1, by omega, by go_num, HM2, hX4, hD4, hb4⟩
                case measure => simp [intOf]; omega
              · skip
                have HM2 : Hid (∀ j e', j < m + 1 → zer[j]? = some e' → P24.badV 3 e' = false) := Lib.hid fun j e' hj he' => by
                  rcases Nat.lt_succ_iff_lt_or_eq.mp hj with hj | rfl
                  · exact HM.out j e' hj he'
                  · have q := HE.out; rw [q] at he'; injection he' with he'; rw [← he', HBD.out]; rfl
                clear HBD HE HM
                go_wp2_with fail
                refine (cK.out _).mono ?_
                rintro e w4 ⟨rfl, hc4⟩
                have hX4 := hX.below hc4 hX.lt
                have hD4 := hD.below hc4 hD.lt
                have hb4 := hb.trans (hc4.mono hb.size)
                clear hX hD hb hc4 x1 c1 c4 cK
                go_wp2_with fail
                go_roundw
                case rel => exact ⟨m + 1, by omega, by go_num, HM2, hX4, hD4, hb4⟩
                case measure => simp [intOf]; omega
              · skip
                have HM2 : Hid (∀ j e', j < m + 1 → zer[j]? = some e' → P24.badV 3 e' = false) := Lib.hid fun j e' hj he' => by
                  rcases Nat.lt_succ_iff_lt_or_eq.mp hj with hj | rfl
                  · exact HM.out j e' hj he'
                  · have q := HE.out; rw [q] at he'; injection he' with he'; rw [← he', HBD.out]; rfl
                clear HBD HE HM
                go_wp2_with fail
                refine (cK.out _).mono ?_
                rintro e w4 ⟨rfl, hc4⟩
                have hX4 := hX.below hc4 hX.lt
                have hD4 := hD.below hc4 hD.lt
                have hb4 := hb.trans (hc4.mono hb.size)
                clear hX hD hb hc4 x1 c1 c4 cK
                go_wp2_with fail
                go_roundw
                case rel => exact ⟨m + 1, by omega, by go_num, HM2, hX4, hD4, hb4⟩
                case measure => simp [intOf]; omega
              · skip
                have hfi := P24.first_hit (p := P24.badV 3) HE.out (by rw [HBD.out]; rfl) (fun j b hj hb' => HM.out j b hj hb')
                have HG : Hid (R = ((2, (k : Int), (m : Int)), 17)) := by
                  have q := HZ.out k _ (HK.out.symm.trans (HH.out.2 (by show 0 ≤ P24.first (P24.badV 3) zer; rw [hfi]; omega)))
                  exact Lib.hid (by rw [q, show P24.first (P24.badV 3) _ = (m : Int) from hfi])
                clear hfi HZ HN HK HH HM HBD HE
                go_wp2_with fail
                refine (cK.out _).mono ?_
                rintro e w4 ⟨rfl, hc4⟩
                have hX4 := hX.below hc4 hX.lt
                have hD4 := hD.below hc4 hD.lt
                have hb4 := hb.trans (hc4.mono hb.size)
                clear hX hD hb hc4 x1 c1 c4 cK
                clear hX4
                have d0 := (hD4.cell 0).trans rfl
                have d1 := (hD4.cell 1).trans rfl
                have d2 := (hD4.cell 2).trans rfl
                have f0 := hD4.frozen 0
                have f1 := hD4.frozen 1
                have f2 := hD4.frozen 2
                have HD := Lib.hid (((hD4.set_ 0 (.int .i64 (2))).set_ 1 (.int .i64 ((k : Int)))).set_ 2 (.int .i64 ((m : Int))))
                clear hD4
                go_wp2_with fail
                have r0 := HD.out.cell 0
                have r1 := HD.out.cell 1
                have r2 := HD.out.cell 2
                exact bodyPost_ret (v := .tuple #[.agg #[.int .i64 (2), .int .i64 ((k : Int)), .int .i64 ((m : Int))], .int .i64 17]) (by simp [results, Tryd.results38, go_sem, r0, r1, r2]) rfl ⟨by rw [HG.out], ((hb4.setCell (Nat.le_succ _) _).setCell (Nat.le_succ _) _).setCell (Nat.le_succ _) _⟩
              · skip
                have HM2 : Hid (∀ j e', j < m + 1 → zer[j]? = some e' → P24.badV 3 e' = false) := Lib.hid fun j e' hj he' => by
                  rcases Nat.lt_succ_iff_lt_or_eq.mp hj with hj | rfl
                  · exact HM.out j e' hj he'
                  · have q := HE.out; rw [q] at he'; injection he' with he'; rw [← he', HBD.out]; rfl
                clear HBD HE HM
                go_wp2_with fail
                refine (cK.out _).mono ?_
                rintro e w4 ⟨rfl, hc4⟩
                have hX4 := hX.below hc4 hX.lt
                have hD4 := hD.below hc4 hD.lt
                have hb4 := hb.trans (hc4.mono hb.size)
                clear hX hD hb hc4 x1 c1 c4 cK
                go_wp2_with fail
                go_roundw
                case rel => exact ⟨m + 1, by omega, by go_num, HM2, hX4, hD4, hb4⟩
                case measure => simp [intOf]; omega
            · obtain rfl : m = NE := by omega
              have hmi : ¬ (m : Int) < (m : Int) := by omega
              have hfn : P24.first (P24.badV 3) zer < 0 := by
                rw [P24.first_none fun a ha => ?_]; decide
                obtain ⟨j, hj⟩ := List.mem_iff_getElem?.1 ha
                exact HM.out j a (by rw [← HNE.out]; exact (List.getElem?_eq_some_iff.mp hj).1) hj
              have HK2 : Hid (P24.zb 3 (s.zones.drop (k + 1)) ((k + 1 : Nat) : Int) = P24.zb 3 s.zones 0) := Lib.hid ((HH.out.1 hfn).symm.trans HK.out)
              clear HK HH HM hfn HZC HEC HFM
              go_wp2_with fail
              go_roundw
              case rel => exact ⟨k + 1, by omega, by go_num, HK2, hX, hD, hb⟩
              case measure => simp [intOf]; omega
        · obtain rfl : k = NZ := by omega
          have hki : ¬ (k : Int) < (k : Int) := by omega
          have HN3 := Lib.hid (HN.out (HK.out.symm.trans (by rw [List.drop_of_length_le (by rw [HNZ.out]; exact Nat.le_refl _)]; rfl)))
          have x3 := (hX.cell 3).trans rfl
          clear HZ HN HK hX
          by_cases hNH : 0 < NH
          · have hNHi : (0 : Int) < (NH : Int) := by omega
            have HG : Hid (R = ((0, 0, 0), 0)) := Lib.hid (HN3.out.trans (if_neg (fun h => absurd h.2 (by decide))))
            clear HN3
            have d0 := (hD.cell 0).trans rfl
            have d1 := (hD.cell 1).trans rfl
            have d2 := (hD.cell 2).trans rfl
            have f0 := hD.frozen 0
            have f1 := hD.frozen 1
            have f2 := hD.frozen 2
            have HD := Lib.hid (((hD.set_ 0 (.int .i64 (0))).set_ 1 (.int .i64 (0))).set_ 2 (.int .i64 (0)))
            clear hD
            go_wp2_with fail
            have r0 := HD.out.cell 0
            have r1 := HD.out.cell 1
            have r2 := HD.out.cell 2
            exact bodyPost_ret (v := .tuple #[.agg #[.int .i64 (0), .int .i64 (0), .int .i64 (0)], .int .i64 0]) (by simp [results, Tryd.results38, go_sem, r0, r1, r2]) rfl ⟨by rw [HG.out], ((hb.setCell (Nat.le_succ _) _).setCell (Nat.le_succ _) _).setCell (Nat.le_succ _) _⟩
          · have hNHi : ¬ (0 : Int) < (NH : Int) := by omega
            have HG : Hid (R = ((0, 0, 0), 0)) := Lib.hid (HN3.out.trans (if_neg (fun h => hNH h.1)))
            clear HN3
            have d0 := (hD.cell 0).trans rfl
            have d1 := (hD.cell 1).trans rfl
            have d2 := (hD.cell 2).trans rfl
            have f0 := hD.frozen 0
            have f1 := hD.frozen 1
            have f2 := hD.frozen 2
            have HD := Lib.hid (((hD.set_ 0 (.int .i64 (0))).set_ 1 (.int .i64 (0))).set_ 2 (.int .i64 (0)))
            clear hD
            go_wp2_with fail
            have r0 := HD.out.cell 0
            have r1 := HD.out.cell 1
            have r2 := HD.out.cell 2
            exact bodyPost_ret (v := .tuple #[.agg #[.int .i64 (0), .int .i64 (0), .int .i64 (0)], .int .i64 0]) (by simp [results, Tryd.results38, go_sem, r0, r1, r2]) rfl ⟨by rw [HG.out], ((hb.setCell (Nat.le_succ _) _).setCell (Nat.le_succ _) _).setCell (Nat.le_succ _) _⟩
theorem rvcheck_any (s : SV) (n : Int) (w : World) (hS : SrcIn w s) (hz : SmallS s) :
    Calls Tryd.prog 38 #[.agg s.agg, .int .i64 n] w fun e w' => e = .returned (.tuple #[.agg #[.int .i64 (P24.check s n).1.1, .int .i64 (P24.check s n).1.2.1, .int .i64 (P24.check s n).1.2.2], .int .i64 (P24.check s n).2]) ∧ Below w.heap.size w w' := by
  rcases form_cases n with h | rfl | rfl | rfl | h
  · exact rvcheck_out s n w hS hz (.inl h)
  · exact rvcheck_1 s w hS hz
  · exact rvcheck_2 s w hS hz
  · exact rvcheck_3 s w hS hz
  · exact rvcheck_out s n w hS hz (.inr h)
end Go.Proofs.YtbajlkpjemandaaDoor
