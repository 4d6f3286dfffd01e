/- The walk of few (chapter 24). -/
import Derived.Test.YtbajlkpjemandaaDoorVar24d
namespace Go.Proofs.YtbajlkpjemandaaDoor
open Go.RowKit Go.Lib
set_option linter.unusedVariables false

/-- what few says of a source -/
structure Few24 (s : SV) : Prop where
  rules : s.rules.length ≤ 40
  zones : s.zones.length ≤ 10
  shifts : s.shifts.length ≤ 40
  eras : ∀ z ∈ s.zones, z.eras.length ≤ 20
  fmts : ∀ z ∈ s.zones, ∀ e ∈ z.eras, e.fmt.size ≤ 100
theorem Few24.small {s : SV} (h : Few24 s) : SmallS s := ⟨by have := h.rules; omega, by have := h.zones; omega, by have := h.shifts; omega, fun z hz => by have := h.eras z hz; omega, fun z hz e he => by have := h.fmts z hz e he; omega⟩
set_option maxRecDepth 100000 in
set_option maxHeartbeats 16000000 in
theorem few24_any (s : SV) (w : World) (hS : SrcIn w s) (hz : s.rules.length ≤ maxLen ∧ s.zones.length ≤ maxLen ∧ s.shifts.length ≤ maxLen ∧ (∀ z ∈ s.zones, z.eras.length ≤ maxLen) ∧ ∀ z ∈ s.zones, ∀ e ∈ z.eras, e.fmt.size ≤ maxLen) :
    Calls Tryd.prog 35 #[.agg s.agg] w fun e w' => (e = .returned (.bool false) ∨ (e = .returned (.bool true) ∧ Few24 s)) ∧ Below w.heap.size w w' := by
  unfold maxLen at hz
  obtain ⟨z1, z2, z3, z4, z5⟩ := hz
  have i1 : (s.rules.length : Int) ≤ 9223372036854775807 := by omega
  have i2 : (s.zones.length : Int) ≤ 9223372036854775807 := by omega
  have i3 : (s.shifts.length : Int) ≤ 9223372036854775807 := by omega
  have HZ4 := Lib.hid z4
  have HZ5 := Lib.hid z5
  have HS := Lib.hid hS
  have hagg : s.agg = #[.slice s.rA s.rules.length s.rc, .slice s.zA s.zones.length s.zc, .slice s.kA s.links.length s.kc, .slice s.hA s.shifts.length s.hc] := rfl
  rw [hagg]
  clear hagg hS z4 z5 z1 z2 z3
  generalize hNR : s.rules.length = NR at i1 ⊢
  generalize hNZ : s.zones.length = NZ at i2 ⊢
  generalize hNH : s.shifts.length = NH at i3 ⊢
  generalize s.links.length = NK
  generalize hzAe : s.zA = zAA
  have HZAe := Lib.hid hzAe
  have HNR := Lib.hid hNR
  have HNZ := Lib.hid hNZ
  have HNH := Lib.hid hNH
  clear hNR hNZ hNH hzAe
  have hX := Blk.new w 66 #[.slice s.rA NR s.rc, .slice zAA NZ s.zc, .slice s.kA NK s.kc, .slice s.hA NH s.hc]
  have hb0 := (Below.refl w.heap.size w).alloc (Nat.le_refl _) (.cells #[.slice s.rA NR s.rc, .slice zAA NZ s.zc, .slice s.kA NK s.kc, .slice s.hA NH s.hc] 66)
  by_cases q1 : 40 < NR
  · have q1i : (40 : Int) < (NR : Int) := by omega
    clear hX
    go_enter Tryd.func35, Tryd.ntmps35
    go_wp2_with fail
    go_ret
    exact ⟨.inl rfl, hb0⟩
  · have q1i : ¬ (40 : Int) < (NR : Int) := by omega
    by_cases q2 : 10 < NZ
    · have q2i : (10 : Int) < (NZ : Int) := by omega
      clear hX
      go_enter Tryd.func35, Tryd.ntmps35
      go_wp2_with fail
      go_ret
      exact ⟨.inl rfl, hb0⟩
    · have q2i : ¬ (10 : Int) < (NZ : Int) := by omega
      by_cases q3 : 40 < NH
      · have q3i : (40 : Int) < (NH : Int) := by omega
        clear hX
        go_enter Tryd.func35, Tryd.ntmps35
        go_wp2_with fail
        go_ret
        exact ⟨.inl rfl, hb0⟩
      · have q3i : ¬ (40 : Int) < (NH : Int) := by omega
        have hNZ10 : NZ ≤ 10 := by omega
        have HQ := Lib.hid (show NR ≤ 40 ∧ NH ≤ 40 from ⟨by omega, by omega⟩)
        clear q1 q2 q3
        go_enter Tryd.func35, Tryd.ntmps35
        go_wp2_with fail
        generalize w.alloc (.cells #[.slice s.rA NR s.rc, .slice zAA NZ s.zc, .slice s.kA NK s.kc, .slice s.hA NH s.hc] 66) = W0 at hX hb0 ⊢
        go_loop [3] (fun i => ∃ k : Nat, k ≤ NZ ∧ i = .int .i64 (k : Int) ∧ Hid (∀ j z, j < k → s.zones[j]? = some z → z.eras.length ≤ 20 ∧ ∀ e ∈ z.eras, e.fmt.size ≤ 100)) (fun i => NZ - (intOf i).toNat)
        case atStart => exact ⟨0, Nat.zero_le _, rfl, Lib.hid fun j z hj => absurd hj (Nat.not_lt_zero _)⟩
        case round =>
          obtain ⟨k, hk, rfl, HK⟩ := hrel
          have x1 := (hX.cell 1).trans rfl
          by_cases hlt : k < NZ
          · obtain ⟨z, hz⟩ : ∃ z, s.zones[k]? = some z := ⟨_, List.getElem?_eq_getElem (by rw [HNZ.out]; exact hlt)⟩
            have hki : (k : Int) < (NZ : Int) := by omega
            have hzm := List.mem_of_getElem? hz
            have hSr := HS.out.below hb0
            obtain ⟨b, o, hA, hbl, hcc⟩ := hSr.zones k z hz
            have eA := HZAe.out.symm.trans hA
            subst eA
            have c1 : W0.cell? ⟨b, o + k * 2 + 1, none⟩ = some (.slice z.A z.eras.length z.c) := hcc 1 _ rfl
            have hEC := hSr.eras z hzm
            have hne := HZ4.out z hzm
            have hfe := HZ5.out z hzm
            have HZz := Lib.hid hz
            clear hcc hA hz hzm hSr
            obtain ⟨zn, zA', zc', zer⟩ := z
            simp only at c1 hEC hne hfe
            have HEC := Lib.hid hEC
            have HFE := Lib.hid hfe
            generalize hNE : zer.length = NE at c1 hne
            have HNE := Lib.hid hNE
            have hnei : (NE : Int) ≤ 9223372036854775807 := by omega
            clear hNE hEC hfe hne
            by_cases hn20 : 20 < NE
            · have hn20i : (20 : Int) < (NE : Int) := by omega
              go_wp2_with fail
              go_ret
              exact ⟨.inl rfl, hb0⟩
            · have hn20i : ¬ (20 : Int) < (NE : Int) := by omega
              have hne20 : NE ≤ 20 := by omega
              clear hn20
              go_wp2_with fail
              go_loop [4] (fun i => ∃ m : Nat, m ≤ NE ∧ i = .int .i64 (m : Int) ∧ Hid (∀ j e, j < m → zer[j]? = some e → e.fmt.size ≤ 100)) (fun i => NE - (intOf i).toNat)
              case atStart => exact ⟨0, Nat.zero_le _, rfl, Lib.hid fun j e hj => absurd hj (Nat.not_lt_zero _)⟩
              case round =>
                obtain ⟨m, hm, rfl, HM⟩ := hrel
                by_cases hlm : m < NE
                · obtain ⟨e, he⟩ : ∃ e, zer[m]? = some e := ⟨_, List.getElem?_eq_getElem (by rw [HNE.out]; exact hlm)⟩
                  have hmi : (m : Int) < (NE : Int) := by omega
                  obtain ⟨b2, o2, hA2, hbl2, hcc2⟩ := HEC.out m e he
                  subst hA2
                  have c4 : W0.cell? ⟨b2, o2 + m * 13 + 4, none⟩ = some (.string e.fmt) := hcc2 4 _ rfl
                  have hfs : (e.fmt.size : Int) ≤ 9223372036854775807 := by have := HFE.out e (List.mem_of_getElem? he); omega
                  by_cases hf : 100 < e.fmt.size
                  · have hfi : (100 : Int) < (e.fmt.size : Int) := by omega
                    clear hcc2 he hf
                    generalize e.fmt = fm at *
                    go_wp2_with fail
                    go_ret
                    exact ⟨.inl rfl, hb0⟩
                  · have hfi : ¬ (100 : Int) < (e.fmt.size : Int) := by omega
                    have HM2 : Hid (∀ j e', j < m + 1 → zer[j]? = some e' → e'.fmt.size ≤ 100) := Lib.hid fun j e' hj he' => by
                      rcases Nat.lt_succ_iff_lt_or_eq.mp hj with hj | rfl
                      · exact HM.out j e' hj he'
                      · rw [he] at he'; injection he' with he'; rw [← he']; omega
                    clear hcc2 he hf HM
                    generalize e.fmt = fm at *
                    go_wp2_with fail
                    go_round
                    case rel => exact ⟨m + 1, by omega, by go_num, HM2⟩
                    case measure => simp [intOf]; omega
                · obtain rfl : NE = m := by omega
                  have hmi : ¬ (NE : Int) < (NE : Int) := by omega
                  have HK2 : Hid (∀ j z, j < k + 1 → s.zones[j]? = some z → z.eras.length ≤ 20 ∧ ∀ e ∈ z.eras, e.fmt.size ≤ 100) := Lib.hid fun j z hj hz => by
                    rcases Nat.lt_succ_iff_lt_or_eq.mp hj with hj | rfl
                    · exact HK.out j z hj hz
                    · have q := HZz.out
                      rw [q] at hz
                      injection hz with hz
                      rw [← hz]
                      refine ⟨by show zer.length ≤ 20; rw [HNE.out]; exact hne20, fun e he => ?_⟩
                      obtain ⟨j2, hj2⟩ := List.mem_iff_getElem?.1 he
                      exact HM.out j2 e (by rw [← HNE.out]; exact (List.getElem?_eq_some_iff.mp hj2).1) hj2
                  clear HM HK HEC HFE HZz
                  go_wp2_with fail
                  go_round
                  case rel => exact ⟨k + 1, by omega, by go_num, HK2⟩
                  case measure => simp [intOf]; omega
          · obtain rfl : NZ = k := by omega
            have hki : ¬ (NZ : Int) < (NZ : Int) := by omega
            have hF : Few24 s := ⟨by rw [HNR.out]; exact HQ.out.1, by rw [HNZ.out]; exact hNZ10, by rw [HNH.out]; exact HQ.out.2, fun z hz => by
              obtain ⟨j, hj⟩ := List.mem_iff_getElem?.1 hz
              exact (HK.out j z (by rw [← HNZ.out]; exact (List.getElem?_eq_some_iff.mp hj).1) hj).1, fun z hz => by
              obtain ⟨j, hj⟩ := List.mem_iff_getElem?.1 hz
              exact (HK.out j z (by rw [← HNZ.out]; exact (List.getElem?_eq_some_iff.mp hj).1) hj).2⟩
            have HF := Lib.hid hF
            clear HK hF
            go_wp2_with fail
            go_ret
            exact ⟨.inr ⟨rfl, HF.out⟩, hb0⟩
end Go.Proofs.YtbajlkpjemandaaDoor
