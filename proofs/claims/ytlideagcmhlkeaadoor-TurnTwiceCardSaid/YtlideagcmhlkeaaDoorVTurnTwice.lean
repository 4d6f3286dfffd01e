/- TurnTwice: for every input the law returns true, and each argument reads as before. No condition beside the row's own (the listed package-level variables read as listed; the card ties them to the program's text). -/
import Derived.Test.YtlideagcmhlkeaaDoorT11
import Derived.BigQuiet
import Derived.Test.YtlideagcmhlkeaaDoorCards
import Derived.Test.YtlideagcmhlkeaaDoorTie
import Derived.Carry
import Derived.WalkKit
import Derived.ProofKit
import Derived.OpenShut
import Derived.ShutString
import Derived.LaidMore
import Derived.ChangeOld
import Derived.Below
import Derived.Stop.Joined
import Derived.Lib.SmallJoins
import Derived.SevenTiedAt

/- The walk of the law TurnTwice (chapter 29). -/
namespace Go.Proofs.YtlideagcmhlkeaaDoor
open Go.RowKit Go.Lib
set_option linter.unusedVariables false
set_option linter.unusedSimpArgs false
attribute [local go_sem high] neq_era
set_option maxRecDepth 100000 in
set_option maxHeartbeats 16000000 in
theorem walkTurnTwice (d : D25) (w : World) (hd : D25In w d) (hv : Vars21 w) :
    Calls Tryd.prog 9 #[.agg #[.slice d.sA d.sets.length d.sc, .int .u8 d.zs, .int .u8 d.ls, .slice d.lA d.nums.length d.lc]] w fun e w' => e = .returned (.bool true) ∧ Below w.heap.size w w' := by
  have hX := Blk.new w 79 #[.slice d.sA d.sets.length d.sc, .int .u8 d.zs, .int .u8 d.ls, .slice d.lA d.nums.length d.lc]
  have hb0 := (Below.refl w.heap.size w).alloc (Nat.le_refl _) (.cells #[.slice d.sA d.sets.length d.sc, .int .u8 d.zs, .int .u8 d.ls, .slice d.lA d.nums.length d.lc] 79)
  have HB := Lib.hid hb0; have HD := Lib.hid hd; have HV := Lib.hid hv
  have c0 := (hX.cell 0).trans rfl; have c1 := (hX.cell 1).trans rfl; have c2 := (hX.cell 2).trans rfl; have c3 := (hX.cell 3).trans rfl
  clear hX hb0 hd hv
  go_enter Tryd.func9, Tryd.ntmps9
  go_wp2_with fail
  refine (made25_any d _ (HD.out.below HB.out)).mono ?_
  rintro e Wt ⟨t, rfl, hG, hi, hc⟩
  have HGD := Lib.hid hi.good; have HF := Lib.hid hi.good.few
  have hal := (Below.refl Wt.heap.size Wt).alloc (Nat.le_refl _) (.cells #[.slice t.rA t.rules.length t.rc, .slice t.zA t.zones.length t.zc, .slice t.kA t.links.length t.kc, .slice t.hA t.shifts.length t.hc] 32)
  have HB1 := Lib.hid ((HB.out.trans (hc.mono HB.out.size)).trans (hal.mono (HB.out.trans (hc.mono HB.out.size)).size))
  have HGt := Lib.hid (hG.below hal)
  have HXt := Lib.hid (Blk.new Wt 32 #[.slice t.rA t.rules.length t.rc, .slice t.zA t.zones.length t.zc, .slice t.kA t.links.length t.kc, .slice t.hA t.shifts.length t.hc])
  clear c0 c1 c2 c3 HB hG hi hc hal
  have c0 := (HXt.out.cell 0).trans rfl; have c1 := (HXt.out.cell 1).trans rfl; have c2 := (HXt.out.cell 2).trans rfl; have c3 := (HXt.out.cell 3).trans rfl
  go_wp2_with fail
  refine (teras_any t ⟨#[82]⟩ _ HGt.out.src HF.out (HV.out.below HB1.out)).mono ?_
  rintro e Wa ⟨a, rfl, hcp, hsm, hc⟩
  have HSM := Lib.hid hsm
  have HGA := Lib.hid (show Good25 a from (HGD.out.turn ⟨#[82]⟩).same hsm)
  have HFA := Lib.hid HGA.out.few
  have hal := (Below.refl Wa.heap.size Wa).alloc (Nat.le_refl _) (.cells #[.slice a.rA a.rules.length a.rc, .slice a.zA a.zones.length a.zc, .slice a.kA a.links.length a.kc, .slice a.hA a.shifts.length a.hc] 32)
  have HB := Lib.hid ((HB1.out.trans (hc.mono HB1.out.size)).trans (hal.mono (HB1.out.trans (hc.mono HB1.out.size)).size))
  have HGt' := Lib.hid ((HGt.out.below hc).below hal)
  have HGa := Lib.hid ((hcp.srcG).below hal)
  have HXt' := Lib.hid ((HXt.out.below hc HXt.out.lt).below hal (HXt.out.below hc HXt.out.lt).lt)
  have HXa := Lib.hid (Blk.new Wa 32 #[.slice a.rA a.rules.length a.rc, .slice a.zA a.zones.length a.zc, .slice a.kA a.links.length a.kc, .slice a.hA a.shifts.length a.hc])
  clear c0 c1 c2 c3 HB1 HGt HXt hcp hsm hc hal
  have HGt := HGt'; have HXt := HXt'
  clear HGt' HXt'
  go_upto_region 3 with fail
  generalize (Wa.alloc (.cells #[.slice a.rA a.rules.length a.rc, .slice a.zA a.zones.length a.zc, .slice a.kA a.links.length a.kc, .slice a.hA a.shifts.length a.hc] 32)) = V0 at HXt HXa HB HGt HGa ⊢
  generalize Wt.heap.size = g3 at HXt ⊢; generalize Wa.heap.size = g4 at HXa ⊢
  refine wp_region_shape [(some 13, []), (some 14, [0]), (some 15, []), (some 16, [1, 2, 1]), (some 17, [3]), (some 18, [4, 3]), (some 19, [5]), (some 20, [6, 5, 5]), (some 21, [5]), (some 22, [7, 8, 7, 5]), (some 23, [9, 5]), (some 24, [5, 10])] (fun y => { tmps := #[.agg #[.slice d.sA d.sets.length d.sc, .int .u8 d.zs, .int .u8 d.ls, .slice d.lA d.nums.length d.lc], Value.pointer (some ⟨w.heap.size, 0, none⟩), .bool false, Value.pointer (some ⟨g3, 0, none⟩), Value.pointer (some ⟨g4, 0, none⟩), undef, undef, undef, undef, .agg #[.slice d.sA d.sets.length d.sc, .int .u8 d.zs, .int .u8 d.ls, .slice d.lA d.nums.length d.lc], Value.agg #[.slice t.rA t.rules.length t.rc, .slice t.zA t.zones.length t.zc, .slice t.kA t.links.length t.kc, .slice t.hA t.shifts.length t.hc], Value.agg #[.slice t.rA t.rules.length t.rc, .slice t.zA t.zones.length t.zc, .slice t.kA t.links.length t.kc, .slice t.hA t.shifts.length t.hc], Value.agg #[.slice a.rA a.rules.length a.rc, .slice a.zA a.zones.length a.zc, .slice a.kA a.links.length a.kc, .slice a.hA a.shifts.length a.hc], y 13, y 14, y 15, y 16, y 17, y 18, y 19, y 20, y 21, y 22, y 23, y 24, undef, undef, undef, undef, undef, undef, undef, undef, undef, undef, undef, undef, undef, undef, undef, undef, undef, undef, undef, undef, undef, undef, undef, undef, undef, undef, undef, undef, undef, undef, undef, undef, undef, undef, undef, undef, undef, undef, undef, undef, undef, undef, undef, undef, undef, undef, undef, undef, undef, undef, undef, undef, undef, undef, undef, undef, undef, undef, undef, undef, undef, undef, undef, undef, undef, undef, undef, undef, undef], defers := [] }) (fun _ => undef) (fun j => j == 1 || j == 7) [Value.agg #[.slice a.rA a.rules.length a.rc, .slice a.zA a.zones.length a.zc, .slice a.kA a.links.length a.kc, .slice a.hA a.shifts.length a.hc], undef, Value.agg #[.slice t.rA t.rules.length t.rc, .slice t.zA t.zones.length t.zc, .slice t.kA t.links.length t.kc, .slice t.hA t.shifts.length t.hc], .bool true, .bool false, .bool false, Value.agg #[.slice t.rA t.rules.length t.rc, .slice t.zA t.zones.length t.zc, .slice t.kA t.links.length t.kc, .slice t.hA t.shifts.length t.hc], undef, Value.agg #[.slice t.rA t.rules.length t.rc, .slice t.zA t.zones.length t.zc, .slice t.kA t.links.length t.kc, .slice t.hA t.shifts.length t.hc], .bool true, .bool false, .bool false] (fun j y W => match j with | 1 => ∃ b : SV, y 14 = Value.agg #[.slice b.rA b.rules.length b.rc, .slice b.zA b.zones.length b.zc, .slice b.kA b.links.length b.kc, .slice b.hA b.shifts.length b.hc] ∧ SrcG W b ∧ sSame14 b (mapS (turnE ⟨#[82]⟩) a) | 7 => ∃ b : SV, y 20 = Value.agg #[.slice b.rA b.rules.length b.rc, .slice b.zA b.zones.length b.zc, .slice b.kA b.links.length b.kc, .slice b.hA b.shifts.length b.hc] ∧ SrcG W b ∧ sSame14 b (mapS (turnE ⟨#[78, 111, 110, 101]⟩) t) | _ => True) (fun j => match j with | 1 => [14] | 7 => [20] | _ => []) (fun W W' => Below W.heap.size W W') (fun W => Below V0.heap.size V0 W) (by kernel_rfl) (by kernel_rfl) (by decide +kernel) rfl (Below.refl _ _).drew ?hput3 ?hloc3 ?hmono3 ?hstep3 ?hdone3
  case hput3 =>
    intro d hd y v
    simp only [List.filterMap_cons, List.filterMap_nil, List.mem_cons, List.not_mem_nil, or_false] at hd
    rcases hd with rfl | rfl | rfl | rfl | rfl | rfl | rfl | rfl | rfl | rfl | rfl | rfl
    all_goals rfl
  case hloc3 =>
    intro j hj y y' W hk hx
    have hj' : j = 1 ∨ j = 7 := by simpa [or_assoc] using hj
    rcases hj' with rfl | rfl
    · simp only [List.forall_mem_cons, List.not_mem_nil, false_imp_iff, implies_true, and_true] at hk
      show _
      simpa only [hk] using hx
    · simp only [List.forall_mem_cons, List.not_mem_nil, false_imp_iff, implies_true, and_true] at hk
      show _
      simpa only [hk] using hx
  case hmono3 =>
    intro j hj hlast y W W' hg hx
    have hj' : j = 1 ∨ j = 7 := by simpa [or_assoc] using hj
    rcases hj' with rfl | rfl
    · obtain ⟨b, h1, h2, h3⟩ := hx; exact ⟨b, h1, h2.below hg, h3⟩
    · obtain ⟨b, h1, h2, h3⟩ := hx; exact ⟨b, h1, h2.below hg, h3⟩
  case hdone3 =>
    intro y3 V1 hS hd
    have e24 : y3 24 = .bool false := (hd 11 (by decide)).val rfl rfl
    have HBz := Lib.hid (HB.out.trans (hS.mono HB.out.size))
    have HVz := Lib.hid hS
    clear hd hS
    rw [e24]
    obtain ⟨V, hV⟩ : ∃ x, x = V1 := ⟨_, rfl⟩
    subst hV
    have hzl : a.zones.length = t.zones.length := turned_len HSM.out
    have hzne : ((a.zones.length : Int) != (t.zones.length : Int)) = false := by rw [hzl]; simp
    clear hzl
    go_upto_region 5 with fail
    refine wp_region_shape [(some 25, []), (some 26, [0]), (some 27, []), (some 28, [2, 1]), (some 29, [3, 3]), (some 30, [1, 4, 4]), (some 31, [5]), (some 32, [6, 5]), (some 33, [7]), (some 34, [8, 7]), (some 35, [9, 7]), (some 36, [7]), (some 37, [11, 7]), (some 38, [12, 7]), (some 39, [10, 13, 7]), (some 40, [7, 14])] (fun y => { tmps := #[.agg #[.slice d.sA d.sets.length d.sc, .int .u8 d.zs, .int .u8 d.ls, .slice d.lA d.nums.length d.lc], Value.pointer (some ⟨w.heap.size, 0, none⟩), .bool false, Value.pointer (some ⟨g3, 0, none⟩), Value.pointer (some ⟨g4, 0, none⟩), undef, undef, undef, undef, .agg #[.slice d.sA d.sets.length d.sc, .int .u8 d.zs, .int .u8 d.ls, .slice d.lA d.nums.length d.lc], Value.agg #[.slice t.rA t.rules.length t.rc, .slice t.zA t.zones.length t.zc, .slice t.kA t.links.length t.kc, .slice t.hA t.shifts.length t.hc], Value.agg #[.slice t.rA t.rules.length t.rc, .slice t.zA t.zones.length t.zc, .slice t.kA t.links.length t.kc, .slice t.hA t.shifts.length t.hc], Value.agg #[.slice a.rA a.rules.length a.rc, .slice a.zA a.zones.length a.zc, .slice a.kA a.links.length a.kc, .slice a.hA a.shifts.length a.hc], y3 13, y3 14, y3 15, y3 16, y3 17, y3 18, y3 19, y3 20, y3 21, y3 22, y3 23, .bool false, y 25, y 26, y 27, y 28, y 29, y 30, y 31, y 32, y 33, y 34, y 35, y 36, y 37, y 38, y 39, y 40, undef, undef, undef, undef, undef, undef, undef, undef, undef, undef, undef, undef, undef, undef, undef, undef, undef, undef, undef, undef, undef, undef, undef, undef, undef, undef, undef, undef, undef, undef, undef, undef, undef, undef, undef, undef, undef, undef, undef, undef, undef, undef, undef, undef, undef, undef, undef, undef, undef, undef, undef, undef, undef], defers := [] }) (fun _ => undef) (fun j => j == 1 || j == 3 || j == 4) [Value.agg #[.slice a.rA a.rules.length a.rc, .slice a.zA a.zones.length a.zc, .slice a.kA a.links.length a.kc, .slice a.hA a.shifts.length a.hc], undef, Value.agg #[.slice t.rA t.rules.length t.rc, .slice t.zA t.zones.length t.zc, .slice t.kA t.links.length t.kc, .slice t.hA t.shifts.length t.hc], undef, undef, .bool true, .bool false, .bool false, Value.pointer (some ⟨g4, 1, none⟩), .slice a.zA a.zones.length a.zc, .int .i64 a.zones.length, Value.pointer (some ⟨g3, 1, none⟩), .slice t.zA t.zones.length t.zc, .int .i64 t.zones.length, .bool false, .bool false] (fun j y W => match j with | 1 => ∃ b : SV, y 26 = Value.agg #[.slice b.rA b.rules.length b.rc, .slice b.zA b.zones.length b.zc, .slice b.kA b.links.length b.kc, .slice b.hA b.shifts.length b.hc] ∧ SrcG W b ∧ sSame14 b (mapS (turnE ⟨#[69, 117, 45, 120]⟩) a) | 3 => ∃ b : SV, y 28 = Value.agg #[.slice b.rA b.rules.length b.rc, .slice b.zA b.zones.length b.zc, .slice b.kA b.links.length b.kc, .slice b.hA b.shifts.length b.hc] ∧ SrcG W b ∧ sSame14 b (mapS (turnE ⟨#[69, 117, 45, 120]⟩) t) | 4 => ∃ b c : SV, y 28 = Value.agg #[.slice c.rA c.rules.length c.rc, .slice c.zA c.zones.length c.zc, .slice c.kA c.links.length c.kc, .slice c.hA c.shifts.length c.hc] ∧ y 29 = Value.agg #[.slice b.rA b.rules.length b.rc, .slice b.zA b.zones.length b.zc, .slice b.kA b.links.length b.kc, .slice b.hA b.shifts.length b.hc] ∧ SrcG W b ∧ sSame14 c (mapS (turnE ⟨#[69, 117, 45, 120]⟩) t) ∧ sSame14 b (mapS (turnE ⟨#[82]⟩) c) | _ => True) (fun j => match j with | 1 => [26] | 3 => [28] | 4 => [28, 29] | _ => []) (fun W W' => Below W.heap.size W W') (fun W => Below V0.heap.size V0 W) (by kernel_rfl) (by kernel_rfl) (by decide +kernel) rfl HVz.out.drew ?hput5 ?hloc5 ?hmono5 ?hstep5 ?hdone5
    case hput5 =>
      intro d hd y v
      simp only [List.filterMap_cons, List.filterMap_nil, List.mem_cons, List.not_mem_nil, or_false] at hd
      rcases hd with rfl | rfl | rfl | rfl | rfl | rfl | rfl | rfl | rfl | rfl | rfl | rfl | rfl | rfl | rfl | rfl
      all_goals rfl
    case hloc5 =>
      intro j hj y y' W hk hx
      have hj' : j = 1 ∨ j = 3 ∨ j = 4 := by simpa [or_assoc] using hj
      rcases hj' with rfl | rfl | rfl
      · simp only [List.forall_mem_cons, List.not_mem_nil, false_imp_iff, implies_true, and_true] at hk
        show _
        simpa only [hk] using hx
      · simp only [List.forall_mem_cons, List.not_mem_nil, false_imp_iff, implies_true, and_true] at hk
        show _
        simpa only [hk] using hx
      · simp only [List.forall_mem_cons, List.not_mem_nil, false_imp_iff, implies_true, and_true] at hk
        simpa only [hk.1, hk.2] using hx
    case hmono5 =>
      intro j hj hlast y W W' hg hx
      have hj' : j = 1 ∨ j = 3 ∨ j = 4 := by simpa [or_assoc] using hj
      rcases hj' with rfl | rfl | rfl
      · obtain ⟨b, h1, h2, h3⟩ := hx; exact ⟨b, h1, h2.below hg, h3⟩
      · obtain ⟨b, h1, h2, h3⟩ := hx; exact ⟨b, h1, h2.below hg, h3⟩
      · obtain ⟨b, c, h1, h0, h2, h3⟩ := hx; exact ⟨b, c, h1, h0, h2.below hg, h3⟩
    case hdone5 =>
      intro y5 V5 hS hd
      have e40 : y5 40 = .bool false := (hd 15 (by decide)).val rfl rfl
      have HBW := Lib.hid hS
      clear hd hS
      rw [e40]
      obtain ⟨V6, hV6⟩ : ∃ x, x = V5 := ⟨_, rfl⟩
      subst hV6
      have c1 := ((HXt.out.below HBW.out HXt.out.lt).cell 1).trans rfl
      have hzl : (t.zones.length : Int) ≤ 3 := by have := HGD.out.zones; omega
      go_wp2_with fail
      clear c1 hzne
      go_loopw [44] (fun i W => ∃ p : Nat, p ≤ t.zones.length ∧ i = .int .i64 p ∧ Below V0.heap.size V0 W) (fun i _ => t.zones.length - (intOf i).toNat)
      case atStart => exact ⟨0, Nat.zero_le _, rfl, HBW.out⟩
      case round =>
        obtain ⟨wo, hwo⟩ : ∃ x, x = wr := ⟨_, rfl⟩
        subst hwo
        obtain ⟨p, hp2, rfl, hb⟩ := hrel
        have HBO := Lib.hid hb
        by_cases hpt : p < t.zones.length
        · have hpi : (p : Int) < (t.zones.length : Int) := by omega
          have hp0 : (0 : Int) ≤ (p : Int) := by omega
          obtain ⟨z, hz⟩ : ∃ z, t.zones[p]? = some z := ⟨_, List.getElem?_eq_getElem hpt⟩
          obtain ⟨zy, hy, hye⟩ := turned_at HSM.out hz
          have hyl : zy.eras.length = z.eras.length := by rw [hye, List.length_map]
          have HZ := Lib.hid hz; have HY := Lib.hid hy; have HYE := Lib.hid hye; have HPT := Lib.hid hpt
          have HZM := Lib.hid (List.mem_of_getElem? hz); have HYM := Lib.hid (List.mem_of_getElem? hy)
          have hze : (z.eras.length : Int) ≤ 4 := by have := HGD.out.eras z HZM.out; omega
          obtain ⟨gz, oz, hzA, _, haz⟩ := ((HGt.out.below hb).src.zones) p z hz
          have n0 : wo.cell? ⟨gz, oz + p * 2, none⟩ = some (.string z.name) := haz 0 _ rfl
          have n1 : wo.cell? ⟨gz, oz + p * 2 + 1, none⟩ = some (.slice z.A z.eras.length z.c) := haz 1 _ rfl
          have hzne2 : ((z.eras.length : Int) != (z.eras.length : Int)) = false := by simp
          have hal := (Below.refl wo.heap.size wo).alloc (Nat.le_refl _) (.cells #[.string z.name, .slice z.A z.eras.length z.c] 39)
          have HB1 := Lib.hid (hb.trans (hal.mono hb.size))
          have hx6 := Blk.new wo 39 #[.string z.name, .slice z.A z.eras.length z.c]
          have k1 := (hx6.cell 1).trans rfl
          have d1 := ((HXa.out.below HB1.out HXa.out.lt).cell 1).trans rfl
          obtain ⟨gy, oy, hyA, _, hay⟩ := ((HGa.out.below HB1.out).src.zones) p zy hy
          have m1 : (wo.alloc (.cells #[.string z.name, .slice z.A z.eras.length z.c] 39)).cell? ⟨gy, oy + p * 2 + 1, none⟩ = some (.slice zy.A zy.eras.length zy.c) := hay 1 _ rfl
          rw [hyl] at m1
          rw [turned_len HSM.out] at d1
          rw [hyA] at d1
          rw [hzA]
          clear hb hz hy hye hyl haz hay hpt hal hx6 hyA
          go_upto_region 10 with fail
          go_quiet (fail)
          clear d1 m1 n0 n1
          go_wp2_with fail
          clear k1 hzne2
          go_loopw [63] (fun i W => ∃ q : Nat, q ≤ z.eras.length ∧ i = .int .i64 q ∧ Below V0.heap.size V0 W) (fun i _ => z.eras.length - (intOf i).toNat)
          case atStart => exact ⟨0, Nat.zero_le _, rfl, below_drewN HB1.out _⟩
          case round =>
            obtain ⟨wi, hwi⟩ : ∃ x, x = wr := ⟨_, rfl⟩
            subst hwi
            obtain ⟨q, hq2, rfl, hb⟩ := hrel
            by_cases hqt : q < z.eras.length
            · have hqi : (q : Int) < (z.eras.length : Int) := by omega
              have hq0 : (0 : Int) ≤ (q : Int) := by omega
              obtain ⟨e, he⟩ : ∃ e, z.eras[q]? = some e := ⟨_, List.getElem?_eq_getElem hqt⟩
              have hyq : zy.eras[q]? = some (turnE ⟨#[82]⟩ e) := by rw [HYE.out, List.getElem?_map, he]; rfl
              have HGE := Lib.hid (HGD.out.era z HZM.out e (List.mem_of_getElem? he))
              have HQT := Lib.hid hqt; have HYQ := Lib.hid hyq
              obtain ⟨ge, oe, heA, _, hae⟩ := ((HGt.out.below hb).src.eras z HZM.out) q e he
              rw [heA]
              have y0 : wi.cell? ⟨ge, oe + q * 13, none⟩ = some (.int .i64 e.off) := hae 0 _ rfl
              have y1 := hae 1 _ rfl; have y2 := hae 2 _ rfl; have y3 := hae 3 _ rfl; have y4 := hae 4 _ rfl; have y5 := hae 5 _ rfl; have y6 := hae 6 _ rfl; have y7 := hae 7 _ rfl; have y8 := hae 8 _ rfl; have y9 := hae 9 _ rfl; have y10 := hae 10 _ rfl; have y11 := hae 11 _ rfl; have y12 := hae 12 _ rfl
              have hal := (Below.refl wi.heap.size wi).alloc (Nat.le_refl _) (.cells #[.int .i64 e.off, .int .i64 e.kind, .int .i64 e.save, .string e.set, .string e.fmt, .bool e.ui, .int .i64 e.uy, .int .i64 e.um, .int .i64 e.dk, .int .i64 e.dw, .int .i64 e.dd, .int .i64 e.asec, .int .i64 e.ab] 47)
              have HB2 := Lib.hid (hb.trans (hal.mono hb.size))
              have HX8 := Lib.hid (Blk.new wi 47 #[.int .i64 e.off, .int .i64 e.kind, .int .i64 e.save, .string e.set, .string e.fmt, .bool e.ui, .int .i64 e.uy, .int .i64 e.um, .int .i64 e.dk, .int .i64 e.dw, .int .i64 e.dd, .int .i64 e.asec, .int .i64 e.ab])
              have x1 := (HX8.out.cell 1).trans rfl; have x3 := (HX8.out.cell 3).trans rfl
              have HSZ := Lib.hid (show V0.heap.size ≤ wi.heap.size from hb.size)
              clear hb he hyq hqt hae hal
              go_upto_region 15 with fail
              clear y0 y1 y2 y3 y4 y5 y6 y7 y8 y9 y10 y11 y12
              obtain ⟨B, hB⟩ : ∃ b, decide (e.kind = 2 ∧ e.set = ⟨#[82]⟩) = b := ⟨_, rfl⟩
              have HBD := Lib.hid hB
              clear hB
              go_cut [75] (fun s75 wx => s75 = .bool B ∧ wx = (wi.alloc (.cells #[.int .i64 e.off, .int .i64 e.kind, .int .i64 e.save, .string e.set, .string e.fmt, .bool e.ui, .int .i64 e.uy, .int .i64 e.um, .int .i64 e.dk, .int .i64 e.dw, .int .i64 e.dd, .int .i64 e.asec, .int .i64 e.ab] 47)))
              case first =>
                by_cases hk : e.kind = 2
                · have hk2 : (e.kind == 2) = true := by rw [hk]; rfl
                  by_cases hs : e.set = ⟨#[82]⟩
                  · have hs2 : (e.set.toList == [82]) = true := by rw [hs, ByteArray.toList_eq]; rfl
                    have HR := Lib.hid (show decide (e.kind = 2 ∧ e.set = ⟨#[82]⟩) = true from decide_eq_true ⟨hk, hs⟩)
                    clear hk hs
                    go_wp2_with fail
                    go_meet
                    exact ⟨by rw [← HBD.out, HR.out], rfl⟩
                  · have hs2 : (e.set.toList == [82]) = false := by rw [beq_eq_false_iff_ne]; exact fun q => hs ((toList_eq_iff _ _).1 (q.trans (by rw [ByteArray.toList_eq])))
                    have HR := Lib.hid (show decide (e.kind = 2 ∧ e.set = ⟨#[82]⟩) = false from decide_eq_false fun q => hs q.2)
                    clear hk hs
                    go_wp2_with fail
                    go_meet
                    exact ⟨by rw [← HBD.out, HR.out], rfl⟩
                · have hk2 : (e.kind == 2) = false := by rw [beq_eq_false_iff_ne]; exact hk
                  have HR := Lib.hid (show decide (e.kind = 2 ∧ e.set = ⟨#[82]⟩) = false from decide_eq_false fun q => hk q.1)
                  clear hk
                  go_wp2_with fail
                  go_meet
                  exact ⟨by rw [← HBD.out, HR.out], rfl⟩
              obtain ⟨rfl, rfl⟩ := hcut
              clear x1 x3
              go_upto_if 75 with fail
              go_cut [79] (fun s79 wx => Hid (Below V0.heap.size V0 wx ∧ Blk wx wi.heap.size 47 #[.int .i64 (turnE ⟨#[82]⟩ e).off, .int .i64 (turnE ⟨#[82]⟩ e).kind, .int .i64 (turnE ⟨#[82]⟩ e).save, .string (turnE ⟨#[82]⟩ e).set, .string (turnE ⟨#[82]⟩ e).fmt, .bool (turnE ⟨#[82]⟩ e).ui, .int .i64 (turnE ⟨#[82]⟩ e).uy, .int .i64 (turnE ⟨#[82]⟩ e).um, .int .i64 (turnE ⟨#[82]⟩ e).dk, .int .i64 (turnE ⟨#[82]⟩ e).dw, .int .i64 (turnE ⟨#[82]⟩ e).dd, .int .i64 (turnE ⟨#[82]⟩ e).asec, .int .i64 (turnE ⟨#[82]⟩ e).ab]))
              case first =>
                cases B with
                | true =>
                  have HTE := Lib.hid (turnE_yes (of_decide_eq_true HBD.out).1 (of_decide_eq_true HBD.out).2)
                  have x4 := (HX8.out.cell 4).trans rfl
                  have f4 := HX8.out.frozen 4
                  go_wp2_with fail
                  refine (tformat_any e.fmt _ (by have := HGE.out.fmt; omega) (HV.out.below (HB.out.trans (HB2.out.mono HB.out.size)))).mono ?_
                  rintro x W9 ⟨rfl, hc⟩
                  have HX9 := Lib.hid (HX8.out.below hc HX8.out.lt)
                  have HB9 := Lib.hid (HB2.out.trans (hc.mono HB2.out.size))
                  clear hc x4 f4
                  have x4 := (HX9.out.cell 4).trans rfl
                  have f4 := HX9.out.frozen 4
                  go_wp2_with fail
                  go_meet
                  refine Lib.hid ⟨HB9.out.setCell (p := ⟨wi.heap.size, 4, none⟩) HSZ.out _, ?_⟩
                  have z := HX9.out.set_ 4 (.string (turnB e.fmt))
                  rw [HTE.out]
                  exact z
                | false =>
                  have HTE := Lib.hid (turnE_no (of_decide_eq_false HBD.out))
                  go_wp2_with fail
                  go_meet
                  rw [HTE.out]
                  exact Lib.hid ⟨HB2.out, HX8.out⟩
              case rest =>
                clear HX8 HB2
                obtain ⟨W9, hW9⟩ : ∃ x, x = wc := ⟨_, rfl⟩
                subst hW9
                have HC := hcut
                clear hcut
                obtain ⟨f, hf⟩ : ∃ f, f = turnE ⟨#[82]⟩ e := ⟨_, rfl⟩
                rw [← hf] at HC HYQ
                have hx8 := HC.out.2
                have HB3 := Lib.hid HC.out.1
                have y0 := (hx8.cell 0).trans rfl; have y1 := (hx8.cell 1).trans rfl; have y2 := (hx8.cell 2).trans rfl; have y3 := (hx8.cell 3).trans rfl; have y4 := (hx8.cell 4).trans rfl; have y5 := (hx8.cell 5).trans rfl; have y6 := (hx8.cell 6).trans rfl; have y7 := (hx8.cell 7).trans rfl; have y8 := (hx8.cell 8).trans rfl; have y9 := (hx8.cell 9).trans rfl; have y10 := (hx8.cell 10).trans rfl; have y11 := (hx8.cell 11).trans rfl; have y12 := (hx8.cell 12).trans rfl
                have d1 := ((HXa.out.below HB3.out HXa.out.lt).cell 1).trans rfl
                obtain ⟨gy2, oy2, hyA, _, hay⟩ := ((HGa.out.below HB3.out).src.zones) p zy HY.out
                have m1 : W9.cell? ⟨gy2, oy2 + p * 2 + 1, none⟩ = some (.slice zy.A zy.eras.length zy.c) := hay 1 _ rfl
                rw [show zy.eras.length = z.eras.length by rw [HYE.out, List.length_map]] at m1
                rw [turned_len HSM.out] at d1
                rw [hyA] at d1
                obtain ⟨gf, of_, hfA, _, haf⟩ := ((HGa.out.below HB3.out).src.eras zy HYM.out) q f HYQ.out
                rw [hfA] at m1
                have x0 : W9.cell? ⟨gf, of_ + q * 13, none⟩ = some (.int .i64 f.off) := haf 0 _ rfl
                have x1 := haf 1 _ rfl; have x2 := haf 2 _ rfl; have x3 := haf 3 _ rfl; have x4 := haf 4 _ rfl; have x5 := haf 5 _ rfl; have x6 := haf 6 _ rfl; have x7 := haf 7 _ rfl; have x8 := haf 8 _ rfl; have x9 := haf 9 _ rfl; have x10 := haf 10 _ rfl; have x11 := haf 11 _ rfl; have x12 := haf 12 _ rfl
                clear HC hf hx8 hay haf hyA hfA
                go_upto_region 17 with fail
                go_quiet (fail)
                clear y0 y1 y2 y3 y4 y5 y6 y7 y8 y9 y10 y11 y12 x0 x1 x2 x3 x4 x5 x6 x7 x8 x9 x10 x11 x12 d1 m1
                go_wp2_with fail
                go_roundw
                case rel => exact ⟨q + 1, by have := HQT.out; omega, by go_num, below_drewN HB3.out _⟩
                case measure => have := HQT.out; simp [intOf]; omega
            · have hqi : ¬ (q : Int) < (z.eras.length : Int) := by omega
              have HBI := Lib.hid hb
              clear hb
              go_wp2_with fail
              go_roundw
              case rel => exact ⟨p + 1, by have := HPT.out; omega, by go_num, HBI.out⟩
              case measure => have := HPT.out; simp [intOf]; omega
        · have hpi : ¬ (p : Int) < (t.zones.length : Int) := by omega
          clear hb
          go_wp2_with fail
          refine (works29_any _ (HV.out.below (HB.out.trans (HBO.out.mono HB.out.size)))).mono ?_
          rintro e W9 ⟨rfl, hc⟩
          have HBE := Lib.hid ((HB.out.trans (HBO.out.mono HB.out.size)).trans (hc.mono (HB.out.trans (HBO.out.mono HB.out.size)).size))
          clear hc
          go_wp2_with fail
          go_ret
          exact ⟨rfl, HBE.out⟩
    case hstep5 =>
      refine StepsOk.cons (StepOk.known rfl fun y W hS hd K' hK => ?_) ?_
      · skip
        clear hd
        have hz := HXa.out.below hS HXa.out.lt
        have z0 := (hz.cell 0).trans rfl
        have z1 := (hz.cell 1).trans rfl
        have z2 := (hz.cell 2).trans rfl
        have z3 := (hz.cell 3).trans rfl
        clear hz
        go_simp
        exact hK.out _ _ rfl (Below.refl _ _) hS
      refine StepsOk.cons (StepOk.other rfl fun y W hS hd K' hK => ?_) ?_
      · skip
        have e25 : y 25 = Value.agg #[.slice a.rA a.rules.length a.rc, .slice a.zA a.zones.length a.zc, .slice a.kA a.links.length a.kc, .slice a.hA a.shifts.length a.hc] := (hd 0 rfl).val rfl rfl
        clear hd
        go_simp
        refine (teras_any a ⟨#[69, 117, 45, 120]⟩ _ (HGa.out.below hS).src HFA.out (HV.out.below (HB.out.trans (hS.mono HB.out.size)))).mono ?_
        rintro e W' ⟨b, rfl, hcp, hsm, hc⟩
        go_wp2_with fail
        exact hK.out _ _ _ (by first | rfl | (simp only [e25]; done) | (simp only [e25]; rfl)) hc (hS.trans (hc.mono hS.size)) (show ∃ b : SV, _ = Value.agg #[.slice b.rA b.rules.length b.rc, .slice b.zA b.zones.length b.zc, .slice b.kA b.links.length b.kc, .slice b.hA b.shifts.length b.hc] ∧ SrcG _ b ∧ sSame14 b (mapS (turnE ⟨#[69, 117, 45, 120]⟩) a) from ⟨b, rfl, hcp.srcG, hsm⟩)
      refine StepsOk.cons (StepOk.known rfl fun y W hS hd K' hK => ?_) ?_
      · skip
        clear hd
        have hz := HXt.out.below hS HXt.out.lt
        have z0 := (hz.cell 0).trans rfl
        have z1 := (hz.cell 1).trans rfl
        have z2 := (hz.cell 2).trans rfl
        have z3 := (hz.cell 3).trans rfl
        clear hz
        go_simp
        exact hK.out _ _ rfl (Below.refl _ _) hS
      refine StepsOk.cons (StepOk.other rfl fun y W hS hd K' hK => ?_) ?_
      · skip
        have e27 : y 27 = Value.agg #[.slice t.rA t.rules.length t.rc, .slice t.zA t.zones.length t.zc, .slice t.kA t.links.length t.kc, .slice t.hA t.shifts.length t.hc] := (hd 2 rfl).val rfl rfl
        clear hd
        go_simp
        refine (teras_any t ⟨#[69, 117, 45, 120]⟩ _ (HGt.out.below hS).src HF.out (HV.out.below (HB.out.trans (hS.mono HB.out.size)))).mono ?_
        rintro e W' ⟨b, rfl, hcp, hsm, hc⟩
        go_wp2_with fail
        exact hK.out _ _ _ (by first | rfl | (simp only [e27]; done) | (simp only [e27]; rfl)) hc (hS.trans (hc.mono hS.size)) (show ∃ b : SV, _ = Value.agg #[.slice b.rA b.rules.length b.rc, .slice b.zA b.zones.length b.zc, .slice b.kA b.links.length b.kc, .slice b.hA b.shifts.length b.hc] ∧ SrcG _ b ∧ sSame14 b (mapS (turnE ⟨#[69, 117, 45, 120]⟩) t) from ⟨b, rfl, hcp.srcG, hsm⟩)
      refine StepsOk.cons (StepOk.other rfl fun y W hS hd K' hK => ?_) ?_
      · skip
        have x3 : (fun (y : Nat → Value) (W : World) => ∃ b : SV, y 28 = Value.agg #[.slice b.rA b.rules.length b.rc, .slice b.zA b.zones.length b.zc, .slice b.kA b.links.length b.kc, .slice b.hA b.shifts.length b.hc] ∧ SrcG W b ∧ sSame14 b (mapS (turnE ⟨#[69, 117, 45, 120]⟩) t)) y W := (hd 3 rfl).ex rfl
        clear hd
        obtain ⟨c, h1, hq, hs⟩ := x3
        have HSC := Lib.hid hs
        have HFC := Lib.hid ((HGD.out.turn ⟨#[69, 117, 45, 120]⟩).same hs).few
        clear hs
        go_simp
        refine (teras_any c ⟨#[82]⟩ _ hq.src HFC.out (HV.out.below (HB.out.trans (hS.mono HB.out.size)))).mono ?_
        rintro e W' ⟨b, rfl, hcp, hsm, hc⟩
        go_wp2_with fail
        exact hK.out _ _ _ (by first | rfl | (simp only [h1]; done) | (simp only [h1]; rfl)) hc (hS.trans (hc.mono hS.size)) (show ∃ b' c' : SV, _ = Value.agg #[.slice c'.rA c'.rules.length c'.rc, .slice c'.zA c'.zones.length c'.zc, .slice c'.kA c'.links.length c'.kc, .slice c'.hA c'.shifts.length c'.hc] ∧ _ = Value.agg #[.slice b'.rA b'.rules.length b'.rc, .slice b'.zA b'.zones.length b'.zc, .slice b'.kA b'.links.length b'.kc, .slice b'.hA b'.shifts.length b'.hc] ∧ SrcG _ b' ∧ sSame14 c' (mapS (turnE ⟨#[69, 117, 45, 120]⟩) t) ∧ sSame14 b' (mapS (turnE ⟨#[82]⟩) c') from ⟨b, c, h1, rfl, hcp.srcG, HSC.out, hsm⟩)
      refine StepsOk.cons (StepOk.known rfl fun y W hS hd K' hK => ?_) ?_
      · skip
        have x1 : (fun (y : Nat → Value) (W : World) => ∃ b : SV, y 26 = Value.agg #[.slice b.rA b.rules.length b.rc, .slice b.zA b.zones.length b.zc, .slice b.kA b.links.length b.kc, .slice b.hA b.shifts.length b.hc] ∧ SrcG W b ∧ sSame14 b (mapS (turnE ⟨#[69, 117, 45, 120]⟩) a)) y W := (hd 1 rfl).ex rfl
        have x4 : (fun (y : Nat → Value) (W : World) => ∃ b c : SV, y 28 = Value.agg #[.slice c.rA c.rules.length c.rc, .slice c.zA c.zones.length c.zc, .slice c.kA c.links.length c.kc, .slice c.hA c.shifts.length c.hc] ∧ y 29 = Value.agg #[.slice b.rA b.rules.length b.rc, .slice b.zA b.zones.length b.zc, .slice b.kA b.links.length b.kc, .slice b.hA b.shifts.length b.hc] ∧ SrcG W b ∧ sSame14 c (mapS (turnE ⟨#[69, 117, 45, 120]⟩) t) ∧ sSame14 b (mapS (turnE ⟨#[82]⟩) c)) y W := (hd 4 rfl).ex rfl
        clear hd
        obtain ⟨p, h1, hq, hs⟩ := x1
        obtain ⟨b, c, h3, h2, hq2, hs2, hs3⟩ := x4
        have HSB := Lib.hid (comm29 (x := ⟨#[82]⟩) (y := ⟨#[69, 117, 45, 120]⟩) (by decide) HSM.out hs hs2 hs3)
        have HFP := Lib.hid ((HGA.out.turn ⟨#[69, 117, 45, 120]⟩).same hs).few
        clear hs hs2 hs3
        go_simp
        refine (same13_yes HSB.out (big_few29 HFP.out) _ hq.src hq2.src).mono ?_
        rintro e W' ⟨rfl, hc⟩
        go_wp2_with fail
        exact hK.out _ _ (by first | rfl | (simp only [h1, h2, h3]; done) | (simp only [h1, h2, h3]; rfl)) hc (hS.trans (hc.mono hS.size))
      refine StepsOk.cons (StepOk.known rfl fun y W hS hd K' hK => ?_) ?_
      · skip
        have e30 : y 30 = .bool true := (hd 5 rfl).val rfl rfl
        clear hd
        go_simp
        exact hK.out _ _ (by first | rfl | (simp only [e30]; done) | (simp only [e30]; rfl)) (Below.refl _ _) hS
      refine StepsOk.cons (StepOk.known rfl fun y W hS hd K' hK => ?_) ?_
      · skip
        have e31 : y 31 = .bool false := (hd 6 rfl).val rfl rfl
        clear hd
        go_simp
        exact hK.out _ _ (by first | rfl | (simp only [e31]; done) | (simp only [e31]; rfl)) (Below.refl _ _) hS
      refine StepsOk.cons (StepOk.known rfl fun y W hS hd K' hK => ?_) ?_
      · skip
        have e32 : y 32 = .bool false := (hd 7 rfl).val rfl rfl
        clear hd
        go_simp
        exact hK.out _ _ (by first | rfl | (simp only [e32]; done) | (simp only [e32]; rfl)) (Below.refl _ _) hS
      refine StepsOk.cons (StepOk.known rfl fun y W hS hd K' hK => ?_) ?_
      · skip
        have e33 : y 33 = Value.pointer (some ⟨g4, 1, none⟩) := (hd 8 rfl).val rfl rfl
        have e32 : y 32 = .bool false := (hd 7 rfl).val rfl rfl
        clear hd
        have hz := HXa.out.below hS HXa.out.lt
        have z1 := (hz.cell 1).trans rfl
        clear hz
        go_simp
        exact hK.out _ _ (by first | rfl | (simp only [e33, e32]; done) | (simp only [e33, e32]; rfl)) (Below.refl _ _) hS
      refine StepsOk.cons (StepOk.known rfl fun y W hS hd K' hK => ?_) ?_
      · skip
        have e34 : y 34 = .slice a.zA a.zones.length a.zc := (hd 9 rfl).val rfl rfl
        have e32 : y 32 = .bool false := (hd 7 rfl).val rfl rfl
        clear hd
        go_simp
        exact hK.out _ _ (by first | rfl | (simp only [e34, e32]; done) | (simp only [e34, e32]; rfl)) (Below.refl _ _) hS
      refine StepsOk.cons (StepOk.known rfl fun y W hS hd K' hK => ?_) ?_
      · skip
        have e32 : y 32 = .bool false := (hd 7 rfl).val rfl rfl
        clear hd
        go_simp
        exact hK.out _ _ (by first | rfl | (simp only [e32]; done) | (simp only [e32]; rfl)) (Below.refl _ _) hS
      refine StepsOk.cons (StepOk.known rfl fun y W hS hd K' hK => ?_) ?_
      · skip
        have e36 : y 36 = Value.pointer (some ⟨g3, 1, none⟩) := (hd 11 rfl).val rfl rfl
        have e32 : y 32 = .bool false := (hd 7 rfl).val rfl rfl
        clear hd
        have hz := HXt.out.below hS HXt.out.lt
        have z1 := (hz.cell 1).trans rfl
        clear hz
        go_simp
        exact hK.out _ _ (by first | rfl | (simp only [e36, e32]; done) | (simp only [e36, e32]; rfl)) (Below.refl _ _) hS
      refine StepsOk.cons (StepOk.known rfl fun y W hS hd K' hK => ?_) ?_
      · skip
        have e37 : y 37 = .slice t.zA t.zones.length t.zc := (hd 12 rfl).val rfl rfl
        have e32 : y 32 = .bool false := (hd 7 rfl).val rfl rfl
        clear hd
        go_simp
        exact hK.out _ _ (by first | rfl | (simp only [e37, e32]; done) | (simp only [e37, e32]; rfl)) (Below.refl _ _) hS
      refine StepsOk.cons (StepOk.known rfl fun y W hS hd K' hK => ?_) ?_
      · skip
        have e35 : y 35 = .int .i64 a.zones.length := (hd 10 rfl).val rfl rfl
        have e38 : y 38 = .int .i64 t.zones.length := (hd 13 rfl).val rfl rfl
        have e32 : y 32 = .bool false := (hd 7 rfl).val rfl rfl
        clear hd
        go_simp
        exact hK.out _ _ (by first | rfl | (simp only [e35, e38, e32]; done) | (simp only [e35, e38, e32]; rfl)) (Below.refl _ _) hS
      refine StepsOk.cons (StepOk.known rfl fun y W hS hd K' hK => ?_) ?_
      · skip
        have e32 : y 32 = .bool false := (hd 7 rfl).val rfl rfl
        have e39 : y 39 = .bool false := (hd 14 rfl).val rfl rfl
        clear hd
        go_simp
        exact hK.out _ _ (by first | rfl | (simp only [e32, e39]; done) | (simp only [e32, e39]; rfl)) (Below.refl _ _) hS
      exact StepsOk.nil
  case hstep3 =>
    refine StepsOk.cons (StepOk.known rfl fun y W hS hd K' hK => ?_) ?_
    · skip
      clear hd
      have hz := HXa.out.below hS HXa.out.lt
      have z0 := (hz.cell 0).trans rfl
      have z1 := (hz.cell 1).trans rfl
      have z2 := (hz.cell 2).trans rfl
      have z3 := (hz.cell 3).trans rfl
      clear hz
      go_simp
      exact hK.out _ _ rfl (Below.refl _ _) hS
    refine StepsOk.cons (StepOk.other rfl fun y W hS hd K' hK => ?_) ?_
    · skip
      have e13 : y 13 = Value.agg #[.slice a.rA a.rules.length a.rc, .slice a.zA a.zones.length a.zc, .slice a.kA a.links.length a.kc, .slice a.hA a.shifts.length a.hc] := (hd 0 rfl).val rfl rfl
      clear hd
      go_simp
      refine (teras_any a ⟨#[82]⟩ _ (HGa.out.below hS).src HFA.out (HV.out.below (HB.out.trans (hS.mono HB.out.size)))).mono ?_
      rintro e W' ⟨b, rfl, hcp, hsm, hc⟩
      go_wp2_with fail
      exact hK.out _ _ _ (by first | rfl | (simp only [e13]; done) | (simp only [e13]; rfl)) hc (hS.trans (hc.mono hS.size)) (show ∃ b : SV, _ = Value.agg #[.slice b.rA b.rules.length b.rc, .slice b.zA b.zones.length b.zc, .slice b.kA b.links.length b.kc, .slice b.hA b.shifts.length b.hc] ∧ SrcG _ b ∧ sSame14 b (mapS (turnE ⟨#[82]⟩) a) from ⟨b, rfl, hcp.srcG, hsm⟩)
    refine StepsOk.cons (StepOk.known rfl fun y W hS hd K' hK => ?_) ?_
    · skip
      clear hd
      have hz := HXt.out.below hS HXt.out.lt
      have z0 := (hz.cell 0).trans rfl
      have z1 := (hz.cell 1).trans rfl
      have z2 := (hz.cell 2).trans rfl
      have z3 := (hz.cell 3).trans rfl
      clear hz
      go_simp
      exact hK.out _ _ rfl (Below.refl _ _) hS
    refine StepsOk.cons (StepOk.known rfl fun y W hS hd K' hK => ?_) ?_
    · skip
      have x1 : (fun (y : Nat → Value) (W : World) => ∃ b : SV, y 14 = Value.agg #[.slice b.rA b.rules.length b.rc, .slice b.zA b.zones.length b.zc, .slice b.kA b.links.length b.kc, .slice b.hA b.shifts.length b.hc] ∧ SrcG W b ∧ sSame14 b (mapS (turnE ⟨#[82]⟩) a)) y W := (hd 1 rfl).ex rfl
      have e15 : y 15 = Value.agg #[.slice t.rA t.rules.length t.rc, .slice t.zA t.zones.length t.zc, .slice t.kA t.links.length t.kc, .slice t.hA t.shifts.length t.hc] := (hd 2 rfl).val rfl rfl
      clear hd
      obtain ⟨b, h1, hq, hs⟩ := x1
      have HSB := Lib.hid (twice29 HSM.out hs)
      clear hs
      go_simp
      refine (same13_yes HSB.out (big_few29 (HGD.out.same HSB.out).few) _ hq.src (HGt.out.below hS).src).mono ?_
      rintro e W' ⟨rfl, hc⟩
      go_wp2_with fail
      exact hK.out _ _ (by first | rfl | (simp only [h1, e15]; done) | (simp only [h1, e15]; rfl)) hc (hS.trans (hc.mono hS.size))
    refine StepsOk.cons (StepOk.known rfl fun y W hS hd K' hK => ?_) ?_
    · skip
      have e16 : y 16 = .bool true := (hd 3 rfl).val rfl rfl
      clear hd
      go_simp
      exact hK.out _ _ (by first | rfl | (simp only [e16]; done) | (simp only [e16]; rfl)) (Below.refl _ _) hS
    refine StepsOk.cons (StepOk.known rfl fun y W hS hd K' hK => ?_) ?_
    · skip
      have e17 : y 17 = .bool false := (hd 4 rfl).val rfl rfl
      have e16 : y 16 = .bool true := (hd 3 rfl).val rfl rfl
      clear hd
      go_simp
      exact hK.out _ _ (by first | rfl | (simp only [e17, e16]; done) | (simp only [e17, e16]; rfl)) (Below.refl _ _) hS
    refine StepsOk.cons (StepOk.known rfl fun y W hS hd K' hK => ?_) ?_
    · skip
      have e18 : y 18 = .bool false := (hd 5 rfl).val rfl rfl
      clear hd
      have hz := HXt.out.below hS HXt.out.lt
      have z0 := (hz.cell 0).trans rfl
      have z1 := (hz.cell 1).trans rfl
      have z2 := (hz.cell 2).trans rfl
      have z3 := (hz.cell 3).trans rfl
      clear hz
      go_simp
      exact hK.out _ _ (by first | rfl | (simp only [e18]; done) | (simp only [e18]; rfl)) (Below.refl _ _) hS
    refine StepsOk.cons (StepOk.other rfl fun y W hS hd K' hK => ?_) ?_
    · skip
      have e19 : y 19 = Value.agg #[.slice t.rA t.rules.length t.rc, .slice t.zA t.zones.length t.zc, .slice t.kA t.links.length t.kc, .slice t.hA t.shifts.length t.hc] := (hd 6 rfl).val rfl rfl
      have e18 : y 18 = .bool false := (hd 5 rfl).val rfl rfl
      clear hd
      go_simp
      refine (teras_any t ⟨#[78, 111, 110, 101]⟩ _ (HGt.out.below hS).src HF.out (HV.out.below (HB.out.trans (hS.mono HB.out.size)))).mono ?_
      rintro e W' ⟨b, rfl, hcp, hsm, hc⟩
      go_wp2_with fail
      exact hK.out _ _ _ (by first | rfl | (simp only [e19, e18]; done) | (simp only [e19, e18]; rfl)) hc (hS.trans (hc.mono hS.size)) (show ∃ b : SV, _ = Value.agg #[.slice b.rA b.rules.length b.rc, .slice b.zA b.zones.length b.zc, .slice b.kA b.links.length b.kc, .slice b.hA b.shifts.length b.hc] ∧ SrcG _ b ∧ sSame14 b (mapS (turnE ⟨#[78, 111, 110, 101]⟩) t) from ⟨b, rfl, hcp.srcG, hsm⟩)
    refine StepsOk.cons (StepOk.known rfl fun y W hS hd K' hK => ?_) ?_
    · skip
      have e18 : y 18 = .bool false := (hd 5 rfl).val rfl rfl
      clear hd
      have hz := HXt.out.below hS HXt.out.lt
      have z0 := (hz.cell 0).trans rfl
      have z1 := (hz.cell 1).trans rfl
      have z2 := (hz.cell 2).trans rfl
      have z3 := (hz.cell 3).trans rfl
      clear hz
      go_simp
      exact hK.out _ _ (by first | rfl | (simp only [e18]; done) | (simp only [e18]; rfl)) (Below.refl _ _) hS
    refine StepsOk.cons (StepOk.known rfl fun y W hS hd K' hK => ?_) ?_
    · skip
      have x7 : (fun (y : Nat → Value) (W : World) => ∃ b : SV, y 20 = Value.agg #[.slice b.rA b.rules.length b.rc, .slice b.zA b.zones.length b.zc, .slice b.kA b.links.length b.kc, .slice b.hA b.shifts.length b.hc] ∧ SrcG W b ∧ sSame14 b (mapS (turnE ⟨#[78, 111, 110, 101]⟩) t)) y W := (hd 7 rfl).ex rfl
      have e21 : y 21 = Value.agg #[.slice t.rA t.rules.length t.rc, .slice t.zA t.zones.length t.zc, .slice t.kA t.links.length t.kc, .slice t.hA t.shifts.length t.hc] := (hd 8 rfl).val rfl rfl
      have e18 : y 18 = .bool false := (hd 5 rfl).val rfl rfl
      clear hd
      obtain ⟨b, h1, hq, hs⟩ := x7
      have HSB := Lib.hid (show sSame14 b t from by rw [HGD.out.none] at hs; exact hs)
      clear hs
      go_simp
      refine (same13_yes HSB.out (big_few29 (HGD.out.same HSB.out).few) _ hq.src (HGt.out.below hS).src).mono ?_
      rintro e W' ⟨rfl, hc⟩
      go_wp2_with fail
      exact hK.out _ _ (by first | rfl | (simp only [h1, e21, e18]; done) | (simp only [h1, e21, e18]; rfl)) hc (hS.trans (hc.mono hS.size))
    refine StepsOk.cons (StepOk.known rfl fun y W hS hd K' hK => ?_) ?_
    · skip
      have e22 : y 22 = .bool true := (hd 9 rfl).val rfl rfl
      have e18 : y 18 = .bool false := (hd 5 rfl).val rfl rfl
      clear hd
      go_simp
      exact hK.out _ _ (by first | rfl | (simp only [e22, e18]; done) | (simp only [e22, e18]; rfl)) (Below.refl _ _) hS
    refine StepsOk.cons (StepOk.known rfl fun y W hS hd K' hK => ?_) ?_
    · skip
      have e18 : y 18 = .bool false := (hd 5 rfl).val rfl rfl
      have e23 : y 23 = .bool false := (hd 10 rfl).val rfl rfl
      clear hd
      go_simp
      exact hK.out _ _ (by first | rfl | (simp only [e18, e23]; done) | (simp only [e18, e23]; rfl)) (Below.refl _ _) hS
    exact StepsOk.nil
end Go.Proofs.YtlideagcmhlkeaaDoor

/- TurnTwice: for every input the law returns true, and each argument reads as before. No condition beside the row's own (the listed package-level variables read as listed; the card ties them to the program's text). -/
namespace Go.Proofs.YtlideagcmhlkeaaDoor.lawTurnTwice
open Go.ChangeShapes Go.WideShapes Go.ChangeAt Go.RowKit Go.Joins
open Go.ChangeMaps (open_string shut_string)
set_option linter.unusedVariables false

theorem laidOut : laidOutB Tryd.prog = true := by kernel_rfl
theorem own : ownKnob Tryd.prog.godebug = none := by kernel_rfl
theorem door_met (os : Os) (args : Array Value) : laidMetH Tryd.prog Rows.turnTwiceRow.laid ((World.doorLaid Tryd.prog 400 os).forCall (fun _ _ => 0) ⟨#[], args, []⟩).memory :=
  laidMetH_of_parts3 (fuel := 8) (laidMet_of_run' 8 (by kernel_rfl) (by kernel_rfl)) (by kernel_rfl) (by kernel_rfl)
set_option maxRecDepth 100000 in
theorem lifted (os : Os) (started : os.Started) (H : Type) (enc : TypeId × Value → H) :
    ReturnsInHanded {} Tryd.checked os 9 .any (fun w args => (Rows.turnTwiceSpec.pre enc Tryd.prog Tryd.f9 [] false w args ∧ laidMetH Tryd.prog Rows.turnTwiceRow.laid w) ∧ sizedMet enc Tryd.prog Tryd.f9 (OpenSpec.ofChange Rows.turnTwiceSpec) false w args)
      (Rows.turnTwiceSpec.post enc Tryd.prog Tryd.f9 false true false false) := by
  refine handed_shaped (C := Tryd.checked) (X := fun w _ => laidMetH Tryd.prog Rows.turnTwiceRow.laid w) (fun _ _ _ hh h => h.of_heap hh) own started (by kernel_rfl) Tryd.func9
    (ChangeSpec.witness_shaped (enc := enc) (C := Tryd.checked) (os := os) (X := fun w _ => laidMetH Tryd.prog Rows.turnTwiceRow.laid w) false (World.doorLaid Tryd.prog 400 os) #[.agg #[.slice none 0 0, .int .u8 0, .int .u8 0, .slice none 0 0]] 8 rfl (World.shaped_of_RefB (by kernel_rfl) (by kernel_rfl)) (by kernel_rfl) (by kernel_rfl) (by kernel_rfl) (door_met os _)) ?_
  intro W base args ds gs before hval0 hW _ _ hL hsh _
  have hval : ∀ (j : Nat) t v, Tryd.f9.params[j]? = some t → args[j]? = some v → Value.okWide Tryd.prog W .any base t v := hval0
  have hW' := hW
  obtain ⟨p, q, hA0, hV, rfl, hfz, hnd⟩ := hW
  have hA : DataW.TrodAll enc Tryd.prog W 0 (fun _ => true) true Tryd.f9.params.toList args.toList ds p := hA0
  rw [Tryd.params9] at hA hval
  obtain ⟨v0, vs0, d0, ds0, p0, q0, hargs, rfl, rfl, h0, r0⟩ := trodAll_cons hA
  obtain ⟨rfl, rfl, rfl⟩ := trodAll_nil r0
  obtain rfl : args = #[v0] := by cases args; simp_all
  obtain ⟨rfl, rfl⟩ := trodVars_none hV
  have h0k := h0
  have hlt : ∀ x ∈ (p0 ++ []) ++ [], x.block < W.heap.size := fun x hx => by simpa using hW'.lt x hx
  have hvars := vars21_of_laid hL hsh
  have hk0 : ∀ W', Below W.heap.size W W' → DataW.Trod enc Tryd.prog W' 0 (fun b => decide (b < W.heap.size)) true 79 v0 d0 p0 := fun W' bel => Below.trod laidOut (by kernel_rfl) (of_decide_eq_true (by kernel_rfl)) h0k bel (fun x hx => hlt x (by simp [hx]))
  obtain ⟨⟨l0⟩, rfl, hz0⟩ := okWide_struct Tryd.underlying79 (hval 0 79 v0 rfl rfl)
  obtain ⟨f0, hf0⟩ := h0
  have hl0 : l0.length = 4 := hz0.trans (by kernel_rfl)
  obtain ⟨e0, hcs0, hD0⟩ := open_draft25 hl0 hf0
  subst hcs0
  clear hA0 hval0
  refine (walkTurnTwice e0 W hD0 hvars).mono fun e W' ⟨he, bel⟩ => ?_
  subst he
  exact ⟨_, rfl, _, _, _, [], _, [], hW', trodAll_mk1 (shut_bool Tryd.underlying4 _), trodAll_cons_mk (hk0 W' bel) (trodAll_mk0), rfl, World.keptBut_mono (fun p hp => ⟨hp, Or.inr (by simpa using hp)⟩) (bel.frame _), fun h => by cases h⟩

theorem said : Rows.TurnTwiceSaid :=
  OpenClaim.holds_of_wide 9 Tryd.f9 rfl rfl rfl rfl rfl rfl rfl ⟨rfl, rfl, rfl, rfl, rfl⟩ rfl rfl rfl rfl rfl (by kernel_rfl) Tryd.func9 (by kernel_rfl)
    (of_decide_eq_true (by kernel_rfl)) (by unfold Func.isWrapper; first | (rw [if_pos (by decide +kernel)]; kernel_rfl) | (rw [if_neg (by decide +kernel)]; exact ⟨rfl, rfl⟩))
    (fun os started H enc _ => lifted os started H enc)

/-- No parameter wants a stand-in; the program's own looks are off: what the card asks. -/
theorem plain (f : FuncId) (fn : Func) (hf : Tryd.pinned.checked.prog.funcNamed Rows.turnTwiceRow.func = some f) (hfn : Tryd.pinned.checked.prog.funcs[f]? = some fn) :
    true = Tryd.pinned.checked.prog.looks [] ∧ ∀ (j : Nat) t, fn.params[j]? = some t → Tryd.pinned.checked.prog.wantsStandIn t = false := by
  obtain rfl : f = 9 := Option.some.inj ((show Tryd.prog.funcNamed Rows.turnTwiceRow.func = some 9 by kernel_rfl).symm.trans hf) |>.symm
  obtain rfl : fn = Tryd.f9 := (Option.some.inj (Tryd.func9.symm.trans hfn)).symm
  refine ⟨by kernel_rfl, fun j t ht => ?_⟩
  rw [Tryd.params9] at ht
  have hm := Array.mem_of_getElem? ht
  have hm2 : t = 79 := by simpa using hm
  subst hm2
  exact (show Tryd.prog.wantsStandIn 79 = false by kernel_rfl)
/-- THE CARD -/
theorem card : Rows.TurnTwiceCardSaid :=
  Claim7.holds_tied_plain_at .later [] _ _ _ _ said (fun _ h => by cases h) (by kernel_rfl) (fun _ h => by cases h) turnTwice_row_tie rfl ⟨rfl, rfl⟩ (by kernel_rfl) rfl plain (by kernel_rfl)
end Go.Proofs.YtlideagcmhlkeaaDoor.lawTurnTwice
