/- ExpandAbbrs: for every input the law returns true, and each argument reads as before. No condition beside the row's own (the listed package-level variables read as listed; the card ties them to the program's text). -/
import Derived.Test.YtlideagcmhlkeaaDoorRA13
import Derived.BigRegion
import Derived.BigQuiet
import Derived.Test.YtlideagcmhlkeaaDoorCards
import Derived.Test.YtlideagcmhlkeaaDoorTie
import Derived.Carry
import Derived.WalkKit
import Derived.ProofKit
import Derived.OpenShut
import Derived.ShutString
import Derived.LaidMore
import Derived.ChangeOld
import Derived.Below
import Derived.Stop.Joined
import Derived.Lib.SmallJoins
import Derived.SevenTiedAt

/- The walk of the law ExpandAbbrs (chapter 30). -/
namespace Go.Proofs.YtlideagcmhlkeaaDoor
open Go.RowKit Go.Lib
set_option linter.unusedVariables false
set_option linter.unusedSimpArgs false

/-- a slot that points below the world's end -/
def Old (v : Value) (W : World) : Prop := ∀ g, v = .pointer (some ⟨g, 0, none⟩) → g < W.heap.size
theorem Old.below {v : Value} {W W' : World} (h : Old v W) (hs : W.heap.size ≤ W'.heap.size) : Old v W' := fun g hg => Nat.lt_of_lt_of_le (h g hg) hs
theorem Old.undef_ (W : World) : Old undef W := fun g hg => by cases hg
theorem fmt23_ne {b : ByteArray} (h : isFmt23 b) : b ≠ ⟨#[]⟩ := by
  rcases h with rfl | rfl | rfl | rfl | rfl | rfl <;> decide
theorem infoI30 : (Tryd.prog.info? 2).map (fun i => (i.zero, i.size, i.bytes)) = some (some (.int .i64 0), 1, 8) := by kernel_rfl
def i64Cell (n : Int) : List Value := [.int .i64 n]
theorem saves_bd {R : List RV} {e : EV} (h : GoodE R e) : ∀ s ∈ saves23 R e, -9223372036854775808 ≤ s ∧ s ≤ 9223372036854775807 := fun s hs => by
  unfold saves23 at hs
  split at hs
  · rename_i k
    have q := h.other64 k
    have hs2 : s = 0 ∨ s = (P20.other (svs (ofSet R e.set))).1 := by simpa using hs
    omega
  · split at hs
    · obtain rfl := List.mem_singleton.1 hs
      have := h.save
      omega
    · obtain rfl := List.mem_singleton.1 hs
      omega
set_option maxRecDepth 100000 in
set_option maxHeartbeats 16000000 in
theorem walkExpandAbbrs (d : D23) (letter : Int) (w : World) (hd : D23In w d) (hlt : 0 ≤ letter ∧ letter ≤ 255) (hvp : Vars21 w ∧ VarsP w) :
    Calls Tryd.prog 3 #[.agg #[.slice d.sA d.sets.length d.sc, .slice d.zA d.zones.length d.zc, .slice d.lA d.links.length d.lc], .int .u8 letter] w fun e w' => e = .returned (.bool true) ∧ Below w.heap.size w w' := by
  obtain ⟨hv, hp⟩ := hvp
  have hX := Blk.new w 26 #[.slice d.sA d.sets.length d.sc, .slice d.zA d.zones.length d.zc, .slice d.lA d.links.length d.lc]
  have hb0 := (Below.refl w.heap.size w).alloc (Nat.le_refl _) (.cells #[.slice d.sA d.sets.length d.sc, .slice d.zA d.zones.length d.zc, .slice d.lA d.links.length d.lc] 26)
  have HB := Lib.hid hb0; have HD := Lib.hid hd
  have c0 := (hX.cell 0).trans rfl; have c1 := (hX.cell 1).trans rfl; have c2 := (hX.cell 2).trans rfl
  obtain ⟨LK, hLK, hLK3⟩ : ∃ LK : Nat, letter.tmod 3 = (LK : Int) ∧ LK < 3 := ⟨(letter.tmod 3).toNat, by rw [Int.tmod_eq_emod_of_nonneg hlt.1]; omega, by rw [Int.tmod_eq_emod_of_nonneg hlt.1]; omega⟩
  clear hX hb0 hd
  go_enter Tryd.func3, Tryd.ntmps3
  go_wp2_with fail
  refine (made23_any d _ (HD.out.below HB.out) (hp.below HB.out)).mono ?_
  rintro e Wt ⟨t, rfl, hG, hg, hc⟩
  have HGD := Lib.hid hg; have HF := Lib.hid hg.few
  have HB' := Lib.hid ((HB.out.trans (hc.mono HB.out.size)).alloc (HB.out.trans (hc.mono HB.out.size)).size (.cells #[.slice t.rA t.rules.length t.rc, .slice t.zA t.zones.length t.zc, .slice t.kA t.links.length t.kc, .slice t.hA t.shifts.length t.hc] 32))
  have HGt := Lib.hid (hG.below ((Below.refl Wt.heap.size Wt).alloc (Nat.le_refl _) (.cells #[.slice t.rA t.rules.length t.rc, .slice t.zA t.zones.length t.zc, .slice t.kA t.links.length t.kc, .slice t.hA t.shifts.length t.hc] 32)))
  have HXt := Lib.hid (Blk.new Wt 32 #[.slice t.rA t.rules.length t.rc, .slice t.zA t.zones.length t.zc, .slice t.kA t.links.length t.kc, .slice t.hA t.shifts.length t.hc])
  clear c0 c1 c2 HB hG hc hg
  have c0 := (HXt.out.cell 0).trans rfl; have c1 := (HXt.out.cell 1).trans rfl; have c2 := (HXt.out.cell 2).trans rfl; have c3 := (HXt.out.cell 3).trans rfl
  go_wp2_with fail
  refine (expand_any t _ HGt.out.src HF.out).mono ?_
  rintro e Wa ⟨a, na, rfl, hG, hR, hc⟩
  obtain ⟨rfl, hs⟩ := back_a HGD.out hR
  have hal : a.zones.length = t.zones.length := by rw [hs.zones.1]; show (t.zones.map _).length = _; simp
  have ha := (Below.refl Wa.heap.size Wa).alloc (Nat.le_refl _) (.cells #[.slice a.rA a.rules.length a.rc, .slice a.zA a.zones.length a.zc, .slice a.kA a.links.length a.kc, .slice a.hA a.shifts.length a.hc] 32)
  have HB := Lib.hid ((HB'.out.trans (hc.mono HB'.out.size)).alloc (HB'.out.trans (hc.mono HB'.out.size)).size (.cells #[.slice a.rA a.rules.length a.rc, .slice a.zA a.zones.length a.zc, .slice a.kA a.links.length a.kc, .slice a.hA a.shifts.length a.hc] 32))
  have HSs := Lib.hid hs
  have HGt' := Lib.hid ((HGt.out.below hc).below ha)
  have HGa := Lib.hid (hG.below ha)
  have HXt' := Lib.hid ((HXt.out.below hc HXt.out.lt).alloc (.cells #[.slice a.rA a.rules.length a.rc, .slice a.zA a.zones.length a.zc, .slice a.kA a.links.length a.kc, .slice a.hA a.shifts.length a.hc] 32))
  have HXa := Lib.hid (Blk.new Wa 32 #[.slice a.rA a.rules.length a.rc, .slice a.zA a.zones.length a.zc, .slice a.kA a.links.length a.kc, .slice a.hA a.shifts.length a.hc])
  have HAL := Lib.hid hal
  clear HGt HXt c0 c1 c2 c3 hG hR hc hs ha HB'
  have c1 := (HXt'.out.cell 1).trans rfl
  have d1 := (HXa.out.cell 1).trans rfl
  rw [hal] at d1
  have hzl : (t.zones.length : Int) ≤ 3 := by have := HGD.out.zones; omega
  have hz61 : ((a.zones.length : Int) != (t.zones.length : Int)) = false := by rw [hal]; simp
  clear hal
  go_wp2_with fail
  clear c1 d1 hz61
  generalize (Wa.alloc (.cells #[.slice a.rA a.rules.length a.rc, .slice a.zA a.zones.length a.zc, .slice a.kA a.links.length a.kc, .slice a.hA a.shifts.length a.hc] 32)) = V0 at HXt' HXa HB HGt' HGa ⊢
  generalize Wt.heap.size = g5 at HXt' ⊢; generalize Wa.heap.size = g6 at HXa ⊢
  go_loopw [8, 10, 11] (fun i s10 s11 W => ∃ p : Nat, p ≤ t.zones.length ∧ i = .int .i64 p ∧ Below V0.heap.size V0 W ∧ Old s10 W ∧ Old s11 W) (fun i _ _ _ => t.zones.length - (intOf i).toNat)
  case atStart => exact ⟨0, Nat.zero_le _, rfl, Below.refl _ _, Old.undef_ _, Old.undef_ _⟩
  case round =>
    obtain ⟨wo, hwo⟩ : ∃ x, x = wr := ⟨_, rfl⟩
    subst hwo
    obtain ⟨p, hp2, rfl, hb, ho10, ho11⟩ := hrel
    have HO := Lib.hid (And.intro ho10 ho11)
    clear ho10 ho11
    have HBO := Lib.hid hb
    have c1 := ((HXt'.out.below hb HXt'.out.lt).cell 1).trans rfl
    by_cases hpt : p < t.zones.length
    · have hpi : (p : Int) < (t.zones.length : Int) := by omega
      have hp0 : (0 : Int) ≤ (p : Int) := by omega
      obtain ⟨z, hz⟩ : ∃ z, t.zones[p]? = some z := ⟨_, List.getElem?_eq_getElem hpt⟩
      obtain ⟨zy, hy, hye⟩ := abbrs_at HSs.out hz
      have hyl : zy.eras.length = z.eras.length := by rw [hye, List.length_map]
      have HZ := Lib.hid hz; have HY := Lib.hid hy; have HYE := Lib.hid hye; have HPT := Lib.hid hpt
      have HZM := Lib.hid (List.mem_of_getElem? hz); have HYM := Lib.hid (List.mem_of_getElem? hy)
      have hze : (z.eras.length : Int) ≤ 4 := by have := HGD.out.eras z HZM.out; omega
      have d1 := ((HXa.out.below hb HXa.out.lt).cell 1).trans rfl
      rw [HAL.out] at d1
      obtain ⟨gz0, oz0, hzA, _, haz⟩ := ((HGt'.out.below hb).src.zones) p z hz
      obtain ⟨gy0, oy0, hyA, _, hay⟩ := ((HGa.out.below hb).src.zones) p zy hy
      have n1 : wo.cell? ⟨gz0, oz0 + p * 2 + 1, none⟩ = some (.slice z.A z.eras.length z.c) := haz 1 _ rfl
      have m1 : wo.cell? ⟨gy0, oy0 + p * 2 + 1, none⟩ = some (.slice zy.A zy.eras.length zy.c) := hay 1 _ rfl
      rw [hyl] at m1
      rw [hzA] at c1
      rw [hyA] at d1
      clear hb hz hy hye hyl hzA hyA haz hay hpt
      go_upto_region 8 with fail
      go_quiet (fail)
      clear c1 d1 n1 m1
      go_wp2_with fail
      go_loopw [9, 10, 11] (fun i s10 s11 W => ∃ q : Nat, q ≤ z.eras.length ∧ i = .int .i64 q ∧ Below V0.heap.size V0 W ∧ Old s10 W ∧ Old s11 W) (fun i _ _ _ => z.eras.length - (intOf i).toNat)
      case atStart => exact ⟨0, Nat.zero_le _, rfl, below_drewN HBO.out _, HO.out⟩
      case round =>
        obtain ⟨q, hq2, rfl, hb, ho10, ho11⟩ := hrel
        have HO2 := Lib.hid (And.intro ho10 ho11)
        clear ho10 ho11 HO
        obtain ⟨wi, hwi⟩ : ∃ x, x = wr := ⟨_, rfl⟩
        subst hwi
        have HBI := Lib.hid hb
        have c1 := ((HXt'.out.below hb HXt'.out.lt).cell 1).trans rfl
        obtain ⟨gz, oz, hzA, _, haz⟩ := ((HGt'.out.below hb).src.zones) p z HZ.out
        have n1 : wi.cell? ⟨gz, oz + p * 2 + 1, none⟩ = some (.slice z.A z.eras.length z.c) := haz 1 _ rfl
        rw [hzA] at c1
        by_cases hqt : q < z.eras.length
        · have hqi : (q : Int) < (z.eras.length : Int) := by omega
          have hq0 : (0 : Int) ≤ (q : Int) := by omega
          obtain ⟨e, he⟩ : ∃ e, z.eras[q]? = some e := ⟨_, List.getElem?_eq_getElem hqt⟩
          obtain ⟨f, hf⟩ : ∃ f, f = fmtE (exF t.rules) e := ⟨_, rfl⟩
          have hyq : zy.eras[q]? = some f := by rw [HYE.out, List.getElem?_map, he, hf]; rfl
          have HGE := Lib.hid (HGD.out.era z HZM.out e (List.mem_of_getElem? he))
          have HFE := Lib.hid hf; have HQT := Lib.hid hqt
          have d1 := ((HXa.out.below hb HXa.out.lt).cell 1).trans rfl
          rw [HAL.out] at d1
          obtain ⟨gy, oy, hyA, _, hay⟩ := ((HGa.out.below hb).src.zones) p zy HY.out
          have m1 : wi.cell? ⟨gy, oy + p * 2 + 1, none⟩ = some (.slice zy.A zy.eras.length zy.c) := hay 1 _ rfl
          rw [show zy.eras.length = z.eras.length by rw [HYE.out, List.length_map]] at m1
          rw [hyA] at d1
          obtain ⟨ge, oe, heA, _, hae⟩ := ((HGt'.out.below hb).src.eras z HZM.out) q e he
          obtain ⟨gf, of_, hfA, _, haf⟩ := ((HGa.out.below hb).src.eras zy HYM.out) q f hyq
          rw [heA] at n1
          rw [hfA] at m1
          have y0 : wi.cell? ⟨ge, oe + q * 13, none⟩ = some (.int .i64 e.off) := hae 0 _ rfl
          have y1 := hae 1 _ rfl; have y2 := hae 2 _ rfl; have y3 := hae 3 _ rfl; have y4 := hae 4 _ rfl; have y5 := hae 5 _ rfl; have y6 := hae 6 _ rfl; have y7 := hae 7 _ rfl; have y8 := hae 8 _ rfl; have y9 := hae 9 _ rfl; have y10 := hae 10 _ rfl; have y11 := hae 11 _ rfl; have y12 := hae 12 _ rfl
          have x0 : wi.cell? ⟨gf, of_ + q * 13, none⟩ = some (.int .i64 f.off) := haf 0 _ rfl
          have x1 := haf 1 _ rfl; have x2 := haf 2 _ rfl; have x3 := haf 3 _ rfl; have x4 := haf 4 _ rfl; have x5 := haf 5 _ rfl; have x6 := haf 6 _ rfl; have x7 := haf 7 _ rfl; have x8 := haf 8 _ rfl; have x9 := haf 9 _ rfl; have x10 := haf 10 _ rfl; have x11 := haf 11 _ rfl; have x12 := haf 12 _ rfl
          clear hb he hf hyq hqt hzA hyA heA hfA haz hay hae haf
          go_upto_region 13 with fail
          go_cut [10, 11] (fun s10 s11 wx => ∃ g10 g11, s10 = .pointer (some ⟨g10, 0, none⟩) ∧ s11 = .pointer (some ⟨g11, 0, none⟩) ∧ Hid (Blk wx g10 47 #[.int .i64 e.off, .int .i64 e.kind, .int .i64 e.save, .string e.set, .string e.fmt, .bool e.ui, .int .i64 e.uy, .int .i64 e.um, .int .i64 e.dk, .int .i64 e.dw, .int .i64 e.dd, .int .i64 e.asec, .int .i64 e.ab] ∧ Blk wx g11 47 #[.int .i64 f.off, .int .i64 f.kind, .int .i64 f.save, .string f.set, .string f.fmt, .bool f.ui, .int .i64 f.uy, .int .i64 f.um, .int .i64 f.dk, .int .i64 f.dw, .int .i64 f.dd, .int .i64 f.asec, .int .i64 f.ab] ∧ Below V0.heap.size V0 wx))
          case first =>
            have HFN : Hid (e.fmt ≠ ⟨#[]⟩) := Lib.hid (fmt23_ne HGE.out.fmt)
            have HT0 : Hid (Two wi f (fun k => match k with | 10 => u10 | 11 => u11 | 74 => u74 | 75 => u75 | 76 => u76 | 77 => u77 | 78 => u78 | 79 => u79 | 80 => u80 | 81 => u81 | 82 => u82 | 83 => u83 | 84 => u84 | 85 => u85 | 86 => u86 | 87 => u87 | 88 => u88 | 89 => u89 | 90 => u90 | 91 => u91 | _ => undef) wi.drew) := Lib.hid ⟨(Below.refl _ _).drew, fun g hg hn => by have := HO2.out.1 g hg; omega, fun g hg hn => by have := HO2.out.2 g hg; omega, fun g g' hg _ hn _ => by have := HO2.out.1 g hg; omega⟩
            refine wp_region_shapeY [(some 74, []), (some 75, [0]), (some 76, []), (some 77, [1, 2]), (some 78, [3]), (some 79, [4]), (some 80, []), (some 81, [5, 6]), (some 82, [7]), (some 83, []), (some 84, [9]), (some 85, []), (some 86, [10, 11]), (some 87, [12]), (some 88, [13]), (some 89, []), (some 90, [14, 15]), (some 91, [16]), (some 10, []), (some 11, []), (none, [18, 8, 0, 1, 2, 3, 4, 5, 6, 7, 8, 18, 19]), (none, [19, 17, 20, 0, 1, 2, 3, 4, 5, 6, 7, 8, 9, 10, 11, 12, 13, 14, 15, 16, 17, 18, 19, 20])] (fun y => { tmps := #[.agg #[.slice d.sA d.sets.length d.sc, .slice d.zA d.zones.length d.zc, .slice d.lA d.links.length d.lc], .int .u8 letter, .pointer (some ⟨w.heap.size, 0, none⟩), undef, u4, .pointer (some ⟨g5, 0, none⟩), .pointer (some ⟨g6, 0, none⟩), .int .i64 0, .int .i64 p, .int .i64 q, y 10, y 11, u12, u13, u14, u15, u16, u17, u18, u19, u20, u21, u22, .agg #[.slice d.sA d.sets.length d.sc, .slice d.zA d.zones.length d.zc, .slice d.lA d.links.length d.lc], .agg #[.slice t.rA t.rules.length t.rc, .slice t.zA t.zones.length t.zc, .slice t.kA t.links.length t.kc, .slice t.hA t.shifts.length t.hc], .tuple #[.agg #[.slice a.rA a.rules.length a.rc, .slice a.zA a.zones.length a.zc, .slice a.kA a.links.length a.kc, .slice a.hA a.shifts.length a.hc], .int .i64 0], .agg #[.slice t.rA t.rules.length t.rc, .slice t.zA t.zones.length t.zc, .slice t.kA t.links.length t.kc, .slice t.hA t.shifts.length t.hc], .tuple #[.agg #[.slice a.rA a.rules.length a.rc, .slice a.zA a.zones.length a.zc, .slice a.kA a.links.length a.kc, .slice a.hA a.shifts.length a.hc], .int .i64 0], .agg #[.slice a.rA a.rules.length a.rc, .slice a.zA a.zones.length a.zc, .slice a.kA a.links.length a.kc, .slice a.hA a.shifts.length a.hc], .int .i64 0, .int .i64 0, .bool false, .bool false, .pointer (some ⟨g6, 1, none⟩), .slice a.zA a.zones.length a.zc, .int .i64 a.zones.length, .pointer (some ⟨g5, 1, none⟩), .slice t.zA t.zones.length t.zc, .int .i64 t.zones.length, .bool false, .bool false, .int .i64 p, .pointer (some ⟨g5, 1, none⟩), .slice (some ⟨gz0, oz0, none⟩) t.zones.length t.zc, .int .i64 t.zones.length, .bool true, u46, u47, .pointer (some ⟨g6, 1, none⟩), .slice (some ⟨gy0, oy0, none⟩) t.zones.length a.zc, .int .i64 p, .pointer (some ⟨gy0, oy0 + p * 2, none⟩), .pointer (some ⟨gy0, oy0 + p * 2 + 1, none⟩), .slice zy.A z.eras.length zy.c, .int .i64 z.eras.length, .pointer (some ⟨g5, 1, none⟩), .slice (some ⟨gz0, oz0, none⟩) t.zones.length t.zc, .int .i64 p, .pointer (some ⟨gz0, oz0 + p * 2, none⟩), .pointer (some ⟨gz0, oz0 + p * 2 + 1, none⟩), .slice z.A z.eras.length z.c, .int .i64 z.eras.length, .bool false, .int .i64 q, .pointer (some ⟨g5, 1, none⟩), .slice (some ⟨gz, oz, none⟩) t.zones.length t.zc, .int .i64 p, .pointer (some ⟨gz, oz + p * 2, none⟩), .pointer (some ⟨gz, oz + p * 2 + 1, none⟩), .slice (some ⟨ge, oe, none⟩) z.eras.length z.c, .int .i64 z.eras.length, .bool true, u72, u73, y 74, y 75, y 76, y 77, y 78, y 79, y 80, y 81, y 82, y 83, y 84, y 85, y 86, y 87, y 88, y 89, y 90, y 91, u92, u93, u94, u95, u96, u97, u98, u99, u100, u101, u102, u103, u104, u105, u106, u107, u108, u109, u110, u111, u112, u113, u114, u115, u116, u117, u118, u119, u120, u121, u122, u123, u124, u125, u126, u127, u128, u129, u130, u131, u132, u133, u134, u135, u136, u137, u138, u139, u140, u141, u142, u143, u144, u145, u146, u147, u148, u149, u150, u151, u152, u153, u154, u155, u156, u157, u158, u159, u160, u161, u162, u163, u164, u165, u166, u167, u168, u169, u170, u171, u172, u173, u174, u175, u176, u177, u178, u179, u180, u181, u182, u183, undef], defers := [] }) (fun k => match k with | 10 => u10 | 11 => u11 | 74 => u74 | 75 => u75 | 76 => u76 | 77 => u77 | 78 => u78 | 79 => u79 | 80 => u80 | 81 => u81 | 82 => u82 | 83 => u83 | 84 => u84 | 85 => u85 | 86 => u86 | 87 => u87 | 88 => u88 | 89 => u89 | 90 => u90 | 91 => u91 | _ => undef) (fun j => j == 18 || j == 19 || j == 20 || j == 21) [.pointer (some ⟨g5, 1, none⟩), .slice (some ⟨gz, oz, none⟩) t.zones.length t.zc, .int .i64 p, .pointer (some ⟨gz, oz + p * 2, none⟩), .pointer (some ⟨gz, oz + p * 2 + 1, none⟩), .slice (some ⟨ge, oe, none⟩) z.eras.length z.c, .int .i64 q, .pointer (some ⟨ge, oe + q * 13, none⟩), .agg #[.int .i64 e.off, .int .i64 e.kind, .int .i64 e.save, .string e.set, .string e.fmt, .bool e.ui, .int .i64 e.uy, .int .i64 e.um, .int .i64 e.dk, .int .i64 e.dw, .int .i64 e.dd, .int .i64 e.asec, .int .i64 e.ab], .pointer (some ⟨g6, 1, none⟩), .slice (some ⟨gy, oy, none⟩) t.zones.length a.zc, .int .i64 p, .pointer (some ⟨gy, oy + p * 2, none⟩), .pointer (some ⟨gy, oy + p * 2 + 1, none⟩), .slice (some ⟨gf, of_, none⟩) z.eras.length zy.c, .int .i64 q, .pointer (some ⟨gf, of_ + q * 13, none⟩), .agg #[.int .i64 f.off, .int .i64 f.kind, .int .i64 f.save, .string f.set, .string f.fmt, .bool f.ui, .int .i64 f.uy, .int .i64 f.um, .int .i64 f.dk, .int .i64 f.dw, .int .i64 f.dd, .int .i64 f.asec, .int .i64 f.ab], undef, undef, undef, undef] (fun j y W => match j with | 18 => ∃ g : Nat, y 10 = .pointer (some ⟨g, 0, none⟩) ∧ wi.heap.size ≤ g | 19 => ∃ g : Nat, y 11 = .pointer (some ⟨g, 0, none⟩) ∧ wi.heap.size ≤ g | 20 => ∃ g : Nat, y 10 = .pointer (some ⟨g, 0, none⟩) ∧ Blk W g 47 #[.int .i64 e.off, .int .i64 e.kind, .int .i64 e.save, .string e.set, .string e.fmt, .bool e.ui, .int .i64 e.uy, .int .i64 e.um, .int .i64 e.dk, .int .i64 e.dw, .int .i64 e.dd, .int .i64 e.asec, .int .i64 e.ab] | 21 => ∃ g g' : Nat, y 10 = .pointer (some ⟨g, 0, none⟩) ∧ y 11 = .pointer (some ⟨g', 0, none⟩) ∧ Blk W g 47 #[.int .i64 e.off, .int .i64 e.kind, .int .i64 e.save, .string e.set, .string e.fmt, .bool e.ui, .int .i64 e.uy, .int .i64 e.um, .int .i64 e.dk, .int .i64 e.dw, .int .i64 e.dd, .int .i64 e.asec, .int .i64 e.ab] ∧ Blk W g' 47 #[.int .i64 f.off, .int .i64 f.kind, .int .i64 f.save, .string f.set, .string f.fmt, .bool f.ui, .int .i64 f.uy, .int .i64 f.um, .int .i64 f.dk, .int .i64 f.dw, .int .i64 f.dd, .int .i64 f.asec, .int .i64 f.ab] | _ => True) (fun j => match j with | 18 => [10] | 19 => [11] | 20 => [10] | 21 => [10, 11] | _ => []) (GC e) (fun y W => Two wi f y W) (by kernel_rfl) (by kernel_rfl) (by decide +kernel) rfl HT0.out ?hput5 ?hloc5 ?hmono5 ?hstep5 ?hdone5
            case hput5 =>
              intro d hd y v
              simp only [List.filterMap_cons, List.filterMap_nil, List.mem_cons, List.not_mem_nil, or_false] at hd
              rcases hd with rfl | rfl | rfl | rfl | rfl | rfl | rfl | rfl | rfl | rfl | rfl | rfl | rfl | rfl | rfl | rfl | rfl | rfl | rfl | rfl
              all_goals rfl
            case hloc5 =>
              intro j hj y y' W hk hx
              have hj' : j = 18 ∨ j = 19 ∨ j = 20 ∨ j = 21 := by simpa [or_assoc] using hj
              rcases hj' with rfl | rfl | rfl | rfl
              · simp only [List.forall_mem_cons, List.not_mem_nil, false_imp_iff, implies_true, and_true] at hk
                show _
                simpa only [hk] using hx
              · simp only [List.forall_mem_cons, List.not_mem_nil, false_imp_iff, implies_true, and_true] at hk
                show _
                simpa only [hk] using hx
              · simp only [List.forall_mem_cons, List.not_mem_nil, false_imp_iff, implies_true, and_true] at hk
                show _
                simpa only [hk] using hx
              · simp only [List.forall_mem_cons, List.not_mem_nil, false_imp_iff, implies_true, and_true] at hk
                simpa only [hk.1, hk.2] using hx
            case hmono5 =>
              intro j hj hlast y W W' hg hx
              have hj' : j = 18 ∨ j = 19 ∨ j = 20 ∨ j = 21 := by simpa [or_assoc] using hj
              rcases hj' with rfl | rfl | rfl | rfl
              · exact hx
              · exact hx
              · obtain ⟨g, h1, h2⟩ := hx; exact ⟨g, h1, hg g h2⟩
              · exact absurd hlast (by decide)
            case hdone5 =>
              intro y5 W5 hS hd
              have x21 : (fun (y : Nat → Value) (W : World) => ∃ g g' : Nat, y 10 = .pointer (some ⟨g, 0, none⟩) ∧ y 11 = .pointer (some ⟨g', 0, none⟩) ∧ Blk W g 47 #[.int .i64 e.off, .int .i64 e.kind, .int .i64 e.save, .string e.set, .string e.fmt, .bool e.ui, .int .i64 e.uy, .int .i64 e.um, .int .i64 e.dk, .int .i64 e.dw, .int .i64 e.dd, .int .i64 e.asec, .int .i64 e.ab] ∧ Blk W g' 47 #[.int .i64 f.off, .int .i64 f.kind, .int .i64 f.save, .string f.set, .string f.fmt, .bool f.ui, .int .i64 f.uy, .int .i64 f.um, .int .i64 f.dk, .int .i64 f.dw, .int .i64 f.dd, .int .i64 f.asec, .int .i64 f.ab]) y5 W5 := (hd 21 (by decide)).ex rfl
              obtain ⟨g10, g11, e10, e11, hb10, hb11⟩ := x21
              have hbel := hS.bel
              clear hd hS
              go_wp2_with fail
              go_meet
              exact ⟨g10, g11, e10, e11, Lib.hid ⟨hb10, hb11, HBI.out.trans (hbel.mono HBI.out.size)⟩⟩
            case hstep5 =>
              refine StepsOkY.cons (StepOkY.known rfl fun y W hS hd K' hK => ?_) ?_
              · skip
                clear hd
                go_simp
                exact hK.out _ _ rfl (GC.refl _ _) (hS.u (by decide) (by decide))
              refine StepsOkY.cons (StepOkY.known rfl fun y W hS hd K' hK => ?_) ?_
              · skip
                have e74 : y 74 = .pointer (some ⟨g5, 1, none⟩) := (hd 0 rfl).val rfl rfl
                clear hd
                have r := bel_cell hS.bel c1
                go_simp
                exact hK.out _ _ (by first | rfl | (simp only [e74]; done) | (simp only [e74]; rfl)) (GC.refl _ _) (hS.u (by decide) (by decide))
              refine StepsOkY.cons (StepOkY.known rfl fun y W hS hd K' hK => ?_) ?_
              · skip
                clear hd
                go_simp
                exact hK.out _ _ rfl (GC.refl _ _) (hS.u (by decide) (by decide))
              refine StepsOkY.cons (StepOkY.known rfl fun y W hS hd K' hK => ?_) ?_
              · skip
                have e75 : y 75 = .slice (some ⟨gz, oz, none⟩) t.zones.length t.zc := (hd 1 rfl).val rfl rfl
                have e76 : y 76 = .int .i64 p := (hd 2 rfl).val rfl rfl
                clear hd
                go_simp
                exact hK.out _ _ (by first | rfl | (simp only [e75, e76]; done) | (simp only [e75, e76]; rfl)) (GC.refl _ _) (hS.u (by decide) (by decide))
              refine StepsOkY.cons (StepOkY.known rfl fun y W hS hd K' hK => ?_) ?_
              · skip
                have e77 : y 77 = .pointer (some ⟨gz, oz + p * 2, none⟩) := (hd 3 rfl).val rfl rfl
                clear hd
                go_simp
                exact hK.out _ _ (by first | rfl | (simp only [e77]; done) | (simp only [e77]; rfl)) (GC.refl _ _) (hS.u (by decide) (by decide))
              refine StepsOkY.cons (StepOkY.known rfl fun y W hS hd K' hK => ?_) ?_
              · skip
                have e78 : y 78 = .pointer (some ⟨gz, oz + p * 2 + 1, none⟩) := (hd 4 rfl).val rfl rfl
                clear hd
                have r := bel_cell hS.bel n1
                go_simp
                exact hK.out _ _ (by first | rfl | (simp only [e78]; done) | (simp only [e78]; rfl)) (GC.refl _ _) (hS.u (by decide) (by decide))
              refine StepsOkY.cons (StepOkY.known rfl fun y W hS hd K' hK => ?_) ?_
              · skip
                clear hd
                go_simp
                exact hK.out _ _ rfl (GC.refl _ _) (hS.u (by decide) (by decide))
              refine StepsOkY.cons (StepOkY.known rfl fun y W hS hd K' hK => ?_) ?_
              · skip
                have e79 : y 79 = .slice (some ⟨ge, oe, none⟩) z.eras.length z.c := (hd 5 rfl).val rfl rfl
                have e80 : y 80 = .int .i64 q := (hd 6 rfl).val rfl rfl
                clear hd
                go_simp
                exact hK.out _ _ (by first | rfl | (simp only [e79, e80]; done) | (simp only [e79, e80]; rfl)) (GC.refl _ _) (hS.u (by decide) (by decide))
              refine StepsOkY.cons (StepOkY.known rfl fun y W hS hd K' hK => ?_) ?_
              · skip
                have e81 : y 81 = .pointer (some ⟨ge, oe + q * 13, none⟩) := (hd 7 rfl).val rfl rfl
                clear hd
                have r0 := bel_cell hS.bel y0
                have r1 := bel_cell hS.bel y1
                have r2 := bel_cell hS.bel y2
                have r3 := bel_cell hS.bel y3
                have r4 := bel_cell hS.bel y4
                have r5 := bel_cell hS.bel y5
                have r6 := bel_cell hS.bel y6
                have r7 := bel_cell hS.bel y7
                have r8 := bel_cell hS.bel y8
                have r9 := bel_cell hS.bel y9
                have r10 := bel_cell hS.bel y10
                have r11 := bel_cell hS.bel y11
                have r12 := bel_cell hS.bel y12
                go_simp
                exact hK.out _ _ (by first | rfl | (simp only [e81]; done) | (simp only [e81]; rfl)) (GC.refl _ _) (hS.u (by decide) (by decide))
              refine StepsOkY.cons (StepOkY.known rfl fun y W hS hd K' hK => ?_) ?_
              · skip
                clear hd
                go_simp
                exact hK.out _ _ rfl (GC.refl _ _) (hS.u (by decide) (by decide))
              refine StepsOkY.cons (StepOkY.known rfl fun y W hS hd K' hK => ?_) ?_
              · skip
                have e83 : y 83 = .pointer (some ⟨g6, 1, none⟩) := (hd 9 rfl).val rfl rfl
                clear hd
                have r := bel_cell hS.bel d1
                go_simp
                exact hK.out _ _ (by first | rfl | (simp only [e83]; done) | (simp only [e83]; rfl)) (GC.refl _ _) (hS.u (by decide) (by decide))
              refine StepsOkY.cons (StepOkY.known rfl fun y W hS hd K' hK => ?_) ?_
              · skip
                clear hd
                go_simp
                exact hK.out _ _ rfl (GC.refl _ _) (hS.u (by decide) (by decide))
              refine StepsOkY.cons (StepOkY.known rfl fun y W hS hd K' hK => ?_) ?_
              · skip
                have e84 : y 84 = .slice (some ⟨gy, oy, none⟩) t.zones.length a.zc := (hd 10 rfl).val rfl rfl
                have e85 : y 85 = .int .i64 p := (hd 11 rfl).val rfl rfl
                clear hd
                go_simp
                exact hK.out _ _ (by first | rfl | (simp only [e84, e85]; done) | (simp only [e84, e85]; rfl)) (GC.refl _ _) (hS.u (by decide) (by decide))
              refine StepsOkY.cons (StepOkY.known rfl fun y W hS hd K' hK => ?_) ?_
              · skip
                have e86 : y 86 = .pointer (some ⟨gy, oy + p * 2, none⟩) := (hd 12 rfl).val rfl rfl
                clear hd
                go_simp
                exact hK.out _ _ (by first | rfl | (simp only [e86]; done) | (simp only [e86]; rfl)) (GC.refl _ _) (hS.u (by decide) (by decide))
              refine StepsOkY.cons (StepOkY.known rfl fun y W hS hd K' hK => ?_) ?_
              · skip
                have e87 : y 87 = .pointer (some ⟨gy, oy + p * 2 + 1, none⟩) := (hd 13 rfl).val rfl rfl
                clear hd
                have r := bel_cell hS.bel m1
                go_simp
                exact hK.out _ _ (by first | rfl | (simp only [e87]; done) | (simp only [e87]; rfl)) (GC.refl _ _) (hS.u (by decide) (by decide))
              refine StepsOkY.cons (StepOkY.known rfl fun y W hS hd K' hK => ?_) ?_
              · skip
                clear hd
                go_simp
                exact hK.out _ _ rfl (GC.refl _ _) (hS.u (by decide) (by decide))
              refine StepsOkY.cons (StepOkY.known rfl fun y W hS hd K' hK => ?_) ?_
              · skip
                have e88 : y 88 = .slice (some ⟨gf, of_, none⟩) z.eras.length zy.c := (hd 14 rfl).val rfl rfl
                have e89 : y 89 = .int .i64 q := (hd 15 rfl).val rfl rfl
                clear hd
                go_simp
                exact hK.out _ _ (by first | rfl | (simp only [e88, e89]; done) | (simp only [e88, e89]; rfl)) (GC.refl _ _) (hS.u (by decide) (by decide))
              refine StepsOkY.cons (StepOkY.known rfl fun y W hS hd K' hK => ?_) ?_
              · skip
                have e90 : y 90 = .pointer (some ⟨gf, of_ + q * 13, none⟩) := (hd 16 rfl).val rfl rfl
                clear hd
                have r0 := bel_cell hS.bel x0
                have r1 := bel_cell hS.bel x1
                have r2 := bel_cell hS.bel x2
                have r3 := bel_cell hS.bel x3
                have r4 := bel_cell hS.bel x4
                have r5 := bel_cell hS.bel x5
                have r6 := bel_cell hS.bel x6
                have r7 := bel_cell hS.bel x7
                have r8 := bel_cell hS.bel x8
                have r9 := bel_cell hS.bel x9
                have r10 := bel_cell hS.bel x10
                have r11 := bel_cell hS.bel x11
                have r12 := bel_cell hS.bel x12
                go_simp
                exact hK.out _ _ (by first | rfl | (simp only [e90]; done) | (simp only [e90]; rfl)) (GC.refl _ _) (hS.u (by decide) (by decide))
              refine StepsOkY.cons (StepOkY.other rfl fun y W hS hd K' hK => ?_) ?_
              · skip
                clear hd
                go_simp
                exact hK.out _ _ _ rfl (GC.alloc _ _ _) hS.alloc10 ⟨W.heap.size, rfl, hS.bel.size⟩
              refine StepsOkY.cons (StepOkY.other rfl fun y W hS hd K' hK => ?_) ?_
              · skip
                clear hd
                go_simp
                exact hK.out _ _ _ rfl (GC.alloc _ _ _) hS.alloc11 ⟨W.heap.size, rfl, hS.bel.size⟩
              refine StepsOkY.cons (StepOkY.other rfl fun y W hS hd K' hK => ?_) ?_
              · skip
                have x18 : (fun (y : Nat → Value) (W : World) => ∃ g : Nat, y 10 = .pointer (some ⟨g, 0, none⟩) ∧ wi.heap.size ≤ g) y W := (hd 18 rfl).ex rfl
                have e82 : y 82 = .agg #[.int .i64 e.off, .int .i64 e.kind, .int .i64 e.save, .string e.set, .string e.fmt, .bool e.ui, .int .i64 e.uy, .int .i64 e.um, .int .i64 e.dk, .int .i64 e.dw, .int .i64 e.dd, .int .i64 e.asec, .int .i64 e.ab] := (hd 8 rfl).val rfl rfl
                clear hd
                obtain ⟨g, h1, h2⟩ := x18
                have HT := Lib.hid (hS.store10 h1 h2 e)
                obtain ⟨k0, k1, k2, k3, k4, k5, k6, k7, k8, k9, k10, k11, k12, hb⟩ := thirteen (hS.a g h1 h2)
                have r0 := (hb.cell 0).trans rfl
                have r1 := (hb.cell 1).trans rfl
                have r2 := (hb.cell 2).trans rfl
                have r3 := (hb.cell 3).trans rfl
                have r4 := (hb.cell 4).trans rfl
                have r5 := (hb.cell 5).trans rfl
                have r6 := (hb.cell 6).trans rfl
                have r7 := (hb.cell 7).trans rfl
                have r8 := (hb.cell 8).trans rfl
                have r9 := (hb.cell 9).trans rfl
                have r10 := (hb.cell 10).trans rfl
                have r11 := (hb.cell 11).trans rfl
                have r12 := (hb.cell 12).trans rfl
                have s0 := hb.frozen 0
                have s1 := hb.frozen 1
                have s2 := hb.frozen 2
                have s3 := hb.frozen 3
                have s4 := hb.frozen 4
                have s5 := hb.frozen 5
                have s6 := hb.frozen 6
                have s7 := hb.frozen 7
                have s8 := hb.frozen 8
                have s9 := hb.frozen 9
                have s10 := hb.frozen 10
                have s11 := hb.frozen 11
                have s12 := hb.frozen 12
                clear hb
                go_simp
                exact hK.out undef _ _ (by first | rfl | (simp only [h1, e82]; done) | (simp only [h1, e82]; rfl)) HT.out.2.2 HT.out.1 ⟨g, h1, HT.out.2.1⟩
              refine StepsOkY.cons (StepOkY.other rfl fun y W hS hd K' hK => ?_) ?_
              · skip
                have x19 : (fun (y : Nat → Value) (W : World) => ∃ g : Nat, y 11 = .pointer (some ⟨g, 0, none⟩) ∧ wi.heap.size ≤ g) y W := (hd 19 rfl).ex rfl
                have e91 : y 91 = .agg #[.int .i64 f.off, .int .i64 f.kind, .int .i64 f.save, .string f.set, .string f.fmt, .bool f.ui, .int .i64 f.uy, .int .i64 f.um, .int .i64 f.dk, .int .i64 f.dw, .int .i64 f.dd, .int .i64 f.asec, .int .i64 f.ab] := (hd 17 rfl).val rfl rfl
                have x20 : (fun (y : Nat → Value) (W : World) => ∃ g : Nat, y 10 = .pointer (some ⟨g, 0, none⟩) ∧ Blk W g 47 #[.int .i64 e.off, .int .i64 e.kind, .int .i64 e.save, .string e.set, .string e.fmt, .bool e.ui, .int .i64 e.uy, .int .i64 e.um, .int .i64 e.dk, .int .i64 e.dw, .int .i64 e.dd, .int .i64 e.asec, .int .i64 e.ab]) y W := (hd 20 rfl).ex rfl
                clear hd
                obtain ⟨g, h1, h2⟩ := x19
                obtain ⟨g0, h3, h4⟩ := x20
                have HT := Lib.hid (hS.store11 h1 h2 HFN.out)
                rcases hS.b g h1 h2 with hb | hb
                · have r0 := (hb.cell 0).trans rfl
                  have r1 := (hb.cell 1).trans rfl
                  have r2 := (hb.cell 2).trans rfl
                  have r3 := (hb.cell 3).trans rfl
                  have r4 := (hb.cell 4).trans rfl
                  have r5 := (hb.cell 5).trans rfl
                  have r6 := (hb.cell 6).trans rfl
                  have r7 := (hb.cell 7).trans rfl
                  have r8 := (hb.cell 8).trans rfl
                  have r9 := (hb.cell 9).trans rfl
                  have r10 := (hb.cell 10).trans rfl
                  have r11 := (hb.cell 11).trans rfl
                  have r12 := (hb.cell 12).trans rfl
                  have s0 := hb.frozen 0
                  have s1 := hb.frozen 1
                  have s2 := hb.frozen 2
                  have s3 := hb.frozen 3
                  have s4 := hb.frozen 4
                  have s5 := hb.frozen 5
                  have s6 := hb.frozen 6
                  have s7 := hb.frozen 7
                  have s8 := hb.frozen 8
                  have s9 := hb.frozen 9
                  have s10 := hb.frozen 10
                  have s11 := hb.frozen 11
                  have s12 := hb.frozen 12
                  clear hb
                  go_simp
                  exact hK.out undef _ _ (by first | rfl | (simp only [h1, h3, e91]; done) | (simp only [h1, h3, e91]; rfl)) HT.out.2.2 HT.out.1 ⟨g0, g, h3, h1, HT.out.2.2 g0 h4, HT.out.2.1⟩
                · have r0 := (hb.cell 0).trans rfl
                  have r1 := (hb.cell 1).trans rfl
                  have r2 := (hb.cell 2).trans rfl
                  have r3 := (hb.cell 3).trans rfl
                  have r4 := (hb.cell 4).trans rfl
                  have r5 := (hb.cell 5).trans rfl
                  have r6 := (hb.cell 6).trans rfl
                  have r7 := (hb.cell 7).trans rfl
                  have r8 := (hb.cell 8).trans rfl
                  have r9 := (hb.cell 9).trans rfl
                  have r10 := (hb.cell 10).trans rfl
                  have r11 := (hb.cell 11).trans rfl
                  have r12 := (hb.cell 12).trans rfl
                  have s0 := hb.frozen 0
                  have s1 := hb.frozen 1
                  have s2 := hb.frozen 2
                  have s3 := hb.frozen 3
                  have s4 := hb.frozen 4
                  have s5 := hb.frozen 5
                  have s6 := hb.frozen 6
                  have s7 := hb.frozen 7
                  have s8 := hb.frozen 8
                  have s9 := hb.frozen 9
                  have s10 := hb.frozen 10
                  have s11 := hb.frozen 11
                  have s12 := hb.frozen 12
                  clear hb
                  go_simp
                  exact hK.out undef _ _ (by first | rfl | (simp only [h1, h3, e91]; done) | (simp only [h1, h3, e91]; rfl)) HT.out.2.2 HT.out.1 ⟨g0, g, h3, h1, HT.out.2.2 g0 h4, HT.out.2.1⟩
              exact StepsOkY.nil
          case rest =>
            obtain ⟨g10, g11, rfl, rfl, hcx⟩ := hcut
            obtain ⟨w3, hw3⟩ : ∃ x, x = wc := ⟨_, rfl⟩
            subst hw3
            clear c1 d1 n1 m1 y0 y1 y2 y3 y4 y5 y6 y7 y8 y9 y10 y11 y12 x0 x1 x2 x3 x4 x5 x6 x7 x8 x9 x10 x11 x12
            have k1 := ((hcx.out.1.alloc (.cells #[.int .i64 0] 2)).cell 1).trans rfl
            go_upto_if 95 with fail
            clear k1
            go_cut [12] (fun s12 wx => ∃ g12, s12 = .slice (some ⟨g12, 0, none⟩) 1 1 ∧ Hid (Blk wx g12 2 #[.int .i64 (if e.kind = 1 then e.save else 0)] ∧ w3.heap.size ≤ g12 ∧ Below w3.heap.size w3 wx))
            case first =>
              by_cases hk1 : e.kind = 1
              · have hkd : (e.kind == 1) = true := by simp [hk1]
                have k2 := ((hcx.out.1.alloc (.cells #[.int .i64 0] 2)).cell 2).trans rfl
                have HBN := Lib.hid (Blk.newAt (w3.alloc (.cells #[.int .i64 0] 2)) (w3.heap.size + 1) (by simp) 2 #[.int .i64 e.save])
                have HBB := Lib.hid (((Below.refl w3.heap.size w3).alloc (Nat.le_refl _) (.cells #[.int .i64 0] 2)).alloc (by simp) (.cells #[.int .i64 e.save] 2))
                have HK1 := Lib.hid hk1
                clear hk1
                go_wp2_with fail
                go_meet
                exact ⟨w3.heap.size + 1, rfl, Lib.hid ⟨by rw [if_pos HK1.out]; exact HBN.out, by omega, HBB.out⟩⟩
              · have hkd : (e.kind == 1) = false := by simpa using hk1
                go_wp2_with fail
                go_meet
                exact ⟨w3.heap.size, rfl, Lib.hid ⟨by rw [if_neg hk1]; exact Blk.new _ _ _, Nat.le_refl _, (Below.refl w3.heap.size w3).alloc (Nat.le_refl _) (.cells #[.int .i64 0] 2)⟩⟩
            case rest =>
              obtain ⟨g12, rfl, h12⟩ := hcut
              obtain ⟨w4, hw4⟩ : ∃ x, x = wc := ⟨_, rfl⟩
              subst hw4
              have HB4 := Lib.hid (hcx.out.2.2.trans (h12.out.2.2.mono hcx.out.2.2.size))
              have H10 := Lib.hid (hcx.out.1.below h12.out.2.2 hcx.out.1.lt)
              have H11 := Lib.hid (hcx.out.2.1.below h12.out.2.2 hcx.out.2.1.lt)
              have hx5 := HXt'.out.below HB4.out HXt'.out.lt
              have t0 := (hx5.cell 0).trans rfl; have t1 := (hx5.cell 1).trans rfl; have t2 := (hx5.cell 2).trans rfl; have t3 := (hx5.cell 3).trans rfl
              have k3 := (H10.out.cell 3).trans rfl
              obtain ⟨RS, hRS⟩ : ∃ RS, ofSet t.rules e.set = RS := ⟨_, rfl⟩
              have hrl : RS.length ≤ 100000 := by rw [← hRS]; exact Nat.le_trans (List.length_filter_le ..) (by have := HGD.out.lens.1; omega)
              have cO := setof_any t e.set w4 (HGt'.out.below HB4.out).src (by have := HGD.out.lens.1; omega)
              rw [hRS] at cO
              have HRS := Lib.hid hRS
              clear hx5 hRS
              go_wp2_with fail
              refine cO.mono ?_
              rintro x w5 ⟨RA, rc5, rfl, hR, hc5⟩
              obtain ⟨ON, OB, hO⟩ : ∃ ON OB, P20.other (svs RS) = (ON, OB) := ⟨_, _, rfl⟩
              have cN := other_any RA RS rc5 w5 (by omega) hR
              rw [hO] at cN
              have HC5 := Lib.hid hc5; have HO5 := Lib.hid hO
              clear cO t0 t1 t2 t3 k3 hR hc5 hO hrl
              go_wp2_with fail
              refine cN.mono ?_
              rintro x w6 ⟨rfl, hc6⟩
              have HC6 := Lib.hid (HC5.out.trans (hc6.mono HC5.out.size))
              have H10b := Lib.hid (H10.out.below HC6.out H10.out.lt)
              have H11b := Lib.hid (H11.out.below HC6.out H11.out.lt)
              have h12b := Lib.hid (h12.out.1.below HC6.out h12.out.1.lt)
              have H12n := Lib.hid h12.out.2.1
              have HW3 := Lib.hid (h12.out.2.2.trans (HC6.out.mono h12.out.2.2.size))
              have HB6 := Lib.hid (HB4.out.trans (HC6.out.mono HB4.out.size))
              clear hc6 cN H10 H11 h12 HC5 HB4 HC6
              have k1 := (H10b.out.cell 1).trans rfl
              go_upto_region 18 with fail
              obtain ⟨BK, hBK⟩ : ∃ b, decide (e.kind = 2) = b := ⟨_, rfl⟩
              have HBK := Lib.hid hBK
              clear hBK
              go_cut [112] (fun s112 wx => s112 = .bool BK ∧ wx = w6)
              case first =>
                by_cases hk2 : e.kind = 2
                · have hkd : (e.kind == 2) = true := by simp [hk2]
                  obtain rfl : OB = true := by
                    have q := HGE.out.other hk2
                    rw [HRS.out, HO5.out] at q
                    exact q
                  have hdk : decide (e.kind = 2) = true := by simp [hk2]
                  have HDK := Lib.hid hdk
                  clear hk2 hdk
                  go_wp2_with fail
                  go_meet
                  exact ⟨by rw [← HBK.out, HDK.out], rfl⟩
                · have hkd : (e.kind == 2) = false := by simpa using hk2
                  have hdk : decide (e.kind = 2) = false := by simpa using hk2
                  have HDK := Lib.hid hdk
                  clear hk2 hdk
                  cases OB
                  · go_wp2_with fail
                    go_meet
                    exact ⟨by rw [← HBK.out, HDK.out], rfl⟩
                  · go_wp2_with fail
                    go_meet
                    exact ⟨by rw [← HBK.out, HDK.out], rfl⟩
              case rest =>
                obtain ⟨rfl, rfl⟩ := hcut
                obtain ⟨w6, hw6⟩ : ∃ x, x = wc := ⟨_, rfl⟩
                subst hw6
                clear k1
                have HGS := Lib.hid (show e.kind = 2 → saves23 t.rules e = [0, ON] from fun k => by unfold saves23; rw [if_pos k, HRS.out, HO5.out])
                have HGN := Lib.hid (show ¬ e.kind = 2 → saves23 t.rules e = [if e.kind = 1 then e.save else 0] from fun k => by
                  unfold saves23
                  rw [if_neg k]
                  split <;> rfl)
                obtain ⟨SL, hSL⟩ : ∃ SL, saves23 t.rules e = SL := ⟨_, rfl⟩
                rw [hSL] at HGS HGN
                have HSL := Lib.hid hSL
                clear hSL
                go_upto_if 112 with fail
                go_cut [12] (fun s12 wx => ∃ A c, s12 = .slice A SL.length c ∧ Hid (CellsIn 1 i64Cell wx A SL ∧ Below w3.heap.size w3 wx))
                case first =>
                  cases BK with
                  | true =>
                    have hk2 : e.kind = 2 := of_decide_eq_true HBK.out
                    have hal := (Below.refl w6.heap.size w6).alloc (Nat.le_refl _) (.cells #[.int .i64 ON] 2)
                    have HNB := Lib.hid (Blk.new w6 2 #[.int .i64 ON])
                    have HOW : Hid (RowOf (w6.alloc (.cells #[.int .i64 ON] 2)) w3.heap.size 2 1 i64Cell (some ⟨g12, 0, none⟩) 1 [0]) := Lib.hid (by
                      have q := own_new (base := w3.heap.size) 1 1 (h12b.out.alloc (.cells #[.int .i64 ON] 2)) H12n.out rfl (by decide)
                      rw [if_neg (by omega)] at q
                      exact q)
                    have HAL := Lib.hid (HW3.out.alloc HW3.out.size (.cells #[.int .i64 ON] 2))
                    have hsz := Lib.hid (show w3.heap.size ≤ (w6.alloc (.cells #[.int .i64 ON] 2)).heap.size from Nat.le_trans HW3.out.size hal.size)
                    obtain ⟨i2, hi2, hz0, hz1, hz2⟩ := info_parts infoI30
                    have HSK := Lib.hid (HGS.out hk2)
                    clear hal hk2
                    go_wp2_with (at_builtin; refine wpList_append_own _ rfl _ _ 48 rfl w3.heap.size 2 i2 _ 1 8 Tryd.underlying48 hi2 hz0 hz1 hz2 rfl (by decide) _ _ _ rfl HOW.out ⟨w6.heap.size, 0, none⟩ 1 1 [.int .i64 ON] rfl rfl (blk_cells HNB.out) (by simp [Value.oneCell']) (by simp [maxLen]) (by simp) hsz.out ?_)
                    intro v1 W6 hown hgr hne
                    obtain ⟨A7, c7, rfl⟩ := row_is hown
                    have HR7 := Lib.hid (show RowOf W6 w3.heap.size 2 1 i64Cell A7 c7 [0, ON] from hown)
                    have HB7 := Lib.hid (HAL.out.grown hgr hsz.out (fun K hK => by
                      have q := World.ownsRow.lt HOW.out K hK
                      exact q.1))
                    clear hown hgr hne hi2 hz0 hz1 hz2
                    go_wp2_with fail
                    go_meet
                    exact ⟨A7, c7, by rw [HSK.out]; rfl, Lib.hid ⟨by rw [HSK.out]; exact HR7.out.cellsIn (fun _ => rfl), HB7.out⟩⟩
                  | false =>
                    have hk2 : ¬ e.kind = 2 := of_decide_eq_false HBK.out
                    have HSK := Lib.hid (HGN.out hk2)
                    clear hk2
                    go_wp2_with fail
                    go_meet
                    exact ⟨some ⟨g12, 0, none⟩, 1, by rw [HSK.out]; rfl, Lib.hid ⟨by
                      rw [HSK.out]
                      have q := own_new (base := w3.heap.size) 1 1 h12b.out H12n.out rfl (by decide)
                      have q2 : RowOf w6 w3.heap.size 2 1 i64Cell (some ⟨g12, 0, none⟩) 1 [if e.kind = 1 then e.save else 0] := q
                      exact q2.cellsIn (fun _ => rfl), HW3.out⟩⟩
                case rest =>
                  obtain ⟨A7, c7, rfl, hsl⟩ := hcut
                  obtain ⟨w7, hw7⟩ : ∃ x, x = wc := ⟨_, rfl⟩
                  subst hw7
                  have HB7 := Lib.hid (hcx.out.2.2.trans (hsl.out.2.mono hcx.out.2.2.size))
                  have HE10 := Lib.hid (hcx.out.1.below hsl.out.2 hcx.out.1.lt)
                  have HE11 := Lib.hid (hcx.out.2.1.below hsl.out.2 hcx.out.2.1.lt)
                  have HCL := Lib.hid hsl.out.1
                  have HSB := Lib.hid (show ∀ s ∈ SL, -9223372036854775808 ≤ s ∧ s ≤ 9223372036854775807 by rw [← HSL.out]; exact saves_bd HGE.out)
                  have HAB := Lib.hid (show ∀ s ∈ SL, P21.abbrv (P4.bl e.fmt) e.off s (P4.bl (l3 LK)) = P21.abbrv (P4.bl f.fmt) f.off s (P4.bl (l3 LK)) by
                    intro s hs
                    rw [← HSL.out] at hs
                    rw [HFE.out]
                    exact HGE.out.abbr s hs _)
                  have hs2 : (SL.length : Int) ≤ 2 := by
                    rw [← HSL.out]
                    unfold saves23
                    split
                    · simp
                    · split <;> simp
                  have HOFF := Lib.hid (show (-9223372036854775808 ≤ e.off ∧ e.off ≤ 9223372036854775807) ∧ f.off = e.off ∧ e.fmt.size ≤ 500000 ∧ f.fmt.size ≤ 500000 from ⟨by have := HGE.out.off; omega, by rw [HFE.out]; rfl, by have := fmt23_size HGE.out.fmt; omega, by have := exF_size t.rules e (by have := fmt23_size HGE.out.fmt; omega); rw [HFE.out]; show (exF t.rules e).1.size ≤ 500000; omega⟩)
                  clear hsl H10b H11b h12b H12n HW3 HB6 HGS HGN HSL
                  go_wp2_with fail
                  go_loopw [15] (fun i W => ∃ j : Nat, j ≤ SL.length ∧ i = .int .i64 j ∧ Below w7.heap.size w7 W) (fun i _ => SL.length - (intOf i).toNat)
                  case atStart => exact ⟨0, Nat.zero_le _, rfl, Below.refl _ _⟩
                  case round =>
                    obtain ⟨w8, hw8⟩ : ∃ x, x = wr := ⟨_, rfl⟩
                    subst hw8
                    obtain ⟨j, hj2, rfl, hb⟩ := hrel
                    have HB8 := Lib.hid hb
                    by_cases hjt : j < SL.length
                    · obtain ⟨s, hs⟩ : ∃ s, SL[j]? = some s := ⟨_, List.getElem?_eq_getElem hjt⟩
                      obtain ⟨gs, os, rfl, hgs, hcs⟩ := (HCL.out.below hb) j s hs
                      have HSC := Lib.hid (show w8.cell? ⟨gs, os + j, none⟩ = some (.int .i64 s) from by simpa using hcs 0 _ rfl)
                      have hji : (j : Int) < (SL.length : Int) := by omega
                      have hj0 : (0 : Int) ≤ (j : Int) := by omega
                      have HSM := Lib.hid (List.mem_of_getElem? hs); have HJT := Lib.hid hjt
                      clear hb hs hcs hjt
                      go_upto_region 23 with fail
                      have hl0 : (0 : Int) ≤ (LK : Int) := by omega
                      have hl3 : (LK : Int) < 3 := by omega
                      refine wp_region_shape [(some 123, []), (some 124, []), (some 125, [0, 1]), (some 126, [2]), (some 127, []), (some 128, []), (some 129, [5]), (some 130, [4, 6]), (some 131, [7]), (some 132, [3, 8]), (some 16, []), (none, [10, 9, 0, 1, 2, 3, 4, 5, 6, 7, 8, 9, 10])] (fun y => { tmps := #[.agg #[.slice d.sA d.sets.length d.sc, .slice d.zA d.zones.length d.zc, .slice d.lA d.links.length d.lc], .int .u8 letter, .pointer (some ⟨w.heap.size, 0, none⟩), undef, u4, .pointer (some ⟨g5, 0, none⟩), .pointer (some ⟨g6, 0, none⟩), .int .i64 0, .int .i64 p, .int .i64 q, .pointer (some ⟨g10, 0, none⟩), .pointer (some ⟨g11, 0, none⟩), .slice (some ⟨gs, os, none⟩) SL.length c7, .int .i64 ON, .bool OB, .int .i64 j, y 16, u17, u18, u19, u20, u21, u22, .agg #[.slice d.sA d.sets.length d.sc, .slice d.zA d.zones.length d.zc, .slice d.lA d.links.length d.lc], .agg #[.slice t.rA t.rules.length t.rc, .slice t.zA t.zones.length t.zc, .slice t.kA t.links.length t.kc, .slice t.hA t.shifts.length t.hc], .tuple #[.agg #[.slice a.rA a.rules.length a.rc, .slice a.zA a.zones.length a.zc, .slice a.kA a.links.length a.kc, .slice a.hA a.shifts.length a.hc], .int .i64 0], .agg #[.slice t.rA t.rules.length t.rc, .slice t.zA t.zones.length t.zc, .slice t.kA t.links.length t.kc, .slice t.hA t.shifts.length t.hc], .tuple #[.agg #[.slice a.rA a.rules.length a.rc, .slice a.zA a.zones.length a.zc, .slice a.kA a.links.length a.kc, .slice a.hA a.shifts.length a.hc], .int .i64 0], .agg #[.slice a.rA a.rules.length a.rc, .slice a.zA a.zones.length a.zc, .slice a.kA a.links.length a.kc, .slice a.hA a.shifts.length a.hc], .int .i64 0, .int .i64 0, .bool false, .bool false, .pointer (some ⟨g6, 1, none⟩), .slice a.zA a.zones.length a.zc, .int .i64 a.zones.length, .pointer (some ⟨g5, 1, none⟩), .slice t.zA t.zones.length t.zc, .int .i64 t.zones.length, .bool false, .bool false, .int .i64 p, .pointer (some ⟨g5, 1, none⟩), .slice (some ⟨gz0, oz0, none⟩) t.zones.length t.zc, .int .i64 t.zones.length, .bool true, u46, u47, .pointer (some ⟨g6, 1, none⟩), .slice (some ⟨gy0, oy0, none⟩) t.zones.length a.zc, .int .i64 p, .pointer (some ⟨gy0, oy0 + p * 2, none⟩), .pointer (some ⟨gy0, oy0 + p * 2 + 1, none⟩), .slice zy.A z.eras.length zy.c, .int .i64 z.eras.length, .pointer (some ⟨g5, 1, none⟩), .slice (some ⟨gz0, oz0, none⟩) t.zones.length t.zc, .int .i64 p, .pointer (some ⟨gz0, oz0 + p * 2, none⟩), .pointer (some ⟨gz0, oz0 + p * 2 + 1, none⟩), .slice z.A z.eras.length z.c, .int .i64 z.eras.length, .bool false, u63, u64, u65, u66, u67, u68, u69, u70, u71, u72, u73, u74, u75, u76, u77, u78, u79, u80, u81, u82, u83, u84, u85, u86, u87, u88, u89, u90, u91, u92, u93, u94, u95, u96, u97, u98, u99, u100, u101, u102, u103, u104, u105, u106, u107, u108, u109, u110, u111, u112, u113, u114, u115, u116, .int .i64 j, .slice (some ⟨gs, os, none⟩) SL.length c7, .int .i64 SL.length, .bool true, u121, u122, y 123, y 124, y 125, y 126, y 127, y 128, y 129, y 130, y 131, y 132, u133, u134, u135, u136, u137, u138, u139, u140, u141, u142, u143, u144, u145, u146, u147, u148, u149, u150, u151, u152, u153, u154, u155, u156, u157, u158, u159, u160, u161, u162, u163, u164, u165, u166, u167, u168, u169, u170, u171, u172, u173, u174, u175, u176, u177, u178, u179, u180, u181, u182, u183, undef], defers := [] }) (fun k => match k with | 16 => u16 | 123 => u123 | 124 => u124 | 125 => u125 | 126 => u126 | 127 => u127 | 128 => u128 | 129 => u129 | 130 => u130 | 131 => u131 | 132 => u132 | _ => undef) (fun j => j == 4 || j == 7 || j == 10 || j == 11) [.slice (some ⟨gs, os, none⟩) SL.length c7, .int .i64 j, .pointer (some ⟨gs, os + j, none⟩), .int .i64 s, undef, .int .u8 letter, .int .u8 LK, undef, .string (l3 LK), .agg #[.int .i64 s, .string (l3 LK)], undef, undef] (fun j y W => match j with | 4 => ∃ B : Nat, y 127 = .slice (some ⟨B, 0, none⟩) 3 3 ∧ Blk W B 9 #[.string ⟨#[]⟩, .string ⟨#[83]⟩, .string ⟨#[68]⟩] | 7 => ∃ B : Nat, y 130 = .pointer (some ⟨B, LK, none⟩) ∧ Blk W B 9 #[.string ⟨#[]⟩, .string ⟨#[83]⟩, .string ⟨#[68]⟩] | 10 => ∃ g : Nat, y 16 = .pointer (some ⟨g, 0, none⟩) ∧ w8.heap.size ≤ g ∧ ∃ a b, Blk W g 53 #[a, b] | 11 => ∃ g : Nat, y 16 = .pointer (some ⟨g, 0, none⟩) ∧ Blk W g 53 #[.int .i64 s, .string (l3 LK)] | _ => True) (fun j => match j with | 4 => [127] | 7 => [130] | 10 => [16] | 11 => [16] | _ => []) (G2 53) (fun W => Below w8.heap.size w8 W) (by kernel_rfl) (by kernel_rfl) (by decide +kernel) rfl (Below.refl _ _).drew ?hput9 ?hloc9 ?hmono9 ?hstep9 ?hdone9
                      case hput9 =>
                        intro d hd y v
                        simp only [List.filterMap_cons, List.filterMap_nil, List.mem_cons, List.not_mem_nil, or_false] at hd
                        rcases hd with rfl | rfl | rfl | rfl | rfl | rfl | rfl | rfl | rfl | rfl | rfl
                        all_goals rfl
                      case hloc9 =>
                        intro j hj y y' W hk hx
                        have hj' : j = 4 ∨ j = 7 ∨ j = 10 ∨ j = 11 := by simpa [or_assoc] using hj
                        rcases hj' with rfl | rfl | rfl | rfl
                        · simp only [List.forall_mem_cons, List.not_mem_nil, false_imp_iff, implies_true, and_true] at hk
                          show _
                          simpa only [hk] using hx
                        · simp only [List.forall_mem_cons, List.not_mem_nil, false_imp_iff, implies_true, and_true] at hk
                          show _
                          simpa only [hk] using hx
                        · simp only [List.forall_mem_cons, List.not_mem_nil, false_imp_iff, implies_true, and_true] at hk
                          show _
                          simpa only [hk] using hx
                        · simp only [List.forall_mem_cons, List.not_mem_nil, false_imp_iff, implies_true, and_true] at hk
                          show _
                          simpa only [hk] using hx
                      case hmono9 =>
                        intro j hj hlast y W W' hg hx
                        have hj' : j = 4 ∨ j = 7 ∨ j = 10 ∨ j = 11 := by simpa [or_assoc] using hj
                        rcases hj' with rfl | rfl | rfl | rfl
                        · obtain ⟨B, h1, h2⟩ := hx; exact ⟨B, h1, hg.far _ _ _ (by decide) h2⟩
                        · obtain ⟨B, h1, h2⟩ := hx; exact ⟨B, h1, hg.far _ _ _ (by decide) h2⟩
                        · obtain ⟨g, h1, h2, h3⟩ := hx; exact ⟨g, h1, h2, hg.own g h3⟩
                        · exact absurd hlast (by decide)
                      case hdone9 =>
                        intro y9 w9 hS hd
                        have x11 : (fun (y : Nat → Value) (W : World) => ∃ g : Nat, y 16 = .pointer (some ⟨g, 0, none⟩) ∧ Blk W g 53 #[.int .i64 s, .string (l3 LK)]) y9 w9 := (hd 11 (by decide)).ex rfl
                        obtain ⟨g16, e16, hb16⟩ := x11
                        rw [e16]
                        have HBL := Lib.hid (HB8.out.trans (hS.mono HB8.out.size))
                        have HX16 := Lib.hid hb16
                        have HVW := Lib.hid (hv.below (HB.out.trans ((HB7.out.trans (HBL.out.mono HB7.out.size)).mono HB.out.size)))
                        have hx := HE10.out.below HBL.out HE10.out.lt
                        have hy := HE11.out.below HBL.out HE11.out.lt
                        have a0 := (hb16.cell 0).trans rfl; have a1 := (hb16.cell 1).trans rfl; have t0 := (hx.cell 0).trans rfl; have t4 := (hx.cell 4).trans rfl
                        clear hd hS hb16 hx hy
                        obtain ⟨pv, pn, hp⟩ : ∃ pv pn, P21.abbrv (P4.bl e.fmt) e.off s (P4.bl (l3 LK)) = (pv, pn) := ⟨_, _, rfl⟩
                        have cA := fabbr_any e.fmt e.off s (l3 LK) w9 HOFF.out.2.2.1 (by have := l3_size LK; omega) HOFF.out.1 (HSB.out s HSM.out) HVW.out
                        have hp2 := (HAB.out s HSM.out).symm.trans hp
                        have HP2 := Lib.hid hp2
                        simp only [hp] at cA
                        have CA := Lib.hid cA
                        clear hp hp2 cA
                        go_wp2_with fail
                        refine CA.out.mono ?_
                        rintro x w10 ⟨rfl, hc⟩
                        have HC10 := Lib.hid hc; have HBM := Lib.hid (HBL.out.trans (hc.mono HBL.out.size))
                        have hx := HX16.out.below hc HX16.out.lt
                        have hy := HE11.out.below HBM.out HE11.out.lt
                        clear a0 a1 t0 t4 hc CA
                        have a0 := (hx.cell 0).trans rfl; have a1 := (hx.cell 1).trans rfl; have t0 := (hy.cell 0).trans rfl; have t4 := (hy.cell 4).trans rfl
                        clear hx hy
                        have cA := fabbr_any f.fmt f.off s (l3 LK) w10 HOFF.out.2.2.2 (by have := l3_size LK; omega) (by rw [HOFF.out.2.1]; exact HOFF.out.1) (HSB.out s HSM.out) (HVW.out.below HC10.out)
                        simp only [HP2.out] at cA
                        have CA := Lib.hid cA
                        clear cA
                        go_wp2_with fail
                        refine CA.out.mono ?_
                        rintro x w11 ⟨rfl, hc⟩
                        have HBN := Lib.hid (HBM.out.trans (hc.mono HBM.out.size))
                        clear a0 a1 t0 t4 hc CA
                        go_wp2_with fail
                        go_roundw
                        case rel => exact ⟨j + 1, by have := HJT.out; omega, by go_num, HBN.out⟩
                        case measure => have := HJT.out; simp [intOf]; omega
                      case hstep9 =>
                        refine StepsOk.cons (StepOk.known rfl fun y W hS hd K' hK => ?_) ?_
                        · skip
                          clear hd
                          go_simp
                          exact hK.out _ _ rfl (G2.refl _ _) hS
                        refine StepsOk.cons (StepOk.known rfl fun y W hS hd K' hK => ?_) ?_
                        · skip
                          clear hd
                          go_simp
                          exact hK.out _ _ rfl (G2.refl _ _) hS
                        refine StepsOk.cons (StepOk.known rfl fun y W hS hd K' hK => ?_) ?_
                        · skip
                          have e123 : y 123 = .slice (some ⟨gs, os, none⟩) SL.length c7 := (hd 0 rfl).val rfl rfl
                          have e124 : y 124 = .int .i64 j := (hd 1 rfl).val rfl rfl
                          clear hd
                          go_simp
                          exact hK.out _ _ (by first | rfl | (simp only [e123, e124]; done) | (simp only [e123, e124]; rfl)) (G2.refl _ _) hS
                        refine StepsOk.cons (StepOk.known rfl fun y W hS hd K' hK => ?_) ?_
                        · skip
                          have e125 : y 125 = .pointer (some ⟨gs, os + j, none⟩) := (hd 2 rfl).val rfl rfl
                          clear hd
                          have r := bel_cell hS HSC.out
                          go_simp
                          exact hK.out _ _ (by first | rfl | (simp only [e125]; done) | (simp only [e125]; rfl)) (G2.refl _ _) hS
                        refine StepsOk.cons (StepOk.other rfl fun y W hS hd K' hK => ?_) ?_
                        · skip
                          clear hd
                          go_simp
                          exact hK.out _ _ _ rfl (G2.alloc _ _ _) (hS.alloc hS.size _) (show ∃ B : Nat, _ = Value.slice (some ⟨B, 0, none⟩) 3 3 ∧ Blk _ B 9 #[.string ⟨#[]⟩, .string ⟨#[83]⟩, .string ⟨#[68]⟩] from ⟨W.heap.size, rfl, Blk.new _ _ _⟩)
                        refine StepsOk.cons (StepOk.known rfl fun y W hS hd K' hK => ?_) ?_
                        · skip
                          clear hd
                          go_simp
                          exact hK.out _ _ rfl (G2.refl _ _) hS
                        refine StepsOk.cons (StepOk.known rfl fun y W hS hd K' hK => ?_) ?_
                        · skip
                          have e128 : y 128 = .int .u8 letter := (hd 5 rfl).val rfl rfl
                          clear hd
                          go_simp
                          exact hK.out _ _ (by first | rfl | (simp only [e128]; done) | (simp only [e128]; rfl)) (G2.refl _ _) hS
                        refine StepsOk.cons (StepOk.other rfl fun y W hS hd K' hK => ?_) ?_
                        · skip
                          have x4 : (fun (y : Nat → Value) (W : World) => ∃ B : Nat, y 127 = .slice (some ⟨B, 0, none⟩) 3 3 ∧ Blk W B 9 #[.string ⟨#[]⟩, .string ⟨#[83]⟩, .string ⟨#[68]⟩]) y W := (hd 4 rfl).ex rfl
                          have e129 : y 129 = .int .u8 LK := (hd 6 rfl).val rfl rfl
                          clear hd
                          obtain ⟨B, h1, h2⟩ := x4
                          go_simp
                          exact hK.out _ _ _ (by first | rfl | (simp only [h1, e129]; done) | (simp only [h1, e129]; rfl)) (G2.refl _ _) hS (show ∃ B : Nat, _ = Value.pointer (some ⟨B, LK, none⟩) ∧ Blk _ B 9 #[.string ⟨#[]⟩, .string ⟨#[83]⟩, .string ⟨#[68]⟩] from ⟨B, rfl, h2⟩)
                        refine StepsOk.cons (StepOk.known rfl fun y W hS hd K' hK => ?_) ?_
                        · skip
                          have x7 : (fun (y : Nat → Value) (W : World) => ∃ B : Nat, y 130 = .pointer (some ⟨B, LK, none⟩) ∧ Blk W B 9 #[.string ⟨#[]⟩, .string ⟨#[83]⟩, .string ⟨#[68]⟩]) y W := (hd 7 rfl).ex rfl
                          clear hd
                          obtain ⟨B, h1, h2⟩ := x7
                          have r := (h2.cell LK).trans (l3_at hLK3)
                          go_simp
                          exact hK.out _ _ (by first | rfl | (simp only [h1]; done) | (simp only [h1]; rfl)) (G2.refl _ _) hS
                        refine StepsOk.cons (StepOk.known rfl fun y W hS hd K' hK => ?_) ?_
                        · skip
                          have e126 : y 126 = .int .i64 s := (hd 3 rfl).val rfl rfl
                          have e131 : y 131 = .string (l3 LK) := (hd 8 rfl).val rfl rfl
                          clear hd
                          go_simp
                          exact hK.out _ _ (by first | rfl | (simp only [e126, e131]; done) | (simp only [e126, e131]; rfl)) (G2.refl _ _) hS
                        refine StepsOk.cons (StepOk.other rfl fun y W hS hd K' hK => ?_) ?_
                        · skip
                          clear hd
                          go_simp
                          exact hK.out _ _ _ rfl (G2.alloc _ _ _) (hS.alloc hS.size _) (show ∃ g : Nat, _ = Value.pointer (some ⟨g, 0, none⟩) ∧ w8.heap.size ≤ g ∧ ∃ a b, Blk _ g 53 #[a, b] from ⟨W.heap.size, rfl, hS.size, _, _, Blk.new _ _ _⟩)
                        refine StepsOk.cons (StepOk.other rfl fun y W hS hd K' hK => ?_) ?_
                        · skip
                          have x10 : (fun (y : Nat → Value) (W : World) => ∃ g : Nat, y 16 = .pointer (some ⟨g, 0, none⟩) ∧ w8.heap.size ≤ g ∧ ∃ a b, Blk W g 53 #[a, b]) y W := (hd 10 rfl).ex rfl
                          have e132 : y 132 = .agg #[.int .i64 s, .string (l3 LK)] := (hd 9 rfl).val rfl rfl
                          clear hd
                          obtain ⟨g, h1, h2, a, b, hr0⟩ := x10
                          have k0 := (hr0.cell 0).trans rfl; have k1 := (hr0.cell 1).trans rfl; have f0 := hr0.frozen 0; have f1 := hr0.frozen 1
                          have q2 := G2.set2 hr0 (.int .i64 s) (.string (l3 LK))
                          have hb2 := below_set2 hS h2 (.int .i64 s) (.string (l3 LK))
                          have HH := Lib.hid (And.intro q2 hb2)
                          clear q2 hb2 hr0
                          go_simp
                          exact hK.out undef _ _ (by first | rfl | (simp only [h1, e132]; done) | (simp only [h1, e132]; rfl)) HH.out.1.1 HH.out.2 (show ∃ g : Nat, y 16 = Value.pointer (some ⟨g, 0, none⟩) ∧ Blk _ g 53 #[.int .i64 s, .string (l3 LK)] from ⟨g, h1, HH.out.1.2⟩)
                        exact StepsOk.nil
                    · obtain rfl : j = SL.length := by omega
                      have HX10 := Lib.hid (HE10.out.below hb HE10.out.lt)
                      have HX11 := Lib.hid (HE11.out.below hb HE11.out.lt)
                      have t4 := (HX10.out.cell 4).trans rfl
                      by_cases hz : e.fmt = ⟨#[37, 122]⟩
                      · have hd : (e.fmt.toList == [37, 122]) = true := by rw [hz]; decide +kernel
                        have HXS := Lib.hid ((HXt'.out.below HB7.out HXt'.out.lt).below hb (HXt'.out.below HB7.out HXt'.out.lt).lt)
                        have HGS := Lib.hid ((HGt'.out.below HB7.out).below hb)
                        have HXP := Lib.hid (show str (P20.expansion e.kind e.off e.save (svs RS)).1 = f.fmt ∧ (P20.expansion e.kind e.off e.save (svs RS)).2 = 0 by
                          rw [← HRS.out, HFE.out]
                          exact ⟨(HGE.out.exp hz).2, (HGE.out.exp hz).1⟩)
                        have HSV := Lib.hid (show SvOk RS from fun y hy => by
                          rw [← HRS.out] at hy
                          obtain ⟨r, hr, rfl⟩ := List.mem_map.1 hy
                          exact HGD.out.saves _ (List.mem_map.2 ⟨r, (List.mem_filter.1 hr).1, rfl⟩))
                        have hrl : RS.length ≤ 100000 := by rw [← HRS.out]; exact Nat.le_trans (List.length_filter_le ..) (by have := HGD.out.lens.1; omega)
                        clear hz hb
                        go_upto_region 29 with fail
                        clear t4 hd
                        refine wp_region_shape [(some 163, []), (some 164, []), (some 165, []), (some 166, [2]), (some 167, [1, 3]), (some 168, [0, 4, 4]), (some 162, [5]), (some 169, [6]), (some 170, [6]), (some 21, [7, 5, 0, 1, 2, 3, 4, 5, 6, 7]), (some 22, [8, 9, 0, 1, 2, 3, 4, 5, 6, 7, 8, 9])] (fun y => { tmps := #[.agg #[.slice d.sA d.sets.length d.sc, .slice d.zA d.zones.length d.zc, .slice d.lA d.links.length d.lc], .int .u8 letter, .pointer (some ⟨w.heap.size, 0, none⟩), undef, u4, .pointer (some ⟨g5, 0, none⟩), .pointer (some ⟨g6, 0, none⟩), .int .i64 0, .int .i64 p, .int .i64 q, .pointer (some ⟨g10, 0, none⟩), .pointer (some ⟨g11, 0, none⟩), .slice A7 SL.length c7, .int .i64 ON, .bool OB, .int .i64 SL.length, u16, u17, u18, u19, u20, y 21, y 22, .agg #[.slice d.sA d.sets.length d.sc, .slice d.zA d.zones.length d.zc, .slice d.lA d.links.length d.lc], .agg #[.slice t.rA t.rules.length t.rc, .slice t.zA t.zones.length t.zc, .slice t.kA t.links.length t.kc, .slice t.hA t.shifts.length t.hc], .tuple #[.agg #[.slice a.rA a.rules.length a.rc, .slice a.zA a.zones.length a.zc, .slice a.kA a.links.length a.kc, .slice a.hA a.shifts.length a.hc], .int .i64 0], .agg #[.slice t.rA t.rules.length t.rc, .slice t.zA t.zones.length t.zc, .slice t.kA t.links.length t.kc, .slice t.hA t.shifts.length t.hc], .tuple #[.agg #[.slice a.rA a.rules.length a.rc, .slice a.zA a.zones.length a.zc, .slice a.kA a.links.length a.kc, .slice a.hA a.shifts.length a.hc], .int .i64 0], .agg #[.slice a.rA a.rules.length a.rc, .slice a.zA a.zones.length a.zc, .slice a.kA a.links.length a.kc, .slice a.hA a.shifts.length a.hc], .int .i64 0, .int .i64 0, .bool false, .bool false, .pointer (some ⟨g6, 1, none⟩), .slice a.zA a.zones.length a.zc, .int .i64 a.zones.length, .pointer (some ⟨g5, 1, none⟩), .slice t.zA t.zones.length t.zc, .int .i64 t.zones.length, .bool false, .bool false, .int .i64 p, .pointer (some ⟨g5, 1, none⟩), .slice (some ⟨gz0, oz0, none⟩) t.zones.length t.zc, .int .i64 t.zones.length, .bool true, u46, u47, .pointer (some ⟨g6, 1, none⟩), .slice (some ⟨gy0, oy0, none⟩) t.zones.length a.zc, .int .i64 p, .pointer (some ⟨gy0, oy0 + p * 2, none⟩), .pointer (some ⟨gy0, oy0 + p * 2 + 1, none⟩), .slice zy.A z.eras.length zy.c, .int .i64 z.eras.length, .pointer (some ⟨g5, 1, none⟩), .slice (some ⟨gz0, oz0, none⟩) t.zones.length t.zc, .int .i64 p, .pointer (some ⟨gz0, oz0 + p * 2, none⟩), .pointer (some ⟨gz0, oz0 + p * 2 + 1, none⟩), .slice z.A z.eras.length z.c, .int .i64 z.eras.length, .bool false, u63, u64, u65, u66, u67, u68, u69, u70, u71, u72, u73, u74, u75, u76, u77, u78, u79, u80, u81, u82, u83, u84, u85, u86, u87, u88, u89, u90, u91, u92, u93, u94, u95, u96, u97, u98, u99, u100, u101, u102, u103, u104, u105, u106, u107, u108, u109, u110, u111, u112, u113, u114, u115, u116, .int .i64 SL.length, .slice A7 SL.length c7, .int .i64 SL.length, .bool false, u121, u122, u123, u124, u125, u126, u127, u128, u129, u130, u131, u132, u133, u134, u135, u136, u137, u138, u139, u140, u141, u142, u143, u144, u145, u146, u147, u148, u149, u150, u151, u152, u153, u154, u155, u156, u157, u158, .pointer (some ⟨g10, 4, none⟩), .string e.fmt, .bool true, y 162, y 163, y 164, y 165, y 166, y 167, y 168, y 169, y 170, u171, u172, u173, u174, u175, u176, u177, u178, u179, u180, u181, u182, u183, undef], defers := [] }) (fun k => match k with | 21 => u21 | 22 => u22 | 162 => u162 | 163 => u163 | 164 => u164 | 165 => u165 | 166 => u166 | 167 => u167 | 168 => u168 | 169 => u169 | 170 => u170 | _ => undef) (fun j => j == 4) [.agg #[.int .i64 e.off, .int .i64 e.kind, .int .i64 e.save, .string e.set, .string e.fmt, .bool e.ui, .int .i64 e.uy, .int .i64 e.um, .int .i64 e.dk, .int .i64 e.dw, .int .i64 e.dd, .int .i64 e.asec, .int .i64 e.ab], .agg #[.slice t.rA t.rules.length t.rc, .slice t.zA t.zones.length t.zc, .slice t.kA t.links.length t.kc, .slice t.hA t.shifts.length t.hc], .pointer (some ⟨g10, 3, none⟩), .string e.set, undef, .tuple #[.string f.fmt, .int .i64 0], .tuple #[.string f.fmt, .int .i64 0], .string f.fmt, .int .i64 0, .string f.fmt, .int .i64 0] (fun j y W => match j with | 4 => ∃ RA rc, y 167 = .slice RA RS.length rc ∧ RulesIn W RA RS | _ => True) (fun j => match j with | 4 => [167] | _ => []) (fun W W' => Below W.heap.size W W') (fun W => Below w8.heap.size w8 W) (by kernel_rfl) (by kernel_rfl) (by decide +kernel) rfl (Below.refl _ _).drew ?hput29 ?hloc29 ?hmono29 ?hstep29 ?hdone29
                        case hput29 =>
                          intro d hd y v
                          simp only [List.filterMap_cons, List.filterMap_nil, List.mem_cons, List.not_mem_nil, or_false] at hd
                          rcases hd with rfl | rfl | rfl | rfl | rfl | rfl | rfl | rfl | rfl | rfl | rfl
                          all_goals rfl
                        case hloc29 =>
                          intro j hj y y' W hk hx
                          have hj' : j = 4 := by simpa [or_assoc] using hj
                          rcases hj' with rfl
                          · simp only [List.forall_mem_cons, List.not_mem_nil, false_imp_iff, implies_true, and_true] at hk
                            show _
                            simpa only [hk] using hx
                        case hmono29 =>
                          intro j hj hlast y W W' hg hx
                          have hj' : j = 4 := by simpa [or_assoc] using hj
                          rcases hj' with rfl
                          · obtain ⟨RA, rc, h1, h2⟩ := hx; exact ⟨RA, rc, h1, h2.below hg⟩
                        case hdone29 =>
                          intro y9 w9 hS hd
                          have HB9 := Lib.hid (HB8.out.trans (hS.mono HB8.out.size))
                          have hy := HE11.out.below HB9.out HE11.out.lt
                          have t4 := (hy.cell 4).trans rfl
                          have e21 : y9 21 = .string f.fmt := (hd 9 (by decide)).val rfl rfl
                          have e22 : y9 22 = .int .i64 0 := (hd 10 (by decide)).val rfl rfl
                          rw [e21, e22]
                          clear hd hS hy
                          go_wp2_with fail
                          clear t4
                          have HBZ := Lib.hid (HB7.out.trans (HB9.out.mono HB7.out.size))
                          have hl10 := (HE10.out.below HB9.out HE10.out.lt).lt
                          have hl11 := (HE11.out.below HB9.out HE11.out.lt).lt
                          have HO9 := Lib.hid (show Old (.pointer (some ⟨g10, 0, none⟩)) w9 ∧ Old (.pointer (some ⟨g11, 0, none⟩)) w9 from ⟨fun g hg => by injection hg with hg; injection hg with hg; injection hg with hg; rw [← hg]; exact hl10, fun g hg => by injection hg with hg; injection hg with hg; injection hg with hg; rw [← hg]; exact hl11⟩)
                          clear hl10 hl11
                          go_roundw
                          case rel => exact ⟨q + 1, by have := HQT.out; omega, by go_num, HBZ.out, HO9.out.1, HO9.out.2⟩
                          case measure => have := HQT.out; simp [intOf]; omega
                        case hstep29 =>
                          refine StepsOk.cons (StepOk.known rfl fun y W hS hd K' hK => ?_) ?_
                          · skip
                            clear hd
                            have hx := HX10.out.below hS HX10.out.lt
                            have r0 := (hx.cell 0).trans rfl
                            have r1 := (hx.cell 1).trans rfl
                            have r2 := (hx.cell 2).trans rfl
                            have r3 := (hx.cell 3).trans rfl
                            have r4 := (hx.cell 4).trans rfl
                            have r5 := (hx.cell 5).trans rfl
                            have r6 := (hx.cell 6).trans rfl
                            have r7 := (hx.cell 7).trans rfl
                            have r8 := (hx.cell 8).trans rfl
                            have r9 := (hx.cell 9).trans rfl
                            have r10 := (hx.cell 10).trans rfl
                            have r11 := (hx.cell 11).trans rfl
                            have r12 := (hx.cell 12).trans rfl
                            clear hx
                            go_simp
                            exact hK.out _ _ rfl (Below.refl _ _) hS
                          refine StepsOk.cons (StepOk.known rfl fun y W hS hd K' hK => ?_) ?_
                          · skip
                            clear hd
                            have hx := HXS.out.below hS HXS.out.lt
                            have r0 := (hx.cell 0).trans rfl
                            have r1 := (hx.cell 1).trans rfl
                            have r2 := (hx.cell 2).trans rfl
                            have r3 := (hx.cell 3).trans rfl
                            clear hx
                            go_simp
                            exact hK.out _ _ rfl (Below.refl _ _) hS
                          refine StepsOk.cons (StepOk.known rfl fun y W hS hd K' hK => ?_) ?_
                          · skip
                            clear hd
                            go_simp
                            exact hK.out _ _ rfl (Below.refl _ _) hS
                          refine StepsOk.cons (StepOk.known rfl fun y W hS hd K' hK => ?_) ?_
                          · skip
                            have e165 : y 165 = .pointer (some ⟨g10, 3, none⟩) := (hd 2 rfl).val rfl rfl
                            clear hd
                            have hx := HX10.out.below hS HX10.out.lt
                            have r3 := (hx.cell 3).trans rfl
                            clear hx
                            go_simp
                            exact hK.out _ _ (by first | rfl | (simp only [e165]; done) | (simp only [e165]; rfl)) (Below.refl _ _) hS
                          refine StepsOk.cons (StepOk.other rfl fun y W hS hd K' hK => ?_) ?_
                          · skip
                            have e164 : y 164 = .agg #[.slice t.rA t.rules.length t.rc, .slice t.zA t.zones.length t.zc, .slice t.kA t.links.length t.kc, .slice t.hA t.shifts.length t.hc] := (hd 1 rfl).val rfl rfl
                            have e166 : y 166 = .string e.set := (hd 3 rfl).val rfl rfl
                            clear hd
                            go_simp
                            have cO := setof_any t e.set W (HGS.out.below hS).src (by have := HGD.out.lens.1; omega)
                            rw [HRS.out] at cO
                            refine cO.mono ?_
                            rintro x W' ⟨RA, rc, rfl, hR, hc⟩
                            go_wp2_with fail
                            exact hK.out _ _ _ (by first | rfl | (simp only [e164, e166]; done) | (simp only [e164, e166]; rfl)) hc (hS.trans (hc.mono hS.size)) (show ∃ RA rc, _ = Value.slice RA RS.length rc ∧ RulesIn _ RA RS from ⟨RA, rc, rfl, hR⟩)
                          refine StepsOk.cons (StepOk.known rfl fun y W hS hd K' hK => ?_) ?_
                          · skip
                            have e163 : y 163 = .agg #[.int .i64 e.off, .int .i64 e.kind, .int .i64 e.save, .string e.set, .string e.fmt, .bool e.ui, .int .i64 e.uy, .int .i64 e.um, .int .i64 e.dk, .int .i64 e.dw, .int .i64 e.dd, .int .i64 e.asec, .int .i64 e.ab] := (hd 0 rfl).val rfl rfl
                            have x4 : (fun (y : Nat → Value) (W : World) => ∃ RA rc, y 167 = .slice RA RS.length rc ∧ RulesIn W RA RS) y W := (hd 4 rfl).ex rfl
                            clear hd
                            obtain ⟨RA, rc, h1, h2⟩ := x4
                            go_simp
                            have cX := expansion_any e.off e.kind e.save e.set e.fmt e.ui e.uy e.um e.dk e.dw e.dd e.asec e.ab RA RS rc W HOFF.out.1 (by have := HGE.out.save; omega) (by omega) HSV.out h2
                            rw [HXP.out.1, HXP.out.2] at cX
                            (try simp only [h1, e163])
                            refine cX.mono ?_
                            rintro x W' ⟨rfl, hc⟩
                            go_wp2_with fail
                            exact hK.out _ _ (by first | rfl | (simp only [h1, e163]; done) | (simp only [h1, e163]; rfl)) hc (hS.trans (hc.mono hS.size))
                          refine StepsOk.cons (StepOk.known rfl fun y W hS hd K' hK => ?_) ?_
                          · skip
                            have e168 : y 168 = .tuple #[.string f.fmt, .int .i64 0] := (hd 5 rfl).val rfl rfl
                            clear hd
                            go_simp
                            exact hK.out _ _ (by first | rfl | (simp only [e168]; done) | (simp only [e168]; rfl)) (Below.refl _ _) hS
                          refine StepsOk.cons (StepOk.known rfl fun y W hS hd K' hK => ?_) ?_
                          · skip
                            have e162 : y 162 = .tuple #[.string f.fmt, .int .i64 0] := (hd 6 rfl).val rfl rfl
                            clear hd
                            go_simp
                            exact hK.out _ _ (by first | rfl | (simp only [e162]; done) | (simp only [e162]; rfl)) (Below.refl _ _) hS
                          refine StepsOk.cons (StepOk.known rfl fun y W hS hd K' hK => ?_) ?_
                          · skip
                            have e162 : y 162 = .tuple #[.string f.fmt, .int .i64 0] := (hd 6 rfl).val rfl rfl
                            clear hd
                            go_simp
                            exact hK.out _ _ (by first | rfl | (simp only [e162]; done) | (simp only [e162]; rfl)) (Below.refl _ _) hS
                          refine StepsOk.cons (StepOk.known rfl fun y W hS hd K' hK => ?_) ?_
                          · skip
                            have e169 : y 169 = .string f.fmt := (hd 7 rfl).val rfl rfl
                            clear hd
                            go_simp
                            exact hK.out _ _ (by first | rfl | (simp only [e169]; done) | (simp only [e169]; rfl)) (Below.refl _ _) hS
                          refine StepsOk.cons (StepOk.known rfl fun y W hS hd K' hK => ?_) ?_
                          · skip
                            have e170 : y 170 = .int .i64 0 := (hd 8 rfl).val rfl rfl
                            clear hd
                            go_simp
                            exact hK.out _ _ (by first | rfl | (simp only [e170]; done) | (simp only [e170]; rfl)) (Below.refl _ _) hS
                          exact StepsOk.nil
                      · have hd : (e.fmt.toList == [37, 122]) = false := by have q := eq_b e.fmt (str [37, 122]) hz; rwa [str_toList] at q
                        have u4 := (HX11.out.cell 4).trans rfl
                        have hff : f.fmt = e.fmt := by rw [HFE.out]; exact HGE.out.ex.2.2.1 hz
                        rw [hff] at u4
                        have hq : (e.fmt.toList == e.fmt.toList) = true := by simp
                        have HBB := Lib.hid hb
                        clear hz hff hb
                        go_wp2_with fail
                        clear t4 u4 hd hq
                        have HBZ := Lib.hid (HB7.out.trans (HBB.out.mono HB7.out.size))
                        have hl10 := (HE10.out.below HBB.out HE10.out.lt).lt
                        have hl11 := (HE11.out.below HBB.out HE11.out.lt).lt
                        have HO9 := Lib.hid (show Old (.pointer (some ⟨g10, 0, none⟩)) w8 ∧ Old (.pointer (some ⟨g11, 0, none⟩)) w8 from ⟨fun g hg => by injection hg with hg; injection hg with hg; injection hg with hg; rw [← hg]; exact hl10, fun g hg => by injection hg with hg; injection hg with hg; injection hg with hg; rw [← hg]; exact hl11⟩)
                        clear hl10 hl11
                        go_roundw
                        case rel => exact ⟨q + 1, by have := HQT.out; omega, by go_num, HBZ.out, HO9.out.1, HO9.out.2⟩
                        case measure => have := HQT.out; simp [intOf]; omega
        · obtain rfl : q = z.eras.length := by omega
          go_wp2_with fail
          go_roundw
          case rel => exact ⟨p + 1, by have := HPT.out; omega, by go_num, HBI.out, HO2.out.1, HO2.out.2⟩
          case measure => have := HPT.out; simp [intOf]; omega
    · obtain rfl : p = t.zones.length := by omega
      go_wp2_with fail
      refine (works30_any _ (hv.below (HB.out.trans (HBO.out.mono HB.out.size)))).mono ?_
      rintro x wz ⟨rfl, hc⟩
      have HBZ := Lib.hid (HB.out.trans ((HBO.out.trans (hc.mono HBO.out.size)).mono HB.out.size))
      clear hc
      go_wp2_with fail
      go_ret
      exact ⟨rfl, HBZ.out⟩
end Go.Proofs.YtlideagcmhlkeaaDoor

/- ExpandAbbrs: for every input the law returns true, and each argument reads as before. No condition beside the row's own (the listed package-level variables read as listed; the card ties them to the program's text). -/
namespace Go.Proofs.YtlideagcmhlkeaaDoor.lawExpandAbbrs
open Go.ChangeShapes Go.WideShapes Go.ChangeAt Go.RowKit Go.Joins
open Go.ChangeMaps (open_string shut_string)
set_option linter.unusedVariables false

theorem laidOut : laidOutB Tryd.prog = true := by kernel_rfl
theorem own : ownKnob Tryd.prog.godebug = none := by kernel_rfl
theorem door_met (os : Os) (args : Array Value) : laidMetH Tryd.prog Rows.expandAbbrsRow.laid ((World.doorLaid Tryd.prog 400 os).forCall (fun _ _ => 0) ⟨#[], args, []⟩).memory :=
  laidMetH_of_parts3 (fuel := 8) (laidMet_of_run' 8 (by kernel_rfl) (by kernel_rfl)) (by kernel_rfl) (by kernel_rfl)
set_option maxRecDepth 100000 in
theorem lifted (os : Os) (started : os.Started) (H : Type) (enc : TypeId × Value → H) :
    ReturnsInHanded {} Tryd.checked os 3 .any (fun w args => (Rows.expandAbbrsSpec.pre enc Tryd.prog Tryd.f3 [] false w args ∧ laidMetH Tryd.prog Rows.expandAbbrsRow.laid w) ∧ sizedMet enc Tryd.prog Tryd.f3 (OpenSpec.ofChange Rows.expandAbbrsSpec) false w args)
      (Rows.expandAbbrsSpec.post enc Tryd.prog Tryd.f3 false true false false) := by
  refine handed_shaped (C := Tryd.checked) (X := fun w _ => laidMetH Tryd.prog Rows.expandAbbrsRow.laid w) (fun _ _ _ hh h => h.of_heap hh) own started (by kernel_rfl) Tryd.func3
    (ChangeSpec.witness_shaped (enc := enc) (C := Tryd.checked) (os := os) (X := fun w _ => laidMetH Tryd.prog Rows.expandAbbrsRow.laid w) false (World.doorLaid Tryd.prog 400 os) #[.agg #[.slice none 0 0, .slice none 0 0, .slice none 0 0], .int .u8 0] 8 rfl (World.shaped_of_RefB (by kernel_rfl) (by kernel_rfl)) (by kernel_rfl) (by kernel_rfl) (by kernel_rfl) (door_met os _)) ?_
  intro W base args ds gs before hval0 hW _ _ hL hsh _
  have hval : ∀ (j : Nat) t v, Tryd.f3.params[j]? = some t → args[j]? = some v → Value.okWide Tryd.prog W .any base t v := hval0
  have hW' := hW
  obtain ⟨p, q, hA0, hV, rfl, hfz, hnd⟩ := hW
  have hA : DataW.TrodAll enc Tryd.prog W 0 (fun _ => true) true Tryd.f3.params.toList args.toList ds p := hA0
  rw [Tryd.params3] at hA hval
  obtain ⟨v0, vs0, d0, ds0, p0, q0, hargs, rfl, rfl, h0, r0⟩ := trodAll_cons hA
  obtain ⟨v1, vs1, d1, ds1, p1, q1, rfl, rfl, rfl, h1, r1⟩ := trodAll_cons r0
  obtain ⟨rfl, rfl, rfl⟩ := trodAll_nil r1
  obtain rfl : args = #[v0, v1] := by cases args; simp_all
  obtain ⟨rfl, rfl⟩ := trodVars_none hV
  have h0k := h0
  have h1k := h1
  have hlt : ∀ x ∈ (p0 ++ (p1 ++ [])) ++ [], x.block < W.heap.size := fun x hx => by simpa using hW'.lt x hx
  have hvars := vars23_of_laid (show laidMet Tryd.prog Rows.expandAbbrsRow.laid W from hL) hsh
  have hk0 : ∀ W', Below W.heap.size W W' → DataW.Trod enc Tryd.prog W' 0 (fun b => decide (b < W.heap.size)) true 26 v0 d0 p0 := fun W' bel => Below.trod laidOut (by kernel_rfl) (of_decide_eq_true (by kernel_rfl)) h0k bel (fun x hx => hlt x (by simp [hx]))
  have hk1 : ∀ W', Below W.heap.size W W' → DataW.Trod enc Tryd.prog W' 0 (fun b => decide (b < W.heap.size)) true 5 v1 d1 p1 := fun W' bel => Below.trod laidOut (by kernel_rfl) (of_decide_eq_true (by kernel_rfl)) h1k bel (fun x hx => hlt x (by simp [hx]))
  obtain ⟨⟨l0⟩, rfl, hz0⟩ := okWide_struct Tryd.underlying26 (hval 0 26 v0 rfl rfl)
  obtain ⟨f0, hf0⟩ := h0
  have hl0 : l0.length = 3 := hz0.trans (by kernel_rfl)
  obtain ⟨e0, hcs0, hD0⟩ := open_draft23 hl0 hf0
  subst hcs0
  obtain ⟨a1, rfl, rfl, rfl, w1⟩ := open_int Tryd.underlying5 (hval 1 5 v1 rfl rfl) h1
  clear hA0 hval0
  refine (walkExpandAbbrs e0 a1 W hD0 (bounds_u8 w1) hvars).mono fun e W' ⟨he, bel⟩ => ?_
  subst he
  exact ⟨_, rfl, _, _, _, [], _, [], hW', trodAll_mk1 (shut_bool Tryd.underlying4 _), trodAll_cons_mk (hk0 W' bel) (trodAll_cons_mk (hk1 W' bel) (trodAll_mk0)), rfl, World.keptBut_mono (fun p hp => ⟨hp, Or.inr (by simpa using hp)⟩) (bel.frame _), fun h => by cases h⟩

theorem said : Rows.ExpandAbbrsSaid :=
  OpenClaim.holds_of_wide 3 Tryd.f3 rfl rfl rfl rfl rfl rfl rfl ⟨rfl, rfl, rfl, rfl, rfl⟩ rfl rfl rfl rfl rfl (by kernel_rfl) Tryd.func3 (by kernel_rfl)
    (of_decide_eq_true (by kernel_rfl)) (by unfold Func.isWrapper; first | (rw [if_pos (by decide +kernel)]; kernel_rfl) | (rw [if_neg (by decide +kernel)]; exact ⟨rfl, rfl⟩))
    (fun os started H enc _ => lifted os started H enc)

/-- No parameter wants a stand-in; the program's own looks are off: what the card asks. -/
theorem plain (f : FuncId) (fn : Func) (hf : Tryd.pinned.checked.prog.funcNamed Rows.expandAbbrsRow.func = some f) (hfn : Tryd.pinned.checked.prog.funcs[f]? = some fn) :
    true = Tryd.pinned.checked.prog.looks [] ∧ ∀ (j : Nat) t, fn.params[j]? = some t → Tryd.pinned.checked.prog.wantsStandIn t = false := by
  obtain rfl : f = 3 := Option.some.inj ((show Tryd.prog.funcNamed Rows.expandAbbrsRow.func = some 3 by kernel_rfl).symm.trans hf) |>.symm
  obtain rfl : fn = Tryd.f3 := (Option.some.inj (Tryd.func3.symm.trans hfn)).symm
  refine ⟨by kernel_rfl, fun j t ht => ?_⟩
  rw [Tryd.params3] at ht
  have hm := Array.mem_of_getElem? ht
  have hm2 : t = 26 ∨ t = 5 := by simpa using hm
  rcases hm2 with rfl | rfl
  · exact (show Tryd.prog.wantsStandIn 26 = false by kernel_rfl)
  · exact (show Tryd.prog.wantsStandIn 5 = false by kernel_rfl)
/-- THE CARD -/
theorem card : Rows.ExpandAbbrsCardSaid :=
  Claim7.holds_tied_plain_at .later [] _ _ _ _ said (fun _ h => by cases h) (by kernel_rfl) (fun _ h => by cases h) expandAbbrs_row_tie rfl ⟨rfl, rfl⟩ (by kernel_rfl) rfl plain (by kernel_rfl)
end Go.Proofs.YtlideagcmhlkeaaDoor.lawExpandAbbrs
