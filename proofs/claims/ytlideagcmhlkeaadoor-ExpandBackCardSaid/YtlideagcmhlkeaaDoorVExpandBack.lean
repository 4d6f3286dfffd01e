/- ExpandBack: for every input the law returns true, and each argument reads as before. No condition beside the row's own (the listed package-level variables read as listed; the card ties them to the program's text). -/
import Derived.Test.YtlideagcmhlkeaaDoorRB9
import Derived.Test.YtlideagcmhlkeaaDoorCards
import Derived.Test.YtlideagcmhlkeaaDoorTie
import Derived.Carry
import Derived.WalkKit
import Derived.ProofKit
import Derived.OpenShut
import Derived.ShutString
import Derived.LaidMore
import Derived.ChangeOld
import Derived.Below
import Derived.Stop.Joined
import Derived.Lib.SmallJoins
import Derived.SevenTiedAt

/- The walk of the law ExpandBack (chapter 30). -/
namespace Go.Proofs.YtlideagcmhlkeaaDoor
open Go.RowKit Go.Lib
set_option linter.unusedVariables false
set_option linter.unusedSimpArgs false

theorem same_call30 {a b : SV} (h : sSame14 a b) (hb : big14 a) (W : World) (hA : SrcIn W a) (hB : SrcIn W b) :
    Calls Tryd.prog 22 #[.agg #[.slice a.rA a.rules.length a.rc, .slice a.zA a.zones.length a.zc, .slice a.kA a.links.length a.kc, .slice a.hA a.shifts.length a.hc], .agg #[.slice b.rA b.rules.length b.rc, .slice b.zA b.zones.length b.zc, .slice b.kA b.links.length b.kc, .slice b.hA b.shifts.length b.hc]] W fun x W' => x = .returned (.bool true) ∧ Below W.heap.size W W' := by
  refine (same14_any a b W hA hB hb).mono ?_
  rintro x W' ⟨R, hR, rfl, hb'⟩
  obtain rfl : R = true := hR.2 h
  exact ⟨rfl, hb'⟩
theorem big_few {s : SV} (hf : Few30 s) : big14 s := ⟨hf.lens.1, hf.lens.2.1, hf.lens.2.2.1, hf.lens.2.2.2, hf.eras⟩
set_option maxRecDepth 100000 in
set_option maxHeartbeats 16000000 in
theorem walkExpandBack (d : D23) (w : World) (hd : D23In w d) (hvp : Vars21 w ∧ VarsP w) :
    Calls Tryd.prog 4 #[.agg #[.slice d.sA d.sets.length d.sc, .slice d.zA d.zones.length d.zc, .slice d.lA d.links.length d.lc]] w fun e w' => e = .returned (.bool true) ∧ Below w.heap.size w w' := by
  obtain ⟨hv, hp⟩ := hvp
  have hX := Blk.new w 26 #[.slice d.sA d.sets.length d.sc, .slice d.zA d.zones.length d.zc, .slice d.lA d.links.length d.lc]
  have hb0 := (Below.refl w.heap.size w).alloc (Nat.le_refl _) (.cells #[.slice d.sA d.sets.length d.sc, .slice d.zA d.zones.length d.zc, .slice d.lA d.links.length d.lc] 26)
  have HB := Lib.hid hb0; have HD := Lib.hid hd
  have c0 := (hX.cell 0).trans rfl; have c1 := (hX.cell 1).trans rfl; have c2 := (hX.cell 2).trans rfl
  clear hX hb0 hd
  go_enter Tryd.func4, Tryd.ntmps4
  go_wp2_with fail
  refine (made23_any d _ (HD.out.below HB.out) (hp.below HB.out)).mono ?_
  rintro e Wt ⟨t, rfl, hG, hg, hc⟩
  have HGD := Lib.hid hg; have HF := Lib.hid hg.few
  clear c0 c1 c2
  have HB' := Lib.hid (HB.out.trans (hc.mono HB.out.size))
  clear HB
  have HB := HB'; clear HB'
  have HGt := Lib.hid hG; clear hG hc hg
  have HB' := Lib.hid (HB.out.alloc HB.out.size (.cells #[.slice t.rA t.rules.length t.rc, .slice t.zA t.zones.length t.zc, .slice t.kA t.links.length t.kc, .slice t.hA t.shifts.length t.hc] 32))
  have hal := (Below.refl Wt.heap.size Wt).alloc (Nat.le_refl _) (.cells #[.slice t.rA t.rules.length t.rc, .slice t.zA t.zones.length t.zc, .slice t.kA t.links.length t.kc, .slice t.hA t.shifts.length t.hc] 32)
  have HGt' := Lib.hid (HGt.out.below hal)
  clear HB HGt
  have HB := HB'; clear HB'
  have HGt := HGt'; clear HGt'
  have HXt := Lib.hid (Blk.new Wt 32 #[.slice t.rA t.rules.length t.rc, .slice t.zA t.zones.length t.zc, .slice t.kA t.links.length t.kc, .slice t.hA t.shifts.length t.hc])
  clear hal
  have c0 := (HXt.out.cell 0).trans rfl
  have c1 := (HXt.out.cell 1).trans rfl
  have c2 := (HXt.out.cell 2).trans rfl
  have c3 := (HXt.out.cell 3).trans rfl
  go_wp2_with fail
  clear c0 c1 c2 c3
  refine (expand_any t _ HGt.out.src HF.out).mono ?_
  rintro e Wa ⟨a, na, rfl, hG, hR, hc⟩
  have HXt' := Lib.hid (HXt.out.below hc HXt.out.lt)
  have HB' := Lib.hid (HB.out.trans (hc.mono HB.out.size))
  have HGt' := Lib.hid (HGt.out.below hc)
  clear HXt HB HGt
  have HXt := HXt'; clear HXt'
  have HB := HB'; clear HB'
  have HGt := HGt'; clear HGt'
  obtain ⟨rfl, hs⟩ := back_a HGD.out hR
  have HGa := Lib.hid hG; have HSa := Lib.hid hs
  clear hc hG hR hs
  have HFa := Lib.hid (back_few HGD.out HSa.out)
  have HXt' := Lib.hid (HXt.out.alloc (.cells #[.slice a.rA a.rules.length a.rc, .slice a.zA a.zones.length a.zc, .slice a.kA a.links.length a.kc, .slice a.hA a.shifts.length a.hc] 32))
  have HB' := Lib.hid (HB.out.alloc HB.out.size (.cells #[.slice a.rA a.rules.length a.rc, .slice a.zA a.zones.length a.zc, .slice a.kA a.links.length a.kc, .slice a.hA a.shifts.length a.hc] 32))
  have hal := (Below.refl Wa.heap.size Wa).alloc (Nat.le_refl _) (.cells #[.slice a.rA a.rules.length a.rc, .slice a.zA a.zones.length a.zc, .slice a.kA a.links.length a.kc, .slice a.hA a.shifts.length a.hc] 32)
  have HGt' := Lib.hid (HGt.out.below hal)
  have HGa' := Lib.hid (HGa.out.below hal)
  clear HXt HB HGt HGa
  have HXt := HXt'; clear HXt'
  have HB := HB'; clear HB'
  have HGt := HGt'; clear HGt'
  have HGa := HGa'; clear HGa'
  have HXa := Lib.hid (Blk.new Wa 32 #[.slice a.rA a.rules.length a.rc, .slice a.zA a.zones.length a.zc, .slice a.kA a.links.length a.kc, .slice a.hA a.shifts.length a.hc])
  clear hal
  have c0 := (HXa.out.cell 0).trans rfl
  have c1 := (HXa.out.cell 1).trans rfl
  have c2 := (HXa.out.cell 2).trans rfl
  have c3 := (HXa.out.cell 3).trans rfl
  go_wp2_with fail
  clear c0 c1 c2 c3
  refine (expand_any a _ HGa.out.src HFa.out).mono ?_
  rintro e Wb ⟨b, nb, rfl, hG, hR, hc⟩
  have HXt' := Lib.hid (HXt.out.below hc HXt.out.lt)
  have HXa' := Lib.hid (HXa.out.below hc HXa.out.lt)
  have HB' := Lib.hid (HB.out.trans (hc.mono HB.out.size))
  have HGt' := Lib.hid (HGt.out.below hc)
  have HGa' := Lib.hid (HGa.out.below hc)
  clear HXt HXa HB HGt HGa
  have HXt := HXt'; clear HXt'
  have HXa := HXa'; clear HXa'
  have HB := HB'; clear HB'
  have HGt := HGt'; clear HGt'
  have HGa := HGa'; clear HGa'
  obtain ⟨rfl, hs⟩ := back_b HGD.out HSa.out hR
  have HGb := Lib.hid hG; have HSb := Lib.hid hs
  clear hc hG hR hs
  have HFb := Lib.hid (few_same HFa.out HSb.out)
  have HXt' := Lib.hid (HXt.out.alloc (.cells #[.slice b.rA b.rules.length b.rc, .slice b.zA b.zones.length b.zc, .slice b.kA b.links.length b.kc, .slice b.hA b.shifts.length b.hc] 32))
  have HXa' := Lib.hid (HXa.out.alloc (.cells #[.slice b.rA b.rules.length b.rc, .slice b.zA b.zones.length b.zc, .slice b.kA b.links.length b.kc, .slice b.hA b.shifts.length b.hc] 32))
  have HB' := Lib.hid (HB.out.alloc HB.out.size (.cells #[.slice b.rA b.rules.length b.rc, .slice b.zA b.zones.length b.zc, .slice b.kA b.links.length b.kc, .slice b.hA b.shifts.length b.hc] 32))
  have hal := (Below.refl Wb.heap.size Wb).alloc (Nat.le_refl _) (.cells #[.slice b.rA b.rules.length b.rc, .slice b.zA b.zones.length b.zc, .slice b.kA b.links.length b.kc, .slice b.hA b.shifts.length b.hc] 32)
  have HGt' := Lib.hid (HGt.out.below hal)
  have HGa' := Lib.hid (HGa.out.below hal)
  have HGb' := Lib.hid (HGb.out.below hal)
  clear HXt HXa HB HGt HGa HGb
  have HXt := HXt'; clear HXt'
  have HXa := HXa'; clear HXa'
  have HB := HB'; clear HB'
  have HGt := HGt'; clear HGt'
  have HGa := HGa'; clear HGa'
  have HGb := HGb'; clear HGb'
  have HXb := Lib.hid (Blk.new Wb 32 #[.slice b.rA b.rules.length b.rc, .slice b.zA b.zones.length b.zc, .slice b.kA b.links.length b.kc, .slice b.hA b.shifts.length b.hc])
  clear hal
  have c0 := (HXa.out.cell 0).trans rfl
  have c1 := (HXa.out.cell 1).trans rfl
  have c2 := (HXa.out.cell 2).trans rfl
  have c3 := (HXa.out.cell 3).trans rfl
  go_wp2_with fail
  clear c0 c1 c2 c3
  refine (contract_any a _ HGa.out.src HFa.out (hv.below HB.out)).mono ?_
  rintro e Wc ⟨c, nc, rfl, hG, hR, hc⟩
  have HXt' := Lib.hid (HXt.out.below hc HXt.out.lt)
  have HXa' := Lib.hid (HXa.out.below hc HXa.out.lt)
  have HXb' := Lib.hid (HXb.out.below hc HXb.out.lt)
  have HB' := Lib.hid (HB.out.trans (hc.mono HB.out.size))
  have HGt' := Lib.hid (HGt.out.below hc)
  have HGa' := Lib.hid (HGa.out.below hc)
  have HGb' := Lib.hid (HGb.out.below hc)
  clear HXt HXa HXb HB HGt HGa HGb
  have HXt := HXt'; clear HXt'
  have HXa := HXa'; clear HXa'
  have HXb := HXb'; clear HXb'
  have HB := HB'; clear HB'
  have HGt := HGt'; clear HGt'
  have HGa := HGa'; clear HGa'
  have HGb := HGb'; clear HGb'
  obtain ⟨rfl, hs⟩ := back_c HGD.out HSa.out hR
  have HGc := Lib.hid hG; have HSc := Lib.hid hs
  clear hc hG hR hs
  have HFc := Lib.hid (few_same HF.out HSc.out)
  have HXt' := Lib.hid (HXt.out.alloc (.cells #[.slice c.rA c.rules.length c.rc, .slice c.zA c.zones.length c.zc, .slice c.kA c.links.length c.kc, .slice c.hA c.shifts.length c.hc] 32))
  have HXa' := Lib.hid (HXa.out.alloc (.cells #[.slice c.rA c.rules.length c.rc, .slice c.zA c.zones.length c.zc, .slice c.kA c.links.length c.kc, .slice c.hA c.shifts.length c.hc] 32))
  have HXb' := Lib.hid (HXb.out.alloc (.cells #[.slice c.rA c.rules.length c.rc, .slice c.zA c.zones.length c.zc, .slice c.kA c.links.length c.kc, .slice c.hA c.shifts.length c.hc] 32))
  have HB' := Lib.hid (HB.out.alloc HB.out.size (.cells #[.slice c.rA c.rules.length c.rc, .slice c.zA c.zones.length c.zc, .slice c.kA c.links.length c.kc, .slice c.hA c.shifts.length c.hc] 32))
  have hal := (Below.refl Wc.heap.size Wc).alloc (Nat.le_refl _) (.cells #[.slice c.rA c.rules.length c.rc, .slice c.zA c.zones.length c.zc, .slice c.kA c.links.length c.kc, .slice c.hA c.shifts.length c.hc] 32)
  have HGt' := Lib.hid (HGt.out.below hal)
  have HGa' := Lib.hid (HGa.out.below hal)
  have HGb' := Lib.hid (HGb.out.below hal)
  have HGc' := Lib.hid (HGc.out.below hal)
  clear HXt HXa HXb HB HGt HGa HGb HGc
  have HXt := HXt'; clear HXt'
  have HXa := HXa'; clear HXa'
  have HXb := HXb'; clear HXb'
  have HB := HB'; clear HB'
  have HGt := HGt'; clear HGt'
  have HGa := HGa'; clear HGa'
  have HGb := HGb'; clear HGb'
  have HGc := HGc'; clear HGc'
  have HXc := Lib.hid (Blk.new Wc 32 #[.slice c.rA c.rules.length c.rc, .slice c.zA c.zones.length c.zc, .slice c.kA c.links.length c.kc, .slice c.hA c.shifts.length c.hc])
  clear hal
  have c0 := (HXc.out.cell 0).trans rfl
  have c1 := (HXc.out.cell 1).trans rfl
  have c2 := (HXc.out.cell 2).trans rfl
  have c3 := (HXc.out.cell 3).trans rfl
  go_wp2_with fail
  clear c0 c1 c2 c3
  refine (contract_any c _ HGc.out.src HFc.out (hv.below HB.out)).mono ?_
  rintro e Wx ⟨x, nx, rfl, hG, hR, hc⟩
  have HXt' := Lib.hid (HXt.out.below hc HXt.out.lt)
  have HXa' := Lib.hid (HXa.out.below hc HXa.out.lt)
  have HXb' := Lib.hid (HXb.out.below hc HXb.out.lt)
  have HXc' := Lib.hid (HXc.out.below hc HXc.out.lt)
  have HB' := Lib.hid (HB.out.trans (hc.mono HB.out.size))
  have HGt' := Lib.hid (HGt.out.below hc)
  have HGa' := Lib.hid (HGa.out.below hc)
  have HGb' := Lib.hid (HGb.out.below hc)
  have HGc' := Lib.hid (HGc.out.below hc)
  clear HXt HXa HXb HXc HB HGt HGa HGb HGc
  have HXt := HXt'; clear HXt'
  have HXa := HXa'; clear HXa'
  have HXb := HXb'; clear HXb'
  have HXc := HXc'; clear HXc'
  have HB := HB'; clear HB'
  have HGt := HGt'; clear HGt'
  have HGa := HGa'; clear HGa'
  have HGb := HGb'; clear HGb'
  have HGc := HGc'; clear HGc'
  obtain ⟨rfl, hs⟩ := back_x HGD.out HSc.out hR
  have HGx := Lib.hid hG; have HSx := Lib.hid hs
  clear hc hG hR hs
  have HFx := Lib.hid (few_same HFc.out HSx.out)
  have HXt' := Lib.hid (HXt.out.alloc (.cells #[.slice x.rA x.rules.length x.rc, .slice x.zA x.zones.length x.zc, .slice x.kA x.links.length x.kc, .slice x.hA x.shifts.length x.hc] 32))
  have HXa' := Lib.hid (HXa.out.alloc (.cells #[.slice x.rA x.rules.length x.rc, .slice x.zA x.zones.length x.zc, .slice x.kA x.links.length x.kc, .slice x.hA x.shifts.length x.hc] 32))
  have HXb' := Lib.hid (HXb.out.alloc (.cells #[.slice x.rA x.rules.length x.rc, .slice x.zA x.zones.length x.zc, .slice x.kA x.links.length x.kc, .slice x.hA x.shifts.length x.hc] 32))
  have HXc' := Lib.hid (HXc.out.alloc (.cells #[.slice x.rA x.rules.length x.rc, .slice x.zA x.zones.length x.zc, .slice x.kA x.links.length x.kc, .slice x.hA x.shifts.length x.hc] 32))
  have HB' := Lib.hid (HB.out.alloc HB.out.size (.cells #[.slice x.rA x.rules.length x.rc, .slice x.zA x.zones.length x.zc, .slice x.kA x.links.length x.kc, .slice x.hA x.shifts.length x.hc] 32))
  have hal := (Below.refl Wx.heap.size Wx).alloc (Nat.le_refl _) (.cells #[.slice x.rA x.rules.length x.rc, .slice x.zA x.zones.length x.zc, .slice x.kA x.links.length x.kc, .slice x.hA x.shifts.length x.hc] 32)
  have HGt' := Lib.hid (HGt.out.below hal)
  have HGa' := Lib.hid (HGa.out.below hal)
  have HGb' := Lib.hid (HGb.out.below hal)
  have HGc' := Lib.hid (HGc.out.below hal)
  have HGx' := Lib.hid (HGx.out.below hal)
  clear HXt HXa HXb HXc HB HGt HGa HGb HGc HGx
  have HXt := HXt'; clear HXt'
  have HXa := HXa'; clear HXa'
  have HXb := HXb'; clear HXb'
  have HXc := HXc'; clear HXc'
  have HB := HB'; clear HB'
  have HGt := HGt'; clear HGt'
  have HGa := HGa'; clear HGa'
  have HGb := HGb'; clear HGb'
  have HGc := HGc'; clear HGc'
  have HGx := HGx'; clear HGx'
  have HXx := Lib.hid (Blk.new Wx 32 #[.slice x.rA x.rules.length x.rc, .slice x.zA x.zones.length x.zc, .slice x.kA x.links.length x.kc, .slice x.hA x.shifts.length x.hc])
  clear hal
  have d1 := (HXt.out.cell 1).trans rfl; have e1 := (HXa.out.cell 1).trans rfl
  have hz1 : ((a.zones.length : Int) == (t.zones.length : Int)) = true := by have h1 := (same_lens HSa.out).2.1; have h2 : (mapS (fmtE (exF t.rules)) t).zones.length = t.zones.length := (by show (t.zones.map _).length = _; simp); rw [h1, h2]; simp
  have hz0i : ((t.zones.length : Int) == 0) = false := by have := HGD.out.zones.1; simp; intro q; rw [q] at this; simp at this
  go_upto_region 8 with fail
  have hz61 : ((a.zones.length : Int) != (t.zones.length : Int)) = false := by rw [bne, hz1]; rfl
  rw [hz61]
  clear d1 e1 hz1 hz0i hz61
  generalize (Wx.alloc (.cells #[.slice x.rA x.rules.length x.rc, .slice x.zA x.zones.length x.zc, .slice x.kA x.links.length x.kc, .slice x.hA x.shifts.length x.hc] 32)) = V0 at HXt HXa HXb HXc HXx HB HGt HGa HGb HGc HGx ⊢
  generalize Wt.heap.size = g3 at HXt ⊢; generalize Wa.heap.size = g4 at HXa ⊢; generalize Wb.heap.size = g6 at HXb ⊢; generalize Wc.heap.size = g8 at HXc ⊢; generalize Wx.heap.size = g10 at HXx ⊢
  refine wp_region_shape [(some 63, []), (some 64, [0]), (some 65, [1]), (some 66, [2, 1]), (some 67, [3]), (some 68, [4, 3, 3]), (some 69, [5, 3]), (some 70, [3, 6]), (some 71, [7, 5]), (some 72, [8]), (some 73, [8]), (some 74, [9, 10, 8, 8]), (some 75, [8, 11]), (some 76, [12, 11]), (some 77, [13]), (some 78, [13]), (some 79, [14, 15, 13, 13]), (some 80, [13, 16]), (some 81, [17, 16]), (some 82, [18]), (some 83, [18]), (some 84, [19, 20, 18, 18]), (some 85, [18, 21]), (some 86, [22, 21]), (some 87, [23]), (some 88, [24, 23, 23]), (some 89, [23]), (some 90, [26, 25, 23]), (some 91, [25, 27, 27, 23]), (some 92, [23, 28]), (some 93, [29, 28]), (some 94, [30, 30]), (some 95, [30, 31]), (some 2, [32, 31, 0, 1, 2, 3, 4, 5, 6, 7, 8, 9, 10, 11, 12, 13, 14, 15, 16, 17, 18, 19, 20, 21, 22, 23, 24, 25, 26, 27, 28, 29, 30, 31, 32])] (fun y => { tmps := #[.agg #[.slice d.sA d.sets.length d.sc, .slice d.zA d.zones.length d.zc, .slice d.lA d.links.length d.lc], .pointer (some ⟨w.heap.size, 0, none⟩), y 2, .pointer (some ⟨g3, 0, none⟩), .pointer (some ⟨g4, 0, none⟩), .int .i64 0, .pointer (some ⟨g6, 0, none⟩), .int .i64 0, .pointer (some ⟨g8, 0, none⟩), .int .i64 0, .pointer (some ⟨g10, 0, none⟩), .int .i64 0, .agg #[.slice d.sA d.sets.length d.sc, .slice d.zA d.zones.length d.zc, .slice d.lA d.links.length d.lc], .agg #[.slice t.rA t.rules.length t.rc, .slice t.zA t.zones.length t.zc, .slice t.kA t.links.length t.kc, .slice t.hA t.shifts.length t.hc], .tuple #[.agg #[.slice a.rA a.rules.length a.rc, .slice a.zA a.zones.length a.zc, .slice a.kA a.links.length a.kc, .slice a.hA a.shifts.length a.hc], .int .i64 0], .agg #[.slice t.rA t.rules.length t.rc, .slice t.zA t.zones.length t.zc, .slice t.kA t.links.length t.kc, .slice t.hA t.shifts.length t.hc], .tuple #[.agg #[.slice a.rA a.rules.length a.rc, .slice a.zA a.zones.length a.zc, .slice a.kA a.links.length a.kc, .slice a.hA a.shifts.length a.hc], .int .i64 0], .agg #[.slice a.rA a.rules.length a.rc, .slice a.zA a.zones.length a.zc, .slice a.kA a.links.length a.kc, .slice a.hA a.shifts.length a.hc], .int .i64 0, .tuple #[.agg #[.slice b.rA b.rules.length b.rc, .slice b.zA b.zones.length b.zc, .slice b.kA b.links.length b.kc, .slice b.hA b.shifts.length b.hc], .int .i64 0], .agg #[.slice a.rA a.rules.length a.rc, .slice a.zA a.zones.length a.zc, .slice a.kA a.links.length a.kc, .slice a.hA a.shifts.length a.hc], .tuple #[.agg #[.slice b.rA b.rules.length b.rc, .slice b.zA b.zones.length b.zc, .slice b.kA b.links.length b.kc, .slice b.hA b.shifts.length b.hc], .int .i64 0], .agg #[.slice b.rA b.rules.length b.rc, .slice b.zA b.zones.length b.zc, .slice b.kA b.links.length b.kc, .slice b.hA b.shifts.length b.hc], .int .i64 0, .tuple #[.agg #[.slice c.rA c.rules.length c.rc, .slice c.zA c.zones.length c.zc, .slice c.kA c.links.length c.kc, .slice c.hA c.shifts.length c.hc], .int .i64 0], .agg #[.slice a.rA a.rules.length a.rc, .slice a.zA a.zones.length a.zc, .slice a.kA a.links.length a.kc, .slice a.hA a.shifts.length a.hc], .tuple #[.agg #[.slice c.rA c.rules.length c.rc, .slice c.zA c.zones.length c.zc, .slice c.kA c.links.length c.kc, .slice c.hA c.shifts.length c.hc], .int .i64 0], .agg #[.slice c.rA c.rules.length c.rc, .slice c.zA c.zones.length c.zc, .slice c.kA c.links.length c.kc, .slice c.hA c.shifts.length c.hc], .int .i64 0, .tuple #[.agg #[.slice x.rA x.rules.length x.rc, .slice x.zA x.zones.length x.zc, .slice x.kA x.links.length x.kc, .slice x.hA x.shifts.length x.hc], .int .i64 0], .agg #[.slice c.rA c.rules.length c.rc, .slice c.zA c.zones.length c.zc, .slice c.kA c.links.length c.kc, .slice c.hA c.shifts.length c.hc], .tuple #[.agg #[.slice x.rA x.rules.length x.rc, .slice x.zA x.zones.length x.zc, .slice x.kA x.links.length x.kc, .slice x.hA x.shifts.length x.hc], .int .i64 0], .agg #[.slice x.rA x.rules.length x.rc, .slice x.zA x.zones.length x.zc, .slice x.kA x.links.length x.kc, .slice x.hA x.shifts.length x.hc], .int .i64 0, .int .i64 0, .bool false, .bool false, .int .i64 0, .bool false, .bool false, .bool false, .int .i64 0, .bool false, .bool false, .bool false, .int .i64 0, .bool false, .bool false, .bool false, .pointer (some ⟨g3, 1, none⟩), .slice t.zA t.zones.length t.zc, .int .i64 t.zones.length, .bool false, .bool false, .bool false, .pointer (some ⟨g4, 1, none⟩), .slice a.zA a.zones.length a.zc, .int .i64 a.zones.length, .pointer (some ⟨g3, 1, none⟩), .slice t.zA t.zones.length t.zc, .int .i64 t.zones.length, .bool false, .bool false, y 63, y 64, y 65, y 66, y 67, y 68, y 69, y 70, y 71, y 72, y 73, y 74, y 75, y 76, y 77, y 78, y 79, y 80, y 81, y 82, y 83, y 84, y 85, y 86, y 87, y 88, y 89, y 90, y 91, y 92, y 93, y 94, y 95], defers := [] }) (fun k => if k = 2 then .bool false else undef) (fun j => j == 25 || j == 27) [.agg #[.slice a.rA a.rules.length a.rc, .slice a.zA a.zones.length a.zc, .slice a.kA a.links.length a.kc, .slice a.hA a.shifts.length a.hc], .bool false, .bool true, .bool true, .agg #[.slice c.rA c.rules.length c.rc, .slice c.zA c.zones.length c.zc, .slice c.kA c.links.length c.kc, .slice c.hA c.shifts.length c.hc], .bool false, .bool true, .bool true, .bool true, .agg #[.slice b.rA b.rules.length b.rc, .slice b.zA b.zones.length b.zc, .slice b.kA b.links.length b.kc, .slice b.hA b.shifts.length b.hc], .agg #[.slice a.rA a.rules.length a.rc, .slice a.zA a.zones.length a.zc, .slice a.kA a.links.length a.kc, .slice a.hA a.shifts.length a.hc], .bool true, .bool true, .bool true, .agg #[.slice c.rA c.rules.length c.rc, .slice c.zA c.zones.length c.zc, .slice c.kA c.links.length c.kc, .slice c.hA c.shifts.length c.hc], .agg #[.slice t.rA t.rules.length t.rc, .slice t.zA t.zones.length t.zc, .slice t.kA t.links.length t.kc, .slice t.hA t.shifts.length t.hc], .bool true, .bool true, .bool true, .agg #[.slice x.rA x.rules.length x.rc, .slice x.zA x.zones.length x.zc, .slice x.kA x.links.length x.kc, .slice x.hA x.shifts.length x.hc], .agg #[.slice c.rA c.rules.length c.rc, .slice c.zA c.zones.length c.zc, .slice c.kA c.links.length c.kc, .slice c.hA c.shifts.length c.hc], .bool true, .bool true, .bool true, .agg #[.slice a.rA a.rules.length a.rc, .slice a.zA a.zones.length a.zc, .slice a.kA a.links.length a.kc, .slice a.hA a.shifts.length a.hc], undef, .agg #[.slice t.rA t.rules.length t.rc, .slice t.zA t.zones.length t.zc, .slice t.kA t.links.length t.kc, .slice t.hA t.shifts.length t.hc], undef, .bool true, .bool true, .bool true, .bool true, .bool true, .bool true] (fun j y W => match j with | 25 => ∃ pa : SV, y 88 = Value.agg #[.slice pa.rA pa.rules.length pa.rc, .slice pa.zA pa.zones.length pa.zc, .slice pa.kA pa.links.length pa.kc, .slice pa.hA pa.shifts.length pa.hc] ∧ SrcG W pa ∧ sSame14 pa (mapS (fmtE noF) a) | 27 => ∃ ps : SV, y 90 = Value.agg #[.slice ps.rA ps.rules.length ps.rc, .slice ps.zA ps.zones.length ps.zc, .slice ps.kA ps.links.length ps.kc, .slice ps.hA ps.shifts.length ps.hc] ∧ SrcG W ps ∧ sSame14 ps (mapS (fmtE noF) t) | _ => True) (fun j => match j with | 25 => [88] | 27 => [90] | _ => []) (fun W W' => Below W.heap.size W W') (fun W => Below V0.heap.size V0 W) (by kernel_rfl) (by kernel_rfl) (by decide +kernel) rfl (Below.refl _ _).drew ?hput8 ?hloc8 ?hmono8 ?hstep8 ?hdone8
  case hput8 =>
    intro d hd y v
    simp only [List.filterMap_cons, List.filterMap_nil, List.mem_cons, List.not_mem_nil, or_false] at hd
    rcases hd with rfl | rfl | rfl | rfl | rfl | rfl | rfl | rfl | rfl | rfl | rfl | rfl | rfl | rfl | rfl | rfl | rfl | rfl | rfl | rfl | rfl | rfl | rfl | rfl | rfl | rfl | rfl | rfl | rfl | rfl | rfl | rfl | rfl | rfl
    all_goals rfl
  case hloc8 =>
    intro j hj y y' W hk hx
    have hj' : j = 25 ∨ j = 27 := by simpa [or_assoc] using hj
    rcases hj' with rfl | rfl
    · simp only [List.forall_mem_cons, List.not_mem_nil, false_imp_iff, implies_true, and_true] at hk
      show _
      simpa only [hk] using hx
    · simp only [List.forall_mem_cons, List.not_mem_nil, false_imp_iff, implies_true, and_true] at hk
      show _
      simpa only [hk] using hx
  case hmono8 =>
    intro j hj hlast y W W' hg hx
    have hj' : j = 25 ∨ j = 27 := by simpa [or_assoc] using hj
    rcases hj' with rfl | rfl
    · obtain ⟨pa, h1, h2, h3⟩ := hx; exact ⟨pa, h1, h2.below hg, h3⟩
    · obtain ⟨ps, h1, h2, h3⟩ := hx; exact ⟨ps, h1, h2.below hg, h3⟩
  case hdone8 =>
    intro y8 W8 hS hd
    have hfin := HB.out.trans (hS.mono HB.out.size)
    have e2 : y8 2 = .bool true := (hd 33 (by decide)).val rfl rfl
    clear hd
    rw [e2]
    go_wp2_with fail
    go_ret
    exact ⟨rfl, hfin⟩
  case hstep8 =>
    refine StepsOk.cons (StepOk.known rfl fun y W hS hd K' hK => ?_) ?_
    · skip
      clear hd
      have hz := HXa.out.below hS HXa.out.lt
      have z0 := (hz.cell 0).trans rfl
      have z1 := (hz.cell 1).trans rfl
      have z2 := (hz.cell 2).trans rfl
      have z3 := (hz.cell 3).trans rfl
      clear hz
      go_simp
      exact hK.out _ _ rfl (Below.refl _ _) hS
    refine StepsOk.cons (StepOk.known rfl fun y W hS hd K' hK => ?_) ?_
    · skip
      have e63 : y 63 = .agg #[.slice a.rA a.rules.length a.rc, .slice a.zA a.zones.length a.zc, .slice a.kA a.links.length a.kc, .slice a.hA a.shifts.length a.hc] := (hd 0 rfl).val rfl rfl
      clear hd
      go_simp
      refine (has_no a 4 _ (HGa.out.below hS).src ⟨HFa.out.lens.2.1, HFa.out.eras⟩ (back_no4 HGD.out HSa.out) (hv.below (HB.out.trans (hS.mono HB.out.size)))).mono ?_
      rintro e W' ⟨rfl, hc⟩
      go_wp2_with fail
      exact hK.out _ _ (by first | rfl | (simp only [e63]; done) | (simp only [e63]; rfl)) hc (hS.trans (hc.mono hS.size))
    refine StepsOk.cons (StepOk.known rfl fun y W hS hd K' hK => ?_) ?_
    · skip
      have e64 : y 64 = .bool false := (hd 1 rfl).val rfl rfl
      clear hd
      go_simp
      exact hK.out _ _ (by first | rfl | (simp only [e64]; done) | (simp only [e64]; rfl)) (Below.refl _ _) hS
    refine StepsOk.cons (StepOk.known rfl fun y W hS hd K' hK => ?_) ?_
    · skip
      have e64 : y 64 = .bool false := (hd 1 rfl).val rfl rfl
      have e65 : y 65 = .bool true := (hd 2 rfl).val rfl rfl
      clear hd
      go_simp
      exact hK.out _ _ (by first | rfl | (simp only [e64, e65]; done) | (simp only [e64, e65]; rfl)) (Below.refl _ _) hS
    refine StepsOk.cons (StepOk.known rfl fun y W hS hd K' hK => ?_) ?_
    · skip
      have e66 : y 66 = .bool true := (hd 3 rfl).val rfl rfl
      clear hd
      have hz := HXc.out.below hS HXc.out.lt
      have z0 := (hz.cell 0).trans rfl
      have z1 := (hz.cell 1).trans rfl
      have z2 := (hz.cell 2).trans rfl
      have z3 := (hz.cell 3).trans rfl
      clear hz
      go_simp
      exact hK.out _ _ (by first | rfl | (simp only [e66]; done) | (simp only [e66]; rfl)) (Below.refl _ _) hS
    refine StepsOk.cons (StepOk.known rfl fun y W hS hd K' hK => ?_) ?_
    · skip
      have e66 : y 66 = .bool true := (hd 3 rfl).val rfl rfl
      have e67 : y 67 = .agg #[.slice c.rA c.rules.length c.rc, .slice c.zA c.zones.length c.zc, .slice c.kA c.links.length c.kc, .slice c.hA c.shifts.length c.hc] := (hd 4 rfl).val rfl rfl
      clear hd
      go_simp
      refine (has_no c 5 _ (HGc.out.below hS).src ⟨HFc.out.lens.2.1, HFc.out.eras⟩ (back_no5 HGD.out HSc.out) (hv.below (HB.out.trans (hS.mono HB.out.size)))).mono ?_
      rintro e W' ⟨rfl, hc⟩
      go_wp2_with fail
      exact hK.out _ _ (by first | rfl | (simp only [e66, e67]; done) | (simp only [e66, e67]; rfl)) hc (hS.trans (hc.mono hS.size))
    refine StepsOk.cons (StepOk.known rfl fun y W hS hd K' hK => ?_) ?_
    · skip
      have e66 : y 66 = .bool true := (hd 3 rfl).val rfl rfl
      have e68 : y 68 = .bool false := (hd 5 rfl).val rfl rfl
      clear hd
      go_simp
      exact hK.out _ _ (by first | rfl | (simp only [e66, e68]; done) | (simp only [e66, e68]; rfl)) (Below.refl _ _) hS
    refine StepsOk.cons (StepOk.known rfl fun y W hS hd K' hK => ?_) ?_
    · skip
      have e66 : y 66 = .bool true := (hd 3 rfl).val rfl rfl
      have e69 : y 69 = .bool true := (hd 6 rfl).val rfl rfl
      clear hd
      go_simp
      exact hK.out _ _ (by first | rfl | (simp only [e66, e69]; done) | (simp only [e66, e69]; rfl)) (Below.refl _ _) hS
    refine StepsOk.cons (StepOk.known rfl fun y W hS hd K' hK => ?_) ?_
    · skip
      have e68 : y 68 = .bool false := (hd 5 rfl).val rfl rfl
      have e70 : y 70 = .bool true := (hd 7 rfl).val rfl rfl
      clear hd
      go_simp
      exact hK.out _ _ (by first | rfl | (simp only [e68, e70]; done) | (simp only [e68, e70]; rfl)) (Below.refl _ _) hS
    refine StepsOk.cons (StepOk.known rfl fun y W hS hd K' hK => ?_) ?_
    · skip
      have e71 : y 71 = .bool true := (hd 8 rfl).val rfl rfl
      clear hd
      have hz := HXb.out.below hS HXb.out.lt
      have z0 := (hz.cell 0).trans rfl
      have z1 := (hz.cell 1).trans rfl
      have z2 := (hz.cell 2).trans rfl
      have z3 := (hz.cell 3).trans rfl
      clear hz
      go_simp
      exact hK.out _ _ (by first | rfl | (simp only [e71]; done) | (simp only [e71]; rfl)) (Below.refl _ _) hS
    refine StepsOk.cons (StepOk.known rfl fun y W hS hd K' hK => ?_) ?_
    · skip
      have e71 : y 71 = .bool true := (hd 8 rfl).val rfl rfl
      clear hd
      have hz := HXa.out.below hS HXa.out.lt
      have z0 := (hz.cell 0).trans rfl
      have z1 := (hz.cell 1).trans rfl
      have z2 := (hz.cell 2).trans rfl
      have z3 := (hz.cell 3).trans rfl
      clear hz
      go_simp
      exact hK.out _ _ (by first | rfl | (simp only [e71]; done) | (simp only [e71]; rfl)) (Below.refl _ _) hS
    refine StepsOk.cons (StepOk.known rfl fun y W hS hd K' hK => ?_) ?_
    · skip
      have e71 : y 71 = .bool true := (hd 8 rfl).val rfl rfl
      have e72 : y 72 = .agg #[.slice b.rA b.rules.length b.rc, .slice b.zA b.zones.length b.zc, .slice b.kA b.links.length b.kc, .slice b.hA b.shifts.length b.hc] := (hd 9 rfl).val rfl rfl
      have e73 : y 73 = .agg #[.slice a.rA a.rules.length a.rc, .slice a.zA a.zones.length a.zc, .slice a.kA a.links.length a.kc, .slice a.hA a.shifts.length a.hc] := (hd 10 rfl).val rfl rfl
      clear hd
      go_simp
      refine (same_call30 HSb.out (big_few HFb.out) _ (HGb.out.below hS).src (HGa.out.below hS).src).mono ?_
      rintro e W' ⟨rfl, hc⟩
      go_wp2_with fail
      exact hK.out _ _ (by first | rfl | (simp only [e71, e72, e73]; done) | (simp only [e71, e72, e73]; rfl)) hc (hS.trans (hc.mono hS.size))
    refine StepsOk.cons (StepOk.known rfl fun y W hS hd K' hK => ?_) ?_
    · skip
      have e71 : y 71 = .bool true := (hd 8 rfl).val rfl rfl
      have e74 : y 74 = .bool true := (hd 11 rfl).val rfl rfl
      clear hd
      go_simp
      exact hK.out _ _ (by first | rfl | (simp only [e71, e74]; done) | (simp only [e71, e74]; rfl)) (Below.refl _ _) hS
    refine StepsOk.cons (StepOk.known rfl fun y W hS hd K' hK => ?_) ?_
    · skip
      have e74 : y 74 = .bool true := (hd 11 rfl).val rfl rfl
      have e75 : y 75 = .bool true := (hd 12 rfl).val rfl rfl
      clear hd
      go_simp
      exact hK.out _ _ (by first | rfl | (simp only [e74, e75]; done) | (simp only [e74, e75]; rfl)) (Below.refl _ _) hS
    refine StepsOk.cons (StepOk.known rfl fun y W hS hd K' hK => ?_) ?_
    · skip
      have e76 : y 76 = .bool true := (hd 13 rfl).val rfl rfl
      clear hd
      have hz := HXc.out.below hS HXc.out.lt
      have z0 := (hz.cell 0).trans rfl
      have z1 := (hz.cell 1).trans rfl
      have z2 := (hz.cell 2).trans rfl
      have z3 := (hz.cell 3).trans rfl
      clear hz
      go_simp
      exact hK.out _ _ (by first | rfl | (simp only [e76]; done) | (simp only [e76]; rfl)) (Below.refl _ _) hS
    refine StepsOk.cons (StepOk.known rfl fun y W hS hd K' hK => ?_) ?_
    · skip
      have e76 : y 76 = .bool true := (hd 13 rfl).val rfl rfl
      clear hd
      have hz := HXt.out.below hS HXt.out.lt
      have z0 := (hz.cell 0).trans rfl
      have z1 := (hz.cell 1).trans rfl
      have z2 := (hz.cell 2).trans rfl
      have z3 := (hz.cell 3).trans rfl
      clear hz
      go_simp
      exact hK.out _ _ (by first | rfl | (simp only [e76]; done) | (simp only [e76]; rfl)) (Below.refl _ _) hS
    refine StepsOk.cons (StepOk.known rfl fun y W hS hd K' hK => ?_) ?_
    · skip
      have e76 : y 76 = .bool true := (hd 13 rfl).val rfl rfl
      have e77 : y 77 = .agg #[.slice c.rA c.rules.length c.rc, .slice c.zA c.zones.length c.zc, .slice c.kA c.links.length c.kc, .slice c.hA c.shifts.length c.hc] := (hd 14 rfl).val rfl rfl
      have e78 : y 78 = .agg #[.slice t.rA t.rules.length t.rc, .slice t.zA t.zones.length t.zc, .slice t.kA t.links.length t.kc, .slice t.hA t.shifts.length t.hc] := (hd 15 rfl).val rfl rfl
      clear hd
      go_simp
      refine (same_call30 HSc.out (big_few HFc.out) _ (HGc.out.below hS).src (HGt.out.below hS).src).mono ?_
      rintro e W' ⟨rfl, hc⟩
      go_wp2_with fail
      exact hK.out _ _ (by first | rfl | (simp only [e76, e77, e78]; done) | (simp only [e76, e77, e78]; rfl)) hc (hS.trans (hc.mono hS.size))
    refine StepsOk.cons (StepOk.known rfl fun y W hS hd K' hK => ?_) ?_
    · skip
      have e76 : y 76 = .bool true := (hd 13 rfl).val rfl rfl
      have e79 : y 79 = .bool true := (hd 16 rfl).val rfl rfl
      clear hd
      go_simp
      exact hK.out _ _ (by first | rfl | (simp only [e76, e79]; done) | (simp only [e76, e79]; rfl)) (Below.refl _ _) hS
    refine StepsOk.cons (StepOk.known rfl fun y W hS hd K' hK => ?_) ?_
    · skip
      have e79 : y 79 = .bool true := (hd 16 rfl).val rfl rfl
      have e80 : y 80 = .bool true := (hd 17 rfl).val rfl rfl
      clear hd
      go_simp
      exact hK.out _ _ (by first | rfl | (simp only [e79, e80]; done) | (simp only [e79, e80]; rfl)) (Below.refl _ _) hS
    refine StepsOk.cons (StepOk.known rfl fun y W hS hd K' hK => ?_) ?_
    · skip
      have e81 : y 81 = .bool true := (hd 18 rfl).val rfl rfl
      clear hd
      have hz := HXx.out.below hS HXx.out.lt
      have z0 := (hz.cell 0).trans rfl
      have z1 := (hz.cell 1).trans rfl
      have z2 := (hz.cell 2).trans rfl
      have z3 := (hz.cell 3).trans rfl
      clear hz
      go_simp
      exact hK.out _ _ (by first | rfl | (simp only [e81]; done) | (simp only [e81]; rfl)) (Below.refl _ _) hS
    refine StepsOk.cons (StepOk.known rfl fun y W hS hd K' hK => ?_) ?_
    · skip
      have e81 : y 81 = .bool true := (hd 18 rfl).val rfl rfl
      clear hd
      have hz := HXc.out.below hS HXc.out.lt
      have z0 := (hz.cell 0).trans rfl
      have z1 := (hz.cell 1).trans rfl
      have z2 := (hz.cell 2).trans rfl
      have z3 := (hz.cell 3).trans rfl
      clear hz
      go_simp
      exact hK.out _ _ (by first | rfl | (simp only [e81]; done) | (simp only [e81]; rfl)) (Below.refl _ _) hS
    refine StepsOk.cons (StepOk.known rfl fun y W hS hd K' hK => ?_) ?_
    · skip
      have e81 : y 81 = .bool true := (hd 18 rfl).val rfl rfl
      have e82 : y 82 = .agg #[.slice x.rA x.rules.length x.rc, .slice x.zA x.zones.length x.zc, .slice x.kA x.links.length x.kc, .slice x.hA x.shifts.length x.hc] := (hd 19 rfl).val rfl rfl
      have e83 : y 83 = .agg #[.slice c.rA c.rules.length c.rc, .slice c.zA c.zones.length c.zc, .slice c.kA c.links.length c.kc, .slice c.hA c.shifts.length c.hc] := (hd 20 rfl).val rfl rfl
      clear hd
      go_simp
      refine (same_call30 HSx.out (big_few HFx.out) _ (HGx.out.below hS).src (HGc.out.below hS).src).mono ?_
      rintro e W' ⟨rfl, hc⟩
      go_wp2_with fail
      exact hK.out _ _ (by first | rfl | (simp only [e81, e82, e83]; done) | (simp only [e81, e82, e83]; rfl)) hc (hS.trans (hc.mono hS.size))
    refine StepsOk.cons (StepOk.known rfl fun y W hS hd K' hK => ?_) ?_
    · skip
      have e81 : y 81 = .bool true := (hd 18 rfl).val rfl rfl
      have e84 : y 84 = .bool true := (hd 21 rfl).val rfl rfl
      clear hd
      go_simp
      exact hK.out _ _ (by first | rfl | (simp only [e81, e84]; done) | (simp only [e81, e84]; rfl)) (Below.refl _ _) hS
    refine StepsOk.cons (StepOk.known rfl fun y W hS hd K' hK => ?_) ?_
    · skip
      have e84 : y 84 = .bool true := (hd 21 rfl).val rfl rfl
      have e85 : y 85 = .bool true := (hd 22 rfl).val rfl rfl
      clear hd
      go_simp
      exact hK.out _ _ (by first | rfl | (simp only [e84, e85]; done) | (simp only [e84, e85]; rfl)) (Below.refl _ _) hS
    refine StepsOk.cons (StepOk.known rfl fun y W hS hd K' hK => ?_) ?_
    · skip
      have e86 : y 86 = .bool true := (hd 23 rfl).val rfl rfl
      clear hd
      have hz := HXa.out.below hS HXa.out.lt
      have z0 := (hz.cell 0).trans rfl
      have z1 := (hz.cell 1).trans rfl
      have z2 := (hz.cell 2).trans rfl
      have z3 := (hz.cell 3).trans rfl
      clear hz
      go_simp
      exact hK.out _ _ (by first | rfl | (simp only [e86]; done) | (simp only [e86]; rfl)) (Below.refl _ _) hS
    refine StepsOk.cons (StepOk.other rfl fun y W hS hd K' hK => ?_) ?_
    · skip
      have e86 : y 86 = .bool true := (hd 23 rfl).val rfl rfl
      have e87 : y 87 = .agg #[.slice a.rA a.rules.length a.rc, .slice a.zA a.zones.length a.zc, .slice a.kA a.links.length a.kc, .slice a.hA a.shifts.length a.hc] := (hd 24 rfl).val rfl rfl
      clear hd
      go_simp
      refine (plain30_any a _ (HGa.out.below hS).src HFa.out).mono ?_
      rintro e W' ⟨pa, rfl, hG2, hS2, hc⟩
      go_wp2_with fail
      exact hK.out _ _ _ (by first | rfl | (simp only [e86, e87]; done) | (simp only [e86, e87]; rfl)) hc (hS.trans (hc.mono hS.size)) (show ∃ q : SV, _ = Value.agg #[.slice q.rA q.rules.length q.rc, .slice q.zA q.zones.length q.zc, .slice q.kA q.links.length q.kc, .slice q.hA q.shifts.length q.hc] ∧ SrcG _ q ∧ sSame14 q (mapS (fmtE noF) a) from ⟨pa, rfl, hG2, hS2⟩)
    refine StepsOk.cons (StepOk.known rfl fun y W hS hd K' hK => ?_) ?_
    · skip
      have e86 : y 86 = .bool true := (hd 23 rfl).val rfl rfl
      clear hd
      have hz := HXt.out.below hS HXt.out.lt
      have z0 := (hz.cell 0).trans rfl
      have z1 := (hz.cell 1).trans rfl
      have z2 := (hz.cell 2).trans rfl
      have z3 := (hz.cell 3).trans rfl
      clear hz
      go_simp
      exact hK.out _ _ (by first | rfl | (simp only [e86]; done) | (simp only [e86]; rfl)) (Below.refl _ _) hS
    refine StepsOk.cons (StepOk.other rfl fun y W hS hd K' hK => ?_) ?_
    · skip
      have e86 : y 86 = .bool true := (hd 23 rfl).val rfl rfl
      have x25 : (fun (y : Nat → Value) (W : World) => ∃ pa : SV, y 88 = Value.agg #[.slice pa.rA pa.rules.length pa.rc, .slice pa.zA pa.zones.length pa.zc, .slice pa.kA pa.links.length pa.kc, .slice pa.hA pa.shifts.length pa.hc] ∧ SrcG W pa ∧ sSame14 pa (mapS (fmtE noF) a)) y W := (hd 25 rfl).ex rfl
      have e89 : y 89 = .agg #[.slice t.rA t.rules.length t.rc, .slice t.zA t.zones.length t.zc, .slice t.kA t.links.length t.kc, .slice t.hA t.shifts.length t.hc] := (hd 26 rfl).val rfl rfl
      clear hd
      go_simp
      refine (plain30_any t _ (HGt.out.below hS).src HF.out).mono ?_
      rintro e W' ⟨ps, rfl, hG2, hS2, hc⟩
      go_wp2_with fail
      exact hK.out _ _ _ (by first | rfl | (simp only [e86, e89]; done) | (simp only [e86, e89]; rfl)) hc (hS.trans (hc.mono hS.size)) (show ∃ q : SV, _ = Value.agg #[.slice q.rA q.rules.length q.rc, .slice q.zA q.zones.length q.zc, .slice q.kA q.links.length q.kc, .slice q.hA q.shifts.length q.hc] ∧ SrcG _ q ∧ sSame14 q (mapS (fmtE noF) t) from ⟨ps, rfl, hG2, hS2⟩)
    refine StepsOk.cons (StepOk.known rfl fun y W hS hd K' hK => ?_) ?_
    · skip
      have e86 : y 86 = .bool true := (hd 23 rfl).val rfl rfl
      have x25 : (fun (y : Nat → Value) (W : World) => ∃ pa : SV, y 88 = Value.agg #[.slice pa.rA pa.rules.length pa.rc, .slice pa.zA pa.zones.length pa.zc, .slice pa.kA pa.links.length pa.kc, .slice pa.hA pa.shifts.length pa.hc] ∧ SrcG W pa ∧ sSame14 pa (mapS (fmtE noF) a)) y W := (hd 25 rfl).ex rfl
      have x27 : (fun (y : Nat → Value) (W : World) => ∃ ps : SV, y 90 = Value.agg #[.slice ps.rA ps.rules.length ps.rc, .slice ps.zA ps.zones.length ps.zc, .slice ps.kA ps.links.length ps.kc, .slice ps.hA ps.shifts.length ps.hc] ∧ SrcG W ps ∧ sSame14 ps (mapS (fmtE noF) t)) y W := (hd 27 rfl).ex rfl
      clear hd
      obtain ⟨pa, h1, hq1, hs1⟩ := x25
      obtain ⟨ps, h2, hq2, hs2⟩ := x27
      go_simp
      refine (same_call30 (back_plain HGD.out HSa.out hs1 hs2) (big_map HFa.out hs1) _ hq1.src hq2.src).mono ?_
      rintro e W' ⟨rfl, hc⟩
      go_wp2_with fail
      exact hK.out _ _ (by first | rfl | (simp only [h1, h2, e86]; done) | (simp only [h1, h2, e86]; rfl)) hc (hS.trans (hc.mono hS.size))
    refine StepsOk.cons (StepOk.known rfl fun y W hS hd K' hK => ?_) ?_
    · skip
      have e86 : y 86 = .bool true := (hd 23 rfl).val rfl rfl
      have e91 : y 91 = .bool true := (hd 28 rfl).val rfl rfl
      clear hd
      go_simp
      exact hK.out _ _ (by first | rfl | (simp only [e86, e91]; done) | (simp only [e86, e91]; rfl)) (Below.refl _ _) hS
    refine StepsOk.cons (StepOk.known rfl fun y W hS hd K' hK => ?_) ?_
    · skip
      have e91 : y 91 = .bool true := (hd 28 rfl).val rfl rfl
      have e92 : y 92 = .bool true := (hd 29 rfl).val rfl rfl
      clear hd
      go_simp
      exact hK.out _ _ (by first | rfl | (simp only [e91, e92]; done) | (simp only [e91, e92]; rfl)) (Below.refl _ _) hS
    refine StepsOk.cons (StepOk.known rfl fun y W hS hd K' hK => ?_) ?_
    · skip
      have e93 : y 93 = .bool true := (hd 30 rfl).val rfl rfl
      clear hd
      go_simp
      refine (works30_any _ (hv.below (HB.out.trans (hS.mono HB.out.size)))).mono ?_
      rintro e W' ⟨rfl, hc⟩
      go_wp2_with fail
      exact hK.out _ _ (by first | rfl | (simp only [e93]; done) | (simp only [e93]; rfl)) hc (hS.trans (hc.mono hS.size))
    refine StepsOk.cons (StepOk.known rfl fun y W hS hd K' hK => ?_) ?_
    · skip
      have e93 : y 93 = .bool true := (hd 30 rfl).val rfl rfl
      have e94 : y 94 = .bool true := (hd 31 rfl).val rfl rfl
      clear hd
      go_simp
      exact hK.out _ _ (by first | rfl | (simp only [e93, e94]; done) | (simp only [e93, e94]; rfl)) (Below.refl _ _) hS
    refine StepsOk.cons (StepOk.known rfl fun y W hS hd K' hK => ?_) ?_
    · skip
      have e95 : y 95 = .bool true := (hd 32 rfl).val rfl rfl
      clear hd
      go_simp
      exact hK.out _ _ (by first | rfl | (simp only [e95]; done) | (simp only [e95]; rfl)) (Below.refl _ _) hS
    exact StepsOk.nil
end Go.Proofs.YtlideagcmhlkeaaDoor

/- ExpandBack: for every input the law returns true, and each argument reads as before. No condition beside the row's own (the listed package-level variables read as listed; the card ties them to the program's text). -/
namespace Go.Proofs.YtlideagcmhlkeaaDoor.lawExpandBack
open Go.ChangeShapes Go.WideShapes Go.ChangeAt Go.RowKit Go.Joins
open Go.ChangeMaps (open_string shut_string)
set_option linter.unusedVariables false

theorem laidOut : laidOutB Tryd.prog = true := by kernel_rfl
theorem own : ownKnob Tryd.prog.godebug = none := by kernel_rfl
theorem door_met (os : Os) (args : Array Value) : laidMetH Tryd.prog Rows.expandBackRow.laid ((World.doorLaid Tryd.prog 400 os).forCall (fun _ _ => 0) ⟨#[], args, []⟩).memory :=
  laidMetH_of_parts3 (fuel := 8) (laidMet_of_run' 8 (by kernel_rfl) (by kernel_rfl)) (by kernel_rfl) (by kernel_rfl)
set_option maxRecDepth 100000 in
theorem lifted (os : Os) (started : os.Started) (H : Type) (enc : TypeId × Value → H) :
    ReturnsInHanded {} Tryd.checked os 4 .any (fun w args => (Rows.expandBackSpec.pre enc Tryd.prog Tryd.f4 [] false w args ∧ laidMetH Tryd.prog Rows.expandBackRow.laid w) ∧ sizedMet enc Tryd.prog Tryd.f4 (OpenSpec.ofChange Rows.expandBackSpec) false w args)
      (Rows.expandBackSpec.post enc Tryd.prog Tryd.f4 false true false false) := by
  refine handed_shaped (C := Tryd.checked) (X := fun w _ => laidMetH Tryd.prog Rows.expandBackRow.laid w) (fun _ _ _ hh h => h.of_heap hh) own started (by kernel_rfl) Tryd.func4
    (ChangeSpec.witness_shaped (enc := enc) (C := Tryd.checked) (os := os) (X := fun w _ => laidMetH Tryd.prog Rows.expandBackRow.laid w) false (World.doorLaid Tryd.prog 400 os) #[.agg #[.slice none 0 0, .slice none 0 0, .slice none 0 0]] 8 rfl (World.shaped_of_RefB (by kernel_rfl) (by kernel_rfl)) (by kernel_rfl) (by kernel_rfl) (by kernel_rfl) (door_met os _)) ?_
  intro W base args ds gs before hval0 hW _ _ hL hsh _
  have hval : ∀ (j : Nat) t v, Tryd.f4.params[j]? = some t → args[j]? = some v → Value.okWide Tryd.prog W .any base t v := hval0
  have hW' := hW
  obtain ⟨p, q, hA0, hV, rfl, hfz, hnd⟩ := hW
  have hA : DataW.TrodAll enc Tryd.prog W 0 (fun _ => true) true Tryd.f4.params.toList args.toList ds p := hA0
  rw [Tryd.params4] at hA hval
  obtain ⟨v0, vs0, d0, ds0, p0, q0, hargs, rfl, rfl, h0, r0⟩ := trodAll_cons hA
  obtain ⟨rfl, rfl, rfl⟩ := trodAll_nil r0
  obtain rfl : args = #[v0] := by cases args; simp_all
  obtain ⟨rfl, rfl⟩ := trodVars_none hV
  have h0k := h0
  have hlt : ∀ x ∈ (p0 ++ []) ++ [], x.block < W.heap.size := fun x hx => by simpa using hW'.lt x hx
  have hvars := vars23_of_laid (show laidMet Tryd.prog Rows.expandBackRow.laid W from hL) hsh
  have hk0 : ∀ W', Below W.heap.size W W' → DataW.Trod enc Tryd.prog W' 0 (fun b => decide (b < W.heap.size)) true 26 v0 d0 p0 := fun W' bel => Below.trod laidOut (by kernel_rfl) (of_decide_eq_true (by kernel_rfl)) h0k bel (fun x hx => hlt x (by simp [hx]))
  obtain ⟨⟨l0⟩, rfl, hz0⟩ := okWide_struct Tryd.underlying26 (hval 0 26 v0 rfl rfl)
  obtain ⟨f0, hf0⟩ := h0
  have hl0 : l0.length = 3 := hz0.trans (by kernel_rfl)
  obtain ⟨e0, hcs0, hD0⟩ := open_draft23 hl0 hf0
  subst hcs0
  clear hA0 hval0
  refine (walkExpandBack e0 W hD0 hvars).mono fun e W' ⟨he, bel⟩ => ?_
  subst he
  exact ⟨_, rfl, _, _, _, [], _, [], hW', trodAll_mk1 (shut_bool Tryd.underlying4 _), trodAll_cons_mk (hk0 W' bel) (trodAll_mk0), rfl, World.keptBut_mono (fun p hp => ⟨hp, Or.inr (by simpa using hp)⟩) (bel.frame _), fun h => by cases h⟩

theorem said : Rows.ExpandBackSaid :=
  OpenClaim.holds_of_wide 4 Tryd.f4 rfl rfl rfl rfl rfl rfl rfl ⟨rfl, rfl, rfl, rfl, rfl⟩ rfl rfl rfl rfl rfl (by kernel_rfl) Tryd.func4 (by kernel_rfl)
    (of_decide_eq_true (by kernel_rfl)) (by unfold Func.isWrapper; first | (rw [if_pos (by decide +kernel)]; kernel_rfl) | (rw [if_neg (by decide +kernel)]; exact ⟨rfl, rfl⟩))
    (fun os started H enc _ => lifted os started H enc)

/-- No parameter wants a stand-in; the program's own looks are off: what the card asks. -/
theorem plain (f : FuncId) (fn : Func) (hf : Tryd.pinned.checked.prog.funcNamed Rows.expandBackRow.func = some f) (hfn : Tryd.pinned.checked.prog.funcs[f]? = some fn) :
    true = Tryd.pinned.checked.prog.looks [] ∧ ∀ (j : Nat) t, fn.params[j]? = some t → Tryd.pinned.checked.prog.wantsStandIn t = false := by
  obtain rfl : f = 4 := Option.some.inj ((show Tryd.prog.funcNamed Rows.expandBackRow.func = some 4 by kernel_rfl).symm.trans hf) |>.symm
  obtain rfl : fn = Tryd.f4 := (Option.some.inj (Tryd.func4.symm.trans hfn)).symm
  refine ⟨by kernel_rfl, fun j t ht => ?_⟩
  rw [Tryd.params4] at ht
  have hm := Array.mem_of_getElem? ht
  have hm2 : t = 26 := by simpa using hm
  subst hm2
  exact (show Tryd.prog.wantsStandIn 26 = false by kernel_rfl)
/-- THE CARD -/
theorem card : Rows.ExpandBackCardSaid :=
  Claim7.holds_tied_plain_at .later [] _ _ _ _ said (fun _ h => by cases h) (by kernel_rfl) (fun _ h => by cases h) expandBack_row_tie rfl ⟨rfl, rfl⟩ (by kernel_rfl) rfl plain (by kernel_rfl)
end Go.Proofs.YtlideagcmhlkeaaDoor.lawExpandBack
