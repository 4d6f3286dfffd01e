/- ExpandFirst: for every input the law returns true, and each argument reads as before. No condition beside the row's own (the listed package-level variables read as listed; the card ties them to the program's text). -/
import Derived.Test.YtlideagcmhlkeaaDoorRF13
import Derived.Maps.AppendAt
import Derived.BigRegion
import Derived.IntWalk
import Derived.Test.YtlideagcmhlkeaaDoorCards
import Derived.Test.YtlideagcmhlkeaaDoorTie
import Derived.Carry
import Derived.WalkKit
import Derived.ProofKit
import Derived.OpenShut
import Derived.ShutString
import Derived.LaidMore
import Derived.ChangeOld
import Derived.Below
import Derived.Stop.Joined
import Derived.Lib.SmallJoins
import Derived.SevenTiedAt

/- The walk of the law ExpandFirst (chapter 30). -/
namespace Go.Proofs.YtlideagcmhlkeaaDoor
open Go.RowKit Go.Lib
set_option linter.unusedVariables false
set_option linter.unusedSimpArgs false

/-- the two eras, the first of which is wrong -/
structure FirstL (x1 x2 : EV) (n : Int) : Prop where
  ne : n ≠ 0
  err : ∀ R, (exF R x1).2 = n
  bd : ∀ e ∈ [x1, x2], (-9223372036854775808 ≤ e.off ∧ e.off ≤ 9223372036854775807) ∧ (-9223372036854775808 ≤ e.save ∧ e.save ≤ 9223372036854775807) ∧ e.fmt.size ≤ 1000000
theorem firstl_far : FirstL farE kindE 3 := ⟨by decide, ex_far, by decide⟩
theorem firstl_kind : FirstL kindE farE 2 := ⟨by decide, ex_kind, by decide⟩
theorem num2_bd : ∀ e ∈ [num2E, kind2E], (-9223372036854775808 ≤ e.off ∧ e.off ≤ 9223372036854775807) ∧ (-9223372036854775808 ≤ e.save ∧ e.save ≤ 9223372036854775807) ∧ e.fmt.size ≤ 1000000 := by decide
theorem blk_row {W W' : World} {g e b n size : Nat} {t : TypeId} {cs : Array Value} {v : Value} {xs : List Value} (h : Blk W g t cs) (k : W.ownsRow b e size v n xs) (hne : t ≠ e) (hg : W.grownBy W' v.ownBlock) : Blk W' g t cs :=
  (hg.block g h.lt fun q => by
    obtain ⟨cur', hc⟩ := block_of k q.symm
    unfold Blk at h
    rw [h] at hc
    injection hc with hc
    injection hc with _ hc _
    exact hne hc).trans h
theorem nums_first {K LN : Nat} (h : K + 2 = LN) (h4 : K ≤ 4) : (LN : Int) - 2 = (K : Int) ∧ IntKind.i64.wrap (K : Int) = (K : Int) ∧ wrap64 (K : Int) = (K : Int) ∧ (K : Int) < (LN : Int) ∧ (0 : Int) ≤ (K : Int) :=
  ⟨by omega, IntWalk.i64_in _ (by omega), by unfold wrap64; omega, by omega, by omega⟩
theorem nums_first1 {K K1 LN : Nat} (h : K + 2 = LN) (h1 : K + 1 = K1) (h4 : K ≤ 4) : (LN : Int) - 1 = (K1 : Int) ∧ IntKind.i64.wrap (K1 : Int) = (K1 : Int) ∧ wrap64 (K1 : Int) = (K1 : Int) ∧ (K1 : Int) < (LN : Int) ∧ (0 : Int) ≤ (K1 : Int) :=
  ⟨by omega, IntWalk.i64_in _ (by omega), by unfold wrap64; omega, by omega, by omega⟩
theorem gs_drew (W : World) : GS W W.drew := ⟨fun _ _ _ _ h => h, fun _ h => h⟩
theorem whole_far {W : World} {g yg K : Nat} {t : TypeId} {cs : Array Value} (h : Blk W g t cs) (hn : g ≠ yg) (e : EV) : Blk (((((((((((((W.setCell ⟨yg, K * 13, none⟩ (.int .i64 e.off)).setCell ⟨yg, K * 13 + 1, none⟩ (.int .i64 e.kind)).setCell ⟨yg, K * 13 + 2, none⟩ (.int .i64 e.save)).setCell ⟨yg, K * 13 + 3, none⟩ (.string e.set)).setCell ⟨yg, K * 13 + 4, none⟩ (.string e.fmt)).setCell ⟨yg, K * 13 + 5, none⟩ (.bool e.ui)).setCell ⟨yg, K * 13 + 6, none⟩ (.int .i64 e.uy)).setCell ⟨yg, K * 13 + 7, none⟩ (.int .i64 e.um)).setCell ⟨yg, K * 13 + 8, none⟩ (.int .i64 e.dk)).setCell ⟨yg, K * 13 + 9, none⟩ (.int .i64 e.dw)).setCell ⟨yg, K * 13 + 10, none⟩ (.int .i64 e.dd)).setCell ⟨yg, K * 13 + 11, none⟩ (.int .i64 e.asec)).setCell ⟨yg, K * 13 + 12, none⟩ (.int .i64 e.ab)) g t cs :=
  (((((((((((((h.far (p := ⟨yg, K * 13, none⟩) hn _).far (p := ⟨yg, K * 13 + 1, none⟩) hn _).far (p := ⟨yg, K * 13 + 2, none⟩) hn _).far (p := ⟨yg, K * 13 + 3, none⟩) hn _).far (p := ⟨yg, K * 13 + 4, none⟩) hn _).far (p := ⟨yg, K * 13 + 5, none⟩) hn _).far (p := ⟨yg, K * 13 + 6, none⟩) hn _).far (p := ⟨yg, K * 13 + 7, none⟩) hn _).far (p := ⟨yg, K * 13 + 8, none⟩) hn _).far (p := ⟨yg, K * 13 + 9, none⟩) hn _).far (p := ⟨yg, K * 13 + 10, none⟩) hn _).far (p := ⟨yg, K * 13 + 11, none⟩) hn _).far (p := ⟨yg, K * 13 + 12, none⟩) hn _)
theorem whole_below {n : Nat} {w W : World} {yg K : Nat} (h : Below n w W) (hn : n ≤ yg) (e : EV) : Below n w (((((((((((((W.setCell ⟨yg, K * 13, none⟩ (.int .i64 e.off)).setCell ⟨yg, K * 13 + 1, none⟩ (.int .i64 e.kind)).setCell ⟨yg, K * 13 + 2, none⟩ (.int .i64 e.save)).setCell ⟨yg, K * 13 + 3, none⟩ (.string e.set)).setCell ⟨yg, K * 13 + 4, none⟩ (.string e.fmt)).setCell ⟨yg, K * 13 + 5, none⟩ (.bool e.ui)).setCell ⟨yg, K * 13 + 6, none⟩ (.int .i64 e.uy)).setCell ⟨yg, K * 13 + 7, none⟩ (.int .i64 e.um)).setCell ⟨yg, K * 13 + 8, none⟩ (.int .i64 e.dk)).setCell ⟨yg, K * 13 + 9, none⟩ (.int .i64 e.dw)).setCell ⟨yg, K * 13 + 10, none⟩ (.int .i64 e.dd)).setCell ⟨yg, K * 13 + 11, none⟩ (.int .i64 e.asec)).setCell ⟨yg, K * 13 + 12, none⟩ (.int .i64 e.ab)) :=
  (((((((((((((h.setCell (p := ⟨yg, K * 13, none⟩) hn _).setCell (p := ⟨yg, K * 13 + 1, none⟩) hn _).setCell (p := ⟨yg, K * 13 + 2, none⟩) hn _).setCell (p := ⟨yg, K * 13 + 3, none⟩) hn _).setCell (p := ⟨yg, K * 13 + 4, none⟩) hn _).setCell (p := ⟨yg, K * 13 + 5, none⟩) hn _).setCell (p := ⟨yg, K * 13 + 6, none⟩) hn _).setCell (p := ⟨yg, K * 13 + 7, none⟩) hn _).setCell (p := ⟨yg, K * 13 + 8, none⟩) hn _).setCell (p := ⟨yg, K * 13 + 9, none⟩) hn _).setCell (p := ⟨yg, K * 13 + 10, none⟩) hn _).setCell (p := ⟨yg, K * 13 + 11, none⟩) hn _).setCell (p := ⟨yg, K * 13 + 12, none⟩) hn _)
theorem setZone_src (c : SV) (i : Nat) (z : ZV) : (#[.slice (c.setZone i z).rA (c.setZone i z).rules.length (c.setZone i z).rc, .slice (c.setZone i z).zA (c.setZone i z).zones.length (c.setZone i z).zc, .slice (c.setZone i z).kA (c.setZone i z).links.length (c.setZone i z).kc, .slice (c.setZone i z).hA (c.setZone i z).shifts.length (c.setZone i z).hc] : Array Value) = #[.slice c.rA c.rules.length c.rc, .slice c.zA c.zones.length c.zc, .slice c.kA c.links.length c.kc, .slice c.hA c.shifts.length c.hc] := by
  show #[_, Value.slice c.zA (c.zones.set i z).length c.zc, _, _] = _
  rw [List.length_set]
  rfl
set_option maxRecDepth 100000 in
set_option maxHeartbeats 16000000 in
theorem walkExpandFirst (d : D23) (which : Int) (w : World) (hd : D23In w d) (hlt : 0 ≤ which ∧ which ≤ 255) (hvp : Vars21 w ∧ VarsP w) :
    Calls Tryd.prog 6 #[.agg #[.slice d.sA d.sets.length d.sc, .slice d.zA d.zones.length d.zc, .slice d.lA d.links.length d.lc], .int .u8 which] w fun e w' => e = .returned (.bool true) ∧ Below w.heap.size w w' := by
  obtain ⟨hv, hp⟩ := hvp
  have hX := Blk.new w 26 #[.slice d.sA d.sets.length d.sc, .slice d.zA d.zones.length d.zc, .slice d.lA d.links.length d.lc]
  have hb0 := (Below.refl w.heap.size w).alloc (Nat.le_refl _) (.cells #[.slice d.sA d.sets.length d.sc, .slice d.zA d.zones.length d.zc, .slice d.lA d.links.length d.lc] 26)
  have HB := Lib.hid hb0; have HD := Lib.hid hd
  have c0 := (hX.cell 0).trans rfl; have c1 := (hX.cell 1).trans rfl; have c2 := (hX.cell 2).trans rfl
  obtain ⟨LK, hLK, hLK2⟩ : ∃ LK : Nat, which.tmod 2 = (LK : Int) ∧ LK < 2 := ⟨(which.tmod 2).toNat, by rw [Int.tmod_eq_emod_of_nonneg hlt.1]; omega, by rw [Int.tmod_eq_emod_of_nonneg hlt.1]; omega⟩
  clear hX hb0 hd
  go_enter Tryd.func6, Tryd.ntmps6
  go_wp2_with fail
  refine (made23_any d _ (HD.out.below HB.out) (hp.below HB.out)).mono ?_
  rintro e Wt ⟨t, rfl, hG, hg, hc⟩
  have HGD := Lib.hid hg; have HF := Lib.hid hg.few
  have hbt := HB.out.trans (hc.mono HB.out.size)
  have hb1 := hbt.alloc hbt.size (.cells #[.slice t.rA t.rules.length t.rc, .slice t.zA t.zones.length t.zc, .slice t.kA t.links.length t.kc, .slice t.hA t.shifts.length t.hc] 32)
  have hb2 := hb1.alloc hb1.size (.cells #[.int .i64 86400, .int .i64 0, .int .i64 0, .string ⟨#[]⟩, .string ⟨#[37, 122]⟩, .bool false, .int .i64 0, .int .i64 0, .int .i64 0, .int .i64 0, .int .i64 0, .int .i64 0, .int .i64 0] 47)
  have hb3 := hb2.alloc hb2.size (.cells #[.int .i64 0, .int .i64 3, .int .i64 0, .string ⟨#[]⟩, .string ⟨#[37, 122]⟩, .bool false, .int .i64 0, .int .i64 0, .int .i64 0, .int .i64 0, .int .i64 0, .int .i64 0, .int .i64 0] 47)
  have hb4 := hb3.alloc hb3.size (.cells #[.int .i64 86400, .int .i64 0, .int .i64 0, .string ⟨#[]⟩, .string ⟨#[37, 122]⟩, .bool false, .int .i64 0, .int .i64 0, .int .i64 0, .int .i64 0, .int .i64 0, .int .i64 0, .int .i64 0, .int .i64 0, .int .i64 3, .int .i64 0, .string ⟨#[]⟩, .string ⟨#[37, 122]⟩, .bool false, .int .i64 0, .int .i64 0, .int .i64 0, .int .i64 0, .int .i64 0, .int .i64 0, .int .i64 0] 47)
  have hl1 := (Below.refl Wt.heap.size Wt).alloc (Nat.le_refl _) (.cells #[.slice t.rA t.rules.length t.rc, .slice t.zA t.zones.length t.zc, .slice t.kA t.links.length t.kc, .slice t.hA t.shifts.length t.hc] 32)
  have hl2 := hl1.alloc hl1.size (.cells #[.int .i64 86400, .int .i64 0, .int .i64 0, .string ⟨#[]⟩, .string ⟨#[37, 122]⟩, .bool false, .int .i64 0, .int .i64 0, .int .i64 0, .int .i64 0, .int .i64 0, .int .i64 0, .int .i64 0] 47)
  have hl3 := hl2.alloc hl2.size (.cells #[.int .i64 0, .int .i64 3, .int .i64 0, .string ⟨#[]⟩, .string ⟨#[37, 122]⟩, .bool false, .int .i64 0, .int .i64 0, .int .i64 0, .int .i64 0, .int .i64 0, .int .i64 0, .int .i64 0] 47)
  have hl4 := hl3.alloc hl3.size (.cells #[.int .i64 86400, .int .i64 0, .int .i64 0, .string ⟨#[]⟩, .string ⟨#[37, 122]⟩, .bool false, .int .i64 0, .int .i64 0, .int .i64 0, .int .i64 0, .int .i64 0, .int .i64 0, .int .i64 0, .int .i64 0, .int .i64 3, .int .i64 0, .string ⟨#[]⟩, .string ⟨#[37, 122]⟩, .bool false, .int .i64 0, .int .i64 0, .int .i64 0, .int .i64 0, .int .i64 0, .int .i64 0, .int .i64 0] 47)
  have HB4 := Lib.hid hb4; have HG5W := Lib.hid hbt.size
  have HG4 := Lib.hid (hG.below hl4)
  have hx1 := Blk.new Wt 32 #[.slice t.rA t.rules.length t.rc, .slice t.zA t.zones.length t.zc, .slice t.kA t.links.length t.kc, .slice t.hA t.shifts.length t.hc]
  have z1 := (hx1.cell 1).trans rfl
  have hf2 := (Blk.newAt (Wt.alloc (.cells #[.slice t.rA t.rules.length t.rc, .slice t.zA t.zones.length t.zc, .slice t.kA t.links.length t.kc, .slice t.hA t.shifts.length t.hc] 32)) (Wt.heap.size + 1) (by simp) 47 #[.int .i64 86400, .int .i64 0, .int .i64 0, .string ⟨#[]⟩, .string ⟨#[37, 122]⟩, .bool false, .int .i64 0, .int .i64 0, .int .i64 0, .int .i64 0, .int .i64 0, .int .i64 0, .int .i64 0]).alloc (.cells #[.int .i64 0, .int .i64 3, .int .i64 0, .string ⟨#[]⟩, .string ⟨#[37, 122]⟩, .bool false, .int .i64 0, .int .i64 0, .int .i64 0, .int .i64 0, .int .i64 0, .int .i64 0, .int .i64 0] 47)
  have hk2 := Blk.newAt ((Wt.alloc (.cells #[.slice t.rA t.rules.length t.rc, .slice t.zA t.zones.length t.zc, .slice t.kA t.links.length t.kc, .slice t.hA t.shifts.length t.hc] 32)).alloc (.cells #[.int .i64 86400, .int .i64 0, .int .i64 0, .string ⟨#[]⟩, .string ⟨#[37, 122]⟩, .bool false, .int .i64 0, .int .i64 0, .int .i64 0, .int .i64 0, .int .i64 0, .int .i64 0, .int .i64 0] 47)) (Wt.heap.size + 2) (by simp) 47 #[.int .i64 0, .int .i64 3, .int .i64 0, .string ⟨#[]⟩, .string ⟨#[37, 122]⟩, .bool false, .int .i64 0, .int .i64 0, .int .i64 0, .int .i64 0, .int .i64 0, .int .i64 0, .int .i64 0]
  have HX4 := Lib.hid (((hx1.alloc (.cells #[.int .i64 86400, .int .i64 0, .int .i64 0, .string ⟨#[]⟩, .string ⟨#[37, 122]⟩, .bool false, .int .i64 0, .int .i64 0, .int .i64 0, .int .i64 0, .int .i64 0, .int .i64 0, .int .i64 0] 47)).alloc (.cells #[.int .i64 0, .int .i64 3, .int .i64 0, .string ⟨#[]⟩, .string ⟨#[37, 122]⟩, .bool false, .int .i64 0, .int .i64 0, .int .i64 0, .int .i64 0, .int .i64 0, .int .i64 0, .int .i64 0] 47)).alloc (.cells #[.int .i64 86400, .int .i64 0, .int .i64 0, .string ⟨#[]⟩, .string ⟨#[37, 122]⟩, .bool false, .int .i64 0, .int .i64 0, .int .i64 0, .int .i64 0, .int .i64 0, .int .i64 0, .int .i64 0, .int .i64 0, .int .i64 3, .int .i64 0, .string ⟨#[]⟩, .string ⟨#[37, 122]⟩, .bool false, .int .i64 0, .int .i64 0, .int .i64 0, .int .i64 0, .int .i64 0, .int .i64 0, .int .i64 0] 47))
  have HF4 := Lib.hid (hf2.alloc (.cells #[.int .i64 86400, .int .i64 0, .int .i64 0, .string ⟨#[]⟩, .string ⟨#[37, 122]⟩, .bool false, .int .i64 0, .int .i64 0, .int .i64 0, .int .i64 0, .int .i64 0, .int .i64 0, .int .i64 0, .int .i64 0, .int .i64 3, .int .i64 0, .string ⟨#[]⟩, .string ⟨#[37, 122]⟩, .bool false, .int .i64 0, .int .i64 0, .int .i64 0, .int .i64 0, .int .i64 0, .int .i64 0, .int .i64 0] 47))
  have HK4 := Lib.hid (hk2.alloc (.cells #[.int .i64 86400, .int .i64 0, .int .i64 0, .string ⟨#[]⟩, .string ⟨#[37, 122]⟩, .bool false, .int .i64 0, .int .i64 0, .int .i64 0, .int .i64 0, .int .i64 0, .int .i64 0, .int .i64 0, .int .i64 0, .int .i64 3, .int .i64 0, .string ⟨#[]⟩, .string ⟨#[37, 122]⟩, .bool false, .int .i64 0, .int .i64 0, .int .i64 0, .int .i64 0, .int .i64 0, .int .i64 0, .int .i64 0] 47))
  have HL4 := Lib.hid (Blk.newAt (((Wt.alloc (.cells #[.slice t.rA t.rules.length t.rc, .slice t.zA t.zones.length t.zc, .slice t.kA t.links.length t.kc, .slice t.hA t.shifts.length t.hc] 32)).alloc (.cells #[.int .i64 86400, .int .i64 0, .int .i64 0, .string ⟨#[]⟩, .string ⟨#[37, 122]⟩, .bool false, .int .i64 0, .int .i64 0, .int .i64 0, .int .i64 0, .int .i64 0, .int .i64 0, .int .i64 0] 47)).alloc (.cells #[.int .i64 0, .int .i64 3, .int .i64 0, .string ⟨#[]⟩, .string ⟨#[37, 122]⟩, .bool false, .int .i64 0, .int .i64 0, .int .i64 0, .int .i64 0, .int .i64 0, .int .i64 0, .int .i64 0] 47)) (Wt.heap.size + 3) (by simp) 47 #[.int .i64 86400, .int .i64 0, .int .i64 0, .string ⟨#[]⟩, .string ⟨#[37, 122]⟩, .bool false, .int .i64 0, .int .i64 0, .int .i64 0, .int .i64 0, .int .i64 0, .int .i64 0, .int .i64 0, .int .i64 0, .int .i64 3, .int .i64 0, .string ⟨#[]⟩, .string ⟨#[37, 122]⟩, .bool false, .int .i64 0, .int .i64 0, .int .i64 0, .int .i64 0, .int .i64 0, .int .i64 0, .int .i64 0])
  have f0 := (hf2.cell 0).trans rfl
  have f1 := (hf2.cell 1).trans rfl
  have f2 := (hf2.cell 2).trans rfl
  have f3 := (hf2.cell 3).trans rfl
  have f4 := (hf2.cell 4).trans rfl
  have f5 := (hf2.cell 5).trans rfl
  have f6 := (hf2.cell 6).trans rfl
  have f7 := (hf2.cell 7).trans rfl
  have f8 := (hf2.cell 8).trans rfl
  have f9 := (hf2.cell 9).trans rfl
  have f10 := (hf2.cell 10).trans rfl
  have f11 := (hf2.cell 11).trans rfl
  have f12 := (hf2.cell 12).trans rfl
  have k0 := (hk2.cell 0).trans rfl
  have k1 := (hk2.cell 1).trans rfl
  have k2 := (hk2.cell 2).trans rfl
  have k3 := (hk2.cell 3).trans rfl
  have k4 := (hk2.cell 4).trans rfl
  have k5 := (hk2.cell 5).trans rfl
  have k6 := (hk2.cell 6).trans rfl
  have k7 := (hk2.cell 7).trans rfl
  have k8 := (hk2.cell 8).trans rfl
  have k9 := (hk2.cell 9).trans rfl
  have k10 := (hk2.cell 10).trans rfl
  have k11 := (hk2.cell 11).trans rfl
  have k12 := (hk2.cell 12).trans rfl
  have hz1 : ((t.zones.length : Int) == 0) = false := by have := HGD.out.zones.1; rw [beq_eq_false_iff_ne]; omega
  clear c0 c1 c2 HB hG hc hg hbt hb1 hb2 hb3 hb4 hl1 hl2 hl3 hl4 hx1 hf2 hk2
  go_upto_if 28 with fail
  clear z1 hz1 f0 k0 f1 k1 f2 k2 f3 k3 f4 k4 f5 k5 f6 k6 f7 k7 f8 k8 f9 k9 f10 k10 f11 k11 f12 k12
  go_cut [8, 9] (fun s8 s9 wx => ∃ LB x1 x2 n, s8 = .slice (some ⟨LB, 0, none⟩) 2 2 ∧ s9 = .int .i64 n ∧ Hid (FirstL x1 x2 n ∧ Blk wx LB 47 #[.int .i64 x1.off, .int .i64 x1.kind, .int .i64 x1.save, .string x1.set, .string x1.fmt, .bool x1.ui, .int .i64 x1.uy, .int .i64 x1.um, .int .i64 x1.dk, .int .i64 x1.dw, .int .i64 x1.dd, .int .i64 x1.asec, .int .i64 x1.ab, .int .i64 x2.off, .int .i64 x2.kind, .int .i64 x2.save, .string x2.set, .string x2.fmt, .bool x2.ui, .int .i64 x2.uy, .int .i64 x2.um, .int .i64 x2.dk, .int .i64 x2.dw, .int .i64 x2.dd, .int .i64 x2.asec, .int .i64 x2.ab] ∧ Below ((((Wt.alloc (.cells #[.slice t.rA t.rules.length t.rc, .slice t.zA t.zones.length t.zc, .slice t.kA t.links.length t.kc, .slice t.hA t.shifts.length t.hc] 32)).alloc (.cells #[.int .i64 86400, .int .i64 0, .int .i64 0, .string ⟨#[]⟩, .string ⟨#[37, 122]⟩, .bool false, .int .i64 0, .int .i64 0, .int .i64 0, .int .i64 0, .int .i64 0, .int .i64 0, .int .i64 0] 47)).alloc (.cells #[.int .i64 0, .int .i64 3, .int .i64 0, .string ⟨#[]⟩, .string ⟨#[37, 122]⟩, .bool false, .int .i64 0, .int .i64 0, .int .i64 0, .int .i64 0, .int .i64 0, .int .i64 0, .int .i64 0] 47)).alloc (.cells #[.int .i64 86400, .int .i64 0, .int .i64 0, .string ⟨#[]⟩, .string ⟨#[37, 122]⟩, .bool false, .int .i64 0, .int .i64 0, .int .i64 0, .int .i64 0, .int .i64 0, .int .i64 0, .int .i64 0, .int .i64 0, .int .i64 3, .int .i64 0, .string ⟨#[]⟩, .string ⟨#[37, 122]⟩, .bool false, .int .i64 0, .int .i64 0, .int .i64 0, .int .i64 0, .int .i64 0, .int .i64 0, .int .i64 0] 47)).heap.size ((((Wt.alloc (.cells #[.slice t.rA t.rules.length t.rc, .slice t.zA t.zones.length t.zc, .slice t.kA t.links.length t.kc, .slice t.hA t.shifts.length t.hc] 32)).alloc (.cells #[.int .i64 86400, .int .i64 0, .int .i64 0, .string ⟨#[]⟩, .string ⟨#[37, 122]⟩, .bool false, .int .i64 0, .int .i64 0, .int .i64 0, .int .i64 0, .int .i64 0, .int .i64 0, .int .i64 0] 47)).alloc (.cells #[.int .i64 0, .int .i64 3, .int .i64 0, .string ⟨#[]⟩, .string ⟨#[37, 122]⟩, .bool false, .int .i64 0, .int .i64 0, .int .i64 0, .int .i64 0, .int .i64 0, .int .i64 0, .int .i64 0] 47)).alloc (.cells #[.int .i64 86400, .int .i64 0, .int .i64 0, .string ⟨#[]⟩, .string ⟨#[37, 122]⟩, .bool false, .int .i64 0, .int .i64 0, .int .i64 0, .int .i64 0, .int .i64 0, .int .i64 0, .int .i64 0, .int .i64 0, .int .i64 3, .int .i64 0, .string ⟨#[]⟩, .string ⟨#[37, 122]⟩, .bool false, .int .i64 0, .int .i64 0, .int .i64 0, .int .i64 0, .int .i64 0, .int .i64 0, .int .i64 0] 47)) wx))
  case first =>
    by_cases hk1 : LK = 1
    · obtain rfl := hk1
      have f0 := (HF4.out.cell 0).trans rfl
      have f1 := (HF4.out.cell 1).trans rfl
      have f2 := (HF4.out.cell 2).trans rfl
      have f3 := (HF4.out.cell 3).trans rfl
      have f4 := (HF4.out.cell 4).trans rfl
      have f5 := (HF4.out.cell 5).trans rfl
      have f6 := (HF4.out.cell 6).trans rfl
      have f7 := (HF4.out.cell 7).trans rfl
      have f8 := (HF4.out.cell 8).trans rfl
      have f9 := (HF4.out.cell 9).trans rfl
      have f10 := (HF4.out.cell 10).trans rfl
      have f11 := (HF4.out.cell 11).trans rfl
      have f12 := (HF4.out.cell 12).trans rfl
      have k0 := (HK4.out.cell 0).trans rfl
      have k1 := (HK4.out.cell 1).trans rfl
      have k2 := (HK4.out.cell 2).trans rfl
      have k3 := (HK4.out.cell 3).trans rfl
      have k4 := (HK4.out.cell 4).trans rfl
      have k5 := (HK4.out.cell 5).trans rfl
      have k6 := (HK4.out.cell 6).trans rfl
      have k7 := (HK4.out.cell 7).trans rfl
      have k8 := (HK4.out.cell 8).trans rfl
      have k9 := (HK4.out.cell 9).trans rfl
      have k10 := (HK4.out.cell 10).trans rfl
      have k11 := (HK4.out.cell 11).trans rfl
      have k12 := (HK4.out.cell 12).trans rfl
      go_wp2_with fail
      go_meet
      exact ⟨_, kindE, farE, 2, rfl, rfl, Lib.hid ⟨firstl_kind, Blk.newAt _ _ (by simp) _ _, (Below.refl _ _).alloc (Nat.le_refl _) _⟩⟩
    · obtain rfl : LK = 0 := by omega
      go_wp2_with fail
      go_meet
      exact ⟨_, farE, kindE, 3, rfl, rfl, Lib.hid ⟨firstl_far, HL4.out, Below.refl _ _⟩⟩
  case rest =>
    obtain ⟨LB, x1, x2, nw, rfl, rfl, hcx⟩ := hcut
    obtain ⟨V, hV⟩ : ∃ x, x = wc := ⟨_, rfl⟩
    subst hV
    have HFL := Lib.hid hcx.out.1; have HLB := Lib.hid hcx.out.2.1
    have HBV := Lib.hid (HB4.out.trans (hcx.out.2.2.mono HB4.out.size))
    have HXV := Lib.hid (HX4.out.below hcx.out.2.2 HX4.out.lt)
    have HGV := Lib.hid (HG4.out.below hcx.out.2.2)
    clear hcx HB4 HX4 HF4 HK4 HL4 HG4 hLK
    generalize Wt.heap.size = g5 at HXV HG5W ⊢
    have c0 := (HXV.out.cell 0).trans rfl
    have c1 := (HXV.out.cell 1).trans rfl
    have c2 := (HXV.out.cell 2).trans rfl
    have c3 := (HXV.out.cell 3).trans rfl
    go_wp2_with fail
    refine (copy14 t V HGV.out.src HF.out).mono ?_
    rintro e W6 ⟨c, rfl, hC, hc⟩
    have hxv := HXV.out.below hc HXV.out.lt
    have hcl : c.zones.length = t.zones.length := hC.same.zones.1
    have hzl := HGD.out.zones
    obtain ⟨zg, hzA, hzg, _⟩ := hC.zones.1.addr (by omega)
    have q4 := GS.set4 hxv (.slice c.rA c.rules.length c.rc) (.slice (some ⟨zg, 0, none⟩) c.zones.length c.zc) (.slice c.kA c.links.length c.kc) (.slice c.hA c.shifts.length c.hc)
    have HBW := Lib.hid (HBV.out.trans (hc.mono HBV.out.size))
    have hG5 := HXV.out.lt
    have HG5V := Lib.hid hG5
    have HC7 := Lib.hid ((hC.gs q4.1).self)
    have HCS := Lib.hid hC.same
    have HX7 := Lib.hid q4.2
    have HLB7 := Lib.hid (q4.1.far _ _ _ (by decide) (HLB.out.below hc HLB.out.lt))
    have k0 := (hxv.cell 0).trans rfl
    have k1 := (hxv.cell 1).trans rfl
    have k2 := (hxv.cell 2).trans rfl
    have k3 := (hxv.cell 3).trans rfl
    have m0 := hxv.frozen 0; have m1 := hxv.frozen 1; have m2 := hxv.frozen 2; have m3 := hxv.frozen 3
    obtain ⟨n1, hn1⟩ : ∃ n1, c.zones.length = n1 + 1 := ⟨c.zones.length - 1, by omega⟩
    obtain ⟨z, hz⟩ : ∃ z, c.zones[n1]? = some z := ⟨_, List.getElem?_eq_getElem (by omega)⟩
    have HFG := Lib.hid (first_good (R := t.rules) HGD.out hC.same)
    have hz4 := (HFG.out.2.2 z (List.mem_of_getElem? hz)).1
    have HFC := Lib.hid (few_same HF.out hC.same)
    have HRU := Lib.hid hC.same.rules
    have hsub : (c.zones.length : Int) - 1 = (n1 : Int) := by omega
    have hlt1 : (n1 : Int) < (c.zones.length : Int) := by omega
    have hge1 : (0 : Int) ≤ (n1 : Int) := by omega
    have hw1 : wrap64 (n1 : Int) = (n1 : Int) := by unfold wrap64; omega
    have hzr := HC7.out.zones.1
    rw [hzA] at hzr
    have HZR := Lib.hid hzr; have HZA := Lib.hid hzA; have HZ := Lib.hid hz; have HN1 := Lib.hid hn1; have HZG := Lib.hid hzg
    clear hzr
    have HROW := Lib.hid (HC7.out.zones.2.eras n1 z hz)
    have a1 := (HX7.out.cell 1).trans rfl
    clear hcl hzl hn1
    go_upto_region 12 with fail
    have nz := HZR.out.cellAt len_zone hz 1 _ rfl
    have HNEW := Lib.hid (show ∀ j u, (x1.cells ++ x2.cells)[j]? = some u → _ from fun j u hu => blk_cells HLB7.out j u hu)
    have HONE := Lib.hid (show ∀ u ∈ x1.cells ++ x2.cells, u.oneCell' = true from fun u hu => (List.mem_append.1 hu).elim (one_era x1 u) (one_era x2 u))
    have HSZ := Lib.hid (show V.heap.size + 2 ≤ W6.heap.size by have := HC7.out.zones.1; have q := World.ownsRow.lt HZR.out zg rfl; have := hxv.lt; simp at q; omega)
    have hb7 := below_set4 HBW.out (show w.heap.size ≤ g5 from HG5W.out) (.slice c.rA c.rules.length c.rc) (.slice (some ⟨zg, 0, none⟩) c.zones.length c.zc) (.slice c.kA c.links.length c.kc) (.slice c.hA c.shifts.length c.hc)
    have HB7 := Lib.hid hb7
    obtain ⟨i1, hi1, hi0, hi2, hi3⟩ := info_parts infoEra
    clear hC hc hxv q4 hb7 hzA hzg HBW hz
    have hsz7 : V.heap.size + 2 ≤ W6.heap.size := HSZ.out
    go_wp2_with (at_builtin; go_loud (refine wpList_append_own_at _ rfl _ _ 37 rfl (V.heap.size + 2) 47 i1 _ 13 120 Tryd.underlying37 hi1 hi0 hi2 hi3 rfl (by decide) _ _ _ rfl HROW.out ⟨LB, 0, none⟩ 2 2 (x1.cells ++ x2.cells) rfl rfl HNEW.out HONE.out (by simp only [maxLen]; omega) (by omega) (by simpa using HSZ.out) ?_))
    intro v1 W8 hown hgr hne hat
    obtain ⟨A', c', rfl⟩ := row_is hown
    have HR8 := Lib.hid (show RowOf W8 (V.heap.size + 2) 47 13 EV.cells A' c' (z.eras ++ [x1, x2]) from by
      unfold RowOf
      rw [List.length_append, List.flatMap_append]
      have q : ([x1, x2] : List EV).flatMap EV.cells = x1.cells ++ x2.cells := by simp
      rw [q]
      exact hown)
    have hzr8 := row_other HZR.out HROW.out (by decide) hgr
    have hcg := HC7.out.grow HZ.out HR8.out hgr (by simpa using hat) HZA.out
    obtain ⟨s', hs'⟩ : ∃ s', c.setZone n1 ⟨z.name, A', c', z.eras ++ [x1, x2]⟩ = s' := ⟨_, rfl⟩
    rw [hs', show (z.eras ++ [x1, x2]).length = z.eras.length + 2 from by simp] at hcg
    have HCG := Lib.hid hcg
    have HXS : Hid (Blk (W8.setCell ⟨zg, n1 * 2 + 1, none⟩ (.slice A' (z.eras.length + 2) c')) g5 32 #[.slice s'.rA s'.rules.length s'.rc, .slice s'.zA s'.zones.length s'.zc, .slice s'.kA s'.links.length s'.kc, .slice s'.hA s'.shifts.length s'.hc]) := Lib.hid (by rw [← hs', setZone_src, HZA.out]; exact blk_set_other (blk_row HX7.out HROW.out (by decide) hgr) hzr8 rfl (by decide) _)
    have nz8 := RowOf.cellAt hzr8 len_zone HZ.out 1 _ rfl
    have fz8 := RowOf.frozenAt hzr8 (n1 * 2 + 1)
    have hwv := HBV.out.size
    have HB9 := Lib.hid ((HB7.out.grown hgr HB7.out.size (fun K hK => by have q := World.ownsRow.lt HROW.out K hK; omega)).setCell (p := ⟨zg, n1 * 2 + 1, none⟩) (by show w.heap.size ≤ zg; have := HZG.out; omega) (.slice A' (z.eras.length + 2) c'))
    have HRS := Lib.hid (show s'.rules = t.rules by rw [← hs']; exact HRU.out)
    have HFW := Lib.hid (show Few30 s' by rw [← hs']; exact first_few HFC.out HZ.out hz4 (Nat.le_refl 2) HFL.out.bd)
    have HER := Lib.hid (show ErrIs (exF s'.rules) s'.zones nw by
      rw [HRS.out, ← hs']
      have q := first_err (F := exF t.rules) HZ.out HFG.out.1 (nm := z.name) (A := A') (k := c') (x := x1) (l := [x2]) (by rw [HFL.out.err]; exact HFL.out.ne)
      rw [HFL.out.err] at q
      exact q)
    have HZS := Lib.hid (show s'.zones[n1]? = some ⟨z.name, A', c', z.eras ++ [x1, x2]⟩ by
      rw [← hs']
      show (c.zones.set n1 _)[n1]? = _
      rw [List.getElem?_set_self (List.getElem?_eq_some_iff.1 HZ.out).1])
    have HSS := Lib.hid hs'
    have cX := Lib.hid (expand_any s' _ HCG.out.src HFW.out)
    have y0 := (HXS.out.cell 0).trans rfl; have y1 := (HXS.out.cell 1).trans rfl; have y2 := (HXS.out.cell 2).trans rfl; have y3 := (HXS.out.cell 3).trans rfl
    clear hown hgr hne hat hcg hzr8 hs' a1 nz
    go_wp2_with fail
    refine cX.out.mono ?_
    rintro e W10 ⟨a, na, rfl, hGa, hR, hc⟩
    obtain rfl : na = nw := hR.err.uniq HER.out
    have al := (Below.refl W10.heap.size W10).alloc (Nat.le_refl _) (.cells #[.slice a.rA a.rules.length a.rc, .slice a.zA a.zones.length a.zc, .slice a.kA a.links.length a.kc, .slice a.hA a.shifts.length a.hc] 32)
    have HNO := Lib.hid (hR.no HFL.out.ne)
    have HX10 := Lib.hid ((HXS.out.below hc HXS.out.lt).below al (HXS.out.below hc HXS.out.lt).lt)
    have HC10 := Lib.hid ((HCG.out.below hc).below al)
    have HB10 := Lib.hid ((HB9.out.trans (hc.mono HB9.out.size)).trans (al.mono (HB9.out.trans (hc.mono HB9.out.size)).size))
    have hxa := Blk.new W10 32 #[.slice a.rA a.rules.length a.rc, .slice a.zA a.zones.length a.zc, .slice a.kA a.links.length a.kc, .slice a.hA a.shifts.length a.hc]
    have cS := Lib.hid (same_call30 HNO.out (big_nil HNO.out) _ (hGa.below al).src (nilS_in _))
    have a0 := (hxa.cell 0).trans rfl; have a1 := (hxa.cell 1).trans rfl; have a2 := (hxa.cell 2).trans rfl; have a3 := (hxa.cell 3).trans rfl
    have hnn : (na != na) = false := by simp
    clear y0 y1 y2 y3 nz8 fz8 hGa hR hc al hxa HER HCG HXS HB9 HB7
    go_wp2_with fail
    refine cS.out.mono ?_
    rintro e W11 ⟨rfl, hc⟩
    have HX11 := Lib.hid (HX10.out.below hc HX10.out.lt)
    have HC11 := Lib.hid (HC10.out.below hc)
    have HB11 := Lib.hid (HB10.out.trans (hc.mono HB10.out.size))
    clear a0 a1 a2 a3 hnn hc HX10 HC10 HB10
    go_upto_region 17 with fail
    have hzr := HC11.out.zones.1
    rw [show s'.zA = some ⟨zg, 0, none⟩ by rw [← HSS.out]; exact HZA.out] at hzr
    have nz := RowOf.cellAt hzr len_zone HZS.out 1 _ rfl
    obtain ⟨yg, hyA, hyg, hyl⟩ := HC11.out.eraAddr HZS.out (by simp)
    have hyA' : A' = some ⟨yg, 0, none⟩ := hyA
    subst hyA'
    have hyA0 : (⟨z.name, some ⟨yg, 0, none⟩, c', z.eras ++ [x1, x2]⟩ : ZV).A = some ⟨yg, 0, none⟩ := rfl
    have HGY := Lib.hid (show g5 ≠ yg by have := HG5V.out; omega)
    have HWY := Lib.hid (show w.heap.size ≤ yg by omega)
    have her : RowOf W11 (V.heap.size + 2) 47 13 EV.cells (some ⟨yg, 0, none⟩) c' (z.eras ++ [x1, x2]) := HC11.out.zones.2.eras n1 _ HZS.out
    have hk1 : (z.eras ++ [x1, x2])[z.eras.length]? = some x1 := by simp
    obtain ⟨K, hK⟩ : ∃ K, z.eras.length = K := ⟨_, rfl⟩
    obtain ⟨LN, hLN⟩ : ∃ LN, (z.eras ++ [x1, x2]).length = LN := ⟨_, rfl⟩
    have hKL : K + 2 = LN := by rw [← hLN, ← hK]; simp
    rw [hLN] at nz
    rw [hK] at hk1
    have hkn := nums_first (K := K) (LN := LN) hKL (by rw [← hK]; exact hz4)
    obtain ⟨hs2, hw2, hw2', hkl, hkg⟩ := hkn
    have t0 : W11.cell? ⟨yg, K * 13, none⟩ = some (.int .i64 x1.off) := her.cellAt len_era hk1 0 _ rfl
    have t1 := her.cellAt len_era hk1 1 _ rfl; have t2 := her.cellAt len_era hk1 2 _ rfl; have t3 := her.cellAt len_era hk1 3 _ rfl; have t4 := her.cellAt len_era hk1 4 _ rfl; have t5 := her.cellAt len_era hk1 5 _ rfl; have t6 := her.cellAt len_era hk1 6 _ rfl; have t7 := her.cellAt len_era hk1 7 _ rfl; have t8 := her.cellAt len_era hk1 8 _ rfl; have t9 := her.cellAt len_era hk1 9 _ rfl; have t10 := her.cellAt len_era hk1 10 _ rfl; have t11 := her.cellAt len_era hk1 11 _ rfl; have t12 := her.cellAt len_era hk1 12 _ rfl
    have v0 : W11.frozen? ⟨yg, K * 13, none⟩ = false := her.frozenAt _
    have v1 := her.frozenAt (K * 13 + 1); have v2 := her.frozenAt (K * 13 + 2); have v3 := her.frozenAt (K * 13 + 3); have v4 := her.frozenAt (K * 13 + 4); have v5 := her.frozenAt (K * 13 + 5); have v6 := her.frozenAt (K * 13 + 6); have v7 := her.frozenAt (K * 13 + 7); have v8 := her.frozenAt (K * 13 + 8); have v9 := her.frozenAt (K * 13 + 9); have v10 := her.frozenAt (K * 13 + 10); have v11 := her.frozenAt (K * 13 + 11); have v12 := her.frozenAt (K * 13 + 12)
    have HKL := Lib.hid hKL; have HLN := Lib.hid hLN; have HK := Lib.hid hK; have HER := Lib.hid her; have HNZ := Lib.hid nz; have HKX := Lib.hid hk1
    clear hKL hLN hK her hzr hk1 hyA
    go_region
    have hc12 := HC11.out.setWhole HZS.out hyA0 HKX.out num2E
    have HC12 : Hid (CopyOf (((((((((((((W11.setCell ⟨yg, K * 13, none⟩ (.int .i64 3600)).setCell ⟨yg, K * 13 + 1, none⟩ (.int .i64 0)).setCell ⟨yg, K * 13 + 2, none⟩ (.int .i64 0)).setCell ⟨yg, K * 13 + 3, none⟩ (.string ⟨#[]⟩)).setCell ⟨yg, K * 13 + 4, none⟩ (.string ⟨#[43, 48, 50]⟩)).setCell ⟨yg, K * 13 + 5, none⟩ (.bool false)).setCell ⟨yg, K * 13 + 6, none⟩ (.int .i64 0)).setCell ⟨yg, K * 13 + 7, none⟩ (.int .i64 0)).setCell ⟨yg, K * 13 + 8, none⟩ (.int .i64 0)).setCell ⟨yg, K * 13 + 9, none⟩ (.int .i64 0)).setCell ⟨yg, K * 13 + 10, none⟩ (.int .i64 0)).setCell ⟨yg, K * 13 + 11, none⟩ (.int .i64 0)).setCell ⟨yg, K * 13 + 12, none⟩ (.int .i64 0)).drew (V.heap.size + 2) _ _) := Lib.hid (hc12.gs (gs_drew _))
    have HX12 : Hid (Blk (((((((((((((W11.setCell ⟨yg, K * 13, none⟩ (.int .i64 3600)).setCell ⟨yg, K * 13 + 1, none⟩ (.int .i64 0)).setCell ⟨yg, K * 13 + 2, none⟩ (.int .i64 0)).setCell ⟨yg, K * 13 + 3, none⟩ (.string ⟨#[]⟩)).setCell ⟨yg, K * 13 + 4, none⟩ (.string ⟨#[43, 48, 50]⟩)).setCell ⟨yg, K * 13 + 5, none⟩ (.bool false)).setCell ⟨yg, K * 13 + 6, none⟩ (.int .i64 0)).setCell ⟨yg, K * 13 + 7, none⟩ (.int .i64 0)).setCell ⟨yg, K * 13 + 8, none⟩ (.int .i64 0)).setCell ⟨yg, K * 13 + 9, none⟩ (.int .i64 0)).setCell ⟨yg, K * 13 + 10, none⟩ (.int .i64 0)).setCell ⟨yg, K * 13 + 11, none⟩ (.int .i64 0)).setCell ⟨yg, K * 13 + 12, none⟩ (.int .i64 0)).drew g5 32 #[.slice s'.rA s'.rules.length s'.rc, .slice s'.zA s'.zones.length s'.zc, .slice s'.kA s'.links.length s'.kc, .slice s'.hA s'.shifts.length s'.hc]) := Lib.hid (blk_drew1 (whole_far HX11.out HGY.out num2E))
    have HB12 : Hid (Below w.heap.size w (((((((((((((W11.setCell ⟨yg, K * 13, none⟩ (.int .i64 3600)).setCell ⟨yg, K * 13 + 1, none⟩ (.int .i64 0)).setCell ⟨yg, K * 13 + 2, none⟩ (.int .i64 0)).setCell ⟨yg, K * 13 + 3, none⟩ (.string ⟨#[]⟩)).setCell ⟨yg, K * 13 + 4, none⟩ (.string ⟨#[43, 48, 50]⟩)).setCell ⟨yg, K * 13 + 5, none⟩ (.bool false)).setCell ⟨yg, K * 13 + 6, none⟩ (.int .i64 0)).setCell ⟨yg, K * 13 + 7, none⟩ (.int .i64 0)).setCell ⟨yg, K * 13 + 8, none⟩ (.int .i64 0)).setCell ⟨yg, K * 13 + 9, none⟩ (.int .i64 0)).setCell ⟨yg, K * 13 + 10, none⟩ (.int .i64 0)).setCell ⟨yg, K * 13 + 11, none⟩ (.int .i64 0)).setCell ⟨yg, K * 13 + 12, none⟩ (.int .i64 0)).drew) := Lib.hid (whole_below HB11.out HWY.out num2E).drew
    clear hc12 nz t0 v0 t1 v1 t2 v2 t3 v3 t4 v4 t5 v5 t6 v6 t7 v7 t8 v8 t9 v9 t10 v10 t11 v11 t12 v12 hs2 hw2 hw2' hkl hkg
    obtain ⟨W12, hW12⟩ : ∃ x, x = (((((((((((((W11.setCell ⟨yg, K * 13, none⟩ (.int .i64 3600)).setCell ⟨yg, K * 13 + 1, none⟩ (.int .i64 0)).setCell ⟨yg, K * 13 + 2, none⟩ (.int .i64 0)).setCell ⟨yg, K * 13 + 3, none⟩ (.string ⟨#[]⟩)).setCell ⟨yg, K * 13 + 4, none⟩ (.string ⟨#[43, 48, 50]⟩)).setCell ⟨yg, K * 13 + 5, none⟩ (.bool false)).setCell ⟨yg, K * 13 + 6, none⟩ (.int .i64 0)).setCell ⟨yg, K * 13 + 7, none⟩ (.int .i64 0)).setCell ⟨yg, K * 13 + 8, none⟩ (.int .i64 0)).setCell ⟨yg, K * 13 + 9, none⟩ (.int .i64 0)).setCell ⟨yg, K * 13 + 10, none⟩ (.int .i64 0)).setCell ⟨yg, K * 13 + 11, none⟩ (.int .i64 0)).setCell ⟨yg, K * 13 + 12, none⟩ (.int .i64 0)).drew := ⟨_, rfl⟩
    rw [← hW12] at HC12 HX12 HB12 ⊢
    clear hW12
    have HZ2 := Lib.hid (SV.setEra_at (k := K) (e := num2E) HZS.out)
    have hzr := HC12.out.zones.1
    rw [show (s'.setEra n1 ⟨z.name, some ⟨yg, 0, none⟩, c', z.eras ++ [x1, x2]⟩ K num2E).zA = some ⟨zg, 0, none⟩ by rw [← HSS.out]; exact HZA.out] at hzr
    have nz := RowOf.cellAt hzr len_zone HZ2.out 1 _ rfl
    have hln2 : ((z.eras ++ [x1, x2]).set K num2E).length = LN := by rw [List.length_set]; exact HLN.out
    rw [hln2] at nz
    have her : RowOf W12 (V.heap.size + 2) 47 13 EV.cells (some ⟨yg, 0, none⟩) c' ((z.eras ++ [x1, x2]).set K num2E) := HC12.out.zones.2.eras n1 _ HZ2.out
    obtain ⟨K1, hK1⟩ : ∃ K1, K + 1 = K1 := ⟨_, rfl⟩
    have hk1 : ((z.eras ++ [x1, x2]).set K num2E)[K1]? = some x2 := by
      rw [List.getElem?_set_ne (by omega), ← hK1, ← HK.out, List.getElem?_append_right (by omega)]
      simp
    obtain ⟨hs2, hw2, hw2', hkl, hkg⟩ := nums_first1 (K := K) (K1 := K1) (LN := LN) HKL.out hK1 (by rw [← HK.out]; exact hz4)
    have t0 : W12.cell? ⟨yg, K1 * 13, none⟩ = some (.int .i64 x2.off) := her.cellAt len_era hk1 0 _ rfl
    have t1 := her.cellAt len_era hk1 1 _ rfl; have t2 := her.cellAt len_era hk1 2 _ rfl; have t3 := her.cellAt len_era hk1 3 _ rfl; have t4 := her.cellAt len_era hk1 4 _ rfl; have t5 := her.cellAt len_era hk1 5 _ rfl; have t6 := her.cellAt len_era hk1 6 _ rfl; have t7 := her.cellAt len_era hk1 7 _ rfl; have t8 := her.cellAt len_era hk1 8 _ rfl; have t9 := her.cellAt len_era hk1 9 _ rfl; have t10 := her.cellAt len_era hk1 10 _ rfl; have t11 := her.cellAt len_era hk1 11 _ rfl; have t12 := her.cellAt len_era hk1 12 _ rfl
    have v0 : W12.frozen? ⟨yg, K1 * 13, none⟩ = false := her.frozenAt _
    have v1 := her.frozenAt (K1 * 13 + 1); have v2 := her.frozenAt (K1 * 13 + 2); have v3 := her.frozenAt (K1 * 13 + 3); have v4 := her.frozenAt (K1 * 13 + 4); have v5 := her.frozenAt (K1 * 13 + 5); have v6 := her.frozenAt (K1 * 13 + 6); have v7 := her.frozenAt (K1 * 13 + 7); have v8 := her.frozenAt (K1 * 13 + 8); have v9 := her.frozenAt (K1 * 13 + 9); have v10 := her.frozenAt (K1 * 13 + 10); have v11 := her.frozenAt (K1 * 13 + 11); have v12 := her.frozenAt (K1 * 13 + 12)
    have HK1 := Lib.hid hK1; have HKX2 := Lib.hid hk1
    clear hln2 her hzr hK1 hk1
    go_upto_region 18 with fail
    go_region
    have hc13 := HC12.out.setWhole HZ2.out hyA0 HKX2.out kind2E
    have HC13 : Hid (CopyOf (((((((((((((W12.setCell ⟨yg, K1 * 13, none⟩ (.int .i64 0)).setCell ⟨yg, K1 * 13 + 1, none⟩ (.int .i64 3)).setCell ⟨yg, K1 * 13 + 2, none⟩ (.int .i64 0)).setCell ⟨yg, K1 * 13 + 3, none⟩ (.string ⟨#[]⟩)).setCell ⟨yg, K1 * 13 + 4, none⟩ (.string ⟨#[43, 48, 50]⟩)).setCell ⟨yg, K1 * 13 + 5, none⟩ (.bool false)).setCell ⟨yg, K1 * 13 + 6, none⟩ (.int .i64 0)).setCell ⟨yg, K1 * 13 + 7, none⟩ (.int .i64 0)).setCell ⟨yg, K1 * 13 + 8, none⟩ (.int .i64 0)).setCell ⟨yg, K1 * 13 + 9, none⟩ (.int .i64 0)).setCell ⟨yg, K1 * 13 + 10, none⟩ (.int .i64 0)).setCell ⟨yg, K1 * 13 + 11, none⟩ (.int .i64 0)).setCell ⟨yg, K1 * 13 + 12, none⟩ (.int .i64 0)).drew (V.heap.size + 2) _ _) := Lib.hid (hc13.gs (gs_drew _))
    have HX13 : Hid (Blk (((((((((((((W12.setCell ⟨yg, K1 * 13, none⟩ (.int .i64 0)).setCell ⟨yg, K1 * 13 + 1, none⟩ (.int .i64 3)).setCell ⟨yg, K1 * 13 + 2, none⟩ (.int .i64 0)).setCell ⟨yg, K1 * 13 + 3, none⟩ (.string ⟨#[]⟩)).setCell ⟨yg, K1 * 13 + 4, none⟩ (.string ⟨#[43, 48, 50]⟩)).setCell ⟨yg, K1 * 13 + 5, none⟩ (.bool false)).setCell ⟨yg, K1 * 13 + 6, none⟩ (.int .i64 0)).setCell ⟨yg, K1 * 13 + 7, none⟩ (.int .i64 0)).setCell ⟨yg, K1 * 13 + 8, none⟩ (.int .i64 0)).setCell ⟨yg, K1 * 13 + 9, none⟩ (.int .i64 0)).setCell ⟨yg, K1 * 13 + 10, none⟩ (.int .i64 0)).setCell ⟨yg, K1 * 13 + 11, none⟩ (.int .i64 0)).setCell ⟨yg, K1 * 13 + 12, none⟩ (.int .i64 0)).drew g5 32 #[.slice s'.rA s'.rules.length s'.rc, .slice s'.zA s'.zones.length s'.zc, .slice s'.kA s'.links.length s'.kc, .slice s'.hA s'.shifts.length s'.hc]) := Lib.hid (blk_drew1 (whole_far HX12.out HGY.out kind2E))
    have HB13 : Hid (Below w.heap.size w (((((((((((((W12.setCell ⟨yg, K1 * 13, none⟩ (.int .i64 0)).setCell ⟨yg, K1 * 13 + 1, none⟩ (.int .i64 3)).setCell ⟨yg, K1 * 13 + 2, none⟩ (.int .i64 0)).setCell ⟨yg, K1 * 13 + 3, none⟩ (.string ⟨#[]⟩)).setCell ⟨yg, K1 * 13 + 4, none⟩ (.string ⟨#[43, 48, 50]⟩)).setCell ⟨yg, K1 * 13 + 5, none⟩ (.bool false)).setCell ⟨yg, K1 * 13 + 6, none⟩ (.int .i64 0)).setCell ⟨yg, K1 * 13 + 7, none⟩ (.int .i64 0)).setCell ⟨yg, K1 * 13 + 8, none⟩ (.int .i64 0)).setCell ⟨yg, K1 * 13 + 9, none⟩ (.int .i64 0)).setCell ⟨yg, K1 * 13 + 10, none⟩ (.int .i64 0)).setCell ⟨yg, K1 * 13 + 11, none⟩ (.int .i64 0)).setCell ⟨yg, K1 * 13 + 12, none⟩ (.int .i64 0)).drew) := Lib.hid (whole_below HB12.out HWY.out kind2E).drew
    clear hc13 nz t0 v0 t1 v1 t2 v2 t3 v3 t4 v4 t5 v5 t6 v6 t7 v7 t8 v8 t9 v9 t10 v10 t11 v11 t12 v12 hs2 hw2 hw2' hkl hkg HC12 HX12 HB12
    obtain ⟨W13, hW13⟩ : ∃ x, x = (((((((((((((W12.setCell ⟨yg, K1 * 13, none⟩ (.int .i64 0)).setCell ⟨yg, K1 * 13 + 1, none⟩ (.int .i64 3)).setCell ⟨yg, K1 * 13 + 2, none⟩ (.int .i64 0)).setCell ⟨yg, K1 * 13 + 3, none⟩ (.string ⟨#[]⟩)).setCell ⟨yg, K1 * 13 + 4, none⟩ (.string ⟨#[43, 48, 50]⟩)).setCell ⟨yg, K1 * 13 + 5, none⟩ (.bool false)).setCell ⟨yg, K1 * 13 + 6, none⟩ (.int .i64 0)).setCell ⟨yg, K1 * 13 + 7, none⟩ (.int .i64 0)).setCell ⟨yg, K1 * 13 + 8, none⟩ (.int .i64 0)).setCell ⟨yg, K1 * 13 + 9, none⟩ (.int .i64 0)).setCell ⟨yg, K1 * 13 + 10, none⟩ (.int .i64 0)).setCell ⟨yg, K1 * 13 + 11, none⟩ (.int .i64 0)).setCell ⟨yg, K1 * 13 + 12, none⟩ (.int .i64 0)).drew := ⟨_, rfl⟩
    rw [← hW13] at HC13 HX13 HB13 ⊢
    clear hW13
    obtain ⟨s3, hs3⟩ : ∃ s3, c.setZone n1 ⟨z.name, some ⟨yg, 0, none⟩, c', z.eras ++ [num2E, kind2E]⟩ = s3 := ⟨_, rfl⟩
    have HC3 : Hid (CopyOf W13 (V.heap.size + 2) s3 s3) := Lib.hid (by
      have q := HC13.out
      have e := first_two c HZ.out z.name (some ⟨yg, 0, none⟩) c' x1 x2 num2E kind2E
      rw [HK.out, HK1.out, HSS.out] at e
      rw [← hs3, ← e]
      exact q)
    have HX3 : Hid (Blk W13 g5 32 #[.slice s3.rA s3.rules.length s3.rc, .slice s3.zA s3.zones.length s3.zc, .slice s3.kA s3.links.length s3.kc, .slice s3.hA s3.shifts.length s3.hc]) := Lib.hid (by
      have q := HX13.out
      rw [← HSS.out, setZone_src] at q
      rw [← hs3, setZone_src]
      exact q)
    have HRS3 := Lib.hid (show s3.rules = t.rules by rw [← hs3]; exact HRU.out)
    have HFW3 := Lib.hid (show Few30 s3 by rw [← hs3]; exact first_few HFC.out HZ.out hz4 (Nat.le_refl 2) num2_bd)
    have HER3 := Lib.hid (show ErrIs (coF s3.rules) s3.zones 15 by
      rw [HRS3.out, ← hs3]
      have q := first_err (F := coF t.rules) HZ.out HFG.out.2.1 (nm := z.name) (A := some ⟨yg, 0, none⟩) (k := c') (x := num2E) (l := [kind2E]) (by rw [co_num2]; decide)
      rw [co_num2] at q
      exact q)
    have cX := Lib.hid (contract_any s3 W13 HC3.out.src HFW3.out (hv.below HB13.out))
    have y0 := (HX3.out.cell 0).trans rfl
    have y1 := (HX3.out.cell 1).trans rfl
    have y2 := (HX3.out.cell 2).trans rfl
    have y3 := (HX3.out.cell 3).trans rfl
    clear hs3 HC13 HX13
    go_wp2_with fail
    refine cX.out.mono ?_
    rintro e W14 ⟨b, nb, rfl, hGb, hR, hc⟩
    obtain rfl : nb = 15 := hR.err.uniq HER3.out
    have al := (Below.refl W14.heap.size W14).alloc (Nat.le_refl _) (.cells #[.slice b.rA b.rules.length b.rc, .slice b.zA b.zones.length b.zc, .slice b.kA b.links.length b.kc, .slice b.hA b.shifts.length b.hc] 32)
    have HNO := Lib.hid (hR.no (by decide))
    have HB14 := Lib.hid ((HB13.out.trans (hc.mono HB13.out.size)).trans (al.mono (HB13.out.trans (hc.mono HB13.out.size)).size))
    have hxa := Blk.new W14 32 #[.slice b.rA b.rules.length b.rc, .slice b.zA b.zones.length b.zc, .slice b.kA b.links.length b.kc, .slice b.hA b.shifts.length b.hc]
    have cS := Lib.hid (same_call30 HNO.out (big_nil HNO.out) _ (hGb.below al).src (nilS_in _))
    have a0 := (hxa.cell 0).trans rfl; have a1 := (hxa.cell 1).trans rfl; have a2 := (hxa.cell 2).trans rfl; have a3 := (hxa.cell 3).trans rfl
    clear y0 y1 y2 y3 hGb hR hc al hxa HER3 HC3 HX3 HB13
    go_wp2_with fail
    refine cS.out.mono ?_
    rintro e W15 ⟨rfl, hc⟩
    have HB15 := Lib.hid (HB14.out.trans (hc.mono HB14.out.size))
    clear a0 a1 a2 a3 hc cS HB14
    go_wp2_with fail
    refine (works30_any _ (hv.below HB15.out)).mono ?_
    rintro e W16 ⟨rfl, hc⟩
    have HB16 := Lib.hid (HB15.out.trans (hc.mono HB15.out.size))
    clear hc
    go_wp2_with fail
    go_ret
    exact ⟨rfl, HB16.out⟩
end Go.Proofs.YtlideagcmhlkeaaDoor

/- ExpandFirst: for every input the law returns true, and each argument reads as before. No condition beside the row's own (the listed package-level variables read as listed; the card ties them to the program's text). -/
namespace Go.Proofs.YtlideagcmhlkeaaDoor.lawExpandFirst
open Go.ChangeShapes Go.WideShapes Go.ChangeAt Go.RowKit Go.Joins
open Go.ChangeMaps (open_string shut_string)
set_option linter.unusedVariables false

theorem laidOut : laidOutB Tryd.prog = true := by kernel_rfl
theorem own : ownKnob Tryd.prog.godebug = none := by kernel_rfl
theorem door_met (os : Os) (args : Array Value) : laidMetH Tryd.prog Rows.expandFirstRow.laid ((World.doorLaid Tryd.prog 400 os).forCall (fun _ _ => 0) ⟨#[], args, []⟩).memory :=
  laidMetH_of_parts3 (fuel := 8) (laidMet_of_run' 8 (by kernel_rfl) (by kernel_rfl)) (by kernel_rfl) (by kernel_rfl)
set_option maxRecDepth 100000 in
theorem lifted (os : Os) (started : os.Started) (H : Type) (enc : TypeId × Value → H) :
    ReturnsInHanded {} Tryd.checked os 6 .any (fun w args => (Rows.expandFirstSpec.pre enc Tryd.prog Tryd.f6 [] false w args ∧ laidMetH Tryd.prog Rows.expandFirstRow.laid w) ∧ sizedMet enc Tryd.prog Tryd.f6 (OpenSpec.ofChange Rows.expandFirstSpec) false w args)
      (Rows.expandFirstSpec.post enc Tryd.prog Tryd.f6 false true false false) := by
  refine handed_shaped (C := Tryd.checked) (X := fun w _ => laidMetH Tryd.prog Rows.expandFirstRow.laid w) (fun _ _ _ hh h => h.of_heap hh) own started (by kernel_rfl) Tryd.func6
    (ChangeSpec.witness_shaped (enc := enc) (C := Tryd.checked) (os := os) (X := fun w _ => laidMetH Tryd.prog Rows.expandFirstRow.laid w) false (World.doorLaid Tryd.prog 400 os) #[.agg #[.slice none 0 0, .slice none 0 0, .slice none 0 0], .int .u8 0] 8 rfl (World.shaped_of_RefB (by kernel_rfl) (by kernel_rfl)) (by kernel_rfl) (by kernel_rfl) (by kernel_rfl) (door_met os _)) ?_
  intro W base args ds gs before hval0 hW _ _ hL hsh _
  have hval : ∀ (j : Nat) t v, Tryd.f6.params[j]? = some t → args[j]? = some v → Value.okWide Tryd.prog W .any base t v := hval0
  have hW' := hW
  obtain ⟨p, q, hA0, hV, rfl, hfz, hnd⟩ := hW
  have hA : DataW.TrodAll enc Tryd.prog W 0 (fun _ => true) true Tryd.f6.params.toList args.toList ds p := hA0
  rw [Tryd.params6] at hA hval
  obtain ⟨v0, vs0, d0, ds0, p0, q0, hargs, rfl, rfl, h0, r0⟩ := trodAll_cons hA
  obtain ⟨v1, vs1, d1, ds1, p1, q1, rfl, rfl, rfl, h1, r1⟩ := trodAll_cons r0
  obtain ⟨rfl, rfl, rfl⟩ := trodAll_nil r1
  obtain rfl : args = #[v0, v1] := by cases args; simp_all
  obtain ⟨rfl, rfl⟩ := trodVars_none hV
  have h0k := h0
  have h1k := h1
  have hlt : ∀ x ∈ (p0 ++ (p1 ++ [])) ++ [], x.block < W.heap.size := fun x hx => by simpa using hW'.lt x hx
  have hvars := vars23_of_laid (show laidMet Tryd.prog Rows.expandFirstRow.laid W from hL) hsh
  have hk0 : ∀ W', Below W.heap.size W W' → DataW.Trod enc Tryd.prog W' 0 (fun b => decide (b < W.heap.size)) true 26 v0 d0 p0 := fun W' bel => Below.trod laidOut (by kernel_rfl) (of_decide_eq_true (by kernel_rfl)) h0k bel (fun x hx => hlt x (by simp [hx]))
  have hk1 : ∀ W', Below W.heap.size W W' → DataW.Trod enc Tryd.prog W' 0 (fun b => decide (b < W.heap.size)) true 5 v1 d1 p1 := fun W' bel => Below.trod laidOut (by kernel_rfl) (of_decide_eq_true (by kernel_rfl)) h1k bel (fun x hx => hlt x (by simp [hx]))
  obtain ⟨⟨l0⟩, rfl, hz0⟩ := okWide_struct Tryd.underlying26 (hval 0 26 v0 rfl rfl)
  obtain ⟨f0, hf0⟩ := h0
  have hl0 : l0.length = 3 := hz0.trans (by kernel_rfl)
  obtain ⟨e0, hcs0, hD0⟩ := open_draft23 hl0 hf0
  subst hcs0
  obtain ⟨a1, rfl, rfl, rfl, w1⟩ := open_int Tryd.underlying5 (hval 1 5 v1 rfl rfl) h1
  clear hA0 hval0
  refine (walkExpandFirst e0 a1 W hD0 (bounds_u8 w1) hvars).mono fun e W' ⟨he, bel⟩ => ?_
  subst he
  exact ⟨_, rfl, _, _, _, [], _, [], hW', trodAll_mk1 (shut_bool Tryd.underlying4 _), trodAll_cons_mk (hk0 W' bel) (trodAll_cons_mk (hk1 W' bel) (trodAll_mk0)), rfl, World.keptBut_mono (fun p hp => ⟨hp, Or.inr (by simpa using hp)⟩) (bel.frame _), fun h => by cases h⟩

theorem said : Rows.ExpandFirstSaid :=
  OpenClaim.holds_of_wide 6 Tryd.f6 rfl rfl rfl rfl rfl rfl rfl ⟨rfl, rfl, rfl, rfl, rfl⟩ rfl rfl rfl rfl rfl (by kernel_rfl) Tryd.func6 (by kernel_rfl)
    (of_decide_eq_true (by kernel_rfl)) (by unfold Func.isWrapper; first | (rw [if_pos (by decide +kernel)]; kernel_rfl) | (rw [if_neg (by decide +kernel)]; exact ⟨rfl, rfl⟩))
    (fun os started H enc _ => lifted os started H enc)

/-- No parameter wants a stand-in; the program's own looks are off: what the card asks. -/
theorem plain (f : FuncId) (fn : Func) (hf : Tryd.pinned.checked.prog.funcNamed Rows.expandFirstRow.func = some f) (hfn : Tryd.pinned.checked.prog.funcs[f]? = some fn) :
    true = Tryd.pinned.checked.prog.looks [] ∧ ∀ (j : Nat) t, fn.params[j]? = some t → Tryd.pinned.checked.prog.wantsStandIn t = false := by
  obtain rfl : f = 6 := Option.some.inj ((show Tryd.prog.funcNamed Rows.expandFirstRow.func = some 6 by kernel_rfl).symm.trans hf) |>.symm
  obtain rfl : fn = Tryd.f6 := (Option.some.inj (Tryd.func6.symm.trans hfn)).symm
  refine ⟨by kernel_rfl, fun j t ht => ?_⟩
  rw [Tryd.params6] at ht
  have hm := Array.mem_of_getElem? ht
  have hm2 : t = 26 ∨ t = 5 := by simpa using hm
  rcases hm2 with rfl | rfl
  · exact (show Tryd.prog.wantsStandIn 26 = false by kernel_rfl)
  · exact (show Tryd.prog.wantsStandIn 5 = false by kernel_rfl)
/-- THE CARD -/
theorem card : Rows.ExpandFirstCardSaid :=
  Claim7.holds_tied_plain_at .later [] _ _ _ _ said (fun _ h => by cases h) (by kernel_rfl) (fun _ h => by cases h) expandFirst_row_tie rfl ⟨rfl, rfl⟩ (by kernel_rfl) rfl plain (by kernel_rfl)
end Go.Proofs.YtlideagcmhlkeaaDoor.lawExpandFirst
