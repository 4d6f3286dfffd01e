/- ExpandForms: for every input the law returns true, and each argument reads as before. No condition beside the row's own (the listed package-level variables read as listed; the card ties them to the program's text). -/
import Derived.Test.YtlideagcmhlkeaaGreatDoorQ6
import Derived.OpenShut
import Derived.Test.YtlideagcmhlkeaaGreatDoorCards
import Derived.Test.YtlideagcmhlkeaaGreatDoorTie
import Derived.Carry
import Derived.WalkKit
import Derived.ProofKit
import Derived.ShutString
import Derived.LaidMore
import Derived.ChangeOld
import Derived.Below
import Derived.Stop.Joined
import Derived.Lib.SmallJoins
import Derived.SevenTiedAt

/- The walk of the law ExpandForms (chapter 30). -/
namespace Go.Proofs.YtlideagcmhlkeaaGreatDoor
open Go.RowKit Go.Lib
set_option linter.unusedVariables false
set_option linter.unusedSimpArgs false

theorem Res30.two {F : EV → ByteArray × Int} {s a b : SV} {n m : Int} (h : Res30 F s a n) (k : Res30 F s b m) : n = m ∧ sSame14 a b := by
  have e := h.err.uniq k.err
  refine ⟨e, ?_⟩
  by_cases h0 : n = 0
  · exact (h.yes h0).trans (k.yes (e ▸ h0)).symm
  · exact (h.no h0).trans (k.no (e ▸ h0)).symm
theorem Res30.big {F : EV → ByteArray × Int} {s a : SV} {n : Int} (hf : Few30 s) (h : Res30 F s a n) : big14 a := by
  by_cases h0 : n = 0
  · exact big_map hf (h.yes h0)
  · exact big_nil (h.no h0)
theorem same_call {a b : SV} (h : sSame14 a b) (hb : big14 a) (W : World) (hA : SrcIn W a) (hB : SrcIn W b) :
    Calls Tryz.prog 11 #[.agg #[.slice a.rA a.rules.length a.rc, .slice a.zA a.zones.length a.zc, .slice a.kA a.links.length a.kc, .slice a.hA a.shifts.length a.hc], .agg #[.slice b.rA b.rules.length b.rc, .slice b.zA b.zones.length b.zc, .slice b.kA b.links.length b.kc, .slice b.hA b.shifts.length b.hc]] W fun x W' => x = .returned (.bool true) ∧ Below W.heap.size W W' := by
  refine (same14_any a b W hA hB hb).mono ?_
  rintro x W' ⟨R, hR, rfl, hb'⟩
  obtain rfl : R = true := hR.2 h
  exact ⟨rfl, hb'⟩
/-- numbers of the machine -/
structure Nums30 (s : SV) : Prop where
  lens : s.rules.length ≤ maxLen ∧ s.zones.length ≤ maxLen ∧ s.links.length ≤ maxLen ∧ s.shifts.length ≤ maxLen ∧ ∀ z ∈ s.zones, z.eras.length ≤ maxLen
  eras : ∀ z ∈ s.zones, ∀ e ∈ z.eras, (-9223372036854775808 ≤ e.off ∧ e.off ≤ 9223372036854775807) ∧ (-9223372036854775808 ≤ e.save ∧ e.save ≤ 9223372036854775807)
  saves : SvOk s.rules
theorem few30_of {s : SV} (h : Few14 s) (k : Nums30 s) : Few30 s := by
  have hl := h.lens
  refine ⟨by omega, fun z hz => ?_, fun z hz e he => ?_, k.saves⟩
  · obtain ⟨i, hi⟩ := List.mem_iff_getElem?.1 hz
    have := (h.eras i z hi).1
    omega
  · obtain ⟨i, hi⟩ := List.mem_iff_getElem?.1 hz
    obtain ⟨j, hj⟩ := List.mem_iff_getElem?.1 he
    have := (h.eras i z hi).2 j e hj
    exact ⟨(k.eras z hz e he).1, (k.eras z hz e he).2, by omega⟩
set_option maxRecDepth 100000 in
set_option maxHeartbeats 16000000 in
theorem walkExpandForms (s : SV) (w : World) (hS : SrcIn w s) (hn : Nums30 s) (hv : Vars21 w) :
    Calls Tryz.prog 3 #[.agg #[.slice s.rA s.rules.length s.rc, .slice s.zA s.zones.length s.zc, .slice s.kA s.links.length s.kc, .slice s.hA s.shifts.length s.hc]] w fun e w' => e = .returned (.bool true) ∧ Below w.heap.size w w' := by
  have HS := Lib.hid hS; have HN := Lib.hid hn
  have hX := Blk.new w 27 #[.slice s.rA s.rules.length s.rc, .slice s.zA s.zones.length s.zc, .slice s.kA s.links.length s.kc, .slice s.hA s.shifts.length s.hc]
  have hb0 := (Below.refl w.heap.size w).alloc (Nat.le_refl _) (.cells #[.slice s.rA s.rules.length s.rc, .slice s.zA s.zones.length s.zc, .slice s.kA s.links.length s.kc, .slice s.hA s.shifts.length s.hc] 27)
  have HX := Lib.hid hX; have HB := Lib.hid hb0
  have c0 := (hX.cell 0).trans rfl
  have c1 := (hX.cell 1).trans rfl
  have c2 := (hX.cell 2).trans rfl
  have c3 := (hX.cell 3).trans rfl
  clear hS hn hX hb0
  go_enter Tryz.func3, Tryz.ntmps3
  go_wp2_with fail
  refine (few14_any s _ (HS.out.below HB.out) HN.out.lens).mono ?_
  rintro e W1 ⟨h | ⟨h, hfew⟩, hc⟩
  · subst h
    have HB1 := Lib.hid (HB.out.trans (hc.mono HB.out.size))
    clear hc c0 c1 c2 c3
    go_wp2_with fail
    refine (works30_any _ (hv.below HB1.out)).mono ?_
    rintro e W2 ⟨rfl, hc⟩
    go_wp2_with fail
    go_ret
    exact ⟨rfl, HB1.out.trans (hc.mono HB1.out.size)⟩
  subst h
  have HF := Lib.hid (few30_of hfew HN.out)
  clear hfew
  have HX' := Lib.hid (HX.out.below hc HX.out.lt)
  have HB' := Lib.hid (HB.out.trans (hc.mono HB.out.size))
  clear HX HB
  have HX := HX'; clear HX'
  have HB := HB'; clear HB'
  clear hc c0 c1 c2 c3
  have c0 := (HX.out.cell 0).trans rfl
  have c1 := (HX.out.cell 1).trans rfl
  have c2 := (HX.out.cell 2).trans rfl
  have c3 := (HX.out.cell 3).trans rfl
  go_wp2_with fail
  clear c0 c1 c2 c3
  refine (copy14 s _ (HS.out.below HB.out) HF.out).mono ?_
  rintro e W2 ⟨wa, rfl, hC, hc⟩
  have HX' := Lib.hid (HX.out.below hc HX.out.lt)
  have HB' := Lib.hid (HB.out.trans (hc.mono HB.out.size))
  clear HX HB
  have HX := HX'; clear HX'
  have HB := HB'; clear HB'
  have HGwa := Lib.hid hC.srcG; have HCS := Lib.hid hC.same
  clear hc hC
  have HX' := Lib.hid (HX.out.alloc (.cells #[.slice wa.rA wa.rules.length wa.rc, .slice wa.zA wa.zones.length wa.zc, .slice wa.kA wa.links.length wa.kc, .slice wa.hA wa.shifts.length wa.hc] 27))
  have HB' := Lib.hid (HB.out.alloc HB.out.size (.cells #[.slice wa.rA wa.rules.length wa.rc, .slice wa.zA wa.zones.length wa.zc, .slice wa.kA wa.links.length wa.kc, .slice wa.hA wa.shifts.length wa.hc] 27))
  have hal := (Below.refl W2.heap.size W2).alloc (Nat.le_refl _) (.cells #[.slice wa.rA wa.rules.length wa.rc, .slice wa.zA wa.zones.length wa.zc, .slice wa.kA wa.links.length wa.kc, .slice wa.hA wa.shifts.length wa.hc] 27)
  have HGwa' := Lib.hid (HGwa.out.below hal)
  clear HX HB HGwa
  have HX := HX'; clear HX'
  have HB := HB'; clear HB'
  have HGwa := HGwa'; clear HGwa'
  have HXwa := Lib.hid (Blk.new W2 27 #[.slice wa.rA wa.rules.length wa.rc, .slice wa.zA wa.zones.length wa.zc, .slice wa.kA wa.links.length wa.kc, .slice wa.hA wa.shifts.length wa.hc])
  clear hal
  have c0 := (HX.out.cell 0).trans rfl
  have c1 := (HX.out.cell 1).trans rfl
  have c2 := (HX.out.cell 2).trans rfl
  have c3 := (HX.out.cell 3).trans rfl
  go_wp2_with fail
  clear c0 c1 c2 c3
  refine (expand_any s _ (HS.out.below HB.out) HF.out).mono ?_
  rintro e W3 ⟨a, na, rfl, hG, hR, hc⟩
  have HX' := Lib.hid (HX.out.below hc HX.out.lt)
  have HXwa' := Lib.hid (HXwa.out.below hc HXwa.out.lt)
  have HB' := Lib.hid (HB.out.trans (hc.mono HB.out.size))
  have HGwa' := Lib.hid (HGwa.out.below hc)
  clear HX HXwa HB HGwa
  have HX := HX'; clear HX'
  have HXwa := HXwa'; clear HXwa'
  have HB := HB'; clear HB'
  have HGwa := HGwa'; clear HGwa'
  have HGa := Lib.hid hG; have HRa := Lib.hid hR
  clear hc hG hR
  have HX' := Lib.hid (HX.out.alloc (.cells #[.slice a.rA a.rules.length a.rc, .slice a.zA a.zones.length a.zc, .slice a.kA a.links.length a.kc, .slice a.hA a.shifts.length a.hc] 27))
  have HXwa' := Lib.hid (HXwa.out.alloc (.cells #[.slice a.rA a.rules.length a.rc, .slice a.zA a.zones.length a.zc, .slice a.kA a.links.length a.kc, .slice a.hA a.shifts.length a.hc] 27))
  have HB' := Lib.hid (HB.out.alloc HB.out.size (.cells #[.slice a.rA a.rules.length a.rc, .slice a.zA a.zones.length a.zc, .slice a.kA a.links.length a.kc, .slice a.hA a.shifts.length a.hc] 27))
  have hal := (Below.refl W3.heap.size W3).alloc (Nat.le_refl _) (.cells #[.slice a.rA a.rules.length a.rc, .slice a.zA a.zones.length a.zc, .slice a.kA a.links.length a.kc, .slice a.hA a.shifts.length a.hc] 27)
  have HGwa' := Lib.hid (HGwa.out.below hal)
  have HGa' := Lib.hid (HGa.out.below hal)
  clear HX HXwa HB HGwa HGa
  have HX := HX'; clear HX'
  have HXwa := HXwa'; clear HXwa'
  have HB := HB'; clear HB'
  have HGwa := HGwa'; clear HGwa'
  have HGa := HGa'; clear HGa'
  have HXa := Lib.hid (Blk.new W3 27 #[.slice a.rA a.rules.length a.rc, .slice a.zA a.zones.length a.zc, .slice a.kA a.links.length a.kc, .slice a.hA a.shifts.length a.hc])
  clear hal
  have c0 := (HX.out.cell 0).trans rfl
  have c1 := (HX.out.cell 1).trans rfl
  have c2 := (HX.out.cell 2).trans rfl
  have c3 := (HX.out.cell 3).trans rfl
  go_wp2_with fail
  clear c0 c1 c2 c3
  refine (rexpand_any s _ (HS.out.below HB.out) HF.out).mono ?_
  rintro e W4 ⟨b, nb, rfl, hG, hR, hc⟩
  have HX' := Lib.hid (HX.out.below hc HX.out.lt)
  have HXwa' := Lib.hid (HXwa.out.below hc HXwa.out.lt)
  have HXa' := Lib.hid (HXa.out.below hc HXa.out.lt)
  have HB' := Lib.hid (HB.out.trans (hc.mono HB.out.size))
  have HGwa' := Lib.hid (HGwa.out.below hc)
  have HGa' := Lib.hid (HGa.out.below hc)
  clear HX HXwa HXa HB HGwa HGa
  have HX := HX'; clear HX'
  have HXwa := HXwa'; clear HXwa'
  have HXa := HXa'; clear HXa'
  have HB := HB'; clear HB'
  have HGwa := HGwa'; clear HGwa'
  have HGa := HGa'; clear HGa'
  have HGb := Lib.hid hG; have HRb := Lib.hid hR
  clear hc hG hR
  have HX' := Lib.hid (HX.out.alloc (.cells #[.slice b.rA b.rules.length b.rc, .slice b.zA b.zones.length b.zc, .slice b.kA b.links.length b.kc, .slice b.hA b.shifts.length b.hc] 27))
  have HXwa' := Lib.hid (HXwa.out.alloc (.cells #[.slice b.rA b.rules.length b.rc, .slice b.zA b.zones.length b.zc, .slice b.kA b.links.length b.kc, .slice b.hA b.shifts.length b.hc] 27))
  have HXa' := Lib.hid (HXa.out.alloc (.cells #[.slice b.rA b.rules.length b.rc, .slice b.zA b.zones.length b.zc, .slice b.kA b.links.length b.kc, .slice b.hA b.shifts.length b.hc] 27))
  have HB' := Lib.hid (HB.out.alloc HB.out.size (.cells #[.slice b.rA b.rules.length b.rc, .slice b.zA b.zones.length b.zc, .slice b.kA b.links.length b.kc, .slice b.hA b.shifts.length b.hc] 27))
  have hal := (Below.refl W4.heap.size W4).alloc (Nat.le_refl _) (.cells #[.slice b.rA b.rules.length b.rc, .slice b.zA b.zones.length b.zc, .slice b.kA b.links.length b.kc, .slice b.hA b.shifts.length b.hc] 27)
  have HGwa' := Lib.hid (HGwa.out.below hal)
  have HGa' := Lib.hid (HGa.out.below hal)
  have HGb' := Lib.hid (HGb.out.below hal)
  clear HX HXwa HXa HB HGwa HGa HGb
  have HX := HX'; clear HX'
  have HXwa := HXwa'; clear HXwa'
  have HXa := HXa'; clear HXa'
  have HB := HB'; clear HB'
  have HGwa := HGwa'; clear HGwa'
  have HGa := HGa'; clear HGa'
  have HGb := HGb'; clear HGb'
  have HXb := Lib.hid (Blk.new W4 27 #[.slice b.rA b.rules.length b.rc, .slice b.zA b.zones.length b.zc, .slice b.kA b.links.length b.kc, .slice b.hA b.shifts.length b.hc])
  clear hal
  obtain rfl := (HRa.out.two HRb.out).1
  have c0 := (HX.out.cell 0).trans rfl
  have c1 := (HX.out.cell 1).trans rfl
  have c2 := (HX.out.cell 2).trans rfl
  have c3 := (HX.out.cell 3).trans rfl
  go_wp2_with fail
  clear c0 c1 c2 c3
  refine (contract_any s _ (HS.out.below HB.out) HF.out (hv.below HB.out)).mono ?_
  rintro e W5 ⟨c, nc, rfl, hG, hR, hc⟩
  have HX' := Lib.hid (HX.out.below hc HX.out.lt)
  have HXwa' := Lib.hid (HXwa.out.below hc HXwa.out.lt)
  have HXa' := Lib.hid (HXa.out.below hc HXa.out.lt)
  have HXb' := Lib.hid (HXb.out.below hc HXb.out.lt)
  have HB' := Lib.hid (HB.out.trans (hc.mono HB.out.size))
  have HGwa' := Lib.hid (HGwa.out.below hc)
  have HGa' := Lib.hid (HGa.out.below hc)
  have HGb' := Lib.hid (HGb.out.below hc)
  clear HX HXwa HXa HXb HB HGwa HGa HGb
  have HX := HX'; clear HX'
  have HXwa := HXwa'; clear HXwa'
  have HXa := HXa'; clear HXa'
  have HXb := HXb'; clear HXb'
  have HB := HB'; clear HB'
  have HGwa := HGwa'; clear HGwa'
  have HGa := HGa'; clear HGa'
  have HGb := HGb'; clear HGb'
  have HGc := Lib.hid hG; have HRc := Lib.hid hR
  clear hc hG hR
  have HX' := Lib.hid (HX.out.alloc (.cells #[.slice c.rA c.rules.length c.rc, .slice c.zA c.zones.length c.zc, .slice c.kA c.links.length c.kc, .slice c.hA c.shifts.length c.hc] 27))
  have HXwa' := Lib.hid (HXwa.out.alloc (.cells #[.slice c.rA c.rules.length c.rc, .slice c.zA c.zones.length c.zc, .slice c.kA c.links.length c.kc, .slice c.hA c.shifts.length c.hc] 27))
  have HXa' := Lib.hid (HXa.out.alloc (.cells #[.slice c.rA c.rules.length c.rc, .slice c.zA c.zones.length c.zc, .slice c.kA c.links.length c.kc, .slice c.hA c.shifts.length c.hc] 27))
  have HXb' := Lib.hid (HXb.out.alloc (.cells #[.slice c.rA c.rules.length c.rc, .slice c.zA c.zones.length c.zc, .slice c.kA c.links.length c.kc, .slice c.hA c.shifts.length c.hc] 27))
  have HB' := Lib.hid (HB.out.alloc HB.out.size (.cells #[.slice c.rA c.rules.length c.rc, .slice c.zA c.zones.length c.zc, .slice c.kA c.links.length c.kc, .slice c.hA c.shifts.length c.hc] 27))
  have hal := (Below.refl W5.heap.size W5).alloc (Nat.le_refl _) (.cells #[.slice c.rA c.rules.length c.rc, .slice c.zA c.zones.length c.zc, .slice c.kA c.links.length c.kc, .slice c.hA c.shifts.length c.hc] 27)
  have HGwa' := Lib.hid (HGwa.out.below hal)
  have HGa' := Lib.hid (HGa.out.below hal)
  have HGb' := Lib.hid (HGb.out.below hal)
  have HGc' := Lib.hid (HGc.out.below hal)
  clear HX HXwa HXa HXb HB HGwa HGa HGb HGc
  have HX := HX'; clear HX'
  have HXwa := HXwa'; clear HXwa'
  have HXa := HXa'; clear HXa'
  have HXb := HXb'; clear HXb'
  have HB := HB'; clear HB'
  have HGwa := HGwa'; clear HGwa'
  have HGa := HGa'; clear HGa'
  have HGb := HGb'; clear HGb'
  have HGc := HGc'; clear HGc'
  have HXc := Lib.hid (Blk.new W5 27 #[.slice c.rA c.rules.length c.rc, .slice c.zA c.zones.length c.zc, .slice c.kA c.links.length c.kc, .slice c.hA c.shifts.length c.hc])
  clear hal
  have c0 := (HX.out.cell 0).trans rfl
  have c1 := (HX.out.cell 1).trans rfl
  have c2 := (HX.out.cell 2).trans rfl
  have c3 := (HX.out.cell 3).trans rfl
  go_wp2_with fail
  clear c0 c1 c2 c3
  refine (rcontract_any s _ (HS.out.below HB.out) HF.out).mono ?_
  rintro e W6 ⟨d, nd, rfl, hG, hR, hc⟩
  have HX' := Lib.hid (HX.out.below hc HX.out.lt)
  have HXwa' := Lib.hid (HXwa.out.below hc HXwa.out.lt)
  have HXa' := Lib.hid (HXa.out.below hc HXa.out.lt)
  have HXb' := Lib.hid (HXb.out.below hc HXb.out.lt)
  have HXc' := Lib.hid (HXc.out.below hc HXc.out.lt)
  have HB' := Lib.hid (HB.out.trans (hc.mono HB.out.size))
  have HGwa' := Lib.hid (HGwa.out.below hc)
  have HGa' := Lib.hid (HGa.out.below hc)
  have HGb' := Lib.hid (HGb.out.below hc)
  have HGc' := Lib.hid (HGc.out.below hc)
  clear HX HXwa HXa HXb HXc HB HGwa HGa HGb HGc
  have HX := HX'; clear HX'
  have HXwa := HXwa'; clear HXwa'
  have HXa := HXa'; clear HXa'
  have HXb := HXb'; clear HXb'
  have HXc := HXc'; clear HXc'
  have HB := HB'; clear HB'
  have HGwa := HGwa'; clear HGwa'
  have HGa := HGa'; clear HGa'
  have HGb := HGb'; clear HGb'
  have HGc := HGc'; clear HGc'
  have HGd := Lib.hid hG; have HRd := Lib.hid hR
  clear hc hG hR
  have HX' := Lib.hid (HX.out.alloc (.cells #[.slice d.rA d.rules.length d.rc, .slice d.zA d.zones.length d.zc, .slice d.kA d.links.length d.kc, .slice d.hA d.shifts.length d.hc] 27))
  have HXwa' := Lib.hid (HXwa.out.alloc (.cells #[.slice d.rA d.rules.length d.rc, .slice d.zA d.zones.length d.zc, .slice d.kA d.links.length d.kc, .slice d.hA d.shifts.length d.hc] 27))
  have HXa' := Lib.hid (HXa.out.alloc (.cells #[.slice d.rA d.rules.length d.rc, .slice d.zA d.zones.length d.zc, .slice d.kA d.links.length d.kc, .slice d.hA d.shifts.length d.hc] 27))
  have HXb' := Lib.hid (HXb.out.alloc (.cells #[.slice d.rA d.rules.length d.rc, .slice d.zA d.zones.length d.zc, .slice d.kA d.links.length d.kc, .slice d.hA d.shifts.length d.hc] 27))
  have HXc' := Lib.hid (HXc.out.alloc (.cells #[.slice d.rA d.rules.length d.rc, .slice d.zA d.zones.length d.zc, .slice d.kA d.links.length d.kc, .slice d.hA d.shifts.length d.hc] 27))
  have HB' := Lib.hid (HB.out.alloc HB.out.size (.cells #[.slice d.rA d.rules.length d.rc, .slice d.zA d.zones.length d.zc, .slice d.kA d.links.length d.kc, .slice d.hA d.shifts.length d.hc] 27))
  have hal := (Below.refl W6.heap.size W6).alloc (Nat.le_refl _) (.cells #[.slice d.rA d.rules.length d.rc, .slice d.zA d.zones.length d.zc, .slice d.kA d.links.length d.kc, .slice d.hA d.shifts.length d.hc] 27)
  have HGwa' := Lib.hid (HGwa.out.below hal)
  have HGa' := Lib.hid (HGa.out.below hal)
  have HGb' := Lib.hid (HGb.out.below hal)
  have HGc' := Lib.hid (HGc.out.below hal)
  have HGd' := Lib.hid (HGd.out.below hal)
  clear HX HXwa HXa HXb HXc HB HGwa HGa HGb HGc HGd
  have HX := HX'; clear HX'
  have HXwa := HXwa'; clear HXwa'
  have HXa := HXa'; clear HXa'
  have HXb := HXb'; clear HXb'
  have HXc := HXc'; clear HXc'
  have HB := HB'; clear HB'
  have HGwa := HGwa'; clear HGwa'
  have HGa := HGa'; clear HGa'
  have HGb := HGb'; clear HGb'
  have HGc := HGc'; clear HGc'
  have HGd := HGd'; clear HGd'
  have HXd := Lib.hid (Blk.new W6 27 #[.slice d.rA d.rules.length d.rc, .slice d.zA d.zones.length d.zc, .slice d.kA d.links.length d.kc, .slice d.hA d.shifts.length d.hc])
  clear hal
  obtain rfl := (HRc.out.two HRd.out).1
  have ca0 := (HXa.out.cell 0).trans rfl
  have ca1 := (HXa.out.cell 1).trans rfl
  have ca2 := (HXa.out.cell 2).trans rfl
  have ca3 := (HXa.out.cell 3).trans rfl
  have cb0 := (HXb.out.cell 0).trans rfl
  have cb1 := (HXb.out.cell 1).trans rfl
  have cb2 := (HXb.out.cell 2).trans rfl
  have cb3 := (HXb.out.cell 3).trans rfl
  go_wp2_with fail
  clear ca0 ca1 ca2 ca3 cb0 cb1 cb2 cb3
  refine (same_call ((HRa.out.two HRb.out).2) (HRa.out.big HF.out) _ (HGa.out.src) (HGb.out.src)).mono ?_
  rintro e Wsa ⟨rfl, hc⟩
  have HX' := Lib.hid (HX.out.below hc HX.out.lt)
  have HXwa' := Lib.hid (HXwa.out.below hc HXwa.out.lt)
  have HXa' := Lib.hid (HXa.out.below hc HXa.out.lt)
  have HXb' := Lib.hid (HXb.out.below hc HXb.out.lt)
  have HXc' := Lib.hid (HXc.out.below hc HXc.out.lt)
  have HXd' := Lib.hid (HXd.out.below hc HXd.out.lt)
  have HB' := Lib.hid (HB.out.trans (hc.mono HB.out.size))
  have HGwa' := Lib.hid (HGwa.out.below hc)
  have HGa' := Lib.hid (HGa.out.below hc)
  have HGb' := Lib.hid (HGb.out.below hc)
  have HGc' := Lib.hid (HGc.out.below hc)
  have HGd' := Lib.hid (HGd.out.below hc)
  clear HX HXwa HXa HXb HXc HXd HB HGwa HGa HGb HGc HGd
  have HX := HX'; clear HX'
  have HXwa := HXwa'; clear HXwa'
  have HXa := HXa'; clear HXa'
  have HXb := HXb'; clear HXb'
  have HXc := HXc'; clear HXc'
  have HXd := HXd'; clear HXd'
  have HB := HB'; clear HB'
  have HGwa := HGwa'; clear HGwa'
  have HGa := HGa'; clear HGa'
  have HGb := HGb'; clear HGb'
  have HGc := HGc'; clear HGc'
  have HGd := HGd'; clear HGd'
  clear hc
  have cc0 := (HXc.out.cell 0).trans rfl
  have cc1 := (HXc.out.cell 1).trans rfl
  have cc2 := (HXc.out.cell 2).trans rfl
  have cc3 := (HXc.out.cell 3).trans rfl
  have cd0 := (HXd.out.cell 0).trans rfl
  have cd1 := (HXd.out.cell 1).trans rfl
  have cd2 := (HXd.out.cell 2).trans rfl
  have cd3 := (HXd.out.cell 3).trans rfl
  go_wp2_with fail
  clear cc0 cc1 cc2 cc3 cd0 cd1 cd2 cd3
  refine (same_call ((HRc.out.two HRd.out).2) (HRc.out.big HF.out) _ (HGc.out.src) (HGd.out.src)).mono ?_
  rintro e Wsc ⟨rfl, hc⟩
  have HX' := Lib.hid (HX.out.below hc HX.out.lt)
  have HXwa' := Lib.hid (HXwa.out.below hc HXwa.out.lt)
  have HXa' := Lib.hid (HXa.out.below hc HXa.out.lt)
  have HXb' := Lib.hid (HXb.out.below hc HXb.out.lt)
  have HXc' := Lib.hid (HXc.out.below hc HXc.out.lt)
  have HXd' := Lib.hid (HXd.out.below hc HXd.out.lt)
  have HB' := Lib.hid (HB.out.trans (hc.mono HB.out.size))
  have HGwa' := Lib.hid (HGwa.out.below hc)
  have HGa' := Lib.hid (HGa.out.below hc)
  have HGb' := Lib.hid (HGb.out.below hc)
  have HGc' := Lib.hid (HGc.out.below hc)
  have HGd' := Lib.hid (HGd.out.below hc)
  clear HX HXwa HXa HXb HXc HXd HB HGwa HGa HGb HGc HGd
  have HX := HX'; clear HX'
  have HXwa := HXwa'; clear HXwa'
  have HXa := HXa'; clear HXa'
  have HXb := HXb'; clear HXb'
  have HXc := HXc'; clear HXc'
  have HXd := HXd'; clear HXd'
  have HB := HB'; clear HB'
  have HGwa := HGwa'; clear HGwa'
  have HGa := HGa'; clear HGa'
  have HGb := HGb'; clear HGb'
  have HGc := HGc'; clear HGc'
  have HGd := HGd'; clear HGd'
  clear hc
  have cs0 := (HX.out.cell 0).trans rfl
  have cs1 := (HX.out.cell 1).trans rfl
  have cs2 := (HX.out.cell 2).trans rfl
  have cs3 := (HX.out.cell 3).trans rfl
  have cw0 := (HXwa.out.cell 0).trans rfl
  have cw1 := (HXwa.out.cell 1).trans rfl
  have cw2 := (HXwa.out.cell 2).trans rfl
  have cw3 := (HXwa.out.cell 3).trans rfl
  go_wp2_with fail
  clear cs0 cs1 cs2 cs3 cw0 cw1 cw2 cw3
  refine (same_call (HCS.out.symm) (big_same HF.out (sSame14.rfl' s)) _ (HS.out.below HB.out) (HGwa.out.src)).mono ?_
  rintro e Wss ⟨rfl, hc⟩
  have HX' := Lib.hid (HX.out.below hc HX.out.lt)
  have HXwa' := Lib.hid (HXwa.out.below hc HXwa.out.lt)
  have HXa' := Lib.hid (HXa.out.below hc HXa.out.lt)
  have HXb' := Lib.hid (HXb.out.below hc HXb.out.lt)
  have HXc' := Lib.hid (HXc.out.below hc HXc.out.lt)
  have HXd' := Lib.hid (HXd.out.below hc HXd.out.lt)
  have HB' := Lib.hid (HB.out.trans (hc.mono HB.out.size))
  have HGwa' := Lib.hid (HGwa.out.below hc)
  have HGa' := Lib.hid (HGa.out.below hc)
  have HGb' := Lib.hid (HGb.out.below hc)
  have HGc' := Lib.hid (HGc.out.below hc)
  have HGd' := Lib.hid (HGd.out.below hc)
  clear HX HXwa HXa HXb HXc HXd HB HGwa HGa HGb HGc HGd
  have HX := HX'; clear HX'
  have HXwa := HXwa'; clear HXwa'
  have HXa := HXa'; clear HXa'
  have HXb := HXb'; clear HXb'
  have HXc := HXc'; clear HXc'
  have HXd := HXd'; clear HXd'
  have HB := HB'; clear HB'
  have HGwa := HGwa'; clear HGwa'
  have HGa := HGa'; clear HGa'
  have HGb := HGb'; clear HGb'
  have HGc := HGc'; clear HGc'
  have HGd := HGd'; clear HGd'
  clear hc
  go_wp2_with fail
  refine (works30_any _ (hv.below HB.out)).mono ?_
  rintro e W9 ⟨rfl, hc⟩
  go_wp2_with fail
  go_ret
  exact ⟨rfl, HB.out.trans (hc.mono HB.out.size)⟩
end Go.Proofs.YtlideagcmhlkeaaGreatDoor

/- What a source by value that comes in reads as (for the cards of chapter 30). -/
namespace Go.Proofs.YtlideagcmhlkeaaGreatDoor
open Go.RowKit Go.ChangeShapes Go.WideShapes
set_option linter.unusedVariables false

section
variable {H : Type} {enc : TypeId × Value → H} {w : World} {base : Nat} {sp : Nat → Bool} {held : Bool}
/-- a link's cells -/
theorem open_link {fuel : Nat} {cs : List Value} {x : DataW H × List MemPlace} (hlen : cs.length = 2) (h : DataW.trod enc Tryz.prog w base sp held fuel 50 cs = some x) : ∃ k : KV, cs = k.cells ∧ True := by
  match cs, hlen with
  | [c0, c1], _ =>
    obtain ⟨s0, e0, _⟩ := leaf_str Tryz.underlying50 h 0 9 0 (by kernel_rfl) Tryz.underlying9
    obtain ⟨s1, e1, _⟩ := leaf_str Tryz.underlying50 h 1 9 1 (by kernel_rfl) Tryz.underlying9
    simp only [List.drop_succ_cons, List.drop_zero, List.take_succ_cons, List.take_zero, List.cons.injEq, and_true] at e0 e1
    subst e0 e1
    exact ⟨⟨s0, s1⟩, rfl, trivial⟩
/-- a string's cell -/
theorem open_word {fuel : Nat} {cs : List Value} {x : DataW H × List MemPlace} (hlen : cs.length = 1) (h : DataW.trod enc Tryz.prog w base sp held fuel 9 cs = some x) : ∃ b : ByteArray, cs = [Value.string b] ∧ True := by
  obtain ⟨z, e, _⟩ := DataW.trod_string Tryz.underlying9 h
  exact ⟨z, e, trivial⟩
/-- an era's cells, as a value -/
theorem open_erav {fuel : Nat} {cs : List Value} {x : DataW H × List MemPlace} (hlen : cs.length = 13) (h : DataW.trod enc Tryz.prog w base sp held fuel 48 cs = some x) : ∃ e : EV, cs = e.cells ∧ (-9223372036854775808 ≤ e.off ∧ e.off ≤ 9223372036854775807) ∧ (-9223372036854775808 ≤ e.save ∧ e.save ≤ 9223372036854775807) := by
  obtain ⟨n0, n1, n2, s3, s4, b5, n6, n7, n8, n9, n10, n11, n12, hcs, w0, _, w2, _, h4⟩ := open_era hlen h
  exact ⟨⟨n0, n1, n2, s3, s4, b5, n6, n7, n8, n9, n10, n11, n12⟩, hcs, bounds_i64 w0, bounds_i64 w2⟩
/-- a zone's cells, with its eras -/
theorem open_zone {fuel : Nat} {cs : List Value} {x : DataW H × List MemPlace} (hlen : cs.length = 2) (h : DataW.trod enc Tryz.prog w base sp held fuel 44 cs = some x) :
    ∃ z : ZV, cs = z.cells ∧ (z.eras.length ≤ maxLen ∧ CellsIn 13 EV.cells w z.A z.eras ∧ ∀ e ∈ z.eras, (-9223372036854775808 ≤ e.off ∧ e.off ≤ 9223372036854775807) ∧ (-9223372036854775808 ≤ e.save ∧ e.save ≤ 9223372036854775807)) := by
  match cs, hlen with
  | [c0, c1], _ =>
    obtain ⟨s0, e0, _⟩ := leaf_str Tryz.underlying44 h 0 9 0 (by kernel_rfl) Tryz.underlying9
    obtain ⟨m, y, hd⟩ := field_of Tryz.underlying44 h 1 42 1 1 (by kernel_rfl)
    obtain ⟨A, c, L, e1, hl, hc, hf⟩ := open_cells (m := 13) (f := EV.cells) (Good := fun e => (-9223372036854775808 ≤ e.off ∧ e.off ≤ 9223372036854775807) ∧ (-9223372036854775808 ≤ e.save ∧ e.save ≤ 9223372036854775807)) Tryz.underlying42 (by kernel_rfl) (by decide) (fun fuel cs x hl hx => open_erav hl hx) hd
    simp only [List.drop_succ_cons, List.drop_zero, List.take_succ_cons, List.take_zero, List.cons.injEq, and_true] at e0 e1
    subst e0 e1
    exact ⟨⟨s0, A, c, L⟩, rfl, hl, hc, hf⟩
/-- a source by value -/
theorem open_source {fuel : Nat} {cs : List Value} {x : DataW H × List MemPlace} (hlen : cs.length = 4) (h : DataW.trod enc Tryz.prog w base sp held fuel 27 cs = some x) :
    ∃ s : SV, cs = s.agg.toList ∧ SrcIn w s ∧ Nums30 s := by
  match cs, hlen with
  | [c0, c1, c2, c3], _ =>
    obtain ⟨m0, y0, hd0⟩ := field_of Tryz.underlying27 h 0 22 0 1 (by kernel_rfl)
    obtain ⟨m1, y1, hd1⟩ := field_of Tryz.underlying27 h 1 23 1 1 (by kernel_rfl)
    obtain ⟨m2, y2, hd2⟩ := field_of Tryz.underlying27 h 2 24 2 1 (by kernel_rfl)
    obtain ⟨m3, y3, hd3⟩ := field_of Tryz.underlying27 h 3 25 3 1 (by kernel_rfl)
    obtain ⟨A0, k0, L0, e0, l0, i0, g0⟩ := open_cells (m := 11) (f := RV.cells) (Good := fun r => (Lit.int .i64 r.save).wf = true) Tryz.underlying22 (by kernel_rfl) (by decide) (fun fuel cs x hl hx => open_rule hl hx) hd0
    obtain ⟨A1, k1, L1, e1, l1, i1, g1⟩ := open_cells (m := 2) (f := ZV.cells) (Good := fun z => z.eras.length ≤ maxLen ∧ CellsIn 13 EV.cells w z.A z.eras ∧ ∀ e ∈ z.eras, (-9223372036854775808 ≤ e.off ∧ e.off ≤ 9223372036854775807) ∧ (-9223372036854775808 ≤ e.save ∧ e.save ≤ 9223372036854775807)) Tryz.underlying23 (by kernel_rfl) (by decide) (fun fuel cs x hl hx => open_zone hl hx) hd1
    obtain ⟨A2, k2, L2, e2, l2, i2, _⟩ := open_cells (m := 2) (f := KV.cells) (Good := fun _ => True) Tryz.underlying24 (by kernel_rfl) (by decide) (fun fuel cs x hl hx => open_link hl hx) hd2
    obtain ⟨A3, k3, L3, e3, l3, i3, _⟩ := open_cells (m := 1) (f := fun b : ByteArray => [Value.string b]) (Good := fun _ => True) Tryz.underlying25 (by kernel_rfl) (by decide) (fun fuel cs x hl hx => open_word hl hx) hd3
    simp only [List.drop_succ_cons, List.drop_zero, List.take_succ_cons, List.take_zero, List.cons.injEq, and_true] at e0 e1 e2 e3
    subst e0 e1 e2 e3
    exact ⟨⟨A0, k0, L0, A1, k1, L1, A2, k2, L2, A3, k3, L3⟩, rfl, ⟨i0, i1, i2, i3, fun z hz => (g1 z hz).2.1⟩, ⟨l0, l1, l2, l3, fun z hz => (g1 z hz).1⟩, fun z hz => (g1 z hz).2.2, fun y hy => by
      obtain ⟨r, hr, rfl⟩ := List.mem_map.1 hy
      exact bounds_i64 (g0 r hr)⟩
end
end Go.Proofs.YtlideagcmhlkeaaGreatDoor

/- ExpandForms: for every input the law returns true, and each argument reads as before. No condition beside the row's own (the listed package-level variables read as listed; the card ties them to the program's text). -/
namespace Go.Proofs.YtlideagcmhlkeaaGreatDoor.lawExpandForms
open Go.ChangeShapes Go.WideShapes Go.ChangeAt Go.RowKit Go.Joins
open Go.ChangeMaps (open_string shut_string)
set_option linter.unusedVariables false

theorem laidOut : laidOutB Tryz.prog = true := by kernel_rfl
theorem own : ownKnob Tryz.prog.godebug = none := by kernel_rfl
theorem door_met (os : Os) (args : Array Value) : laidMetH Tryz.prog Rows.expandFormsRow.laid ((World.doorLaid Tryz.prog 400 os).forCall (fun _ _ => 0) ⟨#[], args, []⟩).memory :=
  laidMetH_of_parts3 (fuel := 8) (laidMet_of_run' 8 (by kernel_rfl) (by kernel_rfl)) (by kernel_rfl) (by kernel_rfl)
set_option maxRecDepth 100000 in
theorem lifted (os : Os) (started : os.Started) (H : Type) (enc : TypeId × Value → H) :
    ReturnsInHanded {} Tryz.checked os 3 .any (fun w args => (Rows.expandFormsSpec.pre enc Tryz.prog Tryz.f3 [] false w args ∧ laidMetH Tryz.prog Rows.expandFormsRow.laid w) ∧ sizedMet enc Tryz.prog Tryz.f3 (OpenSpec.ofChange Rows.expandFormsSpec) false w args)
      (Rows.expandFormsSpec.post enc Tryz.prog Tryz.f3 false true false false) := by
  refine handed_shaped (C := Tryz.checked) (X := fun w _ => laidMetH Tryz.prog Rows.expandFormsRow.laid w) (fun _ _ _ hh h => h.of_heap hh) own started (by kernel_rfl) Tryz.func3
    (ChangeSpec.witness_shaped (enc := enc) (C := Tryz.checked) (os := os) (X := fun w _ => laidMetH Tryz.prog Rows.expandFormsRow.laid w) false (World.doorLaid Tryz.prog 400 os) #[.agg #[.slice none 0 0, .slice none 0 0, .slice none 0 0, .slice none 0 0]] 8 rfl (World.shaped_of_RefB (by kernel_rfl) (by kernel_rfl)) (by kernel_rfl) (by kernel_rfl) (by kernel_rfl) (door_met os _)) ?_
  intro W base args ds gs before hval0 hW _ _ hL hsh _
  have hval : ∀ (j : Nat) t v, Tryz.f3.params[j]? = some t → args[j]? = some v → Value.okWide Tryz.prog W .any base t v := hval0
  have hW' := hW
  obtain ⟨p, q, hA0, hV, rfl, hfz, hnd⟩ := hW
  have hA : DataW.TrodAll enc Tryz.prog W 0 (fun _ => true) true Tryz.f3.params.toList args.toList ds p := hA0
  rw [Tryz.params3] at hA hval
  obtain ⟨v0, vs0, d0, ds0, p0, q0, hargs, rfl, rfl, h0, r0⟩ := trodAll_cons hA
  obtain ⟨rfl, rfl, rfl⟩ := trodAll_nil r0
  obtain rfl : args = #[v0] := by cases args; simp_all
  obtain ⟨rfl, rfl⟩ := trodVars_none hV
  have h0k := h0
  have hlt : ∀ x ∈ (p0 ++ []) ++ [], x.block < W.heap.size := fun x hx => by simpa using hW'.lt x hx
  have hvars := vars21_of_laid (show laidMet Tryz.prog Rows.expandFormsRow.laid W from hL) hsh
  have hk0 : ∀ W', Below W.heap.size W W' → DataW.Trod enc Tryz.prog W' 0 (fun b => decide (b < W.heap.size)) true 27 v0 d0 p0 := fun W' bel => Below.trod laidOut (by kernel_rfl) (of_decide_eq_true (by kernel_rfl)) h0k bel (fun x hx => hlt x (by simp [hx]))
  obtain ⟨⟨l0⟩, rfl, hz0⟩ := okWide_struct Tryz.underlying27 (hval 0 27 v0 rfl rfl)
  obtain ⟨f0, hf0⟩ := h0
  have hl0 : l0.length = 4 := hz0.trans (by kernel_rfl)
  obtain ⟨s0, hcs0, hS0, hZ0⟩ := open_source hl0 hf0
  subst hcs0
  clear hA0 hval0
  refine (walkExpandForms s0 W hS0 hZ0 hvars).mono fun e W' ⟨he, bel⟩ => ?_
  subst he
  exact ⟨_, rfl, _, _, _, [], _, [], hW', trodAll_mk1 (shut_bool Tryz.underlying4 _), trodAll_cons_mk (hk0 W' bel) (trodAll_mk0), rfl, World.keptBut_mono (fun p hp => ⟨hp, Or.inr (by simpa using hp)⟩) (bel.frame _), fun h => by cases h⟩

theorem said : Rows.ExpandFormsSaid :=
  OpenClaim.holds_of_wide 3 Tryz.f3 rfl rfl rfl rfl rfl rfl rfl ⟨rfl, rfl, rfl, rfl, rfl⟩ rfl rfl rfl rfl rfl (by kernel_rfl) Tryz.func3 (by kernel_rfl)
    (of_decide_eq_true (by kernel_rfl)) (by unfold Func.isWrapper; first | (rw [if_pos (by decide +kernel)]; kernel_rfl) | (rw [if_neg (by decide +kernel)]; exact ⟨rfl, rfl⟩))
    (fun os started H enc _ => lifted os started H enc)

/-- No parameter wants a stand-in; the program's own looks are off: what the card asks. -/
theorem plain (f : FuncId) (fn : Func) (hf : Tryz.pinned.checked.prog.funcNamed Rows.expandFormsRow.func = some f) (hfn : Tryz.pinned.checked.prog.funcs[f]? = some fn) :
    true = Tryz.pinned.checked.prog.looks [] ∧ ∀ (j : Nat) t, fn.params[j]? = some t → Tryz.pinned.checked.prog.wantsStandIn t = false := by
  obtain rfl : f = 3 := Option.some.inj ((show Tryz.prog.funcNamed Rows.expandFormsRow.func = some 3 by kernel_rfl).symm.trans hf) |>.symm
  obtain rfl : fn = Tryz.f3 := (Option.some.inj (Tryz.func3.symm.trans hfn)).symm
  refine ⟨by kernel_rfl, fun j t ht => ?_⟩
  rw [Tryz.params3] at ht
  have hm := Array.mem_of_getElem? ht
  have hm2 : t = 27 := by simpa using hm
  subst hm2
  exact (show Tryz.prog.wantsStandIn 27 = false by kernel_rfl)
/-- THE CARD -/
theorem card : Rows.ExpandFormsCardSaid :=
  Claim7.holds_tied_plain_at .later [] _ _ _ _ said (fun _ h => by cases h) (by kernel_rfl) (fun _ h => by cases h) expandForms_row_tie rfl ⟨rfl, rfl⟩ (by kernel_rfl) rfl plain (by kernel_rfl)
end Go.Proofs.YtlideagcmhlkeaaGreatDoor.lawExpandForms
