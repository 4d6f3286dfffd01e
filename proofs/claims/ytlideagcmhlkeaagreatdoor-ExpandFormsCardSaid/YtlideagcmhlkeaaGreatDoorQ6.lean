/- Texts of one proof, one behind the other: Rexp30; Few14; Laid21; Shape; Open20. -/
import Derived.Test.YtlideagcmhlkeaaGreatDoorQ5
import Derived.BigRegion
import Derived.IntWalk
import Derived.Test.YtlideagcmhlkeaaGreatDoorRows
import Derived.Lib.LaidTab
import Derived.Stop.LaidErr
import Derived.Handed
import Derived.HandedShaped
import Derived.Deep.Slices
import Derived.Deep.Fields
import Derived.ChangeSame
import Derived.WideShapes

/- The reference of chapter 30: Expand and Contract. -/
namespace Go.Proofs.YtlideagcmhlkeaaGreatDoor
open Go.RowKit Go.Lib
set_option linter.unusedVariables false
set_option linter.unusedSimpArgs false

/-- where the walk stands: the boxes, the copy whose zones are Y, what is changed so far -/
structure Rx (w W : World) (s c : SV) (F : EV → ByteArray × Int) (G0 base : Nat) (Y : List ZV) (i k : Nat) : Prop where
  src : Blk W w.heap.size 27 #[.slice s.rA s.rules.length s.rc, .slice s.zA s.zones.length s.zc, .slice s.kA s.links.length s.kc, .slice s.hA s.shifts.length s.hc]
  res : Blk W (w.heap.size + 1) 27 #[.slice none 0 0, .slice none 0 0, .slice none 0 0, .slice none 0 0]
  box : Blk W G0 27 #[.slice c.rA c.rules.length c.rc, .slice c.zA c.zones.length c.zc, .slice c.kA c.links.length c.kc, .slice c.hA c.shifts.length c.hc]
  cp : CopyOf W base { c with zones := Y } { c with zones := Y }
  par : part30 (fmtE F) s.zones Y i k
  ok : okTo30 F s.zones i k
  bel : Below w.heap.size w W
  le : w.heap.size + 2 ≤ base ∧ w.heap.size + 2 ≤ G0
theorem Rx.below {w W W' : World} {s c : SV} {F : EV → ByteArray × Int} {G0 base : Nat} {Y : List ZV} {i k : Nat} (h : Rx w W s c F G0 base Y i k) (hb : Below W.heap.size W W') : Rx w W' s c F G0 base Y i k :=
  ⟨h.src.below hb h.src.lt, h.res.below hb h.res.lt, h.box.below hb h.box.lt, h.cp.below hb, h.par, h.ok, h.bel.trans (hb.mono h.bel.size), h.le⟩
theorem Rx.skip {w W : World} {s c : SV} {F : EV → ByteArray × Int} {G0 base : Nat} {Y : List ZV} {i k : Nat} {z : ZV} {e : EV} (h : Rx w W s c F G0 base Y i k) (hz : s.zones[i]? = some z) (he : z.eras[k]? = some e) (h0 : F e = (e.fmt, 0)) : Rx w W s c F G0 base Y i (k + 1) :=
  ⟨h.src, h.res, h.box, h.cp, h.par.skip hz he (by unfold fmtE; rw [h0]), h.ok.step hz he (by rw [h0]), h.bel, h.le⟩
theorem Rx.zone {w W : World} {s c : SV} {F : EV → ByteArray × Int} {G0 base : Nat} {Y : List ZV} {i k : Nat} {z : ZV} (h : Rx w W s c F G0 base Y i k) (hz : s.zones[i]? = some z) (hk : z.eras.length ≤ k) : Rx w W s c F G0 base Y (i + 1) 0 :=
  ⟨h.src, h.res, h.box, h.cp, h.par.zone hz hk, h.ok.zone hz hk, h.bel, h.le⟩
/-- the era at a place of the copy: where it lies -/
theorem Rx.at_ {w W : World} {s c : SV} {F : EV → ByteArray × Int} {G0 base : Nat} {Y : List ZV} {i k : Nat} {z : ZV} {e : EV} (h : Rx w W s c F G0 base Y i k) (hz : s.zones[i]? = some z) (he : z.eras[k]? = some e) :
    ∃ (y : ZV) (zg yg : Nat), Y[i]? = some y ∧ c.zA = some ⟨zg, 0, none⟩ ∧ y.A = some ⟨yg, 0, none⟩ ∧ W.cell? ⟨zg, i * 2 + 1, none⟩ = some (.slice (some ⟨yg, 0, none⟩) z.eras.length y.c) ∧ W.cell? ⟨yg, k * 13 + 4, none⟩ = some (.string e.fmt) ∧ W.frozen? ⟨yg, k * 13 + 4, none⟩ = false ∧ Y.length = s.zones.length := by
  obtain ⟨y, hy, hye⟩ := h.par.at_ hz he
  have hyl := (List.getElem?_eq_some_iff.1 hy).1
  obtain ⟨zg, hzA, _, _⟩ := h.cp.zones.1.addr (by show 0 < Y.length; omega)
  have hkl := (List.getElem?_eq_some_iff.1 hye).1
  obtain ⟨yg, hyA, _, _⟩ := h.cp.eraAddr (show ({ c with zones := Y } : SV).zones[i]? = some y from hy) (by omega)
  have hzr : RowOf W base 44 2 ZV.cells c.zA c.zc Y := h.cp.zones.1
  rw [show c.zA = some ⟨zg, 0, none⟩ from hzA] at hzr
  have her := h.cp.zones.2.eras i y hy
  rw [hyA] at her
  have q1 := hzr.cellAt len_zone hy 1 _ rfl
  rw [hyA, (h.par.2 i z y hz hy).2.1] at q1
  exact ⟨y, zg, yg, hy, hzA, hyA, q1, her.cellAt len_era hye 4 _ rfl, her.frozenAt _, h.par.1⟩
theorem Rx.set_ {w W : World} {s c : SV} {F : EV → ByteArray × Int} {G0 base : Nat} {Y : List ZV} {i k : Nat} {z y : ZV} {e : EV} {yg : Nat} (h : Rx w W s c F G0 base Y i k) (hz : s.zones[i]? = some z) (he : z.eras[k]? = some e) (hy : Y[i]? = some y) (hA : y.A = some ⟨yg, 0, none⟩) (f : ByteArray) (h0 : F e = (f, 0)) :
    Rx w (W.setCell ⟨yg, k * 13 + 4, none⟩ (.string f)) s c F G0 base (Y.set i { y with eras := y.eras.set k (fmtE F e) }) i (k + 1) := by
  have her := h.cp.zones.2.eras i y hy
  rw [hA] at her
  have hO : (Value.slice (some ⟨yg, 0, none⟩) y.eras.length y.c).ownBlock = some yg := rfl
  obtain ⟨y', hy', hye⟩ := h.par.at_ hz he
  rw [hy] at hy'
  injection hy' with hy'
  subst hy'
  have hge := (World.ownsRow.lt her yg rfl).1
  have hl := h.le
  refine ⟨blk_set_other h.src her hO (by decide) _, blk_set_other h.res her hO (by decide) _, blk_set_other h.box her hO (by decide) _, ?_, h.par.step hz hy he, h.ok.step hz he (by rw [h0]), h.bel.setCell (by show w.heap.size ≤ yg; omega) _, h.le⟩
  exact h.cp.setCell (t := { c with zones := Y }) hy hA hye (.string f) (by decide) (by unfold fmtE; rw [h0]; rfl)
theorem Rx.done {w W : World} {s c : SV} {F : EV → ByteArray × Int} {G0 base : Nat} {Y : List ZV} {i : Nat} (h : Rx w W s c F G0 base Y i 0) (hi : s.zones.length ≤ i) (hc : sSame14 c s) : sSame14 { c with zones := Y } (mapS (fmtE F) s) ∧ ErrIs F s.zones 0 :=
  ⟨⟨hc.rules, hc.links, hc.shifts, h.par.all hi⟩, ErrIs.ok h.ok hi⟩

set_option maxRecDepth 100000 in
set_option maxHeartbeats 16000000 in
theorem rexpand_any (s : SV) (w : World) (hS : SrcIn w s) (hf : Few30 s) :
    Calls Tryz.prog 8 #[.agg #[.slice s.rA s.rules.length s.rc, .slice s.zA s.zones.length s.zc, .slice s.kA s.links.length s.kc, .slice s.hA s.shifts.length s.hc]] w fun x w' => ∃ (t : SV) (n : Int), x = .returned (.tuple #[.agg #[.slice t.rA t.rules.length t.rc, .slice t.zA t.zones.length t.zc, .slice t.kA t.links.length t.kc, .slice t.hA t.shifts.length t.hc], .int .i64 n]) ∧ SrcG w' t ∧ Res30 (exF s.rules) s t n ∧ Below w.heap.size w w' := by
  have HS := Lib.hid hS; have HFW := Lib.hid hf
  have hl2 : (s.zones.length : Int) ≤ 1000 := by have := hf.lens.2.1; omega
  have hb0 := ((Below.refl w.heap.size w).alloc (Nat.le_refl _) (.cells #[.slice s.rA s.rules.length s.rc, .slice s.zA s.zones.length s.zc, .slice s.kA s.links.length s.kc, .slice s.hA s.shifts.length s.hc] 27)).alloc (by simp) (.cells #[.slice none 0 0, .slice none 0 0, .slice none 0 0, .slice none 0 0] 27)
  have hx0 := (Blk.new w 27 #[.slice s.rA s.rules.length s.rc, .slice s.zA s.zones.length s.zc, .slice s.kA s.links.length s.kc, .slice s.hA s.shifts.length s.hc]).alloc (.cells #[.slice none 0 0, .slice none 0 0, .slice none 0 0, .slice none 0 0] 27)
  have hr0 := Blk.newAt (w.alloc (.cells #[.slice s.rA s.rules.length s.rc, .slice s.zA s.zones.length s.zc, .slice s.kA s.links.length s.kc, .slice s.hA s.shifts.length s.hc] 27)) (w.heap.size + 1) (by simp) 27 #[.slice none 0 0, .slice none 0 0, .slice none 0 0, .slice none 0 0]
  have HX0 := Lib.hid hx0; have HR0 := Lib.hid hr0; have HB0 := Lib.hid hb0
  have cC := Lib.hid (copy14 s _ (hS.below hb0) hf)
  have c0 := (hx0.cell 0).trans rfl
  have c1 := (hx0.cell 1).trans rfl
  have c2 := (hx0.cell 2).trans rfl
  have c3 := (hx0.cell 3).trans rfl
  clear hS hf hb0 hx0 hr0
  go_enter Tryz.func8, Tryz.ntmps8
  go_wp2_with fail
  refine cC.out.mono ?_
  rintro x W2 ⟨c, rfl, hC, hc⟩
  have hal := (Below.refl W2.heap.size W2).alloc (Nat.le_refl _) (.cells #[.slice c.rA c.rules.length c.rc, .slice c.zA c.zones.length c.zc, .slice c.kA c.links.length c.kc, .slice c.hA c.shifts.length c.hc] 27)
  have hcs := hc.size
  have HRX := Lib.hid (show Rx w (W2.alloc (.cells #[.slice c.rA c.rules.length c.rc, .slice c.zA c.zones.length c.zc, .slice c.kA c.links.length c.kc, .slice c.hA c.shifts.length c.hc] 27)) s c (exF s.rules) W2.heap.size (w.heap.size + 4) c.zones 0 0 from ⟨(HX0.out.below hc HX0.out.lt).below hal (HX0.out.below hc HX0.out.lt).lt, (HR0.out.below hc HR0.out.lt).below hal (HR0.out.below hc HR0.out.lt).lt, Blk.new W2 27 #[.slice c.rA c.rules.length c.rc, .slice c.zA c.zones.length c.zc, .slice c.kA c.links.length c.kc, .slice c.hA c.shifts.length c.hc], (by have q := (hC.self).below hal; rw [show ((w.alloc (.cells #[.slice s.rA s.rules.length s.rc, .slice s.zA s.zones.length s.zc, .slice s.kA s.links.length s.kc, .slice s.hA s.shifts.length s.hc] 27)).alloc (.cells #[.slice none 0 0, .slice none 0 0, .slice none 0 0, .slice none 0 0] 27)).heap.size + 2 = w.heap.size + 4 by simp] at q; exact q), part30.start hC.same.zones, okTo30.zero _ _, (HB0.out.trans (hc.mono HB0.out.size)).trans (hal.mono (HB0.out.trans (hc.mono HB0.out.size)).size), by omega, by simp at hcs; omega⟩)
  have HCS := Lib.hid hC.same
  clear hC hc hal hcs cC HX0 HR0 HB0 c0 c1 c2 c3
  go_wp2_with fail
  generalize W2.heap.size = G0 at HRX ⊢
  go_loopw [5] (fun i W => ∃ a : Nat, a ≤ s.zones.length ∧ i = .int .i64 a ∧ ∃ Y, Rx w W s c (exF s.rules) G0 (w.heap.size + 4) Y a 0) (fun i _ => s.zones.length - (intOf i).toNat)
  case atStart => exact ⟨0, Nat.zero_le _, rfl, c.zones, HRX.out⟩
  case round =>
    clear HRX
    obtain ⟨wo, hwo⟩ : ∃ x, x = wr := ⟨_, rfl⟩
    subst hwo
    obtain ⟨a, ha, rfl, Y, hrx⟩ := hrel
    have HRX := Lib.hid hrx
    have c1 := (hrx.src.cell 1).trans rfl
    by_cases hlt : a < s.zones.length
    · have hki : (a : Int) < (s.zones.length : Int) := by omega
      have hk0 : (0 : Int) ≤ (a : Int) := by omega
      obtain ⟨z, hz⟩ : ∃ z, s.zones[a]? = some z := ⟨_, List.getElem?_eq_getElem hlt⟩
      have HZM := Lib.hid (List.mem_of_getElem? hz); have HKZ := Lib.hid hz; have HLT := Lib.hid hlt
      have hle : z.eras.length ≤ 1000 := HFW.out.eras z HZM.out
      have hle2 : (z.eras.length : Int) ≤ 1000 := by omega
      clear hrx hz hlt
      go_wp2_with fail
      clear c1
      go_loopw [6] (fun i W => ∃ k : Nat, k ≤ z.eras.length ∧ i = .int .i64 k ∧ ∃ Y, Rx w W s c (exF s.rules) G0 (w.heap.size + 4) Y a k) (fun i _ => z.eras.length - (intOf i).toNat)
      case atStart => exact ⟨0, Nat.zero_le _, rfl, Y, HRX.out⟩
      case round =>
        clear HRX
        obtain ⟨k, hk, rfl, Y, hrx⟩ := hrel
        obtain ⟨gz, oz, hzA, hgz, haz⟩ := (HS.out.zones.below hrx.bel) a z HKZ.out
        have n1 : wr.cell? ⟨gz, oz + a * 2 + 1, none⟩ = some (.slice z.A z.eras.length z.c) := haz 1 _ rfl
        have c1 := (hrx.src.cell 1).trans rfl
        rw [hzA] at c1
        by_cases hlk : k < z.eras.length
        · have hkk : (k : Int) < (z.eras.length : Int) := by omega
          have hk1 : (0 : Int) ≤ (k : Int) := by omega
          obtain ⟨e, he⟩ : ∃ e, z.eras[k]? = some e := ⟨_, List.getElem?_eq_getElem hlk⟩
          obtain ⟨ge, oe, heA, hge, hae⟩ := ((HS.out.eras z HZM.out).below hrx.bel) k e he
          rw [heA] at n1
          have y0 : wr.cell? ⟨ge, oe + k * 13, none⟩ = some (.int .i64 e.off) := hae 0 _ rfl
          have y1 := hae 1 _ rfl
          have y2 := hae 2 _ rfl
          have y3 := hae 3 _ rfl
          have y4 := hae 4 _ rfl
          have y5 := hae 5 _ rfl
          have y6 := hae 6 _ rfl
          have y7 := hae 7 _ rfl
          have y8 := hae 8 _ rfl
          have y9 := hae 9 _ rfl
          have y10 := hae 10 _ rfl
          have y11 := hae 11 _ rfl
          have y12 := hae 12 _ rfl
          have hal := (Below.refl wr.heap.size wr).alloc (Nat.le_refl _) (.cells #[.int .i64 e.off, .int .i64 e.kind, .int .i64 e.save, .string e.set, .string e.fmt, .bool e.ui, .int .i64 e.uy, .int .i64 e.um, .int .i64 e.dk, .int .i64 e.dw, .int .i64 e.dd, .int .i64 e.asec, .int .i64 e.ab] 48)
          have HRX := Lib.hid (hrx.below hal)
          have HEB := Lib.hid (Blk.new wr 48 #[.int .i64 e.off, .int .i64 e.kind, .int .i64 e.save, .string e.set, .string e.fmt, .bool e.ui, .int .i64 e.uy, .int .i64 e.um, .int .i64 e.dk, .int .i64 e.dw, .int .i64 e.dd, .int .i64 e.asec, .int .i64 e.ab])
          have HE := Lib.hid he; have HLK := Lib.hid hlk
          have HBD := Lib.hid (HFW.out.nums z HZM.out e (List.mem_of_getElem? he))
          have cN := Lib.hid (fun W (hb : Below (wr.alloc (.cells #[.int .i64 e.off, .int .i64 e.kind, .int .i64 e.save, .string e.set, .string e.fmt, .bool e.ui, .int .i64 e.uy, .int .i64 e.um, .int .i64 e.dk, .int .i64 e.dw, .int .i64 e.dd, .int .i64 e.asec, .int .i64 e.ab] 48)).heap.size (wr.alloc (.cells #[.int .i64 e.off, .int .i64 e.kind, .int .i64 e.save, .string e.set, .string e.fmt, .bool e.ui, .int .i64 e.uy, .int .i64 e.um, .int .i64 e.dk, .int .i64 e.dw, .int .i64 e.dd, .int .i64 e.asec, .int .i64 e.ab] 48)) W) => rnum30_any s e W ((HS.out.below (hrx.below hal).bel).below hb) HFW.out.lens.1 HFW.out.saves HBD.out.1 HBD.out.2.1)
          have hE4 := (HEB.out.cell 4).trans rfl
          clear hrx haz hae hzA heA hgz hge hal he hlk
          by_cases hz : e.fmt = ⟨#[37, 122]⟩
          · have hd : (e.fmt.toList == [37, 122]) = true := by rw [hz]; decide +kernel
            obtain ⟨X, N, hXN⟩ : ∃ X N, num30 s.rules e = (X, N) := ⟨_, _, rfl⟩
            have HFE := Lib.hid (show exF s.rules e = (X, N) from by unfold exF; rw [if_pos hz, hXN])
            rw [hXN] at cN
            clear hz hXN
            have b0 := (HRX.out.src.cell 0).trans rfl
            have b1 := (HRX.out.src.cell 1).trans rfl
            have b2 := (HRX.out.src.cell 2).trans rfl
            have b3 := (HRX.out.src.cell 3).trans rfl
            clear hE4
            have d0 := (HEB.out.cell 0).trans rfl
            have d1 := (HEB.out.cell 1).trans rfl
            have d2 := (HEB.out.cell 2).trans rfl
            have d3 := (HEB.out.cell 3).trans rfl
            have d4 := (HEB.out.cell 4).trans rfl
            have d5 := (HEB.out.cell 5).trans rfl
            have d6 := (HEB.out.cell 6).trans rfl
            have d7 := (HEB.out.cell 7).trans rfl
            have d8 := (HEB.out.cell 8).trans rfl
            have d9 := (HEB.out.cell 9).trans rfl
            have d10 := (HEB.out.cell 10).trans rfl
            have d11 := (HEB.out.cell 11).trans rfl
            have d12 := (HEB.out.cell 12).trans rfl
            go_wp2_with fail
            refine (cN.out _ (Below.refl _ _)).mono ?_
            rintro x W4 ⟨rfl, hc⟩
            have HRX := Lib.hid (HRX.out.below hc)
            clear hc cN b0 b1 b2 b3 d0 d1 d2 d3 d4 d5 d6 d7 d8 d9 d10 d11 d12 y0 y1 y2 y3 y4 y5 y6 y7 y8 y9 y10 y11 y12 n1 c1
            by_cases hn : N = 0
            · subst hn
              obtain ⟨y, zg, yg, hy, hcA, hyA, q1, q2, q3, hYl⟩ := HRX.out.at_ HKZ.out HE.out
              have p1 := (HRX.out.box.cell 1).trans rfl
              have hcl : c.zones.length = s.zones.length := HCS.out.zones.1
              rw [hcA, hcl] at p1
              have HRX2 := Lib.hid (HRX.out.set_ HKZ.out HE.out hy hyA X HFE.out)
              clear hy hcA hyA hYl hcl HRX
              go_wp2_with fail
              go_roundw
              case rel => exact ⟨k + 1, by have := HLK.out; omega, by go_num, _, HRX2.out⟩
              case measure => have := HLK.out; simp [intOf]; omega
            · have hdn : (N == 0) = false := by simpa using hn
              have HN := Lib.hid hn
              clear hn
              have hr4 := HRX.out.res
              have r0 := (hr4.cell 0).trans rfl
              have r1 := (hr4.cell 1).trans rfl
              have r2 := (hr4.cell 2).trans rfl
              have r3 := (hr4.cell 3).trans rfl
              have g0 := hr4.frozen 0
              have g1 := hr4.frozen 1
              have g2 := hr4.frozen 2
              have g3 := hr4.frozen 3
              have q4 := GS.set4 hr4 (.slice none 0 0) (.slice none 0 0) (.slice none 0 0) (.slice none 0 0)
              have k0 := (q4.2.cell 0).trans rfl; have k1 := (q4.2.cell 1).trans rfl; have k2 := (q4.2.cell 2).trans rfl; have k3 := (q4.2.cell 3).trans rfl
              clear hr4 q4
              go_wp2_with fail
              refine bodyPost_ret (v := .tuple #[.agg #[.slice none 0 0, .slice none 0 0, .slice none 0 0, .slice none 0 0], .int .i64 N]) (by simp [results, Tryz.results8, go_sem, k0, k1, k2, k3]) rfl ?_
              exact ⟨nilS, N, rfl, fun V _ => nilS_in V, ⟨by have q := ErrIs.bad HRX.out.ok HKZ.out HE.out (by rw [HFE.out]; exact HN.out); rw [HFE.out] at q; exact q, fun h => absurd h (by first | exact HN.out | decide), fun _ => sSame14.rfl' _⟩, below_set4 HRX.out.bel (Nat.le_succ _) _ _ _ _⟩
          · have hd : (e.fmt.toList == [37, 122]) = false := by have q := eq_b e.fmt (str [37, 122]) hz; rwa [str_toList] at q
            have HFE := Lib.hid (show exF s.rules e = (e.fmt, 0) from by unfold exF; rw [if_neg hz])
            have HRX2 := Lib.hid (HRX.out.skip HKZ.out HE.out HFE.out)
            clear hz cN HRX
            go_wp2_with fail
            go_roundw
            case rel => exact ⟨k + 1, by have := HLK.out; omega, by go_num, _, HRX2.out⟩
            case measure => have := HLK.out; simp [intOf]; omega
        · obtain rfl : k = z.eras.length := by omega
          have HRX2 := Lib.hid (hrx.zone HKZ.out (Nat.le_refl _))
          clear hrx haz hzA hgz hlk hk
          go_wp2_with fail
          go_roundw
          case rel => exact ⟨a + 1, by have := HLT.out; omega, by go_num, _, HRX2.out⟩
          case measure => have := HLT.out; simp [intOf]; omega
    · obtain rfl : a = s.zones.length := by omega
      have hdn := hrx.done (Nat.le_refl _) HCS.out
      have p0 := (hrx.box.cell 0).trans rfl
      have p1 := (hrx.box.cell 1).trans rfl
      have p2 := (hrx.box.cell 2).trans rfl
      have p3 := (hrx.box.cell 3).trans rfl
      have r0 := (hrx.res.cell 0).trans rfl
      have r1 := (hrx.res.cell 1).trans rfl
      have r2 := (hrx.res.cell 2).trans rfl
      have r3 := (hrx.res.cell 3).trans rfl
      have g0 := hrx.res.frozen 0
      have g1 := hrx.res.frozen 1
      have g2 := hrx.res.frozen 2
      have g3 := hrx.res.frozen 3
      have q4 := GS.set4 hrx.res (.slice c.rA c.rules.length c.rc) (.slice c.zA c.zones.length c.zc) (.slice c.kA c.links.length c.kc) (.slice c.hA c.shifts.length c.hc)
      have k0 := (q4.2.cell 0).trans rfl; have k1 := (q4.2.cell 1).trans rfl; have k2 := (q4.2.cell 2).trans rfl; have k3 := (q4.2.cell 3).trans rfl
      have HQ := Lib.hid q4.1; have HD := Lib.hid hdn
      clear q4 hdn hrx
      go_wp2_with fail
      refine bodyPost_ret (v := .tuple #[.agg #[.slice c.rA c.rules.length c.rc, .slice c.zA c.zones.length c.zc, .slice c.kA c.links.length c.kc, .slice c.hA c.shifts.length c.hc], .int .i64 0]) (by simp [results, Tryz.results8, go_sem, k0, k1, k2, k3]) rfl ?_
      have hYl : Y.length = c.zones.length := HRX.out.par.1.trans HCS.out.zones.1.symm
      refine ⟨{ c with zones := Y }, 0, by show _ = Ending.returned (.tuple #[.agg #[.slice c.rA c.rules.length c.rc, .slice c.zA Y.length c.zc, .slice c.kA c.links.length c.kc, .slice c.hA c.shifts.length c.hc], .int .i64 0]); rw [hYl], (HRX.out.cp.gs HQ.out).srcG, ⟨HD.out.2, fun _ => HD.out.1, fun h => absurd rfl h⟩, below_set4 HRX.out.bel (Nat.le_succ _) _ _ _ _⟩
set_option maxRecDepth 100000 in
set_option maxHeartbeats 16000000 in
theorem rcontract_any (s : SV) (w : World) (hS : SrcIn w s) (hf : Few30 s) :
    Calls Tryz.prog 10 #[.agg #[.slice s.rA s.rules.length s.rc, .slice s.zA s.zones.length s.zc, .slice s.kA s.links.length s.kc, .slice s.hA s.shifts.length s.hc]] w fun x w' => ∃ (t : SV) (n : Int), x = .returned (.tuple #[.agg #[.slice t.rA t.rules.length t.rc, .slice t.zA t.zones.length t.zc, .slice t.kA t.links.length t.kc, .slice t.hA t.shifts.length t.hc], .int .i64 n]) ∧ SrcG w' t ∧ Res30 (coF s.rules) s t n ∧ Below w.heap.size w w' := by
  have HS := Lib.hid hS; have HFW := Lib.hid hf
  have hl2 : (s.zones.length : Int) ≤ 1000 := by have := hf.lens.2.1; omega
  have hb0 := ((Below.refl w.heap.size w).alloc (Nat.le_refl _) (.cells #[.slice s.rA s.rules.length s.rc, .slice s.zA s.zones.length s.zc, .slice s.kA s.links.length s.kc, .slice s.hA s.shifts.length s.hc] 27)).alloc (by simp) (.cells #[.slice none 0 0, .slice none 0 0, .slice none 0 0, .slice none 0 0] 27)
  have hx0 := (Blk.new w 27 #[.slice s.rA s.rules.length s.rc, .slice s.zA s.zones.length s.zc, .slice s.kA s.links.length s.kc, .slice s.hA s.shifts.length s.hc]).alloc (.cells #[.slice none 0 0, .slice none 0 0, .slice none 0 0, .slice none 0 0] 27)
  have hr0 := Blk.newAt (w.alloc (.cells #[.slice s.rA s.rules.length s.rc, .slice s.zA s.zones.length s.zc, .slice s.kA s.links.length s.kc, .slice s.hA s.shifts.length s.hc] 27)) (w.heap.size + 1) (by simp) 27 #[.slice none 0 0, .slice none 0 0, .slice none 0 0, .slice none 0 0]
  have HX0 := Lib.hid hx0; have HR0 := Lib.hid hr0; have HB0 := Lib.hid hb0
  have cC := Lib.hid (copy14 s _ (hS.below hb0) hf)
  have c0 := (hx0.cell 0).trans rfl
  have c1 := (hx0.cell 1).trans rfl
  have c2 := (hx0.cell 2).trans rfl
  have c3 := (hx0.cell 3).trans rfl
  clear hS hf hb0 hx0 hr0
  go_enter Tryz.func10, Tryz.ntmps10
  go_wp2_with fail
  refine cC.out.mono ?_
  rintro x W2 ⟨c, rfl, hC, hc⟩
  have hal := (Below.refl W2.heap.size W2).alloc (Nat.le_refl _) (.cells #[.slice c.rA c.rules.length c.rc, .slice c.zA c.zones.length c.zc, .slice c.kA c.links.length c.kc, .slice c.hA c.shifts.length c.hc] 27)
  have hcs := hc.size
  have HRX := Lib.hid (show Rx w (W2.alloc (.cells #[.slice c.rA c.rules.length c.rc, .slice c.zA c.zones.length c.zc, .slice c.kA c.links.length c.kc, .slice c.hA c.shifts.length c.hc] 27)) s c (coF s.rules) W2.heap.size (w.heap.size + 4) c.zones 0 0 from ⟨(HX0.out.below hc HX0.out.lt).below hal (HX0.out.below hc HX0.out.lt).lt, (HR0.out.below hc HR0.out.lt).below hal (HR0.out.below hc HR0.out.lt).lt, Blk.new W2 27 #[.slice c.rA c.rules.length c.rc, .slice c.zA c.zones.length c.zc, .slice c.kA c.links.length c.kc, .slice c.hA c.shifts.length c.hc], (by have q := (hC.self).below hal; rw [show ((w.alloc (.cells #[.slice s.rA s.rules.length s.rc, .slice s.zA s.zones.length s.zc, .slice s.kA s.links.length s.kc, .slice s.hA s.shifts.length s.hc] 27)).alloc (.cells #[.slice none 0 0, .slice none 0 0, .slice none 0 0, .slice none 0 0] 27)).heap.size + 2 = w.heap.size + 4 by simp] at q; exact q), part30.start hC.same.zones, okTo30.zero _ _, (HB0.out.trans (hc.mono HB0.out.size)).trans (hal.mono (HB0.out.trans (hc.mono HB0.out.size)).size), by omega, by simp at hcs; omega⟩)
  have HCS := Lib.hid hC.same
  clear hC hc hal hcs cC HX0 HR0 HB0 c0 c1 c2 c3
  go_wp2_with fail
  generalize W2.heap.size = G0 at HRX ⊢
  go_loopw [5] (fun i W => ∃ a : Nat, a ≤ s.zones.length ∧ i = .int .i64 a ∧ ∃ Y, Rx w W s c (coF s.rules) G0 (w.heap.size + 4) Y a 0) (fun i _ => s.zones.length - (intOf i).toNat)
  case atStart => exact ⟨0, Nat.zero_le _, rfl, c.zones, HRX.out⟩
  case round =>
    clear HRX
    obtain ⟨wo, hwo⟩ : ∃ x, x = wr := ⟨_, rfl⟩
    subst hwo
    obtain ⟨a, ha, rfl, Y, hrx⟩ := hrel
    have HRX := Lib.hid hrx
    have c1 := (hrx.src.cell 1).trans rfl
    by_cases hlt : a < s.zones.length
    · have hki : (a : Int) < (s.zones.length : Int) := by omega
      have hk0 : (0 : Int) ≤ (a : Int) := by omega
      obtain ⟨z, hz⟩ : ∃ z, s.zones[a]? = some z := ⟨_, List.getElem?_eq_getElem hlt⟩
      have HZM := Lib.hid (List.mem_of_getElem? hz); have HKZ := Lib.hid hz; have HLT := Lib.hid hlt
      have hle : z.eras.length ≤ 1000 := HFW.out.eras z HZM.out
      have hle2 : (z.eras.length : Int) ≤ 1000 := by omega
      clear hrx hz hlt
      go_wp2_with fail
      clear c1
      go_loopw [6] (fun i W => ∃ k : Nat, k ≤ z.eras.length ∧ i = .int .i64 k ∧ ∃ Y, Rx w W s c (coF s.rules) G0 (w.heap.size + 4) Y a k) (fun i _ => z.eras.length - (intOf i).toNat)
      case atStart => exact ⟨0, Nat.zero_le _, rfl, Y, HRX.out⟩
      case round =>
        clear HRX
        obtain ⟨k, hk, rfl, Y, hrx⟩ := hrel
        obtain ⟨gz, oz, hzA, hgz, haz⟩ := (HS.out.zones.below hrx.bel) a z HKZ.out
        have n1 : wr.cell? ⟨gz, oz + a * 2 + 1, none⟩ = some (.slice z.A z.eras.length z.c) := haz 1 _ rfl
        have c1 := (hrx.src.cell 1).trans rfl
        rw [hzA] at c1
        by_cases hlk : k < z.eras.length
        · have hkk : (k : Int) < (z.eras.length : Int) := by omega
          have hk1 : (0 : Int) ≤ (k : Int) := by omega
          obtain ⟨e, he⟩ : ∃ e, z.eras[k]? = some e := ⟨_, List.getElem?_eq_getElem hlk⟩
          obtain ⟨ge, oe, heA, hge, hae⟩ := ((HS.out.eras z HZM.out).below hrx.bel) k e he
          rw [heA] at n1
          have y0 : wr.cell? ⟨ge, oe + k * 13, none⟩ = some (.int .i64 e.off) := hae 0 _ rfl
          have y1 := hae 1 _ rfl
          have y2 := hae 2 _ rfl
          have y3 := hae 3 _ rfl
          have y4 := hae 4 _ rfl
          have y5 := hae 5 _ rfl
          have y6 := hae 6 _ rfl
          have y7 := hae 7 _ rfl
          have y8 := hae 8 _ rfl
          have y9 := hae 9 _ rfl
          have y10 := hae 10 _ rfl
          have y11 := hae 11 _ rfl
          have y12 := hae 12 _ rfl
          have hal := (Below.refl wr.heap.size wr).alloc (Nat.le_refl _) (.cells #[.int .i64 e.off, .int .i64 e.kind, .int .i64 e.save, .string e.set, .string e.fmt, .bool e.ui, .int .i64 e.uy, .int .i64 e.um, .int .i64 e.dk, .int .i64 e.dw, .int .i64 e.dd, .int .i64 e.asec, .int .i64 e.ab] 48)
          have HRX := Lib.hid (hrx.below hal)
          have HEB := Lib.hid (Blk.new wr 48 #[.int .i64 e.off, .int .i64 e.kind, .int .i64 e.save, .string e.set, .string e.fmt, .bool e.ui, .int .i64 e.uy, .int .i64 e.um, .int .i64 e.dk, .int .i64 e.dw, .int .i64 e.dd, .int .i64 e.asec, .int .i64 e.ab])
          have HE := Lib.hid he; have HLK := Lib.hid hlk
          have HBD := Lib.hid (HFW.out.nums z HZM.out e (List.mem_of_getElem? he))
          have cN := Lib.hid (fun W (hb : Below (wr.alloc (.cells #[.int .i64 e.off, .int .i64 e.kind, .int .i64 e.save, .string e.set, .string e.fmt, .bool e.ui, .int .i64 e.uy, .int .i64 e.um, .int .i64 e.dk, .int .i64 e.dw, .int .i64 e.dd, .int .i64 e.asec, .int .i64 e.ab] 48)).heap.size (wr.alloc (.cells #[.int .i64 e.off, .int .i64 e.kind, .int .i64 e.save, .string e.set, .string e.fmt, .bool e.ui, .int .i64 e.uy, .int .i64 e.um, .int .i64 e.dk, .int .i64 e.dw, .int .i64 e.dd, .int .i64 e.asec, .int .i64 e.ab] 48)) W) => rnum30_any s e W ((HS.out.below (hrx.below hal).bel).below hb) HFW.out.lens.1 HFW.out.saves HBD.out.1 HBD.out.2.1)
          have hE4 := (HEB.out.cell 4).trans rfl
          clear hrx haz hae hzA heA hgz hge hal he hlk
          have cK := Lib.hid (fun W => rkind_any e.fmt W HBD.out.2.2)
          by_cases hk5 : P21.kind (P4.bl e.fmt) = 5
          · rw [hk5] at cK
            obtain ⟨X, N, hXN⟩ : ∃ X N, num30 s.rules e = (X, N) := ⟨_, _, rfl⟩
            have HFE := Lib.hid (show coF s.rules e = (if N = 0 then (if X = e.fmt then (⟨#[37, 122]⟩, 0) else (⟨#[]⟩, 15)) else (⟨#[]⟩, N)) from by unfold coF; rw [if_pos hk5, hXN])
            rw [hXN] at cN
            clear hk5 hXN
            go_wp2_with fail
            refine (cK.out _).mono ?_
            rintro x W3 ⟨rfl, hc⟩
            have HRX := Lib.hid (HRX.out.below hc); have HEB := Lib.hid (HEB.out.below hc HEB.out.lt); have HBC := Lib.hid hc
            clear hc hE4 y0 y1 y2 y3 y4 y5 y6 y7 y8 y9 y10 y11 y12 n1 c1
            have b0 := (HRX.out.src.cell 0).trans rfl
            have b1 := (HRX.out.src.cell 1).trans rfl
            have b2 := (HRX.out.src.cell 2).trans rfl
            have b3 := (HRX.out.src.cell 3).trans rfl
            have d0 := (HEB.out.cell 0).trans rfl
            have d1 := (HEB.out.cell 1).trans rfl
            have d2 := (HEB.out.cell 2).trans rfl
            have d3 := (HEB.out.cell 3).trans rfl
            have d4 := (HEB.out.cell 4).trans rfl
            have d5 := (HEB.out.cell 5).trans rfl
            have d6 := (HEB.out.cell 6).trans rfl
            have d7 := (HEB.out.cell 7).trans rfl
            have d8 := (HEB.out.cell 8).trans rfl
            have d9 := (HEB.out.cell 9).trans rfl
            have d10 := (HEB.out.cell 10).trans rfl
            have d11 := (HEB.out.cell 11).trans rfl
            have d12 := (HEB.out.cell 12).trans rfl
            go_wp2_with fail
            refine (cN.out _ HBC.out).mono ?_
            rintro x W4 ⟨rfl, hc⟩
            have HRX := Lib.hid (HRX.out.below hc); have HEB := Lib.hid (HEB.out.below hc HEB.out.lt)
            clear hc cN b0 b1 b2 b3 d0 d1 d2 d3 d4 d5 d6 d7 d8 d9 d10 d11 d12
            have d4 := (HEB.out.cell 4).trans rfl
            by_cases hn : N = 0
            · subst hn
              by_cases hx : X = e.fmt
              · have hdx : (X.toList == e.fmt.toList) = true := by rw [hx]; simp
                have HFE2 := Lib.hid (show coF s.rules e = (⟨#[37, 122]⟩, 0) by rw [HFE.out, if_pos (by rfl), if_pos hx])
                obtain ⟨y, zg, yg, hy, hcA, hyA, q1, q2, q3, hYl⟩ := HRX.out.at_ HKZ.out HE.out
                have p1 := (HRX.out.box.cell 1).trans rfl
                have hcl : c.zones.length = s.zones.length := HCS.out.zones.1
                rw [hcA, hcl] at p1
                have HRX2 := Lib.hid (HRX.out.set_ HKZ.out HE.out hy hyA ⟨#[37, 122]⟩ HFE2.out)
                clear hy hcA hyA hYl hcl HRX hx
                go_wp2_with fail
                go_roundw
                case rel => exact ⟨k + 1, by have := HLK.out; omega, by go_num, _, HRX2.out⟩
                case measure => have := HLK.out; simp [intOf]; omega
              · have hdx : (X.toList == e.fmt.toList) = false := eq_b _ _ hx
                have HFE2 := Lib.hid (show coF s.rules e = (⟨#[]⟩, 15) by rw [HFE.out, if_pos (by rfl), if_neg hx])
                have HN := Lib.hid (show ¬ (15 : Int) = 0 by decide)
                clear hx
                have hr4 := HRX.out.res
                have r0 := (hr4.cell 0).trans rfl
                have r1 := (hr4.cell 1).trans rfl
                have r2 := (hr4.cell 2).trans rfl
                have r3 := (hr4.cell 3).trans rfl
                have g0 := hr4.frozen 0
                have g1 := hr4.frozen 1
                have g2 := hr4.frozen 2
                have g3 := hr4.frozen 3
                have q4 := GS.set4 hr4 (.slice none 0 0) (.slice none 0 0) (.slice none 0 0) (.slice none 0 0)
                have k0 := (q4.2.cell 0).trans rfl; have k1 := (q4.2.cell 1).trans rfl; have k2 := (q4.2.cell 2).trans rfl; have k3 := (q4.2.cell 3).trans rfl
                clear hr4 q4
                go_wp2_with fail
                refine bodyPost_ret (v := .tuple #[.agg #[.slice none 0 0, .slice none 0 0, .slice none 0 0, .slice none 0 0], .int .i64 15]) (by simp [results, Tryz.results10, go_sem, k0, k1, k2, k3]) rfl ?_
                exact ⟨nilS, 15, rfl, fun V _ => nilS_in V, ⟨by have q := ErrIs.bad HRX.out.ok HKZ.out HE.out (by rw [HFE2.out]; decide); rw [HFE2.out] at q; exact q, fun h => absurd h (by first | exact HN.out | decide), fun _ => sSame14.rfl' _⟩, below_set4 HRX.out.bel (Nat.le_succ _) _ _ _ _⟩
            · have hdn : (N == 0) = false := by simpa using hn
              have HN := Lib.hid hn
              have HFE2 := Lib.hid (show coF s.rules e = (⟨#[]⟩, N) by rw [HFE.out, if_neg hn])
              clear hn
              have hr4 := HRX.out.res
              have r0 := (hr4.cell 0).trans rfl
              have r1 := (hr4.cell 1).trans rfl
              have r2 := (hr4.cell 2).trans rfl
              have r3 := (hr4.cell 3).trans rfl
              have g0 := hr4.frozen 0
              have g1 := hr4.frozen 1
              have g2 := hr4.frozen 2
              have g3 := hr4.frozen 3
              have q4 := GS.set4 hr4 (.slice none 0 0) (.slice none 0 0) (.slice none 0 0) (.slice none 0 0)
              have k0 := (q4.2.cell 0).trans rfl; have k1 := (q4.2.cell 1).trans rfl; have k2 := (q4.2.cell 2).trans rfl; have k3 := (q4.2.cell 3).trans rfl
              clear hr4 q4
              go_wp2_with fail
              refine bodyPost_ret (v := .tuple #[.agg #[.slice none 0 0, .slice none 0 0, .slice none 0 0, .slice none 0 0], .int .i64 N]) (by simp [results, Tryz.results10, go_sem, k0, k1, k2, k3]) rfl ?_
              exact ⟨nilS, N, rfl, fun V _ => nilS_in V, ⟨by have q := ErrIs.bad HRX.out.ok HKZ.out HE.out (by rw [HFE2.out]; exact HN.out); rw [HFE2.out] at q; exact q, fun h => absurd h (by first | exact HN.out | decide), fun _ => sSame14.rfl' _⟩, below_set4 HRX.out.bel (Nat.le_succ _) _ _ _ _⟩
          · obtain ⟨K, hK⟩ : ∃ K : Int, P21.kind (P4.bl e.fmt) = K := ⟨_, rfl⟩
            have hdk : (K == 5) = false := by rw [← hK]; simpa using hk5
            have HFE := Lib.hid (show coF s.rules e = (e.fmt, 0) from by unfold coF; rw [if_neg hk5])
            rw [hK] at cK
            have HRX2 := Lib.hid (HRX.out.skip HKZ.out HE.out HFE.out)
            clear hk5 hK cN HRX
            go_wp2_with fail
            refine (cK.out _).mono ?_
            rintro x W3 ⟨rfl, hc⟩
            have HRX3 := Lib.hid (HRX2.out.below hc)
            clear hc hE4 y0 y1 y2 y3 y4 y5 y6 y7 y8 y9 y10 y11 y12 n1 c1
            go_wp2_with fail
            go_roundw
            case rel => exact ⟨k + 1, by have := HLK.out; omega, by go_num, _, HRX3.out⟩
            case measure => have := HLK.out; simp [intOf]; omega
        · obtain rfl : k = z.eras.length := by omega
          have HRX2 := Lib.hid (hrx.zone HKZ.out (Nat.le_refl _))
          clear hrx haz hzA hgz hlk hk
          go_wp2_with fail
          go_roundw
          case rel => exact ⟨a + 1, by have := HLT.out; omega, by go_num, _, HRX2.out⟩
          case measure => have := HLT.out; simp [intOf]; omega
    · obtain rfl : a = s.zones.length := by omega
      have hdn := hrx.done (Nat.le_refl _) HCS.out
      have p0 := (hrx.box.cell 0).trans rfl
      have p1 := (hrx.box.cell 1).trans rfl
      have p2 := (hrx.box.cell 2).trans rfl
      have p3 := (hrx.box.cell 3).trans rfl
      have r0 := (hrx.res.cell 0).trans rfl
      have r1 := (hrx.res.cell 1).trans rfl
      have r2 := (hrx.res.cell 2).trans rfl
      have r3 := (hrx.res.cell 3).trans rfl
      have g0 := hrx.res.frozen 0
      have g1 := hrx.res.frozen 1
      have g2 := hrx.res.frozen 2
      have g3 := hrx.res.frozen 3
      have q4 := GS.set4 hrx.res (.slice c.rA c.rules.length c.rc) (.slice c.zA c.zones.length c.zc) (.slice c.kA c.links.length c.kc) (.slice c.hA c.shifts.length c.hc)
      have k0 := (q4.2.cell 0).trans rfl; have k1 := (q4.2.cell 1).trans rfl; have k2 := (q4.2.cell 2).trans rfl; have k3 := (q4.2.cell 3).trans rfl
      have HQ := Lib.hid q4.1; have HD := Lib.hid hdn
      clear q4 hdn hrx
      go_wp2_with fail
      refine bodyPost_ret (v := .tuple #[.agg #[.slice c.rA c.rules.length c.rc, .slice c.zA c.zones.length c.zc, .slice c.kA c.links.length c.kc, .slice c.hA c.shifts.length c.hc], .int .i64 0]) (by simp [results, Tryz.results10, go_sem, k0, k1, k2, k3]) rfl ?_
      have hYl : Y.length = c.zones.length := HRX.out.par.1.trans HCS.out.zones.1.symm
      refine ⟨{ c with zones := Y }, 0, by show _ = Ending.returned (.tuple #[.agg #[.slice c.rA c.rules.length c.rc, .slice c.zA Y.length c.zc, .slice c.kA c.links.length c.kc, .slice c.hA c.shifts.length c.hc], .int .i64 0]); rw [hYl], (HRX.out.cp.gs HQ.out).srcG, ⟨HD.out.2, fun _ => HD.out.1, fun h => absurd rfl h⟩, below_set4 HRX.out.bel (Nat.le_succ _) _ _ _ _⟩
end Go.Proofs.YtlideagcmhlkeaaGreatDoor

/- The walk of Few (chapter 14): what it says of a source. -/
namespace Go.Proofs.YtlideagcmhlkeaaGreatDoor
open Go.RowKit Go.Lib
set_option linter.unusedVariables false
set_option linter.unusedSimpArgs false

/-- what Few says of a source -/
structure Few14 (s : SV) : Prop where
  lens : s.rules.length ≤ 60 ∧ s.zones.length ≤ 20 ∧ s.links.length ≤ 60 ∧ s.shifts.length ≤ 60
  eras : ∀ (i : Nat) (z : ZV), s.zones[i]? = some z → z.eras.length ≤ 65 ∧ ∀ (k : Nat) (e : EV), z.eras[k]? = some e → e.fmt.size ≤ 100
set_option maxRecDepth 100000 in
set_option maxHeartbeats 4000000 in
theorem long14_raw (b : ByteArray) (w : World) :
    Calls Tryz.prog 12 #[.string b] w fun e w' => (e = .returned (.bool false) ∧ b.size ≤ 100 ∧ Below w.heap.size w w') ∨ (e = .returned (.bool true) ∧ Below w.heap.size w w') := by
  by_cases h : 100 < b.size
  · have hi : (100 : Int) < (b.size : Int) := by omega
    clear h
    go_enter Tryz.func12, Tryz.ntmps12
    go_wp2_with fail
    go_ret
    exact .inr ⟨rfl, Below.refl _ _⟩
  · have hi : ¬ (100 : Int) < (b.size : Int) := by omega
    have H := Lib.hid (show b.size ≤ 100 by omega)
    clear h
    go_enter Tryz.func12, Tryz.ntmps12
    go_wp2_with fail
    go_ret
    exact .inl ⟨rfl, H.out, Below.refl _ _⟩
theorem long14_any (b : ByteArray) (w : World) :
    Calls Tryz.prog 12 #[.string b] w fun e w' => ∃ B : Bool, e = .returned (.bool B) ∧ (B = false → b.size ≤ 100) ∧ Below w.heap.size w w' :=
  (long14_raw b w).mono fun e w' h => by
    rcases h with ⟨h1, h2, h3⟩ | ⟨h1, h3⟩
    · exact ⟨false, h1, fun _ => h2, h3⟩
    · exact ⟨true, h1, (fun q => by cases q), h3⟩
set_option maxRecDepth 100000 in
set_option maxHeartbeats 16000000 in
theorem few14_any (s : SV) (w : World) (hS : SrcIn w s) (hz : s.rules.length ≤ maxLen ∧ s.zones.length ≤ maxLen ∧ s.links.length ≤ maxLen ∧ s.shifts.length ≤ maxLen ∧ ∀ z ∈ s.zones, z.eras.length ≤ maxLen) :
    Calls Tryz.prog 4 #[.agg #[.slice s.rA s.rules.length s.rc, .slice s.zA s.zones.length s.zc, .slice s.kA s.links.length s.kc, .slice s.hA s.shifts.length s.hc]] w fun e w' => (e = .returned (.bool false) ∨ (e = .returned (.bool true) ∧ Few14 s)) ∧ Below w.heap.size w w' := by
  unfold maxLen at hz
  obtain ⟨z1, z2, z3, z4, z5⟩ := hz
  have HS := Lib.hid hS; have HZ5 := Lib.hid z5
  have i1 : (s.rules.length : Int) ≤ 9223372036854775807 := by omega
  have i2 : (s.zones.length : Int) ≤ 9223372036854775807 := by omega
  have i3 : (s.links.length : Int) ≤ 9223372036854775807 := by omega
  have i4 : (s.shifts.length : Int) ≤ 9223372036854775807 := by omega
  have hX := Blk.new w 27 #[.slice s.rA s.rules.length s.rc, .slice s.zA s.zones.length s.zc, .slice s.kA s.links.length s.kc, .slice s.hA s.shifts.length s.hc]
  have hb0 := (Below.refl w.heap.size w).alloc (Nat.le_refl _) (.cells #[.slice s.rA s.rules.length s.rc, .slice s.zA s.zones.length s.zc, .slice s.kA s.links.length s.kc, .slice s.hA s.shifts.length s.hc] 27)
  have cL := Lib.hid (fun b W => long14_any b W)
  have c0 := (hX.cell 0).trans rfl
  have c1 := (hX.cell 1).trans rfl
  have c2 := (hX.cell 2).trans rfl
  have c3 := (hX.cell 3).trans rfl
  have HX := Lib.hid hX; have HB := Lib.hid hb0
  clear hS z5 z1 z2 z3 z4 hX hb0
  by_cases q0 : 60 < s.rules.length
  · have q0i : (60 : Int) < (s.rules.length : Int) := by omega
    go_enter Tryz.func4, Tryz.ntmps4
    go_wp2_with fail
    go_ret
    exact ⟨.inl rfl, HB.out⟩
  · have q0i : ¬ (60 : Int) < (s.rules.length : Int) := by omega
    by_cases q1 : 20 < s.zones.length
    · have q1i : (20 : Int) < (s.zones.length : Int) := by omega
      go_enter Tryz.func4, Tryz.ntmps4
      go_wp2_with fail
      go_ret
      exact ⟨.inl rfl, HB.out⟩
    · have q1i : ¬ (20 : Int) < (s.zones.length : Int) := by omega
      by_cases q2 : 60 < s.links.length
      · have q2i : (60 : Int) < (s.links.length : Int) := by omega
        go_enter Tryz.func4, Tryz.ntmps4
        go_wp2_with fail
        go_ret
        exact ⟨.inl rfl, HB.out⟩
      · have q2i : ¬ (60 : Int) < (s.links.length : Int) := by omega
        by_cases q3 : 60 < s.shifts.length
        · have q3i : (60 : Int) < (s.shifts.length : Int) := by omega
          go_enter Tryz.func4, Tryz.ntmps4
          go_wp2_with fail
          go_ret
          exact ⟨.inl rfl, HB.out⟩
        · have q3i : ¬ (60 : Int) < (s.shifts.length : Int) := by omega
          have HQ := Lib.hid (show s.rules.length ≤ 60 ∧ s.zones.length ≤ 20 ∧ s.links.length ≤ 60 ∧ s.shifts.length ≤ 60 from ⟨by omega, by omega, by omega, by omega⟩)
          clear q0 q1 q2 q3
          go_enter Tryz.func4, Tryz.ntmps4
          go_wp2_with fail
          clear c0 c1 c2 c3 q0i q1i q2i q3i
          go_loopw [3] (fun i W => ∃ k : Nat, k ≤ s.rules.length ∧ i = .int .i64 k ∧ Blk W w.heap.size 27 #[.slice s.rA s.rules.length s.rc, .slice s.zA s.zones.length s.zc, .slice s.kA s.links.length s.kc, .slice s.hA s.shifts.length s.hc] ∧ Below w.heap.size w W) (fun i _ => s.rules.length - (intOf i).toNat)
          case atStart => exact ⟨0, Nat.zero_le _, rfl, HX.out, HB.out⟩
          case round =>
            clear HX HB
            obtain ⟨k, hk, rfl, hx, hb⟩ := hrel
            have c0 := (hx.cell 0).trans rfl
            by_cases hlt : k < s.rules.length
            · have hki : (k : Int) < (s.rules.length : Int) := by omega
              have hk0 : (0 : Int) ≤ (k : Int) := by omega
              obtain ⟨r, hr⟩ : ∃ r, s.rules[k]? = some r := ⟨_, List.getElem?_eq_getElem hlt⟩
              obtain ⟨g, o, hA, hg, hc⟩ := (HS.out.rules.below hb) k r hr
              rw [hA] at c0
              have x0 : wr.cell? ⟨g, o + k * 11, none⟩ = some (.string r.name) := hc 0 _ rfl
              have x10 : wr.cell? ⟨g, o + k * 11 + 10, none⟩ = some (.string r.letter) := hc 10 _ rfl
              have HX1 := Lib.hid hx; have HB1 := Lib.hid hb; have HLT := Lib.hid hlt; have HC := Lib.hid hc; have HG := Lib.hid hg; have HAA := Lib.hid hA
              clear hr hc hx hb hlt hA hg
              go_wp2_with fail
              refine (cL.out _ _).mono ?_
              rintro e W2 ⟨B2, rfl, _, hc2⟩
              have HX2 := Lib.hid (HX1.out.below hc2 HX1.out.lt); have HB2 := Lib.hid (HB1.out.trans (hc2.mono HB1.out.size))
              have c0' := (HX2.out.cell 0).trans rfl
              rw [HAA.out] at c0'
              have x10' := (hc2.cell (p := ⟨g, o + k * 11 + 10, none⟩) HG.out).trans x10
              clear hc2 HX1 HB1
              cases B2
              case true =>
                go_wp2_with fail
                go_ret
                exact ⟨.inl rfl, HB2.out⟩
              skip
              go_wp2_with fail
              refine (cL.out _ _).mono ?_
              rintro e W3 ⟨B3, rfl, _, hc3⟩
              have HX3 := Lib.hid (HX2.out.below hc3 HX2.out.lt); have HB3 := Lib.hid (HB2.out.trans (hc3.mono HB2.out.size))
              clear hc3 HX2 HB2
              cases B3
              · skip
                go_wp2_with fail
                go_roundw
                case rel => exact ⟨k + 1, by have := HLT.out; omega, by go_num, HX3.out, HB3.out⟩
                case measure => have := HLT.out; simp [intOf]; omega
              · go_wp2_with fail
                go_ret
                exact ⟨.inl rfl, HB3.out⟩
            · obtain rfl : k = s.rules.length := by omega
              have HX := Lib.hid hx; have HB := Lib.hid hb
              clear hx hb hlt hk
              go_wp2_with fail
              clear c0
              go_loopw [4] (fun i W => ∃ k : Nat, k ≤ s.zones.length ∧ i = .int .i64 k ∧ Blk W w.heap.size 27 #[.slice s.rA s.rules.length s.rc, .slice s.zA s.zones.length s.zc, .slice s.kA s.links.length s.kc, .slice s.hA s.shifts.length s.hc] ∧ Below w.heap.size w W ∧ ∀ (j : Nat) (z : ZV), j < k → s.zones[j]? = some z → z.eras.length ≤ 65 ∧ ∀ (m : Nat) (e : EV), z.eras[m]? = some e → e.fmt.size ≤ 100) (fun i _ => s.zones.length - (intOf i).toNat)
              case atStart => exact ⟨0, Nat.zero_le _, rfl, HX.out, HB.out, fun j z hj => absurd hj (Nat.not_lt_zero _)⟩
              case round =>
                clear HX HB
                obtain ⟨wo, hwo⟩ : ∃ x, x = wr := ⟨_, rfl⟩
                subst hwo
                obtain ⟨k, hk, rfl, hx, hb, hq⟩ := hrel
                have c1 := (hx.cell 1).trans rfl
                by_cases hlt : k < s.zones.length
                · have hki : (k : Int) < (s.zones.length : Int) := by omega
                  have hk0 : (0 : Int) ≤ (k : Int) := by omega
                  obtain ⟨z, hz⟩ : ∃ z, s.zones[k]? = some z := ⟨_, List.getElem?_eq_getElem hlt⟩
                  obtain ⟨g, o, hA, hg, hc⟩ := (HS.out.zones.below hb) k z hz
                  rw [hA] at c1
                  have n0 : wo.cell? ⟨g, o + k * 2, none⟩ = some (.string z.name) := hc 0 _ rfl
                  have n1 : wo.cell? ⟨g, o + k * 2 + 1, none⟩ = some (.slice z.A z.eras.length z.c) := hc 1 _ rfl
                  have HZM := Lib.hid (List.mem_of_getElem? hz)
                  have hel := HZ5.out z HZM.out
                  have heli : (z.eras.length : Int) ≤ 9223372036854775807 := by omega
                  have hal := (Below.refl wo.heap.size wo).alloc (Nat.le_refl _) (.cells #[.string z.name, .slice z.A z.eras.length z.c] 44)
                  have HX1 := Lib.hid (hx.below hal hx.lt); have HB1 := Lib.hid (hb.trans (hal.mono hb.size)); have HZB := Lib.hid (Blk.new wo 44 #[.string z.name, .slice z.A z.eras.length z.c])
                  have HLT := Lib.hid hlt; have HQK := Lib.hid hq; have HZ := Lib.hid hz
                  clear hc hx hb hlt hA hg hal hz hq
                  go_wp2_with fail
                  refine (cL.out _ _).mono ?_
                  rintro e W2 ⟨B2, rfl, _, hc2⟩
                  have HX2 := Lib.hid (HX1.out.below hc2 HX1.out.lt); have HB2 := Lib.hid (HB1.out.trans (hc2.mono HB1.out.size)); have HZB2 := Lib.hid (HZB.out.below hc2 HZB.out.lt)
                  have d1 := (HZB2.out.cell 1).trans rfl
                  clear hc2 HX1 HB1 HZB c1 n0 n1
                  cases B2
                  case true =>
                    go_wp2_with fail
                    go_ret
                    exact ⟨.inl rfl, HB2.out⟩
                  by_cases q65 : 65 < z.eras.length
                  · have q65i : (65 : Int) < (z.eras.length : Int) := by omega
                    go_wp2_with fail
                    go_ret
                    exact ⟨.inl rfl, HB2.out⟩
                  have q65i : ¬ (65 : Int) < (z.eras.length : Int) := by omega
                  have HQ65 := Lib.hid (show z.eras.length ≤ 65 by omega)
                  clear q65
                  go_wp2_with fail
                  clear d1
                  go_loopw [6] (fun i W => ∃ m : Nat, m ≤ z.eras.length ∧ i = .int .i64 m ∧ Blk W w.heap.size 27 #[.slice s.rA s.rules.length s.rc, .slice s.zA s.zones.length s.zc, .slice s.kA s.links.length s.kc, .slice s.hA s.shifts.length s.hc] ∧ Below w.heap.size w W ∧ Blk W wo.heap.size 44 #[.string z.name, .slice z.A z.eras.length z.c] ∧ ∀ (j : Nat) (e : EV), j < m → z.eras[j]? = some e → e.fmt.size ≤ 100) (fun i _ => z.eras.length - (intOf i).toNat)
                  case atStart => exact ⟨0, Nat.zero_le _, rfl, HX2.out, HB2.out, HZB2.out, fun j e hj => absurd hj (Nat.not_lt_zero _)⟩
                  case round =>
                    clear HX2 HB2 HZB2
                    obtain ⟨m, hm, rfl, hx, hb, hzb, hq⟩ := hrel
                    have d1 := (hzb.cell 1).trans rfl
                    by_cases hlm : m < z.eras.length
                    · have hmi : (m : Int) < (z.eras.length : Int) := by omega
                      have hm0 : (0 : Int) ≤ (m : Int) := by omega
                      obtain ⟨e, he⟩ : ∃ e, z.eras[m]? = some e := ⟨_, List.getElem?_eq_getElem hlm⟩
                      obtain ⟨ge, oe, heA, hge, hae⟩ := ((HS.out.eras z HZM.out).below hb) m e he
                      rw [heA] at d1
                      have x3 : wr.cell? ⟨ge, oe + m * 13 + 3, none⟩ = some (.string e.set) := hae 3 _ rfl
                      have x4 : wr.cell? ⟨ge, oe + m * 13 + 4, none⟩ = some (.string e.fmt) := hae 4 _ rfl
                      have HX1 := Lib.hid hx; have HB1 := Lib.hid hb; have HZ1 := Lib.hid hzb; have HLM := Lib.hid hlm; have HE := Lib.hid he; have HEA := Lib.hid heA; have HGE := Lib.hid hge; have HQM := Lib.hid hq
                      clear he hae hx hb hzb hlm heA hge hq
                      go_wp2_with fail
                      refine (cL.out _ _).mono ?_
                      rintro e' W3 ⟨B3, rfl, _, hc3⟩
                      have HX3 := Lib.hid (HX1.out.below hc3 HX1.out.lt); have HB3 := Lib.hid (HB1.out.trans (hc3.mono HB1.out.size)); have HZ3 := Lib.hid (HZ1.out.below hc3 HZ1.out.lt)
                      have d3 := (HZ3.out.cell 1).trans rfl
                      rw [HEA.out] at d3
                      have x4' := (hc3.cell (p := ⟨ge, oe + m * 13 + 4, none⟩) HGE.out).trans x4
                      clear hc3 HX1 HB1 HZ1
                      cases B3
                      case true =>
                        go_wp2_with fail
                        go_ret
                        exact ⟨.inl rfl, HB3.out⟩
                      go_wp2_with fail
                      refine (cL.out _ _).mono ?_
                      rintro e' W4 ⟨B4, rfl, hB4, hc4⟩
                      have HX4 := Lib.hid (HX3.out.below hc4 HX3.out.lt); have HB4 := Lib.hid (HB3.out.trans (hc4.mono HB3.out.size)); have HZ4 := Lib.hid (HZ3.out.below hc4 HZ3.out.lt); have HB4' := Lib.hid hB4
                      clear hc4 HX3 HB3 HZ3 hB4 d1 d3 x3 x4 x4'
                      cases B4
                      · go_wp2_with fail
                        go_roundw
                        case rel => exact ⟨m + 1, by have := HLM.out; omega, by go_num, HX4.out, HB4.out, HZ4.out, fun j e2 hj h2 => by
                          by_cases hjm : j < m
                          · exact HQM.out j e2 hjm h2
                          · obtain rfl : j = m := by omega
                            rw [HE.out] at h2
                            injection h2 with h2
                            rw [← h2]
                            first | exact HB4'.out rfl | exact HB4'.out trivial⟩
                        case measure => have := HLM.out; simp [intOf]; omega
                      · go_wp2_with fail
                        go_ret
                        exact ⟨.inl rfl, HB4.out⟩
                    · obtain rfl : m = z.eras.length := by omega
                      have HX5 := Lib.hid hx; have HB5 := Lib.hid hb; have HQ5 := Lib.hid hq
                      clear hx hb hzb hq hlm hm
                      go_wp2_with fail
                      go_roundw
                      case rel => exact ⟨k + 1, by have := HLT.out; omega, by go_num, HX5.out, HB5.out, fun j z2 hj h2 => by
                        by_cases hjk : j < k
                        · exact HQK.out j z2 hjk h2
                        · obtain rfl : j = k := by omega
                          rw [HZ.out] at h2
                          injection h2 with h2
                          subst h2
                          exact ⟨HQ65.out, fun m e h => HQ5.out m e (List.getElem?_eq_some_iff.1 h).1 h⟩⟩
                      case measure => have := HLT.out; simp [intOf]; omega
                · obtain rfl : k = s.zones.length := by omega
                  have HX := Lib.hid hx; have HB := Lib.hid hb; have HQZ := Lib.hid hq
                  clear hx hb hq hlt hk
                  go_wp2_with fail
                  clear c1
                  go_loopw [7] (fun i W => ∃ k : Nat, k ≤ s.links.length ∧ i = .int .i64 k ∧ Blk W w.heap.size 27 #[.slice s.rA s.rules.length s.rc, .slice s.zA s.zones.length s.zc, .slice s.kA s.links.length s.kc, .slice s.hA s.shifts.length s.hc] ∧ Below w.heap.size w W) (fun i _ => s.links.length - (intOf i).toNat)
                  case atStart => exact ⟨0, Nat.zero_le _, rfl, HX.out, HB.out⟩
                  case round =>
                    clear HX HB
                    obtain ⟨k, hk, rfl, hx, hb⟩ := hrel
                    have c0 := (hx.cell 2).trans rfl
                    by_cases hlt : k < s.links.length
                    · have hki : (k : Int) < (s.links.length : Int) := by omega
                      have hk0 : (0 : Int) ≤ (k : Int) := by omega
                      obtain ⟨r, hr⟩ : ∃ r, s.links[k]? = some r := ⟨_, List.getElem?_eq_getElem hlt⟩
                      obtain ⟨g, o, hA, hg, hc⟩ := (HS.out.links.below hb) k r hr
                      rw [hA] at c0
                      have x0 : wr.cell? ⟨g, o + k * 2, none⟩ = some (.string r.target) := hc 0 _ rfl
                      have x1 : wr.cell? ⟨g, o + k * 2 + 1, none⟩ = some (.string r.name) := hc 1 _ rfl
                      have HX1 := Lib.hid hx; have HB1 := Lib.hid hb; have HLT := Lib.hid hlt; have HC := Lib.hid hc; have HG := Lib.hid hg; have HAA := Lib.hid hA
                      clear hr hc hx hb hlt hA hg
                      go_wp2_with fail
                      refine (cL.out _ _).mono ?_
                      rintro e W2 ⟨B2, rfl, _, hc2⟩
                      have HX2 := Lib.hid (HX1.out.below hc2 HX1.out.lt); have HB2 := Lib.hid (HB1.out.trans (hc2.mono HB1.out.size))
                      have c0' := (HX2.out.cell 2).trans rfl
                      rw [HAA.out] at c0'
                      have x1' := (hc2.cell (p := ⟨g, o + k * 2 + 1, none⟩) HG.out).trans x1
                      clear hc2 HX1 HB1
                      cases B2
                      case true =>
                        go_wp2_with fail
                        go_ret
                        exact ⟨.inl rfl, HB2.out⟩
                      skip
                      go_wp2_with fail
                      refine (cL.out _ _).mono ?_
                      rintro e W3 ⟨B3, rfl, _, hc3⟩
                      have HX3 := Lib.hid (HX2.out.below hc3 HX2.out.lt); have HB3 := Lib.hid (HB2.out.trans (hc3.mono HB2.out.size))
                      clear hc3 HX2 HB2
                      cases B3
                      · skip
                        go_wp2_with fail
                        go_roundw
                        case rel => exact ⟨k + 1, by have := HLT.out; omega, by go_num, HX3.out, HB3.out⟩
                        case measure => have := HLT.out; simp [intOf]; omega
                      · go_wp2_with fail
                        go_ret
                        exact ⟨.inl rfl, HB3.out⟩
                    · obtain rfl : k = s.links.length := by omega
                      have HX := Lib.hid hx; have HB := Lib.hid hb
                      clear hx hb hlt hk
                      go_wp2_with fail
                      clear c0
                      go_loopw [8] (fun i W => ∃ k : Nat, k ≤ s.shifts.length ∧ i = .int .i64 k ∧ Blk W w.heap.size 27 #[.slice s.rA s.rules.length s.rc, .slice s.zA s.zones.length s.zc, .slice s.kA s.links.length s.kc, .slice s.hA s.shifts.length s.hc] ∧ Below w.heap.size w W) (fun i _ => s.shifts.length - (intOf i).toNat)
                      case atStart => exact ⟨0, Nat.zero_le _, rfl, HX.out, HB.out⟩
                      case round =>
                        clear HX HB
                        obtain ⟨k, hk, rfl, hx, hb⟩ := hrel
                        have c0 := (hx.cell 3).trans rfl
                        by_cases hlt : k < s.shifts.length
                        · have hki : (k : Int) < (s.shifts.length : Int) := by omega
                          have hk0 : (0 : Int) ≤ (k : Int) := by omega
                          obtain ⟨r, hr⟩ : ∃ r, s.shifts[k]? = some r := ⟨_, List.getElem?_eq_getElem hlt⟩
                          obtain ⟨g, o, hA, hg, hc⟩ := (HS.out.shifts.below hb) k r hr
                          rw [hA] at c0
                          have x0 : wr.cell? ⟨g, o + k, none⟩ = some (.string r) := (by have q := hc 0 _ rfl; simpa using q)
                          have HX1 := Lib.hid hx; have HB1 := Lib.hid hb; have HLT := Lib.hid hlt; have HC := Lib.hid hc; have HG := Lib.hid hg; have HAA := Lib.hid hA
                          clear hr hc hx hb hlt hA hg
                          go_wp2_with fail
                          refine (cL.out _ _).mono ?_
                          rintro e W2 ⟨B2, rfl, _, hc2⟩
                          have HX2 := Lib.hid (HX1.out.below hc2 HX1.out.lt); have HB2 := Lib.hid (HB1.out.trans (hc2.mono HB1.out.size))
                          clear hc2 HX1 HB1
                          cases B2
                          · skip
                            go_wp2_with fail
                            go_roundw
                            case rel => exact ⟨k + 1, by have := HLT.out; omega, by go_num, HX2.out, HB2.out⟩
                            case measure => have := HLT.out; simp [intOf]; omega
                          · go_wp2_with fail
                            go_ret
                            exact ⟨.inl rfl, HB2.out⟩
                        · obtain rfl : k = s.shifts.length := by omega
                          have HX := Lib.hid hx; have HB := Lib.hid hb
                          clear hx hb hlt hk
                          go_wp2_with fail
                          clear c0
                          go_ret
                          exact ⟨.inr ⟨rfl, HQ.out, fun i z h => HQZ.out i z (List.getElem?_eq_some_iff.1 h).1 h⟩, HB.out⟩
end Go.Proofs.YtlideagcmhlkeaaGreatDoor

/- What the rows' list of variables, and the world's shape, give the walks of chapters 21 and 24. -/
namespace Go.Proofs.YtlideagcmhlkeaaGreatDoor
open Go.RowKit
set_option linter.unusedVariables false

theorem tSyn : (Tryz.prog.globals[1]?).map (·.type) = some 91 := by kernel_rfl
theorem cErr : Tryz.prog.cellsOf 128 = 1 := by kernel_rfl
theorem cStr : Tryz.prog.cellsOf 9 = 1 := by kernel_rfl
theorem starErr : "*" ++ "errors.errorString" = "*errors.errorString" := by decide
theorem rowErr (u : TypeId) (h : Tryz.prog.typeName? 3 u = some "*errors.errorString") : u = 126 := by
  exact typeName_ptr_named (nm := "errors.errorString") (by rw [starErr]; kernel_rfl) (by kernel_rfl) (by decide) u (by rw [starErr]; exact h)
theorem vars21_of {W : World} {rest : List (String × DataW Unit)} (h4 : laidMet Tryz.prog (("strconv.ErrSyntax", Rows.laid_strconv_ErrSyntax) :: rest) W) (hsh : W.ShapedOpen Tryz.prog) : Vars21 W := by
  obtain ⟨a, s, hs, _, _, _⟩ := laid_sentinel h4 gSyn tSyn Tryz.underlying91 rowErr Tryz.underlying126 Tryz.underlying128 rfl rfl Tryz.underlying9 cErr cStr
  have lt : ∀ {g : Nat} {n : String} {cs : Array Value}, Tryz.prog.globalNamed n = some g → W.var? Tryz.prog n = some cs → g < W.heap.size := by
    intro g n cs hg hv
    unfold World.var? at hv
    simp only [hg, Option.bind_some] at hv
    rcases Nat.lt_or_ge g W.heap.size with q | q
    · exact q
    · rw [Array.getElem?_eq_none q] at hv; cases hv
  have hm := Tryz.laysM145.s1_3 W hsh
  have hlt : 0 < W.heap.size := by
    obtain ⟨m, hm⟩ := hm
    rcases Nat.lt_or_ge 0 W.heap.size with q | q
    · exact q
    · exfalso
      have hm' : W.cell? ⟨0, 0, none⟩ = some (.int .i64 m) := hm
      unfold World.cell? at hm'
      rw [Array.getElem?_eq_none q] at hm'
      cases hm'
  exact ⟨⟨⟨_, _, hs⟩, lt gSyn hs⟩, hm, hlt⟩
/-- four other variables stand ahead of it in the row's list -/
theorem vars21_of_laid {W : World} {a b c d : String × DataW Unit} {rest : List (String × DataW Unit)} (h : laidMet Tryz.prog (a :: b :: c :: d :: ("strconv.ErrSyntax", Rows.laid_strconv_ErrSyntax) :: rest) W) (hsh : W.ShapedOpen Tryz.prog) : Vars21 W := by
  exact vars21_of h.tail.tail.tail.tail hsh
/-- five of them -/
theorem vars21_of_laid5 {W : World} {a b c d e : String × DataW Unit} {rest : List (String × DataW Unit)} (h : laidMet Tryz.prog (a :: b :: c :: d :: e :: ("strconv.ErrSyntax", Rows.laid_strconv_ErrSyntax) :: rest) W) (hsh : W.ShapedOpen Tryz.prog) : Vars21 W := by
  exact vars21_of h.tail.tail.tail.tail.tail hsh
/-- the same, and the world's shape -/
theorem vars21s_of_laid5 {W : World} {a b c d e : String × DataW Unit} {rest : List (String × DataW Unit)} (h : laidMet Tryz.prog (a :: b :: c :: d :: e :: ("strconv.ErrSyntax", Rows.laid_strconv_ErrSyntax) :: rest) W) (hsh : W.ShapedOpen Tryz.prog) : Vars21 W ∧ W.ShapedOpen Tryz.prog := ⟨vars21_of_laid5 h hsh, hsh⟩
end Go.Proofs.YtlideagcmhlkeaaGreatDoor

/- The wrap of a law's row whose walk asks for the world's shape beside the listed variables. No function of the program. -/
namespace Go.Proofs.YtlideagcmhlkeaaGreatDoor
open Go
section
variable {H : Type} {enc : TypeId × Value → H}
theorem handed_shaped {a : Assume} {C : Checked} {os : Os} {f : FuncId} {fn : Func} {s : ChangeSpec} {conds : List PathCond} {apart fresh handsOn again : Bool} {X : World → Array Value → Prop}
    (hX : ∀ (w w' : World) (args : Array Value), w.heap = w'.heap → X w args → X w' args)
    (own : ownKnob C.prog.godebug = none) (started : os.Started) (noInit : C.prog.inits.idxOf? f = none) (hfn : C.prog.funcs[f]? = some fn)
    (witness : ∃ (w : World) (tape : Tape) (i : Input), w.os = os ∧ (w.forCall tape i).Shaped C.prog ∧ i.vars = [] ∧ Input.okWide C.prog (w.forCall tape i) .any w.heap.size f i ∧
      ((s.pre enc C.prog fn conds apart (w.forCall tape i).memory i.args ∧ X (w.forCall tape i).memory i.args) ∧ sizedMet enc C.prog fn (OpenSpec.ofChange s) apart (w.forCall tape i).memory i.args) ∧ a.holds C.prog (lone (Frame.enter C.prog f i.args .normal) [] (w.forCall tape i)))
    (contract : ∀ (W : World) (base : Nat) (args : Array Value) (ds gs : List (DataW H)) (before : List MemPlace),
      (∀ (j : Nat) t v, fn.params[j]? = some t → args[j]? = some v → Value.okWide C.prog W .any base t v) →
      DataW.Whole enc C.prog fn.params.toList s.vars apart W args.toList ds gs before →
      conds.all (PathCond.test C.prog ⟨fn.params.toList, ds, s.plain.varTypes C.prog, gs⟩) = true →
      (DataW.weightsEach C.prog (fn.params.toList ++ s.plain.varTypes C.prog) (ds ++ gs)).all (· ≤ reachBytes) = true → X W args → W.ShapedOpen C.prog →
      a.holds C.prog (lone (Frame.enter C.prog f args .normal) [] W) →
      Calls C.prog f args W fun e W' => ∃ v, e = .returned v ∧ s.post enc C.prog fn apart fresh handsOn again W args v W') :
    ReturnsInHanded a C os f .any (fun w args => (s.pre enc C.prog fn conds apart w args ∧ X w args) ∧ sizedMet enc C.prog fn (OpenSpec.ofChange s) apart w args) (s.post enc C.prog fn apart fresh handsOn again) := by
  refine returnsInHanded_of_calls own started noInit witness ?_
  intro w tape i _ hsh _ hok hpre hholds
  obtain ⟨_, _, _, fn', hfn', _, _, _, _, hval⟩ := hok
  obtain rfl : fn' = fn := Option.some.inj (hfn'.symm.trans hfn)
  obtain ⟨⟨⟨ds, gs, before, hw, hc⟩, hx⟩, hz⟩ := hpre
  have hw' := DataW.Whole.of_heap (w' := w.forCall tape i) (by rfl) hw
  refine (contract (w.forCall tape i) w.heap.size i.args ds gs before hval hw' hc (hz.weights hw) (hX _ _ _ (by rfl) hx) hsh hholds).mono fun e W' h => ?_
  obtain ⟨v, he, hp⟩ := h
  subst he
  exact ChangeSpec.post_blind hp
end
end Go.Proofs.YtlideagcmhlkeaaGreatDoor

/- What an era by value and a slice of rules that come in read as (for the cards of chapter 20 and above). -/
namespace Go.Proofs.YtlideagcmhlkeaaGreatDoor
open Go.RowKit Go.ChangeShapes Go.WideShapes
set_option linter.unusedVariables false

section
variable {H : Type} {enc : TypeId × Value → H} {w : World} {base : Nat} {sp : Nat → Bool} {held : Bool}
theorem field_of {P : Program} {t : TypeId} {fs : Array Field} {fuel : Nat} {cs : List Value} {x : DataW H × List MemPlace} (ht : P.underlying t = some (.struct fs)) (h : DataW.trod enc P w base sp held fuel t cs = some x) (i : Nat) (ty : TypeId) (o s : Nat)
    (hf : (fs[i]?).map (fun f => (f.type, f.offset, P.cellsOf f.type)) = some (ty, o, s)) : ∃ n y, DataW.trod enc P w base sp held n ty ((cs.drop o).take s) = some y := by
  obtain ⟨xs, n, _, _, _, hl, hg⟩ := DataW.trod_struct ht h
  cases hq : fs[i]? with
  | none => rw [hq] at hf; cases hf
  | some f =>
    rw [hq] at hf
    simp only [Option.map_some, Option.some.injEq, Prod.mk.injEq] at hf
    obtain ⟨rfl, rfl, rfl⟩ := hf
    have hi : i < xs.length := by rw [hl]; exact (Array.getElem?_eq_some_iff.1 hq).1
    exact ⟨n, xs[i], (hg i f hq).trans (List.getElem?_eq_getElem hi)⟩
theorem leaf_int {P : Program} {t : TypeId} {fs : Array Field} {fuel : Nat} {cs : List Value} {x : DataW H × List MemPlace} (ht : P.underlying t = some (.struct fs)) (h : DataW.trod enc P w base sp held fuel t cs = some x) (i : Nat) (ty : TypeId) (o : Nat) (k : IntKind)
    (hf : (fs[i]?).map (fun f => (f.type, f.offset, P.cellsOf f.type)) = some (ty, o, 1)) (hk : P.underlying ty = some (.int k)) : ∃ n, (cs.drop o).take 1 = [.int k n] ∧ (Lit.int k n).wf = true := by
  obtain ⟨n, y, hy⟩ := field_of ht h i ty o 1 hf
  obtain ⟨z, e, _, hw⟩ := DataW.trod_int hk hy
  exact ⟨z, e, hw⟩
theorem leaf_str {P : Program} {t : TypeId} {fs : Array Field} {fuel : Nat} {cs : List Value} {x : DataW H × List MemPlace} (ht : P.underlying t = some (.struct fs)) (h : DataW.trod enc P w base sp held fuel t cs = some x) (i : Nat) (ty : TypeId) (o : Nat)
    (hf : (fs[i]?).map (fun f => (f.type, f.offset, P.cellsOf f.type)) = some (ty, o, 1)) (hk : P.underlying ty = some .string) : ∃ s : ByteArray, (cs.drop o).take 1 = [.string s] ∧ s.size ≤ maxLen := by
  obtain ⟨n, y, hy⟩ := field_of ht h i ty o 1 hf
  obtain ⟨z, e, _, hw⟩ := DataW.trod_string hk hy
  exact ⟨z, e, hw⟩
theorem leaf_bool {P : Program} {t : TypeId} {fs : Array Field} {fuel : Nat} {cs : List Value} {x : DataW H × List MemPlace} (ht : P.underlying t = some (.struct fs)) (h : DataW.trod enc P w base sp held fuel t cs = some x) (i : Nat) (ty : TypeId) (o : Nat)
    (hf : (fs[i]?).map (fun f => (f.type, f.offset, P.cellsOf f.type)) = some (ty, o, 1)) (hk : P.underlying ty = some .bool) : ∃ b, (cs.drop o).take 1 = [.bool b] := by
  obtain ⟨n, y, hy⟩ := field_of ht h i ty o 1 hf
  obtain ⟨z, e, _⟩ := DataW.trod_bool hk hy
  exact ⟨z, e⟩
/-- a rule's cells -/
theorem open_rule {fuel : Nat} {cs : List Value} {x : DataW H × List MemPlace} (hlen : cs.length = 11) (h : DataW.trod enc Tryz.prog w base sp held fuel 41 cs = some x) : ∃ r : RV, cs = r.cells ∧ (Lit.int .i64 r.save).wf = true := by
  match cs, hlen with
  | [c0, c1, c2, c3, c4, c5, c6, c7, c8, c9, c10], _ =>
    obtain ⟨s0, e0, _⟩ := leaf_str Tryz.underlying41 h 0 9 0 (by kernel_rfl) Tryz.underlying9
    obtain ⟨n1, e1, _⟩ := leaf_int Tryz.underlying41 h 1 3 1 .i64 (by kernel_rfl) Tryz.underlying3
    obtain ⟨n2, e2, _⟩ := leaf_int Tryz.underlying41 h 2 3 2 .i64 (by kernel_rfl) Tryz.underlying3
    obtain ⟨n3, e3, _⟩ := leaf_int Tryz.underlying41 h 3 3 3 .i64 (by kernel_rfl) Tryz.underlying3
    obtain ⟨m, y, hd⟩ := field_of Tryz.underlying41 h 4 37 4 3 (by kernel_rfl)
    obtain ⟨n4, e4, _⟩ := leaf_int Tryz.underlying37 hd 0 3 0 .i64 (by kernel_rfl) Tryz.underlying3
    obtain ⟨n5, e5, _⟩ := leaf_int Tryz.underlying37 hd 1 3 1 .i64 (by kernel_rfl) Tryz.underlying3
    obtain ⟨n6, e6, _⟩ := leaf_int Tryz.underlying37 hd 2 3 2 .i64 (by kernel_rfl) Tryz.underlying3
    obtain ⟨m', y', hc⟩ := field_of Tryz.underlying41 h 5 39 7 2 (by kernel_rfl)
    obtain ⟨n7, e7, _⟩ := leaf_int Tryz.underlying39 hc 0 2 0 .i64 (by kernel_rfl) Tryz.underlying2
    obtain ⟨n8, e8, _⟩ := leaf_int Tryz.underlying39 hc 1 3 1 .i64 (by kernel_rfl) Tryz.underlying3
    obtain ⟨n9, e9, w9⟩ := leaf_int Tryz.underlying41 h 6 2 9 .i64 (by kernel_rfl) Tryz.underlying2
    obtain ⟨s10, e10, _⟩ := leaf_str Tryz.underlying41 h 7 9 10 (by kernel_rfl) Tryz.underlying9
    simp only [List.drop_succ_cons, List.drop_zero, List.take_succ_cons, List.take_zero, List.cons.injEq, and_true] at e0 e1 e2 e3 e4 e5 e6 e7 e8 e9 e10
    subst e0 e1 e2 e3 e4 e5 e6 e7 e8 e9 e10
    exact ⟨⟨s0, n1, n2, n3, n4, n5, n6, n7, n8, n9, s10⟩, rfl, w9⟩
/-- an era by value -/
theorem open_era {fuel : Nat} {cs : List Value} {x : DataW H × List MemPlace} (hlen : cs.length = 13) (h : DataW.trod enc Tryz.prog w base sp held fuel 48 cs = some x) :
    ∃ (off kind save : Int) (set fmt : ByteArray) (ui : Bool) (uy um dk dw dd asec ab : Int), cs = [.int .i64 off, .int .i64 kind, .int .i64 save, .string set, .string fmt, .bool ui, .int .i64 uy, .int .i64 um, .int .i64 dk, .int .i64 dw, .int .i64 dd, .int .i64 asec, .int .i64 ab] ∧
      (Lit.int .i64 off).wf = true ∧ (Lit.int .i64 kind).wf = true ∧ (Lit.int .i64 save).wf = true ∧ set.size ≤ maxLen ∧ fmt.size ≤ maxLen := by
  match cs, hlen with
  | [c0, c1, c2, c3, c4, c5, c6, c7, c8, c9, c10, c11, c12], _ =>
    obtain ⟨n0, e0, w0⟩ := leaf_int Tryz.underlying48 h 0 2 0 .i64 (by kernel_rfl) Tryz.underlying2
    obtain ⟨n1, e1, w1⟩ := leaf_int Tryz.underlying48 h 1 3 1 .i64 (by kernel_rfl) Tryz.underlying3
    obtain ⟨n2, e2, w2⟩ := leaf_int Tryz.underlying48 h 2 2 2 .i64 (by kernel_rfl) Tryz.underlying2
    obtain ⟨s3, e3, w3⟩ := leaf_str Tryz.underlying48 h 3 9 3 (by kernel_rfl) Tryz.underlying9
    obtain ⟨s4, e4, w4⟩ := leaf_str Tryz.underlying48 h 4 9 4 (by kernel_rfl) Tryz.underlying9
    obtain ⟨m, y, hu⟩ := field_of Tryz.underlying48 h 5 46 5 8 (by kernel_rfl)
    obtain ⟨b5, e5⟩ := leaf_bool Tryz.underlying46 hu 0 4 0 (by kernel_rfl) Tryz.underlying4
    obtain ⟨n6, e6, _⟩ := leaf_int Tryz.underlying46 hu 1 3 1 .i64 (by kernel_rfl) Tryz.underlying3
    obtain ⟨n7, e7, _⟩ := leaf_int Tryz.underlying46 hu 2 3 2 .i64 (by kernel_rfl) Tryz.underlying3
    obtain ⟨m', y', hd⟩ := field_of Tryz.underlying46 hu 3 37 3 3 (by kernel_rfl)
    obtain ⟨n8, e8, _⟩ := leaf_int Tryz.underlying37 hd 0 3 0 .i64 (by kernel_rfl) Tryz.underlying3
    obtain ⟨n9, e9, _⟩ := leaf_int Tryz.underlying37 hd 1 3 1 .i64 (by kernel_rfl) Tryz.underlying3
    obtain ⟨n10, e10, _⟩ := leaf_int Tryz.underlying37 hd 2 3 2 .i64 (by kernel_rfl) Tryz.underlying3
    obtain ⟨m'', y'', hc⟩ := field_of Tryz.underlying46 hu 4 39 6 2 (by kernel_rfl)
    obtain ⟨n11, e11, _⟩ := leaf_int Tryz.underlying39 hc 0 2 0 .i64 (by kernel_rfl) Tryz.underlying2
    obtain ⟨n12, e12, _⟩ := leaf_int Tryz.underlying39 hc 1 3 1 .i64 (by kernel_rfl) Tryz.underlying3
    simp only [List.drop_succ_cons, List.drop_zero, List.take_succ_cons, List.take_zero, List.cons.injEq, and_true] at e0 e1 e2 e3 e4 e5 e6 e7 e8 e9 e10 e11 e12
    subst e0 e1 e2 e3 e4 e5 e6 e7 e8 e9 e10 e11 e12
    exact ⟨n0, n1, n2, s3, s4, b5, n6, n7, n8, n9, n10, n11, n12, rfl, w0, w1, w2, w3, w4⟩
theorem add_spotless (b o : Nat) (k j : Nat) : ((⟨b, o, none⟩ : Addr).add k).add j = ⟨b, o + k + j, none⟩ := by
  unfold Addr.add
  by_cases hk : k = 0 <;> by_cases hj : j = 0 <;> simp [hk, hj]
/-- a slice of rules that comes in -/
theorem open_rules {v : Value} {d : DataW H} {p : List MemPlace} (hok : ∃ a len cap, v = .slice a len cap) (h : DataW.Trod enc Tryz.prog w base sp held 22 v d p) :
    ∃ (A : Option Addr) (c : Nat) (L : List RV), v = .slice A L.length c ∧ L.length ≤ maxLen ∧ RulesIn w A L ∧ ∀ r ∈ L, (Lit.int .i64 r.save).wf = true := by
  obtain ⟨a0, len0, cap0, rfl⟩ := hok
  obtain ⟨fuel, hf⟩ := h
  rcases Go.Deep.open_slice Tryz.underlying22 hf with ⟨h0, _⟩ | ⟨a, len, cap, m, n, D, Pl, hcs, hb, hl, hm, hmm, hx, hi⟩
  · refine ⟨none, 0, [], ?_, Nat.zero_le _, RulesIn.nil _ _, fun r hr => by simp at hr⟩
    have : [Value.slice a0 len0 cap0] = [Value.slice none 0 0] := h0
    injection this
  · have hv : [Value.slice a0 len0 cap0] = [Value.slice (some a) len cap] := hcs
    injection hv with hv
    rw [hv]
    have hC : Tryz.prog.cellsOf 41 = 11 := by kernel_rfl
    have hlm : len ≤ m := by rw [hmm]; split <;> omega
    have key : ∀ i, i < len → ∃ r : RV, (Lit.int .i64 r.save).wf = true ∧ ∀ j u, r.cells[j]? = some u → w.cell? ((a.add (i * 11)).add j) = some u := by
      intro i hil
      obtain ⟨cs', hc, ht⟩ := hi i (by omega)
      rw [hC] at hc
      obtain ⟨_, hcl, hat⟩ := World.cells?_some hc
      obtain ⟨r, hr, hw⟩ := open_rule hcl ht
      refine ⟨r, hw, fun j u hu => ?_⟩
      have hj : j < 11 := (List.getElem?_eq_some_iff.mp hu).1
      rw [hat j hj, hr]; exact hu
    have key2 : ∃ L : List RV, L.length = len ∧ ∀ i r, L[i]? = some r → (Lit.int .i64 r.save).wf = true ∧ ∀ j u, r.cells[j]? = some u → w.cell? ((a.add (i * 11)).add j) = some u := by
      refine ⟨List.ofFn (fun i : Fin len => Classical.choose (key i.1 i.2)), by simp, fun i r hr => ?_⟩
      have hil : i < len := by have := (List.getElem?_eq_some_iff.mp hr).1; simpa using this
      rw [List.getElem?_ofFn, dif_pos hil] at hr
      injection hr with hr
      rw [← hr]
      exact Classical.choose_spec (key i hil)
    obtain ⟨L, hLl, hL⟩ := key2
    refine ⟨some a, cap, L, by rw [hLl], by rw [hLl]; omega, fun k r hr => ?_, fun r hr => ?_⟩
    · have h0 := (hL k r hr).2
      have hs : a.spot = none := by
        have h00 : 0 < L.length := by have := (List.getElem?_eq_some_iff.mp hr).1; omega
        have q := (hL 0 _ (List.getElem?_eq_getElem h00)).2 0 _ rfl
        rw [Nat.zero_mul] at q
        exact World.cell?_spot (by simpa [Addr.add] using q)
      obtain ⟨b, o, s⟩ := a
      simp only at hs
      subst hs
      have hc0 := h0 0 _ rfl
      refine ⟨b, o, rfl, ?_, fun j u hu => ?_⟩
      · rw [add_spotless] at hc0
        unfold World.cell? at hc0
        rcases Nat.lt_or_ge b w.heap.size with q | q
        · exact q
        · rw [Array.getElem?_eq_none q] at hc0; cases hc0
      · have := h0 j u hu
        rwa [add_spotless] at this
    · obtain ⟨k, hk⟩ := List.mem_iff_getElem?.1 hr
      exact (hL k r hk).1
end
end Go.Proofs.YtlideagcmhlkeaaGreatDoor
