/- Texts of one proof, one behind the other: Rep32g; ShelfW; Rep32c; Ex32; Laid32; Open20; Open32; OpenB32; B32; Upto. -/
import Derived.Test.YtlideagcmhlkeaaDoorU2
import Derived.BigQuiet
import Derived.Deep.QuietTactic
import Derived.Shelf.Strings.Builder1
import Derived.Shelf.Strings.Builder2
import Derived.Shelf.Strings.OnBuilder
import Derived.Shelf.Strings.BuilderF
import Derived.Shelf.Strings.BuilderK
import Derived.Shelf.Strconv.Itoa0
import Derived.Shelf.Strconv.Itoa1
import Derived.Shelf.LaysM
import Derived.Shelf.Strconv.Itoa2
import Derived.Shelf.Strconv.Itoa3
import Derived.Ground.MpProg
import Derived.Shelf.Pu.ParseUintPublic10
import Derived.Shelf.Pu.ErrVarParseUint
import Derived.Shelf.Strings.Search1
import Derived.Shelf.Strings.Search2
import Derived.Shelf.Strings.Cut
import Derived.Shelf.Strings.Shaped
import Derived.Shelf.GgClosure.StringsIndexFunc
import Derived.Shelf.Strings.Prefix
import Derived.Ground.Names2Prog
import Derived.Shelf.Slices.Clone
import Derived.Ground.SlgnProg
import Derived.Shelf.SlicesE.Equal
import Derived.Shelf.SlicesE.Clone
import Derived.Test.YtlideagcmhlkeaaDoorProg
import Derived.Lib.ItoaNum
import Derived.Lib.LaidTab
import Derived.Lib.AppendIntMem
import Derived.Deep.RegionHeld3
import Derived.Test.YtlideagcmhlkeaaDoorRows
import Derived.Stop.LaidErr
import Derived.OpenShut
import Derived.ChangeArms
import Derived.Deep.Slices
import Derived.Deep.Fields
import Derived.ChangeSame
import Derived.WideShapes
import Derived.LaidMore
import Derived.LaidLaws
import Derived.Deep.DeepHandedRow
import Derived.Stop.Joined

/- The walk of report.Compare (chapter 32). -/
namespace Go.Proofs.YtlideagcmhlkeaaDoor
open Go.RowKit
set_option linter.unusedVariables false
attribute [local go_sem ↓] Go.wp_at_zero Go.wp_at_succ

set_option maxRecDepth 100000 in
set_option maxHeartbeats 16000000 in
theorem compare_anyW (a b : SV) (w : World) (hA : SrcIn w a) (hB : SrcIn w b) (hfa : fewW a) (hzb : SrcSz b) :
    Calls Tryd.prog 42 #[.agg #[.slice a.rA a.rules.length a.rc, .slice a.zA a.zones.length a.zc, .slice a.kA a.links.length a.kc, .slice a.hA a.shifts.length a.hc], .agg #[.slice b.rA b.rules.length b.rc, .slice b.zA b.zones.length b.zc, .slice b.kA b.links.length b.kc, .slice b.hA b.shifts.length b.hc]] w (CmpRes a b w) := by
  have hB1 := Blk.new w 32 #[.slice a.rA a.rules.length a.rc, .slice a.zA a.zones.length a.zc, .slice a.kA a.links.length a.kc, .slice a.hA a.shifts.length a.hc]
  have hb1 := (Below.refl w.heap.size w).alloc (Nat.le_refl _) (.cells #[.slice a.rA a.rules.length a.rc, .slice a.zA a.zones.length a.zc, .slice a.kA a.links.length a.kc, .slice a.hA a.shifts.length a.hc] 32)
  have hB1' := hB1.alloc (.cells #[.slice b.rA b.rules.length b.rc, .slice b.zA b.zones.length b.zc, .slice b.kA b.links.length b.kc, .slice b.hA b.shifts.length b.hc] 32)
  have hB2 := Blk.newAt (w.alloc (.cells #[.slice a.rA a.rules.length a.rc, .slice a.zA a.zones.length a.zc, .slice a.kA a.links.length a.kc, .slice a.hA a.shifts.length a.hc] 32)) (w.heap.size + 1) (by simp) 32 #[.slice b.rA b.rules.length b.rc, .slice b.zA b.zones.length b.zc, .slice b.kA b.links.length b.kc, .slice b.hA b.shifts.length b.hc]
  have hb2 := hb1.alloc hb1.size (.cells #[.slice b.rA b.rules.length b.rc, .slice b.zA b.zones.length b.zc, .slice b.kA b.links.length b.kc, .slice b.hA b.shifts.length b.hc] 32)
  have hsz2 : ((w.alloc (.cells #[.slice a.rA a.rules.length a.rc, .slice a.zA a.zones.length a.zc, .slice a.kA a.links.length a.kc, .slice a.hA a.shifts.length a.hc] 32)).alloc (.cells #[.slice b.rA b.rules.length b.rc, .slice b.zA b.zones.length b.zc, .slice b.kA b.links.length b.kc, .slice b.hA b.shifts.length b.hc] 32)).heap.size = w.heap.size + 2 := by simp
  have HBa := Lib.hid (hB1'.alloc (.cells #[.slice none 0 0] 81)); have HBb := Lib.hid (hB2.alloc (.cells #[.slice none 0 0] 81))
  have hb3 := hb2.alloc hb2.size (.cells #[.slice none 0 0] 81)
  have hO : OutIs (((w.alloc (.cells #[.slice a.rA a.rules.length a.rc, .slice a.zA a.zones.length a.zc, .slice a.kA a.links.length a.kc, .slice a.hA a.shifts.length a.hc] 32)).alloc (.cells #[.slice b.rA b.rules.length b.rc, .slice b.zA b.zones.length b.zc, .slice b.kA b.links.length b.kc, .slice b.hA b.shifts.length b.hc] 32)).alloc (.cells #[.slice none 0 0] 81)) (w.heap.size + 2) (.slice none 0 0) [] := ⟨Blk.newAt ((w.alloc (.cells #[.slice a.rA a.rules.length a.rc, .slice a.zA a.zones.length a.zc, .slice a.kA a.links.length a.kc, .slice a.hA a.shifts.length a.hc] 32)).alloc (.cells #[.slice b.rA b.rules.length b.rc, .slice b.zA b.zones.length b.zc, .slice b.kA b.links.length b.kc, .slice b.hA b.shifts.length b.hc] 32)) (w.heap.size + 2) hsz2 _ _, rfl, .inl ⟨rfl, rfl⟩⟩
  have cR := Lib.hid (each_rules a.rA b.rA a.rc b.rc a.rules b.rules (w.heap.size + 2) (.slice none 0 0) [] w (((w.alloc (.cells #[.slice a.rA a.rules.length a.rc, .slice a.zA a.zones.length a.zc, .slice a.kA a.links.length a.kc, .slice a.hA a.shifts.length a.hc] 32)).alloc (.cells #[.slice b.rA b.rules.length b.rc, .slice b.zA b.zones.length b.zc, .slice b.kA b.links.length b.kc, .slice b.hA b.shifts.length b.hc] 32)).alloc (.cells #[.slice none 0 0] 81)) hA.rules hB.rules hb3 (by omega) hO (by have := hfa.1; omega) (by simp) hzb.1)
  have HA := Lib.hid hA; have HB := Lib.hid hB; have HF := Lib.hid hfa; have HZB := Lib.hid hzb; have HB3 := Lib.hid hb3
  have ka0 := (HBa.out.cell 0).trans rfl
  have kb0 := (HBb.out.cell 0).trans rfl
  clear hB1 hb1 hB1' hB2 hb2 hsz2 hb3 hO hA hB hfa hzb
  go_enter Tryd.func42, Tryd.ntmps42
  go_wp2_with fail
  refine cR.out.mono ?_
  rintro en w4 hres
  obtain ⟨RB, v1, rfl, hyes, hno, hT, hb4⟩ := each_bool hres
  have HLT : Hid (w.heap.size + 2 < w4.heap.size) := Lib.hid (by have := hT.size; simp at this; omega)
  have hb3 := HB3.out
  have hba4 := HBa.out.below hb4 (by omega)
  have hbb4 := HBb.out.below hb4 (by omega)
  clear HB3 HBa HBb hT ka0 kb0 cR hres
  obtain ⟨w3, hw3⟩ : ∃ x : World, x = (((w.alloc (.cells #[.slice a.rA a.rules.length a.rc, .slice a.zA a.zones.length a.zc, .slice a.kA a.links.length a.kc, .slice a.hA a.shifts.length a.hc] 32)).alloc (.cells #[.slice b.rA b.rules.length b.rc, .slice b.zA b.zones.length b.zc, .slice b.kA b.links.length b.kc, .slice b.hA b.shifts.length b.hc] 32)).alloc (.cells #[.slice none 0 0] 81)) := ⟨_, rfl⟩
  rw [← hw3] at hb3 hb4
  clear hw3
  have HB3 := Lib.hid hb3
  have HYES := Lib.hid hyes; have HNO := Lib.hid hno; have HB4 := Lib.hid hb4
  have HBa4 := Lib.hid hba4; have HBb4 := Lib.hid hbb4
  clear hyes hno hb3 hb4 hba4 hbb4
  go_upto_region 3 with (fail)
  go_cut [7] (fun s7 wx => ∃ (IS : Bool) (v : Value), s7 = .bool IS ∧ Below w4.heap.size w4 wx ∧ CmpPre a b w3 wx (w.heap.size + 2) v IS)
  case first =>
    have ka1 := (HBa4.out.cell 1).trans rfl
    have kb1 := (HBb4.out.cell 1).trans rfl
    have ka2 := (HBa4.out.cell 2).trans rfl
    have kb2 := (HBb4.out.cell 2).trans rfl
    have HBB := HB4
    cases RB with
    | false =>
      have HP : Hid (CmpPre a b w3 w4 (w.heap.size + 2) v1 false) := Lib.hid ⟨HLT.out, HBB.out, (fun q => nomatch q), fun _ q => HNO.out rfl q.1⟩
      clear HYES HNO HB4 HA HB HF HZB HB3
      go_wp2_with fail
      go_meet
      exact ⟨false, v1, rfl, Below.refl _ _, HP.out⟩
    | true =>
      obtain ⟨y1, y2⟩ := HYES.out rfl
      have Y1 := Lib.hid y1; have Y2 := Lib.hid y2
      clear y1 y2 HYES HNO
      by_cases hz : a.zones.length = b.zones.length
      rotate_left
      · have hzb2 : ((a.zones.length : Int) == (b.zones.length : Int)) = false := by rw [beq_eq_false_iff_ne]; omega
        have HP : Hid (CmpPre a b w3 w4 (w.heap.size + 2) v1 false) := Lib.hid ⟨HLT.out, HBB.out, (fun q => nomatch q), fun _ q => hz q.2.1⟩
        clear hz Y1 Y2 HB4 HA HB HF HZB HB3
        go_wp2_with fail
        go_meet
        exact ⟨false, v1, rfl, Below.refl _ _, HP.out⟩
      have hzb2 : ((a.zones.length : Int) == (b.zones.length : Int)) = true := by rw [beq_iff_eq]; omega
      have HZ := Lib.hid hz
      obtain ⟨RL, hRL⟩ : ∃ RL : Bool, (RL = true ↔ a.links = b.links) := by
        rcases Classical.em (a.links = b.links) with h | h
        · exact ⟨true, by simp [h]⟩
        · exact ⟨false, by simp [h]⟩
      have HRL := Lib.hid hRL
      have hbw := HB3.out.trans (HB4.out.mono (by omega))
      have cE := Lib.hid (equal_any a.kA b.kA a.kc b.kc a.links b.links RL w4 hRL (HA.out.links.below hbw) (HB.out.links.below hbw) (by have := HF.out.2.2.1; omega) HZB.out.2.2.1)
      clear hz hRL hbw HB4 HA HB HF HZB HB3
      go_wp2_with fail
      refine cE.out.mono ?_
      rintro en w5 ⟨rfl, hq⟩
      have hb5 := hq.below w4.heap.size
      have HP : Hid (CmpPre a b w3 w5 (w.heap.size + 2) v1 RL) := Lib.hid ⟨Nat.lt_of_lt_of_le HLT.out hb5.size, HBB.out.trans (hb5.mono (Nat.le_of_lt HLT.out)), fun q => ⟨Y2.out.below hb5, Y1.out, HZ.out, HRL.out.1 q⟩, fun q h => by have := HRL.out.2 h.2.2.2; rw [q] at this; cases this⟩
      have HB5 := Lib.hid hb5
      clear hq hb5 cE Y1 Y2 HZ HRL HBB HLT
      go_wp2_with fail
      go_meet
      exact ⟨RL, v1, rfl, HB5.out, HP.out⟩
  case rest =>
    obtain ⟨IS, v, rfl, hbc, hpre⟩ := hcut
    have HINV := Lib.hid hpre.start
    have hbc2 := hbc.alloc hbc.size (.cells #[.int .i64 0] 3)
    have HBa5 := Lib.hid (HBa4.out.below hbc2 (HBa4.out.lt)); have HBb5 := Lib.hid (HBb4.out.below hbc2 (HBb4.out.lt))
    clear HYES HNO HBa4 HBb4 hpre hbc hbc2
    go_wp2_with fail
    go_loopw [7, 8] (fun s7 s8 W => ∃ (k ib : Nat) (v : Value) (IS : Bool), k ≤ a.zones.length ∧ s7 = .bool IS ∧ s8 = .pointer (some ⟨ib, 0, none⟩) ∧ CmpInv a b w3 W (w.heap.size + 2) ib k v IS ∧ Blk W w.heap.size 32 #[.slice a.rA a.rules.length a.rc, .slice a.zA a.zones.length a.zc, .slice a.kA a.links.length a.kc, .slice a.hA a.shifts.length a.hc] ∧ Blk W (w.heap.size + 1) 32 #[.slice b.rA b.rules.length b.rc, .slice b.zA b.zones.length b.zc, .slice b.kA b.links.length b.kc, .slice b.hA b.shifts.length b.hc]) (fun _ s8 W => a.zones.length - mIdx s8 W)
    case atStart => exact ⟨0, _, v, IS, Nat.zero_le _, rfl, rfl, HINV.out, HBa5.out, HBb5.out⟩
    case round =>
      clear HINV HBa5 HBb5
      obtain ⟨k, ib, v, IS, hk, rfl, rfl, hinv, hBa, hBb⟩ := hrel
      have HI := Lib.hid hinv; have HBa := Lib.hid hBa; have HBb := Lib.hid hBb
      clear hinv hBa hBb
      have hi0 := (HI.out.box.cell 0).trans rfl
      have ka1 := (HBa.out.cell 1).trans rfl
      cases IS with
      | false =>
        have HR : Hid (CmpRes a b w (.returned (.tuple #[.slice none 0 0, .int .i64 2])) wr) := Lib.hid (.inr ⟨HI.out.no rfl, rfl, HB3.out.trans (HI.out.bel.mono (by omega))⟩)
        clear HI HBa HBb HA HB HF HZB HB3
        go_wp2_with fail
        go_ret2
        exact HR.out
      | true =>
        obtain ⟨y0, y1, y2, y3, y4, y5⟩ := HI.out.yes rfl
        by_cases hlt : k < a.zones.length
        rotate_left
        · obtain rfl : k = a.zones.length := by omega
          have hki : ¬ (a.zones.length : Int) < (a.zones.length : Int) := by omega
          have c0 := (y1.1.cell 0).trans rfl
          obtain ⟨A0, c0', hv0, hCh⟩ := ch_of_own y1
          have HR : Hid (CmpRes a b w (.returned (.tuple #[v, .int .i64 0])) wr) := Lib.hid (.inl ⟨okS_mk y2 y3 y4 y5, ⟨A0, c0', by rw [hv0]; rfl, hCh⟩, HB3.out.trans (HI.out.bel.mono (by omega))⟩)
          clear HI HBa HBb HA HB HF HZB HB3 HB4 y0 y1 y2 y3 y4 y5 hCh hv0
          go_wp2_with fail
          go_ret2
          exact HR.out
        obtain ⟨z, hz⟩ : ∃ z, a.zones[k]? = some z := ⟨_, List.getElem?_eq_getElem hlt⟩
        obtain ⟨y, hy⟩ : ∃ y, b.zones[k]? = some y := ⟨_, List.getElem?_eq_getElem (by omega)⟩
        have hbw := HB3.out.trans (HI.out.bel.mono (show w.heap.size ≤ w.heap.size + 2 by omega))
        obtain ⟨gz, oz, hzA, hgz0, haz0⟩ := HA.out.zones k z hz
        obtain ⟨gz', oz', hzA', hgz, haz⟩ := (HA.out.zones.below hbw) k z hz
        obtain ⟨rfl, rfl⟩ : gz' = gz ∧ oz' = oz := by rw [hzA] at hzA'; injection hzA' with q; injection q with q1 q2; exact ⟨q1.symm, q2.symm⟩
        obtain ⟨gy, oy, hyA, hgy0, hay0⟩ := HB.out.zones k y hy
        obtain ⟨gy', oy', hyA', hgy, hay⟩ := (HB.out.zones.below hbw) k y hy
        obtain ⟨rfl, rfl⟩ : gy' = gy ∧ oy' = oy := by rw [hyA] at hyA'; injection hyA' with q; injection q with q1 q2; exact ⟨q1.symm, q2.symm⟩
        have kb1 := (HBb.out.cell 1).trans rfl
        rw [hzA] at ka1
        rw [hyA] at kb1
        have nz0 : wr.cell? ⟨gz', oz' + k * 2, none⟩ = some (.string z.name) := haz 0 _ rfl
        have nz1 : wr.cell? ⟨gz', oz' + k * 2 + 1, none⟩ = some (.slice z.A z.eras.length z.c) := haz 1 _ rfl
        have ny0 : wr.cell? ⟨gy', oy' + k * 2, none⟩ = some (.string y.name) := hay 0 _ rfl
        have ny1 : wr.cell? ⟨gy', oy' + k * 2 + 1, none⟩ = some (.slice y.A y.eras.length y.c) := hay 1 _ rfl
        have hki : (k : Int) < (a.zones.length : Int) := by omega
        have hki2 : (k : Int) < (b.zones.length : Int) := by omega
        have hk0 : (0 : Int) ≤ (k : Int) := by omega
        have hk10 : (a.zones.length : Int) ≤ 100 := by have := HF.out.2.1; omega
        have hgzw : gz' < wr.heap.size := hgz; have hgyw : gy' < wr.heap.size := hgy
        have HZK := Lib.hid hz; have HYK := Lib.hid hy; have HBW := Lib.hid hbw; have Y0 := Lib.hid y0; have Y1 := Lib.hid y1; have Y2 := Lib.hid y2; have Y3 := Lib.hid y3; have Y4 := Lib.hid y4; have Y5 := Lib.hid y5; have HZA : Hid (gz' < w.heap.size + 2) := Lib.hid (by omega); have HYA : Hid (gy' < w.heap.size + 2) := Lib.hid (by omega)
        clear hz hy hbw haz hay haz0 hay0 hgz0 hgy0 y0 y1 y2 y3 y4 y5 hzA hyA hzA' hyA'
        by_cases hnm : z.name = y.name
        rotate_left
        · have hnb : (z.name.toList == y.name.toList) = false := by rw [beq_eq_false_iff_ne]; exact fun q => hnm ((toList_eq_iff _ _).1 q)
          have HNO2 : Hid (¬ P32.okS a b) := Lib.hid (fun q => hnm (q.2.2.1 k z y hlt HZK.out HYK.out).1)
          clear hnm Y0 Y1 Y2 Y3 Y4 Y5 HZK HYK HZA HYA HB3 HF HZB HA HB HBW
          go_wp2_with fail
          go_quiet (fail)
          have hi1 : (wr.drewN nq).cell? ⟨ib, 0, none⟩ = some (.int .i64 k) := hi0
          have hw1 := below_drewN (Below.refl wr.heap.size wr) nq
          have HBa2 := Lib.hid (HBa.out.drewN nq); have HBb2 := Lib.hid (HBb.out.drewN nq)
          clear ka1 kb1 nz0 nz1 ny0 ny1 hi0 hgz hgy hgzw hgyw HBa HBb
          generalize wr.drewN nq = wq at hi1 hw1 HBa2 HBb2 ⊢
          have HIN := Lib.hid (inv_no HI.out hw1 HNO2.out)
          have HMI := Lib.hid (mIdx_eq HI.out.box)
          clear hw1 HNO2 HI
          go_wp2_with fail
          go_roundw
          case rel => exact ⟨k + 1, _, v, false, by omega, rfl, rfl, HIN.out, HBa2.out.alloc _, HBb2.out.alloc _⟩
          case measure => rw [HMI.out, mIdx_next]; omega
        have hnb : (z.name.toList == y.name.toList) = true := by rw [hnm]; exact beq_self_eq_true _
        have HNM := Lib.hid hnm
        have CE : Hid (Calls Tryd.prog 75 #[.slice z.A z.eras.length z.c, .slice y.A y.eras.length y.c, .func (.func 76) #[] #[], .func (.func 77) #[] #[.pointer (some ⟨ib, 0, none⟩)], .pointer (some ⟨w.heap.size + 2, 0, none⟩)] wr.drew (EachRes P32.sameE P32.diffE (P32.mkE k) z.eras y.eras (w.heap.size + 2) wr.drew v (P32.ch P32.diffR P32.mkR a.rules b.rules a.rules.length ++ P32.chZ a.zones b.zones k))) := Lib.hid (each_eras z.A y.A z.c y.c z.eras y.eras (w.heap.size + 2) v _ w wr.drew k ib hi0 HI.out.box.lt (Nat.ne_of_gt HI.out.far) Y0.out (HA.out.eras z (List.mem_of_getElem? HZK.out)) (HB.out.eras y (List.mem_of_getElem? HYK.out)) HBW.out.drew (by omega) Y1.out (by have := HF.out.2.2.2.2 z (List.mem_of_getElem? HZK.out); omega) (out_leW HF.out k (by omega)) (HZB.out.2.2.2.2 y (List.mem_of_getElem? HYK.out)))
        have HS : Hid (wr.cell? ⟨w.heap.size, 1, none⟩ = some (.slice (some ⟨gz', oz', none⟩) a.zones.length a.zc) ∧ wr.cell? ⟨w.heap.size + 1, 1, none⟩ = some (.slice (some ⟨gy', oy', none⟩) b.zones.length b.zc) ∧ wr.cell? ⟨ib, 0, none⟩ = some (.int .i64 k) ∧ wr.cell? ⟨gz', oz' + k * 2, none⟩ = some (.string z.name) ∧ wr.cell? ⟨gz', oz' + k * 2 + 1, none⟩ = some (.slice z.A z.eras.length z.c) ∧ wr.cell? ⟨gy', oy' + k * 2, none⟩ = some (.string y.name) ∧ wr.cell? ⟨gy', oy' + k * 2 + 1, none⟩ = some (.slice y.A y.eras.length y.c)) := Lib.hid ⟨ka1, kb1, hi0, nz0, nz1, ny0, ny1⟩
        have HSK : Hid (∀ W v2, Turned (w.heap.size + 2) wr v W v2 → Below (w.heap.size + 2) wr W → (W.cell? ⟨w.heap.size, 1, none⟩ = some (.slice (some ⟨gz', oz', none⟩) a.zones.length a.zc) ∧ W.cell? ⟨w.heap.size + 1, 1, none⟩ = some (.slice (some ⟨gy', oy', none⟩) b.zones.length b.zc) ∧ W.cell? ⟨ib, 0, none⟩ = some (.int .i64 k) ∧ W.cell? ⟨gz', oz' + k * 2, none⟩ = some (.string z.name) ∧ W.cell? ⟨gz', oz' + k * 2 + 1, none⟩ = some (.slice z.A z.eras.length z.c) ∧ W.cell? ⟨gy', oy' + k * 2, none⟩ = some (.string y.name) ∧ W.cell? ⟨gy', oy' + k * 2 + 1, none⟩ = some (.slice y.A y.eras.length y.c))) := Lib.hid (fun W v2 h1 h2 => ⟨(h2.cell (p := ⟨w.heap.size, 1, none⟩) (by show w.heap.size < _; omega)).trans ka1, (h2.cell (p := ⟨w.heap.size + 1, 1, none⟩) (by show w.heap.size + 1 < _; omega)).trans kb1, (turned_cell hi0 HI.out.box.lt (Nat.ne_of_gt HI.out.far) Y0.out W v2 h1).1, (h2.cell (p := ⟨gz', _, none⟩) (HZA.out)).trans nz0, (h2.cell (p := ⟨gz', _, none⟩) (HZA.out)).trans nz1, (h2.cell (p := ⟨gy', _, none⟩) (HYA.out)).trans ny0, (h2.cell (p := ⟨gy', _, none⟩) (HYA.out)).trans ny1⟩)
        go_wp2_with fail
        go_region_held3 (fun W => W.cell? ⟨w.heap.size, 1, none⟩ = some (.slice (some ⟨gz', oz', none⟩) a.zones.length a.zc) ∧ W.cell? ⟨w.heap.size + 1, 1, none⟩ = some (.slice (some ⟨gy', oy', none⟩) b.zones.length b.zc) ∧ W.cell? ⟨ib, 0, none⟩ = some (.int .i64 k) ∧ W.cell? ⟨gz', oz' + k * 2, none⟩ = some (.string z.name) ∧ W.cell? ⟨gz', oz' + k * 2 + 1, none⟩ = some (.slice z.A z.eras.length z.c) ∧ W.cell? ⟨gy', oy' + k * 2, none⟩ = some (.string y.name) ∧ W.cell? ⟨gy', oy' + k * 2 + 1, none⟩ = some (.slice y.A y.eras.length y.c)) (first | exact HSK.out _ _ hT5 hb5 | exact HS.out | assumption) ((go_at_call 75; refine CE.out.mono ?_; rintro en w5 hres; obtain ⟨RB, v2, rfl, hyes, hno, hT5', hb5'⟩ := each_bool hres; have hT5 : Turned (w.heap.size + 2) wr v w5 v2 := ⟨hT5'.size, hT5'.kept, hT5'.own⟩; have hb5 : Below (w.heap.size + 2) wr w5 := (Below.refl (w.heap.size + 2) wr).drew.trans hb5'; clear hres hT5' hb5'))
        rename_i hKeep
        clear hKeep
        have hi5 := (HSK.out _ _ hT5 hb5).2.2.1
        have HIN := Lib.hid (inv_yes HI.out hT5 hb5 hyes hno HZK.out HYK.out hlt HNM.out)
        have HBa5 := Lib.hid (HBa.out.below hb5 (by omega)); have HBb5 := Lib.hid (HBb.out.below hb5 (by omega))
        have HMI := Lib.hid (mIdx_eq HI.out.box)
        clear hT5 hb5 hyes hno HSK HS HI HBa HBb Y0 Y1 Y2 Y3 Y4 Y5 HZK HYK HNM CE HBW HZA HYA ka1 kb1 nz0 nz1 ny0 ny1 hi0 hgz hgy hgzw hgyw
        go_wp2_with fail
        go_roundw
        case rel => exact ⟨k + 1, _, v2, RB, by omega, rfl, rfl, HIN.out, HBa5.out.alloc _, HBb5.out.alloc _⟩
        case measure => rw [HMI.out, mIdx_next]; omega
theorem compare_any (a b : SV) (w : World) (hA : SrcIn w a) (hB : SrcIn w b) (hfa : few a) (hzb : SrcSz b) :
    Calls Tryd.prog 42 #[.agg #[.slice a.rA a.rules.length a.rc, .slice a.zA a.zones.length a.zc, .slice a.kA a.links.length a.kc, .slice a.hA a.shifts.length a.hc], .agg #[.slice b.rA b.rules.length b.rc, .slice b.zA b.zones.length b.zc, .slice b.kA b.links.length b.kc, .slice b.hA b.shifts.length b.hc]] w (CmpRes a b w) := compare_anyW a b w hA hB hfa.w hzb
end Go.Proofs.YtlideagcmhlkeaaDoor

/-
  DERIVED: THE SHELF's CONTRACTS AT THIS DUMP, IN PLAIN WORDS (tools/lay-plain.mjs out of 'YtlideagcmhlkeaaDoorShelfRaw.lean', which tools/lay-shelf.mjs wrote): THE SAME DECLARATIONS UNDER THE SAME NAMES: 'import', 'namespace', 'open', 'def', 'theorem' AND NOTHING ELSE: no command of the shelf's: FOR A HAND-IN. Each laying: the table of numbers ('.._ren') and one theorem, a field a fact of the dump's own or the kernel's comparison; each contract: ONE APPLICATION.
-/
namespace Go.Proofs
open Go.Shelf
def Tryd.lays169_ren : Go.Shelf.Ren := ⟨fun | 169 => 102 | n => n, fun | 70 => 156 | 9 => 9 | 0 => 0 | 72 => 158 | 37 => 24 | 127 => 182 | 3 => 3 | 5 => 5 | n => n, fun | n => n⟩
theorem Tryd.lays169 : Go.Proofs.Lays.n169 Tryd.prog Tryd.lays169_ren := {
  mixed := by kernel_rfl
  f169 := Tryd.func102.trans (congrArg some (by kernel_rfl))
  t0 := Tryd.underlying0
  a0 := Tryd.isAgg0
  z0 := Tryd.sizeOf0
  v0 := Tryd.zeroValue0
  t3 := Tryd.underlying3
  a3 := Tryd.isAgg3
  z3 := Tryd.sizeOf3
  v3 := Tryd.zeroValue3
  t9 := Tryd.underlying9
  a9 := Tryd.isAgg9
  z9 := Tryd.sizeOf9
  v9 := Tryd.zeroValue9
  t37 := Tryd.underlying24
  a37 := Tryd.isAgg24
  z37 := Tryd.sizeOf24
  v37 := Tryd.zeroValue24
  t70 := Tryd.underlying156
  a70 := Tryd.isAgg156
  z70 := Tryd.sizeOf156
  v70 := Tryd.zeroValue156
  t72 := Tryd.underlying158
  a72 := Tryd.isAgg158
  z72 := Tryd.sizeOf158
  v72 := Tryd.zeroValue158
  t127 := Tryd.underlying182
  a127 := Tryd.isAgg182
  z127 := Tryd.sizeOf182
  v127 := Tryd.zeroValue182 }
theorem Tryd.Builder_Extra_169 : Builder.Extra Tryd.prog Tryd.lays169_ren := {
  sizeBuilder := by kernel_rfl
  liesBuilder := by kernel_rfl
  t5 := Tryd.underlying5
  a5 := Tryd.isAgg5
  z5 := Tryd.sizeOf5
  v5 := Tryd.zeroValue5
  infoByte := by kernel_rfl
  cellsByte := by kernel_rfl
  sizeByte := by kernel_rfl
  neB5 := by decide }
open Go.RowKit in
/-- (*strings.Builder).String: "String returns the accumulated string.": WHATEVER THE BUILDER HOLDS; THE FORM '_k': OVER 'Lib.IsBuilderF' (a builder that 'String()' may have read), AND WITH THE FRAME THAT REACHES ABOVE THE BUILDER: 'Lib.OthersKept': every block that is not b and is no row of uint8's stands as it stood: the iterator of a range among them. (LAID: no walk: one application.) -/
theorem Tryd.Builder_String_any_k (B b : Nat) (l : List UInt8) (w : World) (h : Lib.IsBuilderF 158 5 B b (Lib.byteCells l) w) (hBw : B ≤ w.heap.size) :
    Calls Tryd.prog 102 #[.pointer (some ⟨b, 0, none⟩)] w fun e w' => e = .returned (.string ⟨l.toArray⟩) ∧ (Lib.IsBuilderF 158 5 B b (Lib.byteCells l) w' ∧ Below B w w' ∧ Lib.OthersKept 5 (some b) w w') := Any.Builder_String_any_k Tryd.lays169 Tryd.Builder_Extra_169 B b l w h hBw
end Go.Proofs

/- The walk of report.Text (chapter 32). -/
namespace Go.Proofs.YtlideagcmhlkeaaDoor
open Go.RowKit
set_option linter.unusedVariables false

theorem gPow : Tryd.prog.globalNamed "internal/strconv.uint64pow10" = some 2 := by kernel_rfl
theorem var_below {P : Program} {B g : Nat} {W W' : World} {n : String} {cs : Array Value} (h : Below B W W') (hg : P.globalNamed n = some g) (hgB : g < B) (hv : W.var? P n = some cs) : W'.var? P n = some cs := by
  unfold World.var? at hv ⊢
  simp only [hg, Option.bind_some] at hv ⊢
  rw [h.block g hgB]
  exact hv
/-- the variables: the table of powers of ten, the words -/
structure Vars (w : World) : Prop where
  pow : Lib.TabIs Tryd.prog w "internal/strconv.uint64pow10" .u64 Lib.pow10Tab
  words : ∀ j u, (#[.int .i64 1, .string ⟨#[115, 97, 118, 101]⟩, .int .i64 2, .string ⟨#[97, 116]⟩, .int .i64 4, .string ⟨#[111, 102, 102]⟩, .int .i64 8, .string ⟨#[102, 111, 114, 109, 97, 116]⟩, .int .i64 16, .string ⟨#[117, 110, 116, 105, 108]⟩] : Array Value)[j]? = some u → w.cell? ⟨0, j, none⟩ = some u
  big : 2 < w.heap.size ∧ 0 < w.heap.size
theorem Vars.below {w w' : World} (h : Vars w) (hb : Below w.heap.size w w') : Vars w' :=
  ⟨var_below hb gPow h.big.1 h.pow, fun j u hu => (hb.cell (p := ⟨0, j, none⟩) h.big.2).trans (h.words j u hu), Nat.lt_of_lt_of_le h.big.1 hb.size, Nat.lt_of_lt_of_le h.big.2 hb.size⟩
theorem itoa_pos (i : Int) (w : World) (h0 : 0 ≤ i) (h1 : i ≤ 9223372036854775807) (hv : Vars w) :
    Calls Tryd.prog 45 #[.int .i64 i] w fun e w' => e = .returned (.string (str (Lib.decDigits i.toNat))) ∧ Below w.heap.size w w' := by
  refine (Tryd.strconv_Itoa i (by omega) h1 w hv.pow).mono ?_
  rintro e w' ⟨rfl, k, os, rfl⟩
  refine ⟨by simp only [Lib.itoa]; rw [if_neg (by omega)]; rfl, Lib.below_grow _ _ (Nat.le_refl _) _ _⟩
theorem Blk.others {w w' : World} {g : Nat} {t e : TypeId} {b : Nat} {cs : Array Value} (h : Blk w g t cs) (hk : Lib.OthersKept e (some b) w w') (hg : g ≠ b) (ht : t ≠ e) : Blk w' g t cs :=
  hk g _ h (fun q => hg (Option.some.inj q)) (fun c fz q => by injection q with _ q _; exact ht q)
theorem bld_below {w w' : World} {B b : Nat} {l : List UInt8} (h : Bld w B b l) (hb : Below w.heap.size w w') : Bld w' B b l := by
  have key : ∀ p, Lib.BuilderAtF 158 5 B b p (Lib.byteCells l) w → Lib.BuilderAtF 158 5 B b p (Lib.byteCells l) w' := by
    rintro p ⟨h1, v, h2, h3, h4⟩
    have lt : ∀ {g : Nat} {o : Obj}, w.heap[g]? = some o → g < w.heap.size := by
      intro g o hg
      rcases Nat.lt_or_ge g w.heap.size with q | q
      · exact q
      · rw [Array.getElem?_eq_none q] at hg; cases hg
    refine ⟨h1, v, (hb.block b (lt h2)).trans h2, ⟨h3.1, ?_⟩, h4⟩
    rcases h3.2 with q | ⟨g, cap, cur, fz, hv, hB, hg, r⟩
    · exact .inl q
    · exact .inr ⟨g, cap, cur, fz, hv, hB, (hb.block g (lt hg)).trans hg, r⟩
  rcases h with h | h
  · exact .inl (key _ h)
  · exact .inr (key _ h)
theorem bld_alloc {w : World} {B b : Nat} {l : List UInt8} (h : Bld w B b l) (o : Obj) : Bld (w.alloc o) B b l := bld_below h ((Below.refl _ _).alloc (Nat.le_refl _) o)
theorem bld_new (w : World) : Bld (w.alloc (.cells #[.pointer none, .slice none 0 0] 158)) w.heap.size w.heap.size [] :=
  .inl ⟨Nat.le_refl _, _, heap_alloc_new w _, ⟨rfl, .inl ⟨rfl, rfl⟩⟩, fun q => by simp [Value.ownBlock] at q⟩
/-- the words that a sum names -/
def wordsL (x : Int) (k : Nat) : List UInt8 := (([(1, [115, 97, 118, 101]), (2, [97, 116]), (4, [111, 102, 102]), (8, [102, 111, 114, 109, 97, 116]), (16, [117, 110, 116, 105, 108])] : List (Int × List UInt8)).take k).flatMap fun t => P32.wordL (P32.bit x t.1) t.2
theorem wordsL_len (x : Int) (k : Nat) : (wordsL x k).length ≤ 40 := by
  have key : ∀ b1 b2 b3 b4 b5 : Bool, ∀ k, k < 6 → (((([(b1, [115, 97, 118, 101]), (b2, [97, 116]), (b3, [111, 102, 102]), (b4, [102, 111, 114, 109, 97, 116]), (b5, [117, 110, 116, 105, 108])] : List (Bool × List UInt8)).take k).flatMap fun t => P32.wordL t.1 t.2)).length ≤ 40 := by decide +kernel
  have hk : wordsL x k = wordsL x (min k 5) := by
    unfold wordsL
    rcases Nat.le_total k 5 with h | h
    · rw [Nat.min_eq_left h]
    · rw [Nat.min_eq_right h, List.take_of_length_le (by simpa using h), List.take_of_length_le (by simp)]
  rw [hk]
  have q := key (P32.bit x 1) (P32.bit x 2) (P32.bit x 4) (P32.bit x 8) (P32.bit x 16) (min k 5) (by omega)
  have e : wordsL x (min k 5) = ((([(P32.bit x 1, [115, 97, 118, 101]), (P32.bit x 2, [97, 116]), (P32.bit x 4, [111, 102, 102]), (P32.bit x 8, [102, 111, 114, 109, 97, 116]), (P32.bit x 16, [117, 110, 116, 105, 108])] : List (Bool × List UInt8)).take (min k 5)).flatMap fun t => P32.wordL t.1 t.2) := by
    have hm : min k 5 ≤ 5 := Nat.min_le_right _ _
    generalize min k 5 = m at hm
    match m, hm with
    | 0, _ | 1, _ | 2, _ | 3, _ | 4, _ | 5, _ => rfl
  rw [e]; exact q
theorem wordsL_succ (x : Int) (k : Nat) (t : Int × List UInt8) (h : ([(1, [115, 97, 118, 101]), (2, [97, 116]), (4, [111, 102, 102]), (8, [102, 111, 114, 109, 97, 116]), (16, [117, 110, 116, 105, 108])] : List (Int × List UInt8))[k]? = some t) : wordsL x (k + 1) = wordsL x k ++ P32.wordL (P32.bit x t.1) t.2 := by
  unfold wordsL
  rw [List.take_add_one, h, List.flatMap_append]
  simp
theorem bits_bit (x : Int) (h0 : 0 ≤ x) (h1 : x ≤ 31) (b : Int) (hb : b ∈ [1, 2, 4, 8, 16]) : (bits .and .i64 x b != 0) = P32.bit x b := by
  have key : ∀ n < 32, ∀ b ∈ ([1, 2, 4, 8, 16] : List Int), (bits .and .i64 ((n : Nat) : Int) b != 0) = P32.bit (n : Int) b := by decide +kernel
  obtain ⟨n, rfl⟩ := Int.eq_ofNat_of_zero_le h0
  exact key n (by omega) b hb
theorem line_words (c : P32.CV) (h : P32.right c) : P32.line c = (if c.part = 1 then [114, 117, 108, 101, 32] ++ Lib.decDigits c.index.toNat else [101, 114, 97, 32] ++ Lib.decDigits c.index.toNat ++ [32] ++ Lib.decDigits c.era.toNat) ++ (wordsL c.what 5 ++ [10]) := by
  have key : ∀ n < 32, (1 ≤ n ∧ n ≤ 3 → P32.wordL (P32.bit ((n : Nat) : Int) 1) [115, 97, 118, 101] ++ P32.wordL (P32.bit (n : Int) 2) [97, 116] = wordsL (n : Int) 5) ∧ (n % 4 = 0 → P32.wordL (P32.bit (n : Int) 4) [111, 102, 102] ++ P32.wordL (P32.bit (n : Int) 8) [102, 111, 114, 109, 97, 116] ++ P32.wordL (P32.bit (n : Int) 16) [117, 110, 116, 105, 108] = wordsL (n : Int) 5) := by decide +kernel
  obtain ⟨p, i, e, x⟩ := c
  rcases h with ⟨rfl, h1, h2, h3, h4⟩ | ⟨rfl, h1, h2, h3, h4, h5⟩
  · simp only at h1 h2 h3 h4
    obtain ⟨n, rfl⟩ := Int.eq_ofNat_of_zero_le (show 0 ≤ x by omega)
    have q := (key n (by omega)).1 (by omega)
    unfold P32.line
    rw [if_pos rfl, if_pos rfl, P32.lineR]
    simp only at *
    rw [← q]
    simp only [List.append_assoc]
  · simp only at h1 h2 h3 h4 h5
    obtain ⟨n, rfl⟩ := Int.eq_ofNat_of_zero_le (show 0 ≤ x by omega)
    have q := (key n (by omega)).2 (by omega)
    unfold P32.line
    rw [if_neg (show ¬ (2 : Int) = 1 by decide), if_neg (show ¬ (2 : Int) = 1 by decide), P32.lineE]
    simp only at *
    rw [← q]
    simp only [List.append_assoc]

theorem idx5_0 : ∀ w : World, (Instr.index 165 (.agg #[.int .i64 1, .string ⟨#[115, 97, 118, 101]⟩, .int .i64 2, .string ⟨#[97, 116]⟩, .int .i64 4, .string ⟨#[111, 102, 102]⟩, .int .i64 8, .string ⟨#[102, 111, 114, 109, 97, 116]⟩, .int .i64 16, .string ⟨#[117, 110, 116, 105, 108]⟩]) (.int .i64 0)).run Tryd.prog w = .ok (.agg #[.int .i64 1, .string ⟨#[115, 97, 118, 101]⟩]) w := by intro w; kernel_rfl
theorem idx5_1 : ∀ w : World, (Instr.index 165 (.agg #[.int .i64 1, .string ⟨#[115, 97, 118, 101]⟩, .int .i64 2, .string ⟨#[97, 116]⟩, .int .i64 4, .string ⟨#[111, 102, 102]⟩, .int .i64 8, .string ⟨#[102, 111, 114, 109, 97, 116]⟩, .int .i64 16, .string ⟨#[117, 110, 116, 105, 108]⟩]) (.int .i64 1)).run Tryd.prog w = .ok (.agg #[.int .i64 2, .string ⟨#[97, 116]⟩]) w := by intro w; kernel_rfl
theorem idx5_2 : ∀ w : World, (Instr.index 165 (.agg #[.int .i64 1, .string ⟨#[115, 97, 118, 101]⟩, .int .i64 2, .string ⟨#[97, 116]⟩, .int .i64 4, .string ⟨#[111, 102, 102]⟩, .int .i64 8, .string ⟨#[102, 111, 114, 109, 97, 116]⟩, .int .i64 16, .string ⟨#[117, 110, 116, 105, 108]⟩]) (.int .i64 2)).run Tryd.prog w = .ok (.agg #[.int .i64 4, .string ⟨#[111, 102, 102]⟩]) w := by intro w; kernel_rfl
theorem idx5_3 : ∀ w : World, (Instr.index 165 (.agg #[.int .i64 1, .string ⟨#[115, 97, 118, 101]⟩, .int .i64 2, .string ⟨#[97, 116]⟩, .int .i64 4, .string ⟨#[111, 102, 102]⟩, .int .i64 8, .string ⟨#[102, 111, 114, 109, 97, 116]⟩, .int .i64 16, .string ⟨#[117, 110, 116, 105, 108]⟩]) (.int .i64 3)).run Tryd.prog w = .ok (.agg #[.int .i64 8, .string ⟨#[102, 111, 114, 109, 97, 116]⟩]) w := by intro w; kernel_rfl
theorem idx5_4 : ∀ w : World, (Instr.index 165 (.agg #[.int .i64 1, .string ⟨#[115, 97, 118, 101]⟩, .int .i64 2, .string ⟨#[97, 116]⟩, .int .i64 4, .string ⟨#[111, 102, 102]⟩, .int .i64 8, .string ⟨#[102, 111, 114, 109, 97, 116]⟩, .int .i64 16, .string ⟨#[117, 110, 116, 105, 108]⟩]) (.int .i64 4)).run Tryd.prog w = .ok (.agg #[.int .i64 16, .string ⟨#[117, 110, 116, 105, 108]⟩]) w := by intro w; kernel_rfl
theorem bld_lt {w : World} {B b : Nat} {l : List UInt8} (h : Bld w B b l) : b < w.heap.size := by
  have key : ∀ p, Lib.BuilderAtF 158 5 B b p (Lib.byteCells l) w → b < w.heap.size := by
    rintro p ⟨h1, v, h2, _⟩
    rcases Nat.lt_or_ge b w.heap.size with q | q
    · exact q
    · rw [Array.getElem?_eq_none q] at h2; cases h2
  rcases h with h | h <;> exact key _ h
theorem lit_app (a b : List UInt8) (X : ByteArray) (h : X = str a) : X ++ str b = str (a ++ b) := by rw [h, str_append]
/-- what stays while a line is written -/
def Mid (w wr : World) (cs : Array Value) (l : List UInt8) (W : World) : Prop := Bld W w.heap.size w.heap.size l ∧ Blk W wr.heap.size 87 cs ∧ Vars W ∧ Below w.heap.size w W
theorem Mid.below {w wr W W' : World} {cs : Array Value} {l : List UInt8} (h : Mid w wr cs l W) (hb : Below W.heap.size W W') : Mid w wr cs l W' :=
  ⟨bld_below h.1 hb, h.2.1.below hb h.2.1.lt, h.2.2.1.below hb, h.2.2.2.trans (hb.mono h.2.2.2.size)⟩
theorem Mid.alloc {w wr W : World} {cs : Array Value} {l : List UInt8} (h : Mid w wr cs l W) (o : Obj) : Mid w wr cs l (W.alloc o) := h.below ((Below.refl _ _).alloc (Nat.le_refl _) o)
theorem mid_drew {w wr W : World} {cs : Array Value} {l : List UInt8} (h : Mid w wr cs l W) : Mid w wr cs l W.drew := h.below (Below.refl W.heap.size W).drew
theorem mid_write {w wr W W' : World} {cs : Array Value} {l l' : List UInt8} (h : Mid w wr cs l W) (hlt : w.heap.size < wr.heap.size) (hg : 2 < w.heap.size ∧ 0 < w.heap.size) (h1 : Bld W' w.heap.size w.heap.size l') (h2 : Below w.heap.size W W') (h3 : Lib.OthersKept 5 (some w.heap.size) W W') : Mid w wr cs l' W' := by
  have hv := h.2.2.1
  refine ⟨h1, h.2.1.others h3 (by omega) (by decide), ⟨var_below h2 gPow hg.1 hv.pow, fun j u hu => (h2.cell (p := ⟨0, j, none⟩) hg.2).trans (hv.words j u hu), Nat.lt_of_lt_of_le hg.1 (Nat.le_trans h.2.2.2.size h2.size), Nat.lt_of_lt_of_le hg.2 (Nat.le_trans h.2.2.2.size h2.size)⟩, h.2.2.2.trans h2⟩
theorem mid_str {w wr W : World} {cs : Array Value} {l : List UInt8} (h : Mid w wr cs l W) (hlt : w.heap.size < wr.heap.size) (hg : 2 < w.heap.size ∧ 0 < w.heap.size) (s : List UInt8) (X : ByteArray) (hX : X = str s) (hl : l.length ≤ 1100000) (hs : s.length ≤ 1100000) :
    Calls Tryd.prog 100 #[.pointer (some ⟨w.heap.size, 0, none⟩), .string X] W fun e W' => e = .returned (.tuple #[.int .i64 s.length, .nilIface]) ∧ Mid w wr cs (l ++ s) W' := by
  subst hX
  refine (write_str w.heap.size w.heap.size l s W h.1 (by omega) h.2.2.2.size).mono ?_
  rintro e W' ⟨rfl, h1, h2, h3⟩
  exact ⟨rfl, mid_write h hlt hg h1 h2 h3⟩
theorem mid_byte {w wr W : World} {cs : Array Value} {l : List UInt8} (h : Mid w wr cs l W) (hlt : w.heap.size < wr.heap.size) (hg : 2 < w.heap.size ∧ 0 < w.heap.size) (hl : l.length ≤ 1100000) :
    Calls Tryd.prog 101 #[.pointer (some ⟨w.heap.size, 0, none⟩), .int .u8 10] W fun e W' => e = .returned .nilIface ∧ Mid w wr cs (l ++ [10]) W' := by
  refine (write_byte w.heap.size w.heap.size l 10 W h.1 (by omega) h.2.2.2.size).mono ?_
  rintro e W' ⟨rfl, h1, h2, h3⟩
  exact ⟨rfl, mid_write h hlt hg h1 h2 h3⟩
theorem mid_itoa {w wr W : World} {cs : Array Value} {l : List UInt8} (h : Mid w wr cs l W) (i : Int) (h0 : 0 ≤ i) (h1 : i ≤ 9223372036854775807) :
    Calls Tryd.prog 45 #[.int .i64 i] W fun e W' => e = .returned (.string (str (Lib.decDigits i.toNat))) ∧ Mid w wr cs l W' :=
  (itoa_pos i W h0 h1 h.2.2.1).mono fun _ _ ⟨he, hb⟩ => ⟨he, h.below hb⟩
theorem mid_cells {w wr W : World} {p i e x : Int} {l : List UInt8} (h : Mid w wr #[.int .i64 p, .int .i64 i, .int .i64 e, .int .i64 x] l W) : W.cell? ⟨wr.heap.size, 0, none⟩ = some (.int .i64 p) ∧ W.cell? ⟨wr.heap.size, 1, none⟩ = some (.int .i64 i) ∧ W.cell? ⟨wr.heap.size, 2, none⟩ = some (.int .i64 e) ∧ W.cell? ⟨wr.heap.size, 3, none⟩ = some (.int .i64 x) :=
  ⟨(h.2.1.cell 0).trans rfl, (h.2.1.cell 1).trans rfl, (h.2.1.cell 2).trans rfl, (h.2.1.cell 3).trans rfl⟩
def MidX (w wr : World) (cs : Array Value) (W : World) : Prop := ∃ l, Mid w wr cs l W
theorem midx {w wr W : World} {p i e x : Int} {l : List UInt8} (h : Mid w wr #[.int .i64 p, .int .i64 i, .int .i64 e, .int .i64 x] l W) : W.cell? ⟨wr.heap.size, 0, none⟩ = some (.int .i64 p) ∧ W.cell? ⟨wr.heap.size, 1, none⟩ = some (.int .i64 i) ∧ W.cell? ⟨wr.heap.size, 2, none⟩ = some (.int .i64 e) ∧ W.cell? ⟨wr.heap.size, 3, none⟩ = some (.int .i64 x) ∧ MidX w wr #[.int .i64 p, .int .i64 i, .int .i64 e, .int .i64 x] W :=
  ⟨(h.2.1.cell 0).trans rfl, (h.2.1.cell 1).trans rfl, (h.2.1.cell 2).trans rfl, (h.2.1.cell 3).trans rfl, ⟨l, h⟩⟩
set_option maxRecDepth 100000 in
set_option maxHeartbeats 8000000 in
theorem rep_text (A : Option Addr) (c : Nat) (L : List P32.CV) (w : World) (hl : L.length ≤ 1000) (hC : ChIn w A L) (hok : ChOk L) (hv : Vars w) :
    Calls Tryd.prog 71 #[.slice A L.length c] w fun e w' => e = .returned (.tuple #[.string (str (P32.text L).1), .int .i64 (P32.text L).2]) ∧ Below w.heap.size w w' := by
  have hli : (L.length : Int) ≤ 1000 := by omega
  have HOK := Lib.hid hok
  have HV := Lib.hid hv
  have HG := Lib.hid hv.big
  clear hok hv
  obtain ⟨R, hR⟩ : ∃ R, P32.text L = R := ⟨_, rfl⟩
  rw [hR]
  have HR := Lib.hid hR
  clear hR
  have hC0 := hC
  have hB0 := bld_new w
  have hb0 := (Below.refl w.heap.size w).alloc (Nat.le_refl _) (.cells #[.pointer none, .slice none 0 0] 158)
  go_enter Tryd.func71, Tryd.ntmps71
  go_wp2_with fail
  go_loopw [11] (fun i wr => ∃ k : Nat, k ≤ L.length ∧ i = .int .i64 k ∧ Bld wr w.heap.size w.heap.size ((L.take k).flatMap P32.line) ∧ Hid (RtTo L k) ∧ Below w.heap.size w wr) (fun i _ => L.length - (intOf i).toNat)
  case atStart => exact ⟨0, Nat.zero_le _, rfl, hB0, Lib.hid (fun j c h => by omega), hb0⟩
  case round =>
    clear hB0 hb0
    obtain ⟨k, hk, rfl, hB, HT, hb⟩ := hrel
    have HC := Lib.hid (hC0.below hb)
    have hlt0 := bld_lt hB
    clear hC hC0
    by_cases hlt : k < L.length
    · obtain ⟨cv, hcv⟩ : ∃ cv, L[k]? = some cv := ⟨_, List.getElem?_eq_getElem hlt⟩
      obtain ⟨g, o, rfl, hg, hat⟩ := HC.out k cv hcv
      have HAT := Lib.hid hat
      have HN := Lib.hid (fun q => (text_no hcv q).symm.trans HR.out)
      have HF := Lib.hid (flat_take P32.line L k cv hcv)
      have hL1 : ((L.take k).flatMap P32.line).length ≤ 100000 := by
        have q := flat_len (L.take k) (fun d hd => HOK.out d (List.mem_of_mem_take hd))
        have := List.length_take_le k L
        omega
      obtain ⟨hp, hi, he, hx⟩ := HOK.out cv (List.mem_of_getElem? hcv)
      have HT2 := Lib.hid (fun hr => HT.out.succ hcv hr)
      have HLW := Lib.hid (line_words cv)
      clear hat hcv HC
      obtain ⟨p, i, e, x⟩ := cv
      simp only at hp hi he hx
      have a0 : wr.cell? ⟨g, o + k * 4, none⟩ = some (.int .i64 p) := HAT.out 0 _ rfl
      have a1 : wr.cell? ⟨g, o + k * 4 + 1, none⟩ = some (.int .i64 i) := HAT.out 1 _ rfl
      have a2 : wr.cell? ⟨g, o + k * 4 + 2, none⟩ = some (.int .i64 e) := HAT.out 2 _ rfl
      have a3 : wr.cell? ⟨g, o + k * 4 + 3, none⟩ = some (.int .i64 x) := HAT.out 3 _ rfl
      have hki : (k : Int) < (L.length : Int) := by omega
      generalize hS : (L.take k).flatMap P32.line = S at *
      clear hS
      have HM0 : Hid (Mid w wr #[.int .i64 p, .int .i64 i, .int .i64 e, .int .i64 x] S (wr.alloc (.cells #[.int .i64 p, .int .i64 i, .int .i64 e, .int .i64 x] 87))) := Lib.hid ⟨bld_alloc hB _, Blk.new wr _ _, (HV.out.below hb).below ((Below.refl _ _).alloc (Nat.le_refl _) _), hb.alloc hb.size _⟩
      obtain ⟨RR, hRR⟩ : ∃ RR, RR = decide (P32.right ⟨p, i, e, x⟩) := ⟨_, rfl⟩
      have HRR := Lib.hid hRR
      have cR := Lib.hid (fun W => right_any p i e x RR HRR.out W hx)
      clear hRR hB hb HAT HOK
      go_wp2_with fail
      refine (cR.out _).mono ?_
      rintro en w1 ⟨rfl, hc1⟩
      have HM1 := Lib.hid (HM0.out.below hc1)
      clear hc1 HM0 cR a0 a1 a2 a3
      cases RR with
      | false =>
        have hn : ¬ P32.right ⟨p, i, e, x⟩ := of_decide_eq_false HRR.out.symm
        obtain rfl : R = ([], 2) := (HN.out hn).symm
        have hbf := HM1.out.2.2.2
        clear HN HF HT2 HR HT HLW hn HM1 HRR
        go_wp2_with fail
        go_ret2
        exact ⟨rfl, hbf⟩
      | true =>
        have hr : P32.right ⟨p, i, e, x⟩ := of_decide_eq_true HRR.out.symm
        have HT3 := HT2.out hr
        have hl2 := HLW.out hr
        have hx2 : 0 ≤ x ∧ x ≤ 31 := by rcases hr with h | h <;> (simp only [P32.rightR, P32.rightE] at h; omega)
        clear HN HT2 HT HLW HRR HR
        obtain ⟨k0, k1, k2, k3⟩ := mid_cells HM1.out
        obtain ⟨HD, hHD⟩ : ∃ HD : List UInt8, HD = (if p = 1 then [114, 117, 108, 101, 32] ++ Lib.decDigits i.toNat else [101, 114, 97, 32] ++ Lib.decDigits i.toNat ++ [32] ++ Lib.decDigits e.toNat) := ⟨_, rfl⟩
        have HHD := Lib.hid hHD
        have HF2 : Hid ((L.take (k + 1)).flatMap P32.line = S ++ (HD ++ (wordsL x 5 ++ [10]))) := Lib.hid (by rw [HF.out, hl2, hHD])
        have hHl : HD.length ≤ 100 := by
          have d1 := dec_le i.toNat (by omega)
          have d2 := dec_le e.toNat (by omega)
          rw [hHD]; split <;> simp <;> omega
        clear hHD HF hl2
        go_upto_if 21 with (fail)
        go_cut [] (fun wx => Mid w wr #[.int .i64 p, .int .i64 i, .int .i64 e, .int .i64 x] (S ++ HD) wx)
        case first =>
          rcases hr with hr | hr
          · obtain ⟨rfl, h1, h2, h3, h4⟩ := hr
            simp only at h1 h2 h3 h4
            obtain rfl : HD = [114, 117, 108, 101, 32] ++ Lib.decDigits i.toNat := HHD.out.trans (if_pos rfl)
            have l1 : (str (Lib.decDigits i.toNat)).size ≤ 19 := dec_le _ (by omega)
            have l2 : (Lib.decDigits i.toNat).length ≤ 19 := dec_le _ (by omega)
            have cI := Lib.hid (mid_itoa HM1.out i h1 hi.2)
            have cW : Hid (∀ W, Mid w wr #[.int .i64 1, .int .i64 i, .int .i64 e, .int .i64 x] S W → Calls Tryd.prog 100 #[.pointer (some ⟨w.heap.size, 0, none⟩), .string (⟨#[114, 117, 108, 101, 32]⟩ ++ str (Lib.decDigits i.toNat))] W fun en W' => en = .returned (.tuple #[.int .i64 ([114, 117, 108, 101, 32] ++ Lib.decDigits i.toNat).length, .nilIface]) ∧ Mid w wr #[.int .i64 1, .int .i64 i, .int .i64 e, .int .i64 x] (S ++ ([114, 117, 108, 101, 32] ++ Lib.decDigits i.toNat)) W') := Lib.hid (fun W h => mid_str h hlt0 HG.out ([114, 117, 108, 101, 32] ++ Lib.decDigits i.toNat) _ (lit_app _ _ _ rfl) (by omega) (by simp; omega))
            clear h2 h3 h4 HHD HF2
            go_wp2_with fail
            refine cI.out.mono ?_
            rintro en w2 ⟨rfl, hM2⟩
            have HM2 := Lib.hid hM2
            clear hM2 cI
            go_wp2_with fail
            refine (cW.out _ HM2.out).mono ?_
            rintro en w3 ⟨rfl, hM3⟩
            have HM3 := Lib.hid hM3
            clear hM3 cW
            go_wp2_with fail
            go_meet
            exact HM3.out
          · obtain ⟨h0, h1, h2, h3, h4, h5⟩ := hr
            simp only at h0 h1 h2 h3 h4 h5
            obtain rfl : HD = [101, 114, 97, 32] ++ Lib.decDigits i.toNat ++ [32] ++ Lib.decDigits e.toNat := HHD.out.trans (if_neg (by omega))
            have l1 : (str (Lib.decDigits i.toNat)).size ≤ 19 := dec_le _ (by omega)
            have l2 : (str (Lib.decDigits e.toNat)).size ≤ 19 := dec_le _ (by omega)
            have l3 : (Lib.decDigits i.toNat).length ≤ 19 := dec_le _ (by omega)
            have l4 : (Lib.decDigits e.toNat).length ≤ 19 := dec_le _ (by omega)
            have bp : (p == 1) = false := by simp; omega
            have cW : Hid (∀ W, Mid w wr #[.int .i64 p, .int .i64 i, .int .i64 e, .int .i64 x] S W → Calls Tryd.prog 100 #[.pointer (some ⟨w.heap.size, 0, none⟩), .string (((⟨#[101, 114, 97, 32]⟩ ++ str (Lib.decDigits i.toNat)) ++ ⟨#[32]⟩) ++ str (Lib.decDigits e.toNat))] W fun en W' => en = .returned (.tuple #[.int .i64 ([101, 114, 97, 32] ++ Lib.decDigits i.toNat ++ [32] ++ Lib.decDigits e.toNat).length, .nilIface]) ∧ Mid w wr #[.int .i64 p, .int .i64 i, .int .i64 e, .int .i64 x] (S ++ ([101, 114, 97, 32] ++ Lib.decDigits i.toNat ++ [32] ++ Lib.decDigits e.toNat)) W') := Lib.hid (fun W h => mid_str h hlt0 HG.out _ _ (by rw [show (⟨#[101, 114, 97, 32]⟩ : ByteArray) = str [101, 114, 97, 32] from rfl, show (⟨#[32]⟩ : ByteArray) = str [32] from rfl, str_append, str_append, str_append]) (by omega) (by simp; omega))
            have hM1 := HM1.out
            have HS := Lib.hid (midx HM1.out)
            clear h0 h3 h4 h5 HHD HF2
            go_wp2_with fail
            have z0 : (⟨#[101, 114, 97, 32]⟩ : ByteArray).size = 4 := rfl
            have z1 : (⟨#[32]⟩ : ByteArray).size = 1 := rfl
            have z2 : (⟨#[101, 114, 97, 32]⟩ ++ str (Lib.decDigits i.toNat)).size ≤ 30 := by rw [ByteArray.size_append]; omega
            have z3 : (⟨#[101, 114, 97, 32]⟩ ++ str (Lib.decDigits i.toNat) ++ ⟨#[32]⟩).size ≤ 31 := by rw [ByteArray.size_append]; omega
            have q1 : ∀ W, (Op.stringOp .add ⟨#[101, 114, 97, 32]⟩ (str (Lib.decDigits i.toNat))).run Tryd.prog W = .ok (.string (⟨#[101, 114, 97, 32]⟩ ++ str (Lib.decDigits i.toNat))) W := fun W => run_string_add_sum (w := W) _ _ (by omega)
            have q2 : ∀ W, (Op.stringOp .add (⟨#[101, 114, 97, 32]⟩ ++ str (Lib.decDigits i.toNat)) ⟨#[32]⟩).run Tryd.prog W = .ok (.string (⟨#[101, 114, 97, 32]⟩ ++ str (Lib.decDigits i.toNat) ++ ⟨#[32]⟩)) W := fun W => run_string_add_sum (w := W) _ _ (by omega)
            have q3 : ∀ W, (Op.stringOp .add (⟨#[101, 114, 97, 32]⟩ ++ str (Lib.decDigits i.toNat) ++ ⟨#[32]⟩) (str (Lib.decDigits e.toNat))).run Tryd.prog W = .ok (.string (⟨#[101, 114, 97, 32]⟩ ++ str (Lib.decDigits i.toNat) ++ ⟨#[32]⟩ ++ str (Lib.decDigits e.toNat))) W := fun W => run_string_add_sum (w := W) _ _ (by omega)
            clear z0 z1 z2 z3
            go_region_held3 (fun W => W.cell? ⟨wr.heap.size, 0, none⟩ = some (.int .i64 p) ∧ W.cell? ⟨wr.heap.size, 1, none⟩ = some (.int .i64 i) ∧ W.cell? ⟨wr.heap.size, 2, none⟩ = some (.int .i64 e) ∧ W.cell? ⟨wr.heap.size, 3, none⟩ = some (.int .i64 x) ∧ MidX w wr #[.int .i64 p, .int .i64 i, .int .i64 e, .int .i64 x] W) (first | exact midx (by assumption) | exact midx (mid_drew (by assumption)) | exact HS.out)
              (first | (go_at_call 45; with_reducible refine (mid_itoa (by first | assumption | exact mid_drew (by assumption)) i h1 hi.2).mono ?_; rintro en w' ⟨rfl, hMq⟩; clear hM1) | (go_at_call 45; with_reducible refine (mid_itoa (by first | assumption | exact mid_drew (by assumption)) e h2 he.2).mono ?_; rintro en w' ⟨rfl, hMr⟩; clear hMq) | (go_at_call 100; refine (cW.out _ (by first | assumption | exact mid_drew (by assumption))).mono ?_; rintro en w' ⟨rfl, hMz⟩; clear hMr))
            all_goals
              go_wp2_with fail
              go_meet
              assumption
        case rest =>
          clear k0 k1 k2 k3 HM1
          have HM2 := Lib.hid hcut
          have HMW := Lib.hid hcut.2.2.1.words
          clear hcut
          have g0 : wc.cell? ⟨0, 0, none⟩ = some (.int .i64 1) := HMW.out 0 _ rfl
          have g1 : wc.cell? ⟨0, 1, none⟩ = some (.string ⟨#[115, 97, 118, 101]⟩) := HMW.out 1 _ rfl
          have g2 : wc.cell? ⟨0, 2, none⟩ = some (.int .i64 2) := HMW.out 2 _ rfl
          have g3 : wc.cell? ⟨0, 3, none⟩ = some (.string ⟨#[97, 116]⟩) := HMW.out 3 _ rfl
          have g4 : wc.cell? ⟨0, 4, none⟩ = some (.int .i64 4) := HMW.out 4 _ rfl
          have g5 : wc.cell? ⟨0, 5, none⟩ = some (.string ⟨#[111, 102, 102]⟩) := HMW.out 5 _ rfl
          have g6 : wc.cell? ⟨0, 6, none⟩ = some (.int .i64 8) := HMW.out 6 _ rfl
          have g7 : wc.cell? ⟨0, 7, none⟩ = some (.string ⟨#[102, 111, 114, 109, 97, 116]⟩) := HMW.out 7 _ rfl
          have g8 : wc.cell? ⟨0, 8, none⟩ = some (.int .i64 16) := HMW.out 8 _ rfl
          have g9 : wc.cell? ⟨0, 9, none⟩ = some (.string ⟨#[117, 110, 116, 105, 108]⟩) := HMW.out 9 _ rfl
          clear HMW
          go_wp2_with fail
          clear g0 g1 g2 g3 g4 g5 g6 g7 g8 g9
          obtain ⟨v, hvv⟩ : ∃ v : World, v = wr := ⟨_, rfl⟩
          subst hvv
          go_loopw [41] (fun j wq => ∃ m : Nat, m ≤ 5 ∧ j = .int .i64 m ∧ Mid w v #[.int .i64 p, .int .i64 i, .int .i64 e, .int .i64 x] (S ++ HD ++ wordsL x m) wq) (fun j _ => 5 - (intOf j).toNat)
          case atStart => exact ⟨0, by omega, rfl, by rw [show wordsL x 0 = [] from rfl, List.append_nil]; exact HM2.out⟩
          case round =>
            clear HM2
            obtain ⟨m, hm, rfl, hM⟩ := hrel
            have HM := Lib.hid hM
            obtain ⟨k0, k1, k2, k3⟩ := mid_cells hM
            have hlv := hM.2.1.lt
            clear hM
            rcases (by omega : m = 0 ∨ m = 1 ∨ m = 2 ∨ m = 3 ∨ m = 4 ∨ m = 5) with rfl | rfl | rfl | rfl | rfl | rfl
            · have hbt := bits_bit x hx2.1 hx2.2 1 (by decide)
              have HW : Hid (wordsL x 1 = wordsL x 0 ++ P32.wordL (P32.bit x 1) [115, 97, 118, 101]) := Lib.hid (wordsL_succ x 0 (1, [115, 97, 118, 101]) rfl)
              have hwl := wordsL_len x 0
              have hix := idx5_0
              generalize P32.bit x 1 = bb at hbt HW
              cases bb with
              | false =>
                go_wp2_with fail
                go_roundw
                case rel => exact ⟨1, by omega, by go_num, by rw [HW.out, show P32.wordL false [115, 97, 118, 101] = [] from rfl, List.append_nil]; exact HM.out.alloc _⟩
                case measure => simp [intOf]
              | true =>
                have cW : Hid (∀ W, Mid w v #[.int .i64 p, .int .i64 i, .int .i64 e, .int .i64 x] (S ++ HD ++ wordsL x 0) W → Calls Tryd.prog 100 #[.pointer (some ⟨w.heap.size, 0, none⟩), .string (⟨#[32]⟩ ++ ⟨#[115, 97, 118, 101]⟩)] W fun en W' => en = .returned (.tuple #[.int .i64 (32 :: [115, 97, 118, 101] : List UInt8).length, .nilIface]) ∧ Mid w v #[.int .i64 p, .int .i64 i, .int .i64 e, .int .i64 x] (S ++ HD ++ wordsL x 0 ++ 32 :: [115, 97, 118, 101]) W') := Lib.hid (fun W h => mid_str h hlt0 HG.out (32 :: [115, 97, 118, 101]) _ (by rfl) (by simp only [List.length_append]; omega) (by simp))
                have HMa := Lib.hid (HM.out.alloc (.cells #[.int .i64 1, .string ⟨#[115, 97, 118, 101]⟩] 164))
                go_wp2_with fail
                refine (cW.out _ HMa.out).mono ?_
                rintro en w4 ⟨rfl, hM4⟩
                have HM4 := Lib.hid hM4
                clear hM4 cW HMa HM k0 k1 k2 k3
                go_wp2_with fail
                go_roundw
                case rel => exact ⟨1, by omega, by go_num, by rw [HW.out, show P32.wordL true [115, 97, 118, 101] = 32 :: [115, 97, 118, 101] from rfl, ← List.append_assoc]; exact HM4.out⟩
                case measure => simp [intOf]
            · have hbt := bits_bit x hx2.1 hx2.2 2 (by decide)
              have HW : Hid (wordsL x 2 = wordsL x 1 ++ P32.wordL (P32.bit x 2) [97, 116]) := Lib.hid (wordsL_succ x 1 (2, [97, 116]) rfl)
              have hwl := wordsL_len x 1
              have hix := idx5_1
              generalize P32.bit x 2 = bb at hbt HW
              cases bb with
              | false =>
                go_wp2_with fail
                go_roundw
                case rel => exact ⟨2, by omega, by go_num, by rw [HW.out, show P32.wordL false [97, 116] = [] from rfl, List.append_nil]; exact HM.out.alloc _⟩
                case measure => simp [intOf]
              | true =>
                have cW : Hid (∀ W, Mid w v #[.int .i64 p, .int .i64 i, .int .i64 e, .int .i64 x] (S ++ HD ++ wordsL x 1) W → Calls Tryd.prog 100 #[.pointer (some ⟨w.heap.size, 0, none⟩), .string (⟨#[32]⟩ ++ ⟨#[97, 116]⟩)] W fun en W' => en = .returned (.tuple #[.int .i64 (32 :: [97, 116] : List UInt8).length, .nilIface]) ∧ Mid w v #[.int .i64 p, .int .i64 i, .int .i64 e, .int .i64 x] (S ++ HD ++ wordsL x 1 ++ 32 :: [97, 116]) W') := Lib.hid (fun W h => mid_str h hlt0 HG.out (32 :: [97, 116]) _ (by rfl) (by simp only [List.length_append]; omega) (by simp))
                have HMa := Lib.hid (HM.out.alloc (.cells #[.int .i64 2, .string ⟨#[97, 116]⟩] 164))
                go_wp2_with fail
                refine (cW.out _ HMa.out).mono ?_
                rintro en w4 ⟨rfl, hM4⟩
                have HM4 := Lib.hid hM4
                clear hM4 cW HMa HM k0 k1 k2 k3
                go_wp2_with fail
                go_roundw
                case rel => exact ⟨2, by omega, by go_num, by rw [HW.out, show P32.wordL true [97, 116] = 32 :: [97, 116] from rfl, ← List.append_assoc]; exact HM4.out⟩
                case measure => simp [intOf]
            · have hbt := bits_bit x hx2.1 hx2.2 4 (by decide)
              have HW : Hid (wordsL x 3 = wordsL x 2 ++ P32.wordL (P32.bit x 4) [111, 102, 102]) := Lib.hid (wordsL_succ x 2 (4, [111, 102, 102]) rfl)
              have hwl := wordsL_len x 2
              have hix := idx5_2
              generalize P32.bit x 4 = bb at hbt HW
              cases bb with
              | false =>
                go_wp2_with fail
                go_roundw
                case rel => exact ⟨3, by omega, by go_num, by rw [HW.out, show P32.wordL false [111, 102, 102] = [] from rfl, List.append_nil]; exact HM.out.alloc _⟩
                case measure => simp [intOf]
              | true =>
                have cW : Hid (∀ W, Mid w v #[.int .i64 p, .int .i64 i, .int .i64 e, .int .i64 x] (S ++ HD ++ wordsL x 2) W → Calls Tryd.prog 100 #[.pointer (some ⟨w.heap.size, 0, none⟩), .string (⟨#[32]⟩ ++ ⟨#[111, 102, 102]⟩)] W fun en W' => en = .returned (.tuple #[.int .i64 (32 :: [111, 102, 102] : List UInt8).length, .nilIface]) ∧ Mid w v #[.int .i64 p, .int .i64 i, .int .i64 e, .int .i64 x] (S ++ HD ++ wordsL x 2 ++ 32 :: [111, 102, 102]) W') := Lib.hid (fun W h => mid_str h hlt0 HG.out (32 :: [111, 102, 102]) _ (by rfl) (by simp only [List.length_append]; omega) (by simp))
                have HMa := Lib.hid (HM.out.alloc (.cells #[.int .i64 4, .string ⟨#[111, 102, 102]⟩] 164))
                go_wp2_with fail
                refine (cW.out _ HMa.out).mono ?_
                rintro en w4 ⟨rfl, hM4⟩
                have HM4 := Lib.hid hM4
                clear hM4 cW HMa HM k0 k1 k2 k3
                go_wp2_with fail
                go_roundw
                case rel => exact ⟨3, by omega, by go_num, by rw [HW.out, show P32.wordL true [111, 102, 102] = 32 :: [111, 102, 102] from rfl, ← List.append_assoc]; exact HM4.out⟩
                case measure => simp [intOf]
            · have hbt := bits_bit x hx2.1 hx2.2 8 (by decide)
              have HW : Hid (wordsL x 4 = wordsL x 3 ++ P32.wordL (P32.bit x 8) [102, 111, 114, 109, 97, 116]) := Lib.hid (wordsL_succ x 3 (8, [102, 111, 114, 109, 97, 116]) rfl)
              have hwl := wordsL_len x 3
              have hix := idx5_3
              generalize P32.bit x 8 = bb at hbt HW
              cases bb with
              | false =>
                go_wp2_with fail
                go_roundw
                case rel => exact ⟨4, by omega, by go_num, by rw [HW.out, show P32.wordL false [102, 111, 114, 109, 97, 116] = [] from rfl, List.append_nil]; exact HM.out.alloc _⟩
                case measure => simp [intOf]
              | true =>
                have cW : Hid (∀ W, Mid w v #[.int .i64 p, .int .i64 i, .int .i64 e, .int .i64 x] (S ++ HD ++ wordsL x 3) W → Calls Tryd.prog 100 #[.pointer (some ⟨w.heap.size, 0, none⟩), .string (⟨#[32]⟩ ++ ⟨#[102, 111, 114, 109, 97, 116]⟩)] W fun en W' => en = .returned (.tuple #[.int .i64 (32 :: [102, 111, 114, 109, 97, 116] : List UInt8).length, .nilIface]) ∧ Mid w v #[.int .i64 p, .int .i64 i, .int .i64 e, .int .i64 x] (S ++ HD ++ wordsL x 3 ++ 32 :: [102, 111, 114, 109, 97, 116]) W') := Lib.hid (fun W h => mid_str h hlt0 HG.out (32 :: [102, 111, 114, 109, 97, 116]) _ (by rfl) (by simp only [List.length_append]; omega) (by simp))
                have HMa := Lib.hid (HM.out.alloc (.cells #[.int .i64 8, .string ⟨#[102, 111, 114, 109, 97, 116]⟩] 164))
                go_wp2_with fail
                refine (cW.out _ HMa.out).mono ?_
                rintro en w4 ⟨rfl, hM4⟩
                have HM4 := Lib.hid hM4
                clear hM4 cW HMa HM k0 k1 k2 k3
                go_wp2_with fail
                go_roundw
                case rel => exact ⟨4, by omega, by go_num, by rw [HW.out, show P32.wordL true [102, 111, 114, 109, 97, 116] = 32 :: [102, 111, 114, 109, 97, 116] from rfl, ← List.append_assoc]; exact HM4.out⟩
                case measure => simp [intOf]
            · have hbt := bits_bit x hx2.1 hx2.2 16 (by decide)
              have HW : Hid (wordsL x 5 = wordsL x 4 ++ P32.wordL (P32.bit x 16) [117, 110, 116, 105, 108]) := Lib.hid (wordsL_succ x 4 (16, [117, 110, 116, 105, 108]) rfl)
              have hwl := wordsL_len x 4
              have hix := idx5_4
              generalize P32.bit x 16 = bb at hbt HW
              cases bb with
              | false =>
                go_wp2_with fail
                go_roundw
                case rel => exact ⟨5, by omega, by go_num, by rw [HW.out, show P32.wordL false [117, 110, 116, 105, 108] = [] from rfl, List.append_nil]; exact HM.out.alloc _⟩
                case measure => simp [intOf]
              | true =>
                have cW : Hid (∀ W, Mid w v #[.int .i64 p, .int .i64 i, .int .i64 e, .int .i64 x] (S ++ HD ++ wordsL x 4) W → Calls Tryd.prog 100 #[.pointer (some ⟨w.heap.size, 0, none⟩), .string (⟨#[32]⟩ ++ ⟨#[117, 110, 116, 105, 108]⟩)] W fun en W' => en = .returned (.tuple #[.int .i64 (32 :: [117, 110, 116, 105, 108] : List UInt8).length, .nilIface]) ∧ Mid w v #[.int .i64 p, .int .i64 i, .int .i64 e, .int .i64 x] (S ++ HD ++ wordsL x 4 ++ 32 :: [117, 110, 116, 105, 108]) W') := Lib.hid (fun W h => mid_str h hlt0 HG.out (32 :: [117, 110, 116, 105, 108]) _ (by rfl) (by simp only [List.length_append]; omega) (by simp))
                have HMa := Lib.hid (HM.out.alloc (.cells #[.int .i64 16, .string ⟨#[117, 110, 116, 105, 108]⟩] 164))
                go_wp2_with fail
                refine (cW.out _ HMa.out).mono ?_
                rintro en w4 ⟨rfl, hM4⟩
                have HM4 := Lib.hid hM4
                clear hM4 cW HMa HM k0 k1 k2 k3
                go_wp2_with fail
                go_roundw
                case rel => exact ⟨5, by omega, by go_num, by rw [HW.out, show P32.wordL true [117, 110, 116, 105, 108] = 32 :: [117, 110, 116, 105, 108] from rfl, ← List.append_assoc]; exact HM4.out⟩
                case measure => simp [intOf]
            · have hwl := wordsL_len x 5
              have cB := Lib.hid (mid_byte HM.out hlt0 HG.out (by simp only [List.length_append]; omega))
              clear k0 k1 k2 k3
              go_wp2_with fail
              refine cB.out.mono ?_
              rintro en w5 ⟨rfl, hM5⟩
              have HM5 : Hid (Mid w v #[.int .i64 p, .int .i64 i, .int .i64 e, .int .i64 x] ((L.take (k + 1)).flatMap P32.line) w5) := Lib.hid (by rw [HF2.out, ← List.append_assoc, ← List.append_assoc]; exact hM5)
              clear hM5 cB HM
              go_wp2_with fail
              go_roundw
              case rel => exact ⟨k + 1, by omega, by go_num, HM5.out.1, Lib.hid HT3, HM5.out.2.2.2⟩
              case measure => simp [intOf]; omega
    · obtain rfl : k = L.length := by omega
      have hki : ¬ (L.length : Int) < (L.length : Int) := by omega
      obtain rfl : R = (L.flatMap P32.line, 0) := HR.out.symm.trans (text_ok (all_upto HT.out))
      rw [List.take_length] at hB
      have cS := Lib.hid (Tryd.Builder_String_any_k w.heap.size w.heap.size (L.flatMap P32.line) wr hB hb.size)
      clear hB
      go_wp2_with fail
      refine cS.out.mono ?_
      rintro en w2 ⟨rfl, _, hc2, _⟩
      go_wp2_with fail
      go_ret2
      exact ⟨rfl, hb.trans hc2⟩
end Go.Proofs.YtlideagcmhlkeaaDoor

/- The examples of chapter 32. -/
namespace Go.Proofs.YtlideagcmhlkeaaDoor
open Go.RowKit
set_option linter.unusedVariables false

theorem flat_get {α : Type} {f : α → List Value} {m : Nat} (hf : ∀ a, (f a).length = m) : ∀ (l : List α) (k j : Nat) (x : α), j < m → l[k]? = some x → (l.flatMap f)[k * m + j]? = (f x)[j]?
  | [], k, j, x, _, h => by simp at h
  | a :: l, 0, j, x, hj, h => by
    simp only [List.getElem?_cons_zero, Option.some.injEq] at h
    subst h
    rw [List.flatMap_cons, Nat.zero_mul, Nat.zero_add, List.getElem?_append_left (by rw [hf]; exact hj)]
  | a :: l, k + 1, j, x, hj, h => by
    simp only [List.getElem?_cons_succ] at h
    rw [List.flatMap_cons, List.getElem?_append_right (by rw [hf, Nat.succ_mul]; omega), hf, show (k + 1) * m + j - m = k * m + j by rw [Nat.succ_mul]; omega]
    exact flat_get hf l k j x hj h
/-- a block that holds these elements one by one -/
theorem cells_of {α : Type} {f : α → List Value} {m : Nat} (hf : ∀ a, (f a).length = m) {w : World} {g : Nat} {t : TypeId} {L : List α} (h : Blk w g t (L.flatMap f).toArray) : CellsIn m f w (some ⟨g, 0, none⟩) L := by
  intro k r hr
  refine ⟨g, 0, rfl, h.lt, fun j u hu => ?_⟩
  rw [h.cell, List.getElem?_toArray, Nat.zero_add, flat_get hf L k j r (by have := (List.getElem?_eq_some_iff.mp hu).1; rwa [hf] at this) hr]
  exact hu
theorem cmp_ok {a b : SV} {w : World} (l : List P32.CV) (hA : SrcIn w a) (hB : SrcIn w b) (hfa : few a) (hzb : SrcSz b) (hok : P32.okS a b) (hl : P32.chS a b = l) :
    Calls Tryd.prog 42 #[.agg #[.slice a.rA a.rules.length a.rc, .slice a.zA a.zones.length a.zc, .slice a.kA a.links.length a.kc, .slice a.hA a.shifts.length a.hc], .agg #[.slice b.rA b.rules.length b.rc, .slice b.zA b.zones.length b.zc, .slice b.kA b.links.length b.kc, .slice b.hA b.shifts.length b.hc]] w fun e w' => ∃ A c, e = .returned (.tuple #[.slice A l.length c, .int .i64 0]) ∧ ChIn w' A l ∧ Below w.heap.size w w' := by
  subst hl
  refine (compare_any a b w hA hB hfa hzb).mono ?_
  rintro e w' (⟨_, ⟨A, c, h1, h2⟩, h3⟩ | ⟨h1, _⟩)
  · exact ⟨A, c, h1, h2, h3⟩
  · exact absurd hok h1
theorem cmp_no {a b : SV} {w : World} (hA : SrcIn w a) (hB : SrcIn w b) (hfa : few a) (hzb : SrcSz b) (hno : ¬ P32.okS a b) :
    Calls Tryd.prog 42 #[.agg #[.slice a.rA a.rules.length a.rc, .slice a.zA a.zones.length a.zc, .slice a.kA a.links.length a.kc, .slice a.hA a.shifts.length a.hc], .agg #[.slice b.rA b.rules.length b.rc, .slice b.zA b.zones.length b.zc, .slice b.kA b.links.length b.kc, .slice b.hA b.shifts.length b.hc]] w fun e w' => e = .returned (.tuple #[.slice none 0 0, .int .i64 2]) ∧ Below w.heap.size w w' := by
  refine (compare_any a b w hA hB hfa hzb).mono ?_
  rintro e w' (⟨h1, _⟩ | ⟨_, h2, h3⟩)
  · exact absurd h1 hno
  · exact ⟨h2, h3⟩
/-- the sources of the examples; where their parts lie is open -/
def ra1 : RV := ⟨⟨#[82]⟩, 0, 0, 0, 0, 0, 0, 3600, 1, (-3600), ⟨#[]⟩⟩
def rb1 : RV := ⟨⟨#[82]⟩, 0, 0, 0, 0, 0, 0, 0, 1, 0, ⟨#[]⟩⟩
def rs : RV := ⟨⟨#[82]⟩, 0, 0, 0, 0, 0, 0, 0, 0, 0, ⟨#[83]⟩⟩
def rn : RV := ⟨⟨#[82]⟩, 0, 0, 0, 0, 0, 0, 0, 0, 0, ⟨#[]⟩⟩
def ea : List EV := [⟨3600, 2, 0, ⟨#[82]⟩, ⟨#[73, 83, 84, 47, 71, 77, 84]⟩, false, 0, 0, 0, 0, 0, 0, 0⟩, ⟨0, 0, 0, ⟨#[]⟩, ⟨#[]⟩, true, 1950, 1, 1, 0, 1, 3600, 1⟩]
def eb : List EV := [⟨0, 2, 0, ⟨#[82]⟩, ⟨#[71, 77, 84, 47, 73, 83, 84]⟩, false, 0, 0, 0, 0, 0, 0, 0⟩, ⟨0, 0, 0, ⟨#[]⟩, ⟨#[]⟩, true, 1950, 1, 1, 0, 1, 0, 1⟩]
def exS (r z k : Nat) (ru : RV) (es : List EV) : SV := ⟨some ⟨r, 0, none⟩, 1, [ru], some ⟨z, 0, none⟩, 1, [⟨(⟨#[90]⟩ : ByteArray), some ⟨k, 0, none⟩, 2, es⟩], none, 0, [], none, 0, []⟩
def exR (r : Nat) (ru : RV) : SV := ⟨some ⟨r, 0, none⟩, 1, [ru], none, 0, [], none, 0, [], none, 0, []⟩
def exZ (z : Nat) (nm : ByteArray) : SV := ⟨none, 0, [], some ⟨z, 0, none⟩, 1, [⟨nm, none, 0, []⟩], none, 0, [], none, 0, []⟩
theorem rv_len (r : RV) : r.cells.length = 11 := rfl
theorem ev_len (r : EV) : r.cells.length = 13 := rfl
theorem zv_len (r : ZV) : r.cells.length = 2 := rfl
theorem cv_len (r : P32.CV) : r.cells.length = 4 := rfl
theorem exS_in {w : World} {r z k : Nat} {ru : RV} {es : List EV} {t1 t2 t3 : TypeId} (he : es.length = 2) (h1 : Blk w r t1 ([ru].flatMap RV.cells).toArray) (h2 : Blk w z t2 #[.string (⟨#[90]⟩ : ByteArray), .slice (some ⟨k, 0, none⟩) 2 2]) (h3 : Blk w k t3 (es.flatMap EV.cells).toArray) : SrcIn w (exS r z k ru es) := by
  refine ⟨cells_of rv_len h1, ?_, CellsIn.nil _ _, CellsIn.nil _ _, ?_⟩
  · refine cells_of (L := [(⟨(⟨#[90]⟩ : ByteArray), some ⟨k, 0, none⟩, 2, es⟩ : ZV)]) (t := t2) zv_len ?_
    show Blk w z t2 #[.string (⟨#[90]⟩ : ByteArray), .slice (some ⟨k, 0, none⟩) es.length 2]
    rw [he]; exact h2
  · intro y hy
    rw [exS, List.mem_singleton] at hy
    subst hy
    exact cells_of ev_len h3
theorem exR_in {w : World} {r : Nat} {ru : RV} {t1 : TypeId} (h1 : Blk w r t1 ([ru].flatMap RV.cells).toArray) : SrcIn w (exR r ru) :=
  ⟨cells_of rv_len h1, CellsIn.nil _ _, CellsIn.nil _ _, CellsIn.nil _ _, fun z hz => by simp [exR] at hz⟩
theorem exZ_in {w : World} {z : Nat} {nm : ByteArray} {t : TypeId} (h : Blk w z t #[.string nm, .slice none 0 0]) : SrcIn w (exZ z nm) := by
  refine ⟨CellsIn.nil _ _, cells_of (L := [(⟨nm, none, 0, []⟩ : ZV)]) (t := t) zv_len h, CellsIn.nil _ _, CellsIn.nil _ _, ?_⟩
  intro y hy
  rw [exZ, List.mem_singleton] at hy
  subst hy
  exact CellsIn.nil _ _
theorem exS_few (r z k : Nat) (ru : RV) (es : List EV) (he : es.length = 2) : few (exS r z k ru es) ∧ SrcSz (exS r z k ru es) := by
  have hm : (2 : Nat) ≤ maxLen := by decide
  constructor
  · refine ⟨by simp [exS], by simp [exS], by simp [exS], by simp [exS], fun y hy => ?_⟩
    rw [exS, List.mem_singleton] at hy
    subst hy
    show es.length ≤ 20
    omega
  · refine ⟨by simp [exS]; omega, by simp [exS]; omega, by simp [exS], by simp [exS], fun y hy => ?_⟩
    rw [exS, List.mem_singleton] at hy
    subst hy
    show es.length ≤ maxLen
    omega
theorem exR_few (r : Nat) (ru : RV) : few (exR r ru) ∧ SrcSz (exR r ru) := by
  have hm : (2 : Nat) ≤ maxLen := by decide
  exact ⟨⟨by simp [exR], by simp [exR], by simp [exR], by simp [exR], fun y hy => by simp [exR] at hy⟩, ⟨by simp [exR]; omega, by simp [exR], by simp [exR], by simp [exR], fun y hy => by simp [exR] at hy⟩⟩
theorem exZ_few (z : Nat) (nm : ByteArray) : few (exZ z nm) ∧ SrcSz (exZ z nm) := by
  have hm : (2 : Nat) ≤ maxLen := by decide
  constructor
  · refine ⟨by simp [exZ], by simp [exZ], by simp [exZ], by simp [exZ], fun y hy => ?_⟩
    rw [exZ, List.mem_singleton] at hy
    subst hy
    simp
  · refine ⟨by simp [exZ], by simp [exZ]; omega, by simp [exZ], by simp [exZ], fun y hy => ?_⟩
    rw [exZ, List.mem_singleton] at hy
    subst hy
    simp
def exL : List P32.CV := [⟨1, 0, 0, 3⟩, ⟨2, 0, 0, 12⟩, ⟨2, 0, 1, 16⟩]
theorem one_at {α : Type} {x : α} {i : Nat} {a : α} (h : [x][i]? = some a) : i = 0 ∧ a = x := by
  match i, h with
  | 0, h => simp at h; exact ⟨rfl, h.symm⟩
theorem ex_ab (r z k r' z' k' : Nat) : P32.okS (exS r z k ra1 ea) (exS r' z' k' rb1 eb) ∧ P32.chS (exS r z k ra1 ea) (exS r' z' k' rb1 eb) = exL := by
  constructor
  · refine ⟨⟨rfl, fun i a b hi ha hb => ?_⟩, rfl, fun i x y hi hx hy => ?_, rfl⟩
    · obtain ⟨rfl, rfl⟩ := one_at ha
      obtain ⟨_, rfl⟩ := one_at hb
      decide +kernel
    · obtain ⟨rfl, rfl⟩ := one_at hx
      obtain ⟨_, rfl⟩ := one_at hy
      refine ⟨rfl, rfl, fun j p q hj hp hq => ?_⟩
      have key : ∀ j < 2, ∀ p ∈ ea[j]?, ∀ q ∈ eb[j]?, P32.sameE p q = true := by decide +kernel
      exact key j hj p hp q hq
  · show P32.ch P32.diffR P32.mkR [ra1] [rb1] 1 ++ ([] ++ P32.ch P32.diffE (P32.mkE 0) ea eb 2) = exL
    decide +kernel
theorem ex_aa (r z k r' z' k' : Nat) : P32.okS (exS r z k ra1 ea) (exS r' z' k' ra1 ea) ∧ P32.chS (exS r z k ra1 ea) (exS r' z' k' ra1 ea) = [] := by
  constructor
  · refine ⟨⟨rfl, fun i a b hi ha hb => ?_⟩, rfl, fun i x y hi hx hy => ?_, rfl⟩
    · obtain ⟨rfl, rfl⟩ := one_at ha
      obtain ⟨_, rfl⟩ := one_at hb
      decide +kernel
    · obtain ⟨rfl, rfl⟩ := one_at hx
      obtain ⟨_, rfl⟩ := one_at hy
      refine ⟨rfl, rfl, fun j p q hj hp hq => ?_⟩
      have key : ∀ j < 2, ∀ p ∈ ea[j]?, ∀ q ∈ ea[j]?, P32.sameE p q = true := by decide +kernel
      exact key j hj p hp q hq
  · show P32.ch P32.diffR P32.mkR [ra1] [ra1] 1 ++ ([] ++ P32.ch P32.diffE (P32.mkE 0) ea ea 2) = []
    decide +kernel
theorem ex_letters (r r' : Nat) : ¬ P32.okS (exR r rs) (exR r' rn) := fun q => by
  have := q.1.2 0 rs rn (show 0 < 1 by decide) rfl rfl
  revert this
  decide +kernel
theorem ex_zones (z z' : Nat) : ¬ P32.okS (exZ z ⟨#[65]⟩) (exZ z' ⟨#[66]⟩) := fun q => by
  have := (q.2.2.1 0 _ _ (show 0 < 1 by decide) rfl rfl).1
  revert this
  decide
theorem calls_gen {P : Program} {f : FuncId} {args : Array Value} {w : World} {post : Ending → World → Prop} (Φ : World → Prop) (h : Φ w) (k : ∀ W, Φ W → Calls P f args W post) : Calls P f args w post := k w h
theorem text_two : P32.text [⟨1, 0, 0, 3⟩, ⟨2, 0, 0, 12⟩] = ([114, 117, 108, 101, 32, 48, 32, 115, 97, 118, 101, 32, 97, 116, 10, 101, 114, 97, 32, 48, 32, 48, 32, 111, 102, 102, 32, 102, 111, 114, 109, 97, 116, 10], 0) := by
  rw [text_ok (by intro c hc; simp only [List.mem_cons, List.not_mem_nil, or_false] at hc; rcases hc with rfl | rfl <;> decide)]
  have d : Lib.decDigits 0 = [48] := by rw [Lib.decDigits, dif_pos (by decide)]; rfl
  simp only [List.flatMap_cons, List.flatMap_nil, P32.line, P32.lineR, P32.lineE, Int.toNat_zero, d]
  decide +kernel
theorem text_bad (x : Int) (h : ¬ P32.right ⟨1, 0, 0, x⟩) : P32.text [⟨1, 0, 0, x⟩] = ([], 2) := if_neg (fun q => h (q _ (List.mem_singleton.2 rfl)))
theorem CellsIn.take {α : Type} {m : Nat} {f : α → List Value} {w : World} {A : Option Addr} {L : List α} (h : CellsIn m f w A L) (n : Nat) : CellsIn m f w A (L.take n) := by
  intro k r hr
  refine h k r ?_
  rw [List.getElem?_take] at hr
  split at hr
  · exact hr
  · cases hr

set_option maxRecDepth 100000 in
set_option maxHeartbeats 16000000 in
theorem works32_any (w : World) (hv : Vars w) : Calls Tryd.prog 40 #[] w fun e w' => e = .returned (.bool true) ∧ Below w.heap.size w w' := by
  go_enter Tryd.func40, Tryd.ntmps40
  go_wp2_with fail
  refine calls_gen (fun W => Blk W (w.heap.size + 2) 83 ([ra1].flatMap RV.cells).toArray ∧ Blk W (w.heap.size + 3) 47 (ea.flatMap EV.cells).toArray ∧ Blk W (w.heap.size + 4) 39 #[.string ⟨#[90]⟩, .slice (some ⟨w.heap.size + 3, 0, none⟩) 2 2] ∧ Blk W (w.heap.size + 5) 32 #[.slice (some ⟨w.heap.size + 2, 0, none⟩) 1 1, .slice (some ⟨w.heap.size + 4, 0, none⟩) 1 1, .slice none 0 0, .slice none 0 0] ∧ Blk W (w.heap.size + 6) 83 ([rb1].flatMap RV.cells).toArray ∧ Blk W (w.heap.size + 7) 47 (eb.flatMap EV.cells).toArray ∧ Blk W (w.heap.size + 8) 39 #[.string ⟨#[90]⟩, .slice (some ⟨w.heap.size + 7, 0, none⟩) 2 2] ∧ Below w.heap.size w W) ?_ ?_
  · exact ⟨(((((((Blk.newAt _ (w.heap.size + 2) (by simp) _ _).alloc _).alloc _).alloc _).alloc _).alloc _).alloc _).alloc _, ((((((Blk.newAt _ (w.heap.size + 3) (by simp) _ _).alloc _).alloc _).alloc _).alloc _).alloc _).alloc _, (((((Blk.newAt _ (w.heap.size + 4) (by simp) _ _).alloc _).alloc _).alloc _).alloc _).alloc _, ((((Blk.newAt _ (w.heap.size + 5) (by simp) _ _).alloc _).alloc _).alloc _).alloc _, (((Blk.newAt _ (w.heap.size + 6) (by simp) _ _).alloc _).alloc _).alloc _, ((Blk.newAt _ (w.heap.size + 7) (by simp) _ _).alloc _).alloc _, (Blk.newAt _ (w.heap.size + 8) (by simp) _ _).alloc _, ((((((((((Below.refl w.heap.size w).alloc (Nat.le_refl _) _).alloc (by simp <;> omega) _).alloc (by simp <;> omega) _).alloc (by simp <;> omega) _).alloc (by simp <;> omega) _).alloc (by simp <;> omega) _).alloc (by simp <;> omega) _).alloc (by simp <;> omega) _).alloc (by simp <;> omega) _).alloc (by simp <;> omega) _⟩
  rintro W ⟨hb2, hb3, hb4, hb5, hb6, hb7, hb8, hb0⟩
  refine (cmp_ok exL (exS_in (r := w.heap.size + 2) (z := w.heap.size + 4) (k := w.heap.size + 3) (ru := ra1) (es := ea) rfl hb2 hb4 hb3) (exS_in (r := w.heap.size + 6) (z := w.heap.size + 8) (k := w.heap.size + 7) (ru := rb1) (es := eb) rfl hb6 hb8 hb7) (exS_few _ _ _ _ _ rfl).1 (exS_few _ _ _ _ _ rfl).2 (ex_ab _ _ _ _ _ _).1 (ex_ab _ _ _ _ _ _).2).mono ?_
  rintro e w1 ⟨A, c, rfl, hl, hc⟩
  have HB2 := Lib.hid (hb2.below hc hb2.lt)
  have HB3 := Lib.hid (hb3.below hc hb3.lt)
  have HB4 := Lib.hid (hb4.below hc hb4.lt)
  have HB5 := Lib.hid (hb5.below hc hb5.lt)
  have HW1 := Lib.hid (hb0.trans (hc.mono hb0.size))
  have HL := Lib.hid hl
  clear hl hc hb0 hb2 hb3 hb4 hb5 hb6 hb7 hb8
  go_wp2_with fail
  have HWN := Lib.hid (show CellsIn 4 P32.CV.cells (w1.alloc (.cells #[.int .i64 1, .int .i64 0, .int .i64 0, .int .i64 3, .int .i64 2, .int .i64 0, .int .i64 0, .int .i64 12, .int .i64 2, .int .i64 0, .int .i64 1, .int .i64 16] 87)) (some ⟨w1.heap.size, 0, none⟩) exL from cells_of (t := 87) cv_len (Blk.new w1 87 #[.int .i64 1, .int .i64 0, .int .i64 0, .int .i64 3, .int .i64 2, .int .i64 0, .int .i64 0, .int .i64 12, .int .i64 2, .int .i64 0, .int .i64 1, .int .i64 16]))
  have hb1 := HW1.out.alloc HW1.out.size (.cells #[.int .i64 1, .int .i64 0, .int .i64 0, .int .i64 3, .int .i64 2, .int .i64 0, .int .i64 0, .int .i64 12, .int .i64 2, .int .i64 0, .int .i64 1, .int .i64 16] 87)
  have cT : Hid (Calls Tryd.prog 71 #[.slice (some ⟨w1.heap.size, 0, none⟩) 2 3] (w1.alloc (.cells #[.int .i64 1, .int .i64 0, .int .i64 0, .int .i64 3, .int .i64 2, .int .i64 0, .int .i64 0, .int .i64 12, .int .i64 2, .int .i64 0, .int .i64 1, .int .i64 16] 87)) fun e w' => e = .returned (.tuple #[.string ⟨#[114, 117, 108, 101, 32, 48, 32, 115, 97, 118, 101, 32, 97, 116, 10, 101, 114, 97, 32, 48, 32, 48, 32, 111, 102, 102, 32, 102, 111, 114, 109, 97, 116, 10]⟩, .int .i64 0]) ∧ Below (w1.alloc (.cells #[.int .i64 1, .int .i64 0, .int .i64 0, .int .i64 3, .int .i64 2, .int .i64 0, .int .i64 0, .int .i64 12, .int .i64 2, .int .i64 0, .int .i64 1, .int .i64 16] 87)).heap.size (w1.alloc (.cells #[.int .i64 1, .int .i64 0, .int .i64 0, .int .i64 3, .int .i64 2, .int .i64 0, .int .i64 0, .int .i64 12, .int .i64 2, .int .i64 0, .int .i64 1, .int .i64 16] 87)) w') := Lib.hid (by
    have q := rep_text (some ⟨w1.heap.size, 0, none⟩) 3 [⟨1, 0, 0, 3⟩, ⟨2, 0, 0, 12⟩] _ (by decide) (HWN.out.take 2) (by intro c hc; simp only [List.mem_cons, List.not_mem_nil, or_false] at hc; rcases hc with rfl | rfl <;> decide) (hv.below hb1)
    rw [text_two] at q
    exact q)
  refine cT.out.mono ?_
  rintro e w2 ⟨rfl, hc⟩
  have hb2 := hb1.trans (hc.mono hb1.size)
  have hd : Below w1.heap.size w1 w2 := ((Below.refl w1.heap.size w1).alloc (Nat.le_refl _) (.cells #[.int .i64 1, .int .i64 0, .int .i64 0, .int .i64 3, .int .i64 2, .int .i64 0, .int .i64 0, .int .i64 12, .int .i64 2, .int .i64 0, .int .i64 1, .int .i64 16] 87)).trans (hc.mono (by simp))
  have hB2 := HB2.out.below hd HB2.out.lt
  have hB3 := HB3.out.below hd HB3.out.lt
  have hB4 := HB4.out.below hd HB4.out.lt
  have hB5 := HB5.out.below hd HB5.out.lt
  have hL := HL.out.below hd; have hWN := HWN.out.below hc
  clear hc hd hb1 HB2 HB3 HB4 HB5 HL HWN HW1 cT
  have HB2 := Lib.hid hB2; have HB3 := Lib.hid hB3; have HB4 := Lib.hid hB4; have HB5 := Lib.hid hB5; have HL := Lib.hid hL; have HWN := Lib.hid hWN; have HW := Lib.hid hb2
  clear hB2 hB3 hB4 hB5 hL hWN hb2
  have hb1 := HW.out.alloc HW.out.size (.cells #[.int .i64 1, .int .i64 0, .int .i64 0, .int .i64 0] 87)
  have cT : Hid (Calls Tryd.prog 71 #[.slice (some ⟨w2.heap.size, 0, none⟩) 1 1] (w2.alloc (.cells #[.int .i64 1, .int .i64 0, .int .i64 0, .int .i64 0] 87)) fun e w' => e = .returned (.tuple #[.string (str []), .int .i64 2]) ∧ Below (w2.alloc (.cells #[.int .i64 1, .int .i64 0, .int .i64 0, .int .i64 0] 87)).heap.size (w2.alloc (.cells #[.int .i64 1, .int .i64 0, .int .i64 0, .int .i64 0] 87)) w') := Lib.hid (by
    have q := rep_text (some ⟨w2.heap.size, 0, none⟩) 1 [⟨1, 0, 0, 0⟩] _ (by decide) (cells_of (t := 87) cv_len (Blk.new w2 87 #[.int .i64 1, .int .i64 0, .int .i64 0, .int .i64 0])) (by intro c hc; rw [List.mem_singleton] at hc; subst hc; decide) (hv.below hb1)
    rw [text_bad 0 (by decide)] at q
    exact q)
  go_wp2_with fail
  refine cT.out.mono ?_
  rintro e w3 ⟨rfl, hc⟩
  have hb2 := hb1.trans (hc.mono hb1.size)
  have hd : Below w2.heap.size w2 w3 := ((Below.refl w2.heap.size w2).alloc (Nat.le_refl _) (.cells #[.int .i64 1, .int .i64 0, .int .i64 0, .int .i64 0] 87)).trans (hc.mono (by simp))
  have hB2 := HB2.out.below hd HB2.out.lt
  have hB3 := HB3.out.below hd HB3.out.lt
  have hB4 := HB4.out.below hd HB4.out.lt
  have hB5 := HB5.out.below hd HB5.out.lt
  have hL := HL.out.below hd; have hWN := HWN.out.below hd
  clear hc hd hb1 HB2 HB3 HB4 HB5 HL HWN HW cT
  have HB2 := Lib.hid hB2; have HB3 := Lib.hid hB3; have HB4 := Lib.hid hB4; have HB5 := Lib.hid hB5; have HL := Lib.hid hL; have HWN := Lib.hid hWN; have HW := Lib.hid hb2
  clear hB2 hB3 hB4 hB5 hL hWN hb2
  have hb1 := HW.out.alloc HW.out.size (.cells #[.int .i64 1, .int .i64 0, .int .i64 0, .int .i64 4] 87)
  have cT : Hid (Calls Tryd.prog 71 #[.slice (some ⟨w3.heap.size, 0, none⟩) 1 1] (w3.alloc (.cells #[.int .i64 1, .int .i64 0, .int .i64 0, .int .i64 4] 87)) fun e w' => e = .returned (.tuple #[.string (str []), .int .i64 2]) ∧ Below (w3.alloc (.cells #[.int .i64 1, .int .i64 0, .int .i64 0, .int .i64 4] 87)).heap.size (w3.alloc (.cells #[.int .i64 1, .int .i64 0, .int .i64 0, .int .i64 4] 87)) w') := Lib.hid (by
    have q := rep_text (some ⟨w3.heap.size, 0, none⟩) 1 [⟨1, 0, 0, 4⟩] _ (by decide) (cells_of (t := 87) cv_len (Blk.new w3 87 #[.int .i64 1, .int .i64 0, .int .i64 0, .int .i64 4])) (by intro c hc; rw [List.mem_singleton] at hc; subst hc; decide) (hv.below hb1)
    rw [text_bad 4 (by decide)] at q
    exact q)
  go_wp2_with fail
  refine cT.out.mono ?_
  rintro e w4 ⟨rfl, hc⟩
  have hb2 := hb1.trans (hc.mono hb1.size)
  have hd : Below w3.heap.size w3 w4 := ((Below.refl w3.heap.size w3).alloc (Nat.le_refl _) (.cells #[.int .i64 1, .int .i64 0, .int .i64 0, .int .i64 4] 87)).trans (hc.mono (by simp))
  have hB2 := HB2.out.below hd HB2.out.lt
  have hB3 := HB3.out.below hd HB3.out.lt
  have hB4 := HB4.out.below hd HB4.out.lt
  have hB5 := HB5.out.below hd HB5.out.lt
  have hL := HL.out.below hd; have hWN := HWN.out.below hd
  clear hc hd hb1 HB2 HB3 HB4 HB5 HL HWN HW cT
  have HB2 := Lib.hid hB2; have HB3 := Lib.hid hB3; have HB4 := Lib.hid hB4; have HB5 := Lib.hid hB5; have HL := Lib.hid hL; have HWN := Lib.hid hWN; have HW := Lib.hid hb2
  clear hB2 hB3 hB4 hB5 hL hWN hb2
  have s0 := (HB5.out.cell 0).trans rfl
  have s1 := (HB5.out.cell 1).trans rfl
  have s2 := (HB5.out.cell 2).trans rfl
  have s3 := (HB5.out.cell 3).trans rfl
  go_wp2_with fail
  clear s0 s1 s2 s3
  refine (cmp_ok [] (exS_in (r := w.heap.size + 2) (z := w.heap.size + 4) (k := w.heap.size + 3) (ru := ra1) (es := ea) rfl HB2.out HB4.out HB3.out) (exS_in (r := w.heap.size + 2) (z := w.heap.size + 4) (k := w.heap.size + 3) (ru := ra1) (es := ea) rfl HB2.out HB4.out HB3.out) (exS_few _ _ _ _ _ rfl).1 (exS_few _ _ _ _ _ rfl).2 (ex_aa _ _ _ _ _ _).1 (ex_aa _ _ _ _ _ _).2).mono ?_
  rintro e w5 ⟨A5, c5, rfl, _, hc⟩
  have hL := HL.out.below hc; have hWN := HWN.out.below hc; have hb2 := HW.out.trans (hc.mono HW.out.size)
  clear hc HB2 HB3 HB4 HB5 HL HWN HW
  have HL := Lib.hid hL; have HWN := Lib.hid hWN; have HW := Lib.hid hb2
  clear hL hWN hb2
  go_wp2_with fail
  refine calls_gen (fun W => Blk W w5.heap.size 83 ([rs].flatMap RV.cells).toArray ∧ Blk W (w5.heap.size + 2) 83 ([rn].flatMap RV.cells).toArray ∧ Below w5.heap.size w5 W) ?_ ?_
  · exact ⟨((Blk.new _ _ _).alloc _).alloc _, Blk.newAt _ (w5.heap.size + 2) (by simp) _ _, (((Below.refl w5.heap.size w5).alloc (Nat.le_refl _) _).alloc (by simp <;> omega) _).alloc (by simp <;> omega) _⟩
  rintro W5 ⟨r1, r2, hd⟩
  refine (cmp_no (exR_in (ru := rs) r1) (exR_in (ru := rn) r2) (exR_few _ _).1 (exR_few _ _).2 (ex_letters _ _)).mono ?_
  rintro e w6 ⟨rfl, hc0⟩
  have hc := hd.trans (hc0.mono hd.size)
  have hL := HL.out.below hc; have hWN := HWN.out.below hc; have hb2 := HW.out.trans (hc.mono HW.out.size)
  clear hc hc0 hd r1 r2 HL HWN HW
  have HL := Lib.hid hL; have HWN := Lib.hid hWN; have HW := Lib.hid hb2
  clear hL hWN hb2
  go_wp2_with fail
  refine calls_gen (fun W => Blk W w6.heap.size 39 #[.string ⟨#[65]⟩, .slice none 0 0] ∧ Blk W (w6.heap.size + 1) 39 #[.string ⟨#[66]⟩, .slice none 0 0] ∧ Below w6.heap.size w6 W) ?_ ?_
  · exact ⟨(Blk.new _ _ _).alloc _, Blk.newAt _ (w6.heap.size + 1) (by simp) _ _, ((Below.refl w6.heap.size w6).alloc (Nat.le_refl _) _).alloc (by simp) _⟩
  rintro W6 ⟨r1, r2, hd⟩
  refine (cmp_no (exZ_in (nm := ⟨#[65]⟩) r1) (exZ_in (nm := ⟨#[66]⟩) r2) (exZ_few _ _).1 (exZ_few _ _).2 (ex_zones _ _)).mono ?_
  rintro e w7 ⟨rfl, hc0⟩
  have hc := hd.trans (hc0.mono hd.size)
  have cS := Lib.hid (same_any A (some ⟨w1.heap.size, 0, none⟩) c 3 exL exL true w7 (by simp) (HL.out.below hc) (HWN.out.below hc) (by decide) (by decide))
  have HW7 := Lib.hid (HW.out.trans (hc.mono HW.out.size))
  clear hc hc0 hd r1 r2 HL HWN HW
  go_wp2_with fail
  refine cS.out.mono ?_
  rintro e w8 ⟨rfl, hq⟩
  have HQ := Lib.hid (HW7.out.trans (hq.below w.heap.size))
  clear hq cS HW7
  go_wp2_with fail
  go_ret
  exact ⟨rfl, HQ.out⟩
end Go.Proofs.YtlideagcmhlkeaaDoor

/- What the rows' list of variables gives the walks of chapter 32. -/
namespace Go.Proofs.YtlideagcmhlkeaaDoor
open Go.RowKit
set_option linter.unusedVariables false

theorem tPow : (Tryd.prog.globals[2]?).map (·.type) = some 196 := by kernel_rfl
theorem cPow : Tryd.prog.cellsOf 196 = 20 := by kernel_rfl
theorem cU64 : Tryd.prog.cellsOf 178 = 1 := by kernel_rfl
theorem gWords : Tryd.prog.globalNamed "analemma/report.words" = some 0 := by kernel_rfl
theorem tWords : (Tryd.prog.globals[0]?).map (·.type) = some 165 := by kernel_rfl
theorem cWords : Tryd.prog.cellsOf 165 = 10 := by kernel_rfl
theorem cWord : Tryd.prog.cellsOf 164 = 2 := by kernel_rfl
set_option maxRecDepth 100000 in
theorem rec_cells {H : Type} {enc : TypeId × Value → H} {w : World} {base : Nat} {sp : Nat → Bool} {held : Bool} {fuel : Nat} {cs : List Value} {b : Int} {s : List UInt8} {p : List MemPlace} (hl : cs.length = 2)
    (h : DataW.trod enc Tryd.prog w base sp held fuel 164 cs = some (.agg [.lit (.int .i64 b), .lit (.string s)], p)) : cs = [.int .i64 b, .string (str s)] := by
  match cs, hl with
  | [c0, c1], _ =>
    obtain ⟨xs, n, _, hx, _, hxl, hg⟩ := DataW.trod_struct Tryd.underlying164 h
    have h0 := hg 0 _ rfl
    have h1 := hg 1 _ rfl
    match xs, hxl with
    | [x0, x1], _ =>
      obtain ⟨n0, e0, q0, _⟩ := DataW.trod_int Tryd.underlying3 (h0.trans rfl)
      obtain ⟨s1, e1, q1, _⟩ := DataW.trod_string Tryd.underlying9 (h1.trans rfl)
      subst q0 q1
      have hx1 : DataW.agg [.lit (.int .i64 b), .lit (.string s)] = (DataW.agg [.lit (.int .i64 n0), .lit (.string s1.data.toList)] : DataW H) := congrArg Prod.fst hx
      have hx2 := DataW.agg.inj hx1
      have r0 := (Lit.int.inj (DataW.lit.inj (List.cons.inj hx2).1)).2
      have r1 := Lit.string.inj (DataW.lit.inj (List.cons.inj (List.cons.inj hx2).2).1)
      have cI : Tryd.prog.cellsOf 3 = 1 := by kernel_rfl
      have cS : Tryd.prog.cellsOf 9 = 1 := by kernel_rfl
      have f0 : List.take (Tryd.prog.cellsOf 3) [c0, c1] = [.int .i64 n0] := e0
      have f1 : List.take (Tryd.prog.cellsOf 9) [c1] = [.string s1] := e1
      rw [cI] at f0
      rw [cS] at f1
      have g0 := (List.cons.inj f0).1
      have g1 := (List.cons.inj f1).1
      rw [g0, g1, r0, r1]
      rfl
theorem words_of {W : World} {rest : List (String × DataW Unit)} (h : laidMet Tryd.prog (("analemma/report.words", Rows.laid_analemma_report_words) :: rest) W) : (∀ j u, (#[.int .i64 1, .string ⟨#[115, 97, 118, 101]⟩, .int .i64 2, .string ⟨#[97, 116]⟩, .int .i64 4, .string ⟨#[111, 102, 102]⟩, .int .i64 8, .string ⟨#[102, 111, 114, 109, 97, 116]⟩, .int .i64 16, .string ⟨#[117, 110, 116, 105, 108]⟩] : Array Value)[j]? = some u → W.cell? ⟨0, j, none⟩ = some u) ∧ 0 < W.heap.size := by
  obtain ⟨ps, ⟨g', t', cs, fuel, p, q, hg', ht', hvar, hd, _, _⟩, _⟩ := h
  obtain rfl := Option.some.inj (gWords.symm.trans hg')
  obtain rfl := Option.some.inj (tWords.symm.trans ht')
  obtain ⟨xs, m, _, hx, hcl, hxl, hel⟩ := DataW.trod_array Tryd.underlying165 hd
  rw [cWords] at hcl
  rw [cWord] at hel
  obtain ⟨cl⟩ := cs
  simp only at hcl hel
  have hcs : cl = (#[.int .i64 1, .string ⟨#[115, 97, 118, 101]⟩, .int .i64 2, .string ⟨#[97, 116]⟩, .int .i64 4, .string ⟨#[111, 102, 102]⟩, .int .i64 8, .string ⟨#[102, 111, 114, 109, 97, 116]⟩, .int .i64 16, .string ⟨#[117, 110, 116, 105, 108]⟩] : Array Value).toList := by
    match cl, hcl, xs, hxl with
    | [c0, c1, c2, c3, c4, c5, c6, c7, c8, c9], _, [x0, x1, x2, x3, x4], _ =>
      simp only [Rows.laid_analemma_report_words, List.map_cons, List.map_nil, Prod.mk.injEq, DataW.agg.injEq, List.cons.injEq, and_true] at hx
      obtain ⟨⟨r0, r1, r2, r3, r4⟩, _⟩ := hx
      have k0 := hel 0 (by decide)
      have k1 := hel 1 (by decide)
      have k2 := hel 2 (by decide)
      have k3 := hel 3 (by decide)
      have k4 := hel 4 (by decide)
      obtain ⟨d0, p0⟩ := x0
      obtain ⟨d1, p1⟩ := x1
      obtain ⟨d2, p2⟩ := x2
      obtain ⟨d3, p3⟩ := x3
      obtain ⟨d4, p4⟩ := x4
      simp only at r0 r1 r2 r3 r4
      subst r0 r1 r2 r3 r4
      have j0 := rec_cells rfl (k0.trans rfl)
      have j1 := rec_cells rfl (k1.trans rfl)
      have j2 := rec_cells rfl (k2.trans rfl)
      have j3 := rec_cells rfl (k3.trans rfl)
      have j4 := rec_cells rfl (k4.trans rfl)
      simp only [Nat.zero_mul, Nat.one_mul, Nat.reduceMul, List.drop_zero, List.drop_succ_cons, List.take_succ_cons, List.take_zero, List.cons.injEq, and_true] at j0 j1 j2 j3 j4
      obtain ⟨rfl, rfl⟩ := j0
      obtain ⟨rfl, rfl⟩ := j1
      obtain ⟨rfl, rfl⟩ := j2
      obtain ⟨rfl, rfl⟩ := j3
      obtain ⟨rfl, rfl⟩ := j4
      rfl
  subst hcs
  have hlt : 0 < W.heap.size := by
    unfold World.var? at hvar
    simp only [gWords, Option.bind_some] at hvar
    rcases Nat.lt_or_ge 0 W.heap.size with q | q
    · exact q
    · rw [Array.getElem?_eq_none q] at hvar; cases hvar
  refine ⟨fun j u hu => ?_, hlt⟩
  have hj : j < 10 := (Array.getElem?_eq_some_iff.1 hu).1
  have := World.var?_cell gWords hvar j
  rw [this]
  simpa using hu
theorem vars_of_laid {W : World} (h : laidMetH Tryd.prog Rows.reportAgainRow.laid W) : Vars W := by
  have h0 : laidMet Tryd.prog Rows.reportAgainRow.laid W := h
  have h1 := h0.tail
  have h2 := h1.tail
  have hpow := Lib.tabIs_of_head (k := .u64) (zs := Lib.pow10Tab) gPow tPow Tryd.underlying196 Tryd.underlying178 cU64 cPow h2
  have hw := words_of h2.tail
  refine ⟨hpow, hw.1, ?_, hw.2⟩
  unfold Lib.TabIs World.var? at hpow
  simp only [gPow, Option.bind_some] at hpow
  rcases Nat.lt_or_ge 2 W.heap.size with q | q
  · exact q
  · rw [Array.getElem?_eq_none q] at hpow; cases hpow
end Go.Proofs.YtlideagcmhlkeaaDoor

/- What an era by value and a slice of rules that come in read as (for the cards of chapter 20 and above). -/
namespace Go.Proofs.YtlideagcmhlkeaaDoor
open Go.RowKit Go.ChangeShapes Go.WideShapes
set_option linter.unusedVariables false

section
variable {H : Type} {enc : TypeId × Value → H} {w : World} {base : Nat} {sp : Nat → Bool} {held : Bool}
theorem field_of {P : Program} {t : TypeId} {fs : Array Field} {fuel : Nat} {cs : List Value} {x : DataW H × List MemPlace} (ht : P.underlying t = some (.struct fs)) (h : DataW.trod enc P w base sp held fuel t cs = some x) (i : Nat) (ty : TypeId) (o s : Nat)
    (hf : (fs[i]?).map (fun f => (f.type, f.offset, P.cellsOf f.type)) = some (ty, o, s)) : ∃ n y, DataW.trod enc P w base sp held n ty ((cs.drop o).take s) = some y := by
  obtain ⟨xs, n, _, _, _, hl, hg⟩ := DataW.trod_struct ht h
  cases hq : fs[i]? with
  | none => rw [hq] at hf; cases hf
  | some f =>
    rw [hq] at hf
    simp only [Option.map_some, Option.some.injEq, Prod.mk.injEq] at hf
    obtain ⟨rfl, rfl, rfl⟩ := hf
    have hi : i < xs.length := by rw [hl]; exact (Array.getElem?_eq_some_iff.1 hq).1
    exact ⟨n, xs[i], (hg i f hq).trans (List.getElem?_eq_getElem hi)⟩
theorem leaf_int {P : Program} {t : TypeId} {fs : Array Field} {fuel : Nat} {cs : List Value} {x : DataW H × List MemPlace} (ht : P.underlying t = some (.struct fs)) (h : DataW.trod enc P w base sp held fuel t cs = some x) (i : Nat) (ty : TypeId) (o : Nat) (k : IntKind)
    (hf : (fs[i]?).map (fun f => (f.type, f.offset, P.cellsOf f.type)) = some (ty, o, 1)) (hk : P.underlying ty = some (.int k)) : ∃ n, (cs.drop o).take 1 = [.int k n] ∧ (Lit.int k n).wf = true := by
  obtain ⟨n, y, hy⟩ := field_of ht h i ty o 1 hf
  obtain ⟨z, e, _, hw⟩ := DataW.trod_int hk hy
  exact ⟨z, e, hw⟩
theorem leaf_str {P : Program} {t : TypeId} {fs : Array Field} {fuel : Nat} {cs : List Value} {x : DataW H × List MemPlace} (ht : P.underlying t = some (.struct fs)) (h : DataW.trod enc P w base sp held fuel t cs = some x) (i : Nat) (ty : TypeId) (o : Nat)
    (hf : (fs[i]?).map (fun f => (f.type, f.offset, P.cellsOf f.type)) = some (ty, o, 1)) (hk : P.underlying ty = some .string) : ∃ s : ByteArray, (cs.drop o).take 1 = [.string s] ∧ s.size ≤ maxLen := by
  obtain ⟨n, y, hy⟩ := field_of ht h i ty o 1 hf
  obtain ⟨z, e, _, hw⟩ := DataW.trod_string hk hy
  exact ⟨z, e, hw⟩
theorem leaf_bool {P : Program} {t : TypeId} {fs : Array Field} {fuel : Nat} {cs : List Value} {x : DataW H × List MemPlace} (ht : P.underlying t = some (.struct fs)) (h : DataW.trod enc P w base sp held fuel t cs = some x) (i : Nat) (ty : TypeId) (o : Nat)
    (hf : (fs[i]?).map (fun f => (f.type, f.offset, P.cellsOf f.type)) = some (ty, o, 1)) (hk : P.underlying ty = some .bool) : ∃ b, (cs.drop o).take 1 = [.bool b] := by
  obtain ⟨n, y, hy⟩ := field_of ht h i ty o 1 hf
  obtain ⟨z, e, _⟩ := DataW.trod_bool hk hy
  exact ⟨z, e⟩
/-- a rule's cells -/
theorem open_rule {fuel : Nat} {cs : List Value} {x : DataW H × List MemPlace} (hlen : cs.length = 11) (h : DataW.trod enc Tryd.prog w base sp held fuel 83 cs = some x) : ∃ r : RV, cs = r.cells ∧ (Lit.int .i64 r.save).wf = true := by
  match cs, hlen with
  | [c0, c1, c2, c3, c4, c5, c6, c7, c8, c9, c10], _ =>
    obtain ⟨s0, e0, _⟩ := leaf_str Tryd.underlying83 h 0 9 0 (by kernel_rfl) Tryd.underlying9
    obtain ⟨n1, e1, _⟩ := leaf_int Tryd.underlying83 h 1 3 1 .i64 (by kernel_rfl) Tryd.underlying3
    obtain ⟨n2, e2, _⟩ := leaf_int Tryd.underlying83 h 2 3 2 .i64 (by kernel_rfl) Tryd.underlying3
    obtain ⟨n3, e3, _⟩ := leaf_int Tryd.underlying83 h 3 3 3 .i64 (by kernel_rfl) Tryd.underlying3
    obtain ⟨m, y, hd⟩ := field_of Tryd.underlying83 h 4 41 4 3 (by kernel_rfl)
    obtain ⟨n4, e4, _⟩ := leaf_int Tryd.underlying41 hd 0 3 0 .i64 (by kernel_rfl) Tryd.underlying3
    obtain ⟨n5, e5, _⟩ := leaf_int Tryd.underlying41 hd 1 3 1 .i64 (by kernel_rfl) Tryd.underlying3
    obtain ⟨n6, e6, _⟩ := leaf_int Tryd.underlying41 hd 2 3 2 .i64 (by kernel_rfl) Tryd.underlying3
    obtain ⟨m', y', hc⟩ := field_of Tryd.underlying83 h 5 43 7 2 (by kernel_rfl)
    obtain ⟨n7, e7, _⟩ := leaf_int Tryd.underlying43 hc 0 2 0 .i64 (by kernel_rfl) Tryd.underlying2
    obtain ⟨n8, e8, _⟩ := leaf_int Tryd.underlying43 hc 1 3 1 .i64 (by kernel_rfl) Tryd.underlying3
    obtain ⟨n9, e9, w9⟩ := leaf_int Tryd.underlying83 h 6 2 9 .i64 (by kernel_rfl) Tryd.underlying2
    obtain ⟨s10, e10, _⟩ := leaf_str Tryd.underlying83 h 7 9 10 (by kernel_rfl) Tryd.underlying9
    simp only [List.drop_succ_cons, List.drop_zero, List.take_succ_cons, List.take_zero, List.cons.injEq, and_true] at e0 e1 e2 e3 e4 e5 e6 e7 e8 e9 e10
    subst e0 e1 e2 e3 e4 e5 e6 e7 e8 e9 e10
    exact ⟨⟨s0, n1, n2, n3, n4, n5, n6, n7, n8, n9, s10⟩, rfl, w9⟩
/-- an era by value -/
theorem open_era {fuel : Nat} {cs : List Value} {x : DataW H × List MemPlace} (hlen : cs.length = 13) (h : DataW.trod enc Tryd.prog w base sp held fuel 47 cs = some x) :
    ∃ (off kind save : Int) (set fmt : ByteArray) (ui : Bool) (uy um dk dw dd asec ab : Int), cs = [.int .i64 off, .int .i64 kind, .int .i64 save, .string set, .string fmt, .bool ui, .int .i64 uy, .int .i64 um, .int .i64 dk, .int .i64 dw, .int .i64 dd, .int .i64 asec, .int .i64 ab] ∧
      (Lit.int .i64 off).wf = true ∧ (Lit.int .i64 kind).wf = true ∧ (Lit.int .i64 save).wf = true ∧ set.size ≤ maxLen ∧ fmt.size ≤ maxLen := by
  match cs, hlen with
  | [c0, c1, c2, c3, c4, c5, c6, c7, c8, c9, c10, c11, c12], _ =>
    obtain ⟨n0, e0, w0⟩ := leaf_int Tryd.underlying47 h 0 2 0 .i64 (by kernel_rfl) Tryd.underlying2
    obtain ⟨n1, e1, w1⟩ := leaf_int Tryd.underlying47 h 1 3 1 .i64 (by kernel_rfl) Tryd.underlying3
    obtain ⟨n2, e2, w2⟩ := leaf_int Tryd.underlying47 h 2 2 2 .i64 (by kernel_rfl) Tryd.underlying2
    obtain ⟨s3, e3, w3⟩ := leaf_str Tryd.underlying47 h 3 9 3 (by kernel_rfl) Tryd.underlying9
    obtain ⟨s4, e4, w4⟩ := leaf_str Tryd.underlying47 h 4 9 4 (by kernel_rfl) Tryd.underlying9
    obtain ⟨m, y, hu⟩ := field_of Tryd.underlying47 h 5 45 5 8 (by kernel_rfl)
    obtain ⟨b5, e5⟩ := leaf_bool Tryd.underlying45 hu 0 4 0 (by kernel_rfl) Tryd.underlying4
    obtain ⟨n6, e6, _⟩ := leaf_int Tryd.underlying45 hu 1 3 1 .i64 (by kernel_rfl) Tryd.underlying3
    obtain ⟨n7, e7, _⟩ := leaf_int Tryd.underlying45 hu 2 3 2 .i64 (by kernel_rfl) Tryd.underlying3
    obtain ⟨m', y', hd⟩ := field_of Tryd.underlying45 hu 3 41 3 3 (by kernel_rfl)
    obtain ⟨n8, e8, _⟩ := leaf_int Tryd.underlying41 hd 0 3 0 .i64 (by kernel_rfl) Tryd.underlying3
    obtain ⟨n9, e9, _⟩ := leaf_int Tryd.underlying41 hd 1 3 1 .i64 (by kernel_rfl) Tryd.underlying3
    obtain ⟨n10, e10, _⟩ := leaf_int Tryd.underlying41 hd 2 3 2 .i64 (by kernel_rfl) Tryd.underlying3
    obtain ⟨m'', y'', hc⟩ := field_of Tryd.underlying45 hu 4 43 6 2 (by kernel_rfl)
    obtain ⟨n11, e11, _⟩ := leaf_int Tryd.underlying43 hc 0 2 0 .i64 (by kernel_rfl) Tryd.underlying2
    obtain ⟨n12, e12, _⟩ := leaf_int Tryd.underlying43 hc 1 3 1 .i64 (by kernel_rfl) Tryd.underlying3
    simp only [List.drop_succ_cons, List.drop_zero, List.take_succ_cons, List.take_zero, List.cons.injEq, and_true] at e0 e1 e2 e3 e4 e5 e6 e7 e8 e9 e10 e11 e12
    subst e0 e1 e2 e3 e4 e5 e6 e7 e8 e9 e10 e11 e12
    exact ⟨n0, n1, n2, s3, s4, b5, n6, n7, n8, n9, n10, n11, n12, rfl, w0, w1, w2, w3, w4⟩
end
end Go.Proofs.YtlideagcmhlkeaaDoor

/- What changes and sources that come in read as (for the cards of chapter 32 and others). -/
namespace Go.Proofs.YtlideagcmhlkeaaDoor
open Go.RowKit Go.ChangeShapes Go.WideShapes
set_option linter.unusedVariables false

section
variable {H : Type} {enc : TypeId × Value → H} {w : World} {base : Nat} {sp : Nat → Bool} {held : Bool}
/-- a link's cells -/
theorem open_link {fuel : Nat} {cs : List Value} {x : DataW H × List MemPlace} (hlen : cs.length = 2) (h : DataW.trod enc Tryd.prog w base sp held fuel 94 cs = some x) : ∃ k : KV, cs = k.cells ∧ True := by
  match cs, hlen with
  | [c0, c1], _ =>
    obtain ⟨s0, e0, _⟩ := leaf_str Tryd.underlying94 h 0 9 0 (by kernel_rfl) Tryd.underlying9
    obtain ⟨s1, e1, _⟩ := leaf_str Tryd.underlying94 h 1 9 1 (by kernel_rfl) Tryd.underlying9
    simp only [List.drop_succ_cons, List.drop_zero, List.take_succ_cons, List.take_zero, List.cons.injEq, and_true] at e0 e1
    subst e0 e1
    exact ⟨⟨s0, s1⟩, rfl, trivial⟩
/-- a string's cell -/
theorem open_word {fuel : Nat} {cs : List Value} {x : DataW H × List MemPlace} (hlen : cs.length = 1) (h : DataW.trod enc Tryd.prog w base sp held fuel 9 cs = some x) : ∃ b : ByteArray, cs = [Value.string b] ∧ True := by
  obtain ⟨z, e, _⟩ := DataW.trod_string Tryd.underlying9 h
  exact ⟨z, e, trivial⟩
end
end Go.Proofs.YtlideagcmhlkeaaDoor

/- What a source by value that comes in reads as, where the bulk of what comes in is bounded (for the second forms of chapter 32's laws). -/
namespace Go.Proofs.YtlideagcmhlkeaaDoor
open Go.RowKit Go.ChangeShapes Go.WideShapes
set_option linter.unusedVariables false

theorem bulk_part {H : Type} {d : DataW H} {l : List (DataW H)} (h : d ∈ l) : Rows.uptoBulk d ≤ Rows.uptoBulkAll l := by
  induction l with
  | nil => cases h
  | cons x r ih =>
    simp only [Rows.uptoBulkAll]
    rcases List.mem_cons.1 h with e | e
    · subst e; omega
    · have := ih e; omega
section
variable {H : Type} {enc : TypeId × Value → H} {w : World} {base : Nat} {sp : Nat → Bool} {held : Bool}
/-- a field, with what it holds at most -/
theorem field_ofB {P : Program} {t : TypeId} {fs : Array Field} {fuel : Nat} {cs : List Value} {x : DataW H × List MemPlace} (ht : P.underlying t = some (.struct fs)) (h : DataW.trod enc P w base sp held fuel t cs = some x) (i : Nat) (ty : TypeId) (o s : Nat)
    (hf : (fs[i]?).map (fun f => (f.type, f.offset, P.cellsOf f.type)) = some (ty, o, s)) : ∃ n y, DataW.trod enc P w base sp held n ty ((cs.drop o).take s) = some y ∧ Rows.uptoBulk y.1 ≤ Rows.uptoBulk x.1 := by
  obtain ⟨xs, n, _, hx, _, hl, hg⟩ := DataW.trod_struct ht h
  cases hq : fs[i]? with
  | none => rw [hq] at hf; cases hf
  | some f =>
    rw [hq] at hf
    simp only [Option.map_some, Option.some.injEq, Prod.mk.injEq] at hf
    obtain ⟨rfl, rfl, rfl⟩ := hf
    have hi : i < xs.length := by rw [hl]; exact (Array.getElem?_eq_some_iff.1 hq).1
    refine ⟨n, xs[i], (hg i f hq).trans (List.getElem?_eq_getElem hi), ?_⟩
    have q := bulk_part (d := xs[i].1) (l := xs.map (·.1)) (List.mem_map.2 ⟨xs[i], List.getElem_mem hi, rfl⟩)
    rw [hx]
    simp only [Rows.uptoBulk]
    omega
theorem leaf_strB {P : Program} {t : TypeId} {fs : Array Field} {fuel : Nat} {cs : List Value} {x : DataW H × List MemPlace} (ht : P.underlying t = some (.struct fs)) (h : DataW.trod enc P w base sp held fuel t cs = some x) (i : Nat) (ty : TypeId) (o : Nat)
    (hf : (fs[i]?).map (fun f => (f.type, f.offset, P.cellsOf f.type)) = some (ty, o, 1)) (hk : P.underlying ty = some .string) : ∃ s : ByteArray, (cs.drop o).take 1 = [.string s] ∧ s.size ≤ Rows.uptoBulk x.1 := by
  obtain ⟨n, y, hy, hb⟩ := field_ofB ht h i ty o 1 hf
  obtain ⟨z, e, hx, hw⟩ := DataW.trod_string hk hy
  refine ⟨z, e, Nat.le_trans ?_ hb⟩
  rw [hx]
  simp only [Rows.uptoBulk]
  show z.data.toList.length ≤ _
  omega
/-- a slice that comes in, on the list of its cells, with what they hold at most -/
theorem open_cellsB {P : Program} {α : Type} {t e : TypeId} {m : Nat} {f : α → List Value} {Good : α → Prop} {B : Nat} {fuel : Nat} {cs : List Value} {x : DataW H × List MemPlace} (ht : P.underlying t = some (.slice e)) (hC : P.cellsOf e = m) (h0 : 0 < m)
    (hopen : ∀ (fuel : Nat) (cs : List Value) (x : DataW H × List MemPlace), cs.length = m → DataW.trod enc P w base sp held fuel e cs = some x → Rows.uptoBulk x.1 ≤ B → ∃ r : α, cs = f r ∧ Good r)
    (hf : DataW.trod enc P w base sp held fuel t cs = some x) (hB : Rows.uptoBulk x.1 ≤ B) :
    ∃ (A : Option Addr) (c : Nat) (L : List α), cs = [.slice A L.length c] ∧ L.length ≤ maxLen ∧ CellsIn m f w A L ∧ ∀ r ∈ L, Good r := by
  rcases Go.Deep.open_slice ht hf with ⟨h0', _⟩ | ⟨a, len, cap, m', n, D, Pl, hcs, hb, hl, hm, hmm, hx, hi⟩
  · exact ⟨none, 0, [], h0', Nat.zero_le _, CellsIn.nil _ _, fun r hr => by simp at hr⟩
  · have hlm : len ≤ m' := by rw [hmm]; split <;> omega
    have key : ∀ i, i < len → ∃ r : α, Good r ∧ (f r).length = m ∧ ∀ j u, (f r)[j]? = some u → w.cell? ((a.add (i * m)).add j) = some u := by
      intro i hil
      obtain ⟨cs', hc, htt⟩ := hi i (by omega)
      rw [hC] at hc
      obtain ⟨_, hcl, hat⟩ := World.cells?_some hc
      obtain ⟨r, hr, hw⟩ := hopen _ _ _ hcl htt (by
        have q1 := bulk_part (d := D i) (l := (List.range len).map D) (List.mem_map.2 ⟨i, List.mem_range.2 hil, rfl⟩)
        rw [hx] at hB
        simp only [Rows.uptoBulk] at hB
        show Rows.uptoBulk (D i) ≤ B
        omega)
      refine ⟨r, hw, by rw [← hr, hcl], fun j u hu => ?_⟩
      have hj : j < m := by rw [← hcl, hr]; exact (List.getElem?_eq_some_iff.mp hu).1
      rw [hat j hj, hr]; exact hu
    have key2 : ∃ L : List α, L.length = len ∧ ∀ i r, L[i]? = some r → Good r ∧ (f r).length = m ∧ ∀ j u, (f r)[j]? = some u → w.cell? ((a.add (i * m)).add j) = some u := by
      refine ⟨List.ofFn (fun i : Fin len => Classical.choose (key i.1 i.2)), by simp, fun i r hr => ?_⟩
      have hil : i < len := by have := (List.getElem?_eq_some_iff.mp hr).1; simpa using this
      rw [List.getElem?_ofFn, dif_pos hil] at hr
      injection hr with hr
      rw [← hr]
      exact Classical.choose_spec (key i hil)
    obtain ⟨L, hLl, hL⟩ := key2
    refine ⟨some a, cap, L, by rw [hLl]; exact hcs, by rw [hLl]; omega, fun k r hr => ?_, fun r hr => ?_⟩
    · have h00 : 0 < L.length := by have := (List.getElem?_eq_some_iff.mp hr).1; omega
      have hs : a.spot = none := by
        obtain ⟨_, hl0, q⟩ := hL 0 _ (List.getElem?_eq_getElem h00)
        have q0 := q 0 _ (List.getElem?_eq_getElem (by omega))
        rw [Nat.zero_mul] at q0
        exact World.cell?_spot (by simpa [Addr.add] using q0)
      obtain ⟨_, hl1, hk⟩ := hL k r hr
      obtain ⟨b, o, s⟩ := a
      simp only at hs
      subst hs
      refine ⟨b, o, rfl, ?_, fun j u hu => ?_⟩
      · have q := hk 0 _ (List.getElem?_eq_getElem (by omega))
        rw [add_plain] at q
        unfold World.cell? at q
        rcases Nat.lt_or_ge b w.heap.size with q' | q'
        · exact q'
        · rw [Array.getElem?_eq_none q'] at q; cases q
      · have := hk j u hu
        rwa [add_plain] at this
    · obtain ⟨k, hk⟩ := List.mem_iff_getElem?.1 hr
      exact (hL k r hk).1
def OkB (B : Nat) (e : EV) : Prop := e.set.size ≤ B ∧ e.fmt.size ≤ B
theorem open_eravB {B fuel : Nat} {cs : List Value} {x : DataW H × List MemPlace} (hlen : cs.length = 13) (h : DataW.trod enc Tryd.prog w base sp held fuel 47 cs = some x) (hB : Rows.uptoBulk x.1 ≤ B) : ∃ e : EV, cs = e.cells ∧ OkB B e := by
  obtain ⟨n0, n1, n2, s3, s4, b5, n6, n7, n8, n9, n10, n11, n12, hcs, _⟩ := open_era hlen h
  obtain ⟨s, es, hs⟩ := leaf_strB Tryd.underlying47 h 4 9 4 (by kernel_rfl) Tryd.underlying9
  obtain ⟨r, er, hr⟩ := leaf_strB Tryd.underlying47 h 3 9 3 (by kernel_rfl) Tryd.underlying9
  subst hcs
  have e : s4 = s := by simpa using es
  have e' : s3 = r := by simpa using er
  subst e e'
  exact ⟨⟨n0, n1, n2, s3, s4, b5, n6, n7, n8, n9, n10, n11, n12⟩, rfl, Nat.le_trans hr hB, Nat.le_trans hs hB⟩
theorem open_ruleB {B fuel : Nat} {cs : List Value} {x : DataW H × List MemPlace} (hlen : cs.length = 11) (h : DataW.trod enc Tryd.prog w base sp held fuel 83 cs = some x) (hB : Rows.uptoBulk x.1 ≤ B) : ∃ r : RV, cs = r.cells ∧ r.name.size ≤ B ∧ r.letter.size ≤ B := by
  obtain ⟨r, hcs, _⟩ := open_rule hlen h
  obtain ⟨s, es, hs⟩ := leaf_strB Tryd.underlying83 h 0 9 0 (by kernel_rfl) Tryd.underlying9
  obtain ⟨u, eu, hu⟩ := leaf_strB Tryd.underlying83 h 7 9 10 (by kernel_rfl) Tryd.underlying9
  subst hcs
  have e : r.name = s := by simpa [RV.cells] using es
  have e' : r.letter = u := by simpa [RV.cells] using eu
  subst e e'
  exact ⟨r, rfl, Nat.le_trans hs hB, Nat.le_trans hu hB⟩
theorem open_linkB {B fuel : Nat} {cs : List Value} {x : DataW H × List MemPlace} (hlen : cs.length = 2) (h : DataW.trod enc Tryd.prog w base sp held fuel 94 cs = some x) (hB : Rows.uptoBulk x.1 ≤ B) : ∃ k : KV, cs = k.cells ∧ k.target.size ≤ B := by
  obtain ⟨k, hcs, _⟩ := open_link hlen h
  obtain ⟨s, es, hs⟩ := leaf_strB Tryd.underlying94 h 0 9 0 (by kernel_rfl) Tryd.underlying9
  subst hcs
  have e : k.target = s := by simpa [KV.cells] using es
  subst e
  exact ⟨k, rfl, Nat.le_trans hs hB⟩
/-- a zone's cells, with its eras -/
theorem open_zoneB {B fuel : Nat} {cs : List Value} {x : DataW H × List MemPlace} (hlen : cs.length = 2) (h : DataW.trod enc Tryd.prog w base sp held fuel 39 cs = some x) (hB : Rows.uptoBulk x.1 ≤ B) :
    ∃ z : ZV, cs = z.cells ∧ (z.eras.length ≤ maxLen ∧ CellsIn 13 EV.cells w z.A z.eras ∧ z.name.size ≤ B ∧ ∀ e ∈ z.eras, OkB B e) := by
  match cs, hlen with
  | [c0, c1], _ =>
    obtain ⟨s0, e0, hs⟩ := leaf_strB Tryd.underlying39 h 0 9 0 (by kernel_rfl) Tryd.underlying9
    obtain ⟨m, y, hd, hb⟩ := field_ofB Tryd.underlying39 h 1 37 1 1 (by kernel_rfl)
    obtain ⟨A, c, L, e1, hl, hc, hf⟩ := open_cellsB (m := 13) (f := EV.cells) (Good := OkB B) Tryd.underlying37 (by kernel_rfl) (by decide) (fun fuel cs x hl hx hq => open_eravB hl hx hq) hd (Nat.le_trans hb hB)
    simp only [List.drop_succ_cons, List.drop_zero, List.take_succ_cons, List.take_zero, List.cons.injEq, and_true] at e0 e1
    subst e0 e1
    exact ⟨⟨s0, A, c, L⟩, rfl, hl, hc, Nat.le_trans hs hB, hf⟩
/-- the strings of a source are short -/
structure SmallStr (B : Nat) (s : SV) : Prop where
  rules : ∀ r ∈ s.rules, r.name.size ≤ B ∧ r.letter.size ≤ B
  zones : ∀ z ∈ s.zones, z.name.size ≤ B
  eras : ∀ z ∈ s.zones, ∀ e ∈ z.eras, e.set.size ≤ B ∧ e.fmt.size ≤ B
  links : ∀ k ∈ s.links, k.target.size ≤ B
/-- a source by value -/
theorem open_sourceB {B fuel : Nat} {cs : List Value} {x : DataW H × List MemPlace} (hlen : cs.length = 4) (h : DataW.trod enc Tryd.prog w base sp held fuel 32 cs = some x) (hB : Rows.uptoBulk x.1 ≤ B) :
    ∃ s : SV, cs = s.agg.toList ∧ SrcIn w s ∧ SmallStr B s := by
  match cs, hlen with
  | [c0, c1, c2, c3], _ =>
    obtain ⟨m0, y0, hd0, hb0⟩ := field_ofB Tryd.underlying32 h 0 27 0 1 (by kernel_rfl)
    obtain ⟨m1, y1, hd1, hb1⟩ := field_ofB Tryd.underlying32 h 1 28 1 1 (by kernel_rfl)
    obtain ⟨m2, y2, hd2, hb2⟩ := field_ofB Tryd.underlying32 h 2 29 2 1 (by kernel_rfl)
    obtain ⟨m3, y3, hd3⟩ := field_of Tryd.underlying32 h 3 30 3 1 (by kernel_rfl)
    obtain ⟨A0, k0, L0, e0, l0, i0, g0⟩ := open_cellsB (m := 11) (f := RV.cells) (Good := fun r => r.name.size ≤ B ∧ r.letter.size ≤ B) Tryd.underlying27 (by kernel_rfl) (by decide) (fun fuel cs x hl hx hq => open_ruleB hl hx hq) hd0 (Nat.le_trans hb0 hB)
    obtain ⟨A1, k1, L1, e1, l1, i1, g1⟩ := open_cellsB (m := 2) (f := ZV.cells) (Good := fun z => z.eras.length ≤ maxLen ∧ CellsIn 13 EV.cells w z.A z.eras ∧ z.name.size ≤ B ∧ ∀ e ∈ z.eras, OkB B e) Tryd.underlying28 (by kernel_rfl) (by decide) (fun fuel cs x hl hx hq => open_zoneB hl hx hq) hd1 (Nat.le_trans hb1 hB)
    obtain ⟨A2, k2, L2, e2, l2, i2, g2⟩ := open_cellsB (m := 2) (f := KV.cells) (Good := fun k => k.target.size ≤ B) Tryd.underlying29 (by kernel_rfl) (by decide) (fun fuel cs x hl hx hq => open_linkB hl hx hq) hd2 (Nat.le_trans hb2 hB)
    obtain ⟨A3, k3, L3, e3, l3, i3, _⟩ := open_cells (m := 1) (f := fun b : ByteArray => [Value.string b]) (Good := fun _ => True) Tryd.underlying30 (by kernel_rfl) (by decide) (fun fuel cs x hl hx => open_word hl hx) hd3
    simp only [List.drop_succ_cons, List.drop_zero, List.take_succ_cons, List.take_zero, List.cons.injEq, and_true] at e0 e1 e2 e3
    subst e0 e1 e2 e3
    exact ⟨⟨A0, k0, L0, A1, k1, L1, A2, k2, L2, A3, k3, L3⟩, rfl, ⟨i0, i1, i2, i3, fun z hz => (g1 z hz).2.1⟩, ⟨g0, fun z hz => (g1 z hz).2.2.1, fun z hz => (g1 z hz).2.2.2, g2⟩⟩
end
end Go.Proofs.YtlideagcmhlkeaaDoor

/- Bounds of literals (for the cards of chapter 32). No function of the program. -/
namespace Go.Proofs.YtlideagcmhlkeaaDoor
open Go
theorem b8 {n : Int} (h : (Lit.int .u8 n).wf = true) : 0 ≤ n ∧ n ≤ 255 := by
  have := h
  simp only [Lit.wf, Bool.and_eq_true, decide_eq_true_eq, show IntKind.u8.min = 0 from rfl, show IntKind.u8.max = 255 from rfl] at this
  omega
theorem b64 {n : Int} (h : (Lit.int .i64 n).wf = true) : -9223372036854775808 ≤ n ∧ n ≤ 9223372036854775807 := by
  have := h
  simp only [Lit.wf, Bool.and_eq_true, decide_eq_true_eq, show IntKind.i64.min = -9223372036854775808 from rfl, show IntKind.i64.max = 9223372036854775807 from rfl] at this
  omega
end Go.Proofs.YtlideagcmhlkeaaDoor

/- The witness of a law's second form, at a world that bears the listed variables. No function of the program. -/
namespace Go.Proofs.YtlideagcmhlkeaaDoor
open Go
theorem witness_row_shaped {H : Type} {enc : TypeId × Value → H} {C : Checked} {os : Os} {f : FuncId} {fn : Func} {s : OpenSpec} {conds : List PathCond} {apart : Bool} {laid : List (String × DataW Unit)} (modest : Bool) (w0 : World) (args : Array Value) (hos : w0.os = os)
    (hsh : (w0.forCall (fun _ _ => 0) ⟨#[], args, []⟩).Shaped C.prog)
    (hok : Input.okWideB C.prog (w0.forCall (fun _ _ => 0) ⟨#[], args, []⟩) f ⟨#[], args, []⟩ = true)
    (hrow : s.preRow enc C.prog fn conds apart laid (w0.forCall (fun _ _ => 0) ⟨#[], args, []⟩).memory args) :
    ∃ (w : World) (tape : Tape) (i : Input), w.os = os ∧ (w.forCall tape i).Shaped C.prog ∧ i.vars = [] ∧ Input.okWide C.prog (w.forCall tape i) .any w.heap.size f i ∧
      s.preRow enc C.prog fn conds apart laid (w.forCall tape i).memory i.args ∧ ({ modest := modest } : Assume).holds C.prog (lone (Frame.enter C.prog f i.args .normal) [] (w.forCall tape i)) :=
  ⟨w0, fun _ _ => 0, ⟨#[], args, []⟩, hos, hsh, (Input.okWide_of_okWideB (base := 0) hok).1, (Input.okWide_of_okWideB hok).2, hrow, by
    simp only [Assume.holds]
    exact ⟨by simp, by simp, fun _ => Modest.zero, by simp, by simp⟩⟩
end Go.Proofs.YtlideagcmhlkeaaDoor
