/- The walk of report.Compare (chapter 32). -/
import Derived.Test.YtggdfgdnpicepaaDoorRep32g0
import Derived.BigQuiet
import Derived.Deep.QuietTactic
namespace Go.Proofs.YtggdfgdnpicepaaDoor
open Go.RowKit
set_option linter.unusedVariables false
attribute [local go_sem ↓] Go.wp_at_zero Go.wp_at_succ

set_option maxRecDepth 100000 in
set_option maxHeartbeats 16000000 in
theorem compare_any (a b : SV) (w : World) (hA : SrcIn w a) (hB : SrcIn w b) (hfa : few a) (hzb : SrcSz b) :
    Calls Tryd.prog 17 #[.agg #[.slice a.rA a.rules.length a.rc, .slice a.zA a.zones.length a.zc, .slice a.kA a.links.length a.kc, .slice a.hA a.shifts.length a.hc], .agg #[.slice b.rA b.rules.length b.rc, .slice b.zA b.zones.length b.zc, .slice b.kA b.links.length b.kc, .slice b.hA b.shifts.length b.hc]] w (CmpRes a b w) := by
  have hB1 := Blk.new w 27 #[.slice a.rA a.rules.length a.rc, .slice a.zA a.zones.length a.zc, .slice a.kA a.links.length a.kc, .slice a.hA a.shifts.length a.hc]
  have hb1 := (Below.refl w.heap.size w).alloc (Nat.le_refl _) (.cells #[.slice a.rA a.rules.length a.rc, .slice a.zA a.zones.length a.zc, .slice a.kA a.links.length a.kc, .slice a.hA a.shifts.length a.hc] 27)
  have hB1' := hB1.alloc (.cells #[.slice b.rA b.rules.length b.rc, .slice b.zA b.zones.length b.zc, .slice b.kA b.links.length b.kc, .slice b.hA b.shifts.length b.hc] 27)
  have hB2 := Blk.newAt (w.alloc (.cells #[.slice a.rA a.rules.length a.rc, .slice a.zA a.zones.length a.zc, .slice a.kA a.links.length a.kc, .slice a.hA a.shifts.length a.hc] 27)) (w.heap.size + 1) (by simp) 27 #[.slice b.rA b.rules.length b.rc, .slice b.zA b.zones.length b.zc, .slice b.kA b.links.length b.kc, .slice b.hA b.shifts.length b.hc]
  have hb2 := hb1.alloc hb1.size (.cells #[.slice b.rA b.rules.length b.rc, .slice b.zA b.zones.length b.zc, .slice b.kA b.links.length b.kc, .slice b.hA b.shifts.length b.hc] 27)
  have hsz2 : ((w.alloc (.cells #[.slice a.rA a.rules.length a.rc, .slice a.zA a.zones.length a.zc, .slice a.kA a.links.length a.kc, .slice a.hA a.shifts.length a.hc] 27)).alloc (.cells #[.slice b.rA b.rules.length b.rc, .slice b.zA b.zones.length b.zc, .slice b.kA b.links.length b.kc, .slice b.hA b.shifts.length b.hc] 27)).heap.size = w.heap.size + 2 := by simp
  have HBa := Lib.hid (hB1'.alloc (.cells #[.slice none 0 0] 30)); have HBb := Lib.hid (hB2.alloc (.cells #[.slice none 0 0] 30))
  have hb3 := hb2.alloc hb2.size (.cells #[.slice none 0 0] 30)
  have hO : OutIs (((w.alloc (.cells #[.slice a.rA a.rules.length a.rc, .slice a.zA a.zones.length a.zc, .slice a.kA a.links.length a.kc, .slice a.hA a.shifts.length a.hc] 27)).alloc (.cells #[.slice b.rA b.rules.length b.rc, .slice b.zA b.zones.length b.zc, .slice b.kA b.links.length b.kc, .slice b.hA b.shifts.length b.hc] 27)).alloc (.cells #[.slice none 0 0] 30)) (w.heap.size + 2) (.slice none 0 0) [] := ⟨Blk.newAt ((w.alloc (.cells #[.slice a.rA a.rules.length a.rc, .slice a.zA a.zones.length a.zc, .slice a.kA a.links.length a.kc, .slice a.hA a.shifts.length a.hc] 27)).alloc (.cells #[.slice b.rA b.rules.length b.rc, .slice b.zA b.zones.length b.zc, .slice b.kA b.links.length b.kc, .slice b.hA b.shifts.length b.hc] 27)) (w.heap.size + 2) hsz2 _ _, rfl, .inl ⟨rfl, rfl⟩⟩
  have cR := Lib.hid (each_rules a.rA b.rA a.rc b.rc a.rules b.rules (w.heap.size + 2) (.slice none 0 0) [] w (((w.alloc (.cells #[.slice a.rA a.rules.length a.rc, .slice a.zA a.zones.length a.zc, .slice a.kA a.links.length a.kc, .slice a.hA a.shifts.length a.hc] 27)).alloc (.cells #[.slice b.rA b.rules.length b.rc, .slice b.zA b.zones.length b.zc, .slice b.kA b.links.length b.kc, .slice b.hA b.shifts.length b.hc] 27)).alloc (.cells #[.slice none 0 0] 30)) hA.rules hB.rules hb3 (by omega) hO (by have := hfa.1; omega) (by simp) hzb.1)
  have HA := Lib.hid hA; have HB := Lib.hid hB; have HF := Lib.hid hfa; have HZB := Lib.hid hzb; have HB3 := Lib.hid hb3
  have ka0 := (HBa.out.cell 0).trans rfl
  have kb0 := (HBb.out.cell 0).trans rfl
  clear hB1 hb1 hB1' hB2 hb2 hsz2 hb3 hO hA hB hfa hzb
  go_enter Tryd.func17, Tryd.ntmps17
  go_wp2_with fail
  refine cR.out.mono ?_
  rintro en w4 hres
  obtain ⟨RB, v1, rfl, hyes, hno, hT, hb4⟩ := each_bool hres
  have HLT : Hid (w.heap.size + 2 < w4.heap.size) := Lib.hid (by have := hT.size; simp at this; omega)
  have hb3 := HB3.out
  have hba4 := HBa.out.below hb4 (by omega)
  have hbb4 := HBb.out.below hb4 (by omega)
  clear HB3 HBa HBb hT ka0 kb0 cR hres
  obtain ⟨w3, hw3⟩ : ∃ x : World, x = (((w.alloc (.cells #[.slice a.rA a.rules.length a.rc, .slice a.zA a.zones.length a.zc, .slice a.kA a.links.length a.kc, .slice a.hA a.shifts.length a.hc] 27)).alloc (.cells #[.slice b.rA b.rules.length b.rc, .slice b.zA b.zones.length b.zc, .slice b.kA b.links.length b.kc, .slice b.hA b.shifts.length b.hc] 27)).alloc (.cells #[.slice none 0 0] 30)) := ⟨_, rfl⟩
  rw [← hw3] at hb3 hb4
  clear hw3
  have HB3 := Lib.hid hb3
  have HYES := Lib.hid hyes; have HNO := Lib.hid hno; have HB4 := Lib.hid hb4
  have HBa4 := Lib.hid hba4; have HBb4 := Lib.hid hbb4
  clear hyes hno hb3 hb4 hba4 hbb4
  go_upto_region 3 with (fail)
  go_cut [7] (fun s7 wx => ∃ (IS : Bool) (v : Value), s7 = .bool IS ∧ Below w4.heap.size w4 wx ∧ CmpPre a b w3 wx (w.heap.size + 2) v IS)
  case first =>
    have ka1 := (HBa4.out.cell 1).trans rfl
    have kb1 := (HBb4.out.cell 1).trans rfl
    have ka2 := (HBa4.out.cell 2).trans rfl
    have kb2 := (HBb4.out.cell 2).trans rfl
    have HBB := HB4
    cases RB with
    | false =>
      have HP : Hid (CmpPre a b w3 w4 (w.heap.size + 2) v1 false) := Lib.hid ⟨HLT.out, HBB.out, (fun q => nomatch q), fun _ q => HNO.out rfl q.1⟩
      clear HYES HNO HB4 HA HB HF HZB HB3
      go_wp2_with fail
      go_meet
      exact ⟨false, v1, rfl, Below.refl _ _, HP.out⟩
    | true =>
      obtain ⟨y1, y2⟩ := HYES.out rfl
      have Y1 := Lib.hid y1; have Y2 := Lib.hid y2
      clear y1 y2 HYES HNO
      by_cases hz : a.zones.length = b.zones.length
      rotate_left
      · have hzb2 : ((a.zones.length : Int) == (b.zones.length : Int)) = false := by rw [beq_eq_false_iff_ne]; omega
        have HP : Hid (CmpPre a b w3 w4 (w.heap.size + 2) v1 false) := Lib.hid ⟨HLT.out, HBB.out, (fun q => nomatch q), fun _ q => hz q.2.1⟩
        clear hz Y1 Y2 HB4 HA HB HF HZB HB3
        go_wp2_with fail
        go_meet
        exact ⟨false, v1, rfl, Below.refl _ _, HP.out⟩
      have hzb2 : ((a.zones.length : Int) == (b.zones.length : Int)) = true := by rw [beq_iff_eq]; omega
      have HZ := Lib.hid hz
      obtain ⟨RL, hRL⟩ : ∃ RL : Bool, (RL = true ↔ a.links = b.links) := by
        rcases Classical.em (a.links = b.links) with h | h
        · exact ⟨true, by simp [h]⟩
        · exact ⟨false, by simp [h]⟩
      have HRL := Lib.hid hRL
      have hbw := HB3.out.trans (HB4.out.mono (by omega))
      have cE := Lib.hid (equal_any a.kA b.kA a.kc b.kc a.links b.links RL w4 hRL (HA.out.links.below hbw) (HB.out.links.below hbw) (by have := HF.out.2.2.1; omega) HZB.out.2.2.1)
      clear hz hRL hbw HB4 HA HB HF HZB HB3
      go_wp2_with fail
      refine cE.out.mono ?_
      rintro en w5 ⟨rfl, hq⟩
      have hb5 := hq.below w4.heap.size
      have HP : Hid (CmpPre a b w3 w5 (w.heap.size + 2) v1 RL) := Lib.hid ⟨Nat.lt_of_lt_of_le HLT.out hb5.size, HBB.out.trans (hb5.mono (Nat.le_of_lt HLT.out)), fun q => ⟨Y2.out.below hb5, Y1.out, HZ.out, HRL.out.1 q⟩, fun q h => by have := HRL.out.2 h.2.2.2; rw [q] at this; cases this⟩
      have HB5 := Lib.hid hb5
      clear hq hb5 cE Y1 Y2 HZ HRL HBB HLT
      go_wp2_with fail
      go_meet
      exact ⟨RL, v1, rfl, HB5.out, HP.out⟩
  case rest =>
    obtain ⟨IS, v, rfl, hbc, hpre⟩ := hcut
    have HINV := Lib.hid hpre.start
    have hbc2 := hbc.alloc hbc.size (.cells #[.int .i64 0] 3)
    have HBa5 := Lib.hid (HBa4.out.below hbc2 (HBa4.out.lt)); have HBb5 := Lib.hid (HBb4.out.below hbc2 (HBb4.out.lt))
    clear HYES HNO HBa4 HBb4 hpre hbc hbc2
    go_wp2_with fail
    go_loopw [7, 8] (fun s7 s8 W => ∃ (k ib : Nat) (v : Value) (IS : Bool), k ≤ a.zones.length ∧ s7 = .bool IS ∧ s8 = .pointer (some ⟨ib, 0, none⟩) ∧ CmpInv a b w3 W (w.heap.size + 2) ib k v IS ∧ Blk W w.heap.size 27 #[.slice a.rA a.rules.length a.rc, .slice a.zA a.zones.length a.zc, .slice a.kA a.links.length a.kc, .slice a.hA a.shifts.length a.hc] ∧ Blk W (w.heap.size + 1) 27 #[.slice b.rA b.rules.length b.rc, .slice b.zA b.zones.length b.zc, .slice b.kA b.links.length b.kc, .slice b.hA b.shifts.length b.hc]) (fun _ s8 W => a.zones.length - mIdx s8 W)
    case atStart => exact ⟨0, _, v, IS, Nat.zero_le _, rfl, rfl, HINV.out, HBa5.out, HBb5.out⟩
    case round =>
      clear HINV HBa5 HBb5
      obtain ⟨k, ib, v, IS, hk, rfl, rfl, hinv, hBa, hBb⟩ := hrel
      have HI := Lib.hid hinv; have HBa := Lib.hid hBa; have HBb := Lib.hid hBb
      clear hinv hBa hBb
      have hi0 := (HI.out.box.cell 0).trans rfl
      have ka1 := (HBa.out.cell 1).trans rfl
      cases IS with
      | false =>
        have HR : Hid (CmpRes a b w (.returned (.tuple #[.slice none 0 0, .int .i64 2])) wr) := Lib.hid (.inr ⟨HI.out.no rfl, rfl, HB3.out.trans (HI.out.bel.mono (by omega))⟩)
        clear HI HBa HBb HA HB HF HZB HB3
        go_wp2_with fail
        go_ret2
        exact HR.out
      | true =>
        obtain ⟨y0, y1, y2, y3, y4, y5⟩ := HI.out.yes rfl
        by_cases hlt : k < a.zones.length
        rotate_left
        · obtain rfl : k = a.zones.length := by omega
          have hki : ¬ (a.zones.length : Int) < (a.zones.length : Int) := by omega
          have c0 := (y1.1.cell 0).trans rfl
          obtain ⟨A0, c0', hv0, hCh⟩ := ch_of_own y1
          have HR : Hid (CmpRes a b w (.returned (.tuple #[v, .int .i64 0])) wr) := Lib.hid (.inl ⟨okS_mk y2 y3 y4 y5, ⟨A0, c0', by rw [hv0]; rfl, hCh⟩, HB3.out.trans (HI.out.bel.mono (by omega))⟩)
          clear HI HBa HBb HA HB HF HZB HB3 HB4 y0 y1 y2 y3 y4 y5 hCh hv0
          go_wp2_with fail
          go_ret2
          exact HR.out
        obtain ⟨z, hz⟩ : ∃ z, a.zones[k]? = some z := ⟨_, List.getElem?_eq_getElem hlt⟩
        obtain ⟨y, hy⟩ : ∃ y, b.zones[k]? = some y := ⟨_, List.getElem?_eq_getElem (by omega)⟩
        have hbw := HB3.out.trans (HI.out.bel.mono (show w.heap.size ≤ w.heap.size + 2 by omega))
        obtain ⟨gz, oz, hzA, hgz0, haz0⟩ := HA.out.zones k z hz
        obtain ⟨gz', oz', hzA', hgz, haz⟩ := (HA.out.zones.below hbw) k z hz
        obtain ⟨rfl, rfl⟩ : gz' = gz ∧ oz' = oz := by rw [hzA] at hzA'; injection hzA' with q; injection q with q1 q2; exact ⟨q1.symm, q2.symm⟩
        obtain ⟨gy, oy, hyA, hgy0, hay0⟩ := HB.out.zones k y hy
        obtain ⟨gy', oy', hyA', hgy, hay⟩ := (HB.out.zones.below hbw) k y hy
        obtain ⟨rfl, rfl⟩ : gy' = gy ∧ oy' = oy := by rw [hyA] at hyA'; injection hyA' with q; injection q with q1 q2; exact ⟨q1.symm, q2.symm⟩
        have kb1 := (HBb.out.cell 1).trans rfl
        rw [hzA] at ka1
        rw [hyA] at kb1
        have nz0 : wr.cell? ⟨gz', oz' + k * 2, none⟩ = some (.string z.name) := haz 0 _ rfl
        have nz1 : wr.cell? ⟨gz', oz' + k * 2 + 1, none⟩ = some (.slice z.A z.eras.length z.c) := haz 1 _ rfl
        have ny0 : wr.cell? ⟨gy', oy' + k * 2, none⟩ = some (.string y.name) := hay 0 _ rfl
        have ny1 : wr.cell? ⟨gy', oy' + k * 2 + 1, none⟩ = some (.slice y.A y.eras.length y.c) := hay 1 _ rfl
        have hki : (k : Int) < (a.zones.length : Int) := by omega
        have hki2 : (k : Int) < (b.zones.length : Int) := by omega
        have hk0 : (0 : Int) ≤ (k : Int) := by omega
        have hk10 : (a.zones.length : Int) ≤ 10 := by have := HF.out.2.1; omega
        have hgzw : gz' < wr.heap.size := hgz; have hgyw : gy' < wr.heap.size := hgy
        have HZK := Lib.hid hz; have HYK := Lib.hid hy; have HBW := Lib.hid hbw; have Y0 := Lib.hid y0; have Y1 := Lib.hid y1; have Y2 := Lib.hid y2; have Y3 := Lib.hid y3; have Y4 := Lib.hid y4; have Y5 := Lib.hid y5; have HZA : Hid (gz' < w.heap.size + 2) := Lib.hid (by omega); have HYA : Hid (gy' < w.heap.size + 2) := Lib.hid (by omega)
        clear hz hy hbw haz hay haz0 hay0 hgz0 hgy0 y0 y1 y2 y3 y4 y5 hzA hyA hzA' hyA'
        by_cases hnm : z.name = y.name
        rotate_left
        · have hnb : (z.name.toList == y.name.toList) = false := by rw [beq_eq_false_iff_ne]; exact fun q => hnm ((toList_eq_iff _ _).1 q)
          have HNO2 : Hid (¬ P32.okS a b) := Lib.hid (fun q => hnm (q.2.2.1 k z y hlt HZK.out HYK.out).1)
          clear hnm Y0 Y1 Y2 Y3 Y4 Y5 HZK HYK HZA HYA HB3 HF HZB HA HB HBW
          go_wp2_with fail
          go_quiet (fail)
          have hi1 : (wr.drewN nq).cell? ⟨ib, 0, none⟩ = some (.int .i64 k) := hi0
          have hw1 := below_drewN (Below.refl wr.heap.size wr) nq
          have HBa2 := Lib.hid (HBa.out.drewN nq); have HBb2 := Lib.hid (HBb.out.drewN nq)
          clear ka1 kb1 nz0 nz1 ny0 ny1 hi0 hgz hgy hgzw hgyw HBa HBb
          generalize wr.drewN nq = wq at hi1 hw1 HBa2 HBb2 ⊢
          have HIN := Lib.hid (inv_no HI.out hw1 HNO2.out)
          have HMI := Lib.hid (mIdx_eq HI.out.box)
          clear hw1 HNO2 HI
          go_wp2_with fail
          go_roundw
          case rel => exact ⟨k + 1, _, v, false, by omega, rfl, rfl, HIN.out, HBa2.out.alloc _, HBb2.out.alloc _⟩
          case measure => rw [HMI.out, mIdx_next]; omega
        have hnb : (z.name.toList == y.name.toList) = true := by rw [hnm]; exact beq_self_eq_true _
        have HNM := Lib.hid hnm
        have CE : Hid (Calls Tryd.prog 45 #[.slice z.A z.eras.length z.c, .slice y.A y.eras.length y.c, .func (.func 46) #[] #[], .func (.func 47) #[] #[.pointer (some ⟨ib, 0, none⟩)], .pointer (some ⟨w.heap.size + 2, 0, none⟩)] wr.drew (EachRes P32.sameE P32.diffE (P32.mkE k) z.eras y.eras (w.heap.size + 2) wr.drew v (P32.ch P32.diffR P32.mkR a.rules b.rules a.rules.length ++ P32.chZ a.zones b.zones k))) := Lib.hid (each_eras z.A y.A z.c y.c z.eras y.eras (w.heap.size + 2) v _ w wr.drew k ib hi0 HI.out.box.lt (Nat.ne_of_gt HI.out.far) Y0.out (HA.out.eras z (List.mem_of_getElem? HZK.out)) (HB.out.eras y (List.mem_of_getElem? HYK.out)) HBW.out.drew (by omega) Y1.out (by have := HF.out.2.2.2.2 z (List.mem_of_getElem? HZK.out); omega) (out_le HF.out k (by omega)) (HZB.out.2.2.2.2 y (List.mem_of_getElem? HYK.out)))
        have HS : Hid (wr.cell? ⟨w.heap.size, 1, none⟩ = some (.slice (some ⟨gz', oz', none⟩) a.zones.length a.zc) ∧ wr.cell? ⟨w.heap.size + 1, 1, none⟩ = some (.slice (some ⟨gy', oy', none⟩) b.zones.length b.zc) ∧ wr.cell? ⟨ib, 0, none⟩ = some (.int .i64 k) ∧ wr.cell? ⟨gz', oz' + k * 2, none⟩ = some (.string z.name) ∧ wr.cell? ⟨gz', oz' + k * 2 + 1, none⟩ = some (.slice z.A z.eras.length z.c) ∧ wr.cell? ⟨gy', oy' + k * 2, none⟩ = some (.string y.name) ∧ wr.cell? ⟨gy', oy' + k * 2 + 1, none⟩ = some (.slice y.A y.eras.length y.c)) := Lib.hid ⟨ka1, kb1, hi0, nz0, nz1, ny0, ny1⟩
        have HSK : Hid (∀ W v2, Turned (w.heap.size + 2) wr v W v2 → Below (w.heap.size + 2) wr W → (W.cell? ⟨w.heap.size, 1, none⟩ = some (.slice (some ⟨gz', oz', none⟩) a.zones.length a.zc) ∧ W.cell? ⟨w.heap.size + 1, 1, none⟩ = some (.slice (some ⟨gy', oy', none⟩) b.zones.length b.zc) ∧ W.cell? ⟨ib, 0, none⟩ = some (.int .i64 k) ∧ W.cell? ⟨gz', oz' + k * 2, none⟩ = some (.string z.name) ∧ W.cell? ⟨gz', oz' + k * 2 + 1, none⟩ = some (.slice z.A z.eras.length z.c) ∧ W.cell? ⟨gy', oy' + k * 2, none⟩ = some (.string y.name) ∧ W.cell? ⟨gy', oy' + k * 2 + 1, none⟩ = some (.slice y.A y.eras.length y.c))) := Lib.hid (fun W v2 h1 h2 => ⟨(h2.cell (p := ⟨w.heap.size, 1, none⟩) (by show w.heap.size < _; omega)).trans ka1, (h2.cell (p := ⟨w.heap.size + 1, 1, none⟩) (by show w.heap.size + 1 < _; omega)).trans kb1, (turned_cell hi0 HI.out.box.lt (Nat.ne_of_gt HI.out.far) Y0.out W v2 h1).1, (h2.cell (p := ⟨gz', _, none⟩) (HZA.out)).trans nz0, (h2.cell (p := ⟨gz', _, none⟩) (HZA.out)).trans nz1, (h2.cell (p := ⟨gy', _, none⟩) (HYA.out)).trans ny0, (h2.cell (p := ⟨gy', _, none⟩) (HYA.out)).trans ny1⟩)
        go_wp2_with fail
        go_region_held3 (fun W => W.cell? ⟨w.heap.size, 1, none⟩ = some (.slice (some ⟨gz', oz', none⟩) a.zones.length a.zc) ∧ W.cell? ⟨w.heap.size + 1, 1, none⟩ = some (.slice (some ⟨gy', oy', none⟩) b.zones.length b.zc) ∧ W.cell? ⟨ib, 0, none⟩ = some (.int .i64 k) ∧ W.cell? ⟨gz', oz' + k * 2, none⟩ = some (.string z.name) ∧ W.cell? ⟨gz', oz' + k * 2 + 1, none⟩ = some (.slice z.A z.eras.length z.c) ∧ W.cell? ⟨gy', oy' + k * 2, none⟩ = some (.string y.name) ∧ W.cell? ⟨gy', oy' + k * 2 + 1, none⟩ = some (.slice y.A y.eras.length y.c)) (first | exact HSK.out _ _ hT5 hb5 | exact HS.out | assumption) ((go_at_call 45; refine CE.out.mono ?_; rintro en w5 hres; obtain ⟨RB, v2, rfl, hyes, hno, hT5', hb5'⟩ := each_bool hres; have hT5 : Turned (w.heap.size + 2) wr v w5 v2 := ⟨hT5'.size, hT5'.kept, hT5'.own⟩; have hb5 : Below (w.heap.size + 2) wr w5 := (Below.refl (w.heap.size + 2) wr).drew.trans hb5'; clear hres hT5' hb5'))
        rename_i hKeep
        clear hKeep
        have hi5 := (HSK.out _ _ hT5 hb5).2.2.1
        have HIN := Lib.hid (inv_yes HI.out hT5 hb5 hyes hno HZK.out HYK.out hlt HNM.out)
        have HBa5 := Lib.hid (HBa.out.below hb5 (by omega)); have HBb5 := Lib.hid (HBb.out.below hb5 (by omega))
        have HMI := Lib.hid (mIdx_eq HI.out.box)
        clear hT5 hb5 hyes hno HSK HS HI HBa HBb Y0 Y1 Y2 Y3 Y4 Y5 HZK HYK HNM CE HBW HZA HYA ka1 kb1 nz0 nz1 ny0 ny1 hi0 hgz hgy hgzw hgyw
        go_wp2_with fail
        go_roundw
        case rel => exact ⟨k + 1, _, v2, RB, by omega, rfl, rfl, HIN.out, HBa5.out.alloc _, HBb5.out.alloc _⟩
        case measure => rw [HMI.out, mIdx_next]; omega
end Go.Proofs.YtggdfgdnpicepaaDoor
