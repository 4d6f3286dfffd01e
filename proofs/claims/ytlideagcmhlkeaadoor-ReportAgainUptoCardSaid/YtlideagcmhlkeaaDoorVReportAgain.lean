/- ReportAgain: for every input whose arguments hold together at most 1048576 values and letters the law returns true, and each argument reads as before. The listed package-level variables read as listed; the card ties them to the program's text. -/
import Derived.Test.YtlideagcmhlkeaaDoorU3
import Derived.BigRegion
import Derived.IntWalk
import Derived.Deep.DeepCutAuto
import Derived.Test.YtlideagcmhlkeaaDoorCards
import Derived.Test.YtlideagcmhlkeaaDoorTie
import Derived.Carry
import Derived.WalkKit
import Derived.ProofKit
import Derived.OpenShut
import Derived.ShutString
import Derived.LaidMore
import Derived.ChangeOld
import Derived.Below
import Derived.Stop.Joined
import Derived.Lib.SmallJoins
import Derived.SevenTiedAt
import Derived.Deep.DeepHandedRow

/- The walk of the law ReportAgain (chapter 32). -/
namespace Go.Proofs.YtlideagcmhlkeaaDoor
open Go.RowKit Go.Lib
set_option linter.unusedVariables false
set_option linter.unusedSimpArgs false
def numB (n : Int) : List Value := [.int .u8 n]
theorem few_bool32 (s : SV) : ∃ R : Bool, (R = true ↔ few s) := by
  rcases Classical.em (few s) with h | h
  · exact ⟨true, by simp [h]⟩
  · exact ⟨false, by simp [h]⟩
theorem rem_nat (n : Int) (m : Nat) (hm : 0 < m) (h : 0 ≤ n) : ∃ q : Nat, n.tmod (m : Int) = (q : Int) ∧ q < m := by
  have h1 := Int.emod_nonneg n (show (m : Int) ≠ 0 by omega)
  have h2 := Int.emod_lt_of_pos n (show (0 : Int) < (m : Int) by omega)
  exact ⟨(n % (m : Int)).toNat, by rw [Int.tmod_eq_emod_of_nonneg h]; omega, by omega⟩
theorem wrap_q (q : Nat) (h : q < 8) : wrap64 (q : Int) = (q : Int) ∧ wrap64 ((q : Int) * 4) = (q : Int) * 4 := by
  have h1 : (q : Int) < 8 := by omega
  constructor <;> (unfold wrap64; omega)
theorem yes_call {a b : SV} {W : World} {M : List P32.CV} (h : P32.okS a b) (hM : P32.chS a b = M) (hA : SrcIn W a) (hB : SrcIn W b) (hfa : fewW a) (hzb : SrcSz b) :
    Calls Tryd.prog 42 #[.agg #[.slice a.rA a.rules.length a.rc, .slice a.zA a.zones.length a.zc, .slice a.kA a.links.length a.kc, .slice a.hA a.shifts.length a.hc], .agg #[.slice b.rA b.rules.length b.rc, .slice b.zA b.zones.length b.zc, .slice b.kA b.links.length b.kc, .slice b.hA b.shifts.length b.hc]] W fun e W' => ∃ (A : Option Addr) (c : Nat), e = .returned (.tuple #[.slice A M.length c, .int .i64 0]) ∧ ChIn W' A M ∧ Below W.heap.size W W' := by
  subst hM
  refine (compare_anyW a b W hA hB hfa hzb).mono ?_
  rintro e W' (⟨_, ⟨A, c, rfl, hC⟩, hb⟩ | ⟨hn, _⟩)
  · exact ⟨A, c, rfl, hC, hb⟩
  · exact absurd h hn
theorem few_like {s u : SV} (hf : few s) (hr : u.rules.length = s.rules.length) (hz : u.zones.length = s.zones.length) (hl : ∀ (j : Nat) (z y : ZV), s.zones[j]? = some z → u.zones[j]? = some y → z.name = y.name ∧ z.eras.length = y.eras.length) (hk : u.links = s.links) : fewW u := by
  refine ⟨by rw [hr]; have := hf.1; omega, by rw [hz]; have := hf.2.1; omega, by rw [hk]; have := hf.2.2.1; omega, trivial, fun y hy => ?_⟩
  obtain ⟨i, hi⟩ := List.getElem?_of_mem hy
  have hlt := (List.getElem?_eq_some_iff.1 hi).1
  obtain ⟨z, hz2⟩ : ∃ z, s.zones[i]? = some z := ⟨_, List.getElem?_eq_getElem (by omega)⟩
  have q := (hl i z y hz2 hi).2
  have := hf.2.2.2.2 z (List.mem_of_getElem? hz2)
  omega
theorem fewW.sz {u : SV} (h : fewW u) (hs : u.shifts.length ≤ 1000) : SrcSz u := by
  have h1 := h.1; have h2 := h.2.1; have h3 := h.2.2.1
  unfold SrcSz maxLen
  exact ⟨by omega, by omega, by omega, by omega, fun z hz => by have := h.2.2.2.2 z hz; omega⟩
theorem same_call32 {A B : Option Addr} {ca cb : Nat} {M : List P32.CV} {W : World} (hA : ChIn W A M) (hB : ChIn W B M) (hl : M.length ≤ 1000) :
    Calls Tryd.prog 43 #[.slice A M.length ca, .slice B M.length cb] W fun e w' => e = .returned (.bool true) ∧ Q W w' := same_any A B ca cb M M true W (by simp) hA hB hl (by unfold maxLen; omega)
theorem infoStr32 : (Tryd.prog.info? 9).map (fun i => (i.zero, i.size, i.bytes)) = some (some (.string ⟨#[]⟩), 1, 16) := by kernel_rfl
set_option maxRecDepth 100000 in
set_option maxHeartbeats 16000000 in
theorem walkReportAgain (s : SV) (AR : Option Addr) (cR : Nat) (R : List Int) (AE : Option Addr) (cE : Nat) (E : List Int) (d : Int) (w : World) (hS : SrcIn w s) (hfm : ∀ z ∈ s.zones, ∀ e ∈ z.eras, e.fmt.size ≤ 1048576) (hlR : R.length ≤ maxLen) (hR : CellsIn 1 numB w AR R) (hNR : ∀ n ∈ R, 0 ≤ n ∧ n ≤ 255) (hlE : E.length ≤ maxLen) (hE : CellsIn 1 numB w AE E) (hNE : ∀ n ∈ E, 0 ≤ n ∧ n ≤ 255) (hd : -9223372036854775808 ≤ d ∧ d ≤ 9223372036854775807) (hv : Vars w) :
    Calls Tryd.prog 11 #[.agg #[.slice s.rA s.rules.length s.rc, .slice s.zA s.zones.length s.zc, .slice s.kA s.links.length s.kc, .slice s.hA s.shifts.length s.hc], .slice AR R.length cR, .slice AE E.length cE, .int .i64 d] w fun e w' => e = .returned (.bool true) ∧ Below w.heap.size w w' := by
  unfold maxLen at hlR hlE
  have hlRi : (R.length : Int) ≤ 9223372036854775807 := by omega
  have hlEi : (E.length : Int) ≤ 9223372036854775807 := by omega
  have hX := Blk.new w 32 #[.slice s.rA s.rules.length s.rc, .slice s.zA s.zones.length s.zc, .slice s.kA s.links.length s.kc, .slice s.hA s.shifts.length s.hc]
  have hb0 := (Below.refl w.heap.size w).alloc (Nat.le_refl _) (.cells #[.slice s.rA s.rules.length s.rc, .slice s.zA s.zones.length s.zc, .slice s.kA s.links.length s.kc, .slice s.hA s.shifts.length s.hc] 32)
  have HS := Lib.hid (hS.below hb0); have HB := Lib.hid hb0; have HX := Lib.hid hX; have HR := Lib.hid hR; have HE := Lib.hid hE; have HNR := Lib.hid hNR; have HNE := Lib.hid hNE; have HFM := Lib.hid hfm; have HV := Lib.hid hv; have HDB := Lib.hid hd
  have c0 := (hX.cell 0).trans rfl; have c1 := (hX.cell 1).trans rfl; have c2 := (hX.cell 2).trans rfl; have c3 := (hX.cell 3).trans rfl
  clear hX hb0 hS hR hE hNR hNE hfm hv hlR hlE
  obtain ⟨RB, hRB⟩ := few_bool32 s
  go_enter Tryd.func11, Tryd.ntmps11
  go_wp2_with fail
  refine (few_any s RB _ hRB HS.out).mono ?_
  rintro e W1 ⟨rfl, hc⟩
  have HB1 := Lib.hid (HB.out.trans (hc.mono HB.out.size))
  have HS1 := Lib.hid (HS.out.below hc)
  have HX1 := Lib.hid (HX.out.below hc HX.out.lt)
  clear hc HS HB HX c0 c1 c2 c3
  cases RB with
  | false =>
    clear hRB
    go_wp2_with fail
    refine (works32_any _ (HV.out.below HB1.out)).mono ?_
    rintro e W9 ⟨rfl, hc⟩
    have HBE := Lib.hid (HB1.out.trans (hc.mono HB1.out.size))
    clear hc
    go_wp2_with fail
    go_ret
    exact ⟨rfl, HBE.out⟩
  | true =>
  have HF := Lib.hid (hRB.1 rfl)
  clear hRB
  by_cases hd0 : d = 0
  · have hde : (d == 0) = true := by rw [hd0]; rfl
    clear hd0
    go_wp2_with fail
    refine (works32_any _ (HV.out.below HB1.out)).mono ?_
    rintro e W9 ⟨rfl, hc⟩
    have HBE := Lib.hid (HB1.out.trans (hc.mono HB1.out.size))
    clear hc
    go_wp2_with fail
    go_ret
    exact ⟨rfl, HBE.out⟩
  have hde : (d == 0) = false := by rw [beq_eq_false_iff_ne]; exact hd0
  have HD0 := Lib.hid hd0
  clear hd0
  have c0 := (HX1.out.cell 0).trans rfl; have c1 := (HX1.out.cell 1).trans rfl; have c2 := (HX1.out.cell 2).trans rfl; have c3 := (HX1.out.cell 3).trans rfl
  go_wp2_with fail
  refine (copy28 s W1 HS1.out HF.out).mono ?_
  rintro e W2 ⟨t, rfl, hcp, hc⟩
  have hal := (Below.refl W2.heap.size W2).alloc (Nat.le_refl _) (.cells #[.slice t.rA t.rules.length t.rc, .slice t.zA t.zones.length t.zc, .slice t.kA t.links.length t.kc, .slice t.hA t.shifts.length t.hc] 32)
  have HRA := Lib.hid (show Ra W1 (W2.alloc (.cells #[.slice t.rA t.rules.length t.rc, .slice t.zA t.zones.length t.zc, .slice t.kA t.links.length t.kc, .slice t.hA t.shifts.length t.hc] 32)) W2.heap.size (W2.heap.size + 1) t none 0 [] from ⟨Blk.new W2 32 #[.slice t.rA t.rules.length t.rc, .slice t.zA t.zones.length t.zc, .slice t.kA t.links.length t.kc, .slice t.hA t.shifts.length t.hc], hcp.self32.below32 hal, World.ownsRow_nil .., hc.trans (hal.mono hc.size), hc.size, Nat.lt_succ_self _⟩)
  have HRR := Lib.hid (show P32.RelR s t 0 [] from ⟨by rw [hcp.rules.1], P32.okTo_zero _ _ _, fun i _ => by rw [hcp.rules.1], (P32.ch_zero _ _ _ _).symm⟩)
  have HZ0 := Lib.hid (show t.zones.length = s.zones.length ∧ ∀ (j : Nat) (z y : ZV), s.zones[j]? = some z → t.zones[j]? = some y → z.name = y.name ∧ z.eras = y.eras from ⟨hcp.zones.2.same.1, fun j z y hz hy => by have q := hcp.zones.2.same.2 j z y hz hy; exact ⟨q.1.symm, q.2.symm⟩⟩)
  have HLK := Lib.hid (show t.links = s.links ∧ t.shifts = s.shifts from ⟨hcp.links.1, hcp.shifts.1⟩)
  have hn40 : (t.rules.length : Int) ≤ 40 := by have := HF.out.1; rw [← hcp.rules.1] at this; omega
  have HNR0 := Lib.hid (show t.rules.length = s.rules.length by rw [hcp.rules.1])
  have p0 := (HRA.out.box.cell 0).trans rfl
  clear hcp hc hal c0 c1 c2 c3
  go_wp2_with fail
  clear p0
  generalize (W2.alloc (.cells #[.slice t.rA t.rules.length t.rc, .slice t.zA t.zones.length t.zc, .slice t.kA t.links.length t.kc, .slice t.hA t.shifts.length t.hc] 32)) = V3 at HRA ⊢
  generalize W2.heap.size = G9 at HRA ⊢
  go_loopw [10, 37] (fun s10 i W => ∃ (k : Nat) (RR : List RV) (wA : Option Addr) (cw : Nat) (L : List P32.CV), k ≤ t.rules.length ∧ i = .int .i64 k ∧ s10 = .slice wA L.length cw ∧ Ra W1 W G9 (G9 + 1) { t with rules := RR } wA cw L ∧ P32.RelR s { t with rules := RR } k L) (fun _ i _ => t.rules.length - (intOf i).toNat)
  case atStart => exact ⟨0, t.rules, none, 0, [], Nat.zero_le _, rfl, rfl, HRA.out, HRR.out⟩
  case round =>
    clear HRA HRR
    obtain ⟨k, RR, wA, cw, L, hk, rfl, rfl, hra, hrr⟩ := hrel
    have HRA := Lib.hid hra; have HRR := Lib.hid hrr
    by_cases hlt : k < t.rules.length
    · have hki : (k : Int) < (t.rules.length : Int) := by omega
      have hk0 : (0 : Int) ≤ (k : Int) := by omega
      obtain ⟨x, hx⟩ : ∃ x, s.rules[k]? = some x := ⟨_, List.getElem?_eq_getElem (by rw [← HNR0.out]; exact hlt)⟩
      have hxr : RR[k]? = some x := (hrr.rest k (Nat.le_refl _)).trans hx
      obtain ⟨B, hA, hcl, hfr⟩ := hra.ruleAt hxr
      have hkr : (k : Int) < (RR.length : Int) := by have := (List.getElem?_eq_some_iff.1 hxr).1; omega
      have p0 := (hra.box.cell 0).trans rfl
      rw [hA] at p0
      have x9 : wr.cell? ⟨B, k * 11 + 9, none⟩ = some (.int .i64 x.save) := hcl 9 _ rfl
      have x7 : wr.cell? ⟨B, k * 11 + 7, none⟩ = some (.int .i64 x.asec) := hcl 7 _ rfl
      have y9 := hfr (k * 11 + 9); have y7 := hfr (k * 11 + 7)
      have HX := Lib.hid hx; have HXR := Lib.hid hxr; have HA := Lib.hid (show t.rA = some ⟨B, 0, none⟩ from hA); have HLT := Lib.hid hlt; have HFR := Lib.hid hfr
      have HLL := Lib.hid (show L.length ≤ 40 by have := hrr.lenL; omega)
      clear hra hrr hx hxr hA hcl hfr hlt hk
      go_upto_if 43 with fail
      go_cut [12] (fun s12 wx => ∃ q : Int, (q = 0 ∨ q = 1 ∨ q = 2 ∨ q = 3) ∧ s12 = .int .i64 q ∧ wx = wr)
      case first =>
        by_cases hkR : k < R.length
        · have hkRi : (k : Int) < (R.length : Int) := by omega
          obtain ⟨n, hn⟩ : ∃ n, R[k]? = some n := ⟨_, List.getElem?_eq_getElem hkR⟩
          obtain ⟨gr, og, rfl, hgr, hcr⟩ := HR.out.below (HB1.out.trans (HRA.out.bel.mono HB1.out.size)) k n hn
          have n0 : wr.cell? ⟨gr, og + k, none⟩ = some (.int .u8 n) := by have q := hcr 0 _ rfl; simpa using q
          obtain ⟨q, hq, hq4⟩ := rem_nat n 4 (by decide) (HNR.out n (List.mem_of_getElem? hn)).1
          have hqi : n.tmod 4 = (q : Int) := hq
          have hqw : wrap64 (q : Int) = (q : Int) := by unfold wrap64; omega
          have HQ := Lib.hid hq4
          clear hn hgr hcr hq hq4 hkR
          go_wp2_with fail
          go_meet
          exact ⟨(q : Int), by have := HQ.out; omega, rfl, rfl⟩
        · have hkRi : ¬ (k : Int) < (R.length : Int) := by omega
          clear hkR
          go_wp2_with fail
          go_meet
          exact ⟨0, .inl rfl, rfl, rfl⟩
      case rest =>
        obtain ⟨q, hq, rfl, HWC0⟩ := hcut
        subst HWC0
        rcases hq with rfl | rfl | rfl | rfl
        · have e0 : Go.bits .and .i64 0 1 = 0 := by decide
          have e1 : Go.bits .and .i64 0 2 = 0 := by decide
          have HRR2 := Lib.hid (HRR.out.skip HX.out)
          clear HRR
          go_wp2_with fail
          go_roundw
          case rel => exact ⟨k + 1, RR, wA, cw, L, by have := HLT.out; omega, by go_num, rfl, HRA.out, HRR2.out⟩
          case measure => have := HLT.out; simp [intOf]; omega
        · have e0 : Go.bits .and .i64 1 1 = 1 := by decide
          have e1 : Go.bits .and .i64 1 2 = 0 := by decide
          have HY := Lib.hid (show P32.diffR x ({ x with save := wrap64 (x.save + d) } : RV) = 1 ∧ P32.sameR x ({ x with save := wrap64 (x.save + d) } : RV) = true from by have h := P32.newR_diff HD0.out HDB.out (show (0 : Int) ≤ 1 ∧ (1 : Int) ≤ 3 by decide) x; simpa [P32.newR] using h)
          have HRR2 := Lib.hid (HRR.out.more HX.out HY.out (by decide))
          have hlk : k < RR.length := (List.getElem?_eq_some_iff.1 HXR.out).1
          have HA0 := Lib.hid (show Ra W1 wc G9 (G9 + 1) { t with rules := RR.set k x } wA cw L from by rw [P32.set_get HXR.out]; exact HRA.out)
          have HA1 := Lib.hid (HA0.out.ruleMore (t := { t with rules := RR }) HA.out hlk 9 { x with save := wrap64 (x.save + d) } (.int .i64 (wrap64 (x.save + d))) (by decide) rfl)
          have hal := (Below.refl (wc.setCell ⟨B, k * 11 + 9, none⟩ (.int .i64 (wrap64 (x.save + d)))).heap.size (wc.setCell ⟨B, k * 11 + 9, none⟩ (.int .i64 (wrap64 (x.save + d))))).alloc (Nat.le_refl _) (.cells #[.int .i64 1, .int .i64 k, .int .i64 0, .int .i64 1] 87)
          have HA3 := Lib.hid (HA1.out.below hal)
          have HNB := Lib.hid (Blk.newAt (wc.setCell ⟨B, k * 11 + 9, none⟩ (.int .i64 (wrap64 (x.save + d)))) wc.heap.size (by simp) 87 #[.int .i64 1, .int .i64 k, .int .i64 0, .int .i64 1])
          have HSZ := Lib.hid (show G9 + 1 ≤ ((wc.setCell ⟨B, k * 11 + 9, none⟩ (.int .i64 (wrap64 (x.save + d)))).alloc (.cells #[.int .i64 1, .int .i64 k, .int .i64 0, .int .i64 1] 87)).heap.size from by have := HA3.out.box.lt; omega)
          obtain ⟨i0, hi, hz0, hz1, hz2⟩ := info_parts infoChange
          clear hal hlk HRA HRR
          go_wp2_with (at_builtin; refine wpList_append_own _ rfl _ _ 81 rfl (G9 + 1) 87 i0 _ 4 32 Tryd.underlying81 hi hz0 hz1 hz2 rfl (by decide) _ _ _ rfl HA3.out.want ⟨wc.heap.size, 0, none⟩ 1 1 [.int .i64 1, .int .i64 k, .int .i64 0, .int .i64 1] rfl rfl (blk_cells HNB.out) (by simp [Value.oneCell']) (by have := HLL.out; simp only [maxLen]; omega) (by have := HLL.out; omega) HSZ.out ?_)
          intro v1 W6 hown hgr hne
          obtain ⟨wA', cw', rfl⟩ := row_is32 hown
          have HA4 := Lib.hid (HA3.out.grown (L' := L ++ [P32.mkR k 1]) hgr (show RowOf W6 (G9 + 1) 87 4 P32.CV.cells wA' cw' (L ++ [P32.mkR k 1]) from by unfold RowOf; rw [List.length_append, List.flatMap_append]; exact hown))
          clear hown hgr hne HA3 HNB HSZ hi hz0 hz1 hz2
          go_wp2_with fail
          go_roundw
          case rel => exact ⟨k + 1, _, wA', cw', _, by have := HLT.out; omega, by go_num, by rw [List.length_append]; rfl, HA4.out, HRR2.out⟩
          case measure => have := HLT.out; simp [intOf]; omega
        · have e0 : Go.bits .and .i64 2 1 = 0 := by decide
          have e1 : Go.bits .and .i64 2 2 = 2 := by decide
          have HY := Lib.hid (show P32.diffR x ({ x with asec := wrap64 (x.asec + d) } : RV) = 2 ∧ P32.sameR x ({ x with asec := wrap64 (x.asec + d) } : RV) = true from by have h := P32.newR_diff HD0.out HDB.out (show (0 : Int) ≤ 2 ∧ (2 : Int) ≤ 3 by decide) x; simpa [P32.newR] using h)
          have HRR2 := Lib.hid (HRR.out.more HX.out HY.out (by decide))
          have hlk : k < RR.length := (List.getElem?_eq_some_iff.1 HXR.out).1
          have HA0 := Lib.hid (show Ra W1 wc G9 (G9 + 1) { t with rules := RR.set k x } wA cw L from by rw [P32.set_get HXR.out]; exact HRA.out)
          have HA2 := Lib.hid (HA0.out.ruleMore (t := { t with rules := RR }) HA.out hlk 7 { x with asec := wrap64 (x.asec + d) } (.int .i64 (wrap64 (x.asec + d))) (by decide) rfl)
          have hal := (Below.refl (wc.setCell ⟨B, k * 11 + 7, none⟩ (.int .i64 (wrap64 (x.asec + d)))).heap.size (wc.setCell ⟨B, k * 11 + 7, none⟩ (.int .i64 (wrap64 (x.asec + d))))).alloc (Nat.le_refl _) (.cells #[.int .i64 1, .int .i64 k, .int .i64 0, .int .i64 2] 87)
          have HA3 := Lib.hid (HA2.out.below hal)
          have HNB := Lib.hid (Blk.newAt (wc.setCell ⟨B, k * 11 + 7, none⟩ (.int .i64 (wrap64 (x.asec + d)))) wc.heap.size (by simp) 87 #[.int .i64 1, .int .i64 k, .int .i64 0, .int .i64 2])
          have HSZ := Lib.hid (show G9 + 1 ≤ ((wc.setCell ⟨B, k * 11 + 7, none⟩ (.int .i64 (wrap64 (x.asec + d)))).alloc (.cells #[.int .i64 1, .int .i64 k, .int .i64 0, .int .i64 2] 87)).heap.size from by have := HA3.out.box.lt; omega)
          obtain ⟨i0, hi, hz0, hz1, hz2⟩ := info_parts infoChange
          clear hal hlk HRA HRR
          go_wp2_with (at_builtin; refine wpList_append_own _ rfl _ _ 81 rfl (G9 + 1) 87 i0 _ 4 32 Tryd.underlying81 hi hz0 hz1 hz2 rfl (by decide) _ _ _ rfl HA3.out.want ⟨wc.heap.size, 0, none⟩ 1 1 [.int .i64 1, .int .i64 k, .int .i64 0, .int .i64 2] rfl rfl (blk_cells HNB.out) (by simp [Value.oneCell']) (by have := HLL.out; simp only [maxLen]; omega) (by have := HLL.out; omega) HSZ.out ?_)
          intro v1 W6 hown hgr hne
          obtain ⟨wA', cw', rfl⟩ := row_is32 hown
          have HA4 := Lib.hid (HA3.out.grown (L' := L ++ [P32.mkR k 2]) hgr (show RowOf W6 (G9 + 1) 87 4 P32.CV.cells wA' cw' (L ++ [P32.mkR k 2]) from by unfold RowOf; rw [List.length_append, List.flatMap_append]; exact hown))
          clear hown hgr hne HA3 HNB HSZ hi hz0 hz1 hz2
          go_wp2_with fail
          go_roundw
          case rel => exact ⟨k + 1, _, wA', cw', _, by have := HLT.out; omega, by go_num, by rw [List.length_append]; rfl, HA4.out, HRR2.out⟩
          case measure => have := HLT.out; simp [intOf]; omega
        · have e0 : Go.bits .and .i64 3 1 = 1 := by decide
          have e1 : Go.bits .and .i64 3 2 = 2 := by decide
          have HY := Lib.hid (show P32.diffR x ({ x with save := wrap64 (x.save + d), asec := wrap64 (x.asec + d) } : RV) = 3 ∧ P32.sameR x ({ x with save := wrap64 (x.save + d), asec := wrap64 (x.asec + d) } : RV) = true from by have h := P32.newR_diff HD0.out HDB.out (show (0 : Int) ≤ 3 ∧ (3 : Int) ≤ 3 by decide) x; simpa [P32.newR] using h)
          have HRR2 := Lib.hid (HRR.out.more HX.out HY.out (by decide))
          have hlk : k < RR.length := (List.getElem?_eq_some_iff.1 HXR.out).1
          have HA0 := Lib.hid (show Ra W1 wc G9 (G9 + 1) { t with rules := RR.set k x } wA cw L from by rw [P32.set_get HXR.out]; exact HRA.out)
          have HA1 := Lib.hid (HA0.out.ruleMore (t := { t with rules := RR }) HA.out hlk 9 { x with save := wrap64 (x.save + d) } (.int .i64 (wrap64 (x.save + d))) (by decide) rfl)
          have p0' := (HA1.out.box.cell 0).trans rfl
          rw [show (RR.set k { x with save := wrap64 (x.save + d) }).length = RR.length from List.length_set, show ({ t with rules := RR.set k { x with save := wrap64 (x.save + d) } } : SV).rA = some ⟨B, 0, none⟩ from HA.out] at p0'
          have z7 : (wc.setCell ⟨B, k * 11 + 9, none⟩ (.int .i64 (wrap64 (x.save + d)))).cell? ⟨B, k * 11 + 7, none⟩ = some (.int .i64 x.asec) := by rw [World.cell?_setCell_other _ _ _ _ (fun e => by injection e with _ e _; omega)]; exact x7
          have zf : (wc.setCell ⟨B, k * 11 + 9, none⟩ (.int .i64 (wrap64 (x.save + d)))).frozen? ⟨B, k * 11 + 7, none⟩ = false := by rw [World.frozen?_setCell]; exact y7
          have HA2 := Lib.hid (HA1.out.ruleMore (t := { t with rules := RR }) HA.out hlk 7 { x with save := wrap64 (x.save + d), asec := wrap64 (x.asec + d) } (.int .i64 (wrap64 (x.asec + d))) (by decide) rfl)
          have hal := (Below.refl ((wc.setCell ⟨B, k * 11 + 9, none⟩ (.int .i64 (wrap64 (x.save + d)))).setCell ⟨B, k * 11 + 7, none⟩ (.int .i64 (wrap64 (x.asec + d)))).heap.size ((wc.setCell ⟨B, k * 11 + 9, none⟩ (.int .i64 (wrap64 (x.save + d)))).setCell ⟨B, k * 11 + 7, none⟩ (.int .i64 (wrap64 (x.asec + d))))).alloc (Nat.le_refl _) (.cells #[.int .i64 1, .int .i64 k, .int .i64 0, .int .i64 3] 87)
          have HA3 := Lib.hid (HA2.out.below hal)
          have HNB := Lib.hid (Blk.newAt ((wc.setCell ⟨B, k * 11 + 9, none⟩ (.int .i64 (wrap64 (x.save + d)))).setCell ⟨B, k * 11 + 7, none⟩ (.int .i64 (wrap64 (x.asec + d)))) wc.heap.size (by simp) 87 #[.int .i64 1, .int .i64 k, .int .i64 0, .int .i64 3])
          have HSZ := Lib.hid (show G9 + 1 ≤ (((wc.setCell ⟨B, k * 11 + 9, none⟩ (.int .i64 (wrap64 (x.save + d)))).setCell ⟨B, k * 11 + 7, none⟩ (.int .i64 (wrap64 (x.asec + d)))).alloc (.cells #[.int .i64 1, .int .i64 k, .int .i64 0, .int .i64 3] 87)).heap.size from by have := HA3.out.box.lt; omega)
          obtain ⟨i0, hi, hz0, hz1, hz2⟩ := info_parts infoChange
          clear hal hlk HRA HRR
          go_wp2_with (at_builtin; refine wpList_append_own _ rfl _ _ 81 rfl (G9 + 1) 87 i0 _ 4 32 Tryd.underlying81 hi hz0 hz1 hz2 rfl (by decide) _ _ _ rfl HA3.out.want ⟨wc.heap.size, 0, none⟩ 1 1 [.int .i64 1, .int .i64 k, .int .i64 0, .int .i64 3] rfl rfl (blk_cells HNB.out) (by simp [Value.oneCell']) (by have := HLL.out; simp only [maxLen]; omega) (by have := HLL.out; omega) HSZ.out ?_)
          intro v1 W6 hown hgr hne
          obtain ⟨wA', cw', rfl⟩ := row_is32 hown
          have HA4 := Lib.hid (HA3.out.grown (L' := L ++ [P32.mkR k 3]) hgr (show RowOf W6 (G9 + 1) 87 4 P32.CV.cells wA' cw' (L ++ [P32.mkR k 3]) from by unfold RowOf; rw [List.length_append, List.flatMap_append]; exact hown))
          clear hown hgr hne HA3 HNB HSZ hi hz0 hz1 hz2
          go_wp2_with fail
          go_roundw
          case rel => exact ⟨k + 1, _, wA', cw', _, by have := HLT.out; omega, by go_num, by rw [List.length_append]; rfl, HA4.out, HRR2.out⟩
          case measure => have := HLT.out; simp [intOf]; omega
    · have hke : k = t.rules.length := by omega
      have hki : ¬ (k : Int) < (t.rules.length : Int) := by omega
      have HRN := Lib.hid (show P32.RelR s { t with rules := RR } s.rules.length L by rw [← HNR0.out, ← hke]; exact hrr)
      have HRZ := Lib.hid (show P32.RelZ s { t with rules := RR } 0 0 L L from P32.RelZ.start HZ0.out.1 HZ0.out.2)
      have HL0 := Lib.hid (show L.length ≤ 40 by have := hrr.lenL; omega)
      have p1 := (hra.box.cell 1).trans rfl
      have hz10 : (t.zones.length : Int) ≤ 10 := by have := HF.out.2.1; have := HZ0.out.1; omega
      clear hra hrr hk hlt hke
      go_wp2_with fail
      clear p1
      go_loopw [10, 13, 91] (fun s10 s13 i W => ∃ (a n : Nat) (ZZ : List ZV) (wA : Option Addr) (cw : Nat) (M : List P32.CV), a ≤ t.zones.length ∧ i = .int .i64 a ∧ s13 = .int .i64 n ∧ n ≤ 20 * a ∧ s10 = .slice wA M.length cw ∧ Ra W1 W G9 (G9 + 1) { t with rules := RR, zones := ZZ } wA cw M ∧ P32.RelZ s { t with rules := RR, zones := ZZ } a 0 L M) (fun _ _ i _ => t.zones.length - (intOf i).toNat)
      case atStart => exact ⟨0, 0, t.zones, wA, cw, L, Nat.zero_le _, rfl, rfl, Nat.zero_le _, rfl, HRA.out, HRZ.out⟩
      case round =>
        clear HRA HRR HRZ hki
        obtain ⟨wo, hwo⟩ : ∃ x, x = wr := ⟨_, rfl⟩
        subst hwo
        obtain ⟨a, n, ZZ, wA, cw, M, ha, rfl, rfl, hn, rfl, hra, hrz⟩ := hrel
        have HRA := Lib.hid hra; have HRZ := Lib.hid hrz
        by_cases hlt : a < t.zones.length
        · have hai : (a : Int) < (t.zones.length : Int) := by omega
          have ha0 : (0 : Int) ≤ (a : Int) := by omega
          obtain ⟨z, hz⟩ : ∃ z, s.zones[a]? = some z := ⟨_, List.getElem?_eq_getElem (by rw [← HZ0.out.1]; exact hlt)⟩
          have hzl : a < ZZ.length := by have q := hrz.len; have q' : ZZ.length = s.zones.length := q; have := HZ0.out.1; omega
          obtain ⟨y0, hy0⟩ : ∃ y, ZZ[a]? = some y := ⟨_, List.getElem?_eq_getElem hzl⟩
          have hyl := (hrz.like a z y0 hz hy0).2
          obtain ⟨Bz, hzA, m0, m1⟩ := hra.zoneAt hy0
          have hali : (a : Int) < (ZZ.length : Int) := by omega
          have p1 := (hra.box.cell 1).trans rfl
          rw [show ({ t with rules := RR, zones := ZZ } : SV).zA = some ⟨Bz, 0, none⟩ from hzA] at p1
          rw [← hyl] at m1
          have hz20 : (z.eras.length : Int) ≤ 20 := by have := HF.out.2.2.2.2 z (List.mem_of_getElem? hz); omega
          have HZ := Lib.hid hz; have HLT := Lib.hid hlt; have HN := Lib.hid hn
          clear hra hrz hz hlt hzl hy0 hyl hzA m0 hn
          go_wp2_with fail
          clear p1 m1 hali
          go_loopw [10, 13, 101] (fun s10 s13 i W => ∃ (k n : Nat) (ZZ : List ZV) (wA : Option Addr) (cw : Nat) (M : List P32.CV), k ≤ z.eras.length ∧ i = .int .i64 k ∧ s13 = .int .i64 n ∧ n ≤ 20 * a + k ∧ s10 = .slice wA M.length cw ∧ Ra W1 W G9 (G9 + 1) { t with rules := RR, zones := ZZ } wA cw M ∧ P32.RelZ s { t with rules := RR, zones := ZZ } a k L M) (fun _ _ i _ => z.eras.length - (intOf i).toNat)
          case atStart => exact ⟨0, n, ZZ, wA, cw, M, Nat.zero_le _, rfl, rfl, HN.out, rfl, HRA.out, HRZ.out⟩
          case round =>
            clear HRA HRZ HN
            obtain ⟨k, n, ZZ, wA, cw, M, hk, rfl, rfl, hn, rfl, hra, hrz⟩ := hrel
            have HRA := Lib.hid hra; have HRZ := Lib.hid hrz
            have hzl : a < ZZ.length := by have q := hrz.len; have q' : ZZ.length = s.zones.length := q; have := HZ0.out.1; have := HLT.out; omega
            obtain ⟨y, hy⟩ : ∃ y, ZZ[a]? = some y := ⟨_, List.getElem?_eq_getElem hzl⟩
            by_cases hlk : k < z.eras.length
            · have hki : (k : Int) < (z.eras.length : Int) := by omega
              have hk0 : (0 : Int) ≤ (k : Int) := by omega
              have hyl : z.eras.length = y.eras.length := (hrz.like a z y HZ.out hy).2
              obtain ⟨x, hx⟩ : ∃ x, z.eras[k]? = some x := ⟨_, List.getElem?_eq_getElem hlk⟩
              have hyx : y.eras[k]? = some x := ((hrz.cur z y HZ.out hy).2 k (Nat.le_refl _)).trans hx
              obtain ⟨Bz, hzA, _, m1⟩ := hra.zoneAt hy
              obtain ⟨B, hyA, hcl, hfr⟩ := hra.eraAt hy hyx
              have hali : (a : Int) < (ZZ.length : Int) := by omega
              have p1 := (hra.box.cell 1).trans rfl
              rw [show ({ t with rules := RR, zones := ZZ } : SV).zA = some ⟨Bz, 0, none⟩ from hzA] at p1
              rw [← hyl, hyA] at m1
              have n3 : (n : Int) ≤ 300 := by omega
              have n3z : (0 : Int) ≤ (n : Int) := by omega
              have HX := Lib.hid hx; have HYX := Lib.hid hyx; have HY := Lib.hid hy; have HYA := Lib.hid hyA; have HCL := Lib.hid hcl; have HFR := Lib.hid hfr; have HLK := Lib.hid hlk; have HN := Lib.hid hn
              have HLL := Lib.hid (show M.length ≤ 400 by have q := hrz.lenL HF.out.2.2.2.2; have := HL0.out; have := HLT.out; have := HZ0.out.1; have := HF.out.2.1; have := HF.out.2.2.2.2 z (List.mem_of_getElem? HZ.out); omega)
              have HXF := Lib.hid (HFM.out z (List.mem_of_getElem? HZ.out) x (List.mem_of_getElem? hx))
              clear hra hrz hy hyl hx hyx hzA hyA hcl hfr hlk hk hn hzl
              go_upto_if 107 with fail
              go_cut [16] (fun s16 wx => ∃ q : Int, (q = 0 ∨ q = 4 ∨ q = 8 ∨ q = 12 ∨ q = 16 ∨ q = 20 ∨ q = 24 ∨ q = 28) ∧ s16 = .int .i64 q ∧ wx = wr)
              case first =>
                clear p1 m1
                by_cases hkE : n < E.length
                · have hkEi : (n : Int) < (E.length : Int) := by omega
                  obtain ⟨v, hv⟩ : ∃ v, E[n]? = some v := ⟨_, List.getElem?_eq_getElem hkE⟩
                  obtain ⟨gr, og, rfl, hgr, hcr⟩ := HE.out.below (HB1.out.trans (HRA.out.bel.mono HB1.out.size)) n v hv
                  have n0 : wr.cell? ⟨gr, og + n, none⟩ = some (.int .u8 v) := by have q := hcr 0 _ rfl; simpa using q
                  obtain ⟨q, hq, hq4⟩ := rem_nat v 8 (by decide) (HNE.out v (List.mem_of_getElem? hv)).1
                  have HQE := Lib.hid hq; have HQ := Lib.hid hq4
                  clear hv hgr hcr hq hkE
                  obtain ⟨q', hq'⟩ : ∃ q' : Int, (q : Int) * 4 = q' := ⟨_, rfl⟩
                  have hqw : wrap64 (q : Int) = (q : Int) := (wrap_q q hq4).1
                  have hqw4 : wrap64 ((q : Int) * 4) = q' := (wrap_q q hq4).2.trans hq'
                  have HQ8 := Lib.hid hq'
                  have hqi : v.tmod 8 = (q : Int) := HQE.out
                  clear hq4 hq' HQE
                  go_wp2_with fail
                  go_meet
                  exact ⟨q', by have := HQ.out; have := HQ8.out; omega, by rw [hqw4], rfl⟩
                · have hkEi : ¬ (n : Int) < (E.length : Int) := by omega
                  clear hkE
                  go_wp2_with fail
                  go_meet
                  exact ⟨0, .inl rfl, rfl, rfl⟩
              case rest =>
                obtain ⟨q, hq, rfl, HWC0⟩ := hcut
                subst HWC0
                rcases hq with rfl | rfl | rfl | rfl | rfl | rfl | rfl | rfl
                · have e4 : Go.bits .and .i64 0 4 = 0 := by decide
                  have e8 : Go.bits .and .i64 0 8 = 0 := by decide
                  have e16 : Go.bits .and .i64 0 16 = 0 := by decide
                  have HRZ2 := Lib.hid (HRZ.out.skip HZ.out HY.out HX.out)
                  clear HRZ
                  go_wp2_with fail
                  go_roundw
                  case rel => exact ⟨k + 1, n + 1, ZZ, wA, cw, M, by have := HLK.out; omega, by go_num, by go_num, by have := HN.out; omega, rfl, HRA.out, HRZ2.out⟩
                  case measure => have := HLK.out; simp [intOf]; omega
                · have e4 : Go.bits .and .i64 4 4 = 4 := by decide
                  have e8 : Go.bits .and .i64 4 8 = 0 := by decide
                  have e16 : Go.bits .and .i64 4 16 = 0 := by decide
                  have HD := Lib.hid (show P32.diffE x ({ x with off := wrap64 (x.off + d) } : EV) = 4 ∧ P32.sameE x ({ x with off := wrap64 (x.off + d) } : EV) = true from by have h := P32.newE_diff HD0.out HDB.out 1 (by decide) (show (4 : Int) = 1 * 4 by decide) x; simpa [P32.newE] using h)
                  have HRZ2 := Lib.hid (HRZ.out.more HZ.out HY.out HX.out HD.out (by decide))
                  have hlk : k < y.eras.length := (List.getElem?_eq_some_iff.1 HYX.out).1
                  have HA0 := Lib.hid (show Ra W1 wc G9 (G9 + 1) (({ t with rules := RR, zones := ZZ } : SV).setEra32 a y k x) wA cw M from by rw [P32.setEra_get (t := { t with rules := RR, zones := ZZ }) HY.out HYX.out]; exact HRA.out)
                  have r0 : wc.cell? ⟨B, k * 13, none⟩ = some (.int .i64 x.off) := HCL.out 0 _ rfl
                  have f0 : wc.frozen? ⟨B, k * 13, none⟩ = false := HFR.out (k * 13)
                  have HA4 := Lib.hid (show Ra W1 (wc.setCell ⟨B, k * 13, none⟩ (.int .i64 (wrap64 (x.off + d)))) G9 (G9 + 1) (({ t with rules := RR, zones := ZZ } : SV).setEra32 a y k { x with off := wrap64 (x.off + d) }) wA cw M from HA0.out.eraMore (t := { t with rules := RR, zones := ZZ }) HY.out HYA.out hlk 0 { x with off := wrap64 (x.off + d) } (.int .i64 (wrap64 (x.off + d))) (by decide) rfl)
                  have hal := (Below.refl (wc.setCell ⟨B, k * 13, none⟩ (.int .i64 (wrap64 (x.off + d)))).heap.size (wc.setCell ⟨B, k * 13, none⟩ (.int .i64 (wrap64 (x.off + d))))).alloc (Nat.le_refl _) (.cells #[.int .i64 2, .int .i64 a, .int .i64 k, .int .i64 4] 87)
                  have HAA := Lib.hid (HA4.out.below hal)
                  have HNB := Lib.hid (Blk.newAt (wc.setCell ⟨B, k * 13, none⟩ (.int .i64 (wrap64 (x.off + d)))) wc.heap.size (by simp) 87 #[.int .i64 2, .int .i64 a, .int .i64 k, .int .i64 4])
                  have HSZ := Lib.hid (show G9 + 1 ≤ ((wc.setCell ⟨B, k * 13, none⟩ (.int .i64 (wrap64 (x.off + d)))).alloc (.cells #[.int .i64 2, .int .i64 a, .int .i64 k, .int .i64 4] 87)).heap.size from by have := HAA.out.box.lt; omega)
                  obtain ⟨i0, hi, hz0, hz1, hz2⟩ := info_parts infoChange
                  clear hal hlk HRA HRZ
                  go_wp2_with (at_builtin; refine wpList_append_own _ rfl _ _ 81 rfl (G9 + 1) 87 i0 _ 4 32 Tryd.underlying81 hi hz0 hz1 hz2 rfl (by decide) _ _ _ rfl HAA.out.want ⟨wc.heap.size, 0, none⟩ 1 1 [.int .i64 2, .int .i64 a, .int .i64 k, .int .i64 4] rfl rfl (blk_cells HNB.out) (by simp [Value.oneCell']) (by have := HLL.out; simp only [maxLen]; omega) (by have := HLL.out; omega) HSZ.out ?_)
                  intro v1 W6 hown hgr hne
                  obtain ⟨wA', cw', rfl⟩ := row_is32 hown
                  have HAB := Lib.hid (HAA.out.grown (L' := M ++ [P32.mkE a k 4]) hgr (show RowOf W6 (G9 + 1) 87 4 P32.CV.cells wA' cw' (M ++ [P32.mkE a k 4]) from by unfold RowOf; rw [List.length_append, List.flatMap_append]; exact hown))
                  clear hown hgr hne HAA HNB HSZ hi hz0 hz1 hz2
                  go_wp2_with fail
                  go_roundw
                  case rel => exact ⟨k + 1, n + 1, _, wA', cw', _, by have := HLK.out; omega, by go_num, by go_num, by have := HN.out; omega, by rw [List.length_append]; rfl, HAB.out, HRZ2.out⟩
                  case measure => have := HLK.out; simp [intOf]; omega
                · have e4 : Go.bits .and .i64 8 4 = 0 := by decide
                  have e8 : Go.bits .and .i64 8 8 = 8 := by decide
                  have e16 : Go.bits .and .i64 8 16 = 0 := by decide
                  have HD := Lib.hid (show P32.diffE x ({ x with fmt := x.fmt ++ ⟨#[120]⟩ } : EV) = 8 ∧ P32.sameE x ({ x with fmt := x.fmt ++ ⟨#[120]⟩ } : EV) = true from by have h := P32.newE_diff HD0.out HDB.out 2 (by decide) (show (8 : Int) = 2 * 4 by decide) x; simpa [P32.newE] using h)
                  have HRZ2 := Lib.hid (HRZ.out.more HZ.out HY.out HX.out HD.out (by decide))
                  have hlk : k < y.eras.length := (List.getElem?_eq_some_iff.1 HYX.out).1
                  have HA0 := Lib.hid (show Ra W1 wc G9 (G9 + 1) (({ t with rules := RR, zones := ZZ } : SV).setEra32 a y k x) wA cw M from by rw [P32.setEra_get (t := { t with rules := RR, zones := ZZ }) HY.out HYX.out]; exact HRA.out)
                  have r4 : wc.cell? ⟨B, k * 13 + 4, none⟩ = some (.string x.fmt) := HCL.out 4 _ rfl
                  have f4 : wc.frozen? ⟨B, k * 13 + 4, none⟩ = false := HFR.out (k * 13 + 4)
                  have hcat : ∀ W, (Op.stringOp .add x.fmt ⟨#[120]⟩).run Tryd.prog W = .ok (.string (x.fmt ++ ⟨#[120]⟩)) W := fun W => run_string_add_sum (w := W) _ _ (by have h := HXF.out; have h2 : (⟨#[120]⟩ : ByteArray).size = 1 := rfl; first | omega | (unfold maxLen; omega))
                  have HA8 := Lib.hid (show Ra W1 (wc.setCell ⟨B, k * 13 + 4, none⟩ (.string (x.fmt ++ ⟨#[120]⟩))) G9 (G9 + 1) (({ t with rules := RR, zones := ZZ } : SV).setEra32 a y k { x with fmt := x.fmt ++ ⟨#[120]⟩ }) wA cw M from HA0.out.eraMore (t := { t with rules := RR, zones := ZZ }) HY.out HYA.out hlk 4 { x with fmt := x.fmt ++ ⟨#[120]⟩ } (.string (x.fmt ++ ⟨#[120]⟩)) (by decide) rfl)
                  have hal := (Below.refl (wc.setCell ⟨B, k * 13 + 4, none⟩ (.string (x.fmt ++ ⟨#[120]⟩))).heap.size (wc.setCell ⟨B, k * 13 + 4, none⟩ (.string (x.fmt ++ ⟨#[120]⟩)))).alloc (Nat.le_refl _) (.cells #[.int .i64 2, .int .i64 a, .int .i64 k, .int .i64 8] 87)
                  have HAA := Lib.hid (HA8.out.below hal)
                  have HNB := Lib.hid (Blk.newAt (wc.setCell ⟨B, k * 13 + 4, none⟩ (.string (x.fmt ++ ⟨#[120]⟩))) wc.heap.size (by simp) 87 #[.int .i64 2, .int .i64 a, .int .i64 k, .int .i64 8])
                  have HSZ := Lib.hid (show G9 + 1 ≤ ((wc.setCell ⟨B, k * 13 + 4, none⟩ (.string (x.fmt ++ ⟨#[120]⟩))).alloc (.cells #[.int .i64 2, .int .i64 a, .int .i64 k, .int .i64 8] 87)).heap.size from by have := HAA.out.box.lt; omega)
                  obtain ⟨i0, hi, hz0, hz1, hz2⟩ := info_parts infoChange
                  clear hal hlk HRA HRZ
                  go_wp2_with (at_builtin; refine wpList_append_own _ rfl _ _ 81 rfl (G9 + 1) 87 i0 _ 4 32 Tryd.underlying81 hi hz0 hz1 hz2 rfl (by decide) _ _ _ rfl HAA.out.want ⟨wc.heap.size, 0, none⟩ 1 1 [.int .i64 2, .int .i64 a, .int .i64 k, .int .i64 8] rfl rfl (blk_cells HNB.out) (by simp [Value.oneCell']) (by have := HLL.out; simp only [maxLen]; omega) (by have := HLL.out; omega) HSZ.out ?_)
                  intro v1 W6 hown hgr hne
                  obtain ⟨wA', cw', rfl⟩ := row_is32 hown
                  have HAB := Lib.hid (HAA.out.grown (L' := M ++ [P32.mkE a k 8]) hgr (show RowOf W6 (G9 + 1) 87 4 P32.CV.cells wA' cw' (M ++ [P32.mkE a k 8]) from by unfold RowOf; rw [List.length_append, List.flatMap_append]; exact hown))
                  clear hown hgr hne HAA HNB HSZ hi hz0 hz1 hz2
                  go_wp2_with fail
                  go_roundw
                  case rel => exact ⟨k + 1, n + 1, _, wA', cw', _, by have := HLK.out; omega, by go_num, by go_num, by have := HN.out; omega, by rw [List.length_append]; rfl, HAB.out, HRZ2.out⟩
                  case measure => have := HLK.out; simp [intOf]; omega
                · have e4 : Go.bits .and .i64 12 4 = 4 := by decide
                  have e8 : Go.bits .and .i64 12 8 = 8 := by decide
                  have e16 : Go.bits .and .i64 12 16 = 0 := by decide
                  have HD := Lib.hid (show P32.diffE x ({ x with off := wrap64 (x.off + d), fmt := x.fmt ++ ⟨#[120]⟩ } : EV) = 12 ∧ P32.sameE x ({ x with off := wrap64 (x.off + d), fmt := x.fmt ++ ⟨#[120]⟩ } : EV) = true from by have h := P32.newE_diff HD0.out HDB.out 3 (by decide) (show (12 : Int) = 3 * 4 by decide) x; simpa [P32.newE] using h)
                  have HRZ2 := Lib.hid (HRZ.out.more HZ.out HY.out HX.out HD.out (by decide))
                  have hlk : k < y.eras.length := (List.getElem?_eq_some_iff.1 HYX.out).1
                  have HA0 := Lib.hid (show Ra W1 wc G9 (G9 + 1) (({ t with rules := RR, zones := ZZ } : SV).setEra32 a y k x) wA cw M from by rw [P32.setEra_get (t := { t with rules := RR, zones := ZZ }) HY.out HYX.out]; exact HRA.out)
                  have r0 : wc.cell? ⟨B, k * 13, none⟩ = some (.int .i64 x.off) := HCL.out 0 _ rfl
                  have f0 : wc.frozen? ⟨B, k * 13, none⟩ = false := HFR.out (k * 13)
                  have HA4 := Lib.hid (show Ra W1 (wc.setCell ⟨B, k * 13, none⟩ (.int .i64 (wrap64 (x.off + d)))) G9 (G9 + 1) (({ t with rules := RR, zones := ZZ } : SV).setEra32 a y k { x with off := wrap64 (x.off + d) }) wA cw M from HA0.out.eraMore (t := { t with rules := RR, zones := ZZ }) HY.out HYA.out hlk 0 { x with off := wrap64 (x.off + d) } (.int .i64 (wrap64 (x.off + d))) (by decide) rfl)
                  have r4 : (wc.setCell ⟨B, k * 13, none⟩ (.int .i64 (wrap64 (x.off + d)))).cell? ⟨B, k * 13 + 4, none⟩ = some (.string x.fmt) := by rw [World.cell?_setCell_other _ _ _ _ (fun e => by injection e with _ e _; omega)]; exact HCL.out 4 _ rfl
                  have f4 : (wc.setCell ⟨B, k * 13, none⟩ (.int .i64 (wrap64 (x.off + d)))).frozen? ⟨B, k * 13 + 4, none⟩ = false := by rw [World.frozen?_setCell]; exact HFR.out (k * 13 + 4)
                  have hcat : ∀ W, (Op.stringOp .add x.fmt ⟨#[120]⟩).run Tryd.prog W = .ok (.string (x.fmt ++ ⟨#[120]⟩)) W := fun W => run_string_add_sum (w := W) _ _ (by have h := HXF.out; have h2 : (⟨#[120]⟩ : ByteArray).size = 1 := rfl; first | omega | (unfold maxLen; omega))
                  have HA8 := Lib.hid (show Ra W1 ((wc.setCell ⟨B, k * 13, none⟩ (.int .i64 (wrap64 (x.off + d)))).setCell ⟨B, k * 13 + 4, none⟩ (.string (x.fmt ++ ⟨#[120]⟩))) G9 (G9 + 1) (({ t with rules := RR, zones := ZZ } : SV).setEra32 a y k { x with off := wrap64 (x.off + d), fmt := x.fmt ++ ⟨#[120]⟩ }) wA cw M from HA4.out.eraMore (t := { t with rules := RR, zones := ZZ }) HY.out HYA.out hlk 4 { x with off := wrap64 (x.off + d), fmt := x.fmt ++ ⟨#[120]⟩ } (.string (x.fmt ++ ⟨#[120]⟩)) (by decide) rfl)
                  have hal := (Below.refl ((wc.setCell ⟨B, k * 13, none⟩ (.int .i64 (wrap64 (x.off + d)))).setCell ⟨B, k * 13 + 4, none⟩ (.string (x.fmt ++ ⟨#[120]⟩))).heap.size ((wc.setCell ⟨B, k * 13, none⟩ (.int .i64 (wrap64 (x.off + d)))).setCell ⟨B, k * 13 + 4, none⟩ (.string (x.fmt ++ ⟨#[120]⟩)))).alloc (Nat.le_refl _) (.cells #[.int .i64 2, .int .i64 a, .int .i64 k, .int .i64 12] 87)
                  have HAA := Lib.hid (HA8.out.below hal)
                  have HNB := Lib.hid (Blk.newAt ((wc.setCell ⟨B, k * 13, none⟩ (.int .i64 (wrap64 (x.off + d)))).setCell ⟨B, k * 13 + 4, none⟩ (.string (x.fmt ++ ⟨#[120]⟩))) wc.heap.size (by simp) 87 #[.int .i64 2, .int .i64 a, .int .i64 k, .int .i64 12])
                  have HSZ := Lib.hid (show G9 + 1 ≤ (((wc.setCell ⟨B, k * 13, none⟩ (.int .i64 (wrap64 (x.off + d)))).setCell ⟨B, k * 13 + 4, none⟩ (.string (x.fmt ++ ⟨#[120]⟩))).alloc (.cells #[.int .i64 2, .int .i64 a, .int .i64 k, .int .i64 12] 87)).heap.size from by have := HAA.out.box.lt; omega)
                  obtain ⟨i0, hi, hz0, hz1, hz2⟩ := info_parts infoChange
                  clear hal hlk HRA HRZ
                  go_wp2_with (at_builtin; refine wpList_append_own _ rfl _ _ 81 rfl (G9 + 1) 87 i0 _ 4 32 Tryd.underlying81 hi hz0 hz1 hz2 rfl (by decide) _ _ _ rfl HAA.out.want ⟨wc.heap.size, 0, none⟩ 1 1 [.int .i64 2, .int .i64 a, .int .i64 k, .int .i64 12] rfl rfl (blk_cells HNB.out) (by simp [Value.oneCell']) (by have := HLL.out; simp only [maxLen]; omega) (by have := HLL.out; omega) HSZ.out ?_)
                  intro v1 W6 hown hgr hne
                  obtain ⟨wA', cw', rfl⟩ := row_is32 hown
                  have HAB := Lib.hid (HAA.out.grown (L' := M ++ [P32.mkE a k 12]) hgr (show RowOf W6 (G9 + 1) 87 4 P32.CV.cells wA' cw' (M ++ [P32.mkE a k 12]) from by unfold RowOf; rw [List.length_append, List.flatMap_append]; exact hown))
                  clear hown hgr hne HAA HNB HSZ hi hz0 hz1 hz2
                  go_wp2_with fail
                  go_roundw
                  case rel => exact ⟨k + 1, n + 1, _, wA', cw', _, by have := HLK.out; omega, by go_num, by go_num, by have := HN.out; omega, by rw [List.length_append]; rfl, HAB.out, HRZ2.out⟩
                  case measure => have := HLK.out; simp [intOf]; omega
                · have e4 : Go.bits .and .i64 16 4 = 0 := by decide
                  have e8 : Go.bits .and .i64 16 8 = 0 := by decide
                  have e16 : Go.bits .and .i64 16 16 = 16 := by decide
                  have HD := Lib.hid (show P32.diffE x ({ x with asec := wrap64 (x.asec + d) } : EV) = 16 ∧ P32.sameE x ({ x with asec := wrap64 (x.asec + d) } : EV) = true from by have h := P32.newE_diff HD0.out HDB.out 4 (by decide) (show (16 : Int) = 4 * 4 by decide) x; simpa [P32.newE] using h)
                  have HRZ2 := Lib.hid (HRZ.out.more HZ.out HY.out HX.out HD.out (by decide))
                  have hlk : k < y.eras.length := (List.getElem?_eq_some_iff.1 HYX.out).1
                  have HA0 := Lib.hid (show Ra W1 wc G9 (G9 + 1) (({ t with rules := RR, zones := ZZ } : SV).setEra32 a y k x) wA cw M from by rw [P32.setEra_get (t := { t with rules := RR, zones := ZZ }) HY.out HYX.out]; exact HRA.out)
                  have r11 : wc.cell? ⟨B, k * 13 + 11, none⟩ = some (.int .i64 x.asec) := HCL.out 11 _ rfl
                  have f11 : wc.frozen? ⟨B, k * 13 + 11, none⟩ = false := HFR.out (k * 13 + 11)
                  have HA16 := Lib.hid (show Ra W1 (wc.setCell ⟨B, k * 13 + 11, none⟩ (.int .i64 (wrap64 (x.asec + d)))) G9 (G9 + 1) (({ t with rules := RR, zones := ZZ } : SV).setEra32 a y k { x with asec := wrap64 (x.asec + d) }) wA cw M from HA0.out.eraMore (t := { t with rules := RR, zones := ZZ }) HY.out HYA.out hlk 11 { x with asec := wrap64 (x.asec + d) } (.int .i64 (wrap64 (x.asec + d))) (by decide) rfl)
                  have hal := (Below.refl (wc.setCell ⟨B, k * 13 + 11, none⟩ (.int .i64 (wrap64 (x.asec + d)))).heap.size (wc.setCell ⟨B, k * 13 + 11, none⟩ (.int .i64 (wrap64 (x.asec + d))))).alloc (Nat.le_refl _) (.cells #[.int .i64 2, .int .i64 a, .int .i64 k, .int .i64 16] 87)
                  have HAA := Lib.hid (HA16.out.below hal)
                  have HNB := Lib.hid (Blk.newAt (wc.setCell ⟨B, k * 13 + 11, none⟩ (.int .i64 (wrap64 (x.asec + d)))) wc.heap.size (by simp) 87 #[.int .i64 2, .int .i64 a, .int .i64 k, .int .i64 16])
                  have HSZ := Lib.hid (show G9 + 1 ≤ ((wc.setCell ⟨B, k * 13 + 11, none⟩ (.int .i64 (wrap64 (x.asec + d)))).alloc (.cells #[.int .i64 2, .int .i64 a, .int .i64 k, .int .i64 16] 87)).heap.size from by have := HAA.out.box.lt; omega)
                  obtain ⟨i0, hi, hz0, hz1, hz2⟩ := info_parts infoChange
                  clear hal hlk HRA HRZ
                  go_wp2_with (at_builtin; refine wpList_append_own _ rfl _ _ 81 rfl (G9 + 1) 87 i0 _ 4 32 Tryd.underlying81 hi hz0 hz1 hz2 rfl (by decide) _ _ _ rfl HAA.out.want ⟨wc.heap.size, 0, none⟩ 1 1 [.int .i64 2, .int .i64 a, .int .i64 k, .int .i64 16] rfl rfl (blk_cells HNB.out) (by simp [Value.oneCell']) (by have := HLL.out; simp only [maxLen]; omega) (by have := HLL.out; omega) HSZ.out ?_)
                  intro v1 W6 hown hgr hne
                  obtain ⟨wA', cw', rfl⟩ := row_is32 hown
                  have HAB := Lib.hid (HAA.out.grown (L' := M ++ [P32.mkE a k 16]) hgr (show RowOf W6 (G9 + 1) 87 4 P32.CV.cells wA' cw' (M ++ [P32.mkE a k 16]) from by unfold RowOf; rw [List.length_append, List.flatMap_append]; exact hown))
                  clear hown hgr hne HAA HNB HSZ hi hz0 hz1 hz2
                  go_wp2_with fail
                  go_roundw
                  case rel => exact ⟨k + 1, n + 1, _, wA', cw', _, by have := HLK.out; omega, by go_num, by go_num, by have := HN.out; omega, by rw [List.length_append]; rfl, HAB.out, HRZ2.out⟩
                  case measure => have := HLK.out; simp [intOf]; omega
                · have e4 : Go.bits .and .i64 20 4 = 4 := by decide
                  have e8 : Go.bits .and .i64 20 8 = 0 := by decide
                  have e16 : Go.bits .and .i64 20 16 = 16 := by decide
                  have HD := Lib.hid (show P32.diffE x ({ x with off := wrap64 (x.off + d), asec := wrap64 (x.asec + d) } : EV) = 20 ∧ P32.sameE x ({ x with off := wrap64 (x.off + d), asec := wrap64 (x.asec + d) } : EV) = true from by have h := P32.newE_diff HD0.out HDB.out 5 (by decide) (show (20 : Int) = 5 * 4 by decide) x; simpa [P32.newE] using h)
                  have HRZ2 := Lib.hid (HRZ.out.more HZ.out HY.out HX.out HD.out (by decide))
                  have hlk : k < y.eras.length := (List.getElem?_eq_some_iff.1 HYX.out).1
                  have HA0 := Lib.hid (show Ra W1 wc G9 (G9 + 1) (({ t with rules := RR, zones := ZZ } : SV).setEra32 a y k x) wA cw M from by rw [P32.setEra_get (t := { t with rules := RR, zones := ZZ }) HY.out HYX.out]; exact HRA.out)
                  have r0 : wc.cell? ⟨B, k * 13, none⟩ = some (.int .i64 x.off) := HCL.out 0 _ rfl
                  have f0 : wc.frozen? ⟨B, k * 13, none⟩ = false := HFR.out (k * 13)
                  have HA4 := Lib.hid (show Ra W1 (wc.setCell ⟨B, k * 13, none⟩ (.int .i64 (wrap64 (x.off + d)))) G9 (G9 + 1) (({ t with rules := RR, zones := ZZ } : SV).setEra32 a y k { x with off := wrap64 (x.off + d) }) wA cw M from HA0.out.eraMore (t := { t with rules := RR, zones := ZZ }) HY.out HYA.out hlk 0 { x with off := wrap64 (x.off + d) } (.int .i64 (wrap64 (x.off + d))) (by decide) rfl)
                  have r11 : (wc.setCell ⟨B, k * 13, none⟩ (.int .i64 (wrap64 (x.off + d)))).cell? ⟨B, k * 13 + 11, none⟩ = some (.int .i64 x.asec) := by rw [World.cell?_setCell_other _ _ _ _ (fun e => by injection e with _ e _; omega)]; exact HCL.out 11 _ rfl
                  have f11 : (wc.setCell ⟨B, k * 13, none⟩ (.int .i64 (wrap64 (x.off + d)))).frozen? ⟨B, k * 13 + 11, none⟩ = false := by rw [World.frozen?_setCell]; exact HFR.out (k * 13 + 11)
                  have HA16 := Lib.hid (show Ra W1 ((wc.setCell ⟨B, k * 13, none⟩ (.int .i64 (wrap64 (x.off + d)))).setCell ⟨B, k * 13 + 11, none⟩ (.int .i64 (wrap64 (x.asec + d)))) G9 (G9 + 1) (({ t with rules := RR, zones := ZZ } : SV).setEra32 a y k { x with off := wrap64 (x.off + d), asec := wrap64 (x.asec + d) }) wA cw M from HA4.out.eraMore (t := { t with rules := RR, zones := ZZ }) HY.out HYA.out hlk 11 { x with off := wrap64 (x.off + d), asec := wrap64 (x.asec + d) } (.int .i64 (wrap64 (x.asec + d))) (by decide) rfl)
                  have hal := (Below.refl ((wc.setCell ⟨B, k * 13, none⟩ (.int .i64 (wrap64 (x.off + d)))).setCell ⟨B, k * 13 + 11, none⟩ (.int .i64 (wrap64 (x.asec + d)))).heap.size ((wc.setCell ⟨B, k * 13, none⟩ (.int .i64 (wrap64 (x.off + d)))).setCell ⟨B, k * 13 + 11, none⟩ (.int .i64 (wrap64 (x.asec + d))))).alloc (Nat.le_refl _) (.cells #[.int .i64 2, .int .i64 a, .int .i64 k, .int .i64 20] 87)
                  have HAA := Lib.hid (HA16.out.below hal)
                  have HNB := Lib.hid (Blk.newAt ((wc.setCell ⟨B, k * 13, none⟩ (.int .i64 (wrap64 (x.off + d)))).setCell ⟨B, k * 13 + 11, none⟩ (.int .i64 (wrap64 (x.asec + d)))) wc.heap.size (by simp) 87 #[.int .i64 2, .int .i64 a, .int .i64 k, .int .i64 20])
                  have HSZ := Lib.hid (show G9 + 1 ≤ (((wc.setCell ⟨B, k * 13, none⟩ (.int .i64 (wrap64 (x.off + d)))).setCell ⟨B, k * 13 + 11, none⟩ (.int .i64 (wrap64 (x.asec + d)))).alloc (.cells #[.int .i64 2, .int .i64 a, .int .i64 k, .int .i64 20] 87)).heap.size from by have := HAA.out.box.lt; omega)
                  obtain ⟨i0, hi, hz0, hz1, hz2⟩ := info_parts infoChange
                  clear hal hlk HRA HRZ
                  go_wp2_with (at_builtin; refine wpList_append_own _ rfl _ _ 81 rfl (G9 + 1) 87 i0 _ 4 32 Tryd.underlying81 hi hz0 hz1 hz2 rfl (by decide) _ _ _ rfl HAA.out.want ⟨wc.heap.size, 0, none⟩ 1 1 [.int .i64 2, .int .i64 a, .int .i64 k, .int .i64 20] rfl rfl (blk_cells HNB.out) (by simp [Value.oneCell']) (by have := HLL.out; simp only [maxLen]; omega) (by have := HLL.out; omega) HSZ.out ?_)
                  intro v1 W6 hown hgr hne
                  obtain ⟨wA', cw', rfl⟩ := row_is32 hown
                  have HAB := Lib.hid (HAA.out.grown (L' := M ++ [P32.mkE a k 20]) hgr (show RowOf W6 (G9 + 1) 87 4 P32.CV.cells wA' cw' (M ++ [P32.mkE a k 20]) from by unfold RowOf; rw [List.length_append, List.flatMap_append]; exact hown))
                  clear hown hgr hne HAA HNB HSZ hi hz0 hz1 hz2
                  go_wp2_with fail
                  go_roundw
                  case rel => exact ⟨k + 1, n + 1, _, wA', cw', _, by have := HLK.out; omega, by go_num, by go_num, by have := HN.out; omega, by rw [List.length_append]; rfl, HAB.out, HRZ2.out⟩
                  case measure => have := HLK.out; simp [intOf]; omega
                · have e4 : Go.bits .and .i64 24 4 = 0 := by decide
                  have e8 : Go.bits .and .i64 24 8 = 8 := by decide
                  have e16 : Go.bits .and .i64 24 16 = 16 := by decide
                  have HD := Lib.hid (show P32.diffE x ({ x with fmt := x.fmt ++ ⟨#[120]⟩, asec := wrap64 (x.asec + d) } : EV) = 24 ∧ P32.sameE x ({ x with fmt := x.fmt ++ ⟨#[120]⟩, asec := wrap64 (x.asec + d) } : EV) = true from by have h := P32.newE_diff HD0.out HDB.out 6 (by decide) (show (24 : Int) = 6 * 4 by decide) x; simpa [P32.newE] using h)
                  have HRZ2 := Lib.hid (HRZ.out.more HZ.out HY.out HX.out HD.out (by decide))
                  have hlk : k < y.eras.length := (List.getElem?_eq_some_iff.1 HYX.out).1
                  have HA0 := Lib.hid (show Ra W1 wc G9 (G9 + 1) (({ t with rules := RR, zones := ZZ } : SV).setEra32 a y k x) wA cw M from by rw [P32.setEra_get (t := { t with rules := RR, zones := ZZ }) HY.out HYX.out]; exact HRA.out)
                  have r4 : wc.cell? ⟨B, k * 13 + 4, none⟩ = some (.string x.fmt) := HCL.out 4 _ rfl
                  have f4 : wc.frozen? ⟨B, k * 13 + 4, none⟩ = false := HFR.out (k * 13 + 4)
                  have hcat : ∀ W, (Op.stringOp .add x.fmt ⟨#[120]⟩).run Tryd.prog W = .ok (.string (x.fmt ++ ⟨#[120]⟩)) W := fun W => run_string_add_sum (w := W) _ _ (by have h := HXF.out; have h2 : (⟨#[120]⟩ : ByteArray).size = 1 := rfl; first | omega | (unfold maxLen; omega))
                  have HA8 := Lib.hid (show Ra W1 (wc.setCell ⟨B, k * 13 + 4, none⟩ (.string (x.fmt ++ ⟨#[120]⟩))) G9 (G9 + 1) (({ t with rules := RR, zones := ZZ } : SV).setEra32 a y k { x with fmt := x.fmt ++ ⟨#[120]⟩ }) wA cw M from HA0.out.eraMore (t := { t with rules := RR, zones := ZZ }) HY.out HYA.out hlk 4 { x with fmt := x.fmt ++ ⟨#[120]⟩ } (.string (x.fmt ++ ⟨#[120]⟩)) (by decide) rfl)
                  have r11 : (wc.setCell ⟨B, k * 13 + 4, none⟩ (.string (x.fmt ++ ⟨#[120]⟩))).cell? ⟨B, k * 13 + 11, none⟩ = some (.int .i64 x.asec) := by rw [World.cell?_setCell_other _ _ _ _ (fun e => by injection e with _ e _; omega)]; exact HCL.out 11 _ rfl
                  have f11 : (wc.setCell ⟨B, k * 13 + 4, none⟩ (.string (x.fmt ++ ⟨#[120]⟩))).frozen? ⟨B, k * 13 + 11, none⟩ = false := by rw [World.frozen?_setCell]; exact HFR.out (k * 13 + 11)
                  have HA16 := Lib.hid (show Ra W1 ((wc.setCell ⟨B, k * 13 + 4, none⟩ (.string (x.fmt ++ ⟨#[120]⟩))).setCell ⟨B, k * 13 + 11, none⟩ (.int .i64 (wrap64 (x.asec + d)))) G9 (G9 + 1) (({ t with rules := RR, zones := ZZ } : SV).setEra32 a y k { x with fmt := x.fmt ++ ⟨#[120]⟩, asec := wrap64 (x.asec + d) }) wA cw M from HA8.out.eraMore (t := { t with rules := RR, zones := ZZ }) HY.out HYA.out hlk 11 { x with fmt := x.fmt ++ ⟨#[120]⟩, asec := wrap64 (x.asec + d) } (.int .i64 (wrap64 (x.asec + d))) (by decide) rfl)
                  have hal := (Below.refl ((wc.setCell ⟨B, k * 13 + 4, none⟩ (.string (x.fmt ++ ⟨#[120]⟩))).setCell ⟨B, k * 13 + 11, none⟩ (.int .i64 (wrap64 (x.asec + d)))).heap.size ((wc.setCell ⟨B, k * 13 + 4, none⟩ (.string (x.fmt ++ ⟨#[120]⟩))).setCell ⟨B, k * 13 + 11, none⟩ (.int .i64 (wrap64 (x.asec + d))))).alloc (Nat.le_refl _) (.cells #[.int .i64 2, .int .i64 a, .int .i64 k, .int .i64 24] 87)
                  have HAA := Lib.hid (HA16.out.below hal)
                  have HNB := Lib.hid (Blk.newAt ((wc.setCell ⟨B, k * 13 + 4, none⟩ (.string (x.fmt ++ ⟨#[120]⟩))).setCell ⟨B, k * 13 + 11, none⟩ (.int .i64 (wrap64 (x.asec + d)))) wc.heap.size (by simp) 87 #[.int .i64 2, .int .i64 a, .int .i64 k, .int .i64 24])
                  have HSZ := Lib.hid (show G9 + 1 ≤ (((wc.setCell ⟨B, k * 13 + 4, none⟩ (.string (x.fmt ++ ⟨#[120]⟩))).setCell ⟨B, k * 13 + 11, none⟩ (.int .i64 (wrap64 (x.asec + d)))).alloc (.cells #[.int .i64 2, .int .i64 a, .int .i64 k, .int .i64 24] 87)).heap.size from by have := HAA.out.box.lt; omega)
                  obtain ⟨i0, hi, hz0, hz1, hz2⟩ := info_parts infoChange
                  clear hal hlk HRA HRZ
                  go_wp2_with (at_builtin; refine wpList_append_own _ rfl _ _ 81 rfl (G9 + 1) 87 i0 _ 4 32 Tryd.underlying81 hi hz0 hz1 hz2 rfl (by decide) _ _ _ rfl HAA.out.want ⟨wc.heap.size, 0, none⟩ 1 1 [.int .i64 2, .int .i64 a, .int .i64 k, .int .i64 24] rfl rfl (blk_cells HNB.out) (by simp [Value.oneCell']) (by have := HLL.out; simp only [maxLen]; omega) (by have := HLL.out; omega) HSZ.out ?_)
                  intro v1 W6 hown hgr hne
                  obtain ⟨wA', cw', rfl⟩ := row_is32 hown
                  have HAB := Lib.hid (HAA.out.grown (L' := M ++ [P32.mkE a k 24]) hgr (show RowOf W6 (G9 + 1) 87 4 P32.CV.cells wA' cw' (M ++ [P32.mkE a k 24]) from by unfold RowOf; rw [List.length_append, List.flatMap_append]; exact hown))
                  clear hown hgr hne HAA HNB HSZ hi hz0 hz1 hz2
                  go_wp2_with fail
                  go_roundw
                  case rel => exact ⟨k + 1, n + 1, _, wA', cw', _, by have := HLK.out; omega, by go_num, by go_num, by have := HN.out; omega, by rw [List.length_append]; rfl, HAB.out, HRZ2.out⟩
                  case measure => have := HLK.out; simp [intOf]; omega
                · have e4 : Go.bits .and .i64 28 4 = 4 := by decide
                  have e8 : Go.bits .and .i64 28 8 = 8 := by decide
                  have e16 : Go.bits .and .i64 28 16 = 16 := by decide
                  have HD := Lib.hid (show P32.diffE x ({ x with off := wrap64 (x.off + d), fmt := x.fmt ++ ⟨#[120]⟩, asec := wrap64 (x.asec + d) } : EV) = 28 ∧ P32.sameE x ({ x with off := wrap64 (x.off + d), fmt := x.fmt ++ ⟨#[120]⟩, asec := wrap64 (x.asec + d) } : EV) = true from by have h := P32.newE_diff HD0.out HDB.out 7 (by decide) (show (28 : Int) = 7 * 4 by decide) x; simpa [P32.newE] using h)
                  have HRZ2 := Lib.hid (HRZ.out.more HZ.out HY.out HX.out HD.out (by decide))
                  have hlk : k < y.eras.length := (List.getElem?_eq_some_iff.1 HYX.out).1
                  have HA0 := Lib.hid (show Ra W1 wc G9 (G9 + 1) (({ t with rules := RR, zones := ZZ } : SV).setEra32 a y k x) wA cw M from by rw [P32.setEra_get (t := { t with rules := RR, zones := ZZ }) HY.out HYX.out]; exact HRA.out)
                  have r0 : wc.cell? ⟨B, k * 13, none⟩ = some (.int .i64 x.off) := HCL.out 0 _ rfl
                  have f0 : wc.frozen? ⟨B, k * 13, none⟩ = false := HFR.out (k * 13)
                  have HA4 := Lib.hid (show Ra W1 (wc.setCell ⟨B, k * 13, none⟩ (.int .i64 (wrap64 (x.off + d)))) G9 (G9 + 1) (({ t with rules := RR, zones := ZZ } : SV).setEra32 a y k { x with off := wrap64 (x.off + d) }) wA cw M from HA0.out.eraMore (t := { t with rules := RR, zones := ZZ }) HY.out HYA.out hlk 0 { x with off := wrap64 (x.off + d) } (.int .i64 (wrap64 (x.off + d))) (by decide) rfl)
                  have r4 : (wc.setCell ⟨B, k * 13, none⟩ (.int .i64 (wrap64 (x.off + d)))).cell? ⟨B, k * 13 + 4, none⟩ = some (.string x.fmt) := by rw [World.cell?_setCell_other _ _ _ _ (fun e => by injection e with _ e _; omega)]; exact HCL.out 4 _ rfl
                  have f4 : (wc.setCell ⟨B, k * 13, none⟩ (.int .i64 (wrap64 (x.off + d)))).frozen? ⟨B, k * 13 + 4, none⟩ = false := by rw [World.frozen?_setCell]; exact HFR.out (k * 13 + 4)
                  have hcat : ∀ W, (Op.stringOp .add x.fmt ⟨#[120]⟩).run Tryd.prog W = .ok (.string (x.fmt ++ ⟨#[120]⟩)) W := fun W => run_string_add_sum (w := W) _ _ (by have h := HXF.out; have h2 : (⟨#[120]⟩ : ByteArray).size = 1 := rfl; first | omega | (unfold maxLen; omega))
                  have HA8 := Lib.hid (show Ra W1 ((wc.setCell ⟨B, k * 13, none⟩ (.int .i64 (wrap64 (x.off + d)))).setCell ⟨B, k * 13 + 4, none⟩ (.string (x.fmt ++ ⟨#[120]⟩))) G9 (G9 + 1) (({ t with rules := RR, zones := ZZ } : SV).setEra32 a y k { x with off := wrap64 (x.off + d), fmt := x.fmt ++ ⟨#[120]⟩ }) wA cw M from HA4.out.eraMore (t := { t with rules := RR, zones := ZZ }) HY.out HYA.out hlk 4 { x with off := wrap64 (x.off + d), fmt := x.fmt ++ ⟨#[120]⟩ } (.string (x.fmt ++ ⟨#[120]⟩)) (by decide) rfl)
                  have r11 : ((wc.setCell ⟨B, k * 13, none⟩ (.int .i64 (wrap64 (x.off + d)))).setCell ⟨B, k * 13 + 4, none⟩ (.string (x.fmt ++ ⟨#[120]⟩))).cell? ⟨B, k * 13 + 11, none⟩ = some (.int .i64 x.asec) := by rw [World.cell?_setCell_other _ _ _ _ (fun e => by injection e with _ e _; omega)]; rw [World.cell?_setCell_other _ _ _ _ (fun e => by injection e with _ e _; omega)]; exact HCL.out 11 _ rfl
                  have f11 : ((wc.setCell ⟨B, k * 13, none⟩ (.int .i64 (wrap64 (x.off + d)))).setCell ⟨B, k * 13 + 4, none⟩ (.string (x.fmt ++ ⟨#[120]⟩))).frozen? ⟨B, k * 13 + 11, none⟩ = false := by rw [World.frozen?_setCell]; rw [World.frozen?_setCell]; exact HFR.out (k * 13 + 11)
                  have HA16 := Lib.hid (show Ra W1 (((wc.setCell ⟨B, k * 13, none⟩ (.int .i64 (wrap64 (x.off + d)))).setCell ⟨B, k * 13 + 4, none⟩ (.string (x.fmt ++ ⟨#[120]⟩))).setCell ⟨B, k * 13 + 11, none⟩ (.int .i64 (wrap64 (x.asec + d)))) G9 (G9 + 1) (({ t with rules := RR, zones := ZZ } : SV).setEra32 a y k { x with off := wrap64 (x.off + d), fmt := x.fmt ++ ⟨#[120]⟩, asec := wrap64 (x.asec + d) }) wA cw M from HA8.out.eraMore (t := { t with rules := RR, zones := ZZ }) HY.out HYA.out hlk 11 { x with off := wrap64 (x.off + d), fmt := x.fmt ++ ⟨#[120]⟩, asec := wrap64 (x.asec + d) } (.int .i64 (wrap64 (x.asec + d))) (by decide) rfl)
                  have hal := (Below.refl (((wc.setCell ⟨B, k * 13, none⟩ (.int .i64 (wrap64 (x.off + d)))).setCell ⟨B, k * 13 + 4, none⟩ (.string (x.fmt ++ ⟨#[120]⟩))).setCell ⟨B, k * 13 + 11, none⟩ (.int .i64 (wrap64 (x.asec + d)))).heap.size (((wc.setCell ⟨B, k * 13, none⟩ (.int .i64 (wrap64 (x.off + d)))).setCell ⟨B, k * 13 + 4, none⟩ (.string (x.fmt ++ ⟨#[120]⟩))).setCell ⟨B, k * 13 + 11, none⟩ (.int .i64 (wrap64 (x.asec + d))))).alloc (Nat.le_refl _) (.cells #[.int .i64 2, .int .i64 a, .int .i64 k, .int .i64 28] 87)
                  have HAA := Lib.hid (HA16.out.below hal)
                  have HNB := Lib.hid (Blk.newAt (((wc.setCell ⟨B, k * 13, none⟩ (.int .i64 (wrap64 (x.off + d)))).setCell ⟨B, k * 13 + 4, none⟩ (.string (x.fmt ++ ⟨#[120]⟩))).setCell ⟨B, k * 13 + 11, none⟩ (.int .i64 (wrap64 (x.asec + d)))) wc.heap.size (by simp) 87 #[.int .i64 2, .int .i64 a, .int .i64 k, .int .i64 28])
                  have HSZ := Lib.hid (show G9 + 1 ≤ ((((wc.setCell ⟨B, k * 13, none⟩ (.int .i64 (wrap64 (x.off + d)))).setCell ⟨B, k * 13 + 4, none⟩ (.string (x.fmt ++ ⟨#[120]⟩))).setCell ⟨B, k * 13 + 11, none⟩ (.int .i64 (wrap64 (x.asec + d)))).alloc (.cells #[.int .i64 2, .int .i64 a, .int .i64 k, .int .i64 28] 87)).heap.size from by have := HAA.out.box.lt; omega)
                  obtain ⟨i0, hi, hz0, hz1, hz2⟩ := info_parts infoChange
                  clear hal hlk HRA HRZ
                  go_wp2_with (at_builtin; refine wpList_append_own _ rfl _ _ 81 rfl (G9 + 1) 87 i0 _ 4 32 Tryd.underlying81 hi hz0 hz1 hz2 rfl (by decide) _ _ _ rfl HAA.out.want ⟨wc.heap.size, 0, none⟩ 1 1 [.int .i64 2, .int .i64 a, .int .i64 k, .int .i64 28] rfl rfl (blk_cells HNB.out) (by simp [Value.oneCell']) (by have := HLL.out; simp only [maxLen]; omega) (by have := HLL.out; omega) HSZ.out ?_)
                  intro v1 W6 hown hgr hne
                  obtain ⟨wA', cw', rfl⟩ := row_is32 hown
                  have HAB := Lib.hid (HAA.out.grown (L' := M ++ [P32.mkE a k 28]) hgr (show RowOf W6 (G9 + 1) 87 4 P32.CV.cells wA' cw' (M ++ [P32.mkE a k 28]) from by unfold RowOf; rw [List.length_append, List.flatMap_append]; exact hown))
                  clear hown hgr hne HAA HNB HSZ hi hz0 hz1 hz2
                  go_wp2_with fail
                  go_roundw
                  case rel => exact ⟨k + 1, n + 1, _, wA', cw', _, by have := HLK.out; omega, by go_num, by go_num, by have := HN.out; omega, by rw [List.length_append]; rfl, HAB.out, HRZ2.out⟩
                  case measure => have := HLK.out; simp [intOf]; omega
            · have hke : k = z.eras.length := by omega
              have hki : ¬ (k : Int) < (z.eras.length : Int) := by omega
              have HRZ2 := Lib.hid (hrz.next HZ.out hy hke)
              have hn2 : n ≤ 20 * (a + 1) := by have := HF.out.2.2.2.2 z (List.mem_of_getElem? HZ.out); omega
              have HN2 := Lib.hid hn2
              clear hra hrz hy hk hn hn2 hlk hke hzl
              go_wp2_with fail
              go_roundw
              case rel => exact ⟨a + 1, n, ZZ, wA, cw, M, by have := HLT.out; omega, by go_num, rfl, HN2.out, rfl, HRA.out, HRZ2.out⟩
              case measure => have := HLT.out; simp [intOf]; omega
        · have hae : a = t.zones.length := by omega
          have hai : ¬ (a : Int) < (t.zones.length : Int) := by omega
          have HDN := Lib.hid (show P32.okS s { t with rules := RR, zones := ZZ } ∧ M = P32.chS s { t with rules := RR, zones := ZZ } from P32.RelZ.done (t := { t with rules := RR, zones := ZZ }) ⟨HRN.out.len, HRN.out.ok, HRN.out.rest, HRN.out.list⟩ (by rw [← HZ0.out.1, ← hae]; exact hrz) HLK.out.1)
          have HFW := Lib.hid (show fewW { t with rules := RR, zones := ZZ } from few_like HF.out HRN.out.len hrz.len hrz.like HLK.out.1)
          have HMM := Lib.hid (show M.length ≤ 400 by have q := hrz.lenL HF.out.2.2.2.2; have := HL0.out; have := HZ0.out.1; have := HF.out.2.1; omega)
          have p3 := (hra.box.cell 3).trans rfl
          have hal := (Below.refl wo.heap.size wo).alloc (Nat.le_refl _) (.cells #[.string ⟨#[82]⟩] 9)
          have HA3 := Lib.hid (hra.below hal)
          have HNB := Lib.hid (Blk.new wo 9 #[.string ⟨#[82]⟩])
          have HLS := Lib.hid (show t.shifts.length ≤ 40 by rw [HLK.out.2]; exact HF.out.2.2.2.1)
          have HSZ := Lib.hid (show W1.heap.size ≤ (wo.alloc (.cells #[.string ⟨#[82]⟩] 9)).heap.size from HA3.out.bel.size)
          obtain ⟨i0, hi, hz0, hz1, hz2⟩ := info_parts infoStr32
          clear hra hrz hal ha hn hlt hae HRA HRZ
          go_wp2_with (at_builtin; refine wpList_append_own _ rfl _ _ 30 rfl W1.heap.size 9 i0 _ 1 16 Tryd.underlying30 hi hz0 hz1 hz2 rfl (by decide) _ _ _ rfl HA3.out.cp.shifts.2 ⟨wo.heap.size, 0, none⟩ 1 1 [.string ⟨#[82]⟩] rfl rfl (blk_cells HNB.out) (by simp [Value.oneCell']) (by have := HLS.out; show t.shifts.length + 1 ≤ maxLen; simp only [maxLen]; omega) (by have := HLS.out; show (t.shifts.length + 1) * 16 ≤ _; omega) HSZ.out ?_)
          intro v1 W6 hown hgr hne
          obtain ⟨hA', hc', rfl⟩ := row_is32 hown
          have HA4 := Lib.hid (HA3.out.shift hgr (show RowOf W6 W1.heap.size 9 1 (fun b : ByteArray => [Value.string b]) hA' hc' (t.shifts ++ [⟨#[82]⟩]) from by unfold RowOf; rw [List.length_append, List.flatMap_append]; exact hown))
          have ho := blk_other32 HA3.out.box HA3.out.cp.shifts.2 (by decide) hgr
          have k3 := (ho.cell 3).trans rfl
          have g3 := ho.frozen 3
          clear hown hgr hne HA3 HNB HSZ hi hz0 hz1 hz2 ho p3
          have HX5 := Lib.hid (HX1.out.below HA4.out.bel HX1.out.lt)
          have HS5 := Lib.hid (HS1.out.below HA4.out.bel)
          have c0 := (HX5.out.cell 0).trans rfl; have c1 := (HX5.out.cell 1).trans rfl; have c2 := (HX5.out.cell 2).trans rfl; have c3 := (HX5.out.cell 3).trans rfl
          have d0 := (HA4.out.box.cell 0).trans rfl; have d1 := (HA4.out.box.cell 1).trans rfl; have d2 := (HA4.out.box.cell 2).trans rfl; have d3 := (HA4.out.box.cell 3).trans rfl
          go_wp2_with fail
          generalize (W6.setCell ⟨G9, 3, none⟩ (.slice hA' (t.shifts.length + 1) hc')) = WF at HA4 HX5 HS5 ⊢
          have HU := Lib.hid (show P32.okS s ({ t with rules := RR, zones := ZZ, shifts := t.shifts ++ [⟨#[82]⟩], hA := hA', hc := hc' } : SV) ∧ P32.chS s ({ t with rules := RR, zones := ZZ, shifts := t.shifts ++ [⟨#[82]⟩], hA := hA', hc := hc' } : SV) = M from ⟨HDN.out.1, HDN.out.2.symm⟩)
          have HFU := Lib.hid (show fewW ({ t with rules := RR, zones := ZZ, shifts := t.shifts ++ [⟨#[82]⟩], hA := hA', hc := hc' } : SV) from HFW.out)
          have HZU := Lib.hid (show SrcSz ({ t with rules := RR, zones := ZZ, shifts := t.shifts ++ [⟨#[82]⟩], hA := hA', hc := hc' } : SV) from fewW.sz HFU.out (by show (t.shifts ++ [(⟨#[82]⟩ : ByteArray)]).length ≤ 1000; have := HLS.out; simp; omega))
          have HZS := Lib.hid (show SrcSz s from fewW.sz HF.out.w (by have := HF.out.2.2.2.1; omega))
          clear c0 c1 c2 c3 d0 d1 d2 d3
          rw [show t.shifts.length + 1 = (t.shifts ++ [(⟨#[82]⟩ : ByteArray)]).length from by simp]
          clear k3 g3
          refine (yes_call (a := s) (b := ({ t with rules := RR, zones := ZZ, shifts := t.shifts ++ [⟨#[82]⟩], hA := hA', hc := hc' } : SV)) HU.out.1 HU.out.2 HS5.out HA4.out.cp.src HF.out.w HZU.out).mono ?_
          rintro e W7 ⟨A1, q1, rfl, hC1, hc⟩
          have HA4' := Lib.hid (HA4.out.below hc); have HX5' := Lib.hid (HX5.out.below hc HX5.out.lt); have HS5' := Lib.hid (HS5.out.below hc)
          clear HA4 HX5 HS5
          have HA4 := HA4'; have HX5 := HX5'; have HS5 := HS5'
          clear HA4' HX5' HS5'
          have HC1 := Lib.hid hC1
          clear hC1 hc
          have c0 := (HX5.out.cell 0).trans rfl; have c1 := (HX5.out.cell 1).trans rfl; have c2 := (HX5.out.cell 2).trans rfl; have c3 := (HX5.out.cell 3).trans rfl
          have d0 := (HA4.out.box.cell 0).trans rfl; have d1 := (HA4.out.box.cell 1).trans rfl; have d2 := (HA4.out.box.cell 2).trans rfl; have d3 := (HA4.out.box.cell 3).trans rfl
          rw [show (t.shifts ++ [(⟨#[82]⟩ : ByteArray)]).length = t.shifts.length + 1 from by simp] at d3
          go_wp2_with fail
          clear c0 c1 c2 c3 d0 d1 d2 d3
          rw [show t.shifts.length + 1 = (t.shifts ++ [(⟨#[82]⟩ : ByteArray)]).length from by simp]
          refine (yes_call (a := ({ t with rules := RR, zones := ZZ, shifts := t.shifts ++ [⟨#[82]⟩], hA := hA', hc := hc' } : SV)) (b := s) (M := M) (P32.okS_symm HU.out.1) (by rw [P32.chS_symm HU.out.1]; exact HU.out.2) HA4.out.cp.src HS5.out HFU.out HZS.out).mono ?_
          rintro e W8 ⟨A2, q2, rfl, hC2, hc⟩
          have HA4' := Lib.hid (HA4.out.below hc); have HX5' := Lib.hid (HX5.out.below hc HX5.out.lt); have HS5' := Lib.hid (HS5.out.below hc)
          clear HA4 HX5 HS5
          have HA4 := HA4'; have HX5 := HX5'; have HS5 := HS5'
          clear HA4' HX5' HS5'
          have HC1' := Lib.hid (HC1.out.below hc); have HC2 := Lib.hid hC2
          clear hC2 hc HC1
          have c0 := (HX5.out.cell 0).trans rfl; have c1 := (HX5.out.cell 1).trans rfl; have c2 := (HX5.out.cell 2).trans rfl; have c3 := (HX5.out.cell 3).trans rfl
          have d0 := (HA4.out.box.cell 0).trans rfl; have d1 := (HA4.out.box.cell 1).trans rfl; have d2 := (HA4.out.box.cell 2).trans rfl; have d3 := (HA4.out.box.cell 3).trans rfl
          rw [show (t.shifts ++ [(⟨#[82]⟩ : ByteArray)]).length = t.shifts.length + 1 from by simp] at d3
          go_wp2_with fail
          clear c0 c1 c2 c3 d0 d1 d2 d3
          rw [show t.shifts.length + 1 = (t.shifts ++ [(⟨#[82]⟩ : ByteArray)]).length from by simp]
          refine (yes_call (a := ({ t with rules := RR, zones := ZZ, shifts := t.shifts ++ [⟨#[82]⟩], hA := hA', hc := hc' } : SV)) (b := ({ t with rules := RR, zones := ZZ, shifts := t.shifts ++ [⟨#[82]⟩], hA := hA', hc := hc' } : SV)) (M := []) (P32.okS_self _) (P32.chS_self _) HA4.out.cp.src HA4.out.cp.src HFU.out HZU.out).mono ?_
          rintro e W9 ⟨A3, q3, rfl, _, hc⟩
          have HCa := Lib.hid (HC1'.out.below hc); have HCb := Lib.hid (HC2.out.below hc); have HWW := Lib.hid (show ChIn W9 wA M from (HA4.out.below hc).want.cellsIn (fun _ => rfl))
          have HBF := Lib.hid (HB1.out.trans ((HA4.out.below hc).bel.mono HB1.out.size))
          clear hc HC1' HC2
          simp only [List.length_nil]
          go_wp2_with fail
          refine (same_call32 HCa.out HWW.out (by have := HMM.out; omega)).mono ?_
          rintro e W10 ⟨rfl, n1, rfl⟩
          go_wp2_with fail
          refine (same_call32 (W := W9.drewN n1) HCb.out HWW.out (by have := HMM.out; omega)).mono ?_
          rintro e W11 ⟨rfl, n2, rfl⟩
          go_wp2_with fail
          refine (works32_any _ (HV.out.below (below_drewN HBF.out (n1 + n2)))).mono ?_
          rintro e W12 ⟨rfl, hc⟩
          have HBE := Lib.hid ((below_drewN HBF.out (n1 + n2)).trans (hc.mono (below_drewN HBF.out (n1 + n2)).size))
          clear hc
          go_wp2_with fail
          go_ret
          exact ⟨rfl, HBE.out⟩
end Go.Proofs.YtlideagcmhlkeaaDoor

/- ReportAgain: for every input whose arguments hold together at most 1048576 values and letters the law returns true, and each argument reads as before. The listed package-level variables read as listed; the card ties them to the program's text. -/
namespace Go.Proofs.YtlideagcmhlkeaaDoor.lawReportAgain
open Go.ChangeShapes Go.WideShapes Go.ChangeAt Go.RowKit Go.Joins
open Go.ChangeMaps (open_string shut_string)
set_option linter.unusedVariables false
set_option linter.unusedSimpArgs false

theorem laidOut : laidOutB Tryd.prog = true := by kernel_rfl
theorem own : ownKnob Tryd.prog.godebug = none := by kernel_rfl
theorem door_met (os : Os) (args : Array Value) : laidMetH Tryd.prog Rows.reportAgainUptoRow.laid ((World.doorLaid Tryd.prog 400 os).forCall (fun _ _ => 0) ⟨#[], args, []⟩).memory :=
  laidMetH_of_parts3 (fuel := 8) (laidMet_of_run' 8 (by kernel_rfl) (by kernel_rfl)) (by kernel_rfl) (by kernel_rfl)
theorem reads (os : Os) {H : Type} (enc : TypeId × Value → H) : ∃ places, DataW.whole enc Tryd.prog ((World.doorLaid Tryd.prog 400 os).forCall (fun _ _ => 0) ⟨#[], #[.agg #[.slice none 0 0, .slice none 0 0, .slice none 0 0, .slice none 0 0], .slice none 0 0, .slice none 0 0, .int .i64 0], []⟩).memory Tryd.f11.params.toList Rows.reportAgainSpec.vars false (#[.agg #[.slice none 0 0, .slice none 0 0, .slice none 0 0, .slice none 0 0], .slice none 0 0, .slice none 0 0, .int .i64 0] : Array Value).toList 8 = some ([.agg [.nil, .nil, .nil, .nil], .nil, .nil, .lit (.int .i64 0)], [], places) :=
  ⟨[], by kernel_rfl⟩
set_option maxRecDepth 100000 in
theorem lifted (os : Os) (started : os.Started) (H : Type) (enc : TypeId × Value → H) (F : Stop.Interp) :
    ReturnsInHanded {} Tryd.checked os 11 .any ((Rows.OpenSpec.upto Rows.reportAgainSpec).preRow enc Tryd.prog Tryd.f11 Rows.reportAgainUptoRow.domain false Rows.reportAgainUptoRow.laid)
      (((Rows.OpenSpec.upto Rows.reportAgainSpec).at F).post enc Tryd.prog Tryd.f11 false true false false) := by
  obtain ⟨places, hx⟩ := reads os enc
  refine returnsInHanded_of_row (C := Tryd.checked) (s := Rows.OpenSpec.upto Rows.reportAgainSpec) own started (by kernel_rfl) Tryd.func11
    (witness_row_shaped (enc := enc) (C := Tryd.checked) (os := os) false (World.doorLaid Tryd.prog 400 os) #[.agg #[.slice none 0 0, .slice none 0 0, .slice none 0 0, .slice none 0 0], .slice none 0 0, .slice none 0 0, .int .i64 0] rfl (World.shaped_of_RefB (by kernel_rfl) (by kernel_rfl)) (by kernel_rfl)
      (OpenSpec.preRow_of_cond 8 hx (by kernel_rfl) (fun k hk => by cases hk; kernel_rfl) (by kernel_rfl) (door_met os _))) ?_
  intro W base args ds gs before hval0 hW _ hcond _ hL hsh _
  have hval : ∀ (j : Nat) t v, Tryd.f11.params[j]? = some t → args[j]? = some v → Value.okWide Tryd.prog W .any base t v := hval0
  have hbk0 : Rows.uptoSmall H (ds ++ gs) = true := hcond _ rfl
  have hW' := hW
  obtain ⟨p, q, hA0, hV, rfl, hfz, hnd⟩ := hW
  have hA : DataW.TrodAll enc Tryd.prog W 0 (fun _ => true) true Tryd.f11.params.toList args.toList ds p := hA0
  rw [Tryd.params11] at hA hval
  obtain ⟨v0, vs0, d0, ds0, p0, q0, hargs, rfl, rfl, h0, r0⟩ := trodAll_cons hA
  obtain ⟨v1, vs1, d1, ds1, p1, q1, rfl, rfl, rfl, h1, r1⟩ := trodAll_cons r0
  obtain ⟨v2, vs2, d2, ds2, p2, q2, rfl, rfl, rfl, h2, r2⟩ := trodAll_cons r1
  obtain ⟨v3, vs3, d3, ds3, p3, q3, rfl, rfl, rfl, h3, r3⟩ := trodAll_cons r2
  obtain ⟨rfl, rfl, rfl⟩ := trodAll_nil r3
  obtain rfl : args = #[v0, v1, v2, v3] := by cases args; simp_all
  obtain ⟨rfl, rfl⟩ := trodVars_none hV
  have hbk := of_decide_eq_true hbk0
  simp only [List.cons_append, List.nil_append, List.append_nil, Rows.uptoBulkAll] at hbk
  have hB0 : Rows.uptoBulk d0 ≤ 1048576 := by omega
  have hB1 : Rows.uptoBulk d1 ≤ 1048576 := by omega
  have hB2 : Rows.uptoBulk d2 ≤ 1048576 := by omega
  have hB3 : Rows.uptoBulk d3 ≤ 1048576 := by omega
  clear hbk hbk0 hcond
  have h0k := h0
  have h1k := h1
  have h2k := h2
  have h3k := h3
  have hlt : ∀ x ∈ (p0 ++ (p1 ++ (p2 ++ (p3 ++ [])))) ++ [], x.block < W.heap.size := fun x hx => by simpa using hW'.lt x hx
  have hvars := vars_of_laid hL
  have hk0 : ∀ W', Below W.heap.size W W' → DataW.Trod enc Tryd.prog W' 0 (fun b => decide (b < W.heap.size)) true 32 v0 d0 p0 := fun W' bel => Below.trod laidOut (by kernel_rfl) (of_decide_eq_true (by kernel_rfl)) h0k bel (fun x hx => hlt x (by simp [hx]))
  have hk1 : ∀ W', Below W.heap.size W W' → DataW.Trod enc Tryd.prog W' 0 (fun b => decide (b < W.heap.size)) true 24 v1 d1 p1 := fun W' bel => Below.trod laidOut (by kernel_rfl) (of_decide_eq_true (by kernel_rfl)) h1k bel (fun x hx => hlt x (by simp [hx]))
  have hk2 : ∀ W', Below W.heap.size W W' → DataW.Trod enc Tryd.prog W' 0 (fun b => decide (b < W.heap.size)) true 24 v2 d2 p2 := fun W' bel => Below.trod laidOut (by kernel_rfl) (of_decide_eq_true (by kernel_rfl)) h2k bel (fun x hx => hlt x (by simp [hx]))
  have hk3 : ∀ W', Below W.heap.size W W' → DataW.Trod enc Tryd.prog W' 0 (fun b => decide (b < W.heap.size)) true 2 v3 d3 p3 := fun W' bel => Below.trod laidOut (by kernel_rfl) (of_decide_eq_true (by kernel_rfl)) h3k bel (fun x hx => hlt x (by simp [hx]))
  obtain ⟨⟨l0⟩, rfl, hz0⟩ := okWide_struct Tryd.underlying32 (hval 0 32 v0 rfl rfl)
  obtain ⟨f0, hf0⟩ := h0
  have hl0 : l0.length = 4 := hz0.trans (by kernel_rfl)
  obtain ⟨s0, hcs0, hS0, hF0⟩ := open_sourceB hl0 hf0 hB0
  subst hcs0
  obtain ⟨A1, c1, L1, rfl, hll1, hR1, hG1⟩ := open_arg (m := 1) (f := u8Cell) (Good := fun n => 0 ≤ n ∧ n ≤ 255) Tryd.underlying24 (by kernel_rfl) (by decide) (fun fuel cs x hl hx => by obtain ⟨n, e, _, hw⟩ := DataW.trod_int Tryd.underlying5 hx; exact ⟨n, e, b8 hw⟩) (okWide_slice Tryd.underlying24 (hval 1 24 v1 rfl rfl)) h1
  obtain ⟨A2, c2, L2, rfl, hll2, hR2, hG2⟩ := open_arg (m := 1) (f := u8Cell) (Good := fun n => 0 ≤ n ∧ n ≤ 255) Tryd.underlying24 (by kernel_rfl) (by decide) (fun fuel cs x hl hx => by obtain ⟨n, e, _, hw⟩ := DataW.trod_int Tryd.underlying5 hx; exact ⟨n, e, b8 hw⟩) (okWide_slice Tryd.underlying24 (hval 2 24 v2 rfl rfl)) h2
  obtain ⟨a3, rfl, rfl, rfl, w3⟩ := open_int Tryd.underlying2 (hval 3 2 v3 rfl rfl) h3
  clear hA0 hval0
  refine (walkReportAgain s0 A1 c1 L1 A2 c2 L2 a3 W hS0 (fun z hz e he => (hF0.eras z hz e he).2) hll1 hR1 hG1 hll2 hR2 hG2 (b64 w3) hvars).mono fun e W' ⟨he, bel⟩ => ?_
  subst he
  exact ⟨_, rfl, _, _, _, [], _, [], hW', trodAll_mk1 (shut_bool Tryd.underlying4 _), trodAll_cons_mk (hk0 W' bel) (trodAll_cons_mk (hk1 W' bel) (trodAll_cons_mk (hk2 W' bel) (trodAll_cons_mk (hk3 W' bel) (trodAll_mk0)))), rfl, World.keptBut_mono (fun p hp => ⟨hp, Or.inr (by simpa using hp)⟩) (bel.frame _), fun h => by cases h⟩

theorem said : Rows.ReportAgainUptoSaid :=
  OpenClaim.holds_of_cond 11 Tryd.f11 rfl rfl rfl rfl rfl rfl rfl ⟨rfl, rfl, rfl, rfl, rfl⟩ rfl rfl rfl rfl rfl (by kernel_rfl) Tryd.func11 (by kernel_rfl)
    (of_decide_eq_true (by kernel_rfl)) (by unfold Func.isWrapper; first | (rw [if_pos (by decide +kernel)]; kernel_rfl) | (rw [if_neg (by decide +kernel)]; exact ⟨rfl, rfl⟩))
    (fun os started H enc _ F => by rw [OpenClaim.pre_eq_preRow]; exact lifted os started H enc F)

/-- No parameter wants a stand-in; the program's own looks are off: what the card asks. -/
theorem plain (f : FuncId) (fn : Func) (hf : Tryd.pinned.checked.prog.funcNamed Rows.reportAgainUptoRow.func = some f) (hfn : Tryd.pinned.checked.prog.funcs[f]? = some fn) :
    true = Tryd.pinned.checked.prog.looks [] ∧ ∀ (j : Nat) t, fn.params[j]? = some t → Tryd.pinned.checked.prog.wantsStandIn t = false := by
  obtain rfl : f = 11 := Option.some.inj ((show Tryd.prog.funcNamed Rows.reportAgainUptoRow.func = some 11 by kernel_rfl).symm.trans hf) |>.symm
  obtain rfl : fn = Tryd.f11 := (Option.some.inj (Tryd.func11.symm.trans hfn)).symm
  refine ⟨by kernel_rfl, fun j t ht => ?_⟩
  rw [Tryd.params11] at ht
  have hm := Array.mem_of_getElem? ht
  have hm2 : t = 32 ∨ t = 24 ∨ t = 24 ∨ t = 2 := by simpa using hm
  rcases hm2 with rfl | rfl | rfl | rfl
  · exact (show Tryd.prog.wantsStandIn 32 = false by kernel_rfl)
  · exact (show Tryd.prog.wantsStandIn 24 = false by kernel_rfl)
  · exact (show Tryd.prog.wantsStandIn 24 = false by kernel_rfl)
  · exact (show Tryd.prog.wantsStandIn 2 = false by kernel_rfl)
/-- THE CARD -/
theorem card : Rows.ReportAgainUptoCardSaid :=
  Claim7.holds_tied_plain_at .later [] _ _ _ _ said (fun _ h => by cases h) (by kernel_rfl) (fun _ h => by cases h) reportAgainUpto_row_tie rfl ⟨rfl, rfl⟩ (by kernel_rfl) rfl plain (by kernel_rfl)
end Go.Proofs.YtlideagcmhlkeaaDoor.lawReportAgain
