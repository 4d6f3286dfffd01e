/- The law ReportLines (chapter 32), walked. -/
import Derived.Test.YtggdfgdnpicepaaDoorLaws32b0
namespace Go.Proofs.YtggdfgdnpicepaaDoor
open Go.RowKit
set_option linter.unusedVariables false
set_option linter.unusedSimpArgs false

set_option maxRecDepth 100000 in
set_option maxHeartbeats 8000000 in
theorem walkReportLines (A : Option Addr) (c : Nat) (L : List Int) (which how : Int) (w : World) (hl : L.length ≤ maxLen) (hC : CellsIn 1 numCells w A L) (hN : ∀ n ∈ L, (Lit.int .u16 n).wf = true) (hw : (Lit.int .u8 which).wf = true) (hh : (Lit.int .u8 how).wf = true) (hv : Vars w) :
    Calls Tryd.prog 7 #[.slice A L.length c, .int .u8 which, .int .u8 how] w fun e w' => e = .returned (.bool true) ∧ Below w.heap.size w w' := by
  unfold maxLen at hl
  by_cases h20 : 20 < L.length
  · have hli : (20 : Int) < (L.length : Int) := by omega
    clear hC hN hw hh
    go_enter Tryd.func7, Tryd.ntmps7
    go_wp2_with fail
    refine (works32_any w hv).mono ?_
    rintro e w1 ⟨rfl, h1⟩
    go_wp2_with fail
    go_ret
    exact ⟨rfl, h1⟩
  · have hli : ¬ (20 : Int) < (L.length : Int) := by omega
    have hll : (L.length : Int) ≤ 20 := by omega
    have hLL20 : L.length ≤ 20 := by omega
    have HC := Lib.hid hC; have HN := Lib.hid hN; have HW := Lib.hid hw; have HH := Lib.hid hh; have HV := Lib.hid hv
    clear hC hN hw hh hv
    go_enter Tryd.func7, Tryd.ntmps7
    go_wp2_with fail
    go_loopw [7, 24] (fun v i W => ∃ k : Nat, k ≤ L.length ∧ i = .int .i64 k ∧ RowIs W w.heap.size v ((L.take k).map P32.chN) ∧ Below w.heap.size w W) (fun _ i _ => L.length - (intOf i).toNat)
    case atStart => exact ⟨0, Nat.zero_le _, rfl, World.ownsRow_nil .., Below.refl _ _⟩
    case round =>
      obtain ⟨k, hk, rfl, hrow, hbl⟩ := hrel
      have HRW := Lib.hid hrow; have HB := Lib.hid hbl
      clear hrow hbl
      by_cases hlt : k < L.length
      · obtain ⟨n, hn⟩ : ∃ n, L[k]? = some n := ⟨_, List.getElem?_eq_getElem hlt⟩
        have hki : (k : Int) < (L.length : Int) := by omega
        obtain ⟨g, o, rfl, hg, hcl⟩ := HC.out.below HB.out k n hn
        have e0 := hcl 0 _ rfl
        rw [Nat.mul_one, Nat.add_zero] at e0
        have hgg : g < wr.heap.size := hg
        clear hcl
        have hnb := num_bounds (HN.out n (List.mem_of_getElem? hn))
        have HNB := Lib.hid hnb; have HNN := Lib.hid hn
        obtain ⟨d8, d64, m8, m3, m7, dm8, x1, x2, w1, w2, w3, w4, w5, w6, w7, w8⟩ := num_facts hnb
        clear hnb hn
        have hlt2 := Lib.hid hlt
        clear hlt
        have HLL : Hid (L.length ≤ 20) := Lib.hid (hLL20)
        by_cases h8 : (3 : Int) ≤ n % 8
        · have h8n : Hid (¬ n % 8 < 3)   := Lib.hid (Int.not_lt.2 h8)
          have HNB2 : Hid (Blk ((wr.alloc (.cells #[.int .i64 2, .int .i64 (n / 64), .int .i64 (n / 8 % 8), .int .i64 (4 * (1 + n % 7))] 50)).alloc (.cells #[.int .i64 2, .int .i64 (n / 64), .int .i64 (n / 8 % 8), .int .i64 (4 * (1 + n % 7))] 50)) (wr.heap.size + 1) 50 #[.int .i64 2, .int .i64 (n / 64), .int .i64 (n / 8 % 8), .int .i64 (4 * (1 + n % 7))]) := Lib.hid (Blk.newAt (wr.alloc (.cells #[.int .i64 2, .int .i64 (n / 64), .int .i64 (n / 8 % 8), .int .i64 (4 * (1 + n % 7))] 50)) (wr.heap.size + 1) (by simp) _ _)
          have hal := ((Below.refl wr.heap.size wr).alloc (Nat.le_refl _) (.cells #[.int .i64 2, .int .i64 (n / 64), .int .i64 (n / 8 % 8), .int .i64 (4 * (1 + n % 7))] 50)).alloc (by simp) (.cells #[.int .i64 2, .int .i64 (n / 64), .int .i64 (n / 8 % 8), .int .i64 (4 * (1 + n % 7))] 50)
          have HO := Lib.hid (HRW.out.below hal)
          have HX2 := Lib.hid (HB.out.trans (hal.mono HB.out.size))
          have HLS : Hid ((L.take (k + 1)).map P32.chN = (L.take k).map P32.chN ++ [P32.chN n] ∧ (P32.chN n).cells = [.int .i64 2, .int .i64 (n / 64), .int .i64 (n / 8 % 8), .int .i64 (4 * (1 + n % 7))] ∧ ((L.take k).map P32.chN).length ≤ 20) := Lib.hid ⟨by rw [List.take_add_one, HNN.out, List.map_append]; rfl, by unfold P32.chN; rw [if_neg h8n.out]; rfl, by rw [List.length_map, List.length_take]; have := HLL.out; omega⟩
          generalize hlg : (L.take k).map P32.chN = l1 at HO HLS
          obtain ⟨i0, hi, hz0, hz1, hz2⟩ := info_parts infoChange
          clear hal hlg
          go_wp2_with (at_builtin; refine wpList_append_own _ rfl _ _ 30 rfl w.heap.size 50 i0 _ 4 32 Tryd.underlying30 hi hz0 hz1 hz2 rfl (by decide) _ _ _ rfl HO.out ⟨wr.heap.size + 1, 0, none⟩ 1 1 [.int .i64 2, .int .i64 (n / 64), .int .i64 (n / 8 % 8), .int .i64 (4 * (1 + n % 7))] rfl rfl (blk_cells HNB2.out) (by simp [Value.oneCell']) (by have := HLS.out.2.2; simp only [maxLen]; omega) (by have := HLS.out.2.2; omega) HX2.out.size ?_)
          intro v1 wa hown hgr hne
          have HX3 := Lib.hid (own_grown HX2.out HO.out hgr HX2.out.size (Nat.le_refl _))
          have HRW2 : Hid (RowIs wa w.heap.size v1 ((L.take (k + 1)).map P32.chN)) := Lib.hid (by rw [HLS.out.1]; unfold RowIs; rw [ccells_snoc, List.length_append, HLS.out.2.1]; exact hown)
          clear hown hgr hne HO HX2 HNB2 HLS
          go_wp2_with fail
          go_roundw
          case rel => exact ⟨k + 1, by have := hlt2.out; omega, by go_num, HRW2.out, HX3.out⟩
          case measure => have := hlt2.out; simp [intOf]; omega
        · have h8n : Hid (n % 8 < 3) := Lib.hid (Int.not_le.1 h8)
          have HNB2 : Hid (Blk ((wr.alloc (.cells #[.int .i64 1, .int .i64 (n / 8), .int .i64 0, .int .i64 (1 + n % 3)] 50)).alloc (.cells #[.int .i64 1, .int .i64 (n / 8), .int .i64 0, .int .i64 (1 + n % 3)] 50)) (wr.heap.size + 1) 50 #[.int .i64 1, .int .i64 (n / 8), .int .i64 0, .int .i64 (1 + n % 3)]) := Lib.hid (Blk.newAt (wr.alloc (.cells #[.int .i64 1, .int .i64 (n / 8), .int .i64 0, .int .i64 (1 + n % 3)] 50)) (wr.heap.size + 1) (by simp) _ _)
          have hal := ((Below.refl wr.heap.size wr).alloc (Nat.le_refl _) (.cells #[.int .i64 1, .int .i64 (n / 8), .int .i64 0, .int .i64 (1 + n % 3)] 50)).alloc (by simp) (.cells #[.int .i64 1, .int .i64 (n / 8), .int .i64 0, .int .i64 (1 + n % 3)] 50)
          have HO := Lib.hid (HRW.out.below hal)
          have HX2 := Lib.hid (HB.out.trans (hal.mono HB.out.size))
          have HLS : Hid ((L.take (k + 1)).map P32.chN = (L.take k).map P32.chN ++ [P32.chN n] ∧ (P32.chN n).cells = [.int .i64 1, .int .i64 (n / 8), .int .i64 0, .int .i64 (1 + n % 3)] ∧ ((L.take k).map P32.chN).length ≤ 20) := Lib.hid ⟨by rw [List.take_add_one, HNN.out, List.map_append]; rfl, by unfold P32.chN; rw [if_pos h8n.out]; rfl, by rw [List.length_map, List.length_take]; have := HLL.out; omega⟩
          generalize hlg : (L.take k).map P32.chN = l1 at HO HLS
          obtain ⟨i0, hi, hz0, hz1, hz2⟩ := info_parts infoChange
          clear hal hlg
          go_wp2_with (at_builtin; refine wpList_append_own _ rfl _ _ 30 rfl w.heap.size 50 i0 _ 4 32 Tryd.underlying30 hi hz0 hz1 hz2 rfl (by decide) _ _ _ rfl HO.out ⟨wr.heap.size + 1, 0, none⟩ 1 1 [.int .i64 1, .int .i64 (n / 8), .int .i64 0, .int .i64 (1 + n % 3)] rfl rfl (blk_cells HNB2.out) (by simp [Value.oneCell']) (by have := HLS.out.2.2; simp only [maxLen]; omega) (by have := HLS.out.2.2; omega) HX2.out.size ?_)
          intro v1 wa hown hgr hne
          have HX3 := Lib.hid (own_grown HX2.out HO.out hgr HX2.out.size (Nat.le_refl _))
          have HRW2 : Hid (RowIs wa w.heap.size v1 ((L.take (k + 1)).map P32.chN)) := Lib.hid (by rw [HLS.out.1]; unfold RowIs; rw [ccells_snoc, List.length_append, HLS.out.2.1]; exact hown)
          clear hown hgr hne HO HX2 HNB2 HLS
          go_wp2_with fail
          go_roundw
          case rel => exact ⟨k + 1, by have := hlt2.out; omega, by go_num, HRW2.out, HX3.out⟩
          case measure => have := hlt2.out; simp [intOf]; omega
      · obtain rfl : k = L.length := by omega
        have hrow := HRW.out
        rw [List.take_length] at hrow
        have hMr : ∀ c ∈ L.map P32.chN, P32.right c := fun c hc => by
          obtain ⟨n, hn, rfl⟩ := List.mem_map.1 hc
          exact P32.chN_right (num_bounds (HN.out n hn)).1
        have hMok : ChOk (L.map P32.chN) := fun c hc => by
          obtain ⟨n, hn, rfl⟩ := List.mem_map.1 hc
          have h1 := P32.chN_small (num_bounds (HN.out n hn)).1 (num_bounds (HN.out n hn)).2
          have h2 := P32.chN_right (num_bounds (HN.out n hn)).1
          rcases h2 with ⟨p1, i1, r1, a1, b1⟩ | ⟨p1, i1, r1, a1, b1, m1⟩ <;> omega
        have hMs : ∀ c ∈ L.map P32.chN, c.index ≤ 8191 ∧ c.era ≤ 7 := fun c hc => by
          obtain ⟨n, hn, rfl⟩ := List.mem_map.1 hc
          exact P32.chN_small (num_bounds (HN.out n hn)).1 (num_bounds (HN.out n hn)).2
        have hMl : (L.map P32.chN).length = L.length := by simp
        generalize L.map P32.chN = M at hrow hMr hMok hMs hMl
        have htx : P32.text M = (M.flatMap P32.line, 0) := if_pos hMr
        have hfl := flat_len M hMok
        have hcnt : Lib.countByte (str (M.flatMap P32.line)).data.toList 10 = M.length := P32.count_text M hMr
        have hsz := str_size (M.flatMap P32.line)
        clear hlt HC HN
        by_cases h0 : L.length = 0
        · obtain ⟨A', c', rfl, hch⟩ := row_ch hrow
          have hT := rep_text A' c' M wr (by omega) hch hMok (HV.out.below HB.out)
          rw [htx] at hT
          have hM0 : M = [] := List.eq_nil_of_length_eq_zero (by omega)
          have hL0 : L = [] := List.eq_nil_of_length_eq_zero h0
          subst hM0
          subst hL0
          have he : (str (([] : List P32.CV).flatMap P32.line)).toList.isEmpty = true := by rw [str_list32]; rfl
          generalize ([] : List P32.CV).flatMap P32.line = F at hT he hcnt hsz hfl
          have HT := Lib.hid hT
          clear hT hch hrow hMr hMok hMs htx hMl
          go_wp2_with fail
          refine HT.out.mono ?_
          rintro e w1 ⟨rfl, h9⟩
          have HB9 := Lib.hid (HB.out.trans (h9.mono HB.out.size))
          clear h9
          go_wp2_with (go_at_call 23; refine (Tryd.strings_Count_one _ 10 _).mono ?_; rintro e w2 ⟨rfl, rfl⟩)
          refine (works32_any _ (HV.out.below HB9.out)).mono ?_
          rintro e w3 ⟨rfl, h9⟩
          have HZ := Lib.hid (HB9.out.trans (h9.mono HB9.out.size))
          clear h9
          go_wp2_with fail
          go_ret
          exact ⟨rfl, HZ.out⟩
        · obtain ⟨B, cap, rfl, hB, hBl, hcap, hcs⟩ := own_form hrow (by omega)
          have hch : ChIn wr (some ⟨B, 0, none⟩) M := fun k r hr => ⟨B, 0, rfl, hBl, fun j u hu => by
            rw [Nat.zero_add]
            exact hcs _ _ ((ccells_at M k j r (by have := (List.getElem?_eq_some_iff.mp hu).1; simpa [P32.CV.cells] using this) hr).trans hu)⟩
          have hT := rep_text (some ⟨B, 0, none⟩) cap M wr (by omega) hch hMok (HV.out.below HB.out)
          rw [htx] at hT
          have hMn : M ≠ [] := fun q => h0 (by rw [← hMl, q]; rfl)
          have hsuf : Lib.hasSuffix (str (M.flatMap P32.line)).data.toList (⟨#[10]⟩ : ByteArray).data.toList = true := P32.suffix_last M hMn
          have hmax : (str (M.flatMap P32.line)).size ≤ 9223372036854775807 := by rw [hsz]; omega
          obtain ⟨r, hr, mr⟩ := rest_of (m := M.length) (u8_bounds HW.out) ⟨by omega, by omega⟩
          have MR := Lib.hid mr
          obtain ⟨q, hq, mq⟩ := rest_of (m := 8) (u8_bounds HH.out) (by decide)
          have MQ := Lib.hid mq
          clear mr mq
          obtain ⟨cv, hcv⟩ : ∃ cv, M[r]? = some cv := ⟨_, List.getElem?_eq_getElem hr⟩
          have hSR := fun d => set_right hMr hcv (q : Int) d
          have hcr := hMr cv (List.mem_of_getElem? hcv)
          have hcsm := hMs cv (List.mem_of_getElem? hcv)
          generalize hF : M.flatMap P32.line = F at hT hcnt hsuf hsz hmax hSR
          have HT := Lib.hid hT; have HMOK := Lib.hid hMok; have HSR := Lib.hid hSR; have HCV := Lib.hid hcv; have HCS := Lib.hid hcs
          have HBB := Lib.hid (show B < wr.heap.size ∧ M.length ≤ 20 ∧ 0 < M.length ∧ M.length = L.length from ⟨hBl, by omega, by omega, hMl⟩)
          have hlm : (M.length : Int) = (L.length : Int) := by omega
          have hl1 : ((M.length : Int) != (M.length : Int)) = false := by simp
          have hl0 : (0 : Int) < (M.length : Int) := by omega
          have hl2 : ¬ (M.length : Int) = 0 := by omega
          have hl3 : ((M.length : Int) == 0) = false := by rw [beq_eq_false_iff_ne]; exact hl2
          have hr1 : (r : Int) < (M.length : Int) := by omega
          have hr0 : (0 : Int) ≤ (r : Int) := by omega
          rw [← hMl]
          clear hT hMok hSR hcv hcs hch hrow hMr hMs htx hMl hMn hfl h0 hF hli hll hlm hl hLL20 h20
          go_wp2_with fail
          refine HT.out.mono ?_
          rintro e w1 ⟨rfl, h9⟩
          have HB9 := Lib.hid (HB.out.trans (h9.mono HB.out.size)); have H9 := Lib.hid h9
          clear h9
          obtain ⟨i0, hi, hz0, hz1, hz2⟩ := info_parts infoChange
          have hb0 := Blk.new w1 50 #[]
          have HO : Hid ((w1.alloc (.cells #[] 50)).ownsRow w1.heap.size 50 4 (.slice (some ⟨w1.heap.size, 0, none⟩) 0 0) 0 []) := Lib.hid (own_new 4 0 hb0 (Nat.le_refl _) rfl (Nat.zero_le _))
          have HSRC : Hid (∀ j u, (ccells M)[j]? = some u → (w1.alloc (.cells #[] 50)).cell? ((⟨B, 0, none⟩ : Addr).add j) = some u) := Lib.hid (fun j u hu => by
            rw [add_zero_off]
            have h1 := (H9.out.cell (p := ⟨B, j, none⟩) HBB.out.1).trans (HCS.out j u hu)
            exact (Below.cell ((Below.refl w1.heap.size w1).alloc (Nat.le_refl _) (.cells #[] 50)) (p := ⟨B, j, none⟩) (Nat.lt_of_lt_of_le HBB.out.1 H9.out.size)).trans h1)
          have HLEN : Hid ((ccells M).length = M.length * 4 ∧ ∀ u ∈ ccells M, u.oneCell' = true) := Lib.hid ⟨ccells_len M, ccells_one M⟩
          clear hb0
          go_wp2_with first
            | (go_at_call 23; refine (Tryd.strings_Count_one _ 10 _).mono ?_; rintro e w2 ⟨rfl, rfl⟩)
            | (go_at_call 24; refine (Tryd.strings_HasSuffix _ _ _ hmax).mono ?_; rintro e w2 ⟨rfl, rfl⟩)
            | (at_builtin; refine wpList_append_own _ rfl _ _ 30 rfl _ 50 i0 _ 4 32 Tryd.underlying30 hi hz0 hz1 hz2 rfl (by decide) _ _ _ rfl HO.out ⟨B, 0, none⟩ M.length cap (ccells M) rfl HLEN.out.1 HSRC.out HLEN.out.2 (by have := HBB.out.2.1; simp only [maxLen]; omega) (by have := HBB.out.2.1; omega) (by simp) ?_)
          intro v1 wa hown hgr hne
          obtain ⟨Bo, cpo, rfl, hBo, hcpo, hco⟩ := Cs.of_own hown HBB.out.2.2.1
          have HBa := Lib.hid (own_grown (HB9.out.alloc HB9.out.size (.cells #[] 50)) HO.out hgr (Nat.le_trans HB9.out.size (by simp)) HB9.out.size)
          have HBO := Lib.hid (Nat.le_trans HB9.out.size hBo)
          have HCO := Lib.hid hco
          have XW := Lib.hid (show wrap64 which = which from in64 _ (by have := u8_bounds HW.out; omega))
          obtain ⟨S0, hS0, hse⟩ : ∃ S0, str ([] : List UInt8) = S0 ∧ S0.toList.isEmpty = true := ⟨_, rfl, by rw [str_list32]; rfl⟩
          have HS0 := Lib.hid hS0; have HSE := Lib.hid hse
          obtain ⟨p, i, e, a⟩ := cv
          have e0 := hco.cell (r * 4 + 0) _ ((ccells_at M r 0 _ (by decide) HCV.out).trans rfl)
          have e1 := hco.cell (r * 4 + 1) _ ((ccells_at M r 1 _ (by decide) HCV.out).trans rfl)
          have e2 := hco.cell (r * 4 + 2) _ ((ccells_at M r 2 _ (by decide) HCV.out).trans rfl)
          have e3 := hco.cell (r * 4 + 3) _ ((ccells_at M r 3 _ (by decide) HCV.out).trans rfl)
          have hfr : ∀ j, j < 4 → wa.frozen? ⟨Bo, r * 4 + j, none⟩ = false := fun j hj => hco.frozen _ (by rw [HLEN.out.1]; omega)
          have fr0 := hfr 0 (by decide)
          have fr1 := hfr 1 (by decide)
          have fr2 := hfr 2 (by decide)
          have fr3 := hfr 3 (by decide)
          rw [Nat.add_zero] at e0 fr0
          clear hfr hown hgr hne hBo hcpo hco HO HSRC HLEN HT HCS H9 hcnt hsuf hmax hS0 hse hi hz0 hz1 hz2
          have bnds : (0 ≤ i ∧ i ≤ 8191) ∧ (0 ≤ e ∧ e ≤ 7) ∧ (1 ≤ a ∧ a ≤ 28) := by
            simp only at hcsm
            rcases hcr with ⟨p1, i1, r1, a1, b1⟩ | ⟨p1, i1, r1, a1, b1, m1⟩ <;> simp only at p1 i1 r1 a1 b1 <;> omega
          have hp : (p = 1 ∧ e = 0) ∨ p = 2 := by
            rcases hcr with ⟨p1, i1, r1, a1, b1⟩ | ⟨p1, i1, r1, a1, b1, m1⟩
            · exact .inl ⟨p1, r1⟩
            · exact .inr p1
          have hp2 : 1 ≤ p ∧ p ≤ 2 := by omega
          clear hcr hcsm
          rcases (show q = 0 ∨ q = 1 ∨ q = 2 ∨ q = 3 ∨ q = 4 ∨ q = 5 ∨ q = 6 ∨ q = 7 by omega) with rfl | rfl | rfl | rfl | rfl | rfl | rfl | rfl
          · have hok2 : ChOk [(⟨p, i + 1, e, a⟩ : P32.CV)] := fun x hx => by rw [List.mem_singleton.1 hx]; simp only; omega
            have f0 := Lib.hid (show wrap64 (i + 1) = i + 1 from in64 _ (by omega))
            have hst := HBa.out.setCell (p := ⟨Bo, r * 4 + 1, none⟩) HBO.out (.int .i64 (i + 1))
            have cT := rep_set Bo cpo r 1 M _ ⟨p, i + 1, e, a⟩ (.int .i64 (i + 1)) wa HCO.out HCV.out (by decide) rfl HMOK.out hok2 HBB.out.2.1 (HV.out.below hst)
            obtain ⟨t1, t2⟩ := (HSR.out ⟨p, i + 1, e, a⟩).1 (by simp [P32.alt])
            rw [t1] at cT
            generalize (M.set r ⟨p, i + 1, e, a⟩).flatMap P32.line = F2 at cT t2
            have T2 := Lib.hid t2
            clear t1 t2
            have CT := Lib.hid cT; have HST := Lib.hid hst
            clear cT hst hok2 bnds
            replace f0 := f0.out
            have mr := MR.out; have mq : how.tmod 8 = 0 := MQ.out; have xw := XW.out
            go_wp2_with fail
            refine CT.out.mono ?_
            rintro en w5 ⟨rfl, h9⟩
            have HB5 := Lib.hid (HST.out.trans (h9.mono HST.out.size))
            have t2 := T2.out; have t3 := bne_no t2
            clear h9 CT HST mr mq xw e0 e1 e2 e3 fr0 fr1 fr2 fr3 f0
            go_wp2_with fail
            refine (works32_any _ (HV.out.below HB5.out)).mono ?_
            rintro en w6 ⟨rfl, h9⟩
            have HZ := Lib.hid (HB5.out.trans (h9.mono HB5.out.size))
            clear h9 HB5
            go_wp2_with fail
            go_ret
            exact ⟨rfl, HZ.out⟩
          · rcases hp with ⟨rfl, rfl⟩ | rfl
            · have hok2 : ChOk [(⟨1, i, 0, 1 + a % 3⟩ : P32.CV)] := fun x hx => by rw [List.mem_singleton.1 hx]; simp only; omega
              have f0 := Lib.hid (show a.tmod 3 = a % 3 from Int.tmod_eq_emod_of_nonneg (by omega))
              have f1 := Lib.hid (show wrap64 (a % 3) = a % 3 from in64 _ (by omega))
              have f2 := Lib.hid (show wrap64 (1 + a % 3) = 1 + a % 3 from in64 _ (by omega))
              have hst := HBa.out.setCell (p := ⟨Bo, r * 4 + 3, none⟩) HBO.out (.int .i64 (1 + a % 3))
              have cT := rep_set Bo cpo r 3 M _ ⟨1, i, 0, 1 + a % 3⟩ (.int .i64 (1 + a % 3)) wa HCO.out HCV.out (by decide) rfl HMOK.out hok2 HBB.out.2.1 (HV.out.below hst)
              obtain ⟨t1, t2⟩ := (HSR.out ⟨1, i, 0, 1 + a % 3⟩).1 (by simp [P32.alt])
              rw [t1] at cT
              generalize (M.set r ⟨1, i, 0, 1 + a % 3⟩).flatMap P32.line = F2 at cT t2
              have T2 := Lib.hid t2
              clear t1 t2
              have CT := Lib.hid cT; have HST := Lib.hid hst
              clear cT hst hok2 bnds
              replace f0 := f0.out
              replace f1 := f1.out
              replace f2 := f2.out
              have mr := MR.out; have mq : how.tmod 8 = 1 := MQ.out; have xw := XW.out
              go_wp2_with fail
              refine CT.out.mono ?_
              rintro en w5 ⟨rfl, h9⟩
              have HB5 := Lib.hid (HST.out.trans (h9.mono HST.out.size))
              have t2 := T2.out; have t3 := bne_no t2
              clear h9 CT HST mr mq xw e0 e1 e2 e3 fr0 fr1 fr2 fr3 f0 f1 f2
              go_wp2_with fail
              refine (works32_any _ (HV.out.below HB5.out)).mono ?_
              rintro en w6 ⟨rfl, h9⟩
              have HZ := Lib.hid (HB5.out.trans (h9.mono HB5.out.size))
              clear h9 HB5
              go_wp2_with fail
              go_ret
              exact ⟨rfl, HZ.out⟩
            · have hok2 : ChOk [(⟨2, i, e + 1, a⟩ : P32.CV)] := fun x hx => by rw [List.mem_singleton.1 hx]; simp only; omega
              have f0 := Lib.hid (show wrap64 (e + 1) = e + 1 from in64 _ (by omega))
              have hst := HBa.out.setCell (p := ⟨Bo, r * 4 + 2, none⟩) HBO.out (.int .i64 (e + 1))
              have cT := rep_set Bo cpo r 2 M _ ⟨2, i, e + 1, a⟩ (.int .i64 (e + 1)) wa HCO.out HCV.out (by decide) rfl HMOK.out hok2 HBB.out.2.1 (HV.out.below hst)
              obtain ⟨t1, t2⟩ := (HSR.out ⟨2, i, e + 1, a⟩).1 (by simp [P32.alt])
              rw [t1] at cT
              generalize (M.set r ⟨2, i, e + 1, a⟩).flatMap P32.line = F2 at cT t2
              have T2 := Lib.hid t2
              clear t1 t2
              have CT := Lib.hid cT; have HST := Lib.hid hst
              clear cT hst hok2 bnds
              replace f0 := f0.out
              have mr := MR.out; have mq : how.tmod 8 = 1 := MQ.out; have xw := XW.out
              go_wp2_with fail
              refine CT.out.mono ?_
              rintro en w5 ⟨rfl, h9⟩
              have HB5 := Lib.hid (HST.out.trans (h9.mono HST.out.size))
              have t2 := T2.out; have t3 := bne_no t2
              clear h9 CT HST mr mq xw e0 e1 e2 e3 fr0 fr1 fr2 fr3 f0
              go_wp2_with fail
              refine (works32_any _ (HV.out.below HB5.out)).mono ?_
              rintro en w6 ⟨rfl, h9⟩
              have HZ := Lib.hid (HB5.out.trans (h9.mono HB5.out.size))
              clear h9 HB5
              go_wp2_with fail
              go_ret
              exact ⟨rfl, HZ.out⟩
          · rcases hp with ⟨rfl, rfl⟩ | rfl
            · have hok2 : ChOk [(⟨1, i + 10, 0, a⟩ : P32.CV)] := fun x hx => by rw [List.mem_singleton.1 hx]; simp only; omega
              have f0 := Lib.hid (show wrap64 (i + 10) = i + 10 from in64 _ (by omega))
              have hst := HBa.out.setCell (p := ⟨Bo, r * 4 + 1, none⟩) HBO.out (.int .i64 (i + 10))
              have cT := rep_set Bo cpo r 1 M _ ⟨1, i + 10, 0, a⟩ (.int .i64 (i + 10)) wa HCO.out HCV.out (by decide) rfl HMOK.out hok2 HBB.out.2.1 (HV.out.below hst)
              obtain ⟨t1, t2⟩ := (HSR.out ⟨1, i + 10, 0, a⟩).1 (by simp [P32.alt])
              rw [t1] at cT
              generalize (M.set r ⟨1, i + 10, 0, a⟩).flatMap P32.line = F2 at cT t2
              have T2 := Lib.hid t2
              clear t1 t2
              have CT := Lib.hid cT; have HST := Lib.hid hst
              clear cT hst hok2 bnds
              replace f0 := f0.out
              have mr := MR.out; have mq : how.tmod 8 = 2 := MQ.out; have xw := XW.out
              go_wp2_with fail
              refine CT.out.mono ?_
              rintro en w5 ⟨rfl, h9⟩
              have HB5 := Lib.hid (HST.out.trans (h9.mono HST.out.size))
              have t2 := T2.out; have t3 := bne_no t2
              clear h9 CT HST mr mq xw e0 e1 e2 e3 fr0 fr1 fr2 fr3 f0
              go_wp2_with fail
              refine (works32_any _ (HV.out.below HB5.out)).mono ?_
              rintro en w6 ⟨rfl, h9⟩
              have HZ := Lib.hid (HB5.out.trans (h9.mono HB5.out.size))
              clear h9 HB5
              go_wp2_with fail
              go_ret
              exact ⟨rfl, HZ.out⟩
            · have hok2 : ChOk [(⟨2, i, e, 4 * (1 + a / 4 % 7)⟩ : P32.CV)] := fun x hx => by rw [List.mem_singleton.1 hx]; simp only; omega
              have f0 := Lib.hid (show a.tdiv 4 = a / 4 from Int.tdiv_eq_ediv_of_nonneg (by omega))
              have f1 := Lib.hid (show (a / 4).tmod 7 = a / 4 % 7 from Int.tmod_eq_emod_of_nonneg (by omega))
              have f2 := Lib.hid (show wrap64 (a / 4) = a / 4 from in64 _ (by omega))
              have f3 := Lib.hid (show wrap64 (a / 4 % 7) = a / 4 % 7 from in64 _ (by omega))
              have f4 := Lib.hid (show wrap64 (1 + a / 4 % 7) = 1 + a / 4 % 7 from in64 _ (by omega))
              have f5 := Lib.hid (show wrap64 (4 * (1 + a / 4 % 7)) = 4 * (1 + a / 4 % 7) from in64 _ (by omega))
              have hst := HBa.out.setCell (p := ⟨Bo, r * 4 + 3, none⟩) HBO.out (.int .i64 (4 * (1 + a / 4 % 7)))
              have cT := rep_set Bo cpo r 3 M _ ⟨2, i, e, 4 * (1 + a / 4 % 7)⟩ (.int .i64 (4 * (1 + a / 4 % 7))) wa HCO.out HCV.out (by decide) rfl HMOK.out hok2 HBB.out.2.1 (HV.out.below hst)
              obtain ⟨t1, t2⟩ := (HSR.out ⟨2, i, e, 4 * (1 + a / 4 % 7)⟩).1 (by simp [P32.alt])
              rw [t1] at cT
              generalize (M.set r ⟨2, i, e, 4 * (1 + a / 4 % 7)⟩).flatMap P32.line = F2 at cT t2
              have T2 := Lib.hid t2
              clear t1 t2
              have CT := Lib.hid cT; have HST := Lib.hid hst
              clear cT hst hok2 bnds
              replace f0 := f0.out
              replace f1 := f1.out
              replace f2 := f2.out
              replace f3 := f3.out
              replace f4 := f4.out
              replace f5 := f5.out
              have mr := MR.out; have mq : how.tmod 8 = 2 := MQ.out; have xw := XW.out
              go_wp2_with fail
              refine CT.out.mono ?_
              rintro en w5 ⟨rfl, h9⟩
              have HB5 := Lib.hid (HST.out.trans (h9.mono HST.out.size))
              have t2 := T2.out; have t3 := bne_no t2
              clear h9 CT HST mr mq xw e0 e1 e2 e3 fr0 fr1 fr2 fr3 f0 f1 f2 f3 f4 f5
              go_wp2_with fail
              refine (works32_any _ (HV.out.below HB5.out)).mono ?_
              rintro en w6 ⟨rfl, h9⟩
              have HZ := Lib.hid (HB5.out.trans (h9.mono HB5.out.size))
              clear h9 HB5
              go_wp2_with fail
              go_ret
              exact ⟨rfl, HZ.out⟩
          · have hok2 : ChOk [(⟨p, i, e, 0⟩ : P32.CV)] := fun x hx => by rw [List.mem_singleton.1 hx]; simp only; omega
            have hst := HBa.out.setCell (p := ⟨Bo, r * 4 + 3, none⟩) HBO.out (.int .i64 (0))
            have cT := rep_set Bo cpo r 3 M _ ⟨p, i, e, 0⟩ (.int .i64 (0)) wa HCO.out HCV.out (by decide) rfl HMOK.out hok2 HBB.out.2.1 (HV.out.below hst)
            have t1 := (HSR.out ⟨p, i, e, 0⟩).2 (by simp [P32.alt])
            rw [t1] at cT
            simp only [HS0.out] at cT
            clear t1
            have CT := Lib.hid cT; have HST := Lib.hid hst
            clear cT hst hok2 bnds
            have mr := MR.out; have mq : how.tmod 8 = 3 := MQ.out; have xw := XW.out
            go_wp2_with fail
            refine CT.out.mono ?_
            rintro en w5 ⟨rfl, h9⟩
            have HB5 := Lib.hid (HST.out.trans (h9.mono HST.out.size))
            have hse := HSE.out
            clear h9 CT HST mr mq xw e0 e1 e2 e3 fr0 fr1 fr2 fr3 
            go_wp2_with fail
            refine (works32_any _ (HV.out.below HB5.out)).mono ?_
            rintro en w6 ⟨rfl, h9⟩
            have HZ := Lib.hid (HB5.out.trans (h9.mono HB5.out.size))
            clear h9 HB5
            go_wp2_with fail
            go_ret
            exact ⟨rfl, HZ.out⟩
          · have hok2 : ChOk [(⟨p, -1 - i, e, a⟩ : P32.CV)] := fun x hx => by rw [List.mem_singleton.1 hx]; simp only; omega
            have f0 := Lib.hid (show wrap64 (-1 - i) = -1 - i from neg64 _ (by omega))
            have hst := HBa.out.setCell (p := ⟨Bo, r * 4 + 1, none⟩) HBO.out (.int .i64 (-1 - i))
            have cT := rep_set Bo cpo r 1 M _ ⟨p, -1 - i, e, a⟩ (.int .i64 (-1 - i)) wa HCO.out HCV.out (by decide) rfl HMOK.out hok2 HBB.out.2.1 (HV.out.below hst)
            have t1 := (HSR.out ⟨p, -1 - i, e, a⟩).2 (by simp [P32.alt])
            rw [t1] at cT
            simp only [HS0.out] at cT
            clear t1
            have CT := Lib.hid cT; have HST := Lib.hid hst
            clear cT hst hok2 bnds
            replace f0 := f0.out
            have mr := MR.out; have mq : how.tmod 8 = 4 := MQ.out; have xw := XW.out
            go_wp2_with fail
            refine CT.out.mono ?_
            rintro en w5 ⟨rfl, h9⟩
            have HB5 := Lib.hid (HST.out.trans (h9.mono HST.out.size))
            have hse := HSE.out
            clear h9 CT HST mr mq xw e0 e1 e2 e3 fr0 fr1 fr2 fr3 f0
            go_wp2_with fail
            refine (works32_any _ (HV.out.below HB5.out)).mono ?_
            rintro en w6 ⟨rfl, h9⟩
            have HZ := Lib.hid (HB5.out.trans (h9.mono HB5.out.size))
            clear h9 HB5
            go_wp2_with fail
            go_ret
            exact ⟨rfl, HZ.out⟩
          · have hok2 : ChOk [(⟨p, i, e, a + 32⟩ : P32.CV)] := fun x hx => by rw [List.mem_singleton.1 hx]; simp only; omega
            have f0 := Lib.hid (show wrap64 (a + 32) = a + 32 from in64 _ (by omega))
            have hst := HBa.out.setCell (p := ⟨Bo, r * 4 + 3, none⟩) HBO.out (.int .i64 (a + 32))
            have cT := rep_set Bo cpo r 3 M _ ⟨p, i, e, a + 32⟩ (.int .i64 (a + 32)) wa HCO.out HCV.out (by decide) rfl HMOK.out hok2 HBB.out.2.1 (HV.out.below hst)
            have t1 := (HSR.out ⟨p, i, e, a + 32⟩).2 (by simp [P32.alt])
            rw [t1] at cT
            simp only [HS0.out] at cT
            clear t1
            have CT := Lib.hid cT; have HST := Lib.hid hst
            clear cT hst hok2 bnds
            replace f0 := f0.out
            have mr := MR.out; have mq : how.tmod 8 = 5 := MQ.out; have xw := XW.out
            go_wp2_with fail
            refine CT.out.mono ?_
            rintro en w5 ⟨rfl, h9⟩
            have HB5 := Lib.hid (HST.out.trans (h9.mono HST.out.size))
            have hse := HSE.out
            clear h9 CT HST mr mq xw e0 e1 e2 e3 fr0 fr1 fr2 fr3 f0
            go_wp2_with fail
            refine (works32_any _ (HV.out.below HB5.out)).mono ?_
            rintro en w6 ⟨rfl, h9⟩
            have HZ := Lib.hid (HB5.out.trans (h9.mono HB5.out.size))
            clear h9 HB5
            go_wp2_with fail
            go_ret
            exact ⟨rfl, HZ.out⟩
          · have hok2 : ChOk [(⟨3, i, e, a⟩ : P32.CV)] := fun x hx => by rw [List.mem_singleton.1 hx]; simp only; omega
            have hst := HBa.out.setCell (p := ⟨Bo, r * 4 + 0, none⟩) HBO.out (.int .i64 (3))
            have cT := rep_set Bo cpo r 0 M _ ⟨3, i, e, a⟩ (.int .i64 (3)) wa HCO.out HCV.out (by decide) rfl HMOK.out hok2 HBB.out.2.1 (HV.out.below hst)
            have t1 := (HSR.out ⟨3, i, e, a⟩).2 (by simp [P32.alt])
            rw [t1] at cT
            simp only [HS0.out] at cT
            clear t1
            rw [Nat.add_zero] at cT hst
            have CT := Lib.hid cT; have HST := Lib.hid hst
            clear cT hst hok2 bnds
            have mr := MR.out; have mq : how.tmod 8 = 6 := MQ.out; have xw := XW.out
            go_wp2_with fail
            refine CT.out.mono ?_
            rintro en w5 ⟨rfl, h9⟩
            have HB5 := Lib.hid (HST.out.trans (h9.mono HST.out.size))
            have hse := HSE.out
            clear h9 CT HST mr mq xw e0 e1 e2 e3 fr0 fr1 fr2 fr3 
            go_wp2_with fail
            refine (works32_any _ (HV.out.below HB5.out)).mono ?_
            rintro en w6 ⟨rfl, h9⟩
            have HZ := Lib.hid (HB5.out.trans (h9.mono HB5.out.size))
            clear h9 HB5
            go_wp2_with fail
            go_ret
            exact ⟨rfl, HZ.out⟩
          · rcases hp with ⟨rfl, rfl⟩ | rfl
            · have hok2 : ChOk [(⟨1, i, 1, a⟩ : P32.CV)] := fun x hx => by rw [List.mem_singleton.1 hx]; simp only; omega
              have hst := HBa.out.setCell (p := ⟨Bo, r * 4 + 2, none⟩) HBO.out (.int .i64 (1))
              have cT := rep_set Bo cpo r 2 M _ ⟨1, i, 1, a⟩ (.int .i64 (1)) wa HCO.out HCV.out (by decide) rfl HMOK.out hok2 HBB.out.2.1 (HV.out.below hst)
              have t1 := (HSR.out ⟨1, i, 1, a⟩).2 (by simp [P32.alt])
              rw [t1] at cT
              simp only [HS0.out] at cT
              clear t1
              have CT := Lib.hid cT; have HST := Lib.hid hst
              clear cT hst hok2 bnds
              have mr := MR.out; have mq : how.tmod 8 = 7 := MQ.out; have xw := XW.out
              go_wp2_with fail
              refine CT.out.mono ?_
              rintro en w5 ⟨rfl, h9⟩
              have HB5 := Lib.hid (HST.out.trans (h9.mono HST.out.size))
              have hse := HSE.out
              clear h9 CT HST mr mq xw e0 e1 e2 e3 fr0 fr1 fr2 fr3 
              go_wp2_with fail
              refine (works32_any _ (HV.out.below HB5.out)).mono ?_
              rintro en w6 ⟨rfl, h9⟩
              have HZ := Lib.hid (HB5.out.trans (h9.mono HB5.out.size))
              clear h9 HB5
              go_wp2_with fail
              go_ret
              exact ⟨rfl, HZ.out⟩
            · have hok2 : ChOk [(⟨2, i, e, a + 1⟩ : P32.CV)] := fun x hx => by rw [List.mem_singleton.1 hx]; simp only; omega
              have f0 := Lib.hid (show wrap64 (a + 1) = a + 1 from in64 _ (by omega))
              have hst := HBa.out.setCell (p := ⟨Bo, r * 4 + 3, none⟩) HBO.out (.int .i64 (a + 1))
              have cT := rep_set Bo cpo r 3 M _ ⟨2, i, e, a + 1⟩ (.int .i64 (a + 1)) wa HCO.out HCV.out (by decide) rfl HMOK.out hok2 HBB.out.2.1 (HV.out.below hst)
              have t1 := (HSR.out ⟨2, i, e, a + 1⟩).2 (by simp [P32.alt])
              rw [t1] at cT
              simp only [HS0.out] at cT
              clear t1
              have CT := Lib.hid cT; have HST := Lib.hid hst
              clear cT hst hok2 bnds
              replace f0 := f0.out
              have mr := MR.out; have mq : how.tmod 8 = 7 := MQ.out; have xw := XW.out
              go_wp2_with fail
              refine CT.out.mono ?_
              rintro en w5 ⟨rfl, h9⟩
              have HB5 := Lib.hid (HST.out.trans (h9.mono HST.out.size))
              have hse := HSE.out
              clear h9 CT HST mr mq xw e0 e1 e2 e3 fr0 fr1 fr2 fr3 f0
              go_wp2_with fail
              refine (works32_any _ (HV.out.below HB5.out)).mono ?_
              rintro en w6 ⟨rfl, h9⟩
              have HZ := Lib.hid (HB5.out.trans (h9.mono HB5.out.size))
              clear h9 HB5
              go_wp2_with fail
              go_ret
              exact ⟨rfl, HZ.out⟩
end Go.Proofs.YtggdfgdnpicepaaDoor
