/- The walk of numeric.Text (chapter 20). -/
import Derived.Test.YtmhciidliicheaaDoorPlain20c
import Derived.Test.YtmhciidliicheaaDoorChecked
import Derived.Deep.DeepCutAuto
import Derived.Deep.CutBlock
import Derived.ArgAppend
import Derived.Deep.LoopGhost
import Derived.WalkMore
namespace Go.Proofs.YtmhciidliicheaaDoor
open Go.RowKit
set_option linter.unusedVariables false

theorem infoU8 : (Tryd.prog.info? 5).map (fun i => (i.zero, i.size, i.bytes)) = some (some (.int .u8 0), 1, 1) := by kernel_rfl
set_option maxRecDepth 100000 in
set_option maxHeartbeats 4000000 in
theorem ntext_in (sg : UInt8) (x : Int) (n : Nat) (w : World) (hn : n ≤ 86399) (hx : (x = n ∧ sg = 43) ∨ (x < 0 ∧ x = -(n : Int) ∧ sg = 45)) :
    Calls Tryd.prog 40 #[.int .i64 x] w fun e w' => e = .returned (.string (str (sg :: P20.textN n))) ∧ Below w.heap.size w w' := by
  have hni : (n : Int) ≤ 86399 := by omega
  have hbd := P20.KN_bd n
  have hcv := fun W B cap l hl h => conv_own (P := Tryd.prog) Tryd.underlying22 Tryd.underlying5 Tryd.underlying9 W B (1 + 2 * P20.KN n) cap l hl h
  have HCV := Lib.hid hcv
  clear hcv
  go_enter Tryd.func40, Tryd.ntmps40
  go_wp2_with fail
  go_step3
  go_upto_if 16 with (fail)
  go_cut [0, 3] (fun s0 s3 wx => s0 = .int .i64 (n : Int) ∧ s3 = .int .u8 (sg.toNat : Int) ∧ w = wx)
  case first =>
    rcases hx with ⟨rfl, rfl⟩ | ⟨hneg, rfl, rfl⟩
    · go_wp2_with fail
      go_meet
      exact ⟨rfl, rfl, rfl⟩
    · go_wp2_with fail
      go_meet
      exact ⟨by simp, rfl, rfl⟩
  case rest =>
    obtain ⟨rfl, rfl, rfl⟩ := hcut
    clear hx
    have hP := Blk.new w 111 (P20.arrP n)
    rw [P20.arrP_eq] at hP
    have hb0 : Below w.heap.size w (w.alloc (.cells #[.int .i64 ((n : Int) / 3600), .int .i64 ((n : Int) / 60 % 60), .int .i64 ((n : Int) % 60)] 111)) := (Below.refl _ _).alloc (Nat.le_refl _) _
    go_wp2_with fail
    go_step3
    go_wp2_with fail
    go_loop [5] (fun s5 => ∃ k : Nat, s5 = .int .i64 (k : Int) ∧ P20.KN n ≤ k ∧ k ≤ 3) (fun s5 => (intOf s5).toNat)
    case atStart => exact ⟨3, rfl, hbd.2, Nat.le_refl _⟩
    case round =>
      obtain ⟨k, rfl, hk0, hk3⟩ := hrel
      by_cases hkK : k = P20.KN n
      · subst hkK
        by_cases h1 : P20.KN n = 1
        · have hle : (P20.KN n : Int) ≤ 1 := by omega
          clear h1
          go_wp2_with fail
          clear hk0 hk3
          have hO := own_new 1 1 (Blk.newAt (w.alloc (.cells #[.int .i64 ((n : Int) / 3600), .int .i64 ((n : Int) / 60 % 60), .int .i64 ((n : Int) % 60)] 111)) (w.heap.size + 1) (by simp) 5 #[.int .u8 (sg.toNat : Int)]) (Nat.le_refl (w.heap.size + 1)) rfl (by decide)
          have hP1 := hP.alloc (.cells #[.int .u8 (sg.toNat : Int)] 5)
          have hb1 := hb0.alloc hb0.size (.cells #[.int .u8 (sg.toNat : Int)] 5)
          have hKi0 : (0 : Int) ≤ (P20.KN n : Int) := by omega
          have hKi3 : (P20.KN n : Int) ≤ 3 := by omega
          have HK := Lib.hid (P20.flat_all n)
          have HPL := fun k hk => P20.PL_at n k hn hk
          have HPL' := Lib.hid HPL
          clear HPL hP hb0
          generalize P20.KN n = K at hKi0 hKi3 HK HCV ⊢
          go_wp2_with fail
          go_loopw [6, 42] (fun v i wr => ∃ k : Nat, k ≤ K ∧ i = .int .i64 k ∧ wr.ownsRow (w.heap.size + 1) 5 1 v (1 + 2 * k) (bvs (sg :: P20.flat n k)) ∧ Blk wr w.heap.size 111 (P20.arrP n) ∧ Below w.heap.size w wr) (fun _ i _ => K - (intOf i).toNat)
          case atStart => exact ⟨0, Nat.zero_le _, rfl, hO, hP1, hb1⟩
          case round =>
            clear hO hP1 hb1
            obtain ⟨k, hkK, rfl, hO, hP, hb⟩ := hrel
            by_cases hlt : k < K
            · have hlti : (k : Int) < (K : Int) := by omega
              obtain ⟨p, hp, hp100⟩ := HPL'.out k (by omega)
              have c0 : wr.cell? ⟨w.heap.size, k, none⟩ = some (.int .i64 (p : Int)) := (hP.cell k).trans (P20.arrP_at n k p hp)
              have HS := Lib.hid (P20.flat_step n k p hp)
              have hpi : (p : Int) ≤ 99 := by omega
              have hNB : Hid (Blk (wr.alloc (.cells #[.int .u8 (48 + (p : Int) / 10), .int .u8 (48 + (p : Int) % 10)] 5)) wr.heap.size 5 #[.int .u8 (48 + (p : Int) / 10), .int .u8 (48 + (p : Int) % 10)]) := Lib.hid (Blk.new _ _ _)
              have hTB := Lib.hid (P20.two_bvs p hp100)
              have HO := Lib.hid (hO.alloc (.cells #[.int .u8 (48 + (p : Int) / 10), .int .u8 (48 + (p : Int) % 10)] 5))
              have HP := Lib.hid (hP.alloc (.cells #[.int .u8 (48 + (p : Int) / 10), .int .u8 (48 + (p : Int) % 10)] 5))
              have HB := Lib.hid (hb.alloc hb.size (.cells #[.int .u8 (48 + (p : Int) / 10), .int .u8 (48 + (p : Int) % 10)] 5))
              have HZ := Lib.hid (show w.heap.size + 1 ≤ (wr.alloc (.cells #[.int .u8 (48 + (p : Int) / 10), .int .u8 (48 + (p : Int) % 10)] 5)).heap.size from Nat.succ_le_of_lt HP.out.lt)
              have hkb : 1 + 2 * k ≤ 7 := by omega
              have HKB := Lib.hid hkb
              obtain ⟨i0, hi, hz0, hz1, hz2⟩ := info_parts infoU8
              clear hO hP hb hp hp100 hkb
              go_wp2_with (at_builtin; refine wpList_append_own _ rfl _ _ 22 rfl (w.heap.size + 1) 5 i0 (.int .u8 0) 1 1 Tryd.underlying22 hi hz0 hz1 hz2 rfl (by decide) _ _ _ rfl HO.out ⟨wr.heap.size, 0, none⟩ 2 2 [.int .u8 (48 + (p : Int) / 10), .int .u8 (48 + (p : Int) % 10)] rfl rfl (blk_cells hNB.out) (by simp [Value.oneCell']) (by have := HKB.out; simp only [maxLen]; omega) (by have := HKB.out; omega) HZ.out ?_)
              intro v1 wa hown hgr hne
              have hb2 := own_grown HB.out HO.out hgr HB.out.size (Nat.le_succ _)
              have hP2 := blk_grown HP.out HO.out hgr (Nat.lt_succ_self _)
              have hO2 : wa.ownsRow (w.heap.size + 1) 5 1 v1 (1 + 2 * (k + 1)) (bvs (sg :: P20.flat n (k + 1))) := by
                rw [HS.out, ← List.cons_append, bvs_append, hTB.out]; exact hown
              clear hown hgr hne HO HP HB HZ hNB hTB HS HKB
              go_wp2_with fail
              go_roundw
              case rel => exact ⟨k + 1, by omega, by go_num, hO2, hP2, hb2⟩
              case measure => simp [intOf]; omega
            · obtain rfl : k = K := by omega
              obtain ⟨B, cap, rfl, hB0, hB1, hcap, hcs⟩ := own_form hO (by omega)
              have hr := HCV.out wr B cap (sg :: P20.flat n k) (by rw [List.length_cons, P20.flat_len n k (by omega)]; omega) hcs
              rw [HK.out] at hr
              clear hcs hO hP
              go_wp2_with fail
              try rw [Exit.noGoto_ret]
              go_ret
              exact ⟨rfl, hb⟩
        · have hgt : (1 : Int) < (P20.KN n : Int) := by omega
          obtain ⟨p, hp, hpz⟩ := P20.KN_last n h1
          have c0 : (w.alloc (.cells #[.int .i64 ((n : Int) / 3600), .int .i64 ((n : Int) / 60 % 60), .int .i64 ((n : Int) % 60)] 111)).cell? ⟨w.heap.size, P20.KN n - 1, none⟩ = some (.int .i64 (p : Int)) := (hP.cell _).trans (P20.arrP_at n _ p hp)
          have hpq : ((p : Int) == 0) = false := by rw [beq_eq_false_iff_ne]; omega
          clear h1 hp hpz
          go_wp2_with fail
          clear hk0 hk3
          have hO := own_new 1 1 (Blk.newAt (w.alloc (.cells #[.int .i64 ((n : Int) / 3600), .int .i64 ((n : Int) / 60 % 60), .int .i64 ((n : Int) % 60)] 111)) (w.heap.size + 1) (by simp) 5 #[.int .u8 (sg.toNat : Int)]) (Nat.le_refl (w.heap.size + 1)) rfl (by decide)
          have hP1 := hP.alloc (.cells #[.int .u8 (sg.toNat : Int)] 5)
          have hb1 := hb0.alloc hb0.size (.cells #[.int .u8 (sg.toNat : Int)] 5)
          have hKi0 : (0 : Int) ≤ (P20.KN n : Int) := by omega
          have hKi3 : (P20.KN n : Int) ≤ 3 := by omega
          have HK := Lib.hid (P20.flat_all n)
          have HPL := fun k hk => P20.PL_at n k hn hk
          have HPL' := Lib.hid HPL
          clear HPL hP hb0
          generalize P20.KN n = K at hKi0 hKi3 HK HCV ⊢
          go_wp2_with fail
          go_loopw [6, 42] (fun v i wr => ∃ k : Nat, k ≤ K ∧ i = .int .i64 k ∧ wr.ownsRow (w.heap.size + 1) 5 1 v (1 + 2 * k) (bvs (sg :: P20.flat n k)) ∧ Blk wr w.heap.size 111 (P20.arrP n) ∧ Below w.heap.size w wr) (fun _ i _ => K - (intOf i).toNat)
          case atStart => exact ⟨0, Nat.zero_le _, rfl, hO, hP1, hb1⟩
          case round =>
            clear hO hP1 hb1
            obtain ⟨k, hkK, rfl, hO, hP, hb⟩ := hrel
            by_cases hlt : k < K
            · have hlti : (k : Int) < (K : Int) := by omega
              obtain ⟨p, hp, hp100⟩ := HPL'.out k (by omega)
              have c0 : wr.cell? ⟨w.heap.size, k, none⟩ = some (.int .i64 (p : Int)) := (hP.cell k).trans (P20.arrP_at n k p hp)
              have HS := Lib.hid (P20.flat_step n k p hp)
              have hpi : (p : Int) ≤ 99 := by omega
              have hNB : Hid (Blk (wr.alloc (.cells #[.int .u8 (48 + (p : Int) / 10), .int .u8 (48 + (p : Int) % 10)] 5)) wr.heap.size 5 #[.int .u8 (48 + (p : Int) / 10), .int .u8 (48 + (p : Int) % 10)]) := Lib.hid (Blk.new _ _ _)
              have hTB := Lib.hid (P20.two_bvs p hp100)
              have HO := Lib.hid (hO.alloc (.cells #[.int .u8 (48 + (p : Int) / 10), .int .u8 (48 + (p : Int) % 10)] 5))
              have HP := Lib.hid (hP.alloc (.cells #[.int .u8 (48 + (p : Int) / 10), .int .u8 (48 + (p : Int) % 10)] 5))
              have HB := Lib.hid (hb.alloc hb.size (.cells #[.int .u8 (48 + (p : Int) / 10), .int .u8 (48 + (p : Int) % 10)] 5))
              have HZ := Lib.hid (show w.heap.size + 1 ≤ (wr.alloc (.cells #[.int .u8 (48 + (p : Int) / 10), .int .u8 (48 + (p : Int) % 10)] 5)).heap.size from Nat.succ_le_of_lt HP.out.lt)
              have hkb : 1 + 2 * k ≤ 7 := by omega
              have HKB := Lib.hid hkb
              obtain ⟨i0, hi, hz0, hz1, hz2⟩ := info_parts infoU8
              clear hO hP hb hp hp100 hkb
              go_wp2_with (at_builtin; refine wpList_append_own _ rfl _ _ 22 rfl (w.heap.size + 1) 5 i0 (.int .u8 0) 1 1 Tryd.underlying22 hi hz0 hz1 hz2 rfl (by decide) _ _ _ rfl HO.out ⟨wr.heap.size, 0, none⟩ 2 2 [.int .u8 (48 + (p : Int) / 10), .int .u8 (48 + (p : Int) % 10)] rfl rfl (blk_cells hNB.out) (by simp [Value.oneCell']) (by have := HKB.out; simp only [maxLen]; omega) (by have := HKB.out; omega) HZ.out ?_)
              intro v1 wa hown hgr hne
              have hb2 := own_grown HB.out HO.out hgr HB.out.size (Nat.le_succ _)
              have hP2 := blk_grown HP.out HO.out hgr (Nat.lt_succ_self _)
              have hO2 : wa.ownsRow (w.heap.size + 1) 5 1 v1 (1 + 2 * (k + 1)) (bvs (sg :: P20.flat n (k + 1))) := by
                rw [HS.out, ← List.cons_append, bvs_append, hTB.out]; exact hown
              clear hown hgr hne HO HP HB HZ hNB hTB HS HKB
              go_wp2_with fail
              go_roundw
              case rel => exact ⟨k + 1, by omega, by go_num, hO2, hP2, hb2⟩
              case measure => simp [intOf]; omega
            · obtain rfl : k = K := by omega
              obtain ⟨B, cap, rfl, hB0, hB1, hcap, hcs⟩ := own_form hO (by omega)
              have hr := HCV.out wr B cap (sg :: P20.flat n k) (by rw [List.length_cons, P20.flat_len n k (by omega)]; omega) hcs
              rw [HK.out] at hr
              clear hcs hO hP
              go_wp2_with fail
              try rw [Exit.noGoto_ret]
              go_ret
              exact ⟨rfl, hb⟩
      · have hgt : (1 : Int) < (k : Int) := by omega
        have hp := P20.KN_zero n k (by omega) hk3
        have c0 : (w.alloc (.cells #[.int .i64 ((n : Int) / 3600), .int .i64 ((n : Int) / 60 % 60), .int .i64 ((n : Int) % 60)] 111)).cell? ⟨w.heap.size, k - 1, none⟩ = some (.int .i64 0) := (hP.cell _).trans (P20.arrP_at n _ 0 hp)
        clear hp
        go_wp2_with fail
        go_round
        case rel => exact ⟨k - 1, by rw [show ((k - 1 : Nat) : Int) = (k : Int) - 1 by omega], by omega, by omega⟩
        case measure => simp [intOf]; omega
end Go.Proofs.YtmhciidliicheaaDoor
