/- The law WordShort (chapter 8), walked. -/
import Derived.Test.YtggdfgdnpicepaaDoorLaws8b0
namespace Go.Proofs.YtggdfgdnpicepaaDoor
open Go.RowKit Go.Proofs
set_option linter.unusedVariables false
set_option linter.unusedSimpArgs false

theorem small_facts (i : Nat) (h : i < 12) : IntKind.u8.wrap (i : Int) = (i : Int) ∧ wrap64 (i : Int) = (i : Int) ∧ wrap64 (1 + (i : Int)) = 1 + (i : Int) :=
  ⟨u8_id (by omega), by unfold wrap64; omega, by unfold wrap64; omega⟩
theorem two_rests {n : Int} (h : 0 ≤ n ∧ n ≤ 255) : ∃ i j : Nat, i < 12 ∧ j < 7 ∧ n.tmod 12 = (i : Int) ∧ n.tmod 7 = (j : Int) :=
  ⟨(n % 12).toNat, (n % 7).toNat, by omega, by omega, by rw [Int.tmod_eq_emod_of_nonneg h.1]; omega, by rw [Int.tmod_eq_emod_of_nonneg h.1]; omega⟩
set_option maxRecDepth 100000 in
set_option maxHeartbeats 8000000 in
theorem walkWordShort (n bits : Int) (w : World) (hn : (Lit.int .u8 n).wf = true) (hbits : (Lit.int .u16 bits).wf = true) (hv : Vars8 w) :
    Calls Tryd.prog 11 #[.int .u8 n, .int .u16 bits] w fun e w' => e = .returned (.bool true) ∧ Below w.heap.size w w' := by
  have hn2 := u8_bounds hn
  have hb2 := u16_bounds hbits
  clear hn hbits
  obtain ⟨i, j, hi12, hj7, m1, m2⟩ := two_rests hn2
  have M1 := Lib.hid m1; have M2 := Lib.hid m2
  clear m1 m2
  obtain ⟨gm1, gm2⟩ := good_months i hi12
  obtain ⟨gw1, gw2⟩ := good_weeks j hj7
  have tm : monthText (1 + (i : Int)) = P8.short (P8.word P8.months i) := by
    unfold monthText textAt
    rw [show 1 + (i : Int) - 1 = (i : Int) by omega, if_pos ⟨by omega, by rw [show (P8.months.length : Int) = 12 from rfl]; omega⟩]; rfl
  have tw : weekText (j : Int) = P8.short (P8.word P8.weeks j) := by
    unfold weekText textAt
    rw [if_pos ⟨by omega, by rw [show (P8.weeks.length : Int) = 7 from rfl]; omega⟩]; rfl
  have cM := fun W (h : Vars8 W) => month_text (1 + (i : Int)) W (by omega) h
  have cW := fun W (h : Vars8 W) => week_text (j : Int) W h
  rw [tm] at cM; rw [tw] at cW
  have cL1 := fun W => low_any (P8.word P8.months i) W gm1.1 gm1.2 gm2
  have cL2 := fun W => low_any (P8.word P8.weeks j) W gw1.1 gw1.2 gw2
  have cC1 := fun W => cased_any ((P8.word P8.months i).take 3) bits W (by simp; omega) hb2
  have cC2 := fun W => cased_any ((P8.word P8.weeks j).take 3) bits W (by simp; omega) hb2
  have cF1 : ∀ (bs : Nat → Bool) W, Vars8 W → Calls Tryd.prog 28 #[.string (str (((P8.word P8.months i).take 3).mapIdx fun i c => P8.up (bs i) c))] W fun e w' => e = .returned (.tuple #[.int .i64 (1 + (i : Int)), .int .i64 0]) ∧ Below W.heap.size W w' := fun bs W h => by
    have q := month_any (str (((P8.word P8.months i).take 3).mapIdx fun i c => P8.up (bs i) c)) W (by rw [str_size]; simp; omega) h
    rw [str_data, num_found (low_upTo bs _ (fun c hc => gm2 c (List.mem_of_mem_take hc))) (P8.short_fact.1 i hi12)] at q
    exact q
  have cF2 : ∀ (bs : Nat → Bool) W, Vars8 W → Calls Tryd.prog 30 #[.string (str (((P8.word P8.weeks j).take 3).mapIdx fun i c => P8.up (bs i) c))] W fun e w' => e = .returned (.tuple #[.int .i64 (j : Int), .int .i64 0]) ∧ Below W.heap.size W w' := fun bs W h => by
    have q := week_any (str (((P8.word P8.weeks j).take 3).mapIdx fun i c => P8.up (bs i) c)) W (by rw [str_size]; simp; omega) h
    rw [str_data, num_found (low_upTo bs _ (fun c hc => gw2 c (List.mem_of_mem_take hc))) (P8.short_fact.2 j hj7), Int.zero_add] at q
    exact q
  have t1 := three_of (short_months i hi12)
  have t2 := three_of (short_weeks j hj7)
  generalize P8.short (P8.word P8.months i) = S at cM cL1 t1
  generalize P8.short (P8.word P8.weeks j) = T at cW cL2 t2
  generalize (P8.word P8.months i).take 3 = S3 at cL1 cC1 cF1
  generalize (P8.word P8.weeks j).take 3 = T3 at cL2 cC2 cF2
  have CM := Lib.hid cM; have CW := Lib.hid cW; have CL1 := Lib.hid cL1; have CL2 := Lib.hid cL2; have CC1 := Lib.hid cC1; have CC2 := Lib.hid cC2; have CF1 := Lib.hid cF1; have CF2 := Lib.hid cF2
  have HT1 := Lib.hid t1; have HT2 := Lib.hid t2; have HV := Lib.hid hv
  obtain ⟨x1, y1, y3⟩ := small_facts i hi12
  obtain ⟨x2, y2, _⟩ := small_facts j (by omega)
  have m1 := M1.out; have m2 := M2.out
  have hb := Below.refl w.heap.size w
  clear tm tw cM cW cL1 cL2 cC1 cC2 cF1 cF2 gm1 gm2 gw1 gw2 t1 t2 hv hn2 hb2 hi12 hj7
  go_enter Tryd.func11, Tryd.ntmps11
  go_wp2_with first
    | (go_at_call 34; refine (CM.out _ (HV.out.below hb)).mono ?_; rintro e w1 ⟨rfl, h9⟩; replace hb := hb.trans (h9.mono hb.size); clear h9)
    | (go_at_call 36; refine (CW.out _ (HV.out.below hb)).mono ?_; rintro e w2 ⟨rfl, h9⟩; replace hb := hb.trans (h9.mono hb.size); clear h9)
  clear m1 m2 x1 x2 y1 y2 y3 M1 M2
  have hC := Cs.new w2 9 #[.string (str S), .string (str T)]
  replace hb := hb.alloc hb.size (.cells #[.string (str S), .string (str T)] 9)
  generalize hg : w2.heap.size = g at hC ⊢
  generalize w2.alloc (.cells #[.string (str S), .string (str T)] 9) = W3 at hC hb ⊢
  clear hg
  have HC := Lib.hid hC
  clear hC
  go_loopw [31] (fun i W => ∃ k : Nat, k ≤ 2 ∧ i = .int .i64 k ∧ W = W3) (fun i _ => 2 - (intOf i).toNat)
  case atStart => exact ⟨0, by omega, rfl, rfl⟩
  case round =>
    obtain ⟨k, hk, rfl, rfl⟩ := hrel
    by_cases hlt : k < 2
    · have hki : (k : Int) < (2 : Int) := by omega
      obtain ⟨a, b, c, hcell, ⟨a1, a2⟩, ⟨b1, b2⟩, c1, c2⟩ : ∃ a b c : UInt8, wr.cell? ⟨g, k, none⟩ = some (.string (str [a, b, c])) ∧ ((65 : Int) ≤ (a.toNat : Int) ∧ (a.toNat : Int) ≤ 90) ∧ ((97 : Int) ≤ (b.toNat : Int) ∧ (b.toNat : Int) ≤ 122) ∧ ((97 : Int) ≤ (c.toNat : Int) ∧ (c.toNat : Int) ≤ 122) := by
        rcases (show k = 0 ∨ k = 1 by omega) with rfl | rfl
        · obtain ⟨a, b, c, rfl, h⟩ := HT1.out
          exact ⟨a, b, c, HC.out.cell 0 _ rfl, h⟩
        · obtain ⟨a, b, c, rfl, h⟩ := HT2.out
          exact ⟨a, b, c, HC.out.cell 1 _ rfl, h⟩
      obtain ⟨X, z, z0, z1, z2, hX⟩ : ∃ (X : ByteArray) (z : X.size = 3), X[0]'(by rw [z]; decide) = a ∧ X[1]'(by rw [z]; decide) = b ∧ X[2]'(by rw [z]; decide) = c ∧ str [a, b, c] = X := ⟨str [a, b, c], rfl, rfl, rfl, rfl, rfl⟩
      rw [hX] at hcell
      clear hX
      have a3 : ¬ (a.toNat : Int) < 65 := by omega
      have a4 : ¬ (90 : Int) < (a.toNat : Int) := by omega
      have b3 : ¬ (b.toNat : Int) < 97 := by omega
      have b4 : ¬ (122 : Int) < (b.toNat : Int) := by omega
      have c3 : ¬ (c.toNat : Int) < 97 := by omega
      have c4 : ¬ (122 : Int) < (c.toNat : Int) := by omega
      go_wp2_with fail
      go_roundw
      case rel => exact ⟨k + 1, by omega, by go_num, trivial⟩
      case measure => simp [intOf]; omega
    · obtain rfl : k = 2 := by omega
      have q1 : ((1 + (i : Int)) == (1 + (i : Int))) = true := beq_self_eq_true _
      have q2 : ((j : Int) == (j : Int)) = true := beq_self_eq_true _
      have p1 : (str S).size = (str S).size := rfl
      clear HC HT1 HT2 CM CW p1
      go_wp2_with fail
      refine (CL1.out _).mono ?_
      rintro e w5 ⟨rfl, h9⟩
      replace hb := hb.trans (h9.mono hb.size)
      clear h9
      go_wp2_with fail
      refine (CC1.out _).mono ?_
      rintro e w5 ⟨bs, rfl, h9⟩
      replace hb := hb.trans (h9.mono hb.size)
      clear h9
      go_wp2_with fail
      refine (CF1.out bs _ (HV.out.below hb)).mono ?_
      rintro e w5 ⟨rfl, h9⟩
      replace hb := hb.trans (h9.mono hb.size)
      clear h9
      go_wp2_with fail
      refine (CL2.out _).mono ?_
      rintro e w5 ⟨rfl, h9⟩
      replace hb := hb.trans (h9.mono hb.size)
      clear h9
      go_wp2_with fail
      refine (CC2.out _).mono ?_
      rintro e w5 ⟨bs2, rfl, h9⟩
      replace hb := hb.trans (h9.mono hb.size)
      clear h9
      go_wp2_with fail
      refine (CF2.out bs2 _ (HV.out.below hb)).mono ?_
      rintro e w5 ⟨rfl, h9⟩
      replace hb := hb.trans (h9.mono hb.size)
      clear h9
      go_wp2_with fail
      refine (works8_any _ (HV.out.below hb)).mono ?_
      rintro e w5 ⟨rfl, h9⟩
      replace hb := hb.trans (h9.mono hb.size)
      clear h9
      go_wp2_with fail
      go_ret
      exact ⟨rfl, hb⟩
end Go.Proofs.YtggdfgdnpicepaaDoor
