/- The walk of the law NumericDigits (chapter 20), with the sign minus. -/
import Derived.Test.YtmgmgdjddimgmaaDoorDig20
import Derived.Deep.DeepCutAuto
import Derived.Deep.CutBlock
namespace Go.Proofs.YtmgmgdjddimgmaaDoor
open Go.RowKit
set_option linter.unusedVariables false

set_option maxRecDepth 100000 in
set_option maxHeartbeats 20000000 in
theorem digits_minus (a b c : Int) (h m s : Nat) (w : World) (ha0 : 0 ≤ a) (ha1 : a ≤ 255) (hb0 : 0 ≤ b) (hb1 : b ≤ 255) (hc0 : 0 ≤ c) (hc1 : c ≤ 255) (hh : a % 100 = (h : Int)) (hm : b % 100 = (m : Int)) (hs : c % 100 = (s : Int)) (h1 : h < 100) (m1 : m < 100) (s1 : s < 100) (hv : Vars w) :
    Calls Tryd.prog 6 #[.int .u8 a, .int .u8 b, .int .u8 c, .bool true] w fun e w' => e = .returned (.bool true) ∧ Below w.heap.size w w' := by
  have hhi : (h : Int) ≤ 99 := by omega
  have hmi : (m : Int) ≤ 99 := by omega
  have hsi : (s : Int) ≤ 99 := by omega
  have t1 : (str (P4.two h)).size ≤ 2 := Nat.le_refl 2
  have t2 : (str (P4.two m)).size ≤ 2 := Nat.le_refl 2
  have t3 : (str (P4.two s)).size ≤ 2 := Nat.le_refl 2
  have cH : Hid (∀ W, Calls Tryd.prog 17 #[.int .i64 (h : Int)] W fun e w' => e = .returned (.string (str (P4.two h))) ∧ Below W.heap.size W w') := fun W => dtwo_any h W h1
  have cM : Hid (∀ W, Calls Tryd.prog 17 #[.int .i64 (m : Int)] W fun e w' => e = .returned (.string (str (P4.two m))) ∧ Below W.heap.size W w') := fun W => dtwo_any m W m1
  have cS : Hid (∀ W, Calls Tryd.prog 17 #[.int .i64 (s : Int)] W fun e w' => e = .returned (.string (str (P4.two s))) ∧ Below W.heap.size W w') := fun W => dtwo_any s W s1
  have e1 : ByteArray.mk #[45] ++ str (P4.two h) = str (P20.sgb true :: P4.two h) := str_append [45] _
  have e2 : str (P20.sgb true :: P4.two h) ++ str (P4.two m) = str (P20.sgb true :: (P4.two h ++ P4.two m)) := str_append _ _
  have e3 : str (P20.sgb true :: (P4.two h ++ P4.two m)) ++ str (P4.two s) = str (P20.sgb true :: (P4.two h ++ (P4.two m ++ P4.two s))) := by rw [str_append]; simp only [List.cons_append, List.append_assoc]
  have z0 : (str (P20.sgb true :: P4.two h)).size ≤ 3 := Nat.le_refl 3
  have z1 : (str (P20.sgb true :: (P4.two h ++ P4.two m))).size ≤ 5 := Nat.le_refl 5
  have z2 : (str (P20.sgb true :: (P4.two h ++ (P4.two m ++ P4.two s)))).size ≤ 7 := Nat.le_refl 7
  have q0 := P20.d0 true h h1
  have q1 := P20.d1 true h m h1 m1
  have q2 := P20.d2 true h m s h1 m1 s1
  have pY0 : P20.parse (P20.sgb true :: P4.two h) = ((-(3600 * (h : Int))), 0) → Hid (∀ W, Vars W → Calls Tryd.prog 11 #[.string (str (P20.sgb true :: P4.two h))] W fun e w' => e = .returned (.tuple #[.int .i64 (-(3600 * (h : Int))), .int .i64 0]) ∧ Below W.heap.size W w') ∧ Hid (∀ W, Calls Tryd.prog 13 #[.int .i64 (-(3600 * (h : Int)))] W fun e w' => e = .returned (.string (str (P20.sgb true :: P4.two h))) ∧ Below W.heap.size W w') := fun q => by
    refine ⟨fun W hW => ?_, fun W => ?_⟩
    · have r := nparse_any (str (P20.sgb true :: P4.two h)) W (Nat.le_trans z0 (by decide)) hW
      rw [show P20.parse (P4.bl (str (P20.sgb true :: P4.two h))) = ((-(3600 * (h : Int))), 0) from q] at r; exact r
    · have r := ntext_any (-(3600 * (h : Int))) W (by omega) (by omega)
      have u : P20.text (-(3600 * (h : Int))) = (P20.sgb true :: P4.two h) := by
        rcases P20.parse_cases (P20.sgb true :: P4.two h) with ⟨y, g1, g2, _⟩ | g
        · rw [q] at g1; injection g1 with g1; rw [g1]; exact g2
        · rw [q] at g; injection g with _ g; exact absurd g (by decide)
      rw [u] at r; exact r
  have pN0 : P20.parse (P20.sgb true :: P4.two h) = (0, 5) → Hid (∀ W, Vars W → Calls Tryd.prog 11 #[.string (str (P20.sgb true :: P4.two h))] W fun e w' => e = .returned (.tuple #[.int .i64 0, .int .i64 5]) ∧ Below W.heap.size W w') := fun q W hW => by
    have r := nparse_any (str (P20.sgb true :: P4.two h)) W (Nat.le_trans z0 (by decide)) hW
    rw [show P20.parse (P4.bl (str (P20.sgb true :: P4.two h))) = (0, 5) from q] at r; exact r
  have pY1 : P20.parse (P20.sgb true :: (P4.two h ++ P4.two m)) = ((-(3600 * (h : Int) + 60 * (m : Int))), 0) → Hid (∀ W, Vars W → Calls Tryd.prog 11 #[.string (str (P20.sgb true :: (P4.two h ++ P4.two m)))] W fun e w' => e = .returned (.tuple #[.int .i64 (-(3600 * (h : Int) + 60 * (m : Int))), .int .i64 0]) ∧ Below W.heap.size W w') ∧ Hid (∀ W, Calls Tryd.prog 13 #[.int .i64 (-(3600 * (h : Int) + 60 * (m : Int)))] W fun e w' => e = .returned (.string (str (P20.sgb true :: (P4.two h ++ P4.two m)))) ∧ Below W.heap.size W w') := fun q => by
    refine ⟨fun W hW => ?_, fun W => ?_⟩
    · have r := nparse_any (str (P20.sgb true :: (P4.two h ++ P4.two m))) W (Nat.le_trans z1 (by decide)) hW
      rw [show P20.parse (P4.bl (str (P20.sgb true :: (P4.two h ++ P4.two m)))) = ((-(3600 * (h : Int) + 60 * (m : Int))), 0) from q] at r; exact r
    · have r := ntext_any (-(3600 * (h : Int) + 60 * (m : Int))) W (by omega) (by omega)
      have u : P20.text (-(3600 * (h : Int) + 60 * (m : Int))) = (P20.sgb true :: (P4.two h ++ P4.two m)) := by
        rcases P20.parse_cases (P20.sgb true :: (P4.two h ++ P4.two m)) with ⟨y, g1, g2, _⟩ | g
        · rw [q] at g1; injection g1 with g1; rw [g1]; exact g2
        · rw [q] at g; injection g with _ g; exact absurd g (by decide)
      rw [u] at r; exact r
  have pN1 : P20.parse (P20.sgb true :: (P4.two h ++ P4.two m)) = (0, 5) → Hid (∀ W, Vars W → Calls Tryd.prog 11 #[.string (str (P20.sgb true :: (P4.two h ++ P4.two m)))] W fun e w' => e = .returned (.tuple #[.int .i64 0, .int .i64 5]) ∧ Below W.heap.size W w') := fun q W hW => by
    have r := nparse_any (str (P20.sgb true :: (P4.two h ++ P4.two m))) W (Nat.le_trans z1 (by decide)) hW
    rw [show P20.parse (P4.bl (str (P20.sgb true :: (P4.two h ++ P4.two m)))) = (0, 5) from q] at r; exact r
  have pY2 : P20.parse (P20.sgb true :: (P4.two h ++ (P4.two m ++ P4.two s))) = ((-(3600 * (h : Int) + 60 * (m : Int) + (s : Int))), 0) → Hid (∀ W, Vars W → Calls Tryd.prog 11 #[.string (str (P20.sgb true :: (P4.two h ++ (P4.two m ++ P4.two s))))] W fun e w' => e = .returned (.tuple #[.int .i64 (-(3600 * (h : Int) + 60 * (m : Int) + (s : Int))), .int .i64 0]) ∧ Below W.heap.size W w') ∧ Hid (∀ W, Calls Tryd.prog 13 #[.int .i64 (-(3600 * (h : Int) + 60 * (m : Int) + (s : Int)))] W fun e w' => e = .returned (.string (str (P20.sgb true :: (P4.two h ++ (P4.two m ++ P4.two s))))) ∧ Below W.heap.size W w') := fun q => by
    refine ⟨fun W hW => ?_, fun W => ?_⟩
    · have r := nparse_any (str (P20.sgb true :: (P4.two h ++ (P4.two m ++ P4.two s)))) W (Nat.le_trans z2 (by decide)) hW
      rw [show P20.parse (P4.bl (str (P20.sgb true :: (P4.two h ++ (P4.two m ++ P4.two s))))) = ((-(3600 * (h : Int) + 60 * (m : Int) + (s : Int))), 0) from q] at r; exact r
    · have r := ntext_any (-(3600 * (h : Int) + 60 * (m : Int) + (s : Int))) W (by omega) (by omega)
      have u : P20.text (-(3600 * (h : Int) + 60 * (m : Int) + (s : Int))) = (P20.sgb true :: (P4.two h ++ (P4.two m ++ P4.two s))) := by
        rcases P20.parse_cases (P20.sgb true :: (P4.two h ++ (P4.two m ++ P4.two s))) with ⟨y, g1, g2, _⟩ | g
        · rw [q] at g1; injection g1 with g1; rw [g1]; exact g2
        · rw [q] at g; injection g with _ g; exact absurd g (by decide)
      rw [u] at r; exact r
  have pN2 : P20.parse (P20.sgb true :: (P4.two h ++ (P4.two m ++ P4.two s))) = (0, 5) → Hid (∀ W, Vars W → Calls Tryd.prog 11 #[.string (str (P20.sgb true :: (P4.two h ++ (P4.two m ++ P4.two s))))] W fun e w' => e = .returned (.tuple #[.int .i64 0, .int .i64 5]) ∧ Below W.heap.size W w') := fun q W hW => by
    have r := nparse_any (str (P20.sgb true :: (P4.two h ++ (P4.two m ++ P4.two s)))) W (Nat.le_trans z2 (by decide)) hW
    rw [show P20.parse (P4.bl (str (P20.sgb true :: (P4.two h ++ (P4.two m ++ P4.two s))))) = (0, 5) from q] at r; exact r
  have QY0 := Lib.hid (fun (x : h < 24) (y : h ≠ 0) => pY0 (q0.trans ((if_pos ⟨x, .inl y⟩).trans (by simp [P20.sgv]))))
  have QN0 := Lib.hid (fun (x : ¬ (h < 24 ∧ (h ≠ 0 ∨ true = false))) => pN0 (q0.trans (if_neg x)))
  have QY1 := Lib.hid (fun (x : h < 24 ∧ m < 60 ∧ m ≠ 0) => pY1 (q1.trans ((if_pos x).trans (by simp [P20.sgv]))))
  have QN1 := Lib.hid (fun (x : ¬ (h < 24 ∧ m < 60 ∧ m ≠ 0)) => pN1 (q1.trans (if_neg x)))
  have QY2 := Lib.hid (fun (x : h < 24 ∧ m < 60 ∧ s < 60 ∧ s ≠ 0) => pY2 (q2.trans ((if_pos x).trans (by simp [P20.sgv]))))
  have QN2 := Lib.hid (fun (x : ¬ (h < 24 ∧ m < 60 ∧ s < 60 ∧ s ≠ 0)) => pN2 (q2.trans (if_neg x)))
  clear q0 q1 q2 pY0 pY1 pY2 pN0 pN1 pN2
  generalize str (P20.sgb true :: P4.two h) = T0 at *
  generalize str (P20.sgb true :: (P4.two h ++ P4.two m)) = T1 at *
  generalize str (P20.sgb true :: (P4.two h ++ (P4.two m ++ P4.two s))) = T2 at *
  generalize str (P4.two h) = U0 at *
  generalize str (P4.two m) = U1 at *
  generalize str (P4.two s) = U2 at *
  obtain ⟨RR, hRR⟩ : ∃ RR : Bool, RR = decide (h < 24 ∧ m < 60 ∧ s < 60 ∧ 3600 * h + 60 * m + s ≠ 0) := ⟨_, rfl⟩
  have HRR := Lib.hid hRR
  clear hRR
  go_enter Tryd.func6, Tryd.ntmps6
  go_upto_region 6 with (fail)
  go_cut [15] (fun s15 wx => s15 = .bool RR ∧ w = wx)
  case first =>
    clear QY0 QN0 QY1 QN1 QY2 QN2 cH cM cS e1 e2 e3 z0 z1 z2 t1 t2 t3
    by_cases a0 : h < 24
    · by_cases a1 : m < 60
      · by_cases a2 : s < 60
        · by_cases a3 : 3600 * h + 60 * m + s = 0
          · skip
            have hR : RR = false := HRR.out.trans (decide_eq_false (fun q => q.2.2.2 a3))
            have fh : ((h : Int) < 24) := by omega
            have fm : ((m : Int) < 60) := by omega
            have fs : ((s : Int) < 60) := by omega
            have bx : ((-(3600 * (h : Int) + 60 * (m : Int) + (s : Int))) != 0) = false := by rw [bne_eq_false_iff_eq]; omega
            go_wp2_with fail
            go_meet
            exact ⟨by rw [hR], rfl⟩
          · skip
            have hR : RR = true := HRR.out.trans (decide_eq_true ⟨a0, a1, a2, a3⟩)
            have fh : ((h : Int) < 24) := by omega
            have fm : ((m : Int) < 60) := by omega
            have fs : ((s : Int) < 60) := by omega
            have bx : ((-(3600 * (h : Int) + 60 * (m : Int) + (s : Int))) != 0) = true := by rw [bne_iff_ne]; omega
            go_wp2_with fail
            go_meet
            exact ⟨by rw [hR], rfl⟩
        · skip
          have hR : RR = false := HRR.out.trans (decide_eq_false (by omega))
          have fh : ((h : Int) < 24) := by omega
          have fm : ((m : Int) < 60) := by omega
          have fs : ¬ ((s : Int) < 60) := by omega
          go_wp2_with fail
          go_meet
          exact ⟨by rw [hR], rfl⟩
      · skip
        have hR : RR = false := HRR.out.trans (decide_eq_false (by omega))
        have fh : ((h : Int) < 24) := by omega
        have fm : ¬ ((m : Int) < 60) := by omega
        go_wp2_with fail
        go_meet
        exact ⟨by rw [hR], rfl⟩
    · skip
      have hR : RR = false := HRR.out.trans (decide_eq_false (by omega))
      have fh : ¬ ((h : Int) < 24) := by omega
      go_wp2_with fail
      go_meet
      exact ⟨by rw [hR], rfl⟩
  case rest =>
    obtain ⟨rfl, rfl⟩ := hcut
    go_wp2_with fail
    refine (cH.out _).mono ?_
    rintro e w1 ⟨rfl, hcc1⟩
    have hbb1 := hcc1
    go_wp2_with fail
    refine (cH.out _).mono ?_
    rintro e w2 ⟨rfl, hcc2⟩
    have hbb2 := hbb1.trans (hcc2.mono hbb1.size)
    clear hcc2 hbb1
    go_wp2_with fail
    refine (cM.out _).mono ?_
    rintro e w3 ⟨rfl, hcc3⟩
    have hbb3 := hbb2.trans (hcc3.mono hbb2.size)
    clear hcc3 hbb2
    go_wp2_with fail
    refine (cH.out _).mono ?_
    rintro e w4 ⟨rfl, hcc4⟩
    have hbb4 := hbb3.trans (hcc4.mono hbb3.size)
    clear hcc4 hbb3
    go_wp2_with fail
    refine (cM.out _).mono ?_
    rintro e w5 ⟨rfl, hcc5⟩
    have hbb5 := hbb4.trans (hcc5.mono hbb4.size)
    clear hcc5 hbb4
    go_wp2_with fail
    refine (cS.out _).mono ?_
    rintro e w6 ⟨rfl, hcc6⟩
    have hbb6 := hbb5.trans (hcc6.mono hbb5.size)
    clear hcc6 hbb5
    have hT := Blk.new w6 9 #[.string T0, .string T1, .string T2]
    have hbT := hbb6.alloc hbb6.size (.cells #[.string T0, .string T1, .string T2] 9)
    clear hbb6 hcc1 cH cM cS
    go_wp2_with fail
    clear e1 e2 e3 z0 z1 z2 t1 t2 t3
    go_loopw [87] (fun i wz => ∃ k : Int, (k = 0 ∨ k = 1 ∨ k = 2 ∨ k = 3) ∧ i = .int .i64 k ∧ Blk wz w6.heap.size 9 #[.string T0, .string T1, .string T2] ∧ Below w.heap.size w wz) (fun i _ => 3 - (intOf i).toNat)
    case atStart => exact ⟨0, .inl rfl, rfl, hT, hbT⟩
    case round =>
      clear hT hbT
      obtain ⟨k, hk, rfl, hT, hb⟩ := hrel
      rcases hk with rfl | rfl | rfl | rfl
      · by_cases C0 : h < 24
        · by_cases C1 : h = 0
          · skip
            have c0 : wr.cell? ⟨w6.heap.size, 0, none⟩ = some (.string T0) := (hT.cell 0).trans rfl
            have hvr := hv.below hb
            have PA := QN0.out (by rintro ⟨_, q | q⟩; exact q C1; cases q)
            have fh : decide ((h : Int) < 24) = true := decide_eq_true (by omega)
            have nh : ((h : Int) != 0) = false := by rw [bne_eq_false_iff_eq]; omega
            clear C1
            clear QY0 QN0 QY1 QN1 QY2 QN2
            go_wp2_with fail
            refine (PA.out _ hvr).mono ?_
            rintro e u1 ⟨rfl, hd1⟩
            have hT1 := hT.below hd1 hT.lt
            have hf1 := hb.trans (hd1.mono hb.size)
            clear hT hb hd1 hvr c0 PA
            go_wp2_with fail
            go_roundw
            case rel => first | exact ⟨1, by omega, by go_num, hT1, hf1⟩ | ((repeat apply Exists.intro); exact ⟨⟨1, by omega, by go_num, hT1, hf1⟩, rfl⟩)
            case measure => simp [intOf]
          · skip
            have c0 : wr.cell? ⟨w6.heap.size, 0, none⟩ = some (.string T0) := (hT.cell 0).trans rfl
            have hvr := hv.below hb
            obtain ⟨PA, PB⟩ := QY0.out C0 C1
            have fh : decide ((h : Int) < 24) = true := decide_eq_true (by omega)
            have nh : ((h : Int) != 0) = true := by rw [bne_iff_ne]; omega
            clear QY0 QN0 QY1 QN1 QY2 QN2
            go_wp2_with fail
            refine (PA.out _ hvr).mono ?_
            rintro e u1 ⟨rfl, hd1⟩
            have hT1 := hT.below hd1 hT.lt
            have hf1 := hb.trans (hd1.mono hb.size)
            clear hT hb hd1 hvr c0 PA
            go_wp2_with fail
            refine (PB.out _).mono ?_
            rintro e u2 ⟨rfl, hd2⟩
            have hT2 := hT1.below hd2 hT1.lt
            have hf2 := hf1.trans (hd2.mono hf1.size)
            clear hT1 hf1 hd2 PB
            go_wp2_with fail
            go_roundw
            case rel => first | exact ⟨1, by omega, by go_num, hT2, hf2⟩ | ((repeat apply Exists.intro); exact ⟨⟨1, by omega, by go_num, hT2, hf2⟩, rfl⟩)
            case measure => simp [intOf]
        · skip
          have c0 : wr.cell? ⟨w6.heap.size, 0, none⟩ = some (.string T0) := (hT.cell 0).trans rfl
          have hvr := hv.below hb
          have PA := QN0.out (fun q => C0 q.1)
          have fh : decide ((h : Int) < 24) = false := decide_eq_false (by omega)
          clear QY0 QN0 QY1 QN1 QY2 QN2
          go_wp2_with fail
          refine (PA.out _ hvr).mono ?_
          rintro e u1 ⟨rfl, hd1⟩
          have hT1 := hT.below hd1 hT.lt
          have hf1 := hb.trans (hd1.mono hb.size)
          clear hT hb hd1 hvr c0 PA
          go_wp2_with fail
          go_roundw
          case rel => first | exact ⟨1, by omega, by go_num, hT1, hf1⟩ | ((repeat apply Exists.intro); exact ⟨⟨1, by omega, by go_num, hT1, hf1⟩, rfl⟩)
          case measure => simp [intOf]
      · by_cases C0 : h < 24
        · by_cases C1 : m < 60
          · by_cases C2 : m = 0
            · skip
              have c0 : wr.cell? ⟨w6.heap.size, 1, none⟩ = some (.string T1) := (hT.cell 1).trans rfl
              have hvr := hv.below hb
              have PA := QN1.out (by omega)
              have fh : decide ((h : Int) < 24) = true := decide_eq_true (by omega)
              have fm : decide ((m : Int) < 60) = true := decide_eq_true (by omega)
              have nm : ((m : Int) != 0) = false := by rw [bne_eq_false_iff_eq]; omega
              clear C2
              clear QY0 QN0 QY1 QN1 QY2 QN2
              go_wp2_with fail
              refine (PA.out _ hvr).mono ?_
              rintro e u1 ⟨rfl, hd1⟩
              have hT1 := hT.below hd1 hT.lt
              have hf1 := hb.trans (hd1.mono hb.size)
              clear hT hb hd1 hvr c0 PA
              go_wp2_with fail
              go_roundw
              case rel => first | exact ⟨2, by omega, by go_num, hT1, hf1⟩ | ((repeat apply Exists.intro); exact ⟨⟨2, by omega, by go_num, hT1, hf1⟩, rfl⟩)
              case measure => simp [intOf]
            · skip
              have c0 : wr.cell? ⟨w6.heap.size, 1, none⟩ = some (.string T1) := (hT.cell 1).trans rfl
              have hvr := hv.below hb
              obtain ⟨PA, PB⟩ := QY1.out ⟨C0, C1, C2⟩
              have fh : decide ((h : Int) < 24) = true := decide_eq_true (by omega)
              have fm : decide ((m : Int) < 60) = true := decide_eq_true (by omega)
              have nm : ((m : Int) != 0) = true := by rw [bne_iff_ne]; omega
              clear QY0 QN0 QY1 QN1 QY2 QN2
              go_wp2_with fail
              refine (PA.out _ hvr).mono ?_
              rintro e u1 ⟨rfl, hd1⟩
              have hT1 := hT.below hd1 hT.lt
              have hf1 := hb.trans (hd1.mono hb.size)
              clear hT hb hd1 hvr c0 PA
              go_wp2_with fail
              refine (PB.out _).mono ?_
              rintro e u2 ⟨rfl, hd2⟩
              have hT2 := hT1.below hd2 hT1.lt
              have hf2 := hf1.trans (hd2.mono hf1.size)
              clear hT1 hf1 hd2 PB
              go_wp2_with fail
              go_roundw
              case rel => first | exact ⟨2, by omega, by go_num, hT2, hf2⟩ | ((repeat apply Exists.intro); exact ⟨⟨2, by omega, by go_num, hT2, hf2⟩, rfl⟩)
              case measure => simp [intOf]
          · skip
            have c0 : wr.cell? ⟨w6.heap.size, 1, none⟩ = some (.string T1) := (hT.cell 1).trans rfl
            have hvr := hv.below hb
            have PA := QN1.out (by omega)
            have fh : decide ((h : Int) < 24) = true := decide_eq_true (by omega)
            have fm : decide ((m : Int) < 60) = false := decide_eq_false (by omega)
            clear QY0 QN0 QY1 QN1 QY2 QN2
            go_wp2_with fail
            refine (PA.out _ hvr).mono ?_
            rintro e u1 ⟨rfl, hd1⟩
            have hT1 := hT.below hd1 hT.lt
            have hf1 := hb.trans (hd1.mono hb.size)
            clear hT hb hd1 hvr c0 PA
            go_wp2_with fail
            go_roundw
            case rel => first | exact ⟨2, by omega, by go_num, hT1, hf1⟩ | ((repeat apply Exists.intro); exact ⟨⟨2, by omega, by go_num, hT1, hf1⟩, rfl⟩)
            case measure => simp [intOf]
        · skip
          have c0 : wr.cell? ⟨w6.heap.size, 1, none⟩ = some (.string T1) := (hT.cell 1).trans rfl
          have hvr := hv.below hb
          have PA := QN1.out (by omega)
          have fh : decide ((h : Int) < 24) = false := decide_eq_false (by omega)
          clear QY0 QN0 QY1 QN1 QY2 QN2
          go_wp2_with fail
          refine (PA.out _ hvr).mono ?_
          rintro e u1 ⟨rfl, hd1⟩
          have hT1 := hT.below hd1 hT.lt
          have hf1 := hb.trans (hd1.mono hb.size)
          clear hT hb hd1 hvr c0 PA
          go_wp2_with fail
          go_roundw
          case rel => first | exact ⟨2, by omega, by go_num, hT1, hf1⟩ | ((repeat apply Exists.intro); exact ⟨⟨2, by omega, by go_num, hT1, hf1⟩, rfl⟩)
          case measure => simp [intOf]
      · by_cases C3 : s = 0
        · skip
          cases RR with
          | true =>
            have c0 : wr.cell? ⟨w6.heap.size, 2, none⟩ = some (.string T2) := (hT.cell 2).trans rfl
            have hvr := hv.below hb
            have PA := QN2.out (by omega)
            have ns : ((s : Int) != 0) = false := by rw [bne_eq_false_iff_eq]; omega
            clear C3
            clear QY0 QN0 QY1 QN1 QY2 QN2
            go_wp2_with fail
            refine (PA.out _ hvr).mono ?_
            rintro e u1 ⟨rfl, hd1⟩
            have hT1 := hT.below hd1 hT.lt
            have hf1 := hb.trans (hd1.mono hb.size)
            clear hT hb hd1 hvr c0 PA
            go_wp2_with fail
            go_roundw
            case rel => first | exact ⟨3, by omega, by go_num, hT1, hf1⟩ | ((repeat apply Exists.intro); exact ⟨⟨3, by omega, by go_num, hT1, hf1⟩, rfl⟩)
            case measure => simp [intOf]
          | false =>
            have c0 : wr.cell? ⟨w6.heap.size, 2, none⟩ = some (.string T2) := (hT.cell 2).trans rfl
            have hvr := hv.below hb
            have PA := QN2.out (by omega)
            have ns : ((s : Int) != 0) = false := by rw [bne_eq_false_iff_eq]; omega
            clear C3
            clear QY0 QN0 QY1 QN1 QY2 QN2
            go_wp2_with fail
            refine (PA.out _ hvr).mono ?_
            rintro e u1 ⟨rfl, hd1⟩
            have hT1 := hT.below hd1 hT.lt
            have hf1 := hb.trans (hd1.mono hb.size)
            clear hT hb hd1 hvr c0 PA
            go_wp2_with fail
            go_roundw
            case rel => first | exact ⟨3, by omega, by go_num, hT1, hf1⟩ | ((repeat apply Exists.intro); exact ⟨⟨3, by omega, by go_num, hT1, hf1⟩, rfl⟩)
            case measure => simp [intOf]
        · by_cases C0 : h < 24
          · by_cases C1 : m < 60
            · by_cases C2 : s < 60
              · skip
                have c0 : wr.cell? ⟨w6.heap.size, 2, none⟩ = some (.string T2) := (hT.cell 2).trans rfl
                have hvr := hv.below hb
                obtain ⟨PA, PB⟩ := QY2.out ⟨C0, C1, C2, C3⟩
                have ns : ((s : Int) != 0) = true := by rw [bne_iff_ne]; omega
                have hR : RR = true := HRR.out.trans (decide_eq_true (by omega))
                subst hR
                clear QY0 QN0 QY1 QN1 QY2 QN2
                go_wp2_with fail
                refine (PA.out _ hvr).mono ?_
                rintro e u1 ⟨rfl, hd1⟩
                have hT1 := hT.below hd1 hT.lt
                have hf1 := hb.trans (hd1.mono hb.size)
                clear hT hb hd1 hvr c0 PA
                go_wp2_with fail
                refine (PB.out _).mono ?_
                rintro e u2 ⟨rfl, hd2⟩
                have hT2 := hT1.below hd2 hT1.lt
                have hf2 := hf1.trans (hd2.mono hf1.size)
                clear hT1 hf1 hd2 PB
                go_wp2_with fail
                go_roundw
                case rel => first | exact ⟨3, by omega, by go_num, hT2, hf2⟩ | ((repeat apply Exists.intro); exact ⟨⟨3, by omega, by go_num, hT2, hf2⟩, rfl⟩)
                case measure => simp [intOf]
              · skip
                have c0 : wr.cell? ⟨w6.heap.size, 2, none⟩ = some (.string T2) := (hT.cell 2).trans rfl
                have hvr := hv.below hb
                have PA := QN2.out (by omega)
                have hR : RR = false := HRR.out.trans (decide_eq_false (by omega))
                subst hR
                clear QY0 QN0 QY1 QN1 QY2 QN2
                go_wp2_with fail
                refine (PA.out _ hvr).mono ?_
                rintro e u1 ⟨rfl, hd1⟩
                have hT1 := hT.below hd1 hT.lt
                have hf1 := hb.trans (hd1.mono hb.size)
                clear hT hb hd1 hvr c0 PA
                go_wp2_with fail
                go_roundw
                case rel => first | exact ⟨3, by omega, by go_num, hT1, hf1⟩ | ((repeat apply Exists.intro); exact ⟨⟨3, by omega, by go_num, hT1, hf1⟩, rfl⟩)
                case measure => simp [intOf]
            · skip
              have c0 : wr.cell? ⟨w6.heap.size, 2, none⟩ = some (.string T2) := (hT.cell 2).trans rfl
              have hvr := hv.below hb
              have PA := QN2.out (by omega)
              have hR : RR = false := HRR.out.trans (decide_eq_false (by omega))
              subst hR
              clear QY0 QN0 QY1 QN1 QY2 QN2
              go_wp2_with fail
              refine (PA.out _ hvr).mono ?_
              rintro e u1 ⟨rfl, hd1⟩
              have hT1 := hT.below hd1 hT.lt
              have hf1 := hb.trans (hd1.mono hb.size)
              clear hT hb hd1 hvr c0 PA
              go_wp2_with fail
              go_roundw
              case rel => first | exact ⟨3, by omega, by go_num, hT1, hf1⟩ | ((repeat apply Exists.intro); exact ⟨⟨3, by omega, by go_num, hT1, hf1⟩, rfl⟩)
              case measure => simp [intOf]
          · skip
            have c0 : wr.cell? ⟨w6.heap.size, 2, none⟩ = some (.string T2) := (hT.cell 2).trans rfl
            have hvr := hv.below hb
            have PA := QN2.out (by omega)
            have hR : RR = false := HRR.out.trans (decide_eq_false (by omega))
            subst hR
            clear QY0 QN0 QY1 QN1 QY2 QN2
            go_wp2_with fail
            refine (PA.out _ hvr).mono ?_
            rintro e u1 ⟨rfl, hd1⟩
            have hT1 := hT.below hd1 hT.lt
            have hf1 := hb.trans (hd1.mono hb.size)
            clear hT hb hd1 hvr c0 PA
            go_wp2_with fail
            go_roundw
            case rel => first | exact ⟨3, by omega, by go_num, hT1, hf1⟩ | ((repeat apply Exists.intro); exact ⟨⟨3, by omega, by go_num, hT1, hf1⟩, rfl⟩)
            case measure => simp [intOf]
      · have hvr := hv.below hb
        clear hT
        go_wp2_with fail
        refine (works20_any _ hvr).mono ?_
        rintro e u1 ⟨rfl, hd1⟩
        have hf1 := hb.trans (hd1.mono hb.size)
        go_wp2_with fail
        go_ret
        exact ⟨rfl, hf1⟩
end Go.Proofs.YtmgmgdjddimgmaaDoor
