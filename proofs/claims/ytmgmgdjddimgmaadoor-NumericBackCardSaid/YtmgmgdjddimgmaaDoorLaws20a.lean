/- The walks of the laws NumericTexts and NumericBack (chapter 20). -/
import Derived.Test.YtmgmgdjddimgmaaDoorNum20k
import Derived.Test.YtmgmgdjddimgmaaDoorNum20d
import Derived.OpenShut
import Derived.Deep.RegionHeld3
import Derived.IntWalk
namespace Go.Proofs.YtmgmgdjddimgmaaDoor
open Go.RowKit
set_option linter.unusedVariables false

set_option maxRecDepth 100000 in
set_option maxHeartbeats 2000000 in
theorem walkNumericTexts (off : Int) (s : ByteArray) (w : World) (ho : (Lit.int .i64 off).wf = true) (hs : s.size ≤ maxLen) (hv : Vars w) :
    Calls Tryd.prog 3 #[.int .i64 off, .string s] w fun e w' => e = .returned (.bool true) ∧ Below w.heap.size w w' := by
  unfold maxLen at hs
  have hx2 := bounds_i64 ho
  clear ho
  by_cases hl : 100 < s.size
  · have hli : (100 : Int) < (s.size : Int) := by omega
    go_enter Tryd.func3, Tryd.ntmps3
    go_wp2_with fail
    refine (works20_any _ hv).mono ?_
    rintro e w1 ⟨rfl, hc1⟩
    have hb2 := hc1
    go_wp2_with fail
    go_ret
    exact ⟨rfl, hb2⟩
  · have hli : ¬ (100 : Int) < (s.size : Int) := by omega
    have hs2 : s.size ≤ 1000000 := by omega
    have c1 : Hid (∀ W, Vars W → Calls Tryd.prog 11 #[.string s] W fun e w' => e = .returned (.tuple #[.int .i64 (P20.parse (P4.bl s)).1, .int .i64 (P20.parse (P4.bl s)).2]) ∧ Below W.heap.size W w') := fun W h => nparse_any s W hs2 h
    have c2 : Hid (∀ W, Calls Tryd.prog 12 #[.string s] W fun e w' => e = .returned (.tuple #[.int .i64 (P20.parse (P4.bl s)).1, .int .i64 (P20.parse (P4.bl s)).2]) ∧ Q W w') := fun W => rnparse_any s W hs2
    have c3 : Hid (∀ W, Calls Tryd.prog 13 #[.int .i64 off] W fun e w' => e = .returned (.string (str (P20.text off))) ∧ Below W.heap.size W w') := fun W => ntext_any off W hx2.1 hx2.2
    have c4 : Hid (∀ W, Calls Tryd.prog 14 #[.int .i64 off] W fun e w' => e = .returned (.string (str (P20.text off))) ∧ Q W w') := fun W => rtext_any off W hx2.1 hx2.2
    generalize P20.parse (P4.bl s) = R at c1 c2
    generalize str (P20.text off) = T at c3 c4
    obtain ⟨Y, E⟩ := R
    go_enter Tryd.func3, Tryd.ntmps3
    go_wp2_with fail
    refine (c1.out _ hv).mono ?_
    rintro e w1 ⟨rfl, hc1⟩
    have hb2 := hc1
    go_wp2_with fail
    refine (c2.out _).mono ?_
    rintro e w2 ⟨rfl, hc30⟩
    have hc3 := hc30.below w1.heap.size
    clear hc30
    have hb4 := hb2.trans (hc3.mono hb2.size)
    clear hb2 hc3
    go_wp2_with fail
    refine (c3.out _).mono ?_
    rintro e w3 ⟨rfl, hc5⟩
    have hb6 := hb4.trans (hc5.mono hb4.size)
    clear hb4 hc5
    go_wp2_with fail
    refine (c4.out _).mono ?_
    rintro e w4 ⟨rfl, hc70⟩
    have hc7 := hc70.below w3.heap.size
    clear hc70
    have hb8 := hb6.trans (hc7.mono hb6.size)
    clear hb6 hc7
    have hv9 := hv.below hb8
    go_wp2_with fail
    refine (works20_any _ hv9).mono ?_
    clear hv9
    rintro e w5 ⟨rfl, hc10⟩
    have hb11 := hb8.trans (hc10.mono hb8.size)
    clear hb8 hc10
    go_wp2_with fail
    go_ret
    exact ⟨rfl, hb11⟩
theorem text_first (x : Int) (h0 : -86399 ≤ x) (h1 : x ≤ 86399) (h : 0 < (str (P20.text x)).size) : (((str (P20.text x))[0]'h).toNat : Int) = if x < 0 then 45 else 43 := by
  have hg := P4.bl_get (str (P20.text x)) 0 h
  have ht : P4.bl (str (P20.text x)) = (if x < 0 then 45 else 43) :: P20.textN x.natAbs := P20.text_in h0 h1
  rw [ht] at hg
  simp only [List.getElem?_cons_zero, Option.some.injEq] at hg
  rw [← hg]
  split <;> rfl
theorem text_rest (x : Int) (h0 : -86399 ≤ x) (h1 : x ≤ 86399) : (str (P20.text x)).extract 1 (str (P20.text x)).size = str (P20.textN x.natAbs) := by
  have hb := Lib.extract_to_end (str (P20.text x)) 1
  have ht : P4.bl (str (P20.text x)) = (if x < 0 then 45 else 43) :: P20.textN x.natAbs := P20.text_in h0 h1
  apply ByteArray.ext
  apply Array.ext'
  rw [hb]
  show (P4.bl (str (P20.text x))).drop 1 = _
  rw [ht]; rfl
theorem text_size (x : Int) (h0 : -86399 ≤ x) (h1 : x ≤ 86399) : (str (P20.text x)).size = 1 + (P20.textN x.natAbs).length := by
  rw [str_size, P20.text_in h0 h1, List.length_cons]; omega
theorem keepB {w W W' : World} (hb : Below W.heap.size W W') (h : Below w.heap.size w W) : Below w.heap.size w W' := h.trans (hb.mono h.size)

set_option maxRecDepth 100000 in
set_option maxHeartbeats 8000000 in
theorem walkNumericBack (m n : Int) (w : World) (hm : (Lit.int .u32 m).wf = true) (hn : (Lit.int .u32 n).wf = true) (hv : Vars w) :
    Calls Tryd.prog 5 #[.int .u32 m, .int .u32 n] w fun e w' => e = .returned (.bool true) ∧ Below w.heap.size w w' := by
  have hm2 := bounds_u32 hm
  have hn2 := bounds_u32 hn
  clear hm hn
  obtain ⟨X, hX⟩ : ∃ X, m % 86400 = X := ⟨_, rfl⟩
  obtain ⟨Y, hY⟩ : ∃ Y, n % 86400 = Y := ⟨_, rfl⟩
  have X0 : 0 ≤ X := by omega
  have X1 : X ≤ 86399 := by omega
  have Y0 : 0 ≤ Y := by omega
  have Y1 : Y ≤ 86399 := by omega
  obtain ⟨hm0, hm1⟩ := hm2
  obtain ⟨hn0, hn1⟩ := hn2
  have cX : Hid (∀ W, Calls Tryd.prog 13 #[.int .i64 X] W fun e w' => e = .returned (.string (str (P20.text X))) ∧ Below W.heap.size W w') := fun W => ntext_any X W (by omega) (by omega)
  have cY : Hid (∀ W, Calls Tryd.prog 13 #[.int .i64 Y] W fun e w' => e = .returned (.string (str (P20.text Y))) ∧ Below W.heap.size W w') := fun W => ntext_any Y W (by omega) (by omega)
  have cM : Hid (∀ W, Calls Tryd.prog 13 #[.int .i64 (-X)] W fun e w' => e = .returned (.string (str (P20.text (-X)))) ∧ Below W.heap.size W w') := fun W => ntext_any (-X) W (by omega) (by omega)
  have lX := P20.text_len X
  have lM := P20.text_len (-X)
  have pX : Hid (∀ W, Vars W → Calls Tryd.prog 11 #[.string (str (P20.text X))] W fun e w' => e = .returned (.tuple #[.int .i64 X, .int .i64 0]) ∧ Below W.heap.size W w') := fun W h => by
    have q := nparse_any (str (P20.text X)) W (by rw [str_size]; omega) h
    rw [show P20.parse (P4.bl (str (P20.text X))) = (X, 0) from P20.parse_text (by omega) X1] at q; exact q
  have pM : Hid (∀ W, Vars W → Calls Tryd.prog 11 #[.string (str (P20.text (-X)))] W fun e w' => e = .returned (.tuple #[.int .i64 (-X), .int .i64 0]) ∧ Below W.heap.size W w') := fun W h => by
    have q := nparse_any (str (P20.text (-X))) W (by rw [str_size]; omega) h
    rw [show P20.parse (P4.bl (str (P20.text (-X)))) = (-X, 0) from P20.parse_text (by omega) (by omega)] at q; exact q
  have f1 := text_first X (by omega) X1
  rw [if_neg (by omega)] at f1
  have sz := text_size X (by omega) X1
  have szM := text_size (-X) (by omega) (by omega)
  rw [show (-X).natAbs = X.natAbs by omega] at szM
  have ln := P20.textN_len X.natAbs
  have r1 := text_rest X (by omega) X1
  have r2 := text_rest (-X) (by omega) (by omega)
  rw [show (-X).natAbs = X.natAbs by omega] at r2
  have hinj : str (P20.text X) = str (P20.text Y) → X = Y := fun h => P20.text_inj (by omega) X1 (by omega) Y1 (str_inj h)
  have hST : X = Y → str (P20.text X) = str (P20.text Y) := fun h => by rw [h]
  have f2 : X ≠ 0 → ∀ h, (((str (P20.text (-X)))[0]'h).toNat : Int) = 45 := fun hx h => by
    have q := text_first (-X) (by omega) (by omega) h
    rwa [if_pos (by omega)] at q
  have hz : X = 0 → str (P20.text (-X)) = str (P20.text X) := fun h => by rw [h]; rfl
  generalize str (P20.textN X.natAbs) = E at r1 r2
  generalize (P20.textN X.natAbs).length = N at sz szM ln
  have hcs : ∃ K : Nat, (K = 3 ∨ K = 5 ∨ K = 7) ∧ (str (P20.text X)).size = K ∧ (str (P20.text (-X))).size = K := ⟨1 + N, by omega, sz, szM⟩
  clear ln sz szM lX lM
  generalize str (P20.text X) = S at *
  generalize str (P20.text (-X)) = M at *
  generalize str (P20.text Y) = T at *
  obtain ⟨K, hK, hS, hM⟩ := hcs
  rw [hS] at r1
  rw [hM] at r2
  have hxyc : (S = T ∧ X = Y) ∨ (¬ S = T ∧ ¬ X = Y) := by
    by_cases h : X = Y
    · exact .inl ⟨by
        exact hST h, h⟩
    · exact .inr ⟨fun q => h (hinj q), h⟩
  clear hinj hST
  rcases hK with rfl | rfl | rfl
  · skip
    by_cases hx0 : X = 0
    · have hMS := hz hx0
      have b0 : (X == 0) = true := by rw [beq_iff_eq]; exact hx0
      rw [hMS] at cM
      clear hz f2 hMS r1 r2 pM hx0 hM
      rcases hxyc with ⟨hst, hxy⟩ | ⟨hst, hxy⟩
      · subst hst
        subst hxy
        go_enter Tryd.func5, Tryd.ntmps5
        go_wp2_with fail
        refine (cX.out _).mono ?_
        rintro e w1 ⟨rfl, hc1⟩
        have hb2 := hc1
        go_wp2_with fail
        refine (cX.out _).mono ?_
        rintro e w2 ⟨rfl, hc3⟩
        have hb4 := hb2.trans (hc3.mono hb2.size)
        clear hb2 hc3
        have hv5 := hv.below hb4
        go_wp2_with fail
        refine (pX.out _ hv5).mono ?_
        clear hv5
        rintro e w3 ⟨rfl, hc6⟩
        have hb7 := hb4.trans (hc6.mono hb4.size)
        clear hb4 hc6
        go_wp2_with fail
        refine (cM.out _).mono ?_
        rintro e w4 ⟨rfl, hc8⟩
        have hb9 := hb7.trans (hc8.mono hb7.size)
        clear hb7 hc8
        have hv10 := hv.below hb9
        go_wp2_with fail
        refine (works20_any _ hv10).mono ?_
        clear hv10
        rintro e w5 ⟨rfl, hc11⟩
        have hb12 := hb9.trans (hc11.mono hb9.size)
        clear hb9 hc11
        go_wp2_with fail
        go_ret
        exact ⟨rfl, hb12⟩
      · have g1 := eq_b _ _ hst
        have g2 : (X == Y) = false := by rw [beq_eq_false_iff_ne]; exact hxy
        clear hst hxy
        go_enter Tryd.func5, Tryd.ntmps5
        go_wp2_with fail
        refine (cX.out _).mono ?_
        rintro e w1 ⟨rfl, hc1⟩
        have hb2 := hc1
        go_wp2_with fail
        refine (cY.out _).mono ?_
        rintro e w2 ⟨rfl, hc3⟩
        have hb4 := hb2.trans (hc3.mono hb2.size)
        clear hb2 hc3
        have hv5 := hv.below hb4
        go_wp2_with fail
        refine (pX.out _ hv5).mono ?_
        clear hv5
        rintro e w3 ⟨rfl, hc6⟩
        have hb7 := hb4.trans (hc6.mono hb4.size)
        clear hb4 hc6
        go_wp2_with fail
        refine (cM.out _).mono ?_
        rintro e w4 ⟨rfl, hc8⟩
        have hb9 := hb7.trans (hc8.mono hb7.size)
        clear hb7 hc8
        have hv10 := hv.below hb9
        go_wp2_with fail
        refine (works20_any _ hv10).mono ?_
        clear hv10
        rintro e w5 ⟨rfl, hc11⟩
        have hb12 := hb9.trans (hc11.mono hb9.size)
        clear hb9 hc11
        go_wp2_with fail
        go_ret
        exact ⟨rfl, hb12⟩
    · have b0 : (X == 0) = false := by rw [beq_eq_false_iff_ne]; exact hx0
      have f2' := f2 hx0
      clear hz f2 hx0
      rcases hxyc with ⟨hst, hxy⟩ | ⟨hst, hxy⟩
      · subst hst
        subst hxy
        go_enter Tryd.func5, Tryd.ntmps5
        go_wp2_with fail
        refine (cX.out _).mono ?_
        rintro e w1 ⟨rfl, hc1⟩
        have hb2 := hc1
        go_wp2_with fail
        refine (cX.out _).mono ?_
        rintro e w2 ⟨rfl, hc3⟩
        have hb4 := hb2.trans (hc3.mono hb2.size)
        clear hb2 hc3
        have hv5 := hv.below hb4
        go_wp2_with fail
        refine (pX.out _ hv5).mono ?_
        clear hv5
        rintro e w3 ⟨rfl, hc6⟩
        have hb7 := hb4.trans (hc6.mono hb4.size)
        clear hb4 hc6
        go_wp2_with fail
        refine (cM.out _).mono ?_
        rintro e w4 ⟨rfl, hc8⟩
        have hb9 := hb7.trans (hc8.mono hb7.size)
        clear hb7 hc8
        have hv10 := hv.below hb9
        go_wp2_with fail
        refine (pM.out _ hv10).mono ?_
        clear hv10
        rintro e w5 ⟨rfl, hc11⟩
        have hb12 := hb9.trans (hc11.mono hb9.size)
        clear hb9 hc11
        go_wp2_with fail
        have HB := Lib.hid hb12
        clear hb12
        have hw : IntKind.i64.wrap (-X) = -X := IntWalk.i64_in _ (by omega)
        have hq : ((-X) == (-X)) = true := beq_self_eq_true _
        go_region_held3 (fun W => Below w.heap.size w W) (first | exact keepB ((Below.refl _ _).drew) HB.out | exact keepB (by assumption) (by assumption) | assumption) (first | (go_at_call 10; refine (works20_any _ (hv.below (by assumption))).mono ?_; rintro e w' ⟨rfl, hb⟩))
        go_wp2_with fail
        go_ret
        exact ⟨rfl, by assumption⟩
      · have g1 := eq_b _ _ hst
        have g2 : (X == Y) = false := by rw [beq_eq_false_iff_ne]; exact hxy
        clear hst hxy
        go_enter Tryd.func5, Tryd.ntmps5
        go_wp2_with fail
        refine (cX.out _).mono ?_
        rintro e w1 ⟨rfl, hc1⟩
        have hb2 := hc1
        go_wp2_with fail
        refine (cY.out _).mono ?_
        rintro e w2 ⟨rfl, hc3⟩
        have hb4 := hb2.trans (hc3.mono hb2.size)
        clear hb2 hc3
        have hv5 := hv.below hb4
        go_wp2_with fail
        refine (pX.out _ hv5).mono ?_
        clear hv5
        rintro e w3 ⟨rfl, hc6⟩
        have hb7 := hb4.trans (hc6.mono hb4.size)
        clear hb4 hc6
        go_wp2_with fail
        refine (cM.out _).mono ?_
        rintro e w4 ⟨rfl, hc8⟩
        have hb9 := hb7.trans (hc8.mono hb7.size)
        clear hb7 hc8
        have hv10 := hv.below hb9
        go_wp2_with fail
        refine (pM.out _ hv10).mono ?_
        clear hv10
        rintro e w5 ⟨rfl, hc11⟩
        have hb12 := hb9.trans (hc11.mono hb9.size)
        clear hb9 hc11
        go_wp2_with fail
        have HB := Lib.hid hb12
        clear hb12
        have hw : IntKind.i64.wrap (-X) = -X := IntWalk.i64_in _ (by omega)
        have hq : ((-X) == (-X)) = true := beq_self_eq_true _
        go_region_held3 (fun W => Below w.heap.size w W) (first | exact keepB ((Below.refl _ _).drew) HB.out | exact keepB (by assumption) (by assumption) | assumption) (first | (go_at_call 10; refine (works20_any _ (hv.below (by assumption))).mono ?_; rintro e w' ⟨rfl, hb⟩))
        go_wp2_with fail
        go_ret
        exact ⟨rfl, by assumption⟩
  · skip
    by_cases hx0 : X = 0
    · have hMS := hz hx0
      have b0 : (X == 0) = true := by rw [beq_iff_eq]; exact hx0
      rw [hMS] at cM
      clear hz f2 hMS r1 r2 pM hx0 hM
      rcases hxyc with ⟨hst, hxy⟩ | ⟨hst, hxy⟩
      · subst hst
        subst hxy
        go_enter Tryd.func5, Tryd.ntmps5
        go_wp2_with fail
        refine (cX.out _).mono ?_
        rintro e w1 ⟨rfl, hc1⟩
        have hb2 := hc1
        go_wp2_with fail
        refine (cX.out _).mono ?_
        rintro e w2 ⟨rfl, hc3⟩
        have hb4 := hb2.trans (hc3.mono hb2.size)
        clear hb2 hc3
        have hv5 := hv.below hb4
        go_wp2_with fail
        refine (pX.out _ hv5).mono ?_
        clear hv5
        rintro e w3 ⟨rfl, hc6⟩
        have hb7 := hb4.trans (hc6.mono hb4.size)
        clear hb4 hc6
        go_wp2_with fail
        refine (cM.out _).mono ?_
        rintro e w4 ⟨rfl, hc8⟩
        have hb9 := hb7.trans (hc8.mono hb7.size)
        clear hb7 hc8
        have hv10 := hv.below hb9
        go_wp2_with fail
        refine (works20_any _ hv10).mono ?_
        clear hv10
        rintro e w5 ⟨rfl, hc11⟩
        have hb12 := hb9.trans (hc11.mono hb9.size)
        clear hb9 hc11
        go_wp2_with fail
        go_ret
        exact ⟨rfl, hb12⟩
      · have g1 := eq_b _ _ hst
        have g2 : (X == Y) = false := by rw [beq_eq_false_iff_ne]; exact hxy
        clear hst hxy
        go_enter Tryd.func5, Tryd.ntmps5
        go_wp2_with fail
        refine (cX.out _).mono ?_
        rintro e w1 ⟨rfl, hc1⟩
        have hb2 := hc1
        go_wp2_with fail
        refine (cY.out _).mono ?_
        rintro e w2 ⟨rfl, hc3⟩
        have hb4 := hb2.trans (hc3.mono hb2.size)
        clear hb2 hc3
        have hv5 := hv.below hb4
        go_wp2_with fail
        refine (pX.out _ hv5).mono ?_
        clear hv5
        rintro e w3 ⟨rfl, hc6⟩
        have hb7 := hb4.trans (hc6.mono hb4.size)
        clear hb4 hc6
        go_wp2_with fail
        refine (cM.out _).mono ?_
        rintro e w4 ⟨rfl, hc8⟩
        have hb9 := hb7.trans (hc8.mono hb7.size)
        clear hb7 hc8
        have hv10 := hv.below hb9
        go_wp2_with fail
        refine (works20_any _ hv10).mono ?_
        clear hv10
        rintro e w5 ⟨rfl, hc11⟩
        have hb12 := hb9.trans (hc11.mono hb9.size)
        clear hb9 hc11
        go_wp2_with fail
        go_ret
        exact ⟨rfl, hb12⟩
    · have b0 : (X == 0) = false := by rw [beq_eq_false_iff_ne]; exact hx0
      have f2' := f2 hx0
      clear hz f2 hx0
      rcases hxyc with ⟨hst, hxy⟩ | ⟨hst, hxy⟩
      · subst hst
        subst hxy
        go_enter Tryd.func5, Tryd.ntmps5
        go_wp2_with fail
        refine (cX.out _).mono ?_
        rintro e w1 ⟨rfl, hc1⟩
        have hb2 := hc1
        go_wp2_with fail
        refine (cX.out _).mono ?_
        rintro e w2 ⟨rfl, hc3⟩
        have hb4 := hb2.trans (hc3.mono hb2.size)
        clear hb2 hc3
        have hv5 := hv.below hb4
        go_wp2_with fail
        refine (pX.out _ hv5).mono ?_
        clear hv5
        rintro e w3 ⟨rfl, hc6⟩
        have hb7 := hb4.trans (hc6.mono hb4.size)
        clear hb4 hc6
        go_wp2_with fail
        refine (cM.out _).mono ?_
        rintro e w4 ⟨rfl, hc8⟩
        have hb9 := hb7.trans (hc8.mono hb7.size)
        clear hb7 hc8
        have hv10 := hv.below hb9
        go_wp2_with fail
        refine (pM.out _ hv10).mono ?_
        clear hv10
        rintro e w5 ⟨rfl, hc11⟩
        have hb12 := hb9.trans (hc11.mono hb9.size)
        clear hb9 hc11
        go_wp2_with fail
        have HB := Lib.hid hb12
        clear hb12
        have hw : IntKind.i64.wrap (-X) = -X := IntWalk.i64_in _ (by omega)
        have hq : ((-X) == (-X)) = true := beq_self_eq_true _
        go_region_held3 (fun W => Below w.heap.size w W) (first | exact keepB ((Below.refl _ _).drew) HB.out | exact keepB (by assumption) (by assumption) | assumption) (first | (go_at_call 10; refine (works20_any _ (hv.below (by assumption))).mono ?_; rintro e w' ⟨rfl, hb⟩))
        go_wp2_with fail
        go_ret
        exact ⟨rfl, by assumption⟩
      · have g1 := eq_b _ _ hst
        have g2 : (X == Y) = false := by rw [beq_eq_false_iff_ne]; exact hxy
        clear hst hxy
        go_enter Tryd.func5, Tryd.ntmps5
        go_wp2_with fail
        refine (cX.out _).mono ?_
        rintro e w1 ⟨rfl, hc1⟩
        have hb2 := hc1
        go_wp2_with fail
        refine (cY.out _).mono ?_
        rintro e w2 ⟨rfl, hc3⟩
        have hb4 := hb2.trans (hc3.mono hb2.size)
        clear hb2 hc3
        have hv5 := hv.below hb4
        go_wp2_with fail
        refine (pX.out _ hv5).mono ?_
        clear hv5
        rintro e w3 ⟨rfl, hc6⟩
        have hb7 := hb4.trans (hc6.mono hb4.size)
        clear hb4 hc6
        go_wp2_with fail
        refine (cM.out _).mono ?_
        rintro e w4 ⟨rfl, hc8⟩
        have hb9 := hb7.trans (hc8.mono hb7.size)
        clear hb7 hc8
        have hv10 := hv.below hb9
        go_wp2_with fail
        refine (pM.out _ hv10).mono ?_
        clear hv10
        rintro e w5 ⟨rfl, hc11⟩
        have hb12 := hb9.trans (hc11.mono hb9.size)
        clear hb9 hc11
        go_wp2_with fail
        have HB := Lib.hid hb12
        clear hb12
        have hw : IntKind.i64.wrap (-X) = -X := IntWalk.i64_in _ (by omega)
        have hq : ((-X) == (-X)) = true := beq_self_eq_true _
        go_region_held3 (fun W => Below w.heap.size w W) (first | exact keepB ((Below.refl _ _).drew) HB.out | exact keepB (by assumption) (by assumption) | assumption) (first | (go_at_call 10; refine (works20_any _ (hv.below (by assumption))).mono ?_; rintro e w' ⟨rfl, hb⟩))
        go_wp2_with fail
        go_ret
        exact ⟨rfl, by assumption⟩
  · skip
    by_cases hx0 : X = 0
    · have hMS := hz hx0
      have b0 : (X == 0) = true := by rw [beq_iff_eq]; exact hx0
      rw [hMS] at cM
      clear hz f2 hMS r1 r2 pM hx0 hM
      rcases hxyc with ⟨hst, hxy⟩ | ⟨hst, hxy⟩
      · subst hst
        subst hxy
        go_enter Tryd.func5, Tryd.ntmps5
        go_wp2_with fail
        refine (cX.out _).mono ?_
        rintro e w1 ⟨rfl, hc1⟩
        have hb2 := hc1
        go_wp2_with fail
        refine (cX.out _).mono ?_
        rintro e w2 ⟨rfl, hc3⟩
        have hb4 := hb2.trans (hc3.mono hb2.size)
        clear hb2 hc3
        have hv5 := hv.below hb4
        go_wp2_with fail
        refine (pX.out _ hv5).mono ?_
        clear hv5
        rintro e w3 ⟨rfl, hc6⟩
        have hb7 := hb4.trans (hc6.mono hb4.size)
        clear hb4 hc6
        go_wp2_with fail
        refine (cM.out _).mono ?_
        rintro e w4 ⟨rfl, hc8⟩
        have hb9 := hb7.trans (hc8.mono hb7.size)
        clear hb7 hc8
        have hv10 := hv.below hb9
        go_wp2_with fail
        refine (works20_any _ hv10).mono ?_
        clear hv10
        rintro e w5 ⟨rfl, hc11⟩
        have hb12 := hb9.trans (hc11.mono hb9.size)
        clear hb9 hc11
        go_wp2_with fail
        go_ret
        exact ⟨rfl, hb12⟩
      · have g1 := eq_b _ _ hst
        have g2 : (X == Y) = false := by rw [beq_eq_false_iff_ne]; exact hxy
        clear hst hxy
        go_enter Tryd.func5, Tryd.ntmps5
        go_wp2_with fail
        refine (cX.out _).mono ?_
        rintro e w1 ⟨rfl, hc1⟩
        have hb2 := hc1
        go_wp2_with fail
        refine (cY.out _).mono ?_
        rintro e w2 ⟨rfl, hc3⟩
        have hb4 := hb2.trans (hc3.mono hb2.size)
        clear hb2 hc3
        have hv5 := hv.below hb4
        go_wp2_with fail
        refine (pX.out _ hv5).mono ?_
        clear hv5
        rintro e w3 ⟨rfl, hc6⟩
        have hb7 := hb4.trans (hc6.mono hb4.size)
        clear hb4 hc6
        go_wp2_with fail
        refine (cM.out _).mono ?_
        rintro e w4 ⟨rfl, hc8⟩
        have hb9 := hb7.trans (hc8.mono hb7.size)
        clear hb7 hc8
        have hv10 := hv.below hb9
        go_wp2_with fail
        refine (works20_any _ hv10).mono ?_
        clear hv10
        rintro e w5 ⟨rfl, hc11⟩
        have hb12 := hb9.trans (hc11.mono hb9.size)
        clear hb9 hc11
        go_wp2_with fail
        go_ret
        exact ⟨rfl, hb12⟩
    · have b0 : (X == 0) = false := by rw [beq_eq_false_iff_ne]; exact hx0
      have f2' := f2 hx0
      clear hz f2 hx0
      rcases hxyc with ⟨hst, hxy⟩ | ⟨hst, hxy⟩
      · subst hst
        subst hxy
        go_enter Tryd.func5, Tryd.ntmps5
        go_wp2_with fail
        refine (cX.out _).mono ?_
        rintro e w1 ⟨rfl, hc1⟩
        have hb2 := hc1
        go_wp2_with fail
        refine (cX.out _).mono ?_
        rintro e w2 ⟨rfl, hc3⟩
        have hb4 := hb2.trans (hc3.mono hb2.size)
        clear hb2 hc3
        have hv5 := hv.below hb4
        go_wp2_with fail
        refine (pX.out _ hv5).mono ?_
        clear hv5
        rintro e w3 ⟨rfl, hc6⟩
        have hb7 := hb4.trans (hc6.mono hb4.size)
        clear hb4 hc6
        go_wp2_with fail
        refine (cM.out _).mono ?_
        rintro e w4 ⟨rfl, hc8⟩
        have hb9 := hb7.trans (hc8.mono hb7.size)
        clear hb7 hc8
        have hv10 := hv.below hb9
        go_wp2_with fail
        refine (pM.out _ hv10).mono ?_
        clear hv10
        rintro e w5 ⟨rfl, hc11⟩
        have hb12 := hb9.trans (hc11.mono hb9.size)
        clear hb9 hc11
        go_wp2_with fail
        have HB := Lib.hid hb12
        clear hb12
        have hw : IntKind.i64.wrap (-X) = -X := IntWalk.i64_in _ (by omega)
        have hq : ((-X) == (-X)) = true := beq_self_eq_true _
        go_region_held3 (fun W => Below w.heap.size w W) (first | exact keepB ((Below.refl _ _).drew) HB.out | exact keepB (by assumption) (by assumption) | assumption) (first | (go_at_call 10; refine (works20_any _ (hv.below (by assumption))).mono ?_; rintro e w' ⟨rfl, hb⟩))
        go_wp2_with fail
        go_ret
        exact ⟨rfl, by assumption⟩
      · have g1 := eq_b _ _ hst
        have g2 : (X == Y) = false := by rw [beq_eq_false_iff_ne]; exact hxy
        clear hst hxy
        go_enter Tryd.func5, Tryd.ntmps5
        go_wp2_with fail
        refine (cX.out _).mono ?_
        rintro e w1 ⟨rfl, hc1⟩
        have hb2 := hc1
        go_wp2_with fail
        refine (cY.out _).mono ?_
        rintro e w2 ⟨rfl, hc3⟩
        have hb4 := hb2.trans (hc3.mono hb2.size)
        clear hb2 hc3
        have hv5 := hv.below hb4
        go_wp2_with fail
        refine (pX.out _ hv5).mono ?_
        clear hv5
        rintro e w3 ⟨rfl, hc6⟩
        have hb7 := hb4.trans (hc6.mono hb4.size)
        clear hb4 hc6
        go_wp2_with fail
        refine (cM.out _).mono ?_
        rintro e w4 ⟨rfl, hc8⟩
        have hb9 := hb7.trans (hc8.mono hb7.size)
        clear hb7 hc8
        have hv10 := hv.below hb9
        go_wp2_with fail
        refine (pM.out _ hv10).mono ?_
        clear hv10
        rintro e w5 ⟨rfl, hc11⟩
        have hb12 := hb9.trans (hc11.mono hb9.size)
        clear hb9 hc11
        go_wp2_with fail
        have HB := Lib.hid hb12
        clear hb12
        have hw : IntKind.i64.wrap (-X) = -X := IntWalk.i64_in _ (by omega)
        have hq : ((-X) == (-X)) = true := beq_self_eq_true _
        go_region_held3 (fun W => Below w.heap.size w W) (first | exact keepB ((Below.refl _ _).drew) HB.out | exact keepB (by assumption) (by assumption) | assumption) (first | (go_at_call 10; refine (works20_any _ (hv.below (by assumption))).mono ?_; rintro e w' ⟨rfl, hb⟩))
        go_wp2_with fail
        go_ret
        exact ⟨rfl, by assumption⟩
end Go.Proofs.YtmgmgdjddimgmaaDoor
