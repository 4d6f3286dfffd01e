/- ExpandWrong: for every input the law returns true, and each argument reads as before. No condition beside the row's own (the listed package-level variables read as listed; the card ties them to the program's text). -/
import Derived.Test.YtlideagcmhlkeaaDoorQ6
import Derived.Test.YtlideagcmhlkeaaDoorCards
import Derived.Test.YtlideagcmhlkeaaDoorTie
import Derived.Carry
import Derived.WalkKit
import Derived.ProofKit
import Derived.OpenShut
import Derived.ShutString
import Derived.LaidMore
import Derived.ChangeOld
import Derived.Below
import Derived.Stop.Joined
import Derived.Lib.SmallJoins
import Derived.SevenTiedAt

/- The walk of the law ExpandWrong (chapter 30). -/
namespace Go.Proofs.YtlideagcmhlkeaaDoor
open Go.RowKit Go.Lib
set_option linter.unusedVariables false
set_option linter.unusedSimpArgs false

/-- what the strings of the law are good for -/
structure Wr30 (n x : Int) (SA SB SA1 SAB SB1 SBA SAA ST1 ST2 SA2 : ByteArray) : Prop where
  t1 : ∀ W : World, Calls Tryd.prog 24 #[.int .i64 n] W fun e w' => e = .returned (.string SA) ∧ Below W.heap.size W w'
  t2 : ∀ W : World, Calls Tryd.prog 24 #[.int .i64 (n + x)] W fun e w' => e = .returned (.string SB) ∧ Below W.heap.size W w'
  t3 : ∀ W : World, Calls Tryd.prog 24 #[.int .i64 (n + 1)] W fun e w' => e = .returned (.string ST1) ∧ Below W.heap.size W w'
  t4 : ∀ W : World, Calls Tryd.prog 24 #[.int .i64 (n + x + 1)] W fun e w' => e = .returned (.string ST2) ∧ Below W.heap.size W w'
  a1 : ∀ W : World, (Op.stringOp .add SA ⟨#[47]⟩).run Tryd.prog W = .ok (.string SA1) W
  a2 : ∀ W : World, (Op.stringOp .add SA1 SB).run Tryd.prog W = .ok (.string SAB) W
  a3 : ∀ W : World, (Op.stringOp .add SB ⟨#[47]⟩).run Tryd.prog W = .ok (.string SB1) W
  a4 : ∀ W : World, (Op.stringOp .add SB1 SA).run Tryd.prog W = .ok (.string SBA) W
  a5 : ∀ W : World, (Op.stringOp .add SA1 SA).run Tryd.prog W = .ok (.string SAA) W
  a6 : ∀ W : World, (Op.stringOp .add SA1 ST2).run Tryd.prog W = .ok (.string SA2) W
  e1 : SA.toList.isEmpty = false ∧ ¬ SA.toList = []
  e2 : SB.toList.isEmpty = false ∧ ¬ SB.toList = []
  e3 : (SA.toList == SB.toList) = false
  ex1 : exF (oneRs [0, x]) (nmE n ⟨#[37, 122]⟩) = (SAB, 0)
  co1 : coF (oneRs [0, x]) (nmE n SAB) = (⟨#[37, 122]⟩, 0)
  no : ∀ (k : Nat) (s : ByteArray), [SA, SB, SBA, SAA, ST1, SA2][k]? = some s → s.size ≤ 100 ∧ (coF (oneRs [0, x]) (nmE n s)).2 = 15
  ex2 : (exF (oneRs [0, x, x + 60]) (nmE n ⟨#[37, 122]⟩)).2 = 14
  co2 : coF (oneRs [0]) (nmE n SA) = (⟨#[37, 122]⟩, 0)
  sz : SA.size ≤ 100 ∧ SAB.size ≤ 100
theorem tmod_bd30 (m k : Int) (hk : 0 < k) : -k < m.tmod k ∧ m.tmod k < k := ⟨Int.lt_tmod_of_pos m hk, Int.tmod_lt_of_pos m hk⟩
theorem nums30 (off save which : Int) (hw : 0 ≤ which ∧ which ≤ 255) : ∃ (N0 S0 S1 n x : Int) (K : Nat), (off.tmod 900 = N0 ∧ save.tmod 180 = S0 ∧ (S0 + 180).tmod 180 = S1 ∧ which.tmod 6 = (K : Int) ∧ N0 * 60 = n ∧ 60 * (1 + S1) = x) ∧
    (-900 < N0 ∧ N0 < 900) ∧ (-180 < S0 ∧ S0 < 180) ∧ (0 ≤ S1 ∧ S1 ≤ 179) ∧ (-53940 ≤ n ∧ n ≤ 53940) ∧ (60 ≤ x ∧ x ≤ 10800) ∧ K < 6 := by
  have f1 : ∀ N : Int, -900 < N ∧ N < 900 → -53940 ≤ N * 60 ∧ N * 60 ≤ 53940 := fun N h => by omega
  have f2 : ∀ N : Int, 0 ≤ N ∧ N ≤ 179 → 60 ≤ 60 * (1 + N) ∧ 60 * (1 + N) ≤ 10800 := fun N h => by omega
  have f3 : ∀ N : Int, -180 < N ∧ N < 180 → 0 ≤ N + 180 := fun N h => by omega
  have f4 : ∀ N : Int, 0 ≤ N → 0 ≤ N % 180 ∧ N % 180 ≤ 179 := fun N h => by omega
  have f5 : ∀ N : Int, 0 ≤ N → N % 6 = ((N % 6).toNat : Int) ∧ (N % 6).toNat < 6 := fun N h => by omega
  have b2 := tmod_bd30 save 180 (by decide)
  have b3 := f4 _ (f3 _ b2)
  rw [← Int.tmod_eq_emod_of_nonneg (f3 _ b2)] at b3
  have b4 := f5 _ hw.1
  rw [← Int.tmod_eq_emod_of_nonneg hw.1] at b4
  exact ⟨off.tmod 900, save.tmod 180, (save.tmod 180 + 180).tmod 180, _, _, (which.tmod 6).toNat, ⟨rfl, rfl, rfl, b4.1, rfl, rfl⟩, tmod_bd30 off 900 (by decide), b2, b3, f1 _ (tmod_bd30 off 900 (by decide)), f2 _ b3, b4.2⟩
theorem num_nm (n : Int) (f : ByteArray) (sv : List Int) : num30 (oneRs sv) (nmE n f) = (str (P20.expansion 2 n 0 sv).1, (P20.expansion 2 n 0 sv).2) := by
  have h : svs (if (nmE n f).kind = 2 then ofSet (oneRs sv) (nmE n f).set else []) = sv := by
    rw [if_pos (show (nmE n f).kind = 2 from rfl), show (nmE n f).set = ⟨#[82]⟩ from rfl, set_one, svs_one]
  unfold num30
  rw [h]
  rfl
theorem ex_nm (n : Int) (sv : List Int) : exF (oneRs sv) (nmE n ⟨#[37, 122]⟩) = (str (P20.expansion 2 n 0 sv).1, (P20.expansion 2 n 0 sv).2) := by
  rw [← num_nm n ⟨#[37, 122]⟩ sv]
  unfold exF
  rw [if_pos (show (nmE n ⟨#[37, 122]⟩).fmt = ⟨#[37, 122]⟩ from rfl)]
theorem co_nm (n : Int) (l : List UInt8) (sv : List Int) (m : List UInt8) (hk : P21.kind l = 5) (he : P20.expansion 2 n 0 sv = (m, 0)) : coF (oneRs sv) (nmE n (str l)) = if m = l then (⟨#[37, 122]⟩, 0) else (⟨#[]⟩, 15) := by
  unfold coF
  rw [num_nm, he, if_pos (show P21.kind (P4.bl (nmE n (str l)).fmt) = 5 from hk), if_pos rfl]
  by_cases h : m = l
  · rw [if_pos h, if_pos (show str m = (nmE n (str l)).fmt by rw [h]; rfl)]
  · rw [if_neg h, if_neg (show ¬ str m = (nmE n (str l)).fmt from fun q => h (by have := congrArg P4.bl q; exact this))]
theorem wr30 (n x : Int) (hn : -53940 ≤ n ∧ n ≤ 53940) (hx : 60 ≤ x ∧ x ≤ 10800) : ∃ SA SB SA1 SAB SB1 SBA SAA ST1 ST2 SA2, Wr30 n x SA SB SA1 SAB SB1 SBA SAA ST1 ST2 SA2 := by
  have hx0 : x ≠ 0 := by omega
  have hF : P21.Fits n x := ⟨by omega, by omega, by omega, by omega⟩
  have ho : P20.other [0, x] = (x, true) := P21.other_good hx0 [0, x] (fun y hy => by simpa using hy) (by simp)
  have hxt := P21.xt_exp hF 0 ho
  have nk : ∀ y, -86399 ≤ y → y ≤ 86399 → P21.kind (P20.text y) = 5 := fun y h0 h1 => P21.kind5 (P21.num_of_text h0 h1)
  have nos : ∀ y, -86399 ≤ y → y ≤ 86399 → ∀ c ∈ P20.text y, c ≠ 47 := fun y _ _ => text_bytes y
  have jk : ∀ y z, -86399 ≤ y → y ≤ 86399 → -86399 ≤ z → z ≤ 86399 → P21.kind (P20.text y ++ 47 :: P20.text z) = 5 := fun y z h0 h1 k0 k1 => P21.kind5s (P21.slash_at (text_bytes y)) (P21.num_of_text h0 h1) (P21.num_of_text k0 k1)
  have tl : ∀ y, (P20.text y).length ≤ 7 := text_le
  have t1 := tl n; have t2 := tl (n + x); have t3 := tl (n + 1); have t4 := tl (n + x + 1)
  have hne : P20.text n ≠ P20.text (n + x) := fun q => by have := P20.text_inj (by omega) (by omega) (by omega) (by omega) q; omega
  have no1 : ∀ l, P21.kind l = 5 → P21.xt n x ≠ l → (coF (oneRs [0, x]) (nmE n (str l))).2 = 15 := fun l hk h => by rw [co_nm n l [0, x] _ hk hxt, if_neg h]
  have sl : ∀ y, P21.xt n x ≠ P20.text y := fun y q => by
    have : (47 : UInt8) ∈ P21.xt n x := by unfold P21.xt; simp
    rw [q] at this
    exact text_bytes y 47 this rfl
  have sj : ∀ y z, P21.xt n x = P20.text y ++ 47 :: P20.text z → P20.text n = P20.text y ∧ P20.text (n + x) = P20.text z := fun y z q => by
    have e := P21.slash_at (a := P20.text n) (b := P20.text (n + x)) (text_bytes n)
    have e' := P21.slash_at (a := P20.text y) (b := P20.text z) (text_bytes y)
    rw [show P20.text n ++ 47 :: P20.text (n + x) = P20.text y ++ 47 :: P20.text z from q, e'] at e
    injection e with e1 e2
    injection e2 with e2 _
    exact ⟨e1.symm, e2.symm⟩
  have ap : ∀ (l m : List UInt8), l ++ 47 :: m = l ++ [47] ++ m := fun l m => by simp
  refine ⟨str (P20.text n), str (P20.text (n + x)), str (P20.text n ++ [47]), str (P20.text n ++ [47] ++ P20.text (n + x)), str (P20.text (n + x) ++ [47]), str (P20.text (n + x) ++ [47] ++ P20.text n), str (P20.text n ++ [47] ++ P20.text n), str (P20.text (n + 1)), str (P20.text (n + x + 1)), str (P20.text n ++ [47] ++ P20.text (n + x + 1)),
    ⟨fun W => ntext_any n W (by omega) (by omega), fun W => ntext_any (n + x) W (by omega) (by omega), fun W => ntext_any (n + 1) W (by omega) (by omega), fun W => ntext_any (n + x + 1) W (by omega) (by omega),
     cat_run _ [47] (by simp; omega), cat_run _ _ (by simp; omega), cat_run _ [47] (by simp; omega), cat_run _ _ (by simp; omega), cat_run _ _ (by simp; omega), cat_run _ _ (by simp; omega),
     str_ne (List.length_pos_iff.2 (P20.text_ne (by omega) (by omega))), str_ne (List.length_pos_iff.2 (P20.text_ne (by omega) (by omega))), eq_b _ _ (fun q => hne (by have := congrArg P4.bl q; exact this)), ?_, ?_, ?_, ?_, ?_, ?_⟩⟩
  · rw [ex_nm, hxt, ← ap]; rfl
  · rw [← ap, co_nm n _ [0, x] _ (jk n (n + x) (by omega) (by omega) (by omega) (by omega)) hxt, if_pos (show P21.xt n x = P20.text n ++ 47 :: P20.text (n + x) from rfl)]
  · intro k s hs
    match k, hs with
    | 0, hs => injection hs with hs; subst hs; exact ⟨by rw [str_size]; omega, no1 _ (nk n (by omega) (by omega)) (sl n)⟩
    | 1, hs => injection hs with hs; subst hs; exact ⟨by rw [str_size]; omega, no1 _ (nk _ (by omega) (by omega)) (sl _)⟩
    | 2, hs => injection hs with hs; subst hs; exact ⟨by rw [str_size]; simp; omega, no1 _ (by rw [← ap]; exact jk _ _ (by omega) (by omega) (by omega) (by omega)) (by rw [← ap]; exact fun q => hne (sj _ _ q).1)⟩
    | 3, hs => injection hs with hs; subst hs; exact ⟨by rw [str_size]; simp; omega, no1 _ (by rw [← ap]; exact jk _ _ (by omega) (by omega) (by omega) (by omega)) (by rw [← ap]; exact fun q => hne (sj _ _ q).2.symm)⟩
    | 4, hs => injection hs with hs; subst hs; exact ⟨by rw [str_size]; omega, no1 _ (nk _ (by omega) (by omega)) (sl _)⟩
    | 5, hs =>
      injection hs with hs
      subst hs
      refine ⟨by rw [str_size]; simp; omega, no1 _ (by rw [← ap]; exact jk _ _ (by omega) (by omega) (by omega) (by omega)) ?_⟩
      rw [← ap]
      intro q
      have := P20.text_inj (by omega) (by omega) (by omega) (by omega) (sj _ _ q).2
      omega
    | k + 6, hs => simp at hs
  · rw [ex_nm]
    have h3 : P20.other [0, x, x + 60] = (0, false) := by
      unfold P20.other
      rw [P20.otherFrom, if_pos rfl, P20.otherFrom, if_neg hx0, if_neg (by simp), P20.otherFrom, if_neg (by omega), if_pos (by simp; omega)]
    unfold P20.expansion
    rw [if_neg (by decide), if_neg (by decide), if_pos rfl, h3, if_neg (by decide), if_pos (by simp; omega)]
  · have hz : P20.expansion 2 n 0 [0] = (P20.text n, 0) := turned_zero n (by omega) (by omega) [0] (fun r hr => by simpa using hr)
    rw [co_nm n _ [0] _ (nk n (by omega) (by omega)) hz, if_pos rfl]
  · exact ⟨by rw [str_size]; omega, by rw [str_size]; simp; omega⟩

set_option maxRecDepth 100000 in
set_option maxHeartbeats 16000000 in
theorem walkExpandWrong (off save which : Int) (w : World) (ho : -32768 ≤ off ∧ off ≤ 32767) (hs : -32768 ≤ save ∧ save ≤ 32767) (hw : 0 ≤ which ∧ which ≤ 255) (hv : Vars21 w) :
    Calls Tryd.prog 5 #[.int .i16 off, .int .i16 save, .int .u8 which] w fun e w' => e = .returned (.bool true) ∧ Below w.heap.size w w' := by
  obtain ⟨N0, S0, S1, n, x, K, hEq, bN, bS, bT, bn, bx, bK⟩ := nums30 off save which hw
  have HEQ := Lib.hid hEq
  clear hEq
  obtain ⟨SA, SB, SA1, SAB, SB1, SBA, SAA, ST1, ST2, SA2, hW⟩ := wr30 n x bn bx
  have H := Lib.hid hW
  have e1 := hW.e1; have e2 := hW.e2; have e3 := hW.e3; have a1 := hW.a1; have a2 := hW.a2; have a3 := hW.a3; have a4 := hW.a4; have a5 := hW.a5; have a6 := hW.a6
  obtain ⟨S, hSK⟩ : ∃ S, [SA, SB, SBA, SAA, ST1, SA2][K]? = some S := ⟨_, List.getElem?_eq_getElem (by simpa using bK)⟩
  have HNO := Lib.hid (hW.no K S hSK)
  have HSK := Lib.hid hSK
  have b2x : BdE (nmE n ⟨#[37, 122]⟩) [0, x] := ⟨(by show -9223372036854775808 ≤ n ∧ n ≤ 9223372036854775807; omega), (by show -9223372036854775808 ≤ (0 : Int) ∧ (0 : Int) ≤ 9223372036854775807; decide), (by show 2 ≤ 1000000; decide), by simp, (fun y hy => by simp at hy; omega)⟩
  have b3x : BdE (nmE n ⟨#[37, 122]⟩) [0, x, x + 60] := ⟨(by show -9223372036854775808 ≤ n ∧ n ≤ 9223372036854775807; omega), (by show -9223372036854775808 ≤ (0 : Int) ∧ (0 : Int) ≤ 9223372036854775807; decide), (by show 2 ≤ 1000000; decide), by simp, (fun y hy => by simp at hy; omega)⟩
  have bAB : BdE (nmE n SAB) [0, x] := ⟨b2x.1, b2x.2.1, (by have := hW.sz.2; show SAB.size ≤ 1000000; omega), by simp, b2x.2.2.2.2⟩
  have bSS : BdE (nmE n S) [0, x] := ⟨b2x.1, b2x.2.1, (by have := HNO.out.1; show S.size ≤ 1000000; omega), by simp, b2x.2.2.2.2⟩
  have bA : BdE (nmE n SA) [0] := ⟨b2x.1, b2x.2.1, (by have := hW.sz.1; show SA.size ≤ 1000000; omega), by simp, (fun y hy => by simp at hy; omega)⟩
  have B2 := Lib.hid b2x; have B3 := Lib.hid b3x; have BAB := Lib.hid bAB; have BSS := Lib.hid bSS; have BA := Lib.hid bA
  have hbn0 := bn.1; have hbn1 := bn.2; have hbx0 := bx.1; have hbx1 := bx.2; have hbN0 := bN.1; have hbN1 := bN.2; have hbS0 := bS.1; have hbS1 := bS.2; have hbT0 := bT.1; have hbT1 := bT.2; have ho0 := ho.1; have ho1 := ho.2; have hs0 := hs.1; have hs1 := hs.2; have hw0 := hw.1; have hw1 := hw.2
  have hK6 : (K : Int) < 6 := by omega
  obtain ⟨hN0, hS0, hS1, hK, hn, hx⟩ := HEQ.out
  clear hW hSK b2x b3x bAB bSS bA bn bx bN bS bT ho hs hw
  go_enter Tryd.func5, Tryd.ntmps5
  go_upto_region 3 with fail
  clear hN0 hS0 hS1 hn hx hbN0 hbN1 hbS0 hbS1 hbT0 hbT1 ho0 ho1 hs0 hs1
  go_wp2_with fail
  refine (H.out.t1 _).mono ?_
  rintro e W0 ⟨rfl, hc⟩
  have HB0 := Lib.hid ((Below.refl w.heap.size w).trans hc)
  clear hc
  go_wp2_with fail
  refine (H.out.t2 _).mono ?_
  rintro e W1 ⟨rfl, hc⟩
  have HB1 := Lib.hid (HB0.out.trans (hc.mono HB0.out.size))
  clear hc
  go_wp2_with fail
  refine (named_any n ⟨#[37, 122]⟩ _).mono ?_
  rintro e W2 ⟨rfl, hc⟩
  have HB2 := Lib.hid (HB1.out.trans (hc.mono HB1.out.size))
  clear hc
  have HB3 := Lib.hid (HB2.out.alloc HB2.out.size (.cells #[.int .i64 n, .int .i64 2, .int .i64 0, .string ⟨#[82]⟩, .string ⟨#[37, 122]⟩, .bool false, .int .i64 0, .int .i64 0, .int .i64 0, .int .i64 0, .int .i64 0, .int .i64 0, .int .i64 0] 47))
  have HK3 := Lib.hid (Blk.newAt W2 (W2.heap.size) (by simp) 47 #[.int .i64 n, .int .i64 2, .int .i64 0, .string ⟨#[82]⟩, .string ⟨#[37, 122]⟩, .bool false, .int .i64 0, .int .i64 0, .int .i64 0, .int .i64 0, .int .i64 0, .int .i64 0, .int .i64 0])
  have ERB := HK3
  clear HK3
  have k0 := (ERB.out.cell 0).trans rfl
  have k1 := (ERB.out.cell 1).trans rfl
  have k2 := (ERB.out.cell 2).trans rfl
  have k3 := (ERB.out.cell 3).trans rfl
  have k4 := (ERB.out.cell 4).trans rfl
  have k5 := (ERB.out.cell 5).trans rfl
  have k6 := (ERB.out.cell 6).trans rfl
  have k7 := (ERB.out.cell 7).trans rfl
  have k8 := (ERB.out.cell 8).trans rfl
  have k9 := (ERB.out.cell 9).trans rfl
  have k10 := (ERB.out.cell 10).trans rfl
  have k11 := (ERB.out.cell 11).trans rfl
  have k12 := (ERB.out.cell 12).trans rfl
  go_wp2_with fail
  clear k0 k1 k2 k3 k4 k5 k6 k7 k8 k9 k10 k11 k12
  have HB4 := Lib.hid (HB3.out.alloc HB3.out.size (.cells #[.int .i64 0, .int .i64 x] 2))
  have HK4 := Lib.hid (Blk.newAt (W2.alloc (.cells #[.int .i64 n, .int .i64 2, .int .i64 0, .string ⟨#[82]⟩, .string ⟨#[37, 122]⟩, .bool false, .int .i64 0, .int .i64 0, .int .i64 0, .int .i64 0, .int .i64 0, .int .i64 0, .int .i64 0] 47)) (W2.heap.size + 1) (by simp) 2 #[.int .i64 0, .int .i64 x])
  have ERB' := Lib.hid (ERB.out.alloc (.cells #[.int .i64 0, .int .i64 x] 2))
  clear ERB
  have ERB := ERB'; clear ERB'
  refine (one_any (nmE n ⟨#[37, 122]⟩) (some ⟨W2.heap.size + 1, 0, none⟩) 2 [0, x] _ (by simp) (saves_in _ _ HK4.out rfl)).mono ?_
  rintro e W5 ⟨t5, rfl, hS, hq, hc⟩
  have HB5 := Lib.hid (HB4.out.trans (hc.mono HB4.out.size)); have HS5 := Lib.hid hS; have HQ5 := Lib.hid hq
  have ERB' := Lib.hid (ERB.out.below hc ERB.out.lt)
  clear hc hS hq ERB
  have ERB := ERB'; clear ERB'
  have HB6 := Lib.hid (HB5.out.alloc HB5.out.size (.cells #[.slice t5.rA t5.rules.length t5.rc, .slice t5.zA t5.zones.length t5.zc, .slice t5.kA t5.links.length t5.kc, .slice t5.hA t5.shifts.length t5.hc] 32))
  have HK6 := Lib.hid (Blk.newAt W5 (W5.heap.size) (by simp) 32 #[.slice t5.rA t5.rules.length t5.rc, .slice t5.zA t5.zones.length t5.zc, .slice t5.kA t5.links.length t5.kc, .slice t5.hA t5.shifts.length t5.hc])
  have ERB' := Lib.hid (ERB.out.alloc (.cells #[.slice t5.rA t5.rules.length t5.rc, .slice t5.zA t5.zones.length t5.zc, .slice t5.kA t5.links.length t5.kc, .slice t5.hA t5.shifts.length t5.hc] 32))
  clear ERB
  have ERB := ERB'; clear ERB'
  have SRB := HK6
  clear HK6
  have HSG := Lib.hid (HS5.out.below ((Below.refl _ _).alloc (Nat.le_refl _) (.cells #[.slice t5.rA t5.rules.length t5.rc, .slice t5.zA t5.zones.length t5.zc, .slice t5.kA t5.links.length t5.kc, .slice t5.hA t5.shifts.length t5.hc] 32)))
  have p0 := (SRB.out.cell 0).trans rfl
  have p1 := (SRB.out.cell 1).trans rfl
  have p2 := (SRB.out.cell 2).trans rfl
  have p3 := (SRB.out.cell 3).trans rfl
  go_wp2_with fail
  clear p0 p1 p2 p3
  refine (turns_ex (nmE n ⟨#[37, 122]⟩) [0, x] SAB 0 _ HSG.out HQ5.out B2.out (by rw [H.out.ex1]) (fun _ => by rw [H.out.ex1])).mono ?_
  rintro e W7 ⟨rfl, hc⟩
  have HB7 := Lib.hid (HB6.out.trans (hc.mono HB6.out.size))
  have ERB' := Lib.hid (ERB.out.below hc ERB.out.lt)
  have SRB' := Lib.hid (SRB.out.below hc SRB.out.lt)
  clear hc ERB SRB
  have ERB := ERB'; clear ERB'
  have SRB := SRB'; clear SRB'
  clear HSG SRB
  go_wp2_with fail
  refine (named_any n SAB _).mono ?_
  rintro e W8 ⟨rfl, hc⟩
  have HB8 := Lib.hid (HB7.out.trans (hc.mono HB7.out.size))
  have ERB' := Lib.hid (ERB.out.below hc ERB.out.lt)
  clear hc ERB
  have ERB := ERB'; clear ERB'
  have HB9 := Lib.hid (HB8.out.alloc HB8.out.size (.cells #[.int .i64 0, .int .i64 x] 2))
  have HK9 := Lib.hid (Blk.newAt W8 (W8.heap.size) (by simp) 2 #[.int .i64 0, .int .i64 x])
  have ERB' := Lib.hid (ERB.out.alloc (.cells #[.int .i64 0, .int .i64 x] 2))
  clear ERB
  have ERB := ERB'; clear ERB'
  go_wp2_with fail
  refine (one_any (nmE n SAB) (some ⟨W8.heap.size, 0, none⟩) 2 [0, x] _ (by simp) (saves_in _ _ HK9.out rfl)).mono ?_
  rintro e W10 ⟨t10, rfl, hS, hq, hc⟩
  have HB10 := Lib.hid (HB9.out.trans (hc.mono HB9.out.size)); have HS10 := Lib.hid hS; have HQ10 := Lib.hid hq
  have ERB' := Lib.hid (ERB.out.below hc ERB.out.lt)
  clear hc hS hq ERB
  have ERB := ERB'; clear ERB'
  go_wp2_with fail
  refine (turns_co (nmE n SAB) [0, x] ⟨#[37, 122]⟩ 0 _ (hv.below HB10.out) HS10.out HQ10.out BAB.out (by rw [H.out.co1]) (fun _ => by rw [H.out.co1])).mono ?_
  rintro e W11 ⟨rfl, hc⟩
  have HB11 := Lib.hid (HB10.out.trans (hc.mono HB10.out.size))
  have ERB' := Lib.hid (ERB.out.below hc ERB.out.lt)
  clear hc ERB
  have ERB := ERB'; clear ERB'
  go_wp2_with fail
  refine (H.out.t3 _).mono ?_
  rintro e W12 ⟨rfl, hc⟩
  have HB12 := Lib.hid (HB11.out.trans (hc.mono HB11.out.size))
  have ERB' := Lib.hid (ERB.out.below hc ERB.out.lt)
  clear hc ERB
  have ERB := ERB'; clear ERB'
  go_wp2_with fail
  refine (H.out.t4 _).mono ?_
  rintro e W13 ⟨rfl, hc⟩
  have HB13 := Lib.hid (HB12.out.trans (hc.mono HB12.out.size))
  have ERB' := Lib.hid (ERB.out.below hc ERB.out.lt)
  clear hc ERB
  have ERB := ERB'; clear ERB'
  have HB14 := Lib.hid (HB13.out.alloc HB13.out.size (.cells #[.string SA, .string SB, .string SBA, .string SAA, .string ST1, .string SA2] 9))
  have HK14 := Lib.hid (Blk.newAt W13 (W13.heap.size) (by simp) 9 #[.string SA, .string SB, .string SBA, .string SAA, .string ST1, .string SA2])
  have ERB' := Lib.hid (ERB.out.alloc (.cells #[.string SA, .string SB, .string SBA, .string SAA, .string ST1, .string SA2] 9))
  clear ERB
  have ERB := ERB'; clear ERB'
  have sk : (W13.alloc (.cells #[.string SA, .string SB, .string SBA, .string SAA, .string ST1, .string SA2] 9)).cell? ⟨W13.heap.size, K, none⟩ = some (.string S) := (HK14.out.cell K).trans (by rw [show (#[.string SA, .string SB, .string SBA, .string SAA, .string ST1, .string SA2] : Array Value)[K]? = ([SA, SB, SBA, SAA, ST1, SA2].map Value.string)[K]? from by rw [← Array.getElem?_toList]; rfl, List.getElem?_map, HSK.out]; rfl)
  go_wp2_with fail
  clear sk hK
  refine (named_any n S _).mono ?_
  rintro e W15 ⟨rfl, hc⟩
  have HB15 := Lib.hid (HB14.out.trans (hc.mono HB14.out.size))
  have ERB' := Lib.hid (ERB.out.below hc ERB.out.lt)
  clear hc ERB
  have ERB := ERB'; clear ERB'
  have HB16 := Lib.hid (HB15.out.alloc HB15.out.size (.cells #[.int .i64 0, .int .i64 x] 2))
  have HK16 := Lib.hid (Blk.newAt W15 (W15.heap.size) (by simp) 2 #[.int .i64 0, .int .i64 x])
  have ERB' := Lib.hid (ERB.out.alloc (.cells #[.int .i64 0, .int .i64 x] 2))
  clear ERB
  have ERB := ERB'; clear ERB'
  go_wp2_with fail
  refine (one_any (nmE n S) (some ⟨W15.heap.size, 0, none⟩) 2 [0, x] _ (by simp) (saves_in _ _ HK16.out rfl)).mono ?_
  rintro e W17 ⟨t17, rfl, hS, hq, hc⟩
  have HB17 := Lib.hid (HB16.out.trans (hc.mono HB16.out.size)); have HS17 := Lib.hid hS; have HQ17 := Lib.hid hq
  have ERB' := Lib.hid (ERB.out.below hc ERB.out.lt)
  clear hc hS hq ERB
  have ERB := ERB'; clear ERB'
  go_wp2_with fail
  refine (turns_co (nmE n S) [0, x] ⟨#[]⟩ 15 _ (hv.below HB17.out) HS17.out HQ17.out BSS.out HNO.out.2 (fun h => by cases h)).mono ?_
  rintro e W18 ⟨rfl, hc⟩
  have HB18 := Lib.hid (HB17.out.trans (hc.mono HB17.out.size))
  have ERB' := Lib.hid (ERB.out.below hc ERB.out.lt)
  clear hc ERB
  have ERB := ERB'; clear ERB'
  have c0 := (ERB.out.cell 0).trans rfl
  have c1 := (ERB.out.cell 1).trans rfl
  have c2 := (ERB.out.cell 2).trans rfl
  have c3 := (ERB.out.cell 3).trans rfl
  have c4 := (ERB.out.cell 4).trans rfl
  have c5 := (ERB.out.cell 5).trans rfl
  have c6 := (ERB.out.cell 6).trans rfl
  have c7 := (ERB.out.cell 7).trans rfl
  have c8 := (ERB.out.cell 8).trans rfl
  have c9 := (ERB.out.cell 9).trans rfl
  have c10 := (ERB.out.cell 10).trans rfl
  have c11 := (ERB.out.cell 11).trans rfl
  have c12 := (ERB.out.cell 12).trans rfl
  have HB19 := Lib.hid (HB18.out.alloc HB18.out.size (.cells #[.int .i64 0, .int .i64 x, .int .i64 (x + 60)] 2))
  have HK19 := Lib.hid (Blk.newAt W18 (W18.heap.size) (by simp) 2 #[.int .i64 0, .int .i64 x, .int .i64 (x + 60)])
  have ERB' := Lib.hid (ERB.out.alloc (.cells #[.int .i64 0, .int .i64 x, .int .i64 (x + 60)] 2))
  clear ERB
  have ERB := ERB'; clear ERB'
  go_wp2_with fail
  clear c0 c1 c2 c3 c4 c5 c6 c7 c8 c9 c10 c11 c12
  refine (one_any (nmE n ⟨#[37, 122]⟩) (some ⟨W18.heap.size, 0, none⟩) 3 [0, x, x + 60] _ (by simp) (saves_in _ _ HK19.out rfl)).mono ?_
  rintro e W20 ⟨t20, rfl, hS, hq, hc⟩
  have HB20 := Lib.hid (HB19.out.trans (hc.mono HB19.out.size)); have HS20 := Lib.hid hS; have HQ20 := Lib.hid hq
  have ERB' := Lib.hid (ERB.out.below hc ERB.out.lt)
  clear hc hS hq ERB
  have ERB := ERB'; clear ERB'
  go_wp2_with fail
  refine (turns_ex (nmE n ⟨#[37, 122]⟩) [0, x, x + 60] ⟨#[]⟩ 14 _ HS20.out HQ20.out B3.out H.out.ex2 (fun h => by cases h)).mono ?_
  rintro e W21 ⟨rfl, hc⟩
  have HB21 := Lib.hid (HB20.out.trans (hc.mono HB20.out.size))
  have ERB' := Lib.hid (ERB.out.below hc ERB.out.lt)
  clear hc ERB
  have ERB := ERB'; clear ERB'
  go_wp2_with fail
  refine (named_any n SA _).mono ?_
  rintro e W22 ⟨rfl, hc⟩
  have HB22 := Lib.hid (HB21.out.trans (hc.mono HB21.out.size))
  have ERB' := Lib.hid (ERB.out.below hc ERB.out.lt)
  clear hc ERB
  have ERB := ERB'; clear ERB'
  have HB23 := Lib.hid (HB22.out.alloc HB22.out.size (.cells #[.int .i64 0] 2))
  have HK23 := Lib.hid (Blk.newAt W22 (W22.heap.size) (by simp) 2 #[.int .i64 0])
  have ERB' := Lib.hid (ERB.out.alloc (.cells #[.int .i64 0] 2))
  clear ERB
  have ERB := ERB'; clear ERB'
  go_wp2_with fail
  refine (one_any (nmE n SA) (some ⟨W22.heap.size, 0, none⟩) 1 [0] _ (by simp) (saves_in _ _ HK23.out rfl)).mono ?_
  rintro e W24 ⟨t24, rfl, hS, hq, hc⟩
  have HB24 := Lib.hid (HB23.out.trans (hc.mono HB23.out.size)); have HS24 := Lib.hid hS; have HQ24 := Lib.hid hq
  have ERB' := Lib.hid (ERB.out.below hc ERB.out.lt)
  clear hc hS hq ERB
  have ERB := ERB'; clear ERB'
  go_wp2_with fail
  refine (turns_co (nmE n SA) [0] ⟨#[37, 122]⟩ 0 _ (hv.below HB24.out) HS24.out HQ24.out BA.out (by rw [H.out.co2]) (fun _ => by rw [H.out.co2])).mono ?_
  rintro e W25 ⟨rfl, hc⟩
  have HB25 := Lib.hid (HB24.out.trans (hc.mono HB24.out.size))
  have ERB' := Lib.hid (ERB.out.below hc ERB.out.lt)
  clear hc ERB
  have ERB := ERB'; clear ERB'
  go_wp2_with fail
  refine (works30_any _ (hv.below HB25.out)).mono ?_
  rintro e W26 ⟨rfl, hc⟩
  have HB26 := Lib.hid (HB25.out.trans (hc.mono HB25.out.size))
  have ERB' := Lib.hid (ERB.out.below hc ERB.out.lt)
  clear hc ERB
  have ERB := ERB'; clear ERB'
  go_wp2_with fail
  go_ret
  exact ⟨rfl, HB26.out⟩
end Go.Proofs.YtlideagcmhlkeaaDoor

/- ExpandWrong: for every input the law returns true, and each argument reads as before. No condition beside the row's own (the listed package-level variables read as listed; the card ties them to the program's text). -/
namespace Go.Proofs.YtlideagcmhlkeaaDoor.lawExpandWrong
open Go.ChangeShapes Go.WideShapes Go.ChangeAt Go.RowKit Go.Joins
open Go.ChangeMaps (open_string shut_string)
set_option linter.unusedVariables false

theorem laidOut : laidOutB Tryd.prog = true := by kernel_rfl
theorem own : ownKnob Tryd.prog.godebug = none := by kernel_rfl
theorem door_met (os : Os) (args : Array Value) : laidMetH Tryd.prog Rows.expandWrongRow.laid ((World.doorLaid Tryd.prog 400 os).forCall (fun _ _ => 0) ⟨#[], args, []⟩).memory :=
  laidMetH_of_parts3 (fuel := 8) (laidMet_of_run' 8 (by kernel_rfl) (by kernel_rfl)) (by kernel_rfl) (by kernel_rfl)
set_option maxRecDepth 100000 in
theorem lifted (os : Os) (started : os.Started) (H : Type) (enc : TypeId × Value → H) :
    ReturnsInHanded {} Tryd.checked os 5 .any (fun w args => (Rows.expandWrongSpec.pre enc Tryd.prog Tryd.f5 [] false w args ∧ laidMetH Tryd.prog Rows.expandWrongRow.laid w) ∧ sizedMet enc Tryd.prog Tryd.f5 (OpenSpec.ofChange Rows.expandWrongSpec) false w args)
      (Rows.expandWrongSpec.post enc Tryd.prog Tryd.f5 false true false false) := by
  refine handed_shaped (C := Tryd.checked) (X := fun w _ => laidMetH Tryd.prog Rows.expandWrongRow.laid w) (fun _ _ _ hh h => h.of_heap hh) own started (by kernel_rfl) Tryd.func5
    (ChangeSpec.witness_shaped (enc := enc) (C := Tryd.checked) (os := os) (X := fun w _ => laidMetH Tryd.prog Rows.expandWrongRow.laid w) false (World.doorLaid Tryd.prog 400 os) #[.int .i16 0, .int .i16 0, .int .u8 0] 8 rfl (World.shaped_of_RefB (by kernel_rfl) (by kernel_rfl)) (by kernel_rfl) (by kernel_rfl) (by kernel_rfl) (door_met os _)) ?_
  intro W base args ds gs before hval0 hW _ _ hL hsh _
  have hval : ∀ (j : Nat) t v, Tryd.f5.params[j]? = some t → args[j]? = some v → Value.okWide Tryd.prog W .any base t v := hval0
  have hW' := hW
  obtain ⟨p, q, hA0, hV, rfl, hfz, hnd⟩ := hW
  have hA : DataW.TrodAll enc Tryd.prog W 0 (fun _ => true) true Tryd.f5.params.toList args.toList ds p := hA0
  rw [Tryd.params5] at hA hval
  obtain ⟨v0, vs0, d0, ds0, p0, q0, hargs, rfl, rfl, h0, r0⟩ := trodAll_cons hA
  obtain ⟨v1, vs1, d1, ds1, p1, q1, rfl, rfl, rfl, h1, r1⟩ := trodAll_cons r0
  obtain ⟨v2, vs2, d2, ds2, p2, q2, rfl, rfl, rfl, h2, r2⟩ := trodAll_cons r1
  obtain ⟨rfl, rfl, rfl⟩ := trodAll_nil r2
  obtain rfl : args = #[v0, v1, v2] := by cases args; simp_all
  obtain ⟨rfl, rfl⟩ := trodVars_none hV
  have h0k := h0
  have h1k := h1
  have h2k := h2
  have hlt : ∀ x ∈ (p0 ++ (p1 ++ (p2 ++ []))) ++ [], x.block < W.heap.size := fun x hx => by simpa using hW'.lt x hx
  have hvars := vars21_of_laid (show laidMet Tryd.prog Rows.expandWrongRow.laid W from hL) hsh
  have hk0 : ∀ W', Below W.heap.size W W' → DataW.Trod enc Tryd.prog W' 0 (fun b => decide (b < W.heap.size)) true 63 v0 d0 p0 := fun W' bel => Below.trod laidOut (by kernel_rfl) (of_decide_eq_true (by kernel_rfl)) h0k bel (fun x hx => hlt x (by simp [hx]))
  have hk1 : ∀ W', Below W.heap.size W W' → DataW.Trod enc Tryd.prog W' 0 (fun b => decide (b < W.heap.size)) true 63 v1 d1 p1 := fun W' bel => Below.trod laidOut (by kernel_rfl) (of_decide_eq_true (by kernel_rfl)) h1k bel (fun x hx => hlt x (by simp [hx]))
  have hk2 : ∀ W', Below W.heap.size W W' → DataW.Trod enc Tryd.prog W' 0 (fun b => decide (b < W.heap.size)) true 5 v2 d2 p2 := fun W' bel => Below.trod laidOut (by kernel_rfl) (of_decide_eq_true (by kernel_rfl)) h2k bel (fun x hx => hlt x (by simp [hx]))
  obtain ⟨a0, rfl, rfl, rfl, w0⟩ := open_int Tryd.underlying63 (hval 0 63 v0 rfl rfl) h0
  obtain ⟨a1, rfl, rfl, rfl, w1⟩ := open_int Tryd.underlying63 (hval 1 63 v1 rfl rfl) h1
  obtain ⟨a2, rfl, rfl, rfl, w2⟩ := open_int Tryd.underlying5 (hval 2 5 v2 rfl rfl) h2
  clear hA0 hval0
  refine (walkExpandWrong a0 a1 a2 W (bounds_i16 w0) (bounds_i16 w1) (bounds_u8 w2) hvars).mono fun e W' ⟨he, bel⟩ => ?_
  subst he
  exact ⟨_, rfl, _, _, _, [], _, [], hW', trodAll_mk1 (shut_bool Tryd.underlying4 _), trodAll_cons_mk (hk0 W' bel) (trodAll_cons_mk (hk1 W' bel) (trodAll_cons_mk (hk2 W' bel) (trodAll_mk0))), rfl, World.keptBut_mono (fun p hp => ⟨hp, Or.inr (by simp at hp)⟩) (bel.frame _), fun h => by cases h⟩

theorem said : Rows.ExpandWrongSaid :=
  OpenClaim.holds_of_wide 5 Tryd.f5 rfl rfl rfl rfl rfl rfl rfl ⟨rfl, rfl, rfl, rfl, rfl⟩ rfl rfl rfl rfl rfl (by kernel_rfl) Tryd.func5 (by kernel_rfl)
    (of_decide_eq_true (by kernel_rfl)) (by unfold Func.isWrapper; first | (rw [if_pos (by decide +kernel)]; kernel_rfl) | (rw [if_neg (by decide +kernel)]; exact ⟨rfl, rfl⟩))
    (fun os started H enc _ => lifted os started H enc)

/-- No parameter wants a stand-in; the program's own looks are off: what the card asks. -/
theorem plain (f : FuncId) (fn : Func) (hf : Tryd.pinned.checked.prog.funcNamed Rows.expandWrongRow.func = some f) (hfn : Tryd.pinned.checked.prog.funcs[f]? = some fn) :
    true = Tryd.pinned.checked.prog.looks [] ∧ ∀ (j : Nat) t, fn.params[j]? = some t → Tryd.pinned.checked.prog.wantsStandIn t = false := by
  obtain rfl : f = 5 := Option.some.inj ((show Tryd.prog.funcNamed Rows.expandWrongRow.func = some 5 by kernel_rfl).symm.trans hf) |>.symm
  obtain rfl : fn = Tryd.f5 := (Option.some.inj (Tryd.func5.symm.trans hfn)).symm
  refine ⟨by kernel_rfl, fun j t ht => ?_⟩
  rw [Tryd.params5] at ht
  have hm := Array.mem_of_getElem? ht
  have hm2 : t = 63 ∨ t = 63 ∨ t = 5 := by simpa using hm
  rcases hm2 with rfl | rfl | rfl
  · exact (show Tryd.prog.wantsStandIn 63 = false by kernel_rfl)
  · exact (show Tryd.prog.wantsStandIn 63 = false by kernel_rfl)
  · exact (show Tryd.prog.wantsStandIn 5 = false by kernel_rfl)
/-- THE CARD -/
theorem card : Rows.ExpandWrongCardSaid :=
  Claim7.holds_tied_plain_at .later [] _ _ _ _ said (fun _ h => by cases h) (by kernel_rfl) (fun _ h => by cases h) expandWrong_row_tie rfl ⟨rfl, rfl⟩ (by kernel_rfl) rfl plain (by kernel_rfl)
end Go.Proofs.YtlideagcmhlkeaaDoor.lawExpandWrong
