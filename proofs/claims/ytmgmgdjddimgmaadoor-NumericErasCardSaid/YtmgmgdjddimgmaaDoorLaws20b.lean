/- The walk of the law NumericTurned (chapter 20). -/
import Derived.Test.YtmgmgdjddimgmaaDoorPlain20e
import Derived.Test.YtmgmgdjddimgmaaDoorCut20
import Derived.Test.YtmgmgdjddimgmaaDoorNum20k
import Derived.OpenShut
import Derived.IntWalk
namespace Go.Proofs.YtmgmgdjddimgmaaDoor
open Go.RowKit
set_option linter.unusedVariables false

theorem cut_slash (S T : List UInt8) (W : World) (h : ∀ c ∈ S, c ≠ 47) (hl : S.length + T.length ≤ 900) :
    Calls Tryd.prog 20 #[.string (str (S ++ 47 :: T)), .string ⟨#[47]⟩] W fun e w' => e = .returned (.tuple #[.string (str S), .string (str T), .bool true]) ∧ Q W w' := by
  have hz : (str (S ++ 47 :: T)).size = S.length + 1 + T.length := by rw [str_size, List.length_append, List.length_cons]; omega
  have q := cut_any (str (S ++ 47 :: T)) S.length W (index_slash S T h) (by omega) (by omega)
  have e1 : (str (S ++ 47 :: T)).extract 0 S.length = str S := by
    apply ByteArray.ext; apply Array.ext'
    rw [ByteArray.data_extract, Array.toList_extract]
    simp [str]
  have e2 : (str (S ++ 47 :: T)).extract (S.length + 1) (str (S ++ 47 :: T)).size = str T := by
    apply ByteArray.ext; apply Array.ext'
    rw [Lib.extract_to_end]
    show (S ++ 47 :: T).drop (S.length + 1) = T
    simp
  rw [e1, e2] at q
  exact q
theorem tmod_bd2 (m k : Int) (hk : 0 < k) : -k < m.tmod k ∧ m.tmod k < k := by
  rcases Int.le_total 0 m with h | h
  · rw [Int.tmod_eq_emod_of_nonneg h]
    have := Int.emod_nonneg m (by omega : k ≠ 0)
    have := Int.emod_lt_of_pos m hk
    omega
  · obtain ⟨j, rfl⟩ : ∃ j, m = -j := ⟨-m, by omega⟩
    rw [Int.neg_tmod, Int.tmod_eq_emod_of_nonneg (by omega)]
    have := Int.emod_nonneg j (by omega : k ≠ 0)
    have := Int.emod_lt_of_pos j hk
    omega
/-- Expansion of an era without strings, over rules that saves made -/
theorem exp_saves (off kind save : Int) (A : Option Addr) (c n : Nat) (L : List Int) (R : List UInt8 × Int) (W : World) (hn : n = L.length) (o64 : -9223372036854775808 ≤ off ∧ off ≤ 9223372036854775807) (s64 : -9223372036854775808 ≤ save ∧ save ≤ 9223372036854775807) (hl : n ≤ 1000)
    (hL : ∀ y ∈ L, -9223372036854775808 ≤ y ∧ y ≤ 9223372036854775807) (he : P20.expansion kind off save L = R) (h : RulesIn W A (L.map mkR)) :
    Calls Tryd.prog 15 #[.agg #[.int .i64 off, .int .i64 kind, .int .i64 save, .string ⟨#[]⟩, .string ⟨#[]⟩, .bool false, .int .i64 0, .int .i64 0, .int .i64 0, .int .i64 0, .int .i64 0, .int .i64 0, .int .i64 0], .slice A n c] W fun e w' => e = .returned (.tuple #[.string (str R.1), .int .i64 R.2]) ∧ Below W.heap.size W w' := by
  have q := expansion_any off kind save ⟨#[]⟩ ⟨#[]⟩ false 0 0 0 0 0 0 0 A (L.map mkR) c W o64 s64 (by rw [List.length_map]; omega) (by unfold SvOk; rw [svs_mk]; exact hL) h
  rw [svs_mk, he, List.length_map, ← hn] at q
  exact q

set_option maxRecDepth 100000 in
set_option maxHeartbeats 8000000 in
theorem walkNumericTurned (m n : Int) (w : World) (hm : (Lit.int .i32 m).wf = true) (hn : (Lit.int .i16 n).wf = true) (hv : Vars w) :
    Calls Tryd.prog 9 #[.int .i32 m, .int .i16 n] w fun e w' => e = .returned (.bool true) ∧ Below w.heap.size w w' := by
  have hm2 := bounds_i32 hm
  have hn2 := bounds_i16 hn
  clear hm hn
  obtain ⟨x, hx⟩ : ∃ x, m.tmod 54001 = x := ⟨_, rfl⟩
  obtain ⟨y, hy⟩ : ∃ y, n.tmod 10801 = y := ⟨_, rfl⟩
  have bx := tmod_bd2 m 54001 (by decide)
  have bY := tmod_bd2 n 10801 (by decide)
  rw [hx] at bx
  rw [hy] at bY
  obtain ⟨hm0, hm1⟩ := hm2
  obtain ⟨hn0, hn1⟩ := hn2
  obtain ⟨x0, x1⟩ := bx
  obtain ⟨y0, y1⟩ := bY
  have tl1 := text_le x
  have tl2 := text_le (x + y)
  have tb1 := text_bytes x
  have tb2 := text_bytes (x + y)
  have cS1 : Hid (∀ (B : Nat) (W : World), IntsIn W B [0, y, 0] → Calls Tryd.prog 18 #[.slice (some ⟨B, 0, none⟩) 3 3] W (SavesRes W [0, y, 0])) := fun B W h => saves_any B 3 [0, y, 0] W (by simp) (by simp) h
  have cS2 : Hid (∀ (B : Nat) (W : World), IntsIn W B [-y, 0, -y] → Calls Tryd.prog 18 #[.slice (some ⟨B, 0, none⟩) 3 3] W (SavesRes W [-y, 0, -y])) := fun B W h => saves_any B 3 [-y, 0, -y] W (by simp) (by simp) h
  have b1 : ∀ r ∈ [0, y, 0], -9223372036854775808 ≤ r ∧ r ≤ 9223372036854775807 := by
    intro r hr
    simp only [List.mem_cons, List.not_mem_nil, or_false] at hr
    omega
  have b2 : ∀ r ∈ [-y, 0, -y], -9223372036854775808 ≤ r ∧ r ≤ 9223372036854775807 := by
    intro r hr
    simp only [List.mem_cons, List.not_mem_nil, or_false] at hr
    omega
  have cE1 := fun R he (A : Option Addr) (c : Nat) W h => exp_saves x 2 0 A c 3 [0, y, 0] R W rfl (by omega) (by omega) (by omega) b1 he h
  have cE2 := fun R he (A : Option Addr) (c : Nat) W h => exp_saves (x + y) 2 0 A c 3 [-y, 0, -y] R W rfl (by omega) (by omega) (by omega) b2 he h
  clear b1 b2
  by_cases hy0 : y = 0
  · have e1 := cE1 (P20.text x, 0) (turned_zero x (by omega) (by omega) _ (by intro r hr; simp only [List.mem_cons, List.not_mem_nil, or_false] at hr; omega))
    have e2 := cE2 (P20.text (x + y), 0) (turned_zero (x + y) (by omega) (by omega) _ (by intro r hr; simp only [List.mem_cons, List.not_mem_nil, or_false] at hr; omega))
    rw [show P20.text (x + y) = P20.text x by rw [hy0, Int.add_zero]] at e2
    have hix : decide (0 ≤ Lib.indexByte (P20.text x) 47) = false := by rw [index_none _ tb1]; decide
    have cC : Hid (∀ W, Calls Tryd.prog 19 #[.string (str (P20.text x)), .string ⟨#[47]⟩] W fun e w' => e = .returned (.bool false) ∧ w' = W) := fun W => by
      have q := Tryd.strings_Contains_one (str (P20.text x)) 47 W
      rw [show (str (P20.text x)).data.toList = P20.text x from rfl, hix] at q; exact q
    have b0 : (y == 0) = true := by rw [beq_iff_eq]; exact hy0
    have E1 := Lib.hid e1
    have E2 := Lib.hid e2
    clear cE1 cE2 e1 e2 hix tb1 tb2 tl1 tl2
    generalize str (P20.text x) = T at E1 E2 cC
    have hY : Hid (y = 0) := Lib.hid hy0
    clear hy0
    go_enter Tryd.func9, Tryd.ntmps9
    have hN1 : IntsIn (w.alloc (.cells #[.int .i64 0, .int .i64 y, .int .i64 0] 2)) w.heap.size [0, y, 0] := ints_of (Blk.new w 2 #[.int .i64 0, .int .i64 y, .int .i64 0]) rfl
    have hbn1 := (Below.refl w.heap.size w).alloc (Nat.le_refl _) (.cells #[.int .i64 0, .int .i64 y, .int .i64 0] 2)
    have CS := Lib.hid (cS1.out _ _ hN1)
    clear hN1
    go_wp2_with fail
    refine CS.out.mono ?_
    rintro e v1 ⟨A1, c1, rfl, hrl1, hc1⟩
    have hb1 := hbn1.trans (hc1.mono hbn1.size)
    have CE := Lib.hid (E1.out A1 c1 _ hrl1)
    clear hbn1 hc1 CS hrl1
    go_wp2_with fail
    refine CE.out.mono ?_
    rintro e u1 ⟨rfl, hd1⟩
    have hf1 := hb1.trans (hd1.mono hb1.size)
    clear hb1 hd1 CE
    have hN2 : IntsIn (u1.alloc (.cells #[.int .i64 (-y), .int .i64 0, .int .i64 (-y)] 2)) u1.heap.size [-y, 0, -y] := ints_of (Blk.new u1 2 #[.int .i64 (-y), .int .i64 0, .int .i64 (-y)]) rfl
    have hbn2 := hf1.alloc hf1.size (.cells #[.int .i64 (-y), .int .i64 0, .int .i64 (-y)] 2)
    have CS := Lib.hid (cS2.out _ _ hN2)
    clear hN2
    go_wp2_with fail
    refine CS.out.mono ?_
    rintro e v2 ⟨A2, c2, rfl, hrl2, hc2⟩
    have hb2 := hbn2.trans (hc2.mono hbn2.size)
    have CE := Lib.hid (E2.out A2 c2 _ hrl2)
    clear hbn2 hc2 CS hrl2
    go_wp2_with fail
    refine CE.out.mono ?_
    rintro e u2 ⟨rfl, hd2⟩
    have hf2 := hb2.trans (hd2.mono hb2.size)
    clear hb2 hd2 CE
    have hvz := hv.below hf2
    go_wp2_with fail
    refine (cC.out _).mono ?_
    rintro e w' ⟨rfl, rfl⟩
    go_wp2_with fail
    refine (works20_any _ hvz).mono ?_
    rintro e z ⟨rfl, hz⟩
    have hbf := hf2.trans (hz.mono hf2.size)
    go_wp2_with fail
    go_ret
    exact ⟨rfl, hbf⟩
  · have e1 := cE1 (P20.text x ++ 47 :: P20.text (x + y), 0) (turned_one x y hy0 (by omega) (by omega) (by omega) (by omega) _ (other_010 y hy0))
    have e2 := cE2 (P20.text (x + y) ++ 47 :: P20.text (x + y + -y), 0) (turned_one (x + y) (-y) (by omega) (by omega) (by omega) (by omega) (by omega) _ (other_101 (-y) (by omega)))
    rw [show x + y + -y = x by omega] at e2
    have K1 : Hid (∀ W, Calls Tryd.prog 20 #[.string (str (P20.text x ++ 47 :: P20.text (x + y))), .string ⟨#[47]⟩] W fun e w' => e = .returned (.tuple #[.string (str (P20.text x)), .string (str (P20.text (x + y))), .bool true]) ∧ Q W w') := fun W => cut_slash _ _ W tb1 (by omega)
    have K2 : Hid (∀ W, Calls Tryd.prog 20 #[.string (str (P20.text (x + y) ++ 47 :: P20.text x)), .string ⟨#[47]⟩] W fun e w' => e = .returned (.tuple #[.string (str (P20.text (x + y))), .string (str (P20.text x)), .bool true]) ∧ Q W w') := fun W => cut_slash _ _ W tb2 (by omega)
    have b0 : (y == 0) = false := by rw [beq_eq_false_iff_ne]; exact hy0
    have E1 := Lib.hid e1
    have E2 := Lib.hid e2
    clear cE1 cE2 e1 e2 tb1 tb2 tl1 tl2 hy0
    generalize str (P20.text x ++ 47 :: P20.text (x + y)) = S1 at E1 K1
    generalize str (P20.text (x + y) ++ 47 :: P20.text x) = S2 at E2 K2
    generalize str (P20.text x) = T1 at K1 K2
    generalize str (P20.text (x + y)) = T2 at K1 K2
    go_enter Tryd.func9, Tryd.ntmps9
    have hN1 : IntsIn (w.alloc (.cells #[.int .i64 0, .int .i64 y, .int .i64 0] 2)) w.heap.size [0, y, 0] := ints_of (Blk.new w 2 #[.int .i64 0, .int .i64 y, .int .i64 0]) rfl
    have hbn1 := (Below.refl w.heap.size w).alloc (Nat.le_refl _) (.cells #[.int .i64 0, .int .i64 y, .int .i64 0] 2)
    have CS := Lib.hid (cS1.out _ _ hN1)
    clear hN1
    go_wp2_with fail
    refine CS.out.mono ?_
    rintro e v1 ⟨A1, c1, rfl, hrl1, hc1⟩
    have hb1 := hbn1.trans (hc1.mono hbn1.size)
    have CE := Lib.hid (E1.out A1 c1 _ hrl1)
    clear hbn1 hc1 CS hrl1
    go_wp2_with fail
    refine CE.out.mono ?_
    rintro e u1 ⟨rfl, hd1⟩
    have hf1 := hb1.trans (hd1.mono hb1.size)
    clear hb1 hd1 CE
    have hN2 : IntsIn (u1.alloc (.cells #[.int .i64 (-y), .int .i64 0, .int .i64 (-y)] 2)) u1.heap.size [-y, 0, -y] := ints_of (Blk.new u1 2 #[.int .i64 (-y), .int .i64 0, .int .i64 (-y)]) rfl
    have hbn2 := hf1.alloc hf1.size (.cells #[.int .i64 (-y), .int .i64 0, .int .i64 (-y)] 2)
    have CS := Lib.hid (cS2.out _ _ hN2)
    clear hN2
    go_wp2_with fail
    refine CS.out.mono ?_
    rintro e v2 ⟨A2, c2, rfl, hrl2, hc2⟩
    have hb2 := hbn2.trans (hc2.mono hbn2.size)
    have CE := Lib.hid (E2.out A2 c2 _ hrl2)
    clear hbn2 hc2 CS hrl2
    go_wp2_with fail
    refine CE.out.mono ?_
    rintro e u2 ⟨rfl, hd2⟩
    have hf2 := hb2.trans (hd2.mono hb2.size)
    clear hb2 hd2 CE
    have hvz := hv.below hf2
    go_wp2_with fail
    refine (K1.out _).mono ?_
    rintro e w' ⟨rfl, mK1, rfl⟩
    go_wp2_with fail
    refine (K2.out _).mono ?_
    rintro e w' ⟨rfl, mK2, rfl⟩
    have hbz := below_drewN (below_drewN hf2 mK1) mK2
    rw [World.drewN_drewN] at hbz
    have hvy := hv.below hbz
    go_wp2_with fail
    refine (works20_any _ hvy).mono ?_
    rintro e z ⟨rfl, hz⟩
    have hbf := hbz.trans (hz.mono hbz.size)
    go_wp2_with fail
    go_ret
    exact ⟨rfl, hbf⟩
end Go.Proofs.YtmgmgdjddimgmaaDoor
