/- The walks of numeric.Text at every offset, numeric.Parse, and of the reference's Text and Parse (chapter 20). -/
import Derived.Test.YtbajlkpjemandaaDoorNum20a
import Derived.Test.YtbajlkpjemandaaDoorPlain20d
import Derived.Test.YtbajlkpjemandaaDoorDec4
import Derived.Test.YtbajlkpjemandaaDoorShelf
import Derived.Deep.CutBlock
import Derived.Lib.AtoiErrMem
namespace Go.Proofs.YtbajlkpjemandaaDoor
open Go.RowKit
set_option linter.unusedVariables false

theorem gSyn : Tryd.prog.globalNamed "strconv.ErrSyntax" = some 4 := by kernel_rfl
theorem var_below {P : Program} {B g : Nat} {W W' : World} {n : String} {cs : Array Value} (h : Below B W W') (hg : P.globalNamed n = some g) (hgB : g < B) (hv : W.var? P n = some cs) : W'.var? P n = some cs := by
  unfold World.var? at hv ⊢
  simp only [hg, Option.bind_some] at hv ⊢
  rw [h.block g hgB]
  exact hv
/-- the one variable that chapter 20 reads: the error of a number that is none -/
structure Vars (w : World) : Prop where
  syn : ∃ tp p, w.var? Tryd.prog "strconv.ErrSyntax" = some #[.iface tp p]
  big : 4 < w.heap.size
theorem Vars.below {w w' : World} (h : Vars w) (hb : Below w.heap.size w w') : Vars w' := by
  obtain ⟨tp, p, hs⟩ := h.syn
  exact ⟨⟨tp, p, var_below hb gSyn h.big hs⟩, Nat.lt_of_lt_of_le h.big hb.size⟩

set_option maxRecDepth 100000 in
set_option maxHeartbeats 400000 in
theorem ntext_any (x : Int) (w : World) (h0 : -9223372036854775808 ≤ x) (h1 : x ≤ 9223372036854775807) :
    Calls Tryd.prog 44 #[.int .i64 x] w fun e w' => e = .returned (.string (str (P20.text x))) ∧ Below w.heap.size w w' := by
  by_cases hr : x ≤ -86400 ∨ 86400 ≤ x
  · rw [P20.text_out hr]
    rcases hr with h | h
    · go_enter Tryd.func44, Tryd.ntmps44
      go_wp2_with fail
      go_step3
      go_wp2_with fail
      try rw [Exit.noGoto_ret]
      go_ret
      exact ⟨rfl, Below.refl _ _⟩
    · have h' : ¬ x ≤ -86400 := by omega
      go_enter Tryd.func44, Tryd.ntmps44
      go_wp2_with fail
      go_step3
      go_wp2_with fail
      try rw [Exit.noGoto_ret]
      go_ret
      exact ⟨rfl, Below.refl _ _⟩
  · rw [P20.text_in (by omega) (by omega)]
    by_cases hn : x < 0
    · rw [if_pos hn]; exact ntext_in 45 x x.natAbs w (by omega) (.inr ⟨hn, by omega, rfl⟩)
    · rw [if_neg hn]; exact ntext_in 43 x x.natAbs w (by omega) (.inl ⟨by omega, rfl⟩)

theorem text_two (n : Nat) : str (P20.textN n) = str (P4.two (n / 3600)) ++ str (if n % 3600 = 0 then [] else P4.two (n / 60 % 60)) ++ str (if n % 60 = 0 then [] else P4.two (n % 60)) := by
  unfold P20.textN; rw [str_append, str_append]
set_option maxRecDepth 100000 in
set_option maxHeartbeats 2000000 in
theorem rtext_in (sg : UInt8) (x : Int) (n : Nat) (w : World) (hn : n ≤ 86399) (hx : (x = n ∧ sg = 43) ∨ (x < 0 ∧ x = -(n : Int) ∧ sg = 45)) :
    Calls Tryd.prog 67 #[.int .i64 x] w fun e w' => e = .returned (.string (str (sg :: P20.textN n))) ∧ Q w w' := by
  have hni : (n : Int) ≤ 86399 := by omega
  have c1 : Hid (∀ W, Calls Tryd.prog 95 #[.int .i64 ((n : Int) / 3600)] W fun e w' => e = .returned (.string (str (P4.two (n / 3600)))) ∧ Q W w') := fun W => rtwo_any (n / 3600) W (by omega)
  have c2 : Hid (∀ W, Calls Tryd.prog 95 #[.int .i64 ((n : Int) / 60 % 60)] W fun e w' => e = .returned (.string (str (P4.two (n / 60 % 60)))) ∧ Q W w') := fun W => rtwo_any (n / 60 % 60) W (by omega)
  have c3 : Hid (∀ W, Calls Tryd.prog 95 #[.int .i64 ((n : Int) % 60)] W fun e w' => e = .returned (.string (str (P4.two (n % 60)))) ∧ Q W w') := fun W => rtwo_any (n % 60) W (by omega)
  have hE : str (sg :: P20.textN n) = str [sg] ++ str (P4.two (n / 3600)) ++ str (if n % 3600 = 0 then [] else P4.two (n / 60 % 60)) ++ str (if n % 60 = 0 then [] else P4.two (n % 60)) := by
    rw [show sg :: P20.textN n = [sg] ++ P20.textN n from rfl, ← str_append, text_two]
    simp only [str_append, List.append_assoc]
  have l1 : (str (P4.two (n / 3600))).size ≤ 2 := Nat.le_refl 2
  have l2 : (str (P4.two (n / 60 % 60))).size ≤ 2 := Nat.le_refl 2
  have l3 : (str (P4.two (n % 60))).size ≤ 2 := Nat.le_refl 2
  by_cases z1 : n % 3600 = 0
  · have z2 : n % 60 = 0 := by omega
    rw [if_pos z1, if_pos z2, show str [] = ByteArray.empty from rfl, ByteArray.append_empty, ByteArray.append_empty] at hE
    have b1 : ((n : Int) % 3600 != 0) = false := by rw [bne_eq_false_iff_eq]; omega
    have b2 : ((n : Int) % 60 != 0) = false := by rw [bne_eq_false_iff_eq]; omega
    have HE := Lib.hid hE
    clear hE z1 z2
    rcases hx with ⟨rfl, rfl⟩ | ⟨hneg, rfl, rfl⟩
    · go_enter Tryd.func67, Tryd.ntmps67
      go_wp2_with fail
      refine (c1.out _).mono ?_
      rintro e w' ⟨rfl, mc1, rfl⟩
      go_wp2_with fail
      go_ret
      exact ⟨by rw [HE.out]; rfl, _, rfl⟩
    · go_enter Tryd.func67, Tryd.ntmps67
      go_wp2_with fail
      refine (c1.out _).mono ?_
      rintro e w' ⟨rfl, mc1, rfl⟩
      go_wp2_with fail
      go_ret
      exact ⟨by rw [HE.out]; rfl, _, rfl⟩
  · have b1 : ((n : Int) % 3600 != 0) = true := by rw [bne_iff_ne]; omega
    by_cases z2 : n % 60 = 0
    · rw [if_neg z1, if_pos z2, show str [] = ByteArray.empty from rfl, ByteArray.append_empty] at hE
      have b2 : ((n : Int) % 60 != 0) = false := by rw [bne_eq_false_iff_eq]; omega
      have HE := Lib.hid hE
      clear hE z1 z2
      rcases hx with ⟨rfl, rfl⟩ | ⟨hneg, rfl, rfl⟩
      · go_enter Tryd.func67, Tryd.ntmps67
        go_wp2_with fail
        refine (c1.out _).mono ?_
        rintro e w' ⟨rfl, mc1, rfl⟩
        go_wp2_with fail
        refine (c2.out _).mono ?_
        rintro e w' ⟨rfl, mc2, rfl⟩
        go_wp2_with fail
        go_ret
        exact ⟨by rw [HE.out]; rfl, _, rfl⟩
      · go_enter Tryd.func67, Tryd.ntmps67
        go_wp2_with fail
        refine (c1.out _).mono ?_
        rintro e w' ⟨rfl, mc1, rfl⟩
        go_wp2_with fail
        refine (c2.out _).mono ?_
        rintro e w' ⟨rfl, mc2, rfl⟩
        go_wp2_with fail
        go_ret
        exact ⟨by rw [HE.out]; rfl, _, rfl⟩
    · rw [if_neg z1, if_neg z2] at hE
      have b2 : ((n : Int) % 60 != 0) = true := by rw [bne_iff_ne]; omega
      have HE := Lib.hid hE
      clear hE z1 z2
      rcases hx with ⟨rfl, rfl⟩ | ⟨hneg, rfl, rfl⟩
      · go_enter Tryd.func67, Tryd.ntmps67
        go_wp2_with fail
        refine (c1.out _).mono ?_
        rintro e w' ⟨rfl, mc1, rfl⟩
        go_wp2_with fail
        refine (c2.out _).mono ?_
        rintro e w' ⟨rfl, mc2, rfl⟩
        go_wp2_with fail
        refine (c3.out _).mono ?_
        rintro e w' ⟨rfl, mc3, rfl⟩
        go_wp2_with fail
        go_ret
        exact ⟨by rw [HE.out]; rfl, _, rfl⟩
      · go_enter Tryd.func67, Tryd.ntmps67
        go_wp2_with fail
        refine (c1.out _).mono ?_
        rintro e w' ⟨rfl, mc1, rfl⟩
        go_wp2_with fail
        refine (c2.out _).mono ?_
        rintro e w' ⟨rfl, mc2, rfl⟩
        go_wp2_with fail
        refine (c3.out _).mono ?_
        rintro e w' ⟨rfl, mc3, rfl⟩
        go_wp2_with fail
        go_ret
        exact ⟨by rw [HE.out]; rfl, _, rfl⟩
set_option maxHeartbeats 400000 in
theorem rtext_any (x : Int) (w : World) (h0 : -9223372036854775808 ≤ x) (h1 : x ≤ 9223372036854775807) :
    Calls Tryd.prog 67 #[.int .i64 x] w fun e w' => e = .returned (.string (str (P20.text x))) ∧ Q w w' := by
  by_cases hr : x ≤ -86400 ∨ 86400 ≤ x
  · rw [P20.text_out hr]
    rcases hr with h | h
    · have h' : x < -86399 := by omega
      go_enter Tryd.func67, Tryd.ntmps67
      go_wp2_with fail
      go_ret
      exact ⟨rfl, Q.refl _⟩
    · have h' : ¬ x < -86399 := by omega
      have h2 : 86399 < x := by omega
      go_enter Tryd.func67, Tryd.ntmps67
      go_wp2_with fail
      go_ret
      exact ⟨rfl, Q.refl _⟩
  · rw [P20.text_in (by omega) (by omega)]
    by_cases hn : x < 0
    · rw [if_pos hn]; exact rtext_in 45 x x.natAbs w (by omega) (.inr ⟨hn, by omega, rfl⟩)
    · rw [if_neg hn]; exact rtext_in 43 x x.natAbs w (by omega) (.inl ⟨by omega, rfl⟩)
end Go.Proofs.YtbajlkpjemandaaDoor
