/- The law OffsetFields (chapter 4): the walk at an hour, a minute, a second. -/
import Derived.Test.YtgaacbmihcbedaaDoorLaws4f
namespace Go.Proofs.YtgaacbmihcbedaaDoor
open Go.RowKit
set_option linter.unusedVariables false

theorem str_take (l : List UInt8) (i : Nat) : (str l).extract 0 i = str (l.take i) := by
  apply ByteArray.ext
  simp [str, ByteArray.data_extract]
theorem fields_at (a b c : Int) (minus : Bool) (w : World) (ha : (Lit.int .u8 a).wf = true) (hb : (Lit.int .u8 b).wf = true) (hc : (Lit.int .u8 c).wf = true) (hv : Vars w) (H M S : Nat) (hH : a % 168 = (H : Int)) (hM : b % 60 = (M : Int)) (hS : c % 60 = (S : Int)) :
    Calls Tryd.prog 9 #[.int .u8 a, .int .u8 b, .int .u8 c, .bool minus] w fun e w' => e = .returned (.bool true) ∧ Below w.heap.size w w' := by
  have ha2 := bounds_u8 ha
  have hb2 := bounds_u8 hb
  have hc2 := bounds_u8 hc
  have hh : H < 168 := by omega
  have hm : M < 60 := by omega
  have hs : S < 60 := by omega
  obtain ⟨X, hX⟩ : ∃ X : Nat, 3600 * H + 60 * M + S = X := ⟨_, rfl⟩
  have hX2 : X ≤ 604799 := by omega
  have hwi := P4.whole_is H M S hh hm hs
  have hwc := P4.whole_colon H M S hh hm hs
  have f3 := P4.form3_ok H M S hh hm hs
  have f2 := P4.form2_ok H M S hh hm hs
  have f1 := P4.form1_ok H M S hh hm hs
  rw [hX] at hwi hwc f3 f2 f1
  have hDl : (str (Lib.decDigits H)).size ≤ 3 := (P4.dec_Dig H (by omega)).2.2.1
  have hl20 := show_len X hX2
  refine fields_walk a b c minus H M S X (Lib.decDigits H) (P4.showN X) (P4.bl ((str (P4.showN X)).extract ((Lib.decDigits H).length + 1) (str (P4.showN X)).size)) w ha2.1 ha2.2 hb2.1 hb2.2 hc2.1 hc2.2 hH hM hS (by omega) hv (by omega) (by omega) (by omega) hDl hl20 hwi
    ?_ ?_ ?_ ?_ f3 f2 f1 (Nat.le_refl 2) (Nat.le_refl 2) ?_ ?_ (fun W => ftwo_any M W hm) (fun W => ftwo_any S W hs)
  · rw [show ByteArray.mk #[58] = str [58] from rfl, str_append, str_append, List.append_assoc]; rfl
  · rw [show ByteArray.mk #[58] = str [58] from rfl, str_append, str_append, List.append_assoc]; rfl
  · have := (P4.dec_Dig H (by omega)).2.2.1
    rw [str_size]
    simp only [P4.form2, P4.two, List.length_append, List.length_cons, List.length_nil]
    omega
  · exact f3.2.2
  · intro W h
    have q := print_any (X : Int) W (by omega) (by omega) h
    rw [P4.print_nat X hX2] at q
    exact q
  · intro W
    have q := cut_any (str (P4.showN X)) (Lib.decDigits H).length W hwc.1 hwc.2.2 (Nat.le_trans hl20 (by decide))
    rw [str_take, hwc.2.1] at q
    exact q
theorem walkOffsetFields (a b c : Int) (minus : Bool) (w : World) (ha : (Lit.int .u8 a).wf = true) (hb : (Lit.int .u8 b).wf = true) (hc : (Lit.int .u8 c).wf = true) (hv : Vars w) :
    Calls Tryd.prog 9 #[.int .u8 a, .int .u8 b, .int .u8 c, .bool minus] w fun e w' => e = .returned (.bool true) ∧ Below w.heap.size w w' := by
  have ha2 := bounds_u8 ha
  have hb2 := bounds_u8 hb
  have hc2 := bounds_u8 hc
  exact fields_at a b c minus w ha hb hc hv (a % 168).toNat (b % 60).toNat (c % 60).toNat (by omega) (by omega) (by omega)
end Go.Proofs.YtgaacbmihcbedaaDoor
