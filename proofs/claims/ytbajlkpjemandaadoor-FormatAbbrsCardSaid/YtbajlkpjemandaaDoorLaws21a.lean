/- The walk of the law FormatAbbrs (chapter 21). -/
import Derived.Test.YtbajlkpjemandaaDoorWork21
import Derived.Test.YtbajlkpjemandaaDoorFmt21g
import Derived.OpenShut
import Derived.IntWalk
namespace Go.Proofs.YtbajlkpjemandaaDoor
open Go.RowKit Go.Lib
set_option linter.unusedVariables false

set_option maxRecDepth 100000 in
set_option maxHeartbeats 4000000 in
theorem walkFormatAbbrs (f : ByteArray) (off save : Int) (lt : ByteArray) (w : World) (hf : f.size ≤ maxLen) (ho : (Lit.int .i64 off).wf = true) (hsv : (Lit.int .i64 save).wf = true) (hlt : lt.size ≤ maxLen) (hv : Vars21 w) :
    Calls Tryd.prog 4 #[.string f, .int .i64 off, .agg #[.int .i64 save, .string lt]] w fun e w' => e = .returned (.bool true) ∧ Below w.heap.size w w' := by
  unfold maxLen at hf hlt
  have ho2 := bounds_i64 ho
  have hs2 := bounds_i64 hsv
  clear ho hsv
  have hfi : (f.size : Int) ≤ 9223372036854775807 := by omega
  have hli : (lt.size : Int) ≤ 9223372036854775807 := by omega
  by_cases h1 : 200 < f.size
  · have h1i : (200 : Int) < (f.size : Int) := by omega
    go_enter Tryd.func4, Tryd.ntmps4
    have hb1 := (Below.refl w.heap.size w).alloc (Nat.le_refl _) (.cells #[.int .i64 save, .string lt] 42)
    have hB2 := Blk.new w 42 #[.int .i64 save, .string lt]
    have k3 := (hB2.cell 1).trans rfl
    clear hB2
    have hv4 := hv.below hb1
    go_wp2_with fail
    refine (works21_any _ hv4).mono ?_
    clear k3
    clear hv4
    rintro e w1 ⟨rfl, hc5⟩
    have hb6 := hb1.trans (hc5.mono hb1.size)
    clear hb1 hc5
    go_wp2_with fail
    go_ret
    exact ⟨rfl, hb6⟩
  · have h1i : ¬ (200 : Int) < (f.size : Int) := by omega
    by_cases h2 : 50 < lt.size
    · have h2i : (50 : Int) < (lt.size : Int) := by omega
      go_enter Tryd.func4, Tryd.ntmps4
      have hb1 := (Below.refl w.heap.size w).alloc (Nat.le_refl _) (.cells #[.int .i64 save, .string lt] 42)
      have hB2 := Blk.new w 42 #[.int .i64 save, .string lt]
      have k3 := (hB2.cell 1).trans rfl
      clear hB2
      have hv4 := hv.below hb1
      go_wp2_with fail
      refine (works21_any _ hv4).mono ?_
      clear k3
      clear hv4
      rintro e w1 ⟨rfl, hc5⟩
      have hb6 := hb1.trans (hc5.mono hb1.size)
      clear hb1 hc5
      go_wp2_with fail
      go_ret
      exact ⟨rfl, hb6⟩
    · have h2i : ¬ (50 : Int) < (lt.size : Int) := by omega
      have cP1 : Hid (∀ W, Vars21 W → Calls Tryd.prog 24 #[.string f] W fun e w' => e = .returned (.tuple #[.string (str (P21.parts (P4.bl f)).1), .string (str (P21.parts (P4.bl f)).2.1), .bool (P21.parts (P4.bl f)).2.2]) ∧ Below W.heap.size W w') := fun W h => parts_any f W (by omega) h
      have cP2 : Hid (∀ W, Calls Tryd.prog 25 #[.string f] W fun e w' => e = .returned (.tuple #[.string (str (P21.parts (P4.bl f)).1), .string (str (P21.parts (P4.bl f)).2.1), .bool (P21.parts (P4.bl f)).2.2]) ∧ Below W.heap.size W w') := fun W => rparts_any f W (by omega)
      have cA1 : Hid (∀ W, Vars21 W → Calls Tryd.prog 18 #[.string f, .int .i64 off, .agg #[.int .i64 save, .string lt]] W fun e w' => e = .returned (.tuple #[.string (str (P21.abbrv (P4.bl f) off save (P4.bl lt)).1), .int .i64 (P21.abbrv (P4.bl f) off save (P4.bl lt)).2]) ∧ Below W.heap.size W w') := fun W h => fabbr_any f off save lt W (by omega) (by omega) ho2 hs2 h
      have cA2 : Hid (∀ W, Calls Tryd.prog 26 #[.string f, .int .i64 off, .agg #[.int .i64 save, .string lt]] W fun e w' => e = .returned (.tuple #[.string (str (P21.abbrv (P4.bl f) off save (P4.bl lt)).1), .int .i64 (P21.abbrv (P4.bl f) off save (P4.bl lt)).2]) ∧ Below W.heap.size W w') := fun W => rfabbr_any f off save lt W (by omega) (by omega) ho2 hs2
      have cK1 : Hid (∀ W, Vars21 W → Calls Tryd.prog 19 #[.string f] W fun e w' => e = .returned (.int .i64 (P21.kind (P4.bl f))) ∧ Below W.heap.size W w') := fun W h => kind_any f W (by omega) h
      have cK2 : Hid (∀ W, Calls Tryd.prog 27 #[.string f] W fun e w' => e = .returned (.int .i64 (P21.kind (P4.bl f))) ∧ Below W.heap.size W w') := fun W => rkind_any f W (by omega)
      generalize P21.abbrv (P4.bl f) off save (P4.bl lt) = R at cA1 cA2
      generalize P21.parts (P4.bl f) = S at cP1 cP2
      generalize P21.kind (P4.bl f) = K at cK1 cK2
      obtain ⟨Sa, Sb, Sc⟩ := S
      obtain ⟨Ra, Rb⟩ := R
      simp only at cA1 cA2 cP1 cP2
      generalize str Sa = SA at cP1 cP2
      generalize str Sb = SB at cP1 cP2
      generalize str Ra = RA at cA1 cA2
      go_enter Tryd.func4, Tryd.ntmps4
      have hb1 := (Below.refl w.heap.size w).alloc (Nat.le_refl _) (.cells #[.int .i64 save, .string lt] 42)
      have hB2 := Blk.new w 42 #[.int .i64 save, .string lt]
      have k3 := (hB2.cell 1).trans rfl
      have hv4 := hv.below hb1
      go_wp2_with fail
      refine (cP1.out _ hv4).mono ?_
      clear k3
      clear hv4
      rintro e w1 ⟨rfl, hc5⟩
      have hB6 := hB2.below hc5 hB2.lt
      clear hB2
      have hb7 := hb1.trans (hc5.mono hb1.size)
      clear hb1 hc5
      go_wp2_with fail
      refine (cP2.out _).mono ?_
      rintro e w2 ⟨rfl, hc8⟩
      have hB9 := hB6.below hc8 hB6.lt
      clear hB6
      have hb10 := hb7.trans (hc8.mono hb7.size)
      clear hb7 hc8
      have k11 := (hB9.cell 0).trans rfl
      have k12 := (hB9.cell 1).trans rfl
      have hv13 := hv.below hb10
      go_wp2_with fail
      refine (cA1.out _ hv13).mono ?_
      clear k11 k12
      clear hv13
      rintro e w3 ⟨rfl, hc14⟩
      have hB15 := hB9.below hc14 hB9.lt
      clear hB9
      have hb16 := hb10.trans (hc14.mono hb10.size)
      clear hb10 hc14
      have k17 := (hB15.cell 0).trans rfl
      have k18 := (hB15.cell 1).trans rfl
      clear hB15
      go_wp2_with fail
      refine (cA2.out _).mono ?_
      clear k17 k18
      rintro e w4 ⟨rfl, hc19⟩
      have hb20 := hb16.trans (hc19.mono hb16.size)
      clear hb16 hc19
      have hv21 := hv.below hb20
      go_wp2_with fail
      refine (cK1.out _ hv21).mono ?_
      clear hv21
      rintro e w5 ⟨rfl, hc22⟩
      have hb23 := hb20.trans (hc22.mono hb20.size)
      clear hb20 hc22
      go_wp2_with fail
      refine (cK2.out _).mono ?_
      rintro e w6 ⟨rfl, hc24⟩
      have hb25 := hb23.trans (hc24.mono hb23.size)
      clear hb23 hc24
      have hv26 := hv.below hb25
      go_wp2_with fail
      refine (works21_any _ hv26).mono ?_
      clear hv26
      rintro e w7 ⟨rfl, hc27⟩
      have hb28 := hb25.trans (hc27.mono hb25.size)
      clear hb25 hc27
      go_wp2_with fail
      go_ret
      exact ⟨rfl, hb28⟩
end Go.Proofs.YtbajlkpjemandaaDoor
