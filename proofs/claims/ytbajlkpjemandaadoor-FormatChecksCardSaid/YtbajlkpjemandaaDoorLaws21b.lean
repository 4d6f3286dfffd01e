/- The walk of the law FormatChecks (chapter 21). -/
import Derived.Test.YtbajlkpjemandaaDoorWork21
import Derived.Test.YtbajlkpjemandaaDoorFmt21i
import Derived.Test.YtbajlkpjemandaaDoorLib21
import Derived.OpenShut
import Derived.IntWalk
namespace Go.Proofs.YtbajlkpjemandaaDoor
open Go.RowKit Go.Lib
set_option linter.unusedVariables false

theorem keepC {w W W' : World} {B : Nat} {A A' : Option Addr} {L : List RV} {off kd save : Int} {set fmt : ByteArray} {ui : Bool} {uy um dk dw dd asec ab : Int} (hb : Below W.heap.size W W') (h : (W.cell? ⟨B, 0, none⟩ = some (.int .i64 off) ∧ W.cell? ⟨B, 1, none⟩ = some (.int .i64 kd) ∧ W.cell? ⟨B, 2, none⟩ = some (.int .i64 save) ∧ W.cell? ⟨B, 3, none⟩ = some (.string set) ∧ W.cell? ⟨B, 4, none⟩ = some (.string fmt) ∧ W.cell? ⟨B, 5, none⟩ = some (.bool ui) ∧ W.cell? ⟨B, 6, none⟩ = some (.int .i64 uy) ∧ W.cell? ⟨B, 7, none⟩ = some (.int .i64 um) ∧ W.cell? ⟨B, 8, none⟩ = some (.int .i64 dk) ∧ W.cell? ⟨B, 9, none⟩ = some (.int .i64 dw) ∧ W.cell? ⟨B, 10, none⟩ = some (.int .i64 dd) ∧ W.cell? ⟨B, 11, none⟩ = some (.int .i64 asec) ∧ W.cell? ⟨B, 12, none⟩ = some (.int .i64 ab)) ∧ B < W.heap.size ∧ RulesIn W A L ∧ RulesIn W A' L ∧ Below w.heap.size w W) : (W'.cell? ⟨B, 0, none⟩ = some (.int .i64 off) ∧ W'.cell? ⟨B, 1, none⟩ = some (.int .i64 kd) ∧ W'.cell? ⟨B, 2, none⟩ = some (.int .i64 save) ∧ W'.cell? ⟨B, 3, none⟩ = some (.string set) ∧ W'.cell? ⟨B, 4, none⟩ = some (.string fmt) ∧ W'.cell? ⟨B, 5, none⟩ = some (.bool ui) ∧ W'.cell? ⟨B, 6, none⟩ = some (.int .i64 uy) ∧ W'.cell? ⟨B, 7, none⟩ = some (.int .i64 um) ∧ W'.cell? ⟨B, 8, none⟩ = some (.int .i64 dk) ∧ W'.cell? ⟨B, 9, none⟩ = some (.int .i64 dw) ∧ W'.cell? ⟨B, 10, none⟩ = some (.int .i64 dd) ∧ W'.cell? ⟨B, 11, none⟩ = some (.int .i64 asec) ∧ W'.cell? ⟨B, 12, none⟩ = some (.int .i64 ab)) ∧ B < W'.heap.size ∧ RulesIn W' A L ∧ RulesIn W' A' L ∧ Below w.heap.size w W' :=
  ⟨⟨(hb.cell (p := ⟨B, 0, none⟩) h.2.1).trans h.1.1, (hb.cell (p := ⟨B, 1, none⟩) h.2.1).trans h.1.2.1, (hb.cell (p := ⟨B, 2, none⟩) h.2.1).trans h.1.2.2.1, (hb.cell (p := ⟨B, 3, none⟩) h.2.1).trans h.1.2.2.2.1, (hb.cell (p := ⟨B, 4, none⟩) h.2.1).trans h.1.2.2.2.2.1, (hb.cell (p := ⟨B, 5, none⟩) h.2.1).trans h.1.2.2.2.2.2.1, (hb.cell (p := ⟨B, 6, none⟩) h.2.1).trans h.1.2.2.2.2.2.2.1, (hb.cell (p := ⟨B, 7, none⟩) h.2.1).trans h.1.2.2.2.2.2.2.2.1, (hb.cell (p := ⟨B, 8, none⟩) h.2.1).trans h.1.2.2.2.2.2.2.2.2.1, (hb.cell (p := ⟨B, 9, none⟩) h.2.1).trans h.1.2.2.2.2.2.2.2.2.2.1, (hb.cell (p := ⟨B, 10, none⟩) h.2.1).trans h.1.2.2.2.2.2.2.2.2.2.2.1, (hb.cell (p := ⟨B, 11, none⟩) h.2.1).trans h.1.2.2.2.2.2.2.2.2.2.2.2.1, (hb.cell (p := ⟨B, 12, none⟩) h.2.1).trans h.1.2.2.2.2.2.2.2.2.2.2.2.2⟩, Nat.lt_of_lt_of_le h.2.1 hb.size, h.2.2.1.below hb, h.2.2.2.1.below hb, h.2.2.2.2.trans (hb.mono h.2.2.2.2.size)⟩
theorem belC {w W : World} {B : Nat} {A A' : Option Addr} {L : List RV} {off kd save : Int} {set fmt : ByteArray} {ui : Bool} {uy um dk dw dd asec ab : Int} (h : (W.cell? ⟨B, 0, none⟩ = some (.int .i64 off) ∧ W.cell? ⟨B, 1, none⟩ = some (.int .i64 kd) ∧ W.cell? ⟨B, 2, none⟩ = some (.int .i64 save) ∧ W.cell? ⟨B, 3, none⟩ = some (.string set) ∧ W.cell? ⟨B, 4, none⟩ = some (.string fmt) ∧ W.cell? ⟨B, 5, none⟩ = some (.bool ui) ∧ W.cell? ⟨B, 6, none⟩ = some (.int .i64 uy) ∧ W.cell? ⟨B, 7, none⟩ = some (.int .i64 um) ∧ W.cell? ⟨B, 8, none⟩ = some (.int .i64 dk) ∧ W.cell? ⟨B, 9, none⟩ = some (.int .i64 dw) ∧ W.cell? ⟨B, 10, none⟩ = some (.int .i64 dd) ∧ W.cell? ⟨B, 11, none⟩ = some (.int .i64 asec) ∧ W.cell? ⟨B, 12, none⟩ = some (.int .i64 ab)) ∧ B < W.heap.size ∧ RulesIn W A L ∧ RulesIn W A' L ∧ Below w.heap.size w W) : Below w.heap.size w W := h.2.2.2.2
theorem varC {w W : World} {B : Nat} {A A' : Option Addr} {L : List RV} {off kd save : Int} {set fmt : ByteArray} {ui : Bool} {uy um dk dw dd asec ab : Int} (hv : Vars21 w) (h : (W.cell? ⟨B, 0, none⟩ = some (.int .i64 off) ∧ W.cell? ⟨B, 1, none⟩ = some (.int .i64 kd) ∧ W.cell? ⟨B, 2, none⟩ = some (.int .i64 save) ∧ W.cell? ⟨B, 3, none⟩ = some (.string set) ∧ W.cell? ⟨B, 4, none⟩ = some (.string fmt) ∧ W.cell? ⟨B, 5, none⟩ = some (.bool ui) ∧ W.cell? ⟨B, 6, none⟩ = some (.int .i64 uy) ∧ W.cell? ⟨B, 7, none⟩ = some (.int .i64 um) ∧ W.cell? ⟨B, 8, none⟩ = some (.int .i64 dk) ∧ W.cell? ⟨B, 9, none⟩ = some (.int .i64 dw) ∧ W.cell? ⟨B, 10, none⟩ = some (.int .i64 dd) ∧ W.cell? ⟨B, 11, none⟩ = some (.int .i64 asec) ∧ W.cell? ⟨B, 12, none⟩ = some (.int .i64 ab)) ∧ B < W.heap.size ∧ RulesIn W A L ∧ RulesIn W A' L ∧ Below w.heap.size w W) : Vars21 W := hv.below h.2.2.2.2
theorem ruC {w W : World} {B : Nat} {A A' : Option Addr} {L : List RV} {off kd save : Int} {set fmt : ByteArray} {ui : Bool} {uy um dk dw dd asec ab : Int} (h : (W.cell? ⟨B, 0, none⟩ = some (.int .i64 off) ∧ W.cell? ⟨B, 1, none⟩ = some (.int .i64 kd) ∧ W.cell? ⟨B, 2, none⟩ = some (.int .i64 save) ∧ W.cell? ⟨B, 3, none⟩ = some (.string set) ∧ W.cell? ⟨B, 4, none⟩ = some (.string fmt) ∧ W.cell? ⟨B, 5, none⟩ = some (.bool ui) ∧ W.cell? ⟨B, 6, none⟩ = some (.int .i64 uy) ∧ W.cell? ⟨B, 7, none⟩ = some (.int .i64 um) ∧ W.cell? ⟨B, 8, none⟩ = some (.int .i64 dk) ∧ W.cell? ⟨B, 9, none⟩ = some (.int .i64 dw) ∧ W.cell? ⟨B, 10, none⟩ = some (.int .i64 dd) ∧ W.cell? ⟨B, 11, none⟩ = some (.int .i64 asec) ∧ W.cell? ⟨B, 12, none⟩ = some (.int .i64 ab)) ∧ B < W.heap.size ∧ RulesIn W A L ∧ RulesIn W A' L ∧ Below w.heap.size w W) : RulesIn W A L := h.2.2.1
theorem ruC' {w W : World} {B : Nat} {A A' : Option Addr} {L : List RV} {off kd save : Int} {set fmt : ByteArray} {ui : Bool} {uy um dk dw dd asec ab : Int} (h : (W.cell? ⟨B, 0, none⟩ = some (.int .i64 off) ∧ W.cell? ⟨B, 1, none⟩ = some (.int .i64 kd) ∧ W.cell? ⟨B, 2, none⟩ = some (.int .i64 save) ∧ W.cell? ⟨B, 3, none⟩ = some (.string set) ∧ W.cell? ⟨B, 4, none⟩ = some (.string fmt) ∧ W.cell? ⟨B, 5, none⟩ = some (.bool ui) ∧ W.cell? ⟨B, 6, none⟩ = some (.int .i64 uy) ∧ W.cell? ⟨B, 7, none⟩ = some (.int .i64 um) ∧ W.cell? ⟨B, 8, none⟩ = some (.int .i64 dk) ∧ W.cell? ⟨B, 9, none⟩ = some (.int .i64 dw) ∧ W.cell? ⟨B, 10, none⟩ = some (.int .i64 dd) ∧ W.cell? ⟨B, 11, none⟩ = some (.int .i64 asec) ∧ W.cell? ⟨B, 12, none⟩ = some (.int .i64 ab)) ∧ B < W.heap.size ∧ RulesIn W A L ∧ RulesIn W A' L ∧ Below w.heap.size w W) : RulesIn W A' L := h.2.2.2.1
set_option maxRecDepth 100000 in
set_option maxHeartbeats 16000000 in
theorem walkFormatChecks (off kd save : Int) (set fmt : ByteArray) (ui : Bool) (uy um dk dw dd asec ab : Int) (A : Option Addr) (L : List RV) (c : Nat) (w : World) (o64 : -9223372036854775808 ≤ off ∧ off ≤ 9223372036854775807) (s64 : -9223372036854775808 ≤ save ∧ save ≤ 9223372036854775807) (hl : L.length ≤ maxLen) (hf : fmt.size ≤ maxLen) (hsv : SvOk L) (hR : RulesIn w A L) (hv : Vars21 w) :
    Calls Tryd.prog 8 #[.agg #[.int .i64 off, .int .i64 kd, .int .i64 save, .string set, .string fmt, .bool ui, .int .i64 uy, .int .i64 um, .int .i64 dk, .int .i64 dw, .int .i64 dd, .int .i64 asec, .int .i64 ab], .slice A L.length c] w fun e w' => e = .returned (.bool true) ∧ Below w.heap.size w w' := by
  unfold maxLen at hf hl
  have hfi : (fmt.size : Int) ≤ 9223372036854775807 := by omega
  have hli : (L.length : Int) ≤ 9223372036854775807 := by omega
  have hE := Blk.new w 33 #[.int .i64 off, .int .i64 kd, .int .i64 save, .string set, .string fmt, .bool ui, .int .i64 uy, .int .i64 um, .int .i64 dk, .int .i64 dw, .int .i64 dd, .int .i64 asec, .int .i64 ab]
  have hb0 := (Below.refl w.heap.size w).alloc (Nat.le_refl _) (.cells #[.int .i64 off, .int .i64 kd, .int .i64 save, .string set, .string fmt, .bool ui, .int .i64 uy, .int .i64 um, .int .i64 dk, .int .i64 dw, .int .i64 dd, .int .i64 asec, .int .i64 ab] 33)
  have hv0 := hv.below hb0
  by_cases h1 : 20 < L.length
  · have h1i : (20 : Int) < (L.length : Int) := by omega
    clear hE
    go_enter Tryd.func8, Tryd.ntmps8
    go_wp2_with fail
    refine (works21_any _ hv0).mono ?_
    rintro e w1 ⟨rfl, hc1⟩
    have hb1 := hb0.trans (hc1.mono hb0.size)
    clear hb0 hc1 hv0
    go_wp2_with fail
    go_ret
    exact ⟨rfl, hb1⟩
  · have h1i : ¬ (20 : Int) < (L.length : Int) := by omega
    by_cases h2 : 50 < fmt.size
    · have h2i : (50 : Int) < (fmt.size : Int) := by omega
      clear hE
      go_enter Tryd.func8, Tryd.ntmps8
      go_wp2_with fail
      refine (works21_any _ hv0).mono ?_
      rintro e w1 ⟨rfl, hc1⟩
      have hb1 := hb0.trans (hc1.mono hb0.size)
      clear hb0 hc1 hv0
      go_wp2_with fail
      go_ret
      exact ⟨rfl, hb1⟩
    · have h2i : ¬ (50 : Int) < (fmt.size : Int) := by omega
      have cL : Hid (∀ W, RulesIn W A L → Calls Tryd.prog 30 #[.slice A L.length c, .func (.func 31) #[] #[]] W fun e w' => e = .returned (.bool (L.any longB)) ∧ Below W.heap.size W w') := fun W h => contains_long A c L W (by omega) h
      cases hq : L.any longB with
      | true =>
        rw [hq] at cL
        have hR0 := hR.below hb0
        clear hE hv0
        go_enter Tryd.func8, Tryd.ntmps8
        go_wp2_with fail
        refine (cL.out _ hR0).mono ?_
        rintro e w1 ⟨rfl, hc1⟩
        have hb1 := hb0.trans (hc1.mono hb0.size)
        have hv1 := hv.below hb1
        clear hb0 hc1 hR0
        go_wp2_with fail
        refine (works21_any _ hv1).mono ?_
        rintro e w2 ⟨rfl, hc2⟩
        have hb2 := hb1.trans (hc2.mono hb1.size)
        clear hb1 hc2 hv1
        go_wp2_with fail
        go_ret
        exact ⟨rfl, hb2⟩
      | false =>
        rw [hq] at cL
        have hlt : ∀ r ∈ L, r.letter.size ≤ 500000 := fun r hr => by
          rw [List.any_eq_false] at hq
          have := hq r hr
          unfold longB at this
          simp only [decide_eq_true_eq] at this
          omega
        have cC : Hid (∀ W, RulesIn W A L → Calls Tryd.prog 32 #[.slice A L.length c] W fun e w' => ∃ A' c', e = .returned (.slice A' L.length c') ∧ RulesIn w' A' L ∧ Below W.heap.size W w') := fun W h => clone_rules A c L W (by omega) h
        have cK : Hid (∀ (A' : Option Addr) (c' : Nat) W, RulesIn W A' L → Vars21 W → Calls Tryd.prog 17 #[.agg #[.int .i64 off, .int .i64 kd, .int .i64 save, .string set, .string fmt, .bool ui, .int .i64 uy, .int .i64 um, .int .i64 dk, .int .i64 dw, .int .i64 dd, .int .i64 asec, .int .i64 ab], .slice A' L.length c'] W fun e w' => e = .returned (.int .i64 (P21.check (P4.bl fmt) off kd save (lets L) (svs L))) ∧ Below W.heap.size W w') := fun A' c' W h h' => fcheck_any off kd save set fmt ui uy um dk dw dd asec ab A' L c' W o64 s64 (by omega) hsv hlt (by omega) h h'
        have cR : Hid (∀ W, RulesIn W A L → Calls Tryd.prog 33 #[.agg #[.int .i64 off, .int .i64 kd, .int .i64 save, .string set, .string fmt, .bool ui, .int .i64 uy, .int .i64 um, .int .i64 dk, .int .i64 dw, .int .i64 dd, .int .i64 asec, .int .i64 ab], .slice A L.length c] W fun e w' => e = .returned (.int .i64 (P21.check (P4.bl fmt) off kd save (lets L) (svs L))) ∧ Below W.heap.size W w') := fun W h => rcheck_any off kd save set fmt ui uy um dk dw dd asec ab A L c W o64 s64 (by omega) hsv hlt (by omega) h
        have cQ : Hid (∀ (A' : Option Addr) (c' : Nat) W, RulesIn W A' L → RulesIn W A L → Calls Tryd.prog 34 #[.slice A' L.length c', .slice A L.length c] W fun e w' => e = .returned (.bool true) ∧ Below W.heap.size W w') := fun A' c' W h h' => (equal_same A' A c' c L W (by omega) h h').mono fun e w' q => ⟨q.1, q.2.below _⟩
        have HV := Lib.hid hv
        generalize P21.check (P4.bl fmt) off kd save (lets L) (svs L) = R at cK cR
        have hR0 := hR.below hb0
        clear hq hlt hv hv0 hsv
        go_enter Tryd.func8, Tryd.ntmps8
        go_wp2_with fail
        refine (cL.out _ hR0).mono ?_
        rintro e w1 ⟨rfl, hc1⟩
        have hE1 := hE.below hc1 hE.lt
        have hb1 := hb0.trans (hc1.mono hb0.size)
        have hR1 := hR.below hb1
        clear hE hb0 hc1 hR0 cL
        go_wp2_with fail
        refine (cC.out _ hR1).mono ?_
        rintro e w2 ⟨A', c', rfl, hR2', hc2⟩
        have hE2 := hE1.below hc2 hE1.lt
        have hb2 := hb1.trans (hc2.mono hb1.size)
        have HS := Lib.hid (show (w2.cell? ⟨w.heap.size, 0, none⟩ = some (.int .i64 off) ∧ w2.cell? ⟨w.heap.size, 1, none⟩ = some (.int .i64 kd) ∧ w2.cell? ⟨w.heap.size, 2, none⟩ = some (.int .i64 save) ∧ w2.cell? ⟨w.heap.size, 3, none⟩ = some (.string set) ∧ w2.cell? ⟨w.heap.size, 4, none⟩ = some (.string fmt) ∧ w2.cell? ⟨w.heap.size, 5, none⟩ = some (.bool ui) ∧ w2.cell? ⟨w.heap.size, 6, none⟩ = some (.int .i64 uy) ∧ w2.cell? ⟨w.heap.size, 7, none⟩ = some (.int .i64 um) ∧ w2.cell? ⟨w.heap.size, 8, none⟩ = some (.int .i64 dk) ∧ w2.cell? ⟨w.heap.size, 9, none⟩ = some (.int .i64 dw) ∧ w2.cell? ⟨w.heap.size, 10, none⟩ = some (.int .i64 dd) ∧ w2.cell? ⟨w.heap.size, 11, none⟩ = some (.int .i64 asec) ∧ w2.cell? ⟨w.heap.size, 12, none⟩ = some (.int .i64 ab)) ∧ w.heap.size < w2.heap.size ∧ RulesIn w2 A L ∧ RulesIn w2 A' L ∧ Below w.heap.size w w2 from ⟨⟨(hE2.cell 0).trans rfl, (hE2.cell 1).trans rfl, (hE2.cell 2).trans rfl, (hE2.cell 3).trans rfl, (hE2.cell 4).trans rfl, (hE2.cell 5).trans rfl, (hE2.cell 6).trans rfl, (hE2.cell 7).trans rfl, (hE2.cell 8).trans rfl, (hE2.cell 9).trans rfl, (hE2.cell 10).trans rfl, (hE2.cell 11).trans rfl, (hE2.cell 12).trans rfl⟩, hE2.lt, hR.below hb2, hR2', hb2⟩)
        clear hE1 hb1 hR1 cC hE2 hb2 hc2 hR2' hR
        go_wp2_with fail
        go_region_held3 (fun W => (W.cell? ⟨w.heap.size, 0, none⟩ = some (.int .i64 off) ∧ W.cell? ⟨w.heap.size, 1, none⟩ = some (.int .i64 kd) ∧ W.cell? ⟨w.heap.size, 2, none⟩ = some (.int .i64 save) ∧ W.cell? ⟨w.heap.size, 3, none⟩ = some (.string set) ∧ W.cell? ⟨w.heap.size, 4, none⟩ = some (.string fmt) ∧ W.cell? ⟨w.heap.size, 5, none⟩ = some (.bool ui) ∧ W.cell? ⟨w.heap.size, 6, none⟩ = some (.int .i64 uy) ∧ W.cell? ⟨w.heap.size, 7, none⟩ = some (.int .i64 um) ∧ W.cell? ⟨w.heap.size, 8, none⟩ = some (.int .i64 dk) ∧ W.cell? ⟨w.heap.size, 9, none⟩ = some (.int .i64 dw) ∧ W.cell? ⟨w.heap.size, 10, none⟩ = some (.int .i64 dd) ∧ W.cell? ⟨w.heap.size, 11, none⟩ = some (.int .i64 asec) ∧ W.cell? ⟨w.heap.size, 12, none⟩ = some (.int .i64 ab)) ∧ w.heap.size < W.heap.size ∧ RulesIn W A L ∧ RulesIn W A' L ∧ Below w.heap.size w W) (first | exact keepC ((Below.refl _ _).drew) HS.out | exact keepC (by assumption) (by assumption) | assumption) (first | (go_at_call 17; refine (cK.out A' c' _ (ruC' (by first | assumption | exact keepC ((Below.refl _ _).drew) HS.out)) (varC HV.out (by first | assumption | exact keepC ((Below.refl _ _).drew) HS.out))).mono ?_; rintro e w' ⟨rfl, hb⟩) | (go_at_call 33; refine (cR.out _ (ruC (by first | assumption | exact keepC ((Below.refl _ _).drew) HS.out))).mono ?_; rintro e w' ⟨rfl, hb⟩) | (go_at_call 34; refine (cQ.out A' c' _ (ruC' (by first | assumption | exact keepC ((Below.refl _ _).drew) HS.out)) (ruC (by first | assumption | exact keepC ((Below.refl _ _).drew) HS.out))).mono ?_; rintro e w' ⟨rfl, hb⟩) | (go_at_call 23; refine (works21_any _ (varC HV.out (by first | assumption | exact keepC ((Below.refl _ _).drew) HS.out))).mono ?_; rintro e w' ⟨rfl, hb⟩))
        all_goals
          have hb4 := belC (by assumption)
          clear HS
          go_wp2_with fail
          go_ret
          exact ⟨rfl, hb4⟩
end Go.Proofs.YtbajlkpjemandaaDoor
