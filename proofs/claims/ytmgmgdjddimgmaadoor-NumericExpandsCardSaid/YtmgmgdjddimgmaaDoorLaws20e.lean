/- The walk of the law NumericExpands (chapter 20). -/
import Derived.Test.YtmgmgdjddimgmaaDoorNum20k
import Derived.Test.YtmgmgdjddimgmaaDoorNum20i
import Derived.OpenShut
namespace Go.Proofs.YtmgmgdjddimgmaaDoor
open Go.RowKit
set_option linter.unusedVariables false

set_option maxRecDepth 100000 in
set_option maxHeartbeats 4000000 in
theorem walkNumericExpands (off kind save : Int) (set fmt : ByteArray) (ui : Bool) (uy um dk dw dd asec ab : Int) (A : Option Addr) (c : Nat) (L : List RV) (w : World) (o64 : -9223372036854775808 ≤ off ∧ off ≤ 9223372036854775807) (s64 : -9223372036854775808 ≤ save ∧ save ≤ 9223372036854775807) (hl : L.length ≤ maxLen) (hR : RulesIn w A L) (hsv : SvOk L) (hv : Vars w) :
    Calls Tryd.prog 4 #[.agg #[.int .i64 off, .int .i64 kind, .int .i64 save, .string set, .string fmt, .bool ui, .int .i64 uy, .int .i64 um, .int .i64 dk, .int .i64 dw, .int .i64 dd, .int .i64 asec, .int .i64 ab], .slice A L.length c] w fun e w' => e = .returned (.bool true) ∧ Below w.heap.size w w' := by
  unfold maxLen at hl
  have hR0 := hR.alloc (.cells #[.int .i64 off, .int .i64 kind, .int .i64 save, .string set, .string fmt, .bool ui, .int .i64 uy, .int .i64 um, .int .i64 dk, .int .i64 dw, .int .i64 dd, .int .i64 asec, .int .i64 ab] 35)
  by_cases h40 : 40 < L.length
  · have hli : (40 : Int) < (L.length : Int) := by omega
    clear hR hR0
    go_enter Tryd.func4, Tryd.ntmps4
    have hb1 := (Below.refl w.heap.size w).alloc (Nat.le_refl _) (.cells #[.int .i64 off, .int .i64 kind, .int .i64 save, .string set, .string fmt, .bool ui, .int .i64 uy, .int .i64 um, .int .i64 dk, .int .i64 dw, .int .i64 dd, .int .i64 asec, .int .i64 ab] 35)
    have hB2 := Blk.new w 35 #[.int .i64 off, .int .i64 kind, .int .i64 save, .string set, .string fmt, .bool ui, .int .i64 uy, .int .i64 um, .int .i64 dk, .int .i64 dw, .int .i64 dd, .int .i64 asec, .int .i64 ab]
    have hv3 := hv.below hb1
    go_wp2_with fail
    refine (works20_any _ hv3).mono ?_
    clear hv3
    rintro e w1 ⟨rfl, hc4⟩
    have hB5 := hB2.below hc4 hB2.lt
    clear hB2
    have hb6 := hb1.trans (hc4.mono hb1.size)
    clear hb1 hc4
    go_wp2_with fail
    go_ret
    exact ⟨rfl, hb6⟩
  · have hli : (L.length : Int) ≤ 40 := by omega
    have c1 : Hid (∀ W, RulesIn W A L → Calls Tryd.prog 15 #[.agg #[.int .i64 off, .int .i64 kind, .int .i64 save, .string set, .string fmt, .bool ui, .int .i64 uy, .int .i64 um, .int .i64 dk, .int .i64 dw, .int .i64 dd, .int .i64 asec, .int .i64 ab], .slice A L.length c] W fun e w' => e = .returned (.tuple #[.string (str (P20.expansion kind off save (svs L)).1), .int .i64 (P20.expansion kind off save (svs L)).2]) ∧ Below W.heap.size W w') := fun W h => expansion_any off kind save set fmt ui uy um dk dw dd asec ab A L c W o64 s64 (by omega) hsv h
    have c2 : Hid (∀ W, RulesIn W A L → Calls Tryd.prog 16 #[.agg #[.int .i64 off, .int .i64 kind, .int .i64 save, .string set, .string fmt, .bool ui, .int .i64 uy, .int .i64 um, .int .i64 dk, .int .i64 dw, .int .i64 dd, .int .i64 asec, .int .i64 ab], .slice A L.length c] W fun e w' => e = .returned (.tuple #[.string (str (P20.expansion kind off save (svs L)).1), .int .i64 (P20.expansion kind off save (svs L)).2]) ∧ Below W.heap.size W w') := fun W h => rexpansion_any off kind save set fmt ui uy um dk dw dd asec ab A L c W o64 s64 (by omega) hsv h
    generalize P20.expansion kind off save (svs L) = R at c1 c2
    obtain ⟨T, E⟩ := R
    clear hR0 o64 s64 hsv
    go_enter Tryd.func4, Tryd.ntmps4
    have hb1 := (Below.refl w.heap.size w).alloc (Nat.le_refl _) (.cells #[.int .i64 off, .int .i64 kind, .int .i64 save, .string set, .string fmt, .bool ui, .int .i64 uy, .int .i64 um, .int .i64 dk, .int .i64 dw, .int .i64 dd, .int .i64 asec, .int .i64 ab] 35)
    have hP2 := hR.alloc (.cells #[.int .i64 off, .int .i64 kind, .int .i64 save, .string set, .string fmt, .bool ui, .int .i64 uy, .int .i64 um, .int .i64 dk, .int .i64 dw, .int .i64 dd, .int .i64 asec, .int .i64 ab] 35)
    clear hR
    have hB3 := Blk.new w 35 #[.int .i64 off, .int .i64 kind, .int .i64 save, .string set, .string fmt, .bool ui, .int .i64 uy, .int .i64 um, .int .i64 dk, .int .i64 dw, .int .i64 dd, .int .i64 asec, .int .i64 ab]
    have k4 := (hB3.cell 0).trans rfl
    have k5 := (hB3.cell 1).trans rfl
    have k6 := (hB3.cell 2).trans rfl
    have k7 := (hB3.cell 3).trans rfl
    have k8 := (hB3.cell 4).trans rfl
    have k9 := (hB3.cell 5).trans rfl
    have k10 := (hB3.cell 6).trans rfl
    have k11 := (hB3.cell 7).trans rfl
    have k12 := (hB3.cell 8).trans rfl
    have k13 := (hB3.cell 9).trans rfl
    have k14 := (hB3.cell 10).trans rfl
    have k15 := (hB3.cell 11).trans rfl
    have k16 := (hB3.cell 12).trans rfl
    go_wp2_with fail
    refine (c1.out _ hP2).mono ?_
    clear k4 k5 k6 k7 k8 k9 k10 k11 k12 k13 k14 k15 k16
    rintro e w1 ⟨rfl, hc17⟩
    have hB18 := hB3.below hc17 hB3.lt
    clear hB3
    have hP19 := hP2.below hc17
    clear hP2
    have hb20 := hb1.trans (hc17.mono hb1.size)
    clear hb1 hc17
    have k21 := (hB18.cell 0).trans rfl
    have k22 := (hB18.cell 1).trans rfl
    have k23 := (hB18.cell 2).trans rfl
    have k24 := (hB18.cell 3).trans rfl
    have k25 := (hB18.cell 4).trans rfl
    have k26 := (hB18.cell 5).trans rfl
    have k27 := (hB18.cell 6).trans rfl
    have k28 := (hB18.cell 7).trans rfl
    have k29 := (hB18.cell 8).trans rfl
    have k30 := (hB18.cell 9).trans rfl
    have k31 := (hB18.cell 10).trans rfl
    have k32 := (hB18.cell 11).trans rfl
    have k33 := (hB18.cell 12).trans rfl
    go_wp2_with fail
    refine (c2.out _ hP19).mono ?_
    clear k21 k22 k23 k24 k25 k26 k27 k28 k29 k30 k31 k32 k33
    rintro e w2 ⟨rfl, hc34⟩
    have hB35 := hB18.below hc34 hB18.lt
    clear hB18
    have hP36 := hP19.below hc34
    clear hP19
    have hb37 := hb20.trans (hc34.mono hb20.size)
    clear hb20 hc34
    clear hB35
    clear hP36
    have hv38 := hv.below hb37
    go_wp2_with fail
    refine (works20_any _ hv38).mono ?_
    clear hv38
    rintro e w3 ⟨rfl, hc39⟩
    have hb40 := hb37.trans (hc39.mono hb37.size)
    clear hb37 hc39
    go_wp2_with fail
    go_ret
    exact ⟨rfl, hb40⟩
end Go.Proofs.YtmgmgdjddimgmaaDoor
