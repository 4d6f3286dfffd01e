/- The walks of the laws OffsetParses and OffsetPrints (chapter 4). -/
import Derived.Test.YtgaacbmihcbedaaDoorRef4b
import Derived.Test.YtgaacbmihcbedaaDoorWorks4
import Derived.OpenShut
namespace Go.Proofs.YtgaacbmihcbedaaDoor
open Go.RowKit
set_option linter.unusedVariables false

set_option maxRecDepth 100000 in
set_option maxHeartbeats 1000000 in
theorem walkOffsetParses (s : ByteArray) (w : World) (hs : s.size ≤ maxLen) (hv : Vars w) :
    Calls Tryd.prog 3 #[.string s] w fun e w' => e = .returned (.bool true) ∧ Below w.heap.size w w' := by
  unfold maxLen at hs
  by_cases hl : 1000 < s.size
  · have hli : (1000 : Int) < (s.size : Int) := by omega
    go_enter Tryd.func3, Tryd.ntmps3
    go_wp2_with fail
    refine (works4_any _ hv).mono ?_
    rintro e w1 ⟨rfl, hb⟩
    go_wp2_with fail
    go_ret
    exact ⟨rfl, hb⟩
  · have hli : ¬ (1000 : Int) < (s.size : Int) := by omega
    have hs2 : s.size ≤ 1000000 := by omega
    go_enter Tryd.func3, Tryd.ntmps3
    go_wp2_with fail
    refine (parse_any s _ hs2 hv).mono ?_
    rintro e w1 ⟨rfl, hb1⟩
    have hv1 := hv.below hb1
    go_wp2_with fail
    refine (rparse_any s _ hs2).mono ?_
    rintro e w2 ⟨rfl, hq⟩
    have hb2 := hb1.trans (hq.below w.heap.size)
    have hv2 := hv.below hb2
    clear hq
    go_wp2_with fail
    refine (works4_any _ hv2).mono ?_
    rintro e w3 ⟨rfl, hb3⟩
    have hb4 := hb2.trans (hb3.mono hb2.size)
    go_wp2_with fail
    go_ret
    exact ⟨rfl, hb4⟩

set_option maxRecDepth 100000 in
set_option maxHeartbeats 1000000 in
theorem walkOffsetPrints (x : Int) (w : World) (hx : (Lit.int .i64 x).wf = true) (hv : Vars w) :
    Calls Tryd.prog 4 #[.int .i64 x] w fun e w' => e = .returned (.bool true) ∧ Below w.heap.size w w' := by
  have hx2 := bounds_i64 hx
  have H0 := hx2.1
  have H1 := hx2.2
  clear hx hx2
  have hc1 : Hid (∀ W, Vars W → Calls Tryd.prog 19 #[.int .i64 x] W fun e w' => e = .returned (.tuple #[.string (str (P4.print x).1), .int .i64 (P4.print x).2]) ∧ Below W.heap.size W w') := fun W h => print_any x W H0 H1 h
  have hc2 : Hid (∀ W, Calls Tryd.prog 20 #[.int .i64 x] W fun e w' => e = .returned (.tuple #[.string (str (P4.print x).1), .int .i64 (P4.print x).2]) ∧ Q W w') := fun W => rprint_any x W H0 H1
  generalize P4.print x = y at hc1 hc2
  obtain ⟨yl, ye⟩ := y
  clear H0 H1
  go_enter Tryd.func4, Tryd.ntmps4
  go_wp2_with fail
  refine (hc1.out _ hv).mono ?_
  rintro e w1 ⟨rfl, hb1⟩
  go_wp2_with fail
  refine (hc2.out _).mono ?_
  rintro e w2 ⟨rfl, hq⟩
  have hb2 := hb1.trans (hq.below w.heap.size)
  have hv2 := hv.below hb2
  clear hq
  go_wp2_with fail
  refine (works4_any _ hv2).mono ?_
  rintro e w3 ⟨rfl, hb3⟩
  have hb4 := hb2.trans (hb3.mono hb2.size)
  go_wp2_with fail
  go_ret
  exact ⟨rfl, hb4⟩
end Go.Proofs.YtgaacbmihcbedaaDoor
