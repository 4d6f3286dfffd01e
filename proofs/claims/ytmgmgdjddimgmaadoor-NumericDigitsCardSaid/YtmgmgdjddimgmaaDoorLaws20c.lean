/- The walk of the law NumericDigits (chapter 20). -/
import Derived.Test.YtmgmgdjddimgmaaDoorDig20c
import Derived.Test.YtmgmgdjddimgmaaDoorDig20d
namespace Go.Proofs.YtmgmgdjddimgmaaDoor
open Go.RowKit
set_option linter.unusedVariables false

theorem walkNumericDigits (a b c : Int) (minus : Bool) (w : World) (ha : (Lit.int .u8 a).wf = true) (hb : (Lit.int .u8 b).wf = true) (hc : (Lit.int .u8 c).wf = true) (hv : Vars w) :
    Calls Tryd.prog 6 #[.int .u8 a, .int .u8 b, .int .u8 c, .bool minus] w fun e w' => e = .returned (.bool true) ∧ Below w.heap.size w w' := by
  have ha2 := bounds_u8 ha
  have hb2 := bounds_u8 hb
  have hc2 := bounds_u8 hc
  obtain ⟨h, hh⟩ : ∃ h : Nat, a % 100 = (h : Int) := ⟨(a % 100).toNat, by omega⟩
  obtain ⟨m, hm⟩ : ∃ m : Nat, b % 100 = (m : Int) := ⟨(b % 100).toNat, by omega⟩
  obtain ⟨s, hs⟩ : ∃ s : Nat, c % 100 = (s : Int) := ⟨(c % 100).toNat, by omega⟩
  cases minus with
  | true => exact digits_minus a b c h m s w ha2.1 ha2.2 hb2.1 hb2.2 hc2.1 hc2.2 hh hm hs (by omega) (by omega) (by omega) hv
  | false => exact digits_plus a b c h m s w ha2.1 ha2.2 hb2.1 hb2.2 hc2.1 hc2.2 hh hm hs (by omega) (by omega) (by omega) hv
end Go.Proofs.YtmgmgdjddimgmaaDoor
