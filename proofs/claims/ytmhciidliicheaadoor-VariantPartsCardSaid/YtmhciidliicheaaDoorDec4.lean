/- The walks of the reference's Decimal and Two (chapter 4), for seats that reach these two alone. -/
import Derived.Test.YtmhciidliicheaaDoorPlain4
import Derived.Test.YtmhciidliicheaaDoorCom
import Derived.Test.YtmhciidliicheaaDoorChecked
namespace Go.Proofs.YtmhciidliicheaaDoor
open Go.RowKit
set_option linter.unusedVariables false

theorem digit_str (n : Nat) (h : n < 10) : (ByteArray.mk #[48, 49, 50, 51, 52, 53, 54, 55, 56, 57]).extract n (n + 1) = str (Lib.decDigits n) := by
  rw [Lib.decDigits, dif_pos h]
  match n, h with
  | 0, _ => rfl
  | 1, _ => rfl
  | 2, _ => rfl
  | 3, _ => rfl
  | 4, _ => rfl
  | 5, _ => rfl
  | 6, _ => rfl
  | 7, _ => rfl
  | 8, _ => rfl
  | 9, _ => rfl

/-- Two: two digits -/
theorem two_str (n : Nat) (h : n < 100) : str (Lib.decDigits (n / 10)) ++ str (Lib.decDigits (n % 10)) = str (P4.two n) := by
  have e1 : Lib.decDigits (n / 10) = [UInt8.ofNat (48 + n / 10)] := by rw [Lib.decDigits, dif_pos (by omega)]
  have e2 : Lib.decDigits (n % 10) = [UInt8.ofNat (48 + n % 10)] := by rw [Lib.decDigits, dif_pos (by omega)]
  rw [e1, e2, str_append]
  rfl
end Go.Proofs.YtmhciidliicheaaDoor
