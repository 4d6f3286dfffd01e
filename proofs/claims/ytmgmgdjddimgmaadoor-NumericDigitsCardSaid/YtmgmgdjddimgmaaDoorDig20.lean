/- The walk of the law NumericDigits (chapter 20). -/
import Derived.Test.YtmgmgdjddimgmaaDoorPlain20f
import Derived.Test.YtmgmgdjddimgmaaDoorNum20k
import Derived.OpenShut
import Derived.IntWalk
namespace Go.Proofs.YtmgmgdjddimgmaaDoor
open Go.RowKit
set_option linter.unusedVariables false

theorem conv2 (x y : Int) (B : Nat) (W : World) (h0 : W.cell? ⟨B, 0, none⟩ = some (.int .u8 x)) (h1 : W.cell? ⟨B, 1, none⟩ = some (.int .u8 y)) :
    (convert 42 9 (.slice (some ⟨B, 0, none⟩) 2 2)).run Tryd.prog W = .ok (.string (str [UInt8.ofNat x.toNat, UInt8.ofNat y.toNat])) W := by
  rw [run_convert_bytes_string W _ _ 5 _ _ _ Tryd.underlying42 Tryd.underlying5 Tryd.underlying9]
  have := run_bytesToString (P := Tryd.prog) W ⟨B, 0, none⟩ 2 2 [x, y] (by simp [go_sem, h0, h1])
  simp only [List.foldl] at this
  exact this
set_option maxHeartbeats 400000 in
theorem dtwo_any (n : Nat) (w : World) (hn : n < 100) :
    Calls Tryd.prog 17 #[.int .i64 (n : Int)] w fun e w' => e = .returned (.string (str (P4.two n))) ∧ Below w.heap.size w w' := by
  have hni : (n : Int) ≤ 99 := by omega
  have hcv : ∀ (B : Nat) (W : World), W.cell? ⟨B, 0, none⟩ = some (.int .u8 (48 + (n : Int) / 10)) → W.cell? ⟨B, 1, none⟩ = some (.int .u8 (48 + (n : Int) % 10)) → (convert 42 9 (.slice (some ⟨B, 0, none⟩) 2 2)).run Tryd.prog W = .ok (.string (str (P4.two n))) W := by
    intro B W h0 h1
    rw [conv2 _ _ B W h0 h1, show (48 + (n : Int) / 10).toNat = 48 + n / 10 by omega, show (48 + (n : Int) % 10).toNat = 48 + n % 10 by omega]
    rfl
  go_enter Tryd.func17, Tryd.ntmps17
  go_wp2_with fail
  go_ret
  exact ⟨rfl, (Below.refl _ _).alloc (Nat.le_refl _) _⟩
end Go.Proofs.YtmgmgdjddimgmaaDoor
