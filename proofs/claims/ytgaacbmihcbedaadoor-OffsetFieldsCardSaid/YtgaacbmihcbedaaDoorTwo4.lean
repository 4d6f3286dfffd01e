/- The closure 'two' of the law OffsetFields: two digits. -/
import Derived.Test.YtgaacbmihcbedaaDoorWorks4
import Derived.Test.YtgaacbmihcbedaaDoorPlain4h
import Derived.Test.YtgaacbmihcbedaaDoorCut4
namespace Go.Proofs.YtgaacbmihcbedaaDoor
open Go.RowKit
set_option linter.unusedVariables false

/-- string([]byte{x, y}) -/
theorem conv_two (x y : Int) (B : Nat) (W : World) (h0 : W.cell? ⟨B, 0, none⟩ = some (.int .u8 x)) (h1 : W.cell? ⟨B, 1, none⟩ = some (.int .u8 y)) :
    (convert 32 9 (.slice (some ⟨B, 0, none⟩) 2 2)).run Tryd.prog W = .ok (.string (str [UInt8.ofNat x.toNat, UInt8.ofNat y.toNat])) W := by
  rw [run_convert_bytes_string W _ _ 5 _ _ _ Tryd.underlying32 Tryd.underlying5 Tryd.underlying9]
  have := run_bytesToString (P := Tryd.prog) W ⟨B, 0, none⟩ 2 2 [x, y] (by simp [go_sem, h0, h1])
  simp only [List.foldl] at this
  exact this
set_option maxRecDepth 100000 in
set_option maxHeartbeats 1000000 in
theorem ftwo_any (m : Nat) (w : World) (hm : m < 60) :
    Calls Tryd.prog 22 #[.int .i64 m] w fun e w' => e = .returned (.string (str (P4.two m))) ∧ Below w.heap.size w w' := by
  have hcv : ∀ (B : Nat) (W : World), W.cell? ⟨B, 0, none⟩ = some (.int .u8 (48 + (m : Int) / 10)) → W.cell? ⟨B, 1, none⟩ = some (.int .u8 (48 + (m : Int) % 10)) →
      (convert 32 9 (.slice (some ⟨B, 0, none⟩) 2 2)).run Tryd.prog W = .ok (.string (str (P4.two m))) W := by
    intro B W h0 h1
    rw [conv_two _ _ B W h0 h1, show (48 + (m : Int) / 10).toNat = 48 + m / 10 by omega, show (48 + (m : Int) % 10).toNat = 48 + m % 10 by omega]
    rfl
  have m0 : (0 : Int) ≤ (m : Int) := by omega
  have m1 : (m : Int) < 60 := by omega
  go_enter Tryd.func22, Tryd.ntmps22
  go_wp2_with fail
  go_ret
  exact ⟨rfl, (Below.refl _ _).alloc (Nat.le_refl _) _⟩
end Go.Proofs.YtgaacbmihcbedaaDoor
