/- The walks of sum, rules and eras of the report and of the reference (chapter 32). -/
import Derived.Test.YtggdfgdnpicepaaDoorRep32a
import Derived.BigRegion
import Derived.BigQuiet
import Derived.Deep.QuietTactic
namespace Go.Proofs.YtggdfgdnpicepaaDoor
open Go.RowKit
set_option linter.unusedVariables false
attribute [local go_sem high] eql_rule eql_era
theorem guard_rule (op : BinOp) (x y : Operand) (xs ys : Array Value) (w : World) : (eqGuard op 46 x y (.agg xs) (.agg ys)).run Tryd.prog w = .ok () w := run_eqGuard_agg w op _ x y xs ys (by kernel_rfl)
theorem guard_era (op : BinOp) (x y : Operand) (xs ys : Array Value) (w : World) : (eqGuard op 58 x y (.agg xs) (.agg ys)).run Tryd.prog w = .ok () w := run_eqGuard_agg w op _ x y xs ys (by kernel_rfl)
attribute [local go_sem high] guard_rule guard_era

set_option maxHeartbeats 1000000 in
theorem sum_1_00 (B c : Nat) (w : World) (h : ∀ j u, (#[.bool false, .bool false] : Array Value)[j]? = some u → w.cell? ⟨B, j, none⟩ = some u) :
    Calls Tryd.prog 70 #[.int .i64 1, .slice (some ⟨B, 0, none⟩) 2 c] w fun e w' => e = .returned (.int .i64 0) ∧ w = w' := by
  have a0 : w.cell? ⟨B, 0, none⟩ = some (.bool false) := h 0 _ rfl
  have a1 : w.cell? ⟨B, 1, none⟩ = some (.bool false) := h 1 _ rfl
  clear h
  go_enter Tryd.func70, Tryd.ntmps70
  go_wp2_with fail
  go_loop [0, 5, 10] (fun s0 s5 s10 => (s0 = .int .i64 1 ∧ s5 = .int .i64 0 ∧ s10 = .int .i64 0) ∨ (s0 = .int .i64 2 ∧ s5 = .int .i64 0 ∧ s10 = .int .i64 1) ∨ (s0 = .int .i64 4 ∧ s5 = .int .i64 0 ∧ s10 = .int .i64 2)) (fun _ _ i => 2 - (intOf i).toNat)
  case atStart => exact .inl ⟨rfl, rfl, rfl⟩
  case round =>
    rcases hrel with ⟨rfl, rfl, rfl⟩ | ⟨rfl, rfl, rfl⟩ | ⟨rfl, rfl, rfl⟩
    · go_wp2_with fail
      go_round
      case rel => exact (.inr (.inl ⟨rfl, rfl, rfl⟩))
      case measure => simp [intOf]
    · go_wp2_with fail
      go_round
      case rel => exact (.inr (.inr (⟨rfl, rfl, rfl⟩)))
      case measure => simp [intOf]
    · go_wp2_with fail
      go_ret
      exact ⟨rfl, rfl⟩
set_option maxHeartbeats 1000000 in
theorem sum_1_01 (B c : Nat) (w : World) (h : ∀ j u, (#[.bool false, .bool true] : Array Value)[j]? = some u → w.cell? ⟨B, j, none⟩ = some u) :
    Calls Tryd.prog 70 #[.int .i64 1, .slice (some ⟨B, 0, none⟩) 2 c] w fun e w' => e = .returned (.int .i64 2) ∧ w = w' := by
  have a0 : w.cell? ⟨B, 0, none⟩ = some (.bool false) := h 0 _ rfl
  have a1 : w.cell? ⟨B, 1, none⟩ = some (.bool true) := h 1 _ rfl
  clear h
  go_enter Tryd.func70, Tryd.ntmps70
  go_wp2_with fail
  go_loop [0, 5, 10] (fun s0 s5 s10 => (s0 = .int .i64 1 ∧ s5 = .int .i64 0 ∧ s10 = .int .i64 0) ∨ (s0 = .int .i64 2 ∧ s5 = .int .i64 0 ∧ s10 = .int .i64 1) ∨ (s0 = .int .i64 4 ∧ s5 = .int .i64 2 ∧ s10 = .int .i64 2)) (fun _ _ i => 2 - (intOf i).toNat)
  case atStart => exact .inl ⟨rfl, rfl, rfl⟩
  case round =>
    rcases hrel with ⟨rfl, rfl, rfl⟩ | ⟨rfl, rfl, rfl⟩ | ⟨rfl, rfl, rfl⟩
    · go_wp2_with fail
      go_round
      case rel => exact (.inr (.inl ⟨rfl, rfl, rfl⟩))
      case measure => simp [intOf]
    · go_wp2_with fail
      go_round
      case rel => exact (.inr (.inr (⟨rfl, rfl, rfl⟩)))
      case measure => simp [intOf]
    · go_wp2_with fail
      go_ret
      exact ⟨rfl, rfl⟩
set_option maxHeartbeats 1000000 in
theorem sum_1_10 (B c : Nat) (w : World) (h : ∀ j u, (#[.bool true, .bool false] : Array Value)[j]? = some u → w.cell? ⟨B, j, none⟩ = some u) :
    Calls Tryd.prog 70 #[.int .i64 1, .slice (some ⟨B, 0, none⟩) 2 c] w fun e w' => e = .returned (.int .i64 1) ∧ w = w' := by
  have a0 : w.cell? ⟨B, 0, none⟩ = some (.bool true) := h 0 _ rfl
  have a1 : w.cell? ⟨B, 1, none⟩ = some (.bool false) := h 1 _ rfl
  clear h
  go_enter Tryd.func70, Tryd.ntmps70
  go_wp2_with fail
  go_loop [0, 5, 10] (fun s0 s5 s10 => (s0 = .int .i64 1 ∧ s5 = .int .i64 0 ∧ s10 = .int .i64 0) ∨ (s0 = .int .i64 2 ∧ s5 = .int .i64 1 ∧ s10 = .int .i64 1) ∨ (s0 = .int .i64 4 ∧ s5 = .int .i64 1 ∧ s10 = .int .i64 2)) (fun _ _ i => 2 - (intOf i).toNat)
  case atStart => exact .inl ⟨rfl, rfl, rfl⟩
  case round =>
    rcases hrel with ⟨rfl, rfl, rfl⟩ | ⟨rfl, rfl, rfl⟩ | ⟨rfl, rfl, rfl⟩
    · go_wp2_with fail
      go_round
      case rel => exact (.inr (.inl ⟨rfl, rfl, rfl⟩))
      case measure => simp [intOf]
    · go_wp2_with fail
      go_round
      case rel => exact (.inr (.inr (⟨rfl, rfl, rfl⟩)))
      case measure => simp [intOf]
    · go_wp2_with fail
      go_ret
      exact ⟨rfl, rfl⟩
set_option maxHeartbeats 1000000 in
theorem sum_1_11 (B c : Nat) (w : World) (h : ∀ j u, (#[.bool true, .bool true] : Array Value)[j]? = some u → w.cell? ⟨B, j, none⟩ = some u) :
    Calls Tryd.prog 70 #[.int .i64 1, .slice (some ⟨B, 0, none⟩) 2 c] w fun e w' => e = .returned (.int .i64 3) ∧ w = w' := by
  have a0 : w.cell? ⟨B, 0, none⟩ = some (.bool true) := h 0 _ rfl
  have a1 : w.cell? ⟨B, 1, none⟩ = some (.bool true) := h 1 _ rfl
  clear h
  go_enter Tryd.func70, Tryd.ntmps70
  go_wp2_with fail
  go_loop [0, 5, 10] (fun s0 s5 s10 => (s0 = .int .i64 1 ∧ s5 = .int .i64 0 ∧ s10 = .int .i64 0) ∨ (s0 = .int .i64 2 ∧ s5 = .int .i64 1 ∧ s10 = .int .i64 1) ∨ (s0 = .int .i64 4 ∧ s5 = .int .i64 3 ∧ s10 = .int .i64 2)) (fun _ _ i => 2 - (intOf i).toNat)
  case atStart => exact .inl ⟨rfl, rfl, rfl⟩
  case round =>
    rcases hrel with ⟨rfl, rfl, rfl⟩ | ⟨rfl, rfl, rfl⟩ | ⟨rfl, rfl, rfl⟩
    · go_wp2_with fail
      go_round
      case rel => exact (.inr (.inl ⟨rfl, rfl, rfl⟩))
      case measure => simp [intOf]
    · go_wp2_with fail
      go_round
      case rel => exact (.inr (.inr (⟨rfl, rfl, rfl⟩)))
      case measure => simp [intOf]
    · go_wp2_with fail
      go_ret
      exact ⟨rfl, rfl⟩
set_option maxHeartbeats 1000000 in
theorem sum_4_000 (B c : Nat) (w : World) (h : ∀ j u, (#[.bool false, .bool false, .bool false] : Array Value)[j]? = some u → w.cell? ⟨B, j, none⟩ = some u) :
    Calls Tryd.prog 70 #[.int .i64 4, .slice (some ⟨B, 0, none⟩) 3 c] w fun e w' => e = .returned (.int .i64 0) ∧ w = w' := by
  have a0 : w.cell? ⟨B, 0, none⟩ = some (.bool false) := h 0 _ rfl
  have a1 : w.cell? ⟨B, 1, none⟩ = some (.bool false) := h 1 _ rfl
  have a2 : w.cell? ⟨B, 2, none⟩ = some (.bool false) := h 2 _ rfl
  clear h
  go_enter Tryd.func70, Tryd.ntmps70
  go_wp2_with fail
  go_loop [0, 5, 10] (fun s0 s5 s10 => (s0 = .int .i64 4 ∧ s5 = .int .i64 0 ∧ s10 = .int .i64 0) ∨ (s0 = .int .i64 8 ∧ s5 = .int .i64 0 ∧ s10 = .int .i64 1) ∨ (s0 = .int .i64 16 ∧ s5 = .int .i64 0 ∧ s10 = .int .i64 2) ∨ (s0 = .int .i64 32 ∧ s5 = .int .i64 0 ∧ s10 = .int .i64 3)) (fun _ _ i => 3 - (intOf i).toNat)
  case atStart => exact .inl ⟨rfl, rfl, rfl⟩
  case round =>
    rcases hrel with ⟨rfl, rfl, rfl⟩ | ⟨rfl, rfl, rfl⟩ | ⟨rfl, rfl, rfl⟩ | ⟨rfl, rfl, rfl⟩
    · go_wp2_with fail
      go_round
      case rel => exact (.inr (.inl ⟨rfl, rfl, rfl⟩))
      case measure => simp [intOf]
    · go_wp2_with fail
      go_round
      case rel => exact (.inr (.inr (.inl ⟨rfl, rfl, rfl⟩)))
      case measure => simp [intOf]
    · go_wp2_with fail
      go_round
      case rel => exact (.inr (.inr (.inr (⟨rfl, rfl, rfl⟩))))
      case measure => simp [intOf]
    · go_wp2_with fail
      go_ret
      exact ⟨rfl, rfl⟩
set_option maxHeartbeats 1000000 in
theorem sum_4_001 (B c : Nat) (w : World) (h : ∀ j u, (#[.bool false, .bool false, .bool true] : Array Value)[j]? = some u → w.cell? ⟨B, j, none⟩ = some u) :
    Calls Tryd.prog 70 #[.int .i64 4, .slice (some ⟨B, 0, none⟩) 3 c] w fun e w' => e = .returned (.int .i64 16) ∧ w = w' := by
  have a0 : w.cell? ⟨B, 0, none⟩ = some (.bool false) := h 0 _ rfl
  have a1 : w.cell? ⟨B, 1, none⟩ = some (.bool false) := h 1 _ rfl
  have a2 : w.cell? ⟨B, 2, none⟩ = some (.bool true) := h 2 _ rfl
  clear h
  go_enter Tryd.func70, Tryd.ntmps70
  go_wp2_with fail
  go_loop [0, 5, 10] (fun s0 s5 s10 => (s0 = .int .i64 4 ∧ s5 = .int .i64 0 ∧ s10 = .int .i64 0) ∨ (s0 = .int .i64 8 ∧ s5 = .int .i64 0 ∧ s10 = .int .i64 1) ∨ (s0 = .int .i64 16 ∧ s5 = .int .i64 0 ∧ s10 = .int .i64 2) ∨ (s0 = .int .i64 32 ∧ s5 = .int .i64 16 ∧ s10 = .int .i64 3)) (fun _ _ i => 3 - (intOf i).toNat)
  case atStart => exact .inl ⟨rfl, rfl, rfl⟩
  case round =>
    rcases hrel with ⟨rfl, rfl, rfl⟩ | ⟨rfl, rfl, rfl⟩ | ⟨rfl, rfl, rfl⟩ | ⟨rfl, rfl, rfl⟩
    · go_wp2_with fail
      go_round
      case rel => exact (.inr (.inl ⟨rfl, rfl, rfl⟩))
      case measure => simp [intOf]
    · go_wp2_with fail
      go_round
      case rel => exact (.inr (.inr (.inl ⟨rfl, rfl, rfl⟩)))
      case measure => simp [intOf]
    · go_wp2_with fail
      go_round
      case rel => exact (.inr (.inr (.inr (⟨rfl, rfl, rfl⟩))))
      case measure => simp [intOf]
    · go_wp2_with fail
      go_ret
      exact ⟨rfl, rfl⟩
set_option maxHeartbeats 1000000 in
theorem sum_4_010 (B c : Nat) (w : World) (h : ∀ j u, (#[.bool false, .bool true, .bool false] : Array Value)[j]? = some u → w.cell? ⟨B, j, none⟩ = some u) :
    Calls Tryd.prog 70 #[.int .i64 4, .slice (some ⟨B, 0, none⟩) 3 c] w fun e w' => e = .returned (.int .i64 8) ∧ w = w' := by
  have a0 : w.cell? ⟨B, 0, none⟩ = some (.bool false) := h 0 _ rfl
  have a1 : w.cell? ⟨B, 1, none⟩ = some (.bool true) := h 1 _ rfl
  have a2 : w.cell? ⟨B, 2, none⟩ = some (.bool false) := h 2 _ rfl
  clear h
  go_enter Tryd.func70, Tryd.ntmps70
  go_wp2_with fail
  go_loop [0, 5, 10] (fun s0 s5 s10 => (s0 = .int .i64 4 ∧ s5 = .int .i64 0 ∧ s10 = .int .i64 0) ∨ (s0 = .int .i64 8 ∧ s5 = .int .i64 0 ∧ s10 = .int .i64 1) ∨ (s0 = .int .i64 16 ∧ s5 = .int .i64 8 ∧ s10 = .int .i64 2) ∨ (s0 = .int .i64 32 ∧ s5 = .int .i64 8 ∧ s10 = .int .i64 3)) (fun _ _ i => 3 - (intOf i).toNat)
  case atStart => exact .inl ⟨rfl, rfl, rfl⟩
  case round =>
    rcases hrel with ⟨rfl, rfl, rfl⟩ | ⟨rfl, rfl, rfl⟩ | ⟨rfl, rfl, rfl⟩ | ⟨rfl, rfl, rfl⟩
    · go_wp2_with fail
      go_round
      case rel => exact (.inr (.inl ⟨rfl, rfl, rfl⟩))
      case measure => simp [intOf]
    · go_wp2_with fail
      go_round
      case rel => exact (.inr (.inr (.inl ⟨rfl, rfl, rfl⟩)))
      case measure => simp [intOf]
    · go_wp2_with fail
      go_round
      case rel => exact (.inr (.inr (.inr (⟨rfl, rfl, rfl⟩))))
      case measure => simp [intOf]
    · go_wp2_with fail
      go_ret
      exact ⟨rfl, rfl⟩
set_option maxHeartbeats 1000000 in
theorem sum_4_011 (B c : Nat) (w : World) (h : ∀ j u, (#[.bool false, .bool true, .bool true] : Array Value)[j]? = some u → w.cell? ⟨B, j, none⟩ = some u) :
    Calls Tryd.prog 70 #[.int .i64 4, .slice (some ⟨B, 0, none⟩) 3 c] w fun e w' => e = .returned (.int .i64 24) ∧ w = w' := by
  have a0 : w.cell? ⟨B, 0, none⟩ = some (.bool false) := h 0 _ rfl
  have a1 : w.cell? ⟨B, 1, none⟩ = some (.bool true) := h 1 _ rfl
  have a2 : w.cell? ⟨B, 2, none⟩ = some (.bool true) := h 2 _ rfl
  clear h
  go_enter Tryd.func70, Tryd.ntmps70
  go_wp2_with fail
  go_loop [0, 5, 10] (fun s0 s5 s10 => (s0 = .int .i64 4 ∧ s5 = .int .i64 0 ∧ s10 = .int .i64 0) ∨ (s0 = .int .i64 8 ∧ s5 = .int .i64 0 ∧ s10 = .int .i64 1) ∨ (s0 = .int .i64 16 ∧ s5 = .int .i64 8 ∧ s10 = .int .i64 2) ∨ (s0 = .int .i64 32 ∧ s5 = .int .i64 24 ∧ s10 = .int .i64 3)) (fun _ _ i => 3 - (intOf i).toNat)
  case atStart => exact .inl ⟨rfl, rfl, rfl⟩
  case round =>
    rcases hrel with ⟨rfl, rfl, rfl⟩ | ⟨rfl, rfl, rfl⟩ | ⟨rfl, rfl, rfl⟩ | ⟨rfl, rfl, rfl⟩
    · go_wp2_with fail
      go_round
      case rel => exact (.inr (.inl ⟨rfl, rfl, rfl⟩))
      case measure => simp [intOf]
    · go_wp2_with fail
      go_round
      case rel => exact (.inr (.inr (.inl ⟨rfl, rfl, rfl⟩)))
      case measure => simp [intOf]
    · go_wp2_with fail
      go_round
      case rel => exact (.inr (.inr (.inr (⟨rfl, rfl, rfl⟩))))
      case measure => simp [intOf]
    · go_wp2_with fail
      go_ret
      exact ⟨rfl, rfl⟩
set_option maxHeartbeats 1000000 in
theorem sum_4_100 (B c : Nat) (w : World) (h : ∀ j u, (#[.bool true, .bool false, .bool false] : Array Value)[j]? = some u → w.cell? ⟨B, j, none⟩ = some u) :
    Calls Tryd.prog 70 #[.int .i64 4, .slice (some ⟨B, 0, none⟩) 3 c] w fun e w' => e = .returned (.int .i64 4) ∧ w = w' := by
  have a0 : w.cell? ⟨B, 0, none⟩ = some (.bool true) := h 0 _ rfl
  have a1 : w.cell? ⟨B, 1, none⟩ = some (.bool false) := h 1 _ rfl
  have a2 : w.cell? ⟨B, 2, none⟩ = some (.bool false) := h 2 _ rfl
  clear h
  go_enter Tryd.func70, Tryd.ntmps70
  go_wp2_with fail
  go_loop [0, 5, 10] (fun s0 s5 s10 => (s0 = .int .i64 4 ∧ s5 = .int .i64 0 ∧ s10 = .int .i64 0) ∨ (s0 = .int .i64 8 ∧ s5 = .int .i64 4 ∧ s10 = .int .i64 1) ∨ (s0 = .int .i64 16 ∧ s5 = .int .i64 4 ∧ s10 = .int .i64 2) ∨ (s0 = .int .i64 32 ∧ s5 = .int .i64 4 ∧ s10 = .int .i64 3)) (fun _ _ i => 3 - (intOf i).toNat)
  case atStart => exact .inl ⟨rfl, rfl, rfl⟩
  case round =>
    rcases hrel with ⟨rfl, rfl, rfl⟩ | ⟨rfl, rfl, rfl⟩ | ⟨rfl, rfl, rfl⟩ | ⟨rfl, rfl, rfl⟩
    · go_wp2_with fail
      go_round
      case rel => exact (.inr (.inl ⟨rfl, rfl, rfl⟩))
      case measure => simp [intOf]
    · go_wp2_with fail
      go_round
      case rel => exact (.inr (.inr (.inl ⟨rfl, rfl, rfl⟩)))
      case measure => simp [intOf]
    · go_wp2_with fail
      go_round
      case rel => exact (.inr (.inr (.inr (⟨rfl, rfl, rfl⟩))))
      case measure => simp [intOf]
    · go_wp2_with fail
      go_ret
      exact ⟨rfl, rfl⟩
set_option maxHeartbeats 1000000 in
theorem sum_4_101 (B c : Nat) (w : World) (h : ∀ j u, (#[.bool true, .bool false, .bool true] : Array Value)[j]? = some u → w.cell? ⟨B, j, none⟩ = some u) :
    Calls Tryd.prog 70 #[.int .i64 4, .slice (some ⟨B, 0, none⟩) 3 c] w fun e w' => e = .returned (.int .i64 20) ∧ w = w' := by
  have a0 : w.cell? ⟨B, 0, none⟩ = some (.bool true) := h 0 _ rfl
  have a1 : w.cell? ⟨B, 1, none⟩ = some (.bool false) := h 1 _ rfl
  have a2 : w.cell? ⟨B, 2, none⟩ = some (.bool true) := h 2 _ rfl
  clear h
  go_enter Tryd.func70, Tryd.ntmps70
  go_wp2_with fail
  go_loop [0, 5, 10] (fun s0 s5 s10 => (s0 = .int .i64 4 ∧ s5 = .int .i64 0 ∧ s10 = .int .i64 0) ∨ (s0 = .int .i64 8 ∧ s5 = .int .i64 4 ∧ s10 = .int .i64 1) ∨ (s0 = .int .i64 16 ∧ s5 = .int .i64 4 ∧ s10 = .int .i64 2) ∨ (s0 = .int .i64 32 ∧ s5 = .int .i64 20 ∧ s10 = .int .i64 3)) (fun _ _ i => 3 - (intOf i).toNat)
  case atStart => exact .inl ⟨rfl, rfl, rfl⟩
  case round =>
    rcases hrel with ⟨rfl, rfl, rfl⟩ | ⟨rfl, rfl, rfl⟩ | ⟨rfl, rfl, rfl⟩ | ⟨rfl, rfl, rfl⟩
    · go_wp2_with fail
      go_round
      case rel => exact (.inr (.inl ⟨rfl, rfl, rfl⟩))
      case measure => simp [intOf]
    · go_wp2_with fail
      go_round
      case rel => exact (.inr (.inr (.inl ⟨rfl, rfl, rfl⟩)))
      case measure => simp [intOf]
    · go_wp2_with fail
      go_round
      case rel => exact (.inr (.inr (.inr (⟨rfl, rfl, rfl⟩))))
      case measure => simp [intOf]
    · go_wp2_with fail
      go_ret
      exact ⟨rfl, rfl⟩
set_option maxHeartbeats 1000000 in
theorem sum_4_110 (B c : Nat) (w : World) (h : ∀ j u, (#[.bool true, .bool true, .bool false] : Array Value)[j]? = some u → w.cell? ⟨B, j, none⟩ = some u) :
    Calls Tryd.prog 70 #[.int .i64 4, .slice (some ⟨B, 0, none⟩) 3 c] w fun e w' => e = .returned (.int .i64 12) ∧ w = w' := by
  have a0 : w.cell? ⟨B, 0, none⟩ = some (.bool true) := h 0 _ rfl
  have a1 : w.cell? ⟨B, 1, none⟩ = some (.bool true) := h 1 _ rfl
  have a2 : w.cell? ⟨B, 2, none⟩ = some (.bool false) := h 2 _ rfl
  clear h
  go_enter Tryd.func70, Tryd.ntmps70
  go_wp2_with fail
  go_loop [0, 5, 10] (fun s0 s5 s10 => (s0 = .int .i64 4 ∧ s5 = .int .i64 0 ∧ s10 = .int .i64 0) ∨ (s0 = .int .i64 8 ∧ s5 = .int .i64 4 ∧ s10 = .int .i64 1) ∨ (s0 = .int .i64 16 ∧ s5 = .int .i64 12 ∧ s10 = .int .i64 2) ∨ (s0 = .int .i64 32 ∧ s5 = .int .i64 12 ∧ s10 = .int .i64 3)) (fun _ _ i => 3 - (intOf i).toNat)
  case atStart => exact .inl ⟨rfl, rfl, rfl⟩
  case round =>
    rcases hrel with ⟨rfl, rfl, rfl⟩ | ⟨rfl, rfl, rfl⟩ | ⟨rfl, rfl, rfl⟩ | ⟨rfl, rfl, rfl⟩
    · go_wp2_with fail
      go_round
      case rel => exact (.inr (.inl ⟨rfl, rfl, rfl⟩))
      case measure => simp [intOf]
    · go_wp2_with fail
      go_round
      case rel => exact (.inr (.inr (.inl ⟨rfl, rfl, rfl⟩)))
      case measure => simp [intOf]
    · go_wp2_with fail
      go_round
      case rel => exact (.inr (.inr (.inr (⟨rfl, rfl, rfl⟩))))
      case measure => simp [intOf]
    · go_wp2_with fail
      go_ret
      exact ⟨rfl, rfl⟩
set_option maxHeartbeats 1000000 in
theorem sum_4_111 (B c : Nat) (w : World) (h : ∀ j u, (#[.bool true, .bool true, .bool true] : Array Value)[j]? = some u → w.cell? ⟨B, j, none⟩ = some u) :
    Calls Tryd.prog 70 #[.int .i64 4, .slice (some ⟨B, 0, none⟩) 3 c] w fun e w' => e = .returned (.int .i64 28) ∧ w = w' := by
  have a0 : w.cell? ⟨B, 0, none⟩ = some (.bool true) := h 0 _ rfl
  have a1 : w.cell? ⟨B, 1, none⟩ = some (.bool true) := h 1 _ rfl
  have a2 : w.cell? ⟨B, 2, none⟩ = some (.bool true) := h 2 _ rfl
  clear h
  go_enter Tryd.func70, Tryd.ntmps70
  go_wp2_with fail
  go_loop [0, 5, 10] (fun s0 s5 s10 => (s0 = .int .i64 4 ∧ s5 = .int .i64 0 ∧ s10 = .int .i64 0) ∨ (s0 = .int .i64 8 ∧ s5 = .int .i64 4 ∧ s10 = .int .i64 1) ∨ (s0 = .int .i64 16 ∧ s5 = .int .i64 12 ∧ s10 = .int .i64 2) ∨ (s0 = .int .i64 32 ∧ s5 = .int .i64 28 ∧ s10 = .int .i64 3)) (fun _ _ i => 3 - (intOf i).toNat)
  case atStart => exact .inl ⟨rfl, rfl, rfl⟩
  case round =>
    rcases hrel with ⟨rfl, rfl, rfl⟩ | ⟨rfl, rfl, rfl⟩ | ⟨rfl, rfl, rfl⟩ | ⟨rfl, rfl, rfl⟩
    · go_wp2_with fail
      go_round
      case rel => exact (.inr (.inl ⟨rfl, rfl, rfl⟩))
      case measure => simp [intOf]
    · go_wp2_with fail
      go_round
      case rel => exact (.inr (.inr (.inl ⟨rfl, rfl, rfl⟩)))
      case measure => simp [intOf]
    · go_wp2_with fail
      go_round
      case rel => exact (.inr (.inr (.inr (⟨rfl, rfl, rfl⟩))))
      case measure => simp [intOf]
    · go_wp2_with fail
      go_ret
      exact ⟨rfl, rfl⟩
set_option maxRecDepth 100000 in
set_option maxHeartbeats 8000000 in
theorem rules_any (a0 : ByteArray) (a1 : Int) (a2 : Int) (a3 : Int) (a4 : Int) (a5 : Int) (a6 : Int) (a7 : Int) (a8 : Int) (a9 : Int) (a10 : ByteArray) (b0 : ByteArray) (b1 : Int) (b2 : Int) (b3 : Int) (b4 : Int) (b5 : Int) (b6 : Int) (b7 : Int) (b8 : Int) (b9 : Int) (b10 : ByteArray) (D : Int) (hD : (if a9 = b9 then 0 else 1) + (if a7 = b7 then 0 else 2) = D) (w : World) :
    Calls Tryd.prog 42 #[.agg #[.string a0, .int .i64 a1, .int .i64 a2, .int .i64 a3, .int .i64 a4, .int .i64 a5, .int .i64 a6, .int .i64 a7, .int .i64 a8, .int .i64 a9, .string a10], .agg #[.string b0, .int .i64 b1, .int .i64 b2, .int .i64 b3, .int .i64 b4, .int .i64 b5, .int .i64 b6, .int .i64 b7, .int .i64 b8, .int .i64 b9, .string b10]] w fun e w' => e = .returned (.tuple #[.int .i64 D, .bool (decide (a0 = b0 ∧ a1 = b1 ∧ a2 = b2 ∧ a3 = b3 ∧ a4 = b4 ∧ a5 = b5 ∧ a6 = b6 ∧ a8 = b8 ∧ a10 = b10))]) ∧ Below w.heap.size w w' := by
  by_cases h9 : a9 = b9
  · have n9 : (a9 != b9) = false := by simp [h9]
    by_cases h7 : a7 = b7
    · have n7 : (a7 != b7) = false := by simp [h7]
      obtain rfl : D = 0 := by rw [← hD]; simp [h9, h7]
      have cS := Lib.hid (sum_1_00 (w.heap.size + 2) 2 (((w.alloc (.cells #[.string a0, .int .i64 a1, .int .i64 a2, .int .i64 a3, .int .i64 a4, .int .i64 a5, .int .i64 a6, .int .i64 a7, .int .i64 a8, .int .i64 a9, .string a10] 46)).alloc (.cells #[.string b0, .int .i64 b1, .int .i64 b2, .int .i64 b3, .int .i64 b4, .int .i64 b5, .int .i64 b6, .int .i64 b7, .int .i64 b8, .int .i64 b9, .string b10] 46)).alloc (.cells #[.bool false, .bool false] 4)) (fun j u hu => ((Blk.newAt ((w.alloc (.cells #[.string a0, .int .i64 a1, .int .i64 a2, .int .i64 a3, .int .i64 a4, .int .i64 a5, .int .i64 a6, .int .i64 a7, .int .i64 a8, .int .i64 a9, .string a10] 46)).alloc (.cells #[.string b0, .int .i64 b1, .int .i64 b2, .int .i64 b3, .int .i64 b4, .int .i64 b5, .int .i64 b6, .int .i64 b7, .int .i64 b8, .int .i64 b9, .string b10] 46)) (w.heap.size + 2) (by simp) 4 #[.bool false, .bool false]).cell j).trans hu))
      clear h9 h7 hD
      go_enter Tryd.func42, Tryd.ntmps42
      go_wp2_with fail
      refine cS.out.mono ?_
      rintro e w1 ⟨rfl, rfl⟩
      clear cS n9 n7
      go_wp2_with fail
      go_region
      go_wp2_with fail
      go_quiet (fail)
      go_wp2_with fail
      go_ret2
      exact ⟨by simp only [Bool.decide_and] <;> rfl, below_drewN ((((Below.refl w.heap.size w).alloc (Nat.le_refl _) _).alloc (by simp) _).alloc (by simp; omega) _).drew _⟩
    · have n7 : (a7 != b7) = true := by simp [h7]
      obtain rfl : D = 2 := by rw [← hD]; simp [h9, h7]
      have cS := Lib.hid (sum_1_01 (w.heap.size + 2) 2 (((w.alloc (.cells #[.string a0, .int .i64 a1, .int .i64 a2, .int .i64 a3, .int .i64 a4, .int .i64 a5, .int .i64 a6, .int .i64 a7, .int .i64 a8, .int .i64 a9, .string a10] 46)).alloc (.cells #[.string b0, .int .i64 b1, .int .i64 b2, .int .i64 b3, .int .i64 b4, .int .i64 b5, .int .i64 b6, .int .i64 b7, .int .i64 b8, .int .i64 b9, .string b10] 46)).alloc (.cells #[.bool false, .bool true] 4)) (fun j u hu => ((Blk.newAt ((w.alloc (.cells #[.string a0, .int .i64 a1, .int .i64 a2, .int .i64 a3, .int .i64 a4, .int .i64 a5, .int .i64 a6, .int .i64 a7, .int .i64 a8, .int .i64 a9, .string a10] 46)).alloc (.cells #[.string b0, .int .i64 b1, .int .i64 b2, .int .i64 b3, .int .i64 b4, .int .i64 b5, .int .i64 b6, .int .i64 b7, .int .i64 b8, .int .i64 b9, .string b10] 46)) (w.heap.size + 2) (by simp) 4 #[.bool false, .bool true]).cell j).trans hu))
      clear h9 h7 hD
      go_enter Tryd.func42, Tryd.ntmps42
      go_wp2_with fail
      refine cS.out.mono ?_
      rintro e w1 ⟨rfl, rfl⟩
      clear cS n9 n7
      go_wp2_with fail
      go_region
      go_wp2_with fail
      go_quiet (fail)
      go_wp2_with fail
      go_ret2
      exact ⟨by simp only [Bool.decide_and] <;> rfl, below_drewN ((((Below.refl w.heap.size w).alloc (Nat.le_refl _) _).alloc (by simp) _).alloc (by simp; omega) _).drew _⟩
  · have n9 : (a9 != b9) = true := by simp [h9]
    by_cases h7 : a7 = b7
    · have n7 : (a7 != b7) = false := by simp [h7]
      obtain rfl : D = 1 := by rw [← hD]; simp [h9, h7]
      have cS := Lib.hid (sum_1_10 (w.heap.size + 2) 2 (((w.alloc (.cells #[.string a0, .int .i64 a1, .int .i64 a2, .int .i64 a3, .int .i64 a4, .int .i64 a5, .int .i64 a6, .int .i64 a7, .int .i64 a8, .int .i64 a9, .string a10] 46)).alloc (.cells #[.string b0, .int .i64 b1, .int .i64 b2, .int .i64 b3, .int .i64 b4, .int .i64 b5, .int .i64 b6, .int .i64 b7, .int .i64 b8, .int .i64 b9, .string b10] 46)).alloc (.cells #[.bool true, .bool false] 4)) (fun j u hu => ((Blk.newAt ((w.alloc (.cells #[.string a0, .int .i64 a1, .int .i64 a2, .int .i64 a3, .int .i64 a4, .int .i64 a5, .int .i64 a6, .int .i64 a7, .int .i64 a8, .int .i64 a9, .string a10] 46)).alloc (.cells #[.string b0, .int .i64 b1, .int .i64 b2, .int .i64 b3, .int .i64 b4, .int .i64 b5, .int .i64 b6, .int .i64 b7, .int .i64 b8, .int .i64 b9, .string b10] 46)) (w.heap.size + 2) (by simp) 4 #[.bool true, .bool false]).cell j).trans hu))
      clear h9 h7 hD
      go_enter Tryd.func42, Tryd.ntmps42
      go_wp2_with fail
      refine cS.out.mono ?_
      rintro e w1 ⟨rfl, rfl⟩
      clear cS n9 n7
      go_wp2_with fail
      go_region
      go_wp2_with fail
      go_quiet (fail)
      go_wp2_with fail
      go_ret2
      exact ⟨by simp only [Bool.decide_and] <;> rfl, below_drewN ((((Below.refl w.heap.size w).alloc (Nat.le_refl _) _).alloc (by simp) _).alloc (by simp; omega) _).drew _⟩
    · have n7 : (a7 != b7) = true := by simp [h7]
      obtain rfl : D = 3 := by rw [← hD]; simp [h9, h7]
      have cS := Lib.hid (sum_1_11 (w.heap.size + 2) 2 (((w.alloc (.cells #[.string a0, .int .i64 a1, .int .i64 a2, .int .i64 a3, .int .i64 a4, .int .i64 a5, .int .i64 a6, .int .i64 a7, .int .i64 a8, .int .i64 a9, .string a10] 46)).alloc (.cells #[.string b0, .int .i64 b1, .int .i64 b2, .int .i64 b3, .int .i64 b4, .int .i64 b5, .int .i64 b6, .int .i64 b7, .int .i64 b8, .int .i64 b9, .string b10] 46)).alloc (.cells #[.bool true, .bool true] 4)) (fun j u hu => ((Blk.newAt ((w.alloc (.cells #[.string a0, .int .i64 a1, .int .i64 a2, .int .i64 a3, .int .i64 a4, .int .i64 a5, .int .i64 a6, .int .i64 a7, .int .i64 a8, .int .i64 a9, .string a10] 46)).alloc (.cells #[.string b0, .int .i64 b1, .int .i64 b2, .int .i64 b3, .int .i64 b4, .int .i64 b5, .int .i64 b6, .int .i64 b7, .int .i64 b8, .int .i64 b9, .string b10] 46)) (w.heap.size + 2) (by simp) 4 #[.bool true, .bool true]).cell j).trans hu))
      clear h9 h7 hD
      go_enter Tryd.func42, Tryd.ntmps42
      go_wp2_with fail
      refine cS.out.mono ?_
      rintro e w1 ⟨rfl, rfl⟩
      clear cS n9 n7
      go_wp2_with fail
      go_region
      go_wp2_with fail
      go_quiet (fail)
      go_wp2_with fail
      go_ret2
      exact ⟨by simp only [Bool.decide_and] <;> rfl, below_drewN ((((Below.refl w.heap.size w).alloc (Nat.le_refl _) _).alloc (by simp) _).alloc (by simp; omega) _).drew _⟩
set_option maxRecDepth 100000 in
set_option maxHeartbeats 8000000 in
theorem eras_any (a0 : Int) (a1 : Int) (a2 : Int) (a3 : ByteArray) (a4 : ByteArray) (a5 : Bool) (a6 : Int) (a7 : Int) (a8 : Int) (a9 : Int) (a10 : Int) (a11 : Int) (a12 : Int) (b0 : Int) (b1 : Int) (b2 : Int) (b3 : ByteArray) (b4 : ByteArray) (b5 : Bool) (b6 : Int) (b7 : Int) (b8 : Int) (b9 : Int) (b10 : Int) (b11 : Int) (b12 : Int) (D : Int) (hD : (if a0 = b0 then 0 else 4) + (if a4 = b4 then 0 else 8) + (if a11 = b11 then 0 else 16) = D) (w : World) :
    Calls Tryd.prog 46 #[.agg #[.int .i64 a0, .int .i64 a1, .int .i64 a2, .string a3, .string a4, .bool a5, .int .i64 a6, .int .i64 a7, .int .i64 a8, .int .i64 a9, .int .i64 a10, .int .i64 a11, .int .i64 a12], .agg #[.int .i64 b0, .int .i64 b1, .int .i64 b2, .string b3, .string b4, .bool b5, .int .i64 b6, .int .i64 b7, .int .i64 b8, .int .i64 b9, .int .i64 b10, .int .i64 b11, .int .i64 b12]] w fun e w' => e = .returned (.tuple #[.int .i64 D, .bool (decide (a1 = b1 ∧ a2 = b2 ∧ a3 = b3 ∧ a5 = b5 ∧ a6 = b6 ∧ a7 = b7 ∧ a8 = b8 ∧ a9 = b9 ∧ a10 = b10 ∧ a12 = b12))]) ∧ Below w.heap.size w w' := by
  by_cases h0 : a0 = b0
  · have n0 : (a0 != b0) = false := by simp [h0]
    by_cases h4 : a4 = b4
    · have n4 : (a4.toList == b4.toList) = true := by simp [h4]
      have m4 : (a4.toList != b4.toList) = false := by unfold bne; rw [n4]; rfl
      by_cases h11 : a11 = b11
      · have n11 : (a11 != b11) = false := by simp [h11]
        obtain rfl : D = 0 := by rw [← hD]; simp [h0, h4, h11]
        have cS := Lib.hid (sum_4_000 (w.heap.size + 2) 3 (((w.alloc (.cells #[.int .i64 a0, .int .i64 a1, .int .i64 a2, .string a3, .string a4, .bool a5, .int .i64 a6, .int .i64 a7, .int .i64 a8, .int .i64 a9, .int .i64 a10, .int .i64 a11, .int .i64 a12] 58)).alloc (.cells #[.int .i64 b0, .int .i64 b1, .int .i64 b2, .string b3, .string b4, .bool b5, .int .i64 b6, .int .i64 b7, .int .i64 b8, .int .i64 b9, .int .i64 b10, .int .i64 b11, .int .i64 b12] 58)).alloc (.cells #[.bool false, .bool false, .bool false] 4)) (fun j u hu => ((Blk.newAt ((w.alloc (.cells #[.int .i64 a0, .int .i64 a1, .int .i64 a2, .string a3, .string a4, .bool a5, .int .i64 a6, .int .i64 a7, .int .i64 a8, .int .i64 a9, .int .i64 a10, .int .i64 a11, .int .i64 a12] 58)).alloc (.cells #[.int .i64 b0, .int .i64 b1, .int .i64 b2, .string b3, .string b4, .bool b5, .int .i64 b6, .int .i64 b7, .int .i64 b8, .int .i64 b9, .int .i64 b10, .int .i64 b11, .int .i64 b12] 58)) (w.heap.size + 2) (by simp) 4 #[.bool false, .bool false, .bool false]).cell j).trans hu))
        clear h0 h4 h11 hD
        go_enter Tryd.func46, Tryd.ntmps46
        go_wp2_with fail
        refine cS.out.mono ?_
        rintro e w1 ⟨rfl, rfl⟩
        clear cS n0 n4 m4 n11
        go_wp2_with fail
        go_region
        go_wp2_with fail
        go_quiet (fail)
        go_wp2_with fail
        go_ret2
        exact ⟨by simp only [Bool.decide_and] <;> rfl, below_drewN ((((Below.refl w.heap.size w).alloc (Nat.le_refl _) _).alloc (by simp) _).alloc (by simp; omega) _).drew _⟩
      · have n11 : (a11 != b11) = true := by simp [h11]
        obtain rfl : D = 16 := by rw [← hD]; simp [h0, h4, h11]
        have cS := Lib.hid (sum_4_001 (w.heap.size + 2) 3 (((w.alloc (.cells #[.int .i64 a0, .int .i64 a1, .int .i64 a2, .string a3, .string a4, .bool a5, .int .i64 a6, .int .i64 a7, .int .i64 a8, .int .i64 a9, .int .i64 a10, .int .i64 a11, .int .i64 a12] 58)).alloc (.cells #[.int .i64 b0, .int .i64 b1, .int .i64 b2, .string b3, .string b4, .bool b5, .int .i64 b6, .int .i64 b7, .int .i64 b8, .int .i64 b9, .int .i64 b10, .int .i64 b11, .int .i64 b12] 58)).alloc (.cells #[.bool false, .bool false, .bool true] 4)) (fun j u hu => ((Blk.newAt ((w.alloc (.cells #[.int .i64 a0, .int .i64 a1, .int .i64 a2, .string a3, .string a4, .bool a5, .int .i64 a6, .int .i64 a7, .int .i64 a8, .int .i64 a9, .int .i64 a10, .int .i64 a11, .int .i64 a12] 58)).alloc (.cells #[.int .i64 b0, .int .i64 b1, .int .i64 b2, .string b3, .string b4, .bool b5, .int .i64 b6, .int .i64 b7, .int .i64 b8, .int .i64 b9, .int .i64 b10, .int .i64 b11, .int .i64 b12] 58)) (w.heap.size + 2) (by simp) 4 #[.bool false, .bool false, .bool true]).cell j).trans hu))
        clear h0 h4 h11 hD
        go_enter Tryd.func46, Tryd.ntmps46
        go_wp2_with fail
        refine cS.out.mono ?_
        rintro e w1 ⟨rfl, rfl⟩
        clear cS n0 n4 m4 n11
        go_wp2_with fail
        go_region
        go_wp2_with fail
        go_quiet (fail)
        go_wp2_with fail
        go_ret2
        exact ⟨by simp only [Bool.decide_and] <;> rfl, below_drewN ((((Below.refl w.heap.size w).alloc (Nat.le_refl _) _).alloc (by simp) _).alloc (by simp; omega) _).drew _⟩
    · have n4 : (a4.toList == b4.toList) = false := by rw [beq_eq_false_iff_ne]; exact fun q => h4 ((toList_eq_iff _ _).1 q)
      have m4 : (a4.toList != b4.toList) = true := by unfold bne; rw [n4]; rfl
      by_cases h11 : a11 = b11
      · have n11 : (a11 != b11) = false := by simp [h11]
        obtain rfl : D = 8 := by rw [← hD]; simp [h0, h4, h11]
        have cS := Lib.hid (sum_4_010 (w.heap.size + 2) 3 (((w.alloc (.cells #[.int .i64 a0, .int .i64 a1, .int .i64 a2, .string a3, .string a4, .bool a5, .int .i64 a6, .int .i64 a7, .int .i64 a8, .int .i64 a9, .int .i64 a10, .int .i64 a11, .int .i64 a12] 58)).alloc (.cells #[.int .i64 b0, .int .i64 b1, .int .i64 b2, .string b3, .string b4, .bool b5, .int .i64 b6, .int .i64 b7, .int .i64 b8, .int .i64 b9, .int .i64 b10, .int .i64 b11, .int .i64 b12] 58)).alloc (.cells #[.bool false, .bool true, .bool false] 4)) (fun j u hu => ((Blk.newAt ((w.alloc (.cells #[.int .i64 a0, .int .i64 a1, .int .i64 a2, .string a3, .string a4, .bool a5, .int .i64 a6, .int .i64 a7, .int .i64 a8, .int .i64 a9, .int .i64 a10, .int .i64 a11, .int .i64 a12] 58)).alloc (.cells #[.int .i64 b0, .int .i64 b1, .int .i64 b2, .string b3, .string b4, .bool b5, .int .i64 b6, .int .i64 b7, .int .i64 b8, .int .i64 b9, .int .i64 b10, .int .i64 b11, .int .i64 b12] 58)) (w.heap.size + 2) (by simp) 4 #[.bool false, .bool true, .bool false]).cell j).trans hu))
        clear h0 h4 h11 hD
        go_enter Tryd.func46, Tryd.ntmps46
        go_wp2_with fail
        refine cS.out.mono ?_
        rintro e w1 ⟨rfl, rfl⟩
        clear cS n0 n4 m4 n11
        go_wp2_with fail
        go_region
        go_wp2_with fail
        go_quiet (fail)
        go_wp2_with fail
        go_ret2
        exact ⟨by simp only [Bool.decide_and] <;> rfl, below_drewN ((((Below.refl w.heap.size w).alloc (Nat.le_refl _) _).alloc (by simp) _).alloc (by simp; omega) _).drew _⟩
      · have n11 : (a11 != b11) = true := by simp [h11]
        obtain rfl : D = 24 := by rw [← hD]; simp [h0, h4, h11]
        have cS := Lib.hid (sum_4_011 (w.heap.size + 2) 3 (((w.alloc (.cells #[.int .i64 a0, .int .i64 a1, .int .i64 a2, .string a3, .string a4, .bool a5, .int .i64 a6, .int .i64 a7, .int .i64 a8, .int .i64 a9, .int .i64 a10, .int .i64 a11, .int .i64 a12] 58)).alloc (.cells #[.int .i64 b0, .int .i64 b1, .int .i64 b2, .string b3, .string b4, .bool b5, .int .i64 b6, .int .i64 b7, .int .i64 b8, .int .i64 b9, .int .i64 b10, .int .i64 b11, .int .i64 b12] 58)).alloc (.cells #[.bool false, .bool true, .bool true] 4)) (fun j u hu => ((Blk.newAt ((w.alloc (.cells #[.int .i64 a0, .int .i64 a1, .int .i64 a2, .string a3, .string a4, .bool a5, .int .i64 a6, .int .i64 a7, .int .i64 a8, .int .i64 a9, .int .i64 a10, .int .i64 a11, .int .i64 a12] 58)).alloc (.cells #[.int .i64 b0, .int .i64 b1, .int .i64 b2, .string b3, .string b4, .bool b5, .int .i64 b6, .int .i64 b7, .int .i64 b8, .int .i64 b9, .int .i64 b10, .int .i64 b11, .int .i64 b12] 58)) (w.heap.size + 2) (by simp) 4 #[.bool false, .bool true, .bool true]).cell j).trans hu))
        clear h0 h4 h11 hD
        go_enter Tryd.func46, Tryd.ntmps46
        go_wp2_with fail
        refine cS.out.mono ?_
        rintro e w1 ⟨rfl, rfl⟩
        clear cS n0 n4 m4 n11
        go_wp2_with fail
        go_region
        go_wp2_with fail
        go_quiet (fail)
        go_wp2_with fail
        go_ret2
        exact ⟨by simp only [Bool.decide_and] <;> rfl, below_drewN ((((Below.refl w.heap.size w).alloc (Nat.le_refl _) _).alloc (by simp) _).alloc (by simp; omega) _).drew _⟩
  · have n0 : (a0 != b0) = true := by simp [h0]
    by_cases h4 : a4 = b4
    · have n4 : (a4.toList == b4.toList) = true := by simp [h4]
      have m4 : (a4.toList != b4.toList) = false := by unfold bne; rw [n4]; rfl
      by_cases h11 : a11 = b11
      · have n11 : (a11 != b11) = false := by simp [h11]
        obtain rfl : D = 4 := by rw [← hD]; simp [h0, h4, h11]
        have cS := Lib.hid (sum_4_100 (w.heap.size + 2) 3 (((w.alloc (.cells #[.int .i64 a0, .int .i64 a1, .int .i64 a2, .string a3, .string a4, .bool a5, .int .i64 a6, .int .i64 a7, .int .i64 a8, .int .i64 a9, .int .i64 a10, .int .i64 a11, .int .i64 a12] 58)).alloc (.cells #[.int .i64 b0, .int .i64 b1, .int .i64 b2, .string b3, .string b4, .bool b5, .int .i64 b6, .int .i64 b7, .int .i64 b8, .int .i64 b9, .int .i64 b10, .int .i64 b11, .int .i64 b12] 58)).alloc (.cells #[.bool true, .bool false, .bool false] 4)) (fun j u hu => ((Blk.newAt ((w.alloc (.cells #[.int .i64 a0, .int .i64 a1, .int .i64 a2, .string a3, .string a4, .bool a5, .int .i64 a6, .int .i64 a7, .int .i64 a8, .int .i64 a9, .int .i64 a10, .int .i64 a11, .int .i64 a12] 58)).alloc (.cells #[.int .i64 b0, .int .i64 b1, .int .i64 b2, .string b3, .string b4, .bool b5, .int .i64 b6, .int .i64 b7, .int .i64 b8, .int .i64 b9, .int .i64 b10, .int .i64 b11, .int .i64 b12] 58)) (w.heap.size + 2) (by simp) 4 #[.bool true, .bool false, .bool false]).cell j).trans hu))
        clear h0 h4 h11 hD
        go_enter Tryd.func46, Tryd.ntmps46
        go_wp2_with fail
        refine cS.out.mono ?_
        rintro e w1 ⟨rfl, rfl⟩
        clear cS n0 n4 m4 n11
        go_wp2_with fail
        go_region
        go_wp2_with fail
        go_quiet (fail)
        go_wp2_with fail
        go_ret2
        exact ⟨by simp only [Bool.decide_and] <;> rfl, below_drewN ((((Below.refl w.heap.size w).alloc (Nat.le_refl _) _).alloc (by simp) _).alloc (by simp; omega) _).drew _⟩
      · have n11 : (a11 != b11) = true := by simp [h11]
        obtain rfl : D = 20 := by rw [← hD]; simp [h0, h4, h11]
        have cS := Lib.hid (sum_4_101 (w.heap.size + 2) 3 (((w.alloc (.cells #[.int .i64 a0, .int .i64 a1, .int .i64 a2, .string a3, .string a4, .bool a5, .int .i64 a6, .int .i64 a7, .int .i64 a8, .int .i64 a9, .int .i64 a10, .int .i64 a11, .int .i64 a12] 58)).alloc (.cells #[.int .i64 b0, .int .i64 b1, .int .i64 b2, .string b3, .string b4, .bool b5, .int .i64 b6, .int .i64 b7, .int .i64 b8, .int .i64 b9, .int .i64 b10, .int .i64 b11, .int .i64 b12] 58)).alloc (.cells #[.bool true, .bool false, .bool true] 4)) (fun j u hu => ((Blk.newAt ((w.alloc (.cells #[.int .i64 a0, .int .i64 a1, .int .i64 a2, .string a3, .string a4, .bool a5, .int .i64 a6, .int .i64 a7, .int .i64 a8, .int .i64 a9, .int .i64 a10, .int .i64 a11, .int .i64 a12] 58)).alloc (.cells #[.int .i64 b0, .int .i64 b1, .int .i64 b2, .string b3, .string b4, .bool b5, .int .i64 b6, .int .i64 b7, .int .i64 b8, .int .i64 b9, .int .i64 b10, .int .i64 b11, .int .i64 b12] 58)) (w.heap.size + 2) (by simp) 4 #[.bool true, .bool false, .bool true]).cell j).trans hu))
        clear h0 h4 h11 hD
        go_enter Tryd.func46, Tryd.ntmps46
        go_wp2_with fail
        refine cS.out.mono ?_
        rintro e w1 ⟨rfl, rfl⟩
        clear cS n0 n4 m4 n11
        go_wp2_with fail
        go_region
        go_wp2_with fail
        go_quiet (fail)
        go_wp2_with fail
        go_ret2
        exact ⟨by simp only [Bool.decide_and] <;> rfl, below_drewN ((((Below.refl w.heap.size w).alloc (Nat.le_refl _) _).alloc (by simp) _).alloc (by simp; omega) _).drew _⟩
    · have n4 : (a4.toList == b4.toList) = false := by rw [beq_eq_false_iff_ne]; exact fun q => h4 ((toList_eq_iff _ _).1 q)
      have m4 : (a4.toList != b4.toList) = true := by unfold bne; rw [n4]; rfl
      by_cases h11 : a11 = b11
      · have n11 : (a11 != b11) = false := by simp [h11]
        obtain rfl : D = 12 := by rw [← hD]; simp [h0, h4, h11]
        have cS := Lib.hid (sum_4_110 (w.heap.size + 2) 3 (((w.alloc (.cells #[.int .i64 a0, .int .i64 a1, .int .i64 a2, .string a3, .string a4, .bool a5, .int .i64 a6, .int .i64 a7, .int .i64 a8, .int .i64 a9, .int .i64 a10, .int .i64 a11, .int .i64 a12] 58)).alloc (.cells #[.int .i64 b0, .int .i64 b1, .int .i64 b2, .string b3, .string b4, .bool b5, .int .i64 b6, .int .i64 b7, .int .i64 b8, .int .i64 b9, .int .i64 b10, .int .i64 b11, .int .i64 b12] 58)).alloc (.cells #[.bool true, .bool true, .bool false] 4)) (fun j u hu => ((Blk.newAt ((w.alloc (.cells #[.int .i64 a0, .int .i64 a1, .int .i64 a2, .string a3, .string a4, .bool a5, .int .i64 a6, .int .i64 a7, .int .i64 a8, .int .i64 a9, .int .i64 a10, .int .i64 a11, .int .i64 a12] 58)).alloc (.cells #[.int .i64 b0, .int .i64 b1, .int .i64 b2, .string b3, .string b4, .bool b5, .int .i64 b6, .int .i64 b7, .int .i64 b8, .int .i64 b9, .int .i64 b10, .int .i64 b11, .int .i64 b12] 58)) (w.heap.size + 2) (by simp) 4 #[.bool true, .bool true, .bool false]).cell j).trans hu))
        clear h0 h4 h11 hD
        go_enter Tryd.func46, Tryd.ntmps46
        go_wp2_with fail
        refine cS.out.mono ?_
        rintro e w1 ⟨rfl, rfl⟩
        clear cS n0 n4 m4 n11
        go_wp2_with fail
        go_region
        go_wp2_with fail
        go_quiet (fail)
        go_wp2_with fail
        go_ret2
        exact ⟨by simp only [Bool.decide_and] <;> rfl, below_drewN ((((Below.refl w.heap.size w).alloc (Nat.le_refl _) _).alloc (by simp) _).alloc (by simp; omega) _).drew _⟩
      · have n11 : (a11 != b11) = true := by simp [h11]
        obtain rfl : D = 28 := by rw [← hD]; simp [h0, h4, h11]
        have cS := Lib.hid (sum_4_111 (w.heap.size + 2) 3 (((w.alloc (.cells #[.int .i64 a0, .int .i64 a1, .int .i64 a2, .string a3, .string a4, .bool a5, .int .i64 a6, .int .i64 a7, .int .i64 a8, .int .i64 a9, .int .i64 a10, .int .i64 a11, .int .i64 a12] 58)).alloc (.cells #[.int .i64 b0, .int .i64 b1, .int .i64 b2, .string b3, .string b4, .bool b5, .int .i64 b6, .int .i64 b7, .int .i64 b8, .int .i64 b9, .int .i64 b10, .int .i64 b11, .int .i64 b12] 58)).alloc (.cells #[.bool true, .bool true, .bool true] 4)) (fun j u hu => ((Blk.newAt ((w.alloc (.cells #[.int .i64 a0, .int .i64 a1, .int .i64 a2, .string a3, .string a4, .bool a5, .int .i64 a6, .int .i64 a7, .int .i64 a8, .int .i64 a9, .int .i64 a10, .int .i64 a11, .int .i64 a12] 58)).alloc (.cells #[.int .i64 b0, .int .i64 b1, .int .i64 b2, .string b3, .string b4, .bool b5, .int .i64 b6, .int .i64 b7, .int .i64 b8, .int .i64 b9, .int .i64 b10, .int .i64 b11, .int .i64 b12] 58)) (w.heap.size + 2) (by simp) 4 #[.bool true, .bool true, .bool true]).cell j).trans hu))
        clear h0 h4 h11 hD
        go_enter Tryd.func46, Tryd.ntmps46
        go_wp2_with fail
        refine cS.out.mono ?_
        rintro e w1 ⟨rfl, rfl⟩
        clear cS n0 n4 m4 n11
        go_wp2_with fail
        go_region
        go_wp2_with fail
        go_quiet (fail)
        go_wp2_with fail
        go_ret2
        exact ⟨by simp only [Bool.decide_and] <;> rfl, below_drewN ((((Below.refl w.heap.size w).alloc (Nat.le_refl _) _).alloc (by simp) _).alloc (by simp; omega) _).drew _⟩
set_option maxRecDepth 100000 in
set_option maxHeartbeats 8000000 in
theorem rrules_any (a0 : ByteArray) (a1 : Int) (a2 : Int) (a3 : Int) (a4 : Int) (a5 : Int) (a6 : Int) (a7 : Int) (a8 : Int) (a9 : Int) (a10 : ByteArray) (b0 : ByteArray) (b1 : Int) (b2 : Int) (b3 : Int) (b4 : Int) (b5 : Int) (b6 : Int) (b7 : Int) (b8 : Int) (b9 : Int) (b10 : ByteArray) (D : Int) (hD : (if a9 = b9 then 0 else 1) + (if a7 = b7 then 0 else 2) = D) (w : World) :
    Calls Tryd.prog 48 #[.agg #[.string a0, .int .i64 a1, .int .i64 a2, .int .i64 a3, .int .i64 a4, .int .i64 a5, .int .i64 a6, .int .i64 a7, .int .i64 a8, .int .i64 a9, .string a10], .agg #[.string b0, .int .i64 b1, .int .i64 b2, .int .i64 b3, .int .i64 b4, .int .i64 b5, .int .i64 b6, .int .i64 b7, .int .i64 b8, .int .i64 b9, .string b10]] w fun e w' => e = .returned (.tuple #[.int .i64 D, .bool (decide (a0 = b0 ∧ a1 = b1 ∧ a2 = b2 ∧ a3 = b3 ∧ a4 = b4 ∧ a5 = b5 ∧ a6 = b6 ∧ a8 = b8 ∧ a10 = b10))]) ∧ Below w.heap.size w w' := by
  by_cases h9 : a9 = b9
  · have n9 : (a9 != b9) = false := by simp [h9]
    by_cases h7 : a7 = b7
    · have n7 : (a7 != b7) = false := by simp [h7]
      obtain rfl : D = 0 := by rw [← hD]; simp [h9, h7]
      clear h9 h7 hD
      go_enter Tryd.func48, Tryd.ntmps48
      go_wp2_with fail
      go_quiet (fail)
      go_wp2_with fail
      go_ret2
      exact ⟨by simp only [Bool.decide_and] <;> rfl, below_drewN (((Below.refl w.heap.size w).alloc (Nat.le_refl _) _).alloc (by simp) _) _⟩
    · have n7 : (a7 != b7) = true := by simp [h7]
      obtain rfl : D = 2 := by rw [← hD]; simp [h9, h7]
      clear h9 h7 hD
      go_enter Tryd.func48, Tryd.ntmps48
      go_wp2_with fail
      go_quiet (fail)
      go_wp2_with fail
      go_ret2
      exact ⟨by simp only [Bool.decide_and] <;> rfl, below_drewN (((Below.refl w.heap.size w).alloc (Nat.le_refl _) _).alloc (by simp) _) _⟩
  · have n9 : (a9 != b9) = true := by simp [h9]
    by_cases h7 : a7 = b7
    · have n7 : (a7 != b7) = false := by simp [h7]
      obtain rfl : D = 1 := by rw [← hD]; simp [h9, h7]
      clear h9 h7 hD
      go_enter Tryd.func48, Tryd.ntmps48
      go_wp2_with fail
      go_quiet (fail)
      go_wp2_with fail
      go_ret2
      exact ⟨by simp only [Bool.decide_and] <;> rfl, below_drewN (((Below.refl w.heap.size w).alloc (Nat.le_refl _) _).alloc (by simp) _) _⟩
    · have n7 : (a7 != b7) = true := by simp [h7]
      obtain rfl : D = 3 := by rw [← hD]; simp [h9, h7]
      clear h9 h7 hD
      go_enter Tryd.func48, Tryd.ntmps48
      go_wp2_with fail
      go_quiet (fail)
      go_wp2_with fail
      go_ret2
      exact ⟨by simp only [Bool.decide_and] <;> rfl, below_drewN (((Below.refl w.heap.size w).alloc (Nat.le_refl _) _).alloc (by simp) _) _⟩
set_option maxRecDepth 100000 in
set_option maxHeartbeats 8000000 in
theorem reras_any (a0 : Int) (a1 : Int) (a2 : Int) (a3 : ByteArray) (a4 : ByteArray) (a5 : Bool) (a6 : Int) (a7 : Int) (a8 : Int) (a9 : Int) (a10 : Int) (a11 : Int) (a12 : Int) (b0 : Int) (b1 : Int) (b2 : Int) (b3 : ByteArray) (b4 : ByteArray) (b5 : Bool) (b6 : Int) (b7 : Int) (b8 : Int) (b9 : Int) (b10 : Int) (b11 : Int) (b12 : Int) (D : Int) (hD : (if a0 = b0 then 0 else 4) + (if a4 = b4 then 0 else 8) + (if a11 = b11 then 0 else 16) = D) (w : World) :
    Calls Tryd.prog 49 #[.agg #[.int .i64 a0, .int .i64 a1, .int .i64 a2, .string a3, .string a4, .bool a5, .int .i64 a6, .int .i64 a7, .int .i64 a8, .int .i64 a9, .int .i64 a10, .int .i64 a11, .int .i64 a12], .agg #[.int .i64 b0, .int .i64 b1, .int .i64 b2, .string b3, .string b4, .bool b5, .int .i64 b6, .int .i64 b7, .int .i64 b8, .int .i64 b9, .int .i64 b10, .int .i64 b11, .int .i64 b12]] w fun e w' => e = .returned (.tuple #[.int .i64 D, .bool (decide (a1 = b1 ∧ a2 = b2 ∧ a3 = b3 ∧ a5 = b5 ∧ a6 = b6 ∧ a7 = b7 ∧ a8 = b8 ∧ a9 = b9 ∧ a10 = b10 ∧ a12 = b12))]) ∧ Below w.heap.size w w' := by
  by_cases h0 : a0 = b0
  · have n0 : (a0 != b0) = false := by simp [h0]
    by_cases h4 : a4 = b4
    · have n4 : (a4.toList == b4.toList) = true := by simp [h4]
      have m4 : (a4.toList != b4.toList) = false := by unfold bne; rw [n4]; rfl
      by_cases h11 : a11 = b11
      · have n11 : (a11 != b11) = false := by simp [h11]
        obtain rfl : D = 0 := by rw [← hD]; simp [h0, h4, h11]
        clear h0 h4 h11 hD
        go_enter Tryd.func49, Tryd.ntmps49
        go_wp2_with fail
        go_quiet (fail)
        go_wp2_with fail
        go_ret2
        exact ⟨by simp only [Bool.decide_and] <;> rfl, below_drewN (((Below.refl w.heap.size w).alloc (Nat.le_refl _) _).alloc (by simp) _) _⟩
      · have n11 : (a11 != b11) = true := by simp [h11]
        obtain rfl : D = 16 := by rw [← hD]; simp [h0, h4, h11]
        clear h0 h4 h11 hD
        go_enter Tryd.func49, Tryd.ntmps49
        go_wp2_with fail
        go_quiet (fail)
        go_wp2_with fail
        go_ret2
        exact ⟨by simp only [Bool.decide_and] <;> rfl, below_drewN (((Below.refl w.heap.size w).alloc (Nat.le_refl _) _).alloc (by simp) _) _⟩
    · have n4 : (a4.toList == b4.toList) = false := by rw [beq_eq_false_iff_ne]; exact fun q => h4 ((toList_eq_iff _ _).1 q)
      have m4 : (a4.toList != b4.toList) = true := by unfold bne; rw [n4]; rfl
      by_cases h11 : a11 = b11
      · have n11 : (a11 != b11) = false := by simp [h11]
        obtain rfl : D = 8 := by rw [← hD]; simp [h0, h4, h11]
        clear h0 h4 h11 hD
        go_enter Tryd.func49, Tryd.ntmps49
        go_wp2_with fail
        go_quiet (fail)
        go_wp2_with fail
        go_ret2
        exact ⟨by simp only [Bool.decide_and] <;> rfl, below_drewN (((Below.refl w.heap.size w).alloc (Nat.le_refl _) _).alloc (by simp) _) _⟩
      · have n11 : (a11 != b11) = true := by simp [h11]
        obtain rfl : D = 24 := by rw [← hD]; simp [h0, h4, h11]
        clear h0 h4 h11 hD
        go_enter Tryd.func49, Tryd.ntmps49
        go_wp2_with fail
        go_quiet (fail)
        go_wp2_with fail
        go_ret2
        exact ⟨by simp only [Bool.decide_and] <;> rfl, below_drewN (((Below.refl w.heap.size w).alloc (Nat.le_refl _) _).alloc (by simp) _) _⟩
  · have n0 : (a0 != b0) = true := by simp [h0]
    by_cases h4 : a4 = b4
    · have n4 : (a4.toList == b4.toList) = true := by simp [h4]
      have m4 : (a4.toList != b4.toList) = false := by unfold bne; rw [n4]; rfl
      by_cases h11 : a11 = b11
      · have n11 : (a11 != b11) = false := by simp [h11]
        obtain rfl : D = 4 := by rw [← hD]; simp [h0, h4, h11]
        clear h0 h4 h11 hD
        go_enter Tryd.func49, Tryd.ntmps49
        go_wp2_with fail
        go_quiet (fail)
        go_wp2_with fail
        go_ret2
        exact ⟨by simp only [Bool.decide_and] <;> rfl, below_drewN (((Below.refl w.heap.size w).alloc (Nat.le_refl _) _).alloc (by simp) _) _⟩
      · have n11 : (a11 != b11) = true := by simp [h11]
        obtain rfl : D = 20 := by rw [← hD]; simp [h0, h4, h11]
        clear h0 h4 h11 hD
        go_enter Tryd.func49, Tryd.ntmps49
        go_wp2_with fail
        go_quiet (fail)
        go_wp2_with fail
        go_ret2
        exact ⟨by simp only [Bool.decide_and] <;> rfl, below_drewN (((Below.refl w.heap.size w).alloc (Nat.le_refl _) _).alloc (by simp) _) _⟩
    · have n4 : (a4.toList == b4.toList) = false := by rw [beq_eq_false_iff_ne]; exact fun q => h4 ((toList_eq_iff _ _).1 q)
      have m4 : (a4.toList != b4.toList) = true := by unfold bne; rw [n4]; rfl
      by_cases h11 : a11 = b11
      · have n11 : (a11 != b11) = false := by simp [h11]
        obtain rfl : D = 12 := by rw [← hD]; simp [h0, h4, h11]
        clear h0 h4 h11 hD
        go_enter Tryd.func49, Tryd.ntmps49
        go_wp2_with fail
        go_quiet (fail)
        go_wp2_with fail
        go_ret2
        exact ⟨by simp only [Bool.decide_and] <;> rfl, below_drewN (((Below.refl w.heap.size w).alloc (Nat.le_refl _) _).alloc (by simp) _) _⟩
      · have n11 : (a11 != b11) = true := by simp [h11]
        obtain rfl : D = 28 := by rw [← hD]; simp [h0, h4, h11]
        clear h0 h4 h11 hD
        go_enter Tryd.func49, Tryd.ntmps49
        go_wp2_with fail
        go_quiet (fail)
        go_wp2_with fail
        go_ret2
        exact ⟨by simp only [Bool.decide_and] <;> rfl, below_drewN (((Below.refl w.heap.size w).alloc (Nat.le_refl _) _).alloc (by simp) _) _⟩
end Go.Proofs.YtggdfgdnpicepaaDoor
