/- Rules, eras, links, days and times are compared field by field: what the comparison answers. -/
import Derived.Test.YtmhciidliicheaaDoorSrc
import Derived.Test.YtmhciidliicheaaDoorChecked
import Derived.Laws.StructEq
namespace Go.Proofs.YtmhciidliicheaaDoor
open Go.RowKit
set_option linter.unusedVariables false
set_option linter.unusedSimpArgs false

theorem toList_eq_iff (a b : ByteArray) : (a.toList = b.toList) ↔ a = b := by
  constructor
  · intro h
    rw [ByteArray.toList_eq, ByteArray.toList_eq] at h
    exact ByteArray.ext (Array.ext' h)
  · rintro rfl; rfl
set_option maxRecDepth 100000 in
theorem eqi_day (d : Nat) (w : World) (a0 : Int) (a1 : Int) (a2 : Int) (b0 : Int) (b1 : Int) (b2 : Int) : (Op.equalIn (d + 2) 27 (.agg #[.int .i64 a0, .int .i64 a1, .int .i64 a2]) (.agg #[.int .i64 b0, .int .i64 b1, .int .i64 b2])).run Tryd.prog w = .ok (decide (a0 = b0 ∧ a1 = b1 ∧ a2 = b2)) w := by
  have p0 : Tryd.prog.stoodInHeld 27 = false := by kernel_rfl
  rw [run_equalIn_agg w (d + 1) 27 _ _ (by unfold Program.fieldsOf; rw [Tryd.underlying27]) p0]
  unfold Program.fieldsOf
  rw [Tryd.underlying27]
  simp [Op.eqFields, go_sem, Tryd.underlying3, toList_eq_iff]
  by_cases h0 : a0 = b0
  rotate_left
  · simp [h0]
  by_cases h1 : a1 = b1
  rotate_left
  · simp [h1]
  by_cases h2 : a2 = b2
  rotate_left
  · simp [h2]
  simp [h0, h1, h2]
theorem eql_day (w : World) (a0 : Int) (a1 : Int) (a2 : Int) (b0 : Int) (b1 : Int) (b2 : Int) : (binOp .eql 27 (.agg #[.int .i64 a0, .int .i64 a1, .int .i64 a2]) (.agg #[.int .i64 b0, .int .i64 b1, .int .i64 b2])).run Tryd.prog w = .ok (.bool (decide (a0 = b0 ∧ a1 = b1 ∧ a2 = b2))) w := by
  rw [run_eql_struct, eqi_day 9998]; rfl
theorem neq_day (w : World) (a0 : Int) (a1 : Int) (a2 : Int) (b0 : Int) (b1 : Int) (b2 : Int) : (binOp .neq 27 (.agg #[.int .i64 a0, .int .i64 a1, .int .i64 a2]) (.agg #[.int .i64 b0, .int .i64 b1, .int .i64 b2])).run Tryd.prog w = .ok (.bool (!decide (a0 = b0 ∧ a1 = b1 ∧ a2 = b2))) w := by
  rw [run_neq_struct, eqi_day 9998]; rfl
set_option maxRecDepth 100000 in
theorem eqi_clock (d : Nat) (w : World) (a0 : Int) (a1 : Int) (b0 : Int) (b1 : Int) : (Op.equalIn (d + 2) 29 (.agg #[.int .i64 a0, .int .i64 a1]) (.agg #[.int .i64 b0, .int .i64 b1])).run Tryd.prog w = .ok (decide (a0 = b0 ∧ a1 = b1)) w := by
  have p0 : Tryd.prog.stoodInHeld 29 = false := by kernel_rfl
  rw [run_equalIn_agg w (d + 1) 29 _ _ (by unfold Program.fieldsOf; rw [Tryd.underlying29]) p0]
  unfold Program.fieldsOf
  rw [Tryd.underlying29]
  simp [Op.eqFields, go_sem, Tryd.underlying2, Tryd.underlying3, toList_eq_iff]
  by_cases h0 : a0 = b0
  rotate_left
  · simp [h0]
  by_cases h1 : a1 = b1
  rotate_left
  · simp [h1]
  simp [h0, h1]
theorem eql_clock (w : World) (a0 : Int) (a1 : Int) (b0 : Int) (b1 : Int) : (binOp .eql 29 (.agg #[.int .i64 a0, .int .i64 a1]) (.agg #[.int .i64 b0, .int .i64 b1])).run Tryd.prog w = .ok (.bool (decide (a0 = b0 ∧ a1 = b1))) w := by
  rw [run_eql_struct, eqi_clock 9998]; rfl
theorem neq_clock (w : World) (a0 : Int) (a1 : Int) (b0 : Int) (b1 : Int) : (binOp .neq 29 (.agg #[.int .i64 a0, .int .i64 a1]) (.agg #[.int .i64 b0, .int .i64 b1])).run Tryd.prog w = .ok (.bool (!decide (a0 = b0 ∧ a1 = b1))) w := by
  rw [run_neq_struct, eqi_clock 9998]; rfl
set_option maxRecDepth 100000 in
theorem eqi_rule (d : Nat) (w : World) (a0 : ByteArray) (a1 : Int) (a2 : Int) (a3 : Int) (a4 : Int) (a5 : Int) (a6 : Int) (a7 : Int) (a8 : Int) (a9 : Int) (a10 : ByteArray) (b0 : ByteArray) (b1 : Int) (b2 : Int) (b3 : Int) (b4 : Int) (b5 : Int) (b6 : Int) (b7 : Int) (b8 : Int) (b9 : Int) (b10 : ByteArray) : (Op.equalIn (d + 4) 38 (.agg #[.string a0, .int .i64 a1, .int .i64 a2, .int .i64 a3, .int .i64 a4, .int .i64 a5, .int .i64 a6, .int .i64 a7, .int .i64 a8, .int .i64 a9, .string a10]) (.agg #[.string b0, .int .i64 b1, .int .i64 b2, .int .i64 b3, .int .i64 b4, .int .i64 b5, .int .i64 b6, .int .i64 b7, .int .i64 b8, .int .i64 b9, .string b10])).run Tryd.prog w = .ok (decide (a0 = b0 ∧ a1 = b1 ∧ a2 = b2 ∧ a3 = b3 ∧ a4 = b4 ∧ a5 = b5 ∧ a6 = b6 ∧ a7 = b7 ∧ a8 = b8 ∧ a9 = b9 ∧ a10 = b10)) w := by
  have p0 : Tryd.prog.stoodInHeld 38 = false := by kernel_rfl
  rw [run_equalIn_agg w (d + 3) 38 _ _ (by unfold Program.fieldsOf; rw [Tryd.underlying38]) p0]
  unfold Program.fieldsOf
  rw [Tryd.underlying38]
  simp [Op.eqFields, go_sem, Tryd.underlying9, Tryd.underlying3, Tryd.underlying2, Tryd.underlying27, Tryd.underlying29, eqi_day, eqi_clock, toList_eq_iff]
  by_cases h0 : a0 = b0
  rotate_left
  · simp [h0]
  by_cases h1 : a1 = b1
  rotate_left
  · simp [h1]
  by_cases h2 : a2 = b2
  rotate_left
  · simp [h2]
  by_cases h3 : a3 = b3
  rotate_left
  · simp [h3]
  by_cases h4 : a4 = b4
  rotate_left
  · simp [h4]
  by_cases h5 : a5 = b5
  rotate_left
  · simp [h5]
  by_cases h6 : a6 = b6
  rotate_left
  · simp [h6]
  by_cases h7 : a7 = b7
  rotate_left
  · simp [h7]
  by_cases h8 : a8 = b8
  rotate_left
  · simp [h8]
  by_cases h9 : a9 = b9
  rotate_left
  · simp [h9]
  by_cases h10 : a10 = b10
  rotate_left
  · simp [h10]
  simp [h0, h1, h2, h3, h4, h5, h6, h7, h8, h9, h10]
theorem eql_rule (w : World) (a0 : ByteArray) (a1 : Int) (a2 : Int) (a3 : Int) (a4 : Int) (a5 : Int) (a6 : Int) (a7 : Int) (a8 : Int) (a9 : Int) (a10 : ByteArray) (b0 : ByteArray) (b1 : Int) (b2 : Int) (b3 : Int) (b4 : Int) (b5 : Int) (b6 : Int) (b7 : Int) (b8 : Int) (b9 : Int) (b10 : ByteArray) : (binOp .eql 38 (.agg #[.string a0, .int .i64 a1, .int .i64 a2, .int .i64 a3, .int .i64 a4, .int .i64 a5, .int .i64 a6, .int .i64 a7, .int .i64 a8, .int .i64 a9, .string a10]) (.agg #[.string b0, .int .i64 b1, .int .i64 b2, .int .i64 b3, .int .i64 b4, .int .i64 b5, .int .i64 b6, .int .i64 b7, .int .i64 b8, .int .i64 b9, .string b10])).run Tryd.prog w = .ok (.bool (decide (a0 = b0 ∧ a1 = b1 ∧ a2 = b2 ∧ a3 = b3 ∧ a4 = b4 ∧ a5 = b5 ∧ a6 = b6 ∧ a7 = b7 ∧ a8 = b8 ∧ a9 = b9 ∧ a10 = b10))) w := by
  rw [run_eql_struct, eqi_rule 9996]; rfl
theorem neq_rule (w : World) (a0 : ByteArray) (a1 : Int) (a2 : Int) (a3 : Int) (a4 : Int) (a5 : Int) (a6 : Int) (a7 : Int) (a8 : Int) (a9 : Int) (a10 : ByteArray) (b0 : ByteArray) (b1 : Int) (b2 : Int) (b3 : Int) (b4 : Int) (b5 : Int) (b6 : Int) (b7 : Int) (b8 : Int) (b9 : Int) (b10 : ByteArray) : (binOp .neq 38 (.agg #[.string a0, .int .i64 a1, .int .i64 a2, .int .i64 a3, .int .i64 a4, .int .i64 a5, .int .i64 a6, .int .i64 a7, .int .i64 a8, .int .i64 a9, .string a10]) (.agg #[.string b0, .int .i64 b1, .int .i64 b2, .int .i64 b3, .int .i64 b4, .int .i64 b5, .int .i64 b6, .int .i64 b7, .int .i64 b8, .int .i64 b9, .string b10])).run Tryd.prog w = .ok (.bool (!decide (a0 = b0 ∧ a1 = b1 ∧ a2 = b2 ∧ a3 = b3 ∧ a4 = b4 ∧ a5 = b5 ∧ a6 = b6 ∧ a7 = b7 ∧ a8 = b8 ∧ a9 = b9 ∧ a10 = b10))) w := by
  rw [run_neq_struct, eqi_rule 9996]; rfl
set_option maxRecDepth 100000 in
theorem eqi_until (d : Nat) (w : World) (a0 : Bool) (a1 : Int) (a2 : Int) (a3 : Int) (a4 : Int) (a5 : Int) (a6 : Int) (a7 : Int) (b0 : Bool) (b1 : Int) (b2 : Int) (b3 : Int) (b4 : Int) (b5 : Int) (b6 : Int) (b7 : Int) : (Op.equalIn (d + 4) 31 (.agg #[.bool a0, .int .i64 a1, .int .i64 a2, .int .i64 a3, .int .i64 a4, .int .i64 a5, .int .i64 a6, .int .i64 a7]) (.agg #[.bool b0, .int .i64 b1, .int .i64 b2, .int .i64 b3, .int .i64 b4, .int .i64 b5, .int .i64 b6, .int .i64 b7])).run Tryd.prog w = .ok (decide (a0 = b0 ∧ a1 = b1 ∧ a2 = b2 ∧ a3 = b3 ∧ a4 = b4 ∧ a5 = b5 ∧ a6 = b6 ∧ a7 = b7)) w := by
  have p0 : Tryd.prog.stoodInHeld 31 = false := by kernel_rfl
  rw [run_equalIn_agg w (d + 3) 31 _ _ (by unfold Program.fieldsOf; rw [Tryd.underlying31]) p0]
  unfold Program.fieldsOf
  rw [Tryd.underlying31]
  simp [Op.eqFields, go_sem, Tryd.underlying4, Tryd.underlying3, Tryd.underlying2, Tryd.underlying27, Tryd.underlying29, eqi_day, eqi_clock, toList_eq_iff]
  by_cases h0 : a0 = b0
  rotate_left
  · simp [h0]
  by_cases h1 : a1 = b1
  rotate_left
  · simp [h1]
  by_cases h2 : a2 = b2
  rotate_left
  · simp [h2]
  by_cases h3 : a3 = b3
  rotate_left
  · simp [h3]
  by_cases h4 : a4 = b4
  rotate_left
  · simp [h4]
  by_cases h5 : a5 = b5
  rotate_left
  · simp [h5]
  by_cases h6 : a6 = b6
  rotate_left
  · simp [h6]
  by_cases h7 : a7 = b7
  rotate_left
  · simp [h7]
  simp [h0, h1, h2, h3, h4, h5, h6, h7]
theorem eql_until (w : World) (a0 : Bool) (a1 : Int) (a2 : Int) (a3 : Int) (a4 : Int) (a5 : Int) (a6 : Int) (a7 : Int) (b0 : Bool) (b1 : Int) (b2 : Int) (b3 : Int) (b4 : Int) (b5 : Int) (b6 : Int) (b7 : Int) : (binOp .eql 31 (.agg #[.bool a0, .int .i64 a1, .int .i64 a2, .int .i64 a3, .int .i64 a4, .int .i64 a5, .int .i64 a6, .int .i64 a7]) (.agg #[.bool b0, .int .i64 b1, .int .i64 b2, .int .i64 b3, .int .i64 b4, .int .i64 b5, .int .i64 b6, .int .i64 b7])).run Tryd.prog w = .ok (.bool (decide (a0 = b0 ∧ a1 = b1 ∧ a2 = b2 ∧ a3 = b3 ∧ a4 = b4 ∧ a5 = b5 ∧ a6 = b6 ∧ a7 = b7))) w := by
  rw [run_eql_struct, eqi_until 9996]; rfl
theorem neq_until (w : World) (a0 : Bool) (a1 : Int) (a2 : Int) (a3 : Int) (a4 : Int) (a5 : Int) (a6 : Int) (a7 : Int) (b0 : Bool) (b1 : Int) (b2 : Int) (b3 : Int) (b4 : Int) (b5 : Int) (b6 : Int) (b7 : Int) : (binOp .neq 31 (.agg #[.bool a0, .int .i64 a1, .int .i64 a2, .int .i64 a3, .int .i64 a4, .int .i64 a5, .int .i64 a6, .int .i64 a7]) (.agg #[.bool b0, .int .i64 b1, .int .i64 b2, .int .i64 b3, .int .i64 b4, .int .i64 b5, .int .i64 b6, .int .i64 b7])).run Tryd.prog w = .ok (.bool (!decide (a0 = b0 ∧ a1 = b1 ∧ a2 = b2 ∧ a3 = b3 ∧ a4 = b4 ∧ a5 = b5 ∧ a6 = b6 ∧ a7 = b7))) w := by
  rw [run_neq_struct, eqi_until 9996]; rfl
set_option maxRecDepth 100000 in
theorem eqi_era (d : Nat) (w : World) (a0 : Int) (a1 : Int) (a2 : Int) (a3 : ByteArray) (a4 : ByteArray) (a5 : Bool) (a6 : Int) (a7 : Int) (a8 : Int) (a9 : Int) (a10 : Int) (a11 : Int) (a12 : Int) (b0 : Int) (b1 : Int) (b2 : Int) (b3 : ByteArray) (b4 : ByteArray) (b5 : Bool) (b6 : Int) (b7 : Int) (b8 : Int) (b9 : Int) (b10 : Int) (b11 : Int) (b12 : Int) : (Op.equalIn (d + 6) 33 (.agg #[.int .i64 a0, .int .i64 a1, .int .i64 a2, .string a3, .string a4, .bool a5, .int .i64 a6, .int .i64 a7, .int .i64 a8, .int .i64 a9, .int .i64 a10, .int .i64 a11, .int .i64 a12]) (.agg #[.int .i64 b0, .int .i64 b1, .int .i64 b2, .string b3, .string b4, .bool b5, .int .i64 b6, .int .i64 b7, .int .i64 b8, .int .i64 b9, .int .i64 b10, .int .i64 b11, .int .i64 b12])).run Tryd.prog w = .ok (decide (a0 = b0 ∧ a1 = b1 ∧ a2 = b2 ∧ a3 = b3 ∧ a4 = b4 ∧ a5 = b5 ∧ a6 = b6 ∧ a7 = b7 ∧ a8 = b8 ∧ a9 = b9 ∧ a10 = b10 ∧ a11 = b11 ∧ a12 = b12)) w := by
  have p0 : Tryd.prog.stoodInHeld 33 = false := by kernel_rfl
  rw [run_equalIn_agg w (d + 5) 33 _ _ (by unfold Program.fieldsOf; rw [Tryd.underlying33]) p0]
  unfold Program.fieldsOf
  rw [Tryd.underlying33]
  simp [Op.eqFields, go_sem, Tryd.underlying9, Tryd.underlying3, Tryd.underlying2, Tryd.underlying31, eqi_until, toList_eq_iff]
  by_cases h0 : a0 = b0
  rotate_left
  · simp [h0]
  by_cases h1 : a1 = b1
  rotate_left
  · simp [h1]
  by_cases h2 : a2 = b2
  rotate_left
  · simp [h2]
  by_cases h3 : a3 = b3
  rotate_left
  · simp [h3]
  by_cases h4 : a4 = b4
  rotate_left
  · simp [h4]
  by_cases h5 : a5 = b5
  rotate_left
  · simp [h5]
  by_cases h6 : a6 = b6
  rotate_left
  · simp [h6]
  by_cases h7 : a7 = b7
  rotate_left
  · simp [h7]
  by_cases h8 : a8 = b8
  rotate_left
  · simp [h8]
  by_cases h9 : a9 = b9
  rotate_left
  · simp [h9]
  by_cases h10 : a10 = b10
  rotate_left
  · simp [h10]
  by_cases h11 : a11 = b11
  rotate_left
  · simp [h11]
  by_cases h12 : a12 = b12
  rotate_left
  · simp [h12]
  simp [h0, h1, h2, h3, h4, h5, h6, h7, h8, h9, h10, h11, h12]
theorem eql_era (w : World) (a0 : Int) (a1 : Int) (a2 : Int) (a3 : ByteArray) (a4 : ByteArray) (a5 : Bool) (a6 : Int) (a7 : Int) (a8 : Int) (a9 : Int) (a10 : Int) (a11 : Int) (a12 : Int) (b0 : Int) (b1 : Int) (b2 : Int) (b3 : ByteArray) (b4 : ByteArray) (b5 : Bool) (b6 : Int) (b7 : Int) (b8 : Int) (b9 : Int) (b10 : Int) (b11 : Int) (b12 : Int) : (binOp .eql 33 (.agg #[.int .i64 a0, .int .i64 a1, .int .i64 a2, .string a3, .string a4, .bool a5, .int .i64 a6, .int .i64 a7, .int .i64 a8, .int .i64 a9, .int .i64 a10, .int .i64 a11, .int .i64 a12]) (.agg #[.int .i64 b0, .int .i64 b1, .int .i64 b2, .string b3, .string b4, .bool b5, .int .i64 b6, .int .i64 b7, .int .i64 b8, .int .i64 b9, .int .i64 b10, .int .i64 b11, .int .i64 b12])).run Tryd.prog w = .ok (.bool (decide (a0 = b0 ∧ a1 = b1 ∧ a2 = b2 ∧ a3 = b3 ∧ a4 = b4 ∧ a5 = b5 ∧ a6 = b6 ∧ a7 = b7 ∧ a8 = b8 ∧ a9 = b9 ∧ a10 = b10 ∧ a11 = b11 ∧ a12 = b12))) w := by
  rw [run_eql_struct, eqi_era 9994]; rfl
theorem neq_era (w : World) (a0 : Int) (a1 : Int) (a2 : Int) (a3 : ByteArray) (a4 : ByteArray) (a5 : Bool) (a6 : Int) (a7 : Int) (a8 : Int) (a9 : Int) (a10 : Int) (a11 : Int) (a12 : Int) (b0 : Int) (b1 : Int) (b2 : Int) (b3 : ByteArray) (b4 : ByteArray) (b5 : Bool) (b6 : Int) (b7 : Int) (b8 : Int) (b9 : Int) (b10 : Int) (b11 : Int) (b12 : Int) : (binOp .neq 33 (.agg #[.int .i64 a0, .int .i64 a1, .int .i64 a2, .string a3, .string a4, .bool a5, .int .i64 a6, .int .i64 a7, .int .i64 a8, .int .i64 a9, .int .i64 a10, .int .i64 a11, .int .i64 a12]) (.agg #[.int .i64 b0, .int .i64 b1, .int .i64 b2, .string b3, .string b4, .bool b5, .int .i64 b6, .int .i64 b7, .int .i64 b8, .int .i64 b9, .int .i64 b10, .int .i64 b11, .int .i64 b12])).run Tryd.prog w = .ok (.bool (!decide (a0 = b0 ∧ a1 = b1 ∧ a2 = b2 ∧ a3 = b3 ∧ a4 = b4 ∧ a5 = b5 ∧ a6 = b6 ∧ a7 = b7 ∧ a8 = b8 ∧ a9 = b9 ∧ a10 = b10 ∧ a11 = b11 ∧ a12 = b12))) w := by
  rw [run_neq_struct, eqi_era 9994]; rfl
end Go.Proofs.YtmhciidliicheaaDoor
