/- What the walks of chapter 4 ask of the package-level variables that they read; it stays through every call that turns nothing old. -/
import Derived.Test.YtoabengifbokdaaDoorCom
import Derived.Test.YtoabengifbokdaaDoorShelf
import Derived.Test.YtoabengifbokdaaDoorChecked
namespace Go.Proofs.YtoabengifbokdaaDoor
open Go.RowKit
set_option linter.unusedVariables false

theorem gPow : Tryd.prog.globalNamed "internal/strconv.uint64pow10" = some 1 := by kernel_rfl
theorem gSyn : Tryd.prog.globalNamed "strconv.ErrSyntax" = some 2 := by kernel_rfl
theorem var_below {P : Program} {B g : Nat} {W W' : World} {n : String} {cs : Array Value} (h : Below B W W') (hg : P.globalNamed n = some g) (hgB : g < B) (hv : W.var? P n = some cs) : W'.var? P n = some cs := by
  unfold World.var? at hv ⊢
  simp only [hg, Option.bind_some] at hv ⊢
  rw [h.block g hgB]
  exact hv
/-- the variables: the table of powers of ten, the error of a number that is none, the units -/
structure Vars (w : World) : Prop where
  pow : Lib.TabIs Tryd.prog w "internal/strconv.uint64pow10" .u64 Lib.pow10Tab
  syn : ∃ tp p, w.var? Tryd.prog "strconv.ErrSyntax" = some #[.iface tp p]
  u0 : w.cell? ⟨0, 0, none⟩ = some (.int .i64 3600)
  u1 : w.cell? ⟨0, 1, none⟩ = some (.int .i64 60)
  u2 : w.cell? ⟨0, 2, none⟩ = some (.int .i64 1)
  big : 1 < w.heap.size ∧ 2 < w.heap.size ∧ 0 < w.heap.size
theorem Vars.below {w w' : World} (h : Vars w) (hb : Below w.heap.size w w') : Vars w' := by
  obtain ⟨tp, p, hs⟩ := h.syn
  exact ⟨var_below hb gPow h.big.1 h.pow, ⟨tp, p, var_below hb gSyn h.big.2.1 hs⟩, (hb.cell (p := ⟨0, 0, none⟩) h.big.2.2).trans h.u0, (hb.cell (p := ⟨0, 1, none⟩) h.big.2.2).trans h.u1,
    (hb.cell (p := ⟨0, 2, none⟩) h.big.2.2).trans h.u2, ⟨Nat.lt_of_lt_of_le h.big.1 hb.size, Nat.lt_of_lt_of_le h.big.2.1 hb.size, Nat.lt_of_lt_of_le h.big.2.2 hb.size⟩⟩
end Go.Proofs.YtoabengifbokdaaDoor
