/- Slices of rules as the walks read them: the saves of the rules. No function of the program. -/
import Derived.Test.YtmhciidliicheaaDoorOwn
import Derived.Test.YtmhciidliicheaaDoorChecked
namespace Go.Proofs.YtmhciidliicheaaDoor
open Go.RowKit
set_option linter.unusedVariables false

/-- a rule's cells -/
structure RV where
  name : ByteArray
  frm : Int
  til : Int
  month : Int
  dk : Int
  dw : Int
  dd : Int
  asec : Int
  abase : Int
  save : Int
  letter : ByteArray
def RV.cells (r : RV) : List Value := [.string r.name, .int .i64 r.frm, .int .i64 r.til, .int .i64 r.month, .int .i64 r.dk, .int .i64 r.dw, .int .i64 r.dd, .int .i64 r.asec, .int .i64 r.abase, .int .i64 r.save, .string r.letter]
/-- the slice holds these rules -/
def RulesIn (w : World) (A : Option Addr) (L : List RV) : Prop :=
  ∀ k r, L[k]? = some r → ∃ b o, A = some ⟨b, o, none⟩ ∧ b < w.heap.size ∧ ∀ j u, r.cells[j]? = some u → w.cell? ⟨b, o + k * 11 + j, none⟩ = some u
theorem RulesIn.below {w w' : World} {A : Option Addr} {L : List RV} (h : RulesIn w A L) (hb : Below w.heap.size w w') : RulesIn w' A L := by
  intro k r hr
  obtain ⟨b, o, hA, hlt, hc⟩ := h k r hr
  exact ⟨b, o, hA, Nat.lt_of_lt_of_le hlt hb.size, fun j u hu => (hb.cell (p := ⟨b, o + k * 11 + j, none⟩) hlt).trans (hc j u hu)⟩
theorem RulesIn.alloc {w : World} {A : Option Addr} {L : List RV} (h : RulesIn w A L) (ob : Obj) : RulesIn (w.alloc ob) A L := h.below ((Below.refl _ _).alloc (Nat.le_refl _) ob)
theorem RulesIn.nil (w : World) (A : Option Addr) : RulesIn w A [] := fun k r hr => by simp at hr
theorem RulesIn.drewN {w : World} {A : Option Addr} {L : List RV} (h : RulesIn w A L) (n : Nat) : RulesIn (w.drewN n) A L := h
/-- the eleven cells of the rule at a place -/
theorem RulesIn.get {w : World} {A : Option Addr} {L : List RV} (h : RulesIn w A L) (k : Nat) (r : RV) (hr : L[k]? = some r) :
    ∃ b o, A = some ⟨b, o, none⟩ ∧ b < w.heap.size ∧ w.cell? ⟨b, o + k * 11, none⟩ = some (.string r.name) ∧ w.cell? ⟨b, o + k * 11 + 1, none⟩ = some (.int .i64 r.frm) ∧ w.cell? ⟨b, o + k * 11 + 2, none⟩ = some (.int .i64 r.til) ∧
      w.cell? ⟨b, o + k * 11 + 3, none⟩ = some (.int .i64 r.month) ∧ w.cell? ⟨b, o + k * 11 + 4, none⟩ = some (.int .i64 r.dk) ∧ w.cell? ⟨b, o + k * 11 + 5, none⟩ = some (.int .i64 r.dw) ∧ w.cell? ⟨b, o + k * 11 + 6, none⟩ = some (.int .i64 r.dd) ∧
      w.cell? ⟨b, o + k * 11 + 7, none⟩ = some (.int .i64 r.asec) ∧ w.cell? ⟨b, o + k * 11 + 8, none⟩ = some (.int .i64 r.abase) ∧ w.cell? ⟨b, o + k * 11 + 9, none⟩ = some (.int .i64 r.save) ∧ w.cell? ⟨b, o + k * 11 + 10, none⟩ = some (.string r.letter) := by
  obtain ⟨b, o, hA, hlt, hc⟩ := h k r hr
  exact ⟨b, o, hA, hlt, hc 0 _ rfl, hc 1 _ rfl, hc 2 _ rfl, hc 3 _ rfl, hc 4 _ rfl, hc 5 _ rfl, hc 6 _ rfl, hc 7 _ rfl, hc 8 _ rfl, hc 9 _ rfl, hc 10 _ rfl⟩
end Go.Proofs.YtmhciidliicheaaDoor
