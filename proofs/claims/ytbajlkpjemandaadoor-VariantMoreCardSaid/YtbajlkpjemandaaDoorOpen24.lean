/- What a source by value that comes in reads as (for the cards of chapter 24). -/
import Derived.Test.YtbajlkpjemandaaDoorOpen20
import Derived.Test.YtbajlkpjemandaaDoorSrc
namespace Go.Proofs.YtbajlkpjemandaaDoor
open Go.RowKit Go.ChangeShapes Go.WideShapes
set_option linter.unusedVariables false

/-- what of a source's lengths the reading gives -/
def Lens (s : SV) : Prop := s.rules.length ≤ maxLen ∧ s.zones.length ≤ maxLen ∧ s.shifts.length ≤ maxLen ∧ (∀ z ∈ s.zones, z.eras.length ≤ maxLen) ∧ ∀ z ∈ s.zones, ∀ e ∈ z.eras, e.fmt.size ≤ maxLen
section
variable {H : Type} {enc : TypeId × Value → H} {w : World} {base : Nat} {sp : Nat → Bool} {held : Bool}
/-- a link's cells -/
theorem open_link {fuel : Nat} {cs : List Value} {x : DataW H × List MemPlace} (hlen : cs.length = 2) (h : DataW.trod enc Tryd.prog w base sp held fuel 202 cs = some x) : ∃ k : KV, cs = k.cells ∧ True := by
  match cs, hlen with
  | [c0, c1], _ =>
    obtain ⟨s0, e0, _⟩ := leaf_str Tryd.underlying202 h 0 9 0 (by kernel_rfl) Tryd.underlying9
    obtain ⟨s1, e1, _⟩ := leaf_str Tryd.underlying202 h 1 9 1 (by kernel_rfl) Tryd.underlying9
    simp only [List.drop_succ_cons, List.drop_zero, List.take_succ_cons, List.take_zero, List.cons.injEq, and_true] at e0 e1
    subst e0 e1
    exact ⟨⟨s0, s1⟩, rfl, trivial⟩
/-- a string's cell -/
theorem open_word {fuel : Nat} {cs : List Value} {x : DataW H × List MemPlace} (hlen : cs.length = 1) (h : DataW.trod enc Tryd.prog w base sp held fuel 9 cs = some x) : ∃ b : ByteArray, cs = [Value.string b] ∧ True := by
  obtain ⟨z, e, _⟩ := DataW.trod_string Tryd.underlying9 h
  exact ⟨z, e, trivial⟩
/-- an era's cells, as a value -/
theorem open_erav {fuel : Nat} {cs : List Value} {x : DataW H × List MemPlace} (hlen : cs.length = 13) (h : DataW.trod enc Tryd.prog w base sp held fuel 33 cs = some x) : ∃ e : EV, cs = e.cells ∧ e.fmt.size ≤ maxLen := by
  obtain ⟨n0, n1, n2, s3, s4, b5, n6, n7, n8, n9, n10, n11, n12, hcs, _, _, _, _, h4⟩ := open_era hlen h
  exact ⟨⟨n0, n1, n2, s3, s4, b5, n6, n7, n8, n9, n10, n11, n12⟩, hcs, h4⟩
/-- a zone's cells, with its eras -/
theorem open_zone {fuel : Nat} {cs : List Value} {x : DataW H × List MemPlace} (hlen : cs.length = 2) (h : DataW.trod enc Tryd.prog w base sp held fuel 87 cs = some x) :
    ∃ z : ZV, cs = z.cells ∧ (z.eras.length ≤ maxLen ∧ CellsIn 13 EV.cells w z.A z.eras ∧ ∀ e ∈ z.eras, e.fmt.size ≤ maxLen) := by
  match cs, hlen with
  | [c0, c1], _ =>
    obtain ⟨s0, e0, _⟩ := leaf_str Tryd.underlying87 h 0 9 0 (by kernel_rfl) Tryd.underlying9
    obtain ⟨m, y, hd⟩ := field_of Tryd.underlying87 h 1 85 1 1 (by kernel_rfl)
    obtain ⟨A, c, L, e1, hl, hc, hf⟩ := open_cells (m := 13) (f := EV.cells) (Good := fun e => e.fmt.size ≤ maxLen) Tryd.underlying85 (by kernel_rfl) (by decide) (fun fuel cs x hl hx => open_erav hl hx) hd
    simp only [List.drop_succ_cons, List.drop_zero, List.take_succ_cons, List.take_zero, List.cons.injEq, and_true] at e0 e1
    subst e0 e1
    exact ⟨⟨s0, A, c, L⟩, rfl, hl, hc, hf⟩
/-- a source by value -/
theorem open_source {fuel : Nat} {cs : List Value} {x : DataW H × List MemPlace} (hlen : cs.length = 4) (h : DataW.trod enc Tryd.prog w base sp held fuel 66 cs = some x) :
    ∃ s : SV, cs = s.agg.toList ∧ SrcIn w s ∧ Lens s := by
  match cs, hlen with
  | [c0, c1, c2, c3], _ =>
    obtain ⟨m0, y0, hd0⟩ := field_of Tryd.underlying66 h 0 24 0 1 (by kernel_rfl)
    obtain ⟨m1, y1, hd1⟩ := field_of Tryd.underlying66 h 1 63 1 1 (by kernel_rfl)
    obtain ⟨m2, y2, hd2⟩ := field_of Tryd.underlying66 h 2 64 2 1 (by kernel_rfl)
    obtain ⟨m3, y3, hd3⟩ := field_of Tryd.underlying66 h 3 55 3 1 (by kernel_rfl)
    obtain ⟨A0, k0, L0, e0, l0, i0, _⟩ := open_cells (m := 11) (f := RV.cells) (Good := fun r => (Lit.int .i64 r.save).wf = true) Tryd.underlying24 (by kernel_rfl) (by decide) (fun fuel cs x hl hx => open_rule hl hx) hd0
    obtain ⟨A1, k1, L1, e1, l1, i1, g1⟩ := open_cells (m := 2) (f := ZV.cells) (Good := fun z => z.eras.length ≤ maxLen ∧ CellsIn 13 EV.cells w z.A z.eras ∧ ∀ e ∈ z.eras, e.fmt.size ≤ maxLen) Tryd.underlying63 (by kernel_rfl) (by decide) (fun fuel cs x hl hx => open_zone hl hx) hd1
    obtain ⟨A2, k2, L2, e2, l2, i2, _⟩ := open_cells (m := 2) (f := KV.cells) (Good := fun _ => True) Tryd.underlying64 (by kernel_rfl) (by decide) (fun fuel cs x hl hx => open_link hl hx) hd2
    obtain ⟨A3, k3, L3, e3, l3, i3, _⟩ := open_cells (m := 1) (f := fun b : ByteArray => [Value.string b]) (Good := fun _ => True) Tryd.underlying55 (by kernel_rfl) (by decide) (fun fuel cs x hl hx => open_word hl hx) hd3
    simp only [List.drop_succ_cons, List.drop_zero, List.take_succ_cons, List.take_zero, List.cons.injEq, and_true] at e0 e1 e2 e3
    subst e0 e1 e2 e3
    exact ⟨⟨A0, k0, L0, A1, k1, L1, A2, k2, L2, A3, k3, L3⟩, rfl, ⟨i0, i1, i2, i3, fun z hz => (g1 z hz).2.1⟩, l0, l1, l3, fun z hz => (g1 z hz).1, fun z hz => (g1 z hz).2.2⟩
end
end Go.Proofs.YtbajlkpjemandaaDoor
