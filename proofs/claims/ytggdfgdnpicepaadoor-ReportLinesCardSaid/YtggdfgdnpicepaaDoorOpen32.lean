/- What changes and sources that come in read as (for the cards of chapter 32 and others). -/
import Derived.Test.YtggdfgdnpicepaaDoorOpen20
import Derived.Test.YtggdfgdnpicepaaDoorSrc
import Derived.Test.YtggdfgdnpicepaaDoorRep32g0
namespace Go.Proofs.YtggdfgdnpicepaaDoor
open Go.RowKit Go.ChangeShapes Go.WideShapes
set_option linter.unusedVariables false

section
variable {H : Type} {enc : TypeId × Value → H} {w : World} {base : Nat} {sp : Nat → Bool} {held : Bool}
theorem wf_bounds {n : Int} (h : (Lit.int .i64 n).wf = true) : -9223372036854775808 ≤ n ∧ n ≤ 9223372036854775807 := by
  have := h
  simp only [Lit.wf, Bool.and_eq_true, decide_eq_true_eq, show IntKind.i64.min = -9223372036854775808 from rfl, show IntKind.i64.max = 9223372036854775807 from rfl] at this
  omega
/-- a change's cells -/
theorem open_change {fuel : Nat} {cs : List Value} {x : DataW H × List MemPlace} (hlen : cs.length = 4) (h : DataW.trod enc Tryd.prog w base sp held fuel 50 cs = some x) : ∃ c : P32.CV, cs = c.cells ∧ ChOk [c] := by
  match cs, hlen with
  | [c0, c1, c2, c3], _ =>
    obtain ⟨m, y, hd⟩ := field_of Tryd.underlying50 h 0 48 0 3 (by kernel_rfl)
    obtain ⟨n0, e0, w0⟩ := leaf_int Tryd.underlying48 hd 0 3 0 .i64 (by kernel_rfl) Tryd.underlying3
    obtain ⟨n1, e1, w1⟩ := leaf_int Tryd.underlying48 hd 1 3 1 .i64 (by kernel_rfl) Tryd.underlying3
    obtain ⟨n2, e2, w2⟩ := leaf_int Tryd.underlying48 hd 2 3 2 .i64 (by kernel_rfl) Tryd.underlying3
    obtain ⟨n3, e3, w3⟩ := leaf_int Tryd.underlying50 h 1 3 3 .i64 (by kernel_rfl) Tryd.underlying3
    simp only [List.drop_succ_cons, List.drop_zero, List.take_succ_cons, List.take_zero, List.cons.injEq, and_true] at e0 e1 e2 e3
    subst e0 e1 e2 e3
    refine ⟨⟨n0, n1, n2, n3⟩, rfl, fun c hc => ?_⟩
    obtain rfl := List.mem_singleton.1 hc
    exact ⟨wf_bounds w0, wf_bounds w1, wf_bounds w2, wf_bounds w3⟩
theorem chok_all {L : List P32.CV} (h : ∀ c ∈ L, ChOk [c]) : ChOk L := fun c hc => h c hc c (List.mem_singleton.2 rfl)
/-- a link's cells -/
theorem open_link {fuel : Nat} {cs : List Value} {x : DataW H × List MemPlace} (hlen : cs.length = 2) (h : DataW.trod enc Tryd.prog w base sp held fuel 61 cs = some x) : ∃ k : KV, cs = k.cells ∧ True := by
  match cs, hlen with
  | [c0, c1], _ =>
    obtain ⟨s0, e0, _⟩ := leaf_str Tryd.underlying61 h 0 9 0 (by kernel_rfl) Tryd.underlying9
    obtain ⟨s1, e1, _⟩ := leaf_str Tryd.underlying61 h 1 9 1 (by kernel_rfl) Tryd.underlying9
    simp only [List.drop_succ_cons, List.drop_zero, List.take_succ_cons, List.take_zero, List.cons.injEq, and_true] at e0 e1
    subst e0 e1
    exact ⟨⟨s0, s1⟩, rfl, trivial⟩
/-- a string's cell -/
theorem open_word {fuel : Nat} {cs : List Value} {x : DataW H × List MemPlace} (hlen : cs.length = 1) (h : DataW.trod enc Tryd.prog w base sp held fuel 9 cs = some x) : ∃ b : ByteArray, cs = [Value.string b] ∧ True := by
  obtain ⟨z, e, _⟩ := DataW.trod_string Tryd.underlying9 h
  exact ⟨z, e, trivial⟩
/-- an era's cells, as a value -/
theorem open_erav {fuel : Nat} {cs : List Value} {x : DataW H × List MemPlace} (hlen : cs.length = 13) (h : DataW.trod enc Tryd.prog w base sp held fuel 58 cs = some x) : ∃ e : EV, cs = e.cells ∧ True := by
  obtain ⟨n0, n1, n2, s3, s4, b5, n6, n7, n8, n9, n10, n11, n12, hcs, _⟩ := open_era hlen h
  exact ⟨⟨n0, n1, n2, s3, s4, b5, n6, n7, n8, n9, n10, n11, n12⟩, hcs, trivial⟩
/-- a zone's cells, with its eras -/
theorem open_zone {fuel : Nat} {cs : List Value} {x : DataW H × List MemPlace} (hlen : cs.length = 2) (h : DataW.trod enc Tryd.prog w base sp held fuel 53 cs = some x) :
    ∃ z : ZV, cs = z.cells ∧ (z.eras.length ≤ maxLen ∧ CellsIn 13 EV.cells w z.A z.eras) := by
  match cs, hlen with
  | [c0, c1], _ =>
    obtain ⟨s0, e0, _⟩ := leaf_str Tryd.underlying53 h 0 9 0 (by kernel_rfl) Tryd.underlying9
    obtain ⟨m, y, hd⟩ := field_of Tryd.underlying53 h 1 51 1 1 (by kernel_rfl)
    obtain ⟨A, c, L, e1, hl, hc, _⟩ := open_cells (m := 13) (f := EV.cells) (Good := fun _ => True) Tryd.underlying51 (by kernel_rfl) (by decide) (fun fuel cs x hl hx => open_erav hl hx) hd
    simp only [List.drop_succ_cons, List.drop_zero, List.take_succ_cons, List.take_zero, List.cons.injEq, and_true] at e0 e1
    subst e0 e1
    exact ⟨⟨s0, A, c, L⟩, rfl, hl, hc⟩
/-- a source by value -/
theorem open_source {fuel : Nat} {cs : List Value} {x : DataW H × List MemPlace} (hlen : cs.length = 4) (h : DataW.trod enc Tryd.prog w base sp held fuel 27 cs = some x) :
    ∃ s : SV, cs = s.agg.toList ∧ SrcIn w s ∧ SrcSz s := by
  match cs, hlen with
  | [c0, c1, c2, c3], _ =>
    obtain ⟨m0, y0, hd0⟩ := field_of Tryd.underlying27 h 0 22 0 1 (by kernel_rfl)
    obtain ⟨m1, y1, hd1⟩ := field_of Tryd.underlying27 h 1 23 1 1 (by kernel_rfl)
    obtain ⟨m2, y2, hd2⟩ := field_of Tryd.underlying27 h 2 24 2 1 (by kernel_rfl)
    obtain ⟨m3, y3, hd3⟩ := field_of Tryd.underlying27 h 3 25 3 1 (by kernel_rfl)
    obtain ⟨A0, k0, L0, e0, l0, i0, _⟩ := open_cells (m := 11) (f := RV.cells) (Good := fun r => (Lit.int .i64 r.save).wf = true) Tryd.underlying22 (by kernel_rfl) (by decide) (fun fuel cs x hl hx => open_rule hl hx) hd0
    obtain ⟨A1, k1, L1, e1, l1, i1, g1⟩ := open_cells (m := 2) (f := ZV.cells) (Good := fun z => z.eras.length ≤ maxLen ∧ CellsIn 13 EV.cells w z.A z.eras) Tryd.underlying23 (by kernel_rfl) (by decide) (fun fuel cs x hl hx => open_zone hl hx) hd1
    obtain ⟨A2, k2, L2, e2, l2, i2, _⟩ := open_cells (m := 2) (f := KV.cells) (Good := fun _ => True) Tryd.underlying24 (by kernel_rfl) (by decide) (fun fuel cs x hl hx => open_link hl hx) hd2
    obtain ⟨A3, k3, L3, e3, l3, i3, _⟩ := open_cells (m := 1) (f := fun b : ByteArray => [Value.string b]) (Good := fun _ => True) Tryd.underlying25 (by kernel_rfl) (by decide) (fun fuel cs x hl hx => open_word hl hx) hd3
    simp only [List.drop_succ_cons, List.drop_zero, List.take_succ_cons, List.take_zero, List.cons.injEq, and_true] at e0 e1 e2 e3
    subst e0 e1 e2 e3
    exact ⟨⟨A0, k0, L0, A1, k1, L1, A2, k2, L2, A3, k3, L3⟩, rfl, ⟨i0, i1, i2, i3, fun z hz => (g1 z hz).2⟩, ⟨l0, l1, l2, l3, fun z hz => (g1 z hz).1⟩⟩
end
end Go.Proofs.YtggdfgdnpicepaaDoor
