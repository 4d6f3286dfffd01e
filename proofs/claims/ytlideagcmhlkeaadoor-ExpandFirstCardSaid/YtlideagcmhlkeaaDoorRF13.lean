/- Texts of one proof, one behind the other: Open20; Open23; Shape; Laws30b. -/
import Derived.Test.YtlideagcmhlkeaaDoorRF12
import Derived.Deep.Slices
import Derived.Deep.Fields
import Derived.ChangeSame
import Derived.WideShapes
import Derived.OpenShut
import Derived.Handed
import Derived.HandedShaped

/- What an era by value and a slice of rules that come in read as (for the cards of chapter 20 and above). -/
namespace Go.Proofs.YtlideagcmhlkeaaDoor
open Go.RowKit Go.ChangeShapes Go.WideShapes
set_option linter.unusedVariables false

section
variable {H : Type} {enc : TypeId × Value → H} {w : World} {base : Nat} {sp : Nat → Bool} {held : Bool}
theorem field_of {P : Program} {t : TypeId} {fs : Array Field} {fuel : Nat} {cs : List Value} {x : DataW H × List MemPlace} (ht : P.underlying t = some (.struct fs)) (h : DataW.trod enc P w base sp held fuel t cs = some x) (i : Nat) (ty : TypeId) (o s : Nat)
    (hf : (fs[i]?).map (fun f => (f.type, f.offset, P.cellsOf f.type)) = some (ty, o, s)) : ∃ n y, DataW.trod enc P w base sp held n ty ((cs.drop o).take s) = some y := by
  obtain ⟨xs, n, _, _, _, hl, hg⟩ := DataW.trod_struct ht h
  cases hq : fs[i]? with
  | none => rw [hq] at hf; cases hf
  | some f =>
    rw [hq] at hf
    simp only [Option.map_some, Option.some.injEq, Prod.mk.injEq] at hf
    obtain ⟨rfl, rfl, rfl⟩ := hf
    have hi : i < xs.length := by rw [hl]; exact (Array.getElem?_eq_some_iff.1 hq).1
    exact ⟨n, xs[i], (hg i f hq).trans (List.getElem?_eq_getElem hi)⟩
theorem leaf_int {P : Program} {t : TypeId} {fs : Array Field} {fuel : Nat} {cs : List Value} {x : DataW H × List MemPlace} (ht : P.underlying t = some (.struct fs)) (h : DataW.trod enc P w base sp held fuel t cs = some x) (i : Nat) (ty : TypeId) (o : Nat) (k : IntKind)
    (hf : (fs[i]?).map (fun f => (f.type, f.offset, P.cellsOf f.type)) = some (ty, o, 1)) (hk : P.underlying ty = some (.int k)) : ∃ n, (cs.drop o).take 1 = [.int k n] ∧ (Lit.int k n).wf = true := by
  obtain ⟨n, y, hy⟩ := field_of ht h i ty o 1 hf
  obtain ⟨z, e, _, hw⟩ := DataW.trod_int hk hy
  exact ⟨z, e, hw⟩
end
end Go.Proofs.YtlideagcmhlkeaaDoor

/- What a draft of layer 23 that comes in reads as (for the cards of chapter 30). -/
namespace Go.Proofs.YtlideagcmhlkeaaDoor
open Go.RowKit Go.ChangeShapes Go.WideShapes
set_option linter.unusedVariables false

section
variable {H : Type} {enc : TypeId × Value → H} {w : World} {base : Nat} {sp : Nat → Bool} {held : Bool}
/-- a slice that comes in, with its room -/
theorem open_cellsC {P : Program} {α : Type} {t e : TypeId} {m : Nat} {f : α → List Value} {Good : α → Prop} {fuel : Nat} {cs : List Value} {x : DataW H × List MemPlace} (ht : P.underlying t = some (.slice e)) (hC : P.cellsOf e = m) (h0 : 0 < m)
    (hopen : ∀ (fuel : Nat) (cs : List Value) (x : DataW H × List MemPlace), cs.length = m → DataW.trod enc P w base sp held fuel e cs = some x → ∃ r : α, cs = f r ∧ Good r)
    (hf : DataW.trod enc P w base sp held fuel t cs = some x) :
    ∃ (A : Option Addr) (c : Nat) (L : List α), cs = [.slice A L.length c] ∧ L.length ≤ maxLen ∧ CellsIn m f w A L ∧ (∀ r ∈ L, Good r) ∧ L.length ≤ c := by
  obtain ⟨A, c, L, h1, h2, h3, h4⟩ := open_cells ht hC h0 hopen hf
  refine ⟨A, c, L, h1, h2, h3, h4, ?_⟩
  rcases Go.Deep.open_slice ht hf with ⟨h0', _⟩ | ⟨a, len, cap, m', n, D, Pl, hcs, hb, hl, hm, hmm, hx, hi⟩
  · rw [h0'] at h1
    injection h1 with h1
    injection h1 with _ q2 q3
    omega
  · rw [hcs] at h1
    injection h1 with h1
    injection h1 with _ q2 q3
    omega
theorem open_byte {fuel : Nat} {cs : List Value} {x : DataW H × List MemPlace} (hlen : cs.length = 1) (h : DataW.trod enc Tryd.prog w base sp held fuel 5 cs = some x) : ∃ n : Int, cs = u8Cell n ∧ 0 ≤ n ∧ n ≤ 255 := by
  obtain ⟨n, e, _, hw⟩ := DataW.trod_int Tryd.underlying5 h
  exact ⟨n, e, bounds_u8 hw⟩
/-- one set's bytes -/
theorem open_set23 {fuel : Nat} {cs : List Value} {x : DataW H × List MemPlace} (hlen : cs.length = 1) (h : DataW.trod enc Tryd.prog w base sp held fuel 98 cs = some x) : ∃ s : Option Addr × Nat × List Int, cs = setCells s ∧ Dr w s.1 s.2.2 := by
  obtain ⟨A, c, L, h1, h2, h3, h4⟩ := open_cells (m := 1) (f := u8Cell) (Good := fun n => 0 ≤ n ∧ n ≤ 255) Tryd.underlying98 (by kernel_rfl) (by decide) (fun fuel cs x hl hx => open_byte hl hx) h
  exact ⟨(A, c, L), h1, h2, h3, h4⟩
/-- an era's numbers -/
theorem open_e23 {fuel : Nat} {cs : List Value} {x : DataW H × List MemPlace} (hlen : cs.length = 8) (h : DataW.trod enc Tryd.prog w base sp held fuel 104 cs = some x) : ∃ e : E23, cs = e.cells ∧ e.ok := by
  match cs, hlen with
  | [c0, c1, c2, c3, c4, c5, c6, c7], _ =>
    obtain ⟨n0, e0, w0⟩ := leaf_int Tryd.underlying104 h 0 5 0 .u8 (by kernel_rfl) Tryd.underlying5
    obtain ⟨n1, e1, w1⟩ := leaf_int Tryd.underlying104 h 1 5 1 .u8 (by kernel_rfl) Tryd.underlying5
    obtain ⟨n2, e2, w2⟩ := leaf_int Tryd.underlying104 h 2 5 2 .u8 (by kernel_rfl) Tryd.underlying5
    obtain ⟨n3, e3, w3⟩ := leaf_int Tryd.underlying104 h 3 5 3 .u8 (by kernel_rfl) Tryd.underlying5
    obtain ⟨n4, e4, w4⟩ := leaf_int Tryd.underlying104 h 4 5 4 .u8 (by kernel_rfl) Tryd.underlying5
    obtain ⟨n5, e5, w5⟩ := leaf_int Tryd.underlying104 h 5 5 5 .u8 (by kernel_rfl) Tryd.underlying5
    obtain ⟨n6, e6, w6⟩ := leaf_int Tryd.underlying104 h 6 102 6 .i8 (by kernel_rfl) Tryd.underlying102
    obtain ⟨n7, e7, w7⟩ := leaf_int Tryd.underlying104 h 7 102 7 .i8 (by kernel_rfl) Tryd.underlying102
    simp only [List.drop_succ_cons, List.drop_zero, List.take_succ_cons, List.take_zero, List.cons.injEq, and_true] at e0 e1 e2 e3 e4 e5 e6 e7
    subst e0 e1 e2 e3 e4 e5 e6 e7
    exact ⟨⟨n0, n1, n2, n3, n4, n5, n6, n7⟩, rfl, bounds_u8 w0, bounds_u8 w1, bounds_u8 w2, bounds_u8 w3, bounds_u8 w4, bounds_u8 w5, bounds_i8 w6, bounds_i8 w7⟩
/-- a zone's eras -/
theorem open_zone23 {fuel : Nat} {cs : List Value} {x : DataW H × List MemPlace} (hlen : cs.length = 1) (h : DataW.trod enc Tryd.prog w base sp held fuel 101 cs = some x) :
    ∃ s : Option Addr × Nat × List E23, cs = zoneCells s ∧ CellsIn 8 E23.cells w s.1 s.2.2 ∧ (∀ x ∈ s.2.2, x.ok) ∧ s.2.2.length ≤ maxLen ∧ s.2.2.length ≤ s.2.1 := by
  obtain ⟨A, c, L, h1, h2, h3, h4, h5⟩ := open_cellsC (m := 8) (f := E23.cells) (Good := E23.ok) Tryd.underlying101 (by kernel_rfl) (by decide) (fun fuel cs x hl hx => open_e23 hl hx) h
  exact ⟨(A, c, L), h1, h3, h4, h2, h5⟩
/-- a draft by value -/
theorem open_draft23 {fuel : Nat} {cs : List Value} {x : DataW H × List MemPlace} (hlen : cs.length = 3) (h : DataW.trod enc Tryd.prog w base sp held fuel 26 cs = some x) :
    ∃ d : D23, cs = [.slice d.sA d.sets.length d.sc, .slice d.zA d.zones.length d.zc, .slice d.lA d.links.length d.lc] ∧ D23In w d := by
  match cs, hlen with
  | [c0, c1, c2], _ =>
    obtain ⟨m0, y0, hd0⟩ := field_of Tryd.underlying26 h 0 22 0 1 (by kernel_rfl)
    obtain ⟨m1, y1, hd1⟩ := field_of Tryd.underlying26 h 1 23 1 1 (by kernel_rfl)
    obtain ⟨m2, y2, hd2⟩ := field_of Tryd.underlying26 h 2 24 2 1 (by kernel_rfl)
    obtain ⟨A0, k0, L0, e0, l0, i0, g0, _⟩ := open_cellsC (m := 1) (f := setCells) (Good := fun s => Dr w s.1 s.2.2) Tryd.underlying22 (by kernel_rfl) (by decide) (fun fuel cs x hl hx => open_set23 hl hx) hd0
    obtain ⟨A1, k1, L1, e1, l1, i1, g1, q1⟩ := open_cellsC (m := 1) (f := zoneCells) (Good := fun s => CellsIn 8 E23.cells w s.1 s.2.2 ∧ (∀ x ∈ s.2.2, x.ok) ∧ s.2.2.length ≤ maxLen ∧ s.2.2.length ≤ s.2.1) Tryd.underlying23 (by kernel_rfl) (by decide) (fun fuel cs x hl hx => open_zone23 hl hx) hd1
    obtain ⟨A2, k2, L2, e2, l2, i2, g2, q2⟩ := open_cellsC (m := 1) (f := u8Cell) (Good := fun n => 0 ≤ n ∧ n ≤ 255) Tryd.underlying24 (by kernel_rfl) (by decide) (fun fuel cs x hl hx => open_byte hl hx) hd2
    simp only [List.drop_succ_cons, List.drop_zero, List.take_succ_cons, List.take_zero, List.cons.injEq, and_true] at e0 e1 e2
    subst e0 e1 e2
    exact ⟨⟨A0, k0, L0, A1, k1, L1, A2, k2, L2⟩, rfl, i0, i1, i2, g0, g1, g2, ⟨l0, l1, l2⟩, q1, q2⟩
end
end Go.Proofs.YtlideagcmhlkeaaDoor

/- The wrap of a law's row whose walk asks for the world's shape beside the listed variables. No function of the program. -/
namespace Go.Proofs.YtlideagcmhlkeaaDoor
open Go
section
variable {H : Type} {enc : TypeId × Value → H}
theorem handed_shaped {a : Assume} {C : Checked} {os : Os} {f : FuncId} {fn : Func} {s : ChangeSpec} {conds : List PathCond} {apart fresh handsOn again : Bool} {X : World → Array Value → Prop}
    (hX : ∀ (w w' : World) (args : Array Value), w.heap = w'.heap → X w args → X w' args)
    (own : ownKnob C.prog.godebug = none) (started : os.Started) (noInit : C.prog.inits.idxOf? f = none) (hfn : C.prog.funcs[f]? = some fn)
    (witness : ∃ (w : World) (tape : Tape) (i : Input), w.os = os ∧ (w.forCall tape i).Shaped C.prog ∧ i.vars = [] ∧ Input.okWide C.prog (w.forCall tape i) .any w.heap.size f i ∧
      ((s.pre enc C.prog fn conds apart (w.forCall tape i).memory i.args ∧ X (w.forCall tape i).memory i.args) ∧ sizedMet enc C.prog fn (OpenSpec.ofChange s) apart (w.forCall tape i).memory i.args) ∧ a.holds C.prog (lone (Frame.enter C.prog f i.args .normal) [] (w.forCall tape i)))
    (contract : ∀ (W : World) (base : Nat) (args : Array Value) (ds gs : List (DataW H)) (before : List MemPlace),
      (∀ (j : Nat) t v, fn.params[j]? = some t → args[j]? = some v → Value.okWide C.prog W .any base t v) →
      DataW.Whole enc C.prog fn.params.toList s.vars apart W args.toList ds gs before →
      conds.all (PathCond.test C.prog ⟨fn.params.toList, ds, s.plain.varTypes C.prog, gs⟩) = true →
      (DataW.weightsEach C.prog (fn.params.toList ++ s.plain.varTypes C.prog) (ds ++ gs)).all (· ≤ reachBytes) = true → X W args → W.ShapedOpen C.prog →
      a.holds C.prog (lone (Frame.enter C.prog f args .normal) [] W) →
      Calls C.prog f args W fun e W' => ∃ v, e = .returned v ∧ s.post enc C.prog fn apart fresh handsOn again W args v W') :
    ReturnsInHanded a C os f .any (fun w args => (s.pre enc C.prog fn conds apart w args ∧ X w args) ∧ sizedMet enc C.prog fn (OpenSpec.ofChange s) apart w args) (s.post enc C.prog fn apart fresh handsOn again) := by
  refine returnsInHanded_of_calls own started noInit witness ?_
  intro w tape i _ hsh _ hok hpre hholds
  obtain ⟨_, _, _, fn', hfn', _, _, _, _, hval⟩ := hok
  obtain rfl : fn' = fn := Option.some.inj (hfn'.symm.trans hfn)
  obtain ⟨⟨⟨ds, gs, before, hw, hc⟩, hx⟩, hz⟩ := hpre
  have hw' := DataW.Whole.of_heap (w' := w.forCall tape i) (by rfl) hw
  refine (contract (w.forCall tape i) w.heap.size i.args ds gs before hval hw' hc (hz.weights hw) (hX _ _ _ (by rfl) hx) hsh hholds).mono fun e W' h => ?_
  obtain ⟨v, he, hp⟩ := h
  subst he
  exact ChangeSpec.post_blind hp
end
end Go.Proofs.YtlideagcmhlkeaaDoor

/- The walk of the law ExpandBack (chapter 30). -/
namespace Go.Proofs.YtlideagcmhlkeaaDoor
open Go.RowKit Go.Lib
set_option linter.unusedVariables false
set_option linter.unusedSimpArgs false

theorem same_call30 {a b : SV} (h : sSame14 a b) (hb : big14 a) (W : World) (hA : SrcIn W a) (hB : SrcIn W b) :
    Calls Tryd.prog 22 #[.agg #[.slice a.rA a.rules.length a.rc, .slice a.zA a.zones.length a.zc, .slice a.kA a.links.length a.kc, .slice a.hA a.shifts.length a.hc], .agg #[.slice b.rA b.rules.length b.rc, .slice b.zA b.zones.length b.zc, .slice b.kA b.links.length b.kc, .slice b.hA b.shifts.length b.hc]] W fun x W' => x = .returned (.bool true) ∧ Below W.heap.size W W' := by
  refine (same14_any a b W hA hB hb).mono ?_
  rintro x W' ⟨R, hR, rfl, hb'⟩
  obtain rfl : R = true := hR.2 h
  exact ⟨rfl, hb'⟩
end Go.Proofs.YtlideagcmhlkeaaDoor
