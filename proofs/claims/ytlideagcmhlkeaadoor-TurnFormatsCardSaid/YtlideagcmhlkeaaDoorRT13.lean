/- Texts of one proof, one behind the other: Open20; Open23; Shape; Laws30b. -/
import Derived.Test.YtlideagcmhlkeaaDoorRT12
import Derived.Deep.Slices
import Derived.Deep.Fields
import Derived.ChangeSame
import Derived.WideShapes
import Derived.OpenShut
import Derived.Handed
import Derived.HandedShaped

/- What an era by value and a slice of rules that come in read as (for the cards of chapter 20 and above). -/
namespace Go.Proofs.YtlideagcmhlkeaaDoor
open Go.RowKit Go.ChangeShapes Go.WideShapes
set_option linter.unusedVariables false

section
variable {H : Type} {enc : TypeId × Value → H} {w : World} {base : Nat} {sp : Nat → Bool} {held : Bool}
theorem field_of {P : Program} {t : TypeId} {fs : Array Field} {fuel : Nat} {cs : List Value} {x : DataW H × List MemPlace} (ht : P.underlying t = some (.struct fs)) (h : DataW.trod enc P w base sp held fuel t cs = some x) (i : Nat) (ty : TypeId) (o s : Nat)
    (hf : (fs[i]?).map (fun f => (f.type, f.offset, P.cellsOf f.type)) = some (ty, o, s)) : ∃ n y, DataW.trod enc P w base sp held n ty ((cs.drop o).take s) = some y := by
  obtain ⟨xs, n, _, _, _, hl, hg⟩ := DataW.trod_struct ht h
  cases hq : fs[i]? with
  | none => rw [hq] at hf; cases hf
  | some f =>
    rw [hq] at hf
    simp only [Option.map_some, Option.some.injEq, Prod.mk.injEq] at hf
    obtain ⟨rfl, rfl, rfl⟩ := hf
    have hi : i < xs.length := by rw [hl]; exact (Array.getElem?_eq_some_iff.1 hq).1
    exact ⟨n, xs[i], (hg i f hq).trans (List.getElem?_eq_getElem hi)⟩
theorem leaf_int {P : Program} {t : TypeId} {fs : Array Field} {fuel : Nat} {cs : List Value} {x : DataW H × List MemPlace} (ht : P.underlying t = some (.struct fs)) (h : DataW.trod enc P w base sp held fuel t cs = some x) (i : Nat) (ty : TypeId) (o : Nat) (k : IntKind)
    (hf : (fs[i]?).map (fun f => (f.type, f.offset, P.cellsOf f.type)) = some (ty, o, 1)) (hk : P.underlying ty = some (.int k)) : ∃ n, (cs.drop o).take 1 = [.int k n] ∧ (Lit.int k n).wf = true := by
  obtain ⟨n, y, hy⟩ := field_of ht h i ty o 1 hf
  obtain ⟨z, e, _, hw⟩ := DataW.trod_int hk hy
  exact ⟨z, e, hw⟩
theorem leaf_str {P : Program} {t : TypeId} {fs : Array Field} {fuel : Nat} {cs : List Value} {x : DataW H × List MemPlace} (ht : P.underlying t = some (.struct fs)) (h : DataW.trod enc P w base sp held fuel t cs = some x) (i : Nat) (ty : TypeId) (o : Nat)
    (hf : (fs[i]?).map (fun f => (f.type, f.offset, P.cellsOf f.type)) = some (ty, o, 1)) (hk : P.underlying ty = some .string) : ∃ s : ByteArray, (cs.drop o).take 1 = [.string s] ∧ s.size ≤ maxLen := by
  obtain ⟨n, y, hy⟩ := field_of ht h i ty o 1 hf
  obtain ⟨z, e, _, hw⟩ := DataW.trod_string hk hy
  exact ⟨z, e, hw⟩
end
end Go.Proofs.YtlideagcmhlkeaaDoor

/- What a draft of layer 23 that comes in reads as (for the cards of chapter 30). -/
namespace Go.Proofs.YtlideagcmhlkeaaDoor
open Go.RowKit Go.ChangeShapes Go.WideShapes
set_option linter.unusedVariables false

section
variable {H : Type} {enc : TypeId × Value → H} {w : World} {base : Nat} {sp : Nat → Bool} {held : Bool}
end
end Go.Proofs.YtlideagcmhlkeaaDoor

/- The wrap of a law's row whose walk asks for the world's shape beside the listed variables. No function of the program. -/
namespace Go.Proofs.YtlideagcmhlkeaaDoor
open Go
section
variable {H : Type} {enc : TypeId × Value → H}
theorem handed_shaped {a : Assume} {C : Checked} {os : Os} {f : FuncId} {fn : Func} {s : ChangeSpec} {conds : List PathCond} {apart fresh handsOn again : Bool} {X : World → Array Value → Prop}
    (hX : ∀ (w w' : World) (args : Array Value), w.heap = w'.heap → X w args → X w' args)
    (own : ownKnob C.prog.godebug = none) (started : os.Started) (noInit : C.prog.inits.idxOf? f = none) (hfn : C.prog.funcs[f]? = some fn)
    (witness : ∃ (w : World) (tape : Tape) (i : Input), w.os = os ∧ (w.forCall tape i).Shaped C.prog ∧ i.vars = [] ∧ Input.okWide C.prog (w.forCall tape i) .any w.heap.size f i ∧
      ((s.pre enc C.prog fn conds apart (w.forCall tape i).memory i.args ∧ X (w.forCall tape i).memory i.args) ∧ sizedMet enc C.prog fn (OpenSpec.ofChange s) apart (w.forCall tape i).memory i.args) ∧ a.holds C.prog (lone (Frame.enter C.prog f i.args .normal) [] (w.forCall tape i)))
    (contract : ∀ (W : World) (base : Nat) (args : Array Value) (ds gs : List (DataW H)) (before : List MemPlace),
      (∀ (j : Nat) t v, fn.params[j]? = some t → args[j]? = some v → Value.okWide C.prog W .any base t v) →
      DataW.Whole enc C.prog fn.params.toList s.vars apart W args.toList ds gs before →
      conds.all (PathCond.test C.prog ⟨fn.params.toList, ds, s.plain.varTypes C.prog, gs⟩) = true →
      (DataW.weightsEach C.prog (fn.params.toList ++ s.plain.varTypes C.prog) (ds ++ gs)).all (· ≤ reachBytes) = true → X W args → W.ShapedOpen C.prog →
      a.holds C.prog (lone (Frame.enter C.prog f args .normal) [] W) →
      Calls C.prog f args W fun e W' => ∃ v, e = .returned v ∧ s.post enc C.prog fn apart fresh handsOn again W args v W') :
    ReturnsInHanded a C os f .any (fun w args => (s.pre enc C.prog fn conds apart w args ∧ X w args) ∧ sizedMet enc C.prog fn (OpenSpec.ofChange s) apart w args) (s.post enc C.prog fn apart fresh handsOn again) := by
  refine returnsInHanded_of_calls own started noInit witness ?_
  intro w tape i _ hsh _ hok hpre hholds
  obtain ⟨_, _, _, fn', hfn', _, _, _, _, hval⟩ := hok
  obtain rfl : fn' = fn := Option.some.inj (hfn'.symm.trans hfn)
  obtain ⟨⟨⟨ds, gs, before, hw, hc⟩, hx⟩, hz⟩ := hpre
  have hw' := DataW.Whole.of_heap (w' := w.forCall tape i) (by rfl) hw
  refine (contract (w.forCall tape i) w.heap.size i.args ds gs before hval hw' hc (hz.weights hw) (hX _ _ _ (by rfl) hx) hsh hholds).mono fun e W' h => ?_
  obtain ⟨v, he, hp⟩ := h
  subst he
  exact ChangeSpec.post_blind hp
end
end Go.Proofs.YtlideagcmhlkeaaDoor

/- The walk of the law ExpandBack (chapter 30). -/
namespace Go.Proofs.YtlideagcmhlkeaaDoor
open Go.RowKit Go.Lib
set_option linter.unusedVariables false
set_option linter.unusedSimpArgs false

end Go.Proofs.YtlideagcmhlkeaaDoor
