/- A slice that comes in, read as a list of elements of some cells each (for the cards). No function of the program. -/
import Derived.Test.YtmhciidliicheaaDoorOwn
import Derived.Deep.Slices
import Derived.Deep.Fields
import Derived.ChangeSame
import Derived.WideShapes
namespace Go.Proofs.YtmhciidliicheaaDoor
open Go.RowKit Go.ChangeShapes Go.WideShapes
set_option linter.unusedVariables false

/-- the slice holds these elements, of m cells each -/
def CellsIn {α : Type} (m : Nat) (f : α → List Value) (w : World) (A : Option Addr) (L : List α) : Prop :=
  ∀ k r, L[k]? = some r → ∃ b o, A = some ⟨b, o, none⟩ ∧ b < w.heap.size ∧ ∀ j u, (f r)[j]? = some u → w.cell? ⟨b, o + k * m + j, none⟩ = some u
/-- a byte's cell -/
def u8Cell (n : Int) : List Value := [.int .u8 n]
theorem CellsIn.below {α : Type} {m : Nat} {f : α → List Value} {w w' : World} {A : Option Addr} {L : List α} (h : CellsIn m f w A L) (hb : Below w.heap.size w w') : CellsIn m f w' A L := by
  intro k r hr
  obtain ⟨b, o, hA, hlt, hc⟩ := h k r hr
  exact ⟨b, o, hA, Nat.lt_of_lt_of_le hlt hb.size, fun j u hu => (hb.cell (p := ⟨b, o + k * m + j, none⟩) hlt).trans (hc j u hu)⟩
theorem CellsIn.alloc {α : Type} {m : Nat} {f : α → List Value} {w : World} {A : Option Addr} {L : List α} (h : CellsIn m f w A L) (ob : Obj) : CellsIn m f (w.alloc ob) A L := h.below ((Below.refl _ _).alloc (Nat.le_refl _) ob)
theorem CellsIn.nil {α : Type} {m : Nat} {f : α → List Value} (w : World) (A : Option Addr) : CellsIn m f w A [] := fun k r hr => by simp at hr
theorem CellsIn.drewN {α : Type} {m : Nat} {f : α → List Value} {w : World} {A : Option Addr} {L : List α} (h : CellsIn m f w A L) (n : Nat) : CellsIn m f (w.drewN n) A L := h
section
variable {H : Type} {enc : TypeId × Value → H} {w : World} {base : Nat} {sp : Nat → Bool} {held : Bool}
theorem add_plain (b o : Nat) (k j : Nat) : ((⟨b, o, none⟩ : Addr).add k).add j = ⟨b, o + k + j, none⟩ := by
  unfold Addr.add
  by_cases hk : k = 0 <;> by_cases hj : j = 0 <;> simp [hk, hj]
/-- a slice that comes in, on the list of its cells (a field of a struct) -/
theorem open_cells {P : Program} {α : Type} {t e : TypeId} {m : Nat} {f : α → List Value} {Good : α → Prop} {fuel : Nat} {cs : List Value} {x : DataW H × List MemPlace} (ht : P.underlying t = some (.slice e)) (hC : P.cellsOf e = m) (h0 : 0 < m)
    (hopen : ∀ (fuel : Nat) (cs : List Value) (x : DataW H × List MemPlace), cs.length = m → DataW.trod enc P w base sp held fuel e cs = some x → ∃ r : α, cs = f r ∧ Good r)
    (hf : DataW.trod enc P w base sp held fuel t cs = some x) :
    ∃ (A : Option Addr) (c : Nat) (L : List α), cs = [.slice A L.length c] ∧ L.length ≤ maxLen ∧ CellsIn m f w A L ∧ ∀ r ∈ L, Good r := by
  rcases Go.Deep.open_slice ht hf with ⟨h0', _⟩ | ⟨a, len, cap, m', n, D, Pl, hcs, hb, hl, hm, hmm, hx, hi⟩
  · exact ⟨none, 0, [], h0', Nat.zero_le _, CellsIn.nil _ _, fun r hr => by simp at hr⟩
  · have hlm : len ≤ m' := by rw [hmm]; split <;> omega
    have key : ∀ i, i < len → ∃ r : α, Good r ∧ (f r).length = m ∧ ∀ j u, (f r)[j]? = some u → w.cell? ((a.add (i * m)).add j) = some u := by
      intro i hil
      obtain ⟨cs', hc, htt⟩ := hi i (by omega)
      rw [hC] at hc
      obtain ⟨_, hcl, hat⟩ := World.cells?_some hc
      obtain ⟨r, hr, hw⟩ := hopen _ _ _ hcl htt
      refine ⟨r, hw, by rw [← hr, hcl], fun j u hu => ?_⟩
      have hj : j < m := by rw [← hcl, hr]; exact (List.getElem?_eq_some_iff.mp hu).1
      rw [hat j hj, hr]; exact hu
    have key2 : ∃ L : List α, L.length = len ∧ ∀ i r, L[i]? = some r → Good r ∧ (f r).length = m ∧ ∀ j u, (f r)[j]? = some u → w.cell? ((a.add (i * m)).add j) = some u := by
      refine ⟨List.ofFn (fun i : Fin len => Classical.choose (key i.1 i.2)), by simp, fun i r hr => ?_⟩
      have hil : i < len := by have := (List.getElem?_eq_some_iff.mp hr).1; simpa using this
      rw [List.getElem?_ofFn, dif_pos hil] at hr
      injection hr with hr
      rw [← hr]
      exact Classical.choose_spec (key i hil)
    obtain ⟨L, hLl, hL⟩ := key2
    refine ⟨some a, cap, L, by rw [hLl]; exact hcs, by rw [hLl]; omega, fun k r hr => ?_, fun r hr => ?_⟩
    · have h00 : 0 < L.length := by have := (List.getElem?_eq_some_iff.mp hr).1; omega
      have hs : a.spot = none := by
        obtain ⟨_, hl0, q⟩ := hL 0 _ (List.getElem?_eq_getElem h00)
        have q0 := q 0 _ (List.getElem?_eq_getElem (by omega))
        rw [Nat.zero_mul] at q0
        exact World.cell?_spot (by simpa [Addr.add] using q0)
      obtain ⟨_, hl1, hk⟩ := hL k r hr
      obtain ⟨b, o, s⟩ := a
      simp only at hs
      subst hs
      refine ⟨b, o, rfl, ?_, fun j u hu => ?_⟩
      · have q := hk 0 _ (List.getElem?_eq_getElem (by omega))
        rw [add_plain] at q
        unfold World.cell? at q
        rcases Nat.lt_or_ge b w.heap.size with q' | q'
        · exact q'
        · rw [Array.getElem?_eq_none q'] at q; cases q
      · have := hk j u hu
        rwa [add_plain] at this
    · obtain ⟨k, hk⟩ := List.mem_iff_getElem?.1 hr
      exact (hL k r hk).1
/-- an argument that is a slice -/
theorem open_arg {P : Program} {α : Type} {t e : TypeId} {m : Nat} {f : α → List Value} {Good : α → Prop} {v : Value} {d : DataW H} {p : List MemPlace} (ht : P.underlying t = some (.slice e)) (hC : P.cellsOf e = m) (h0 : 0 < m)
    (hopen : ∀ (fuel : Nat) (cs : List Value) (x : DataW H × List MemPlace), cs.length = m → DataW.trod enc P w base sp held fuel e cs = some x → ∃ r : α, cs = f r ∧ Good r)
    (hok : ∃ a len cap, v = .slice a len cap) (h : DataW.Trod enc P w base sp held t v d p) :
    ∃ (A : Option Addr) (c : Nat) (L : List α), v = .slice A L.length c ∧ L.length ≤ maxLen ∧ CellsIn m f w A L ∧ ∀ r ∈ L, Good r := by
  obtain ⟨a0, len0, cap0, rfl⟩ := hok
  obtain ⟨fuel, hf⟩ := h
  obtain ⟨A, c, L, hv, h1, h2, h3⟩ := open_cells ht hC h0 hopen hf
  have hv' : [Value.slice a0 len0 cap0] = [Value.slice A L.length c] := hv
  injection hv' with hv'
  exact ⟨A, c, L, hv', h1, h2, h3⟩
end
end Go.Proofs.YtmhciidliicheaaDoor
