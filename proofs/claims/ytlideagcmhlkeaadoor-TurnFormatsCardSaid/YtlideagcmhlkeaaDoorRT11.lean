/- Texts of one proof, one behind the other: Era23e2; Era23c; Grow2; Mad23b. -/
import Derived.Test.YtlideagcmhlkeaaDoorRT10
import Derived.BigRegion
import Derived.IntWalk
import Derived.Deep.DeepCutAuto

/- Eras of layer 23 with an end (kind 2). -/
namespace Go.Proofs.YtlideagcmhlkeaaDoor
open Go.RowKit Go.Lib
set_option linter.unusedVariables false
set_option linter.unusedSimpArgs false

end Go.Proofs.YtlideagcmhlkeaaDoor

/- Eras of layer 23, made of numbers: any of them. -/
namespace Go.Proofs.YtlideagcmhlkeaaDoor
open Go.RowKit Go.Lib

end Go.Proofs.YtlideagcmhlkeaaDoor

/- What the steps keep of a drawn region in which a row of one type grows and a box of another is written. No function of the program. -/
namespace Go.Proofs.YtlideagcmhlkeaaDoor
open Go.RowKit
set_option linter.unusedVariables false

/-- blocks stay as they are but for boxes of one type (B) and, ahead of the part, rows of one type (T) below N -/
structure GB (B T : TypeId) (N : Nat) (b : Bool) (W W' : World) : Prop where
  far : ∀ (g : Nat) (e : TypeId) (cur : Array Value), e ≠ B → (e ≠ T ∨ N ≤ g ∨ b = true) → W.heap[g]? = some (.cells cur e (0, 0)) → W'.heap[g]? = some (.cells cur e (0, 0))
section
variable {B T : TypeId} {N : Nat} {W W' : World}
theorem GB.below (b : Bool) (h : Below W.heap.size W W') : GB B T N b W W' := ⟨fun g e cur _ _ hb => (h.block g (Array.getElem?_eq_some_iff.1 hb).1).trans hb⟩
theorem GB.refl (B T : TypeId) (N : Nat) (b : Bool) (W : World) : GB B T N b W W := GB.below b (Below.refl _ _)
theorem GB.set_ (b : Bool) {g : Nat} {cs : Array Value} (hb : Blk W g B cs) (n : Nat) (u : Value) : GB B T N b W (W.setCell ⟨g, n, none⟩ u) :=
  ⟨fun g' e cur he _ h' => (Below.heap_setCell W _ u g' (fun q => he (by
    have q' : g' = g := q
    subst q'
    unfold Blk at hb
    rw [hb] at h'
    injection h' with h'
    injection h' with _ h' _
    exact h'.symm))).trans h'⟩
theorem GB.grown (hT : T ≠ B) {α : Type} {m : Nat} {f : α → List Value} {b1 c : Nat} {A : Option Addr} {Y : List α} (hz : RowOf W b1 T m f A c Y) (hK : ∀ K, (Value.slice A Y.length c).ownBlock = some K → K < N) (hgr : W.grownBy W' (Value.slice A Y.length c).ownBlock) : GB B T N false W W' :=
  ⟨fun g e cur he hh hb => (hgr.block g (Array.getElem?_eq_some_iff.1 hb).1 fun q => by
    obtain ⟨cur', hc⟩ := block_of hz q.symm
    rw [hb] at hc
    injection hc with hc
    injection hc with _ hc _
    have := hK g q.symm
    rcases hh with h | h | h
    · exact h hc
    · omega
    · cases h).trans hb⟩
end
end Go.Proofs.YtlideagcmhlkeaaDoor

/- How the walk of Draft.Made keeps its blocks: all below a mark but for one box. No function of the program. -/
namespace Go.Proofs.YtlideagcmhlkeaaDoor
open Go.RowKit Go.Lib
set_option linter.unusedVariables false

/-- the blocks below n stay as they are, but for x -/
structure KX (n x : Nat) (A B : World) : Prop where
  sz : n ≤ A.heap.size
  le : A.heap.size ≤ B.heap.size
  blk : ∀ g, g < n → g ≠ x → B.heap[g]? = A.heap[g]?
section
variable {n x : Nat} {A B C : World}
theorem KX.refl (x : Nat) (A : World) : KX A.heap.size x A A := ⟨Nat.le_refl _, Nat.le_refl _, fun _ _ _ => rfl⟩
theorem KX.below (h : KX n x A B) (hb : Below B.heap.size B C) : KX n x A C := ⟨h.sz, Nat.le_trans h.le hb.size, fun g hg hx => (hb.block g (Nat.lt_of_lt_of_le hg (Nat.le_trans h.sz h.le))).trans (h.blk g hg hx)⟩
theorem KX.set_ (h : KX n x A B) {p : Addr} (hp : p.block = x ∨ n ≤ p.block) (u : Value) : KX n x A (B.setCell p u) :=
  ⟨h.sz, by simpa using h.le, fun g hg hx => (Below.heap_setCell B p u g (by rcases hp with q | q <;> omega)).trans (h.blk g hg hx)⟩
theorem KX.grown (h : KX n x A B) {base k size : Nat} {e : TypeId} {v : Value} {xs : List Value} (hr : B.ownsRow base e size v k xs) (hg : B.grownBy C v.ownBlock) (hb : n ≤ base) : KX n x A C :=
  ⟨h.sz, Nat.le_trans h.le hg.size, fun g hg' hx => (hg.block g (Nat.lt_of_lt_of_le hg' (Nat.le_trans h.sz h.le)) fun q => by have := (hr.lt g q.symm).1; omega).trans (h.blk g hg' hx)⟩
theorem KX.cell (h : KX n x A B) {p : Addr} (hp : p.block < n) (hx : p.block ≠ x) : B.cell? p = A.cell? p := World.cell?_of_block (w := A) (h.blk p.block hp hx)
theorem KX.box (h : KX n x A B) {g : Nat} {t : TypeId} {cs : Array Value} (hb : Blk A g t cs) (hg : g < n) (hx : g ≠ x) : Blk B g t cs := (h.blk g hg hx).trans hb
theorem KX.row {α : Type} {base : Nat} {e : TypeId} {m : Nat} {f : α → List Value} {P : Option Addr} {c : Nat} {L : List α} (h : KX n x A B) (hn : n = A.heap.size) (hx : x < base) (hr : RowOf A base e m f P c L) : RowOf B base e m f P c L := by
  refine ⟨hr.1, ?_⟩
  rcases hr.2 with q | ⟨g, cap, cur, hv, hb, hh, hq⟩
  · exact .inl q
  · exact .inr ⟨g, cap, cur, hv, hb, (h.blk g (by rw [hn]; exact (Array.getElem?_eq_some_iff.1 hh).1) (by omega)).trans hh, hq⟩
end
theorem blk_other {W W' : World} {g b n size : Nat} {t e : TypeId} {cs : Array Value} {v : Value} {xs : List Value} (h : Blk W g t cs) (k : W.ownsRow b e size v n xs) (hne : t ≠ e) (hg : W.grownBy W' v.ownBlock) : Blk W' g t cs :=
  (hg.block g h.lt fun q => by
    obtain ⟨cur, hc⟩ := block_of k q.symm
    unfold Blk at h
    rw [h] at hc
    injection hc with hc
    injection hc with _ hc _
    exact hne hc).trans h
/-- cells of a row that comes in, at blocks below a mark and beside a box -/
def CellsX {α : Type} (n x m : Nat) (f : α → List Value) (w : World) (A : Option Addr) (L : List α) : Prop :=
  ∀ k r, L[k]? = some r → ∃ b o, A = some ⟨b, o, none⟩ ∧ b < n ∧ b ≠ x ∧ ∀ j u, (f r)[j]? = some u → w.cell? ⟨b, o + k * m + j, none⟩ = some u
theorem CellsX.kx {α : Type} {n x m : Nat} {f : α → List Value} {A B : World} {p : Option Addr} {L : List α} (h : CellsX n x m f A p L) (hk : KX n x A B) : CellsX n x m f B p L := fun k r hr => by
  obtain ⟨b, o, h1, h2, h3, h4⟩ := h k r hr
  exact ⟨b, o, h1, h2, h3, fun j u hu => (hk.cell (p := ⟨b, o + k * m + j, none⟩) h2 h3).trans (h4 j u hu)⟩
theorem CellsX.take {α : Type} {n x m : Nat} {f : α → List Value} {A : World} {p : Option Addr} {L : List α} (h : CellsX n x m f A p L) (i : Nat) : CellsX n x m f A p (L.take i) := fun k r hr => by
  rw [List.getElem?_take] at hr
  split at hr
  · exact h k r hr
  · cases hr
theorem CellsX.of {α : Type} {n x m : Nat} {f : α → List Value} {w W : World} {p : Option Addr} {L : List α} (h : CellsIn m f w p L) (hb : Below w.heap.size w W) (hn : w.heap.size ≤ n) (hx : w.heap.size ≤ x) : CellsX n x m f W p L := fun k r hr => by
  obtain ⟨b, o, h1, h2, h3⟩ := h k r hr
  exact ⟨b, o, h1, by omega, by omega, fun j u hu => (hb.cell (p := ⟨b, o + k * m + j, none⟩) h2).trans (h3 j u hu)⟩
end Go.Proofs.YtlideagcmhlkeaaDoor
