/- Blocks whose first cells are known, written in place; '[]byte(s)'. No function of the program. -/
import Derived.Test.YtmhciidliicheaaDoorOwn
import Derived.Laws.IdiomStrings
namespace Go.Proofs.YtmhciidliicheaaDoor
open Go.RowKit
set_option linter.unusedVariables false

/-- the first cells of block g are these, none of them frozen -/
def Cs (W : World) (g : Nat) (xs : List Value) : Prop :=
  ∃ cur t fz, W.heap[g]? = some (.cells cur t fz) ∧ (∀ j, j < xs.length → cur[j]? = xs[j]?) ∧ ∀ j, j < xs.length → ¬ (fz.1 ≤ j ∧ j < fz.2)
section
variable {W W' : World} {g : Nat} {xs : List Value}
theorem Cs.lt (h : Cs W g xs) : g < W.heap.size := by
  obtain ⟨cur, t, fz, h1, _⟩ := h
  rcases Nat.lt_or_ge g W.heap.size with hlt | hge
  · exact hlt
  · rw [Array.getElem?_eq_none hge] at h1; cases h1
theorem Cs.cell (h : Cs W g xs) (j : Nat) (u : Value) (hu : xs[j]? = some u) : W.cell? ⟨g, j, none⟩ = some u := by
  obtain ⟨cur, t, fz, h1, h2, _⟩ := h
  rw [cell_of_row W g j cur t fz h1, h2 j (List.getElem?_eq_some_iff.mp hu).1, hu]
theorem Cs.frozen (h : Cs W g xs) (j : Nat) (hj : j < xs.length) : W.frozen? ⟨g, j, none⟩ = false := by
  obtain ⟨cur, t, fz, h1, _, h3⟩ := h
  have := h3 j hj
  simp only [World.frozen?, h1]
  simpa using this
theorem Cs.below {B : Nat} (h : Cs W g xs) (hb : Below B W W') (hg : g < B) : Cs W' g xs := by
  obtain ⟨cur, t, fz, h1, h2⟩ := h
  exact ⟨cur, t, fz, (hb.block g hg).trans h1, h2⟩
theorem Cs.belowS (h : Cs W g xs) (hb : Below W.heap.size W W') : Cs W' g xs := h.below hb h.lt
theorem Cs.alloc (h : Cs W g xs) (o : Obj) : Cs (W.alloc o) g xs := h.belowS ((Below.refl _ _).alloc (Nat.le_refl _) o)
theorem Cs.drewN (h : Cs W g xs) (n : Nat) : Cs (W.drewN n) g xs := h
theorem Cs.set_ (h : Cs W g xs) (i : Nat) (u : Value) : Cs (W.setCell ⟨g, i, none⟩ u) g (xs.set i u) := by
  obtain ⟨cur, t, fz, h1, h2, h3⟩ := h
  refine ⟨cur.setIfInBounds i u, t, fz, by simp [World.setCell, Array.getElem?_modify, h1], fun j hj => ?_, fun j hj => h3 j (by rwa [List.length_set] at hj)⟩
  rw [List.length_set] at hj
  have q := h2 j hj
  rw [Array.getElem?_setIfInBounds, List.getElem?_set]
  by_cases e : i = j
  · subst e
    have hc : i < cur.size := by
      rw [List.getElem?_eq_getElem hj] at q
      exact (Array.getElem?_eq_some_iff.1 q).1
    simp [hc, hj]
  · simp [e, q]
theorem Cs.far (h : Cs W g xs) {p : Addr} (hp : g ≠ p.block) (u : Value) : Cs (W.setCell p u) g xs := by
  obtain ⟨cur, t, fz, h1, h2⟩ := h
  exact ⟨cur, t, fz, (Below.heap_setCell W p u g hp).trans h1, h2⟩
theorem Cs.same (h : Cs W g xs) {ys : List Value} (e : xs = ys) : Cs W g ys := e ▸ h
end
theorem Cs.new (W : World) (t : TypeId) (cs : Array Value) : Cs (W.alloc (.cells cs t)) W.heap.size cs.toList :=
  ⟨cs, t, (0, 0), heap_alloc_new W _, fun j hj => by rw [Array.getElem?_toList], fun j hj => by simp⟩
theorem Cs.of_blk {W : World} {g : Nat} {t : TypeId} {cs : Array Value} (h : Blk W g t cs) : Cs W g cs.toList :=
  ⟨cs, t, (0, 0), h, fun j hj => by rw [Array.getElem?_toList], fun j hj => by simp⟩
/-- a row of the call's own -/
theorem Cs.of_own {W : World} {base n size : Nat} {e : TypeId} {v : Value} {xs : List Value} (h : W.ownsRow base e size v n xs) (hn : 0 < n) :
    ∃ B cap, v = .slice (some ⟨B, 0, none⟩) n cap ∧ base ≤ B ∧ n ≤ cap ∧ Cs W B xs := by
  have hl := h.1
  rcases h.2 with ⟨_, q⟩ | ⟨g, cap, cur, rfl, hg, hh, hcap, _, hcs, hx⟩
  · omega
  · refine ⟨g, cap, rfl, hg, hcap, cur, e, (0, 0), hh, fun j hj => ?_, fun j hj => by simp⟩
    rw [← hx, List.getElem?_take, if_pos (by omega), Array.getElem?_toList]
/-- the bytes of a string in a row of their own -/
theorem bytes_of {P : Program} {T S E : TypeId} (hs : P.underlying S = some .string) (hd : P.underlying T = some (.slice E)) (he : P.underlying E = some (.int .u8)) (W : World) (s : ByteArray) :
    ∃ cap W', (convert S T (.string s)).run P W = .ok (.slice (some ⟨W.heap.size, 0, none⟩) s.size cap) W' ∧ Below W.heap.size W W' ∧ Cs W' W.heap.size (bvs s.data.toList) := by
  refine ⟨_, _, run_bytes_of_string W S T E s hs hd he, ((Below.refl _ W).drew).alloc (Nat.le_refl _) _, ?_⟩
  refine ⟨_, _, _, heap_alloc_new _ _, fun j hj => ?_, fun j hj => ?_⟩
  · rw [bvs_len] at hj
    unfold bytesRow bvs
    rw [Array.getElem?_append_left (by simpa using hj)]
    simp
  · rw [bvs_len] at hj
    have : s.size ≤ (bytesRow s (grownCap W s.size 0 E)).size := by unfold bytesRow; rw [Array.size_append, Array.size_map]; exact Nat.le_add_right _ _
    have h2 : s.data.toList.length = s.size := rfl
    simp only
    omega
theorem bvs_set (l : List UInt8) (i : Nat) (c : UInt8) : (bvs l).set i (.int .u8 (c.toNat : Int)) = bvs (l.set i c) := by unfold bvs; rw [List.map_set]
theorem bvs_get (l : List UInt8) (i : Nat) (c : UInt8) (h : l[i]? = some c) : (bvs l)[i]? = some (.int .u8 (c.toNat : Int)) := by unfold bvs; rw [List.getElem?_map, h]; rfl
/-- the first cells of block g are these (to be read) -/
def Rd (W : World) (g : Nat) (xs : List Value) : Prop := ∃ cur t fz, W.heap[g]? = some (.cells cur t fz) ∧ ∀ j, j < xs.length → cur[j]? = xs[j]?
theorem Cs.rd {W : World} {g : Nat} {xs : List Value} (h : Cs W g xs) : Rd W g xs := by
  obtain ⟨cur, t, fz, h1, h2, _⟩ := h
  exact ⟨cur, t, fz, h1, h2⟩
theorem Rd.lt {W : World} {g : Nat} {xs : List Value} (h : Rd W g xs) : g < W.heap.size := by
  obtain ⟨cur, t, fz, h1, _⟩ := h
  rcases Nat.lt_or_ge g W.heap.size with hlt | hge
  · exact hlt
  · rw [Array.getElem?_eq_none hge] at h1; cases h1
theorem Rd.cell {W : World} {g : Nat} {xs : List Value} (h : Rd W g xs) (j : Nat) (u : Value) (hu : xs[j]? = some u) : W.cell? ⟨g, j, none⟩ = some u := by
  obtain ⟨cur, t, fz, h1, h2⟩ := h
  rw [cell_of_row W g j cur t fz h1, h2 j (List.getElem?_eq_some_iff.mp hu).1, hu]
theorem Rd.below {W W' : World} {g B : Nat} {xs : List Value} (h : Rd W g xs) (hb : Below B W W') (hg : g < B) : Rd W' g xs := by
  obtain ⟨cur, t, fz, h1, h2⟩ := h
  exact ⟨cur, t, fz, (hb.block g hg).trans h1, h2⟩
theorem Rd.belowS {W W' : World} {g : Nat} {xs : List Value} (h : Rd W g xs) (hb : Below W.heap.size W W') : Rd W' g xs := h.below hb h.lt
theorem Rd.alloc {W : World} {g : Nat} {xs : List Value} (h : Rd W g xs) (o : Obj) : Rd (W.alloc o) g xs := h.belowS ((Below.refl _ _).alloc (Nat.le_refl _) o)
end Go.Proofs.YtmhciidliicheaaDoor
