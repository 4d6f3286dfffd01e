/- A whole struct is stored into a block that is known whole. No function of the program. -/
import Derived.Test.YtmhciidliicheaaDoorBlk
import Derived.Deep.MidRow
namespace Go.Proofs.YtmhciidliicheaaDoor
open Go.RowKit
set_option linter.unusedVariables false

theorem blk_setCells {g : Nat} {t : TypeId} : ∀ (vs : List Value) (o : Nat) (w : World) (cs : Array Value), Blk w g t cs → o + vs.length ≤ cs.size → Blk (w.setCells g o vs) g t (cs.toList.take o ++ vs ++ cs.toList.drop (o + vs.length)).toArray
  | [], o, w, cs, h, _ => by
    have e : (cs.toList.take o ++ [] ++ cs.toList.drop (o + 0)).toArray = cs := by
      rw [List.append_nil, Nat.add_zero, List.take_append_drop]
    show Blk w g t (cs.toList.take o ++ [] ++ cs.toList.drop (o + 0)).toArray
    rw [e]; exact h
  | v :: r, o, w, cs, h, hl => by
    rw [List.length_cons] at hl
    have ih := blk_setCells r (o + 1) (w.setCell ⟨g, o, none⟩ v) (cs.setIfInBounds o v) (h.set_ o v) (by rw [Array.size_setIfInBounds]; omega)
    have e : (cs.setIfInBounds o v).toList.take (o + 1) ++ r ++ (cs.setIfInBounds o v).toList.drop (o + 1 + r.length) = cs.toList.take o ++ (v :: r) ++ cs.toList.drop (o + (v :: r).length) := by
      rw [Array.toList_setIfInBounds, List.length_cons]
      have ho : o < cs.toList.length := by rw [Array.length_toList]; omega
      rw [List.take_add_one, List.getElem?_set_self ho, List.take_set_of_le (Nat.le_refl _), List.drop_set_of_lt (by omega)]
      simp [Nat.add_assoc, Nat.add_comm 1]
    rw [e] at ih
    exact ih
theorem below_setCells {B g : Nat} {a : World} (hg : B ≤ g) : ∀ (vs : List Value) (o : Nat) (w : World), Below B a w → Below B a (w.setCells g o vs)
  | [], _, _, h => h
  | v :: r, o, w, h => below_setCells hg r (o + 1) _ (h.setCell (p := ⟨g, o, none⟩) hg v)
theorem far_setCells {g g' : Nat} {t : TypeId} {cs : Array Value} (hg : g' ≠ g) : ∀ (vs : List Value) (o : Nat) (w : World), Blk w g' t cs → Blk (w.setCells g o vs) g' t cs
  | [], _, _, h => h
  | v :: r, o, w, h => far_setCells hg r (o + 1) _ (h.far (p := ⟨g, o, none⟩) hg v)
theorem there_of_blk {w : World} {g : Nat} {t : TypeId} {cs : Array Value} (h : Blk w g t cs) : w.there g 0 cs.size := fun j hj => by
  rw [Nat.zero_add]
  exact ⟨by rw [Blk.cell h, Array.getElem?_eq_getElem hj]; rfl, Blk.frozen h j⟩
theorem wpList_store_blk {P : Program} {ops : Array Oper} {rest : List Oper} {op : Oper} {a : Act} {w : World} {Q : Exit → Act → World → Prop} (hgd : op.guard = none) (ty : TypeId) (x y : Operand) (ho : op.op = .store ty x y)
    (g : Nat) (cells : List Value) (hx : a.eval x = .pointer (some ⟨g, 0, none⟩)) (hy : a.eval y = .agg cells.toArray) (t : TypeId) (cs : Array Value) (hB : Blk w g t cs) (hs : cs.size = cells.length)
    (hi : (P.info? ty).map (·.size) = some cells.length) (h1 : ∀ v ∈ cells, v.oneCell' = true)
    (h : ∀ w', Blk w' g t cells.toArray → (∀ B b, B ≤ g → Below B b w → Below B b w') → (∀ g' t' cs', g' ≠ g → Blk w g' t' cs' → Blk w' g' t' cs') → wpList P ops Q rest (a.put op.dst undef) w') : wpList P ops Q (op :: rest) a w := by
  have hsz : cells.toArray.size = cells.length := List.size_toArray
  refine wpList_store_mid hgd ty x y ho g 0 cells.toArray hx hy ?_ (by rw [hsz]; exact hi) (all_oneCell_toArray h1) ?_
  · have := there_of_blk hB
    rw [hs] at this
    rw [hsz]; exact this
  · refine h _ ?_ (fun B b hb hw => below_setCells hb _ _ _ hw) (fun g' t' cs' hne hb => far_setCells hne _ _ _ hb)
    have q := blk_setCells cells.toArray.toList 0 w cs hB (by rw [Nat.zero_add, Array.length_toList, hsz, hs]; exact Nat.le_refl _)
    have e : (cs.toList.take 0 ++ cells.toArray.toList ++ cs.toList.drop (0 + cells.toArray.toList.length)).toArray = cells.toArray := by
      have : cs.toList.drop (0 + cells.toArray.toList.length) = [] := List.drop_eq_nil_iff.2 (by rw [Array.length_toList, Array.length_toList, hsz, hs]; omega)
      rw [this]; simp
    rw [e] at q
    exact q
end Go.Proofs.YtmhciidliicheaaDoor
