/- The end of the walk of part.source: the source that is handed back (chapter 24). -/
import Derived.Test.YtmhciidliicheaaDoorPst24
namespace Go.Proofs.YtmhciidliicheaaDoor
open Go.RowKit Go.Lib
set_option linter.unusedVariables false

theorem cells_of_own {α : Type} {f : α → List Value} {m : Nat} (hf : ∀ a, (f a).length = m) {w : World} {base n : Nat} {e : TypeId} {v : Value} {L : List α} (h : w.ownsRow base e m v n (L.flatMap f)) (hn : n = L.length) : ∃ A c, v = .slice A L.length c ∧ CellsIn m f w A L := by
  rcases Nat.eq_zero_or_pos n with h0 | h0
  · subst hn
    rw [h0]
    have hL : L = [] := List.length_eq_zero_iff.1 h0
    subst hL
    rcases h.2 with ⟨rfl, _⟩ | ⟨g, cap, cur, rfl, _⟩
    · exact ⟨none, 0, rfl, CellsIn.nil _ _⟩
    · exact ⟨_, cap, rfl, CellsIn.nil _ _⟩
  · obtain ⟨B, cap, hv, hB, hlt, hcap, hc⟩ := own_form h h0
    refine ⟨some ⟨B, 0, none⟩, cap, by rw [hv, hn], fun k r hr => ⟨B, 0, rfl, hlt, fun j u hu => ?_⟩⟩
    have hj : j < m := by rw [← hf r]; exact (List.getElem?_eq_some_iff.mp hu).1
    rw [Nat.zero_add]
    exact hc _ _ ((flat_at hf L k j r hj hr).trans hu)
structure Fin24 (w : World) (PB : Array Value) (W : World) (R : List RV) (E : List EV) (ZL : List ZV) (v1 v2 v3 s4 : Value) : Prop where
  o1 : W.ownsRow (w.heap.size + 3) 38 11 v1 R.length (r24 R)
  o2 : W.ownsRow (w.heap.size + 3) 33 13 v2 E.length (ecells E)
  o3 : W.ownsRow (w.heap.size + 3) 87 2 v3 (ZL.length + 1) (zc24 ZL ++ [.string ⟨#[90]⟩, v2])
  er : ∀ z ∈ ZL, W.ownsRow (w.heap.size + 3) 33 13 (.slice z.A z.eras.length z.c) z.eras.length (ecells z.eras)
  bs : Blk W (w.heap.size + 2) 62 #[v1, v3, .slice none 0 0, s4]
  bp : Blk W w.heap.size 58 PB
  br : ∃ x y z u, Blk W (w.heap.size + 1) 62 #[x, y, z, u]
  bl : Below w.heap.size w W
section
variable {w W W' : World} {GZ : Nat} {PB : Array Value} {R : List RV} {E : List EV} {ZL : List ZV} {v1 v2 v3 s4 : Value}
theorem St24.fin (h : St24 w GZ PB W R E ZL v1 v2 v3) {v : Value} {n : Nat} (hg : W.grownBy W' v3.ownBlock) (hn : n = ZL.length + 1) (ho : W'.ownsRow (w.heap.size + 3) 87 2 v n (zc24 ZL ++ [.string ⟨#[90]⟩, v2])) :
    Fin24 w PB (W'.setCell ⟨w.heap.size + 2, 1, none⟩ v) R E ZL v1 v2 v (.slice none 0 0) := by
  subst hn
  have hs := grown_set W' (w.heap.size + 2) 1 v
  have n1 := own_diff h.o1 h.o3 (by decide)
  have n2 := own_diff h.o2 h.o3 (by decide)
  have l1 : ∀ k, v3.ownBlock = some k → w.heap.size ≤ k := fun k hk => by have := (h.o3.lt k hk).1; omega
  refine ⟨own_pass24 (own_pass24 h.o1 hg n1) hs ?_, own_pass24 (own_pass24 h.o2 hg n2) hs ?_, own_pass24 ho hs ?_, fun y hy => own_pass24 (own_pass24 (h.er y hy).1 hg (own_diff (h.er y hy).1 h.o3 (by decide))) hs ?_, ?_, ?_, ⟨.slice none 0 0, .slice none 0 0, .slice none 0 0, .slice none 0 0, ?_⟩, ?_⟩
  · exact fun g hg' e => own_low h.o1 (Nat.lt_succ_self _) (e ▸ hg')
  · exact fun g hg' e => own_low h.o2 (Nat.lt_succ_self _) (e ▸ hg')
  · exact fun g hg' e => own_low ho (Nat.lt_succ_self _) (e ▸ hg')
  · exact fun g hg' e => own_low (h.er y hy).1 (Nat.lt_succ_self _) (e ▸ hg')
  · exact (blk_pass h.bs hg (own_low h.o3 (Nat.lt_succ_self _))).set_ 1 _
  · exact (blk_pass h.bp hg (own_low h.o3 (by omega))).far (p := ⟨w.heap.size + 2, 1, none⟩) (by show w.heap.size ≠ w.heap.size + 2; omega) _
  · exact (blk_pass h.br hg (own_low h.o3 (by omega))).far (p := ⟨w.heap.size + 2, 1, none⟩) (by show w.heap.size + 1 ≠ w.heap.size + 2; omega) _
  · exact (below_grown h.bl hg h.bl.size l1).setCell (p := ⟨w.heap.size + 2, 1, none⟩) (by show w.heap.size ≤ w.heap.size + 2; omega) _
theorem Fin24.below (h : Fin24 w PB W R E ZL v1 v2 v3 s4) (hb : Below W.heap.size W W') : Fin24 w PB W' R E ZL v1 v2 v3 s4 := by
  obtain ⟨x, y, z, u, hr⟩ := h.br
  exact ⟨own_below h.o1 hb, own_below h.o2 hb, own_below h.o3 hb, fun z hz => own_below (h.er z hz) hb, h.bs.below hb h.bs.lt, h.bp.below hb h.bp.lt, ⟨x, y, z, u, hr.below hb hr.lt⟩, h.bl.trans (hb.mono h.bl.size)⟩
theorem Fin24.alloc (h : Fin24 w PB W R E ZL v1 v2 v3 s4) (ob : Obj) : Fin24 w PB (W.alloc ob) R E ZL v1 v2 v3 s4 := h.below ((Below.refl _ W).alloc (Nat.le_refl _) ob)
theorem Fin24.shift (h : Fin24 w PB W R E ZL v1 v2 v3 s4) (s : Value) : Fin24 w PB (W.setCell ⟨w.heap.size + 2, 3, none⟩ s) R E ZL v1 v2 v3 s := by
  have hs := grown_set W (w.heap.size + 2) 3 s
  obtain ⟨x, y, z, u, hr⟩ := h.br
  refine ⟨own_pass24 h.o1 hs ?_, own_pass24 h.o2 hs ?_, own_pass24 h.o3 hs ?_, fun y hy => own_pass24 (h.er y hy) hs ?_, h.bs.set_ 3 s, ?_, ⟨x, y, z, u, ?_⟩, ?_⟩
  · exact fun g hg' e => own_low h.o1 (Nat.lt_succ_self _) (e ▸ hg')
  · exact fun g hg' e => own_low h.o2 (Nat.lt_succ_self _) (e ▸ hg')
  · exact fun g hg' e => own_low h.o3 (Nat.lt_succ_self _) (e ▸ hg')
  · exact fun g hg' e => own_low (h.er y hy) (Nat.lt_succ_self _) (e ▸ hg')
  · exact h.bp.far (p := ⟨w.heap.size + 2, 3, none⟩) (by show w.heap.size ≠ w.heap.size + 2; omega) _
  · exact hr.far (p := ⟨w.heap.size + 2, 3, none⟩) (by show w.heap.size + 1 ≠ w.heap.size + 2; omega) _
  · exact h.bl.setCell (p := ⟨w.heap.size + 2, 3, none⟩) (by show w.heap.size ≤ w.heap.size + 2; omega) _
/-- the result's block is written -/
theorem Fin24.done (h : Fin24 w PB W R E ZL v1 v2 v3 s4) (hB : ∀ B b, B ≤ w.heap.size + 1 → Below B b W → Below B b W') (hF : W.grownBy W' (some (w.heap.size + 1))) {a b c d : Bool} {n : Nat} {A4 : Option Addr} {c4 : Nat}
    (hR : R = P24.partR a n) (hE : E = P24.partE b c n) (hZ : ZL.length = n ∧ ∀ z ∈ ZL, z.eras = P24.lmtE) (h4 : s4 = .slice A4 (P24.opt d (⟨#[82]⟩ : ByteArray)).length c4) (hC : CellsIn 1 (fun b : ByteArray => [Value.string b]) W' A4 (P24.opt d ⟨#[82]⟩)) :
    (∃ s : SV, P24.PartOf s a b c d n ∧ Value.agg #[v1, v3, .slice none 0 0, s4] = .agg s.agg ∧ SrcIn W' s) ∧ Below w.heap.size w W' := by
  have low : ∀ {e : TypeId} {size k : Nat} {v : Value} {xs : List Value}, W.ownsRow (w.heap.size + 3) e size v k xs → W'.ownsRow (w.heap.size + 3) e size v k xs := fun ho => own_pass24 ho hF (fun g hg e => own_low ho (by omega) (e ▸ hg))
  obtain ⟨A1, c1, e1, q1⟩ := cells_of_own (f := RV.cells) (m := 11) (fun _ => rfl) (low h.o1) rfl
  obtain ⟨A2, c2, e2, q2⟩ := cells_of_own (f := EV.cells) (m := 13) (fun _ => rfl) (low h.o2) rfl
  have h3 : W'.ownsRow (w.heap.size + 3) 87 2 v3 (ZL.length + 1) ((ZL ++ [(⟨⟨#[90]⟩, A2, c2, E⟩ : ZV)]).flatMap ZV.cells) := by
    have q := low h.o3
    rw [e2] at q
    rw [List.flatMap_append]
    exact q
  obtain ⟨A3, c3, e3, q3⟩ := cells_of_own (f := ZV.cells) (m := 2) (fun _ => rfl) h3 (by rw [List.length_append]; rfl)
  refine ⟨⟨⟨A1, c1, R, A3, c3, ZL ++ [(⟨⟨#[90]⟩, A2, c2, E⟩ : ZV)], none, 0, [], A4, c4, P24.opt d ⟨#[82]⟩⟩, ⟨hR, ⟨ZL, _, rfl, hZ.1, hZ.2, hE⟩, rfl, rfl⟩, ?_, ⟨q1, q3, CellsIn.nil _ _, hC, fun z hz => ?_⟩⟩, hB _ _ (Nat.le_succ _) h.bl⟩
  · rw [e1, e3, h4]; rfl
  · rcases List.mem_append.1 hz with q | q
    · obtain ⟨A5, c5, e5, q5⟩ := cells_of_own (f := EV.cells) (m := 13) (fun _ => rfl) (low (h.er z q)) rfl
      injection e5 with e5
      rw [e5]; exact q5
    · rw [List.mem_singleton] at q
      rw [q]; exact q2
end
end Go.Proofs.YtmhciidliicheaaDoor
