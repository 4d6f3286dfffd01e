/- What the walk of part.source keeps: rows of rules, eras and zones of its own, and where they lie (chapter 24). -/
import Derived.Test.YtmhciidliicheaaDoorPlain24p
import Derived.Deep.AppendLies
namespace Go.Proofs.YtmhciidliicheaaDoor
open Go.RowKit Go.Lib
set_option linter.unusedVariables false

section
variable {w w' : World} {base n size : Nat} {e : TypeId} {v : Value} {xs : List Value}
theorem own_pass24 {b : Option Nat} (h : w.ownsRow base e size v n xs) (hg : w.grownBy w' b) (hne : ∀ g, v.ownBlock = some g → b ≠ some g) : w'.ownsRow base e size v n xs := by
  refine ⟨h.1, ?_⟩
  rcases h.2 with q | ⟨g, cap, cur, hv, hbg, hh, q⟩
  · exact .inl q
  · refine .inr ⟨g, cap, cur, hv, hbg, ?_, q⟩
    have hlt := (h.lt g (by rw [hv]; rfl)).2
    rw [hg.block g hlt fun e => hne g (by rw [hv]; rfl) e.symm]; exact hh
theorem own_heap24 (h : w.ownsRow base e size v n xs) {g : Nat} (hg : v.ownBlock = some g) : ∃ cur, w.heap[g]? = some (.cells cur e (0, 0)) := by
  rcases h.2 with ⟨q, _⟩ | ⟨g', cap, cur, hv, hbg, hh, q⟩
  · rw [q] at hg; cases hg
  · rw [hv] at hg
    have hg : some g' = some g := hg
    injection hg with hg
    subst hg
    exact ⟨cur, hh⟩
theorem own_diff {base2 n2 size2 : Nat} {e2 : TypeId} {v2 : Value} {xs2 : List Value} (h : w.ownsRow base e size v n xs) (h2 : w.ownsRow base2 e2 size2 v2 n2 xs2) (hne : e ≠ e2) : ∀ g, v.ownBlock = some g → v2.ownBlock ≠ some g := by
  intro g hg hg2
  obtain ⟨c1, q1⟩ := own_heap24 h hg
  obtain ⟨c2, q2⟩ := own_heap24 h2 hg2
  rw [q1] at q2
  injection q2 with q2
  injection q2 with _ q2 _
  exact hne q2
theorem own_blk {g : Nat} {t : TypeId} {cs : Array Value} (h : w.ownsRow base e size v n xs) (hb : Blk w g t cs) (hne : e ≠ t) : v.ownBlock ≠ some g := by
  intro hg
  obtain ⟨c1, q1⟩ := own_heap24 h hg
  unfold Blk at hb
  rw [q1] at hb
  injection hb with hb
  injection hb with _ hb _
  exact hne hb
theorem blk_pass {g : Nat} {t : TypeId} {cs : Array Value} {b : Option Nat} (hb : Blk w g t cs) (hg : w.grownBy w' b) (hne : b ≠ some g) : Blk w' g t cs :=
  (hg.block g hb.lt fun q => hne q.symm).trans hb
theorem grown_set (w : World) (g i : Nat) (u : Value) : w.grownBy (w.setCell ⟨g, i, none⟩ u) (some g) := ⟨rfl, rfl, rfl, by simp, fun k _ hk => Below.heap_setCell w ⟨g, i, none⟩ u k (fun q => hk (by rw [q]))⟩
theorem own_low (h : w.ownsRow base e size v n xs) {g : Nat} (hg : g < base) : v.ownBlock ≠ some g := fun q => by have := (h.lt g q).1; omega
end
def r24 (L : List RV) : List Value := L.flatMap RV.cells
def zc24 (L : List ZV) : List Value := L.flatMap ZV.cells
def zeroS : Array Value := #[.slice none 0 0, .slice none 0 0, .slice none 0 0, .slice none 0 0]
/-- an era row of a zone, apart from another row -/
def ERow (W : World) (N : Nat) (v2 : Value) (z : ZV) : Prop := W.ownsRow (N + 3) 33 13 (.slice z.A z.eras.length z.c) z.eras.length (ecells z.eras) ∧ ∀ g, (Value.slice z.A z.eras.length z.c).ownBlock = some g → v2.ownBlock ≠ some g
/-- the walk's state -/
structure St24 (w : World) (GZ : Nat) (PB : Array Value) (W : World) (R : List RV) (E : List EV) (ZL : List ZV) (v1 v2 v3 : Value) : Prop where
  o1 : W.ownsRow (w.heap.size + 3) 38 11 v1 R.length (r24 R)
  o2 : W.ownsRow (w.heap.size + 3) 33 13 v2 E.length (ecells E)
  o3 : W.ownsRow (w.heap.size + 3) 87 2 v3 ZL.length (zc24 ZL)
  er : ∀ z ∈ ZL, ERow W w.heap.size v2 z
  bs : Blk W (w.heap.size + 2) 62 #[v1, v3, .slice none 0 0, .slice none 0 0]
  bz : Blk W GZ 87 #[.string ⟨#[90]⟩, v2]
  bp : Blk W w.heap.size 58 PB
  br : Blk W (w.heap.size + 1) 62 zeroS
  z3 : v3.ownBlock ≠ some GZ
  gz : w.heap.size + 2 < GZ
  bl : Below w.heap.size w W
section
variable {w W W' : World} {GZ : Nat} {PB : Array Value} {R : List RV} {E : List EV} {ZL : List ZV} {v1 v2 v3 : Value}
theorem St24.below (h : St24 w GZ PB W R E ZL v1 v2 v3) (hb : Below W.heap.size W W') : St24 w GZ PB W' R E ZL v1 v2 v3 :=
  ⟨own_below h.o1 hb, own_below h.o2 hb, own_below h.o3 hb, fun z hz => ⟨own_below (h.er z hz).1 hb, (h.er z hz).2⟩, h.bs.below hb h.bs.lt, h.bz.below hb h.bz.lt, h.bp.below hb h.bp.lt, h.br.below hb h.br.lt, h.z3, h.gz, h.bl.trans (hb.mono h.bl.size)⟩
theorem St24.alloc (h : St24 w GZ PB W R E ZL v1 v2 v3) (ob : Obj) : St24 w GZ PB (W.alloc ob) R E ZL v1 v2 v3 := h.below ((Below.refl _ W).alloc (Nat.le_refl _) ob)
theorem St24.drew (h : St24 w GZ PB W R E ZL v1 v2 v3) : St24 w GZ PB W.drew R E ZL v1 v2 v3 := h.below ((Below.refl _ W).drew)
theorem below_grown {b : Option Nat} {B : Nat} {a : World} (hb : Below B a W) (hg : W.grownBy W' b) (hB : B ≤ W.heap.size) (hne : ∀ k, b = some k → B ≤ k) : Below B a W' := hb.grown hg hB hne
/-- a rule more -/
theorem St24.app1 (h : St24 w GZ PB W R E ZL v1 v2 v3) {v : Value} {n : Nat} {r : RV} (hg : W.grownBy W' v1.ownBlock) (hn : n = R.length + 1) (ho : W'.ownsRow (w.heap.size + 3) 38 11 v n (r24 R ++ r.cells)) :
    St24 w GZ PB (W'.setCell ⟨w.heap.size + 2, 0, none⟩ v) (R ++ [r]) E ZL v v2 v3 := by
  subst hn
  have hs := grown_set W' (w.heap.size + 2) 0 v
  have n1 := own_diff h.o2 h.o1 (by decide)
  have n3 := own_diff h.o3 h.o1 (by decide)
  have l1 : ∀ k, v1.ownBlock = some k → w.heap.size ≤ k := fun k hk => by have := (h.o1.lt k hk).1; omega
  have hgz := h.gz
  refine ⟨?_, own_pass24 (own_pass24 h.o2 hg n1) hs ?_, own_pass24 (own_pass24 h.o3 hg n3) hs ?_, fun z hz => ⟨own_pass24 (own_pass24 (h.er z hz).1 hg (own_diff (h.er z hz).1 h.o1 (by decide))) hs ?_, (h.er z hz).2⟩, ?_, ?_, ?_, ?_, h.z3, h.gz, ?_⟩
  · have q := own_pass24 ho hs (fun g hg' e => own_low ho (Nat.lt_succ_self _) (e ▸ hg'))
    rw [List.length_append, show r24 (R ++ [r]) = r24 R ++ r.cells by unfold r24; simp]
    exact q
  · exact fun g hg' e => own_low h.o2 (Nat.lt_succ_self _) (e ▸ hg')
  · exact fun g hg' e => own_low h.o3 (Nat.lt_succ_self _) (e ▸ hg')
  · exact fun g hg' e => own_low (h.er z hz).1 (Nat.lt_succ_self _) (e ▸ hg')
  · exact (blk_pass h.bs hg (own_low h.o1 (Nat.lt_succ_self _))).set_ 0 v
  · exact (blk_pass h.bz hg (own_blk h.o1 h.bz (by decide))).far (p := ⟨w.heap.size + 2, 0, none⟩) (by show GZ ≠ w.heap.size + 2; omega) v
  · exact (blk_pass h.bp hg (own_low h.o1 (by omega))).far (p := ⟨w.heap.size + 2, 0, none⟩) (by show w.heap.size ≠ w.heap.size + 2; omega) v
  · exact (blk_pass h.br hg (own_low h.o1 (by omega))).far (p := ⟨w.heap.size + 2, 0, none⟩) (by show w.heap.size + 1 ≠ w.heap.size + 2; omega) v
  · exact (below_grown h.bl hg h.bl.size l1).setCell (p := ⟨w.heap.size + 2, 0, none⟩) (by show w.heap.size ≤ w.heap.size + 2; omega) v
/-- an era more -/
theorem St24.app2 (h : St24 w GZ PB W R E ZL v1 v2 v3) {g c n : Nat} {r : EV} (hg : W.grownBy W' v2.ownBlock) (hn : n = E.length + 1) (ho : W'.ownsRow (w.heap.size + 3) 33 13 (.slice (some ⟨g, 0, none⟩) n c) n (ecells E ++ r.cells)) (hat : v2.ownBlock = some g ∨ g = W.heap.size) :
    St24 w GZ PB (W'.setCell ⟨GZ, 1, none⟩ (.slice (some ⟨g, 0, none⟩) n c)) R (E ++ [r]) ZL v1 (.slice (some ⟨g, 0, none⟩) n c) v3 := by
  subst hn
  have hs := grown_set W' GZ 1 (.slice (some ⟨g, 0, none⟩) (E.length + 1) c)
  have n1 := own_diff h.o1 h.o2 (by decide)
  have n3 := own_diff h.o3 h.o2 (by decide)
  have l1 : ∀ k, v2.ownBlock = some k → w.heap.size ≤ k := fun k hk => by have := (h.o2.lt k hk).1; omega
  have hgz := h.gz
  have bz' := blk_pass h.bz hg (own_blk h.o2 h.bz (by decide))
  have e1 := own_pass24 h.o1 hg n1
  have e3 := own_pass24 h.o3 hg n3
  refine ⟨own_pass24 e1 hs ?_, ?_, own_pass24 e3 hs ?_, fun z hz => ?_, ?_, ?_, ?_, ?_, h.z3, h.gz, ?_⟩
  · exact fun g hg' e => own_blk e1 bz' (by decide) (e ▸ hg')
  · have q := own_pass24 ho hs (fun g hg' e => own_blk ho bz' (by decide) (e ▸ hg'))
    rw [List.length_append, ecells_snoc]
    exact q
  · exact fun g hg' e => h.z3 (e ▸ hg')
  · have ez := own_pass24 (h.er z hz).1 hg (h.er z hz).2
    refine ⟨own_pass24 ez hs (fun g hg' e => own_blk ez bz' (by decide) (e ▸ hg')), fun k hk e => ?_⟩
    have e' : some g = some k := e
    injection e' with e'
    subst e'
    rcases hat with q | q
    · exact (h.er z hz).2 _ hk q
    · have := ((h.er z hz).1.lt _ hk).2; omega
  · exact (blk_pass h.bs hg (own_low h.o2 (Nat.lt_succ_self _))).far (p := ⟨GZ, 1, none⟩) (by show w.heap.size + 2 ≠ GZ; omega) _
  · exact bz'.set_ 1 _
  · exact (blk_pass h.bp hg (own_low h.o2 (by omega))).far (p := ⟨GZ, 1, none⟩) (by show w.heap.size ≠ GZ; omega) _
  · exact (blk_pass h.br hg (own_low h.o2 (by omega))).far (p := ⟨GZ, 1, none⟩) (by show w.heap.size + 1 ≠ GZ; omega) _
  · exact (below_grown h.bl hg h.bl.size l1).setCell (p := ⟨GZ, 1, none⟩) (by show w.heap.size ≤ GZ; omega) _
/-- a zone more -/
theorem St24.app3 (h : St24 w GZ PB W R E ZL v1 v2 v3) {g c n : Nat} {z : ZV} (hg : W.grownBy W' v3.ownBlock) (hn : n = ZL.length + 1) (ho : W'.ownsRow (w.heap.size + 3) 87 2 (.slice (some ⟨g, 0, none⟩) n c) n (zc24 ZL ++ z.cells)) (hat : v3.ownBlock = some g ∨ g = W.heap.size) (hz : ERow W w.heap.size v2 z) :
    St24 w GZ PB (W'.setCell ⟨w.heap.size + 2, 1, none⟩ (.slice (some ⟨g, 0, none⟩) n c)) R E (ZL ++ [z]) v1 v2 (.slice (some ⟨g, 0, none⟩) n c) := by
  subst hn
  have hs := grown_set W' (w.heap.size + 2) 1 (.slice (some ⟨g, 0, none⟩) (ZL.length + 1) c)
  have n1 := own_diff h.o1 h.o3 (by decide)
  have n2 := own_diff h.o2 h.o3 (by decide)
  have l1 : ∀ k, v3.ownBlock = some k → w.heap.size ≤ k := fun k hk => by have := (h.o3.lt k hk).1; omega
  have hgz := h.gz
  refine ⟨own_pass24 (own_pass24 h.o1 hg n1) hs ?_, own_pass24 (own_pass24 h.o2 hg n2) hs ?_, ?_, fun y hy => ?_, ?_, ?_, ?_, ?_, ?_, h.gz, ?_⟩
  · exact fun g hg' e => own_low h.o1 (Nat.lt_succ_self _) (e ▸ hg')
  · exact fun g hg' e => own_low h.o2 (Nat.lt_succ_self _) (e ▸ hg')
  · have q := own_pass24 ho hs (fun g hg' e => own_low ho (Nat.lt_succ_self _) (e ▸ hg'))
    rw [List.length_append, show zc24 (ZL ++ [z]) = zc24 ZL ++ z.cells by unfold zc24; simp]
    exact q
  · have key : ERow W w.heap.size v2 y := by
      rcases List.mem_append.1 hy with q | q
      · exact h.er y q
      · rw [List.mem_singleton] at q; rw [q]; exact hz
    exact ⟨own_pass24 (own_pass24 key.1 hg (own_diff key.1 h.o3 (by decide))) hs (fun g hg' e => own_low key.1 (Nat.lt_succ_self _) (e ▸ hg')), key.2⟩
  · exact (blk_pass h.bs hg (own_low h.o3 (Nat.lt_succ_self _))).set_ 1 _
  · exact (blk_pass h.bz hg h.z3).far (p := ⟨w.heap.size + 2, 1, none⟩) (by show GZ ≠ w.heap.size + 2; omega) _
  · exact (blk_pass h.bp hg (own_low h.o3 (by omega))).far (p := ⟨w.heap.size + 2, 1, none⟩) (by show w.heap.size ≠ w.heap.size + 2; omega) _
  · exact (blk_pass h.br hg (own_low h.o3 (by omega))).far (p := ⟨w.heap.size + 2, 1, none⟩) (by show w.heap.size + 1 ≠ w.heap.size + 2; omega) _
  · intro e
    have e' : some g = some GZ := e
    injection e' with e'
    rcases hat with q | q
    · exact h.z3 (by rw [q, e'])
    · have := h.bz.lt; omega
  · exact (below_grown h.bl hg h.bl.size l1).setCell (p := ⟨w.heap.size + 2, 1, none⟩) (by show w.heap.size ≤ w.heap.size + 2; omega) _
end
end Go.Proofs.YtmhciidliicheaaDoor
