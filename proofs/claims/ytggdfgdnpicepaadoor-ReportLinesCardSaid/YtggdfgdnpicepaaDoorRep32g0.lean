/- What the walks of Compare are told by (chapter 32). -/
import Derived.Test.YtggdfgdnpicepaaDoorRep32e
import Derived.Test.YtggdfgdnpicepaaDoorRep32f
namespace Go.Proofs.YtggdfgdnpicepaaDoor
open Go.RowKit
set_option linter.unusedVariables false

/-- what Compare answers -/
def CmpRes (a b : SV) (w : World) (e : Ending) (w' : World) : Prop :=
  (P32.okS a b ∧ (∃ A c, e = .returned (.tuple #[.slice A (P32.chS a b).length c, .int .i64 0]) ∧ ChIn w' A (P32.chS a b)) ∧ Below w.heap.size w w') ∨ (¬ P32.okS a b ∧ e = .returned (.tuple #[.slice none 0 0, .int .i64 2]) ∧ Below w.heap.size w w')
/-- the parts of a source fit the machine -/
def SrcSz (s : SV) : Prop := s.rules.length ≤ maxLen ∧ s.zones.length ≤ maxLen ∧ s.links.length ≤ maxLen ∧ s.shifts.length ≤ maxLen ∧ ∀ z ∈ s.zones, z.eras.length ≤ maxLen
theorem each_bool {α : Type} {same : α → α → Bool} {diff : α → α → Int} {mk : Nat → Int → P32.CV} {LA LB : List α} {ob : Nat} {w w' : World} {v : Value} {l : List P32.CV} {e : Ending} (h : EachRes same diff mk LA LB ob w v l e w') :
    ∃ (RB : Bool) (v' : Value), e = .returned (.bool RB) ∧ (RB = true → P32.okAll same LA LB ∧ OutIs w' ob v' (l ++ P32.ch diff mk LA LB LA.length)) ∧ (RB = false → ¬ P32.okAll same LA LB) ∧ Turned ob w v w' v' ∧ Below ob w w' := by
  rcases h with ⟨h1, h2, v', h3, h4, h5⟩ | ⟨h1, h2, h3, v', h4⟩
  · exact ⟨true, v', h2, fun _ => ⟨h1, h3⟩, (fun q => nomatch q), h4, h5⟩
  · exact ⟨false, v', h2, (fun q => nomatch q), fun _ => h1, h4, h3⟩
theorem chZ_len (Z Y : List ZV) (h : ∀ z ∈ Z, z.eras.length ≤ 20) : ∀ n, (P32.chZ Z Y n).length ≤ n * 20
  | 0 => by simp [P32.chZ]
  | n + 1 => by
    have ih := chZ_len Z Y h n
    rw [P32.chZ, List.length_append]
    split
    · rename_i z y hz hy
      have := P32.ch_len P32.diffE (P32.mkE n) z.eras y.eras z.eras.length
      have := h z (List.mem_of_getElem? hz)
      omega
    · simp; omega
theorem chZ_succ (Z Y : List ZV) (n : Nat) (z y : ZV) (hz : Z[n]? = some z) (hy : Y[n]? = some y) : P32.chZ Z Y (n + 1) = P32.chZ Z Y n ++ P32.ch P32.diffE (P32.mkE n) z.eras y.eras z.eras.length := by
  rw [P32.chZ, hz, hy]
theorem okZ_succ {Z Y : List ZV} {k : Nat} {z y : ZV} (h : P32.okZ Z Y k) (hz : Z[k]? = some z) (hy : Y[k]? = some y) (hs : P32.sameZ z y) : P32.okZ Z Y (k + 1) := by
  intro i a b hi ha hb
  by_cases e : i < k
  · exact h i a b e ha hb
  · obtain rfl : i = k := by omega
    rw [hz] at ha; rw [hy] at hb
    injection ha with ha; injection hb with hb
    rw [← ha, ← hb]; exact hs
/-- where the loop over the zones stands -/
structure CmpInv (a b : SV) (w W : World) (ob ib k : Nat) (v : Value) (IS : Bool) : Prop where
  box : Blk W ib 3 #[.int .i64 k]
  far : ob < ib
  bel : Below ob w W
  yes : IS = true → some ib ≠ v.ownBlock ∧ OutIs W ob v (P32.ch P32.diffR P32.mkR a.rules b.rules a.rules.length ++ P32.chZ a.zones b.zones k) ∧ P32.okAll P32.sameR a.rules b.rules ∧ a.zones.length = b.zones.length ∧ P32.okZ a.zones b.zones k ∧ a.links = b.links
  no : IS = false → ¬ P32.okS a b
/-- ahead of the loop over the zones -/
structure CmpPre (a b : SV) (w W : World) (ob : Nat) (v : Value) (IS : Bool) : Prop where
  lt : ob < W.heap.size
  bel : Below ob w W
  yes : IS = true → OutIs W ob v (P32.ch P32.diffR P32.mkR a.rules b.rules a.rules.length) ∧ P32.okAll P32.sameR a.rules b.rules ∧ a.zones.length = b.zones.length ∧ a.links = b.links
  no : IS = false → ¬ P32.okS a b
theorem CmpPre.start {a b : SV} {w W : World} {ob : Nat} {v : Value} {IS : Bool} (h : CmpPre a b w W ob v IS) : CmpInv a b w (W.alloc (.cells #[.int .i64 0] 3)) ob W.heap.size 0 v IS := by
  refine ⟨Blk.new W _ _, h.lt, h.bel.alloc (Nat.le_of_lt h.lt) _, fun q => ?_, h.no⟩
  obtain ⟨h1, h2, h3, h4⟩ := h.yes q
  refine ⟨fun e => ?_, ?_, h2, h3, fun i _ _ hi => by omega, h4⟩
  · have := (h1.2.lt _ e.symm).2
    omega
  · rw [P32.chZ, List.append_nil]
    exact h1.below ((Below.refl _ _).alloc (Nat.le_refl _) _)
theorem out_le {a b : SV} (h : few a) (k : Nat) (hk : k ≤ a.zones.length) : (P32.ch P32.diffR P32.mkR a.rules b.rules a.rules.length ++ P32.chZ a.zones b.zones k).length ≤ 100000 := by
  have h1 := P32.ch_len P32.diffR P32.mkR a.rules b.rules a.rules.length
  have h2 := chZ_len a.zones b.zones h.2.2.2.2 k
  have := h.1
  have := h.2.1
  rw [List.length_append]
  omega
theorem inv_no {a b : SV} {w W W' : World} {ob ib k : Nat} {v : Value} (h : CmpInv a b w W ob ib k v true) (hb : Below W.heap.size W W') (hn : ¬ P32.okS a b) : CmpInv a b w (W'.alloc (.cells #[.int .i64 ((k : Int) + 1)] 3)) ob W'.heap.size (k + 1) v false :=
  ⟨Blk.new W' _ _, Nat.lt_of_lt_of_le h.far (Nat.le_trans (Nat.le_of_lt h.box.lt) hb.size), ((h.bel.trans (hb.mono (Nat.le_of_lt (Nat.lt_trans h.far h.box.lt)))).alloc (Nat.le_trans (Nat.le_of_lt (Nat.lt_trans h.far h.box.lt)) hb.size) _), (fun q => nomatch q), fun _ => hn⟩
theorem inv_yes {a b : SV} {w W w5 : World} {ob ib k : Nat} {v v2 : Value} {RB : Bool} {z y : ZV} (h : CmpInv a b w W ob ib k v true) (hT : Turned ob W v w5 v2) (hb : Below ob W w5)
    (hyes : RB = true → P32.okAll P32.sameE z.eras y.eras ∧ OutIs w5 ob v2 ((P32.ch P32.diffR P32.mkR a.rules b.rules a.rules.length ++ P32.chZ a.zones b.zones k) ++ P32.ch P32.diffE (P32.mkE k) z.eras y.eras z.eras.length)) (hno : RB = false → ¬ P32.okAll P32.sameE z.eras y.eras)
    (hz : a.zones[k]? = some z) (hy : b.zones[k]? = some y) (hlt : k < a.zones.length) (hnm : z.name = y.name) : CmpInv a b w (w5.alloc (.cells #[.int .i64 ((k : Int) + 1)] 3)) ob w5.heap.size (k + 1) v2 RB := by
  have hs := hb.size
  have h1 := h.box.lt
  have h2 := h.far
  refine ⟨Blk.new w5 _ _, by omega, (h.bel.trans hb).alloc (by omega) _, fun q => ?_, fun q s => hno q (s.2.2.1 k z y hlt hz hy).2⟩
  obtain ⟨e1, e2⟩ := hyes q
  obtain ⟨y0, y1, y2, y3, y4, y5⟩ := h.yes rfl
  refine ⟨fun e => ?_, ?_, y2, y3, okZ_succ y4 hz hy ⟨hnm, e1⟩, y5⟩
  · have := (e2.2.lt _ e.symm).2
    omega
  · rw [chZ_succ _ _ _ _ _ hz hy, ← List.append_assoc]
    exact e2.below ((Below.refl _ _).alloc (Nat.le_refl _) _)
def mIdx (s : Value) (W : World) : Nat := match s with
  | .pointer (some a) => (match W.cell? a with
    | some (.int _ n) => n.toNat
    | _ => 0)
  | _ => 0
theorem mIdx_eq {W : World} {ib : Nat} {t : TypeId} {k : Nat} (h : Blk W ib t #[.int .i64 k]) : mIdx (.pointer (some ⟨ib, 0, none⟩)) W = k := by
  have q : W.cell? ⟨ib, 0, none⟩ = some (.int .i64 k) := (h.cell 0).trans rfl
  simp [mIdx, q]
theorem mIdx_next (W : World) (k : Nat) : mIdx (.pointer (some ⟨W.heap.size, 0, none⟩)) (W.alloc (.cells #[.int .i64 ((k : Int) + 1)] 3)) = k + 1 := mIdx_eq (k := k + 1) (Blk.new W _ _)
theorem okS_mk {a b : SV} (h1 : P32.okAll P32.sameR a.rules b.rules) (h2 : a.zones.length = b.zones.length) (h3 : P32.okZ a.zones b.zones a.zones.length) (h4 : a.links = b.links) : P32.okS a b := ⟨h1, h2, h3, h4⟩
theorem below_two {B : Nat} {w W w4 : World} (h : Below w.heap.size w W) (k : Below (w.heap.size + 2) W w4) : Below w.heap.size w w4 := h.trans (k.mono (by omega))
theorem ccells_at : ∀ (L : List P32.CV) (k j : Nat) (r : P32.CV), j < 4 → L[k]? = some r → (ccells L)[k * 4 + j]? = r.cells[j]?
  | [], k, j, r, _, h => by simp at h
  | c :: L, 0, j, r, hj, h => by
    simp only [List.getElem?_cons_zero, Option.some.injEq] at h
    subst h
    unfold ccells
    rw [List.flatMap_cons, Nat.zero_mul, Nat.zero_add, List.getElem?_append_left (by simpa [P32.CV.cells] using hj)]
  | c :: L, k + 1, j, r, hj, h => by
    simp only [List.getElem?_cons_succ] at h
    have q := ccells_at L k j r hj h
    unfold ccells at q ⊢
    rw [List.flatMap_cons, List.getElem?_append_right (by simp [P32.CV.cells]; omega), show (k + 1) * 4 + j - c.cells.length = k * 4 + j by simp [P32.CV.cells]; omega]
    exact q
theorem ch_of_own {W : World} {ob : Nat} {v : Value} {l : List P32.CV} (h : OutIs W ob v l) : ∃ A c, v = .slice A l.length c ∧ ChIn W A l := by
  by_cases h0 : 0 < l.length
  · obtain ⟨B, cap, hv, hB, hlt, hcap, hc⟩ := own_form h.2 h0
    refine ⟨some ⟨B, 0, none⟩, cap, hv, fun k r hr => ⟨B, 0, rfl, hlt, fun j u hu => ?_⟩⟩
    rw [Nat.zero_add]
    refine hc _ _ ?_
    have hj : j < 4 := by have := (List.getElem?_eq_some_iff.mp hu).1; simpa [P32.CV.cells] using this
    exact (ccells_at l k j r hj hr).trans hu
  · have hl : l = [] := List.eq_nil_of_length_eq_zero (by omega)
    subst hl
    rcases h.2.2 with ⟨hv, _⟩ | ⟨g, cap, cur, hv, _⟩
    · exact ⟨none, 0, hv, CellsIn.nil W none⟩
    · exact ⟨some ⟨g, 0, none⟩, cap, hv, CellsIn.nil W _⟩

end Go.Proofs.YtggdfgdnpicepaaDoor
