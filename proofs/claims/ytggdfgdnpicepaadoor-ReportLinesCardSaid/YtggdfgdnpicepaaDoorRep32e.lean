/- The walks of the places and of each (chapter 32). -/
import Derived.Test.YtggdfgdnpicepaaDoorRep32d
import Derived.Deep.RegionHeld3
import Derived.Deep.AppendLies
import Derived.Deep.RegionLaw
import Derived.Deep.DrawnRows
import Derived.Deep.DeepCutAuto
import Derived.Deep.CutBlock
namespace Go.Proofs.YtggdfgdnpicepaaDoor
open Go.RowKit
set_option linter.unusedVariables false
attribute [local go_sem ↓] Go.wp_at_zero Go.wp_at_succ

set_option maxHeartbeats 1000000 in
theorem place1_any (i : Int) (w : World) : Calls Tryd.prog 43 #[.int .i64 i] w fun e w' => e = .returned (.agg #[.int .i64 1, .int .i64 i, .int .i64 0]) ∧ Below w.heap.size w w' := by
  have hB := Blk.new w 48 #[.int .i64 1, .int .i64 i, .int .i64 0]
  have k0 := (hB.cell 0).trans rfl
  have k1 := (hB.cell 1).trans rfl
  have k2 := (hB.cell 2).trans rfl
  clear hB
  go_enter Tryd.func43, Tryd.ntmps43
  go_wp2_with fail
  exact bodyPost_ret (v := .agg #[.int .i64 1, .int .i64 i, .int .i64 0]) (by simp [results, Tryd.results43, go_sem, k0, k1, k2]) rfl ⟨rfl, (Below.refl _ _).alloc (Nat.le_refl _) _⟩
set_option maxHeartbeats 1000000 in
theorem place2_any (i z : Int) (ib : Nat) (w : World) (hz : w.cell? ⟨ib, 0, none⟩ = some (.int .i64 z)) (hib : ib < w.heap.size) : Calls Tryd.prog 47 #[.int .i64 i, .pointer (some ⟨ib, 0, none⟩)] w fun e w' => e = .returned (.agg #[.int .i64 2, .int .i64 z, .int .i64 i]) ∧ Below w.heap.size w w' := by
  have hB := Blk.new w 48 #[.int .i64 2, .int .i64 z, .int .i64 i]
  have k0 := (hB.cell 0).trans rfl
  have k1 := (hB.cell 1).trans rfl
  have k2 := (hB.cell 2).trans rfl
  clear hB
  go_enter Tryd.func47, Tryd.ntmps47
  go_wp2_with fail
  exact bodyPost_ret (v := .agg #[.int .i64 2, .int .i64 z, .int .i64 i]) (by simp [results, Tryd.results47, go_sem, k0, k1, k2]) rfl ⟨rfl, (Below.refl _ _).alloc (Nat.le_refl _) _⟩

def ccells (l : List P32.CV) : List Value := l.flatMap P32.CV.cells
theorem size_setCell' (w : World) (p : Addr) (u : Value) : (w.setCell p u).heap.size = w.heap.size := by simp [World.setCell]
/-- the variable of the changes: its cell in block ob, and its row -/
def OutIs (W : World) (ob : Nat) (v : Value) (l : List P32.CV) : Prop := Blk W ob 30 #[v] ∧ W.ownsRow (ob + 1) 50 4 v l.length (ccells l)
/-- from w to w': nothing is turned but block ob and the row of v -/
structure Turned (ob : Nat) (w : World) (v : Value) (w' : World) (v' : Value) : Prop where
  size : w.heap.size ≤ w'.heap.size
  kept : ∀ k, k < w.heap.size → k ≠ ob → some k ≠ v.ownBlock → w'.heap[k]? = w.heap[k]?
  own : ∀ k, v'.ownBlock = some k → v.ownBlock = some k ∨ w.heap.size ≤ k
theorem Turned.refl (ob : Nat) (w : World) (v : Value) : Turned ob w v w v := ⟨Nat.le_refl _, fun _ _ _ _ => rfl, fun k h => .inl h⟩
theorem Turned.trans {ob : Nat} {w w1 w2 : World} {v v1 v2 : Value} (h : Turned ob w v w1 v1) (k : Turned ob w1 v1 w2 v2) : Turned ob w v w2 v2 := by
  refine ⟨Nat.le_trans h.size k.size, fun j hj h1 h2 => ?_, fun j hj => ?_⟩
  · refine (k.kept j (Nat.lt_of_lt_of_le hj h.size) h1 fun q => ?_).trans (h.kept j hj h1 h2)
    rcases h.own j q.symm with r | r
    · exact h2 r.symm
    · omega
  · rcases k.own j hj with r | r
    · exact h.own j r
    · exact .inr (Nat.le_trans h.size r)
theorem Turned.below {ob : Nat} {w w1 w2 : World} {v v1 : Value} (h : Turned ob w v w1 v1) (hb : Below w1.heap.size w1 w2) : Turned ob w v w2 v1 :=
  h.trans ⟨hb.size, fun k hk _ _ => hb.block k hk, fun k q => .inl q⟩
theorem OutIs.below {W W' : World} {ob : Nat} {v : Value} {l : List P32.CV} (h : OutIs W ob v l) (hb : Below W.heap.size W W') : OutIs W' ob v l := ⟨h.1.below hb h.1.lt, own_below h.2 hb⟩
theorem OutIs.lt {W : World} {ob : Nat} {v : Value} {l : List P32.CV} (h : OutIs W ob v l) : ob < W.heap.size := h.1.lt
theorem ccells_snoc (l : List P32.CV) (c : P32.CV) : ccells (l ++ [c]) = ccells l ++ c.cells := by unfold ccells; rw [List.flatMap_append]; simp
theorem infoChange : (Tryd.prog.info? 50).map (fun i => (i.zero, i.size, i.bytes)) = some (some (.agg #[.int .i64 0, .int .i64 0, .int .i64 0, .int .i64 0]), 4, 32) := by kernel_rfl
theorem own_far {w : World} {base n size : Nat} {e : TypeId} {v : Value} {xs : List Value} (h : w.ownsRow base e size v n xs) (b : Nat) (hb : b < base) (u : Value) : (w.setCell ⟨b, 0, none⟩ u).ownsRow base e size v n xs := by
  refine ⟨h.1, ?_⟩
  rcases h.2 with q | ⟨g, cap, cur, hv, hg, hh, r⟩
  · exact .inl q
  · exact .inr ⟨g, cap, cur, hv, hg, (heap_setCell_other w ⟨b, 0, none⟩ g u (by show g ≠ b; omega)).trans hh, r⟩
/-- one change more: the row grows, the variable is written -/
theorem out_step {ob N gg cap : Nat} {w w1 w2 w3 : World} {v v' : Value} {l2 : List P32.CV} {c : P32.CV} (o : Obj) (hO : OutIs w1 ob v' l2) (hT : Turned ob w v w1 v') (hB : Below ob w w1) (hd : Below w1.heap.size w1 w2)
    (hown : w3.ownsRow (ob + 1) 50 4 (.slice (some ⟨gg, 0, none⟩) (N + 1) cap) (N + 1) (ccells l2 ++ c.cells)) (hN : l2.length = N) (hgr : (w2.alloc o).grownBy w3 v'.ownBlock) (hat : v'.ownBlock = some gg ∨ gg = w2.heap.size + 1) :
    OutIs (w3.setCell ⟨ob, 0, none⟩ (.slice (some ⟨gg, 0, none⟩) (N + 1) cap)) ob (.slice (some ⟨gg, 0, none⟩) (N + 1) cap) (l2 ++ [c]) ∧ Turned ob w v (w3.setCell ⟨ob, 0, none⟩ (.slice (some ⟨gg, 0, none⟩) (N + 1) cap)) (.slice (some ⟨gg, 0, none⟩) (N + 1) cap) ∧ Below ob w (w3.setCell ⟨ob, 0, none⟩ (.slice (some ⟨gg, 0, none⟩) (N + 1) cap)) := by
  have hO2 := (hO.below hd).below ((Below.refl _ _).alloc (Nat.le_refl _) o)
  have hs : (w2.alloc o).heap.size = w2.heap.size + 1 := by simp
  have hob := hO2.lt
  have hob1 := hO.lt
  have hdz := hd.size
  have hgz := hgr.size
  have hvb : ∀ k, v'.ownBlock = some k → ob + 1 ≤ k := fun k q => (hO2.2.lt k q).1
  have hB3 : Blk w3 ob 30 #[v'] := blk_grown hO2.1 hO2.2 hgr (Nat.lt_succ_self _)
  refine ⟨⟨?_, ?_⟩, hT.trans ⟨?_, ?_, ?_⟩, ?_⟩
  · have q := hB3.set_ 0 (.slice (some ⟨gg, 0, none⟩) (N + 1) cap)
    exact q
  · rw [ccells_snoc, List.length_append, hN]
    exact own_far hown ob (Nat.lt_succ_self _) _
  · simp only [size_setCell']
    omega
  · intro k hk h1 h2
    refine (heap_setCell_other w3 ⟨ob, 0, none⟩ k _ h1).trans ((hgr.block k (by omega) h2).trans ?_)
    exact (Below.heap_alloc w2 o k (by omega)).trans (hd.block k hk)
  · intro k hk
    simp only [Value.ownBlock, Option.some.injEq] at hk
    subst hk
    rcases hat with q | q
    · exact .inl q
    · exact .inr (by omega)
  · have h2 : Below ob w (w2.alloc o) := ((hB.trans (hd.mono (Nat.le_of_lt hob1))).alloc (by omega) o)
    exact (h2.grown hgr (by omega) (fun k q => Nat.le_of_succ_le (hvb k q))).setCell (p := ⟨ob, 0, none⟩) (Nat.le_refl _) _
theorem cellq {ob : Nat} {w1 w2 w3 : World} {v' : Value} {l2 : List P32.CV} {o : Obj} (hO : OutIs w1 ob v' l2) (hd : Below w1.heap.size w1 w2) (hgr : (w2.alloc o).grownBy w3 v'.ownBlock) : w3.cell? ⟨ob, 0, none⟩ = some v' := by
  have hO2 := (hO.below hd).below ((Below.refl _ _).alloc (Nat.le_refl _) o)
  exact ((blk_grown hO2.1 hO2.2 hgr (Nat.lt_succ_self _)).cell 0).trans rfl
theorem frozenq {ob : Nat} {w1 w2 w3 : World} {v' : Value} {l2 : List P32.CV} {o : Obj} (hO : OutIs w1 ob v' l2) (hd : Below w1.heap.size w1 w2) (hgr : (w2.alloc o).grownBy w3 v'.ownBlock) : w3.frozen? ⟨ob, 0, none⟩ = false := by
  have hO2 := (hO.below hd).below ((Below.refl _ _).alloc (Nat.le_refl _) o)
  exact (blk_grown hO2.1 hO2.2 hgr (Nat.lt_succ_self _)).frozen 0
theorem turned_cell {ob ib : Nat} {w : World} {v u : Value} (hz : w.cell? ⟨ib, 0, none⟩ = some u) (hib : ib < w.heap.size) (h1 : ib ≠ ob) (h2 : some ib ≠ v.ownBlock) : ∀ W v1, Turned ob w v W v1 → W.cell? ⟨ib, 0, none⟩ = some u ∧ ib < W.heap.size :=
  fun W v1 h => ⟨(World.cell?_of_block (h.kept ib hib h1 h2)).trans hz, Nat.lt_of_lt_of_le hib h.size⟩
/-- what each answers -/
def EachRes {α : Type} (same : α → α → Bool) (diff : α → α → Int) (mk : Nat → Int → P32.CV) (LA LB : List α) (ob : Nat) (w : World) (v : Value) (l : List P32.CV) (e : Ending) (w' : World) : Prop :=
  (P32.okAll same LA LB ∧ e = .returned (.bool true) ∧ ∃ v', OutIs w' ob v' (l ++ P32.ch diff mk LA LB LA.length) ∧ Turned ob w v w' v' ∧ Below ob w w') ∨ (¬ P32.okAll same LA LB ∧ e = .returned (.bool false) ∧ Below ob w w' ∧ ∃ v', Turned ob w v w' v')

theorem keep_each_rules {wr w1 : World} {ga oa gb oB k : Nat} {a b : RV} (h : wr.cell? ⟨ga, oa + k * 11, none⟩ = some (.string a.name) ∧ wr.cell? ⟨ga, oa + k * 11 + 1, none⟩ = some (.int .i64 a.frm) ∧ wr.cell? ⟨ga, oa + k * 11 + 2, none⟩ = some (.int .i64 a.til) ∧ wr.cell? ⟨ga, oa + k * 11 + 3, none⟩ = some (.int .i64 a.month) ∧ wr.cell? ⟨ga, oa + k * 11 + 4, none⟩ = some (.int .i64 a.dk) ∧ wr.cell? ⟨ga, oa + k * 11 + 5, none⟩ = some (.int .i64 a.dw) ∧ wr.cell? ⟨ga, oa + k * 11 + 6, none⟩ = some (.int .i64 a.dd) ∧ wr.cell? ⟨ga, oa + k * 11 + 7, none⟩ = some (.int .i64 a.asec) ∧ wr.cell? ⟨ga, oa + k * 11 + 8, none⟩ = some (.int .i64 a.abase) ∧ wr.cell? ⟨ga, oa + k * 11 + 9, none⟩ = some (.int .i64 a.save) ∧ wr.cell? ⟨ga, oa + k * 11 + 10, none⟩ = some (.string a.letter) ∧ wr.cell? ⟨gb, oB + k * 11, none⟩ = some (.string b.name) ∧ wr.cell? ⟨gb, oB + k * 11 + 1, none⟩ = some (.int .i64 b.frm) ∧ wr.cell? ⟨gb, oB + k * 11 + 2, none⟩ = some (.int .i64 b.til) ∧ wr.cell? ⟨gb, oB + k * 11 + 3, none⟩ = some (.int .i64 b.month) ∧ wr.cell? ⟨gb, oB + k * 11 + 4, none⟩ = some (.int .i64 b.dk) ∧ wr.cell? ⟨gb, oB + k * 11 + 5, none⟩ = some (.int .i64 b.dw) ∧ wr.cell? ⟨gb, oB + k * 11 + 6, none⟩ = some (.int .i64 b.dd) ∧ wr.cell? ⟨gb, oB + k * 11 + 7, none⟩ = some (.int .i64 b.asec) ∧ wr.cell? ⟨gb, oB + k * 11 + 8, none⟩ = some (.int .i64 b.abase) ∧ wr.cell? ⟨gb, oB + k * 11 + 9, none⟩ = some (.int .i64 b.save) ∧ wr.cell? ⟨gb, oB + k * 11 + 10, none⟩ = some (.string b.letter) ∧ Below wr.heap.size wr wr ∧ ga < wr.heap.size ∧ gb < wr.heap.size) (hb : Below wr.heap.size wr w1) : w1.cell? ⟨ga, oa + k * 11, none⟩ = some (.string a.name) ∧ w1.cell? ⟨ga, oa + k * 11 + 1, none⟩ = some (.int .i64 a.frm) ∧ w1.cell? ⟨ga, oa + k * 11 + 2, none⟩ = some (.int .i64 a.til) ∧ w1.cell? ⟨ga, oa + k * 11 + 3, none⟩ = some (.int .i64 a.month) ∧ w1.cell? ⟨ga, oa + k * 11 + 4, none⟩ = some (.int .i64 a.dk) ∧ w1.cell? ⟨ga, oa + k * 11 + 5, none⟩ = some (.int .i64 a.dw) ∧ w1.cell? ⟨ga, oa + k * 11 + 6, none⟩ = some (.int .i64 a.dd) ∧ w1.cell? ⟨ga, oa + k * 11 + 7, none⟩ = some (.int .i64 a.asec) ∧ w1.cell? ⟨ga, oa + k * 11 + 8, none⟩ = some (.int .i64 a.abase) ∧ w1.cell? ⟨ga, oa + k * 11 + 9, none⟩ = some (.int .i64 a.save) ∧ w1.cell? ⟨ga, oa + k * 11 + 10, none⟩ = some (.string a.letter) ∧ w1.cell? ⟨gb, oB + k * 11, none⟩ = some (.string b.name) ∧ w1.cell? ⟨gb, oB + k * 11 + 1, none⟩ = some (.int .i64 b.frm) ∧ w1.cell? ⟨gb, oB + k * 11 + 2, none⟩ = some (.int .i64 b.til) ∧ w1.cell? ⟨gb, oB + k * 11 + 3, none⟩ = some (.int .i64 b.month) ∧ w1.cell? ⟨gb, oB + k * 11 + 4, none⟩ = some (.int .i64 b.dk) ∧ w1.cell? ⟨gb, oB + k * 11 + 5, none⟩ = some (.int .i64 b.dw) ∧ w1.cell? ⟨gb, oB + k * 11 + 6, none⟩ = some (.int .i64 b.dd) ∧ w1.cell? ⟨gb, oB + k * 11 + 7, none⟩ = some (.int .i64 b.asec) ∧ w1.cell? ⟨gb, oB + k * 11 + 8, none⟩ = some (.int .i64 b.abase) ∧ w1.cell? ⟨gb, oB + k * 11 + 9, none⟩ = some (.int .i64 b.save) ∧ w1.cell? ⟨gb, oB + k * 11 + 10, none⟩ = some (.string b.letter) ∧ Below wr.heap.size wr w1 ∧ ga < wr.heap.size ∧ gb < wr.heap.size := by
  obtain ⟨h0, h1, h2, h3, h4, h5, h6, h7, h8, h9, h10, h11, h12, h13, h14, h15, h16, h17, h18, h19, h20, h21, _, hga, hgb⟩ := h
  exact ⟨(hb.cell (p := ⟨ga, oa + k * 11, none⟩) hga).trans h0, (hb.cell (p := ⟨ga, oa + k * 11 + 1, none⟩) hga).trans h1, (hb.cell (p := ⟨ga, oa + k * 11 + 2, none⟩) hga).trans h2, (hb.cell (p := ⟨ga, oa + k * 11 + 3, none⟩) hga).trans h3, (hb.cell (p := ⟨ga, oa + k * 11 + 4, none⟩) hga).trans h4, (hb.cell (p := ⟨ga, oa + k * 11 + 5, none⟩) hga).trans h5, (hb.cell (p := ⟨ga, oa + k * 11 + 6, none⟩) hga).trans h6, (hb.cell (p := ⟨ga, oa + k * 11 + 7, none⟩) hga).trans h7, (hb.cell (p := ⟨ga, oa + k * 11 + 8, none⟩) hga).trans h8, (hb.cell (p := ⟨ga, oa + k * 11 + 9, none⟩) hga).trans h9, (hb.cell (p := ⟨ga, oa + k * 11 + 10, none⟩) hga).trans h10, (hb.cell (p := ⟨gb, oB + k * 11, none⟩) hgb).trans h11, (hb.cell (p := ⟨gb, oB + k * 11 + 1, none⟩) hgb).trans h12, (hb.cell (p := ⟨gb, oB + k * 11 + 2, none⟩) hgb).trans h13, (hb.cell (p := ⟨gb, oB + k * 11 + 3, none⟩) hgb).trans h14, (hb.cell (p := ⟨gb, oB + k * 11 + 4, none⟩) hgb).trans h15, (hb.cell (p := ⟨gb, oB + k * 11 + 5, none⟩) hgb).trans h16, (hb.cell (p := ⟨gb, oB + k * 11 + 6, none⟩) hgb).trans h17, (hb.cell (p := ⟨gb, oB + k * 11 + 7, none⟩) hgb).trans h18, (hb.cell (p := ⟨gb, oB + k * 11 + 8, none⟩) hgb).trans h19, (hb.cell (p := ⟨gb, oB + k * 11 + 9, none⟩) hgb).trans h20, (hb.cell (p := ⟨gb, oB + k * 11 + 10, none⟩) hgb).trans h21, hb, hga, hgb⟩
set_option maxRecDepth 100000 in
set_option maxHeartbeats 8000000 in
theorem each_rules (A B : Option Addr) (ca cb : Nat) (LA LB : List RV) (ob : Nat) (v : Value) (l : List P32.CV) (w0 w : World) (hA : CellsIn 11 RV.cells w0 A LA) (hB : CellsIn 11 RV.cells w0 B LB) (h0 : Below w0.heap.size w0 w) (hle : w0.heap.size ≤ ob) (hO : OutIs w ob v l) (hlen : LA.length ≤ 1000) (hlen2 : l.length ≤ 100000) (hlenB : LB.length ≤ maxLen) :
    Calls Tryd.prog 41 #[.slice A LA.length ca, .slice B LB.length cb, .func (.func 42) #[] #[], .func (.func 43) #[] #[], .pointer (some ⟨ob, 0, none⟩)] w (EachRes P32.sameR P32.diffR P32.mkR LA LB ob w v l) := by
  unfold maxLen at hlenB
  by_cases hnn : LA.length = LB.length
  rotate_left
  · have hb : ((LA.length : Int) != (LB.length : Int)) = true := by rw [bne_iff_ne]; omega
    have hR : EachRes P32.sameR P32.diffR P32.mkR LA LB ob w v l (.returned (.bool false)) w := .inr ⟨fun q => hnn q.1, rfl, Below.refl _ _, v, Turned.refl _ _ _⟩
    have HR := Lib.hid hR
    clear hR hA hB h0 hle hO hnn
    go_enter Tryd.func41, Tryd.ntmps41
    go_wp2_with fail
    go_ret
    exact HR.out
  have hnb : ((LA.length : Int) != (LB.length : Int)) = false := by rw [bne_eq_false_iff_eq]; omega
  have HNN := Lib.hid hnn
  have HA := Lib.hid hA; have HB := Lib.hid hB; have H0 := Lib.hid h0; have HLE := Lib.hid hle
  have hli : (LA.length : Int) ≤ 1000 := by omega
  have HOL := Lib.hid hO.lt
  clear hnn hA hB h0 hle
  go_enter Tryd.func41, Tryd.ntmps41
  go_wp2_with fail
  go_loopw [21] (fun i wr => ∃ (k : Nat) (v' : Value), k ≤ LA.length ∧ i = .int .i64 k ∧ OutIs wr ob v' (l ++ P32.ch P32.diffR P32.mkR LA LB k) ∧ Turned ob w v wr v' ∧ Below ob w wr ∧ Hid (P32.okTo P32.sameR LA LB k)) (fun i _ => LA.length - (intOf i).toNat)
  case atStart => exact ⟨0, v, Nat.zero_le _, rfl, by rw [P32.ch_zero, List.append_nil]; exact hO, Turned.refl _ _ _, Below.refl _ _, Lib.hid (P32.okTo_zero _ _ _)⟩
  case round =>
    clear hO
    obtain ⟨k, v', hk, rfl, hO, hT, hb, hok⟩ := hrel
    have hw0 := H0.out.trans (hb.mono HLE.out)
    by_cases hlt : k < LA.length
    · obtain ⟨a, ha⟩ : ∃ a, LA[k]? = some a := ⟨_, List.getElem?_eq_getElem hlt⟩
      obtain ⟨b, hbk⟩ : ∃ b, LB[k]? = some b := ⟨_, List.getElem?_eq_getElem (by have := HNN.out; omega)⟩
      obtain ⟨ga, oa, rfl, hga, hat⟩ := (HA.out.below hw0) k a ha
      obtain ⟨gb, oB, rfl, hgb, hbt⟩ := (HB.out.below hw0) k b hbk
      have HAT := Lib.hid hat; have HBT := Lib.hid hbt
      have HAK := Lib.hid ha; have HBK := Lib.hid hbk
      have HO := Lib.hid hO; have HT := Lib.hid hT; have HB0 := Lib.hid hb; have HW0 := Lib.hid hw0
      have hki : (k : Int) < (LA.length : Int) := by omega
      have hki2 : (k : Int) < (LB.length : Int) := by have := HNN.out; omega
      have hk0 : (0 : Int) ≤ (k : Int) := by omega
      clear hat hbt ha hbk hO hT hb hw0
      obtain ⟨D, hD⟩ : ∃ D, P32.diffR a b = D := ⟨_, rfl⟩
      obtain ⟨SS, hSS⟩ : ∃ SS, P32.sameR a b = SS := ⟨_, rfl⟩
      have HD := Lib.hid hD; have HSS := Lib.hid hSS
      have cR : Hid (∀ W, Calls Tryd.prog 42 #[.agg #[.string a.name, .int .i64 a.frm, .int .i64 a.til, .int .i64 a.month, .int .i64 a.dk, .int .i64 a.dw, .int .i64 a.dd, .int .i64 a.asec, .int .i64 a.abase, .int .i64 a.save, .string a.letter], .agg #[.string b.name, .int .i64 b.frm, .int .i64 b.til, .int .i64 b.month, .int .i64 b.dk, .int .i64 b.dw, .int .i64 b.dd, .int .i64 b.asec, .int .i64 b.abase, .int .i64 b.save, .string b.letter]] W fun e w' => e = .returned (.tuple #[.int .i64 D, .bool SS]) ∧ Below W.heap.size W w') := Lib.hid (fun W => by have q := rules_any a.name a.frm a.til a.month a.dk a.dw a.dd a.asec a.abase a.save a.letter b.name b.frm b.til b.month b.dk b.dw b.dd b.asec b.abase b.save b.letter D hD W; rw [← hSS]; exact q)
      clear hD hSS
      have HS : Hid (wr.cell? ⟨ga, oa + k * 11, none⟩ = some (.string a.name) ∧ wr.cell? ⟨ga, oa + k * 11 + 1, none⟩ = some (.int .i64 a.frm) ∧ wr.cell? ⟨ga, oa + k * 11 + 2, none⟩ = some (.int .i64 a.til) ∧ wr.cell? ⟨ga, oa + k * 11 + 3, none⟩ = some (.int .i64 a.month) ∧ wr.cell? ⟨ga, oa + k * 11 + 4, none⟩ = some (.int .i64 a.dk) ∧ wr.cell? ⟨ga, oa + k * 11 + 5, none⟩ = some (.int .i64 a.dw) ∧ wr.cell? ⟨ga, oa + k * 11 + 6, none⟩ = some (.int .i64 a.dd) ∧ wr.cell? ⟨ga, oa + k * 11 + 7, none⟩ = some (.int .i64 a.asec) ∧ wr.cell? ⟨ga, oa + k * 11 + 8, none⟩ = some (.int .i64 a.abase) ∧ wr.cell? ⟨ga, oa + k * 11 + 9, none⟩ = some (.int .i64 a.save) ∧ wr.cell? ⟨ga, oa + k * 11 + 10, none⟩ = some (.string a.letter) ∧ wr.cell? ⟨gb, oB + k * 11, none⟩ = some (.string b.name) ∧ wr.cell? ⟨gb, oB + k * 11 + 1, none⟩ = some (.int .i64 b.frm) ∧ wr.cell? ⟨gb, oB + k * 11 + 2, none⟩ = some (.int .i64 b.til) ∧ wr.cell? ⟨gb, oB + k * 11 + 3, none⟩ = some (.int .i64 b.month) ∧ wr.cell? ⟨gb, oB + k * 11 + 4, none⟩ = some (.int .i64 b.dk) ∧ wr.cell? ⟨gb, oB + k * 11 + 5, none⟩ = some (.int .i64 b.dw) ∧ wr.cell? ⟨gb, oB + k * 11 + 6, none⟩ = some (.int .i64 b.dd) ∧ wr.cell? ⟨gb, oB + k * 11 + 7, none⟩ = some (.int .i64 b.asec) ∧ wr.cell? ⟨gb, oB + k * 11 + 8, none⟩ = some (.int .i64 b.abase) ∧ wr.cell? ⟨gb, oB + k * 11 + 9, none⟩ = some (.int .i64 b.save) ∧ wr.cell? ⟨gb, oB + k * 11 + 10, none⟩ = some (.string b.letter) ∧ Below wr.heap.size wr wr ∧ ga < wr.heap.size ∧ gb < wr.heap.size) := Lib.hid ⟨HAT.out 0 _ rfl, HAT.out 1 _ rfl, HAT.out 2 _ rfl, HAT.out 3 _ rfl, HAT.out 4 _ rfl, HAT.out 5 _ rfl, HAT.out 6 _ rfl, HAT.out 7 _ rfl, HAT.out 8 _ rfl, HAT.out 9 _ rfl, HAT.out 10 _ rfl, HBT.out 0 _ rfl, HBT.out 1 _ rfl, HBT.out 2 _ rfl, HBT.out 3 _ rfl, HBT.out 4 _ rfl, HBT.out 5 _ rfl, HBT.out 6 _ rfl, HBT.out 7 _ rfl, HBT.out 8 _ rfl, HBT.out 9 _ rfl, HBT.out 10 _ rfl, Below.refl _ _, hga, hgb⟩
      clear HAT HBT
      go_wp2_with fail
      go_region_held3 (fun W => W.cell? ⟨ga, oa + k * 11, none⟩ = some (.string a.name) ∧ W.cell? ⟨ga, oa + k * 11 + 1, none⟩ = some (.int .i64 a.frm) ∧ W.cell? ⟨ga, oa + k * 11 + 2, none⟩ = some (.int .i64 a.til) ∧ W.cell? ⟨ga, oa + k * 11 + 3, none⟩ = some (.int .i64 a.month) ∧ W.cell? ⟨ga, oa + k * 11 + 4, none⟩ = some (.int .i64 a.dk) ∧ W.cell? ⟨ga, oa + k * 11 + 5, none⟩ = some (.int .i64 a.dw) ∧ W.cell? ⟨ga, oa + k * 11 + 6, none⟩ = some (.int .i64 a.dd) ∧ W.cell? ⟨ga, oa + k * 11 + 7, none⟩ = some (.int .i64 a.asec) ∧ W.cell? ⟨ga, oa + k * 11 + 8, none⟩ = some (.int .i64 a.abase) ∧ W.cell? ⟨ga, oa + k * 11 + 9, none⟩ = some (.int .i64 a.save) ∧ W.cell? ⟨ga, oa + k * 11 + 10, none⟩ = some (.string a.letter) ∧ W.cell? ⟨gb, oB + k * 11, none⟩ = some (.string b.name) ∧ W.cell? ⟨gb, oB + k * 11 + 1, none⟩ = some (.int .i64 b.frm) ∧ W.cell? ⟨gb, oB + k * 11 + 2, none⟩ = some (.int .i64 b.til) ∧ W.cell? ⟨gb, oB + k * 11 + 3, none⟩ = some (.int .i64 b.month) ∧ W.cell? ⟨gb, oB + k * 11 + 4, none⟩ = some (.int .i64 b.dk) ∧ W.cell? ⟨gb, oB + k * 11 + 5, none⟩ = some (.int .i64 b.dw) ∧ W.cell? ⟨gb, oB + k * 11 + 6, none⟩ = some (.int .i64 b.dd) ∧ W.cell? ⟨gb, oB + k * 11 + 7, none⟩ = some (.int .i64 b.asec) ∧ W.cell? ⟨gb, oB + k * 11 + 8, none⟩ = some (.int .i64 b.abase) ∧ W.cell? ⟨gb, oB + k * 11 + 9, none⟩ = some (.int .i64 b.save) ∧ W.cell? ⟨gb, oB + k * 11 + 10, none⟩ = some (.string b.letter) ∧ Below wr.heap.size wr W ∧ ga < wr.heap.size ∧ gb < wr.heap.size) (first | exact HS.out | exact keep_each_rules HS.out hc2 | exact keep_each_rules HS.out ((Below.refl _ _).drew) | assumption) ((go_at_call 42; refine (cR.out _).mono ?_; rintro en w1 ⟨rfl, hc⟩; have hc2 : Below wr.heap.size wr w1 := (Below.refl wr.heap.size wr).drew.trans hc; clear hc))
      rename_i hKeep
      clear hKeep
      have HO1 := Lib.hid (HO.out.below hc2); have HT1 := Lib.hid (HT.out.below hc2); have HB1 := Lib.hid (HB0.out.trans (hc2.mono (Nat.le_trans (Nat.le_of_lt HOL.out) HB0.out.size)))
      clear hc2 HS HO HT HB0 HW0 cR
      cases SS with
      | false =>
        have HR : Hid (EachRes P32.sameR P32.diffR P32.mkR LA LB ob w v l (.returned (.bool false)) w1) := Lib.hid (.inr ⟨P32.okAll_not HAK.out HBK.out HSS.out, rfl, HB1.out, _, HT1.out⟩)
        clear HO1 HT1 HB1 HAK HBK HSS HD hok
        go_wp2_with fail
        go_ret
        exact HR.out
      | true =>
        have HOK := Lib.hid (P32.okTo_succ hok.out HAK.out HBK.out HSS.out)
        have HCH := Lib.hid (P32.ch_succ P32.diffR P32.mkR LA LB k a b HAK.out HBK.out)
        by_cases hz : D = 0
        · have hzb : (D != 0) = false := by simp [hz]
          have HO2 : Hid (OutIs w1 ob v' (l ++ P32.ch P32.diffR P32.mkR LA LB (k + 1))) := Lib.hid (by rw [HCH.out, if_pos (HD.out.trans hz), List.append_nil]; exact HO1.out)
          clear hz HO1 HAK HBK HSS HD hok HCH
          go_wp2_with fail
          go_roundw
          case rel => exact ⟨k + 1, v', by omega, by go_num, HO2.out, HT1.out, HB1.out, HOK⟩
          case measure => simp [intOf]; omega
        · have hzb : (D != 0) = true := by simp [hz]
          have HLS : Hid (l ++ P32.ch P32.diffR P32.mkR LA LB (k + 1) = (l ++ P32.ch P32.diffR P32.mkR LA LB k) ++ [P32.mkR k D]) := Lib.hid (by rw [HCH.out, if_neg (by rw [HD.out]; exact hz), HD.out, ← List.append_assoc])
          have hcl := P32.ch_len P32.diffR P32.mkR LA LB k
          obtain ⟨N, hN⟩ : ∃ N, (l ++ P32.ch P32.diffR P32.mkR LA LB k).length = N := ⟨_, rfl⟩
          have hN1 : N ≤ 101000 := by rw [← hN, List.length_append]; omega
          have HN := Lib.hid hN
          clear hN hcl hz HAK HBK HSS HD hok HCH
          have b0 : w1.cell? ⟨ob, 0, none⟩ = some v' := (HO1.out.1.cell 0).trans rfl
          have b1 : w1.frozen? ⟨ob, 0, none⟩ = false := HO1.out.1.frozen 0
          obtain ⟨i0, hi, hz0, hz1, hz2⟩ := info_parts infoChange
          have HO2 : Hid (∀ W, Below w1.heap.size w1 W → W.ownsRow (ob + 1) 50 4 v' N (ccells (l ++ P32.ch P32.diffR P32.mkR LA LB k))) := Lib.hid (fun W h => by have q := (HO1.out.below h).2; rw [HN.out] at q; exact q)
          go_wp2_with fail
          go_region_law (first | (refine step_append_lies _ (by rfl) _ _ _ (by rfl) (ob + 1) 50 i0 _ 4 32 Tryd.underlying30 hi hz0 hz1 hz2 rfl (by omega) v' N (ccells (l ++ P32.ch P32.diffR P32.mkR LA LB k)) (by rfl) ((HO2.out _ hd2).alloc _) ⟨w2.heap.size, 0, none⟩ 1 1 (P32.mkR k D).cells (by rfl) (by rfl) (blk_cells (Blk.new w2 _ #[.int .i64 1, .int .i64 k, .int .i64 0, .int .i64 D])) (by simp [P32.mkR, P32.CV.cells, Value.oneCell']) (by omega) (by simp only [maxLen]; omega) (by omega) (by have := HO1.out.lt; have := hd2.size; simp; omega) (w2.heap.size + 1) (by simp) ?_; intro gg cap w3 hown hgr hat hlt3; have c0 : w3.cell? ⟨ob, 0, none⟩ = some v' := cellq HO1.out hd2 hgr; have c1 : w3.frozen? ⟨ob, 0, none⟩ = false := frozenq HO1.out hd2 hgr) | (go_simp; go_at_call 43; refine (place1_any _ _).mono ?_; rintro en w2 ⟨rfl, hd⟩; have hd2 : Below w1.heap.size w1 w2 := (Below.refl w1.heap.size w1).drew.trans hd; have e0 : w2.cell? ⟨ob, 0, none⟩ = some v' := (hd2.cell (p := ⟨ob, 0, none⟩) HO1.out.lt).trans b0; have e1 : ob < w2.heap.size := Nat.lt_of_lt_of_le HO1.out.lt hd2.size; clear hd))
          all_goals
            have hfin := out_step (c := P32.mkR k D) _ HO1.out HT1.out HB1.out hd2 hown HN.out hgr hat
            rw [show (l ++ P32.ch P32.diffR P32.mkR LA LB k) ++ [P32.mkR k D] = l ++ P32.ch P32.diffR P32.mkR LA LB (k + 1) from HLS.out.symm] at hfin
            have HFIN := Lib.hid hfin
            clear hfin b0 b1 c0 c1 e0 e1 hd2 hown hgr hat hlt3 HO1 HT1 HB1 HO2 HN HLS hi hz0 hz1 hz2
            go_wp2_with fail
            go_roundw
            case rel => exact ⟨k + 1, _, by omega, by go_num, HFIN.out.1, HFIN.out.2.1, HFIN.out.2.2, HOK⟩
            case measure => simp [intOf]; omega
    · obtain rfl : k = LA.length := by omega
      have hki : ¬ (LA.length : Int) < (LA.length : Int) := by omega
      have HR : Hid (EachRes P32.sameR P32.diffR P32.mkR LA LB ob w v l (.returned (.bool true)) wr) := Lib.hid (.inl ⟨⟨HNN.out, hok.out⟩, rfl, v', hO, hT, hb⟩)
      clear hO hT hb hok hw0
      go_wp2_with fail
      go_ret
      exact HR.out
theorem keep_each_eras {wr w1 : World} {ga oa gb oB k : Nat} {a b : EV} (h : wr.cell? ⟨ga, oa + k * 13, none⟩ = some (.int .i64 a.off) ∧ wr.cell? ⟨ga, oa + k * 13 + 1, none⟩ = some (.int .i64 a.kind) ∧ wr.cell? ⟨ga, oa + k * 13 + 2, none⟩ = some (.int .i64 a.save) ∧ wr.cell? ⟨ga, oa + k * 13 + 3, none⟩ = some (.string a.set) ∧ wr.cell? ⟨ga, oa + k * 13 + 4, none⟩ = some (.string a.fmt) ∧ wr.cell? ⟨ga, oa + k * 13 + 5, none⟩ = some (.bool a.ui) ∧ wr.cell? ⟨ga, oa + k * 13 + 6, none⟩ = some (.int .i64 a.uy) ∧ wr.cell? ⟨ga, oa + k * 13 + 7, none⟩ = some (.int .i64 a.um) ∧ wr.cell? ⟨ga, oa + k * 13 + 8, none⟩ = some (.int .i64 a.dk) ∧ wr.cell? ⟨ga, oa + k * 13 + 9, none⟩ = some (.int .i64 a.dw) ∧ wr.cell? ⟨ga, oa + k * 13 + 10, none⟩ = some (.int .i64 a.dd) ∧ wr.cell? ⟨ga, oa + k * 13 + 11, none⟩ = some (.int .i64 a.asec) ∧ wr.cell? ⟨ga, oa + k * 13 + 12, none⟩ = some (.int .i64 a.ab) ∧ wr.cell? ⟨gb, oB + k * 13, none⟩ = some (.int .i64 b.off) ∧ wr.cell? ⟨gb, oB + k * 13 + 1, none⟩ = some (.int .i64 b.kind) ∧ wr.cell? ⟨gb, oB + k * 13 + 2, none⟩ = some (.int .i64 b.save) ∧ wr.cell? ⟨gb, oB + k * 13 + 3, none⟩ = some (.string b.set) ∧ wr.cell? ⟨gb, oB + k * 13 + 4, none⟩ = some (.string b.fmt) ∧ wr.cell? ⟨gb, oB + k * 13 + 5, none⟩ = some (.bool b.ui) ∧ wr.cell? ⟨gb, oB + k * 13 + 6, none⟩ = some (.int .i64 b.uy) ∧ wr.cell? ⟨gb, oB + k * 13 + 7, none⟩ = some (.int .i64 b.um) ∧ wr.cell? ⟨gb, oB + k * 13 + 8, none⟩ = some (.int .i64 b.dk) ∧ wr.cell? ⟨gb, oB + k * 13 + 9, none⟩ = some (.int .i64 b.dw) ∧ wr.cell? ⟨gb, oB + k * 13 + 10, none⟩ = some (.int .i64 b.dd) ∧ wr.cell? ⟨gb, oB + k * 13 + 11, none⟩ = some (.int .i64 b.asec) ∧ wr.cell? ⟨gb, oB + k * 13 + 12, none⟩ = some (.int .i64 b.ab) ∧ Below wr.heap.size wr wr ∧ ga < wr.heap.size ∧ gb < wr.heap.size) (hb : Below wr.heap.size wr w1) : w1.cell? ⟨ga, oa + k * 13, none⟩ = some (.int .i64 a.off) ∧ w1.cell? ⟨ga, oa + k * 13 + 1, none⟩ = some (.int .i64 a.kind) ∧ w1.cell? ⟨ga, oa + k * 13 + 2, none⟩ = some (.int .i64 a.save) ∧ w1.cell? ⟨ga, oa + k * 13 + 3, none⟩ = some (.string a.set) ∧ w1.cell? ⟨ga, oa + k * 13 + 4, none⟩ = some (.string a.fmt) ∧ w1.cell? ⟨ga, oa + k * 13 + 5, none⟩ = some (.bool a.ui) ∧ w1.cell? ⟨ga, oa + k * 13 + 6, none⟩ = some (.int .i64 a.uy) ∧ w1.cell? ⟨ga, oa + k * 13 + 7, none⟩ = some (.int .i64 a.um) ∧ w1.cell? ⟨ga, oa + k * 13 + 8, none⟩ = some (.int .i64 a.dk) ∧ w1.cell? ⟨ga, oa + k * 13 + 9, none⟩ = some (.int .i64 a.dw) ∧ w1.cell? ⟨ga, oa + k * 13 + 10, none⟩ = some (.int .i64 a.dd) ∧ w1.cell? ⟨ga, oa + k * 13 + 11, none⟩ = some (.int .i64 a.asec) ∧ w1.cell? ⟨ga, oa + k * 13 + 12, none⟩ = some (.int .i64 a.ab) ∧ w1.cell? ⟨gb, oB + k * 13, none⟩ = some (.int .i64 b.off) ∧ w1.cell? ⟨gb, oB + k * 13 + 1, none⟩ = some (.int .i64 b.kind) ∧ w1.cell? ⟨gb, oB + k * 13 + 2, none⟩ = some (.int .i64 b.save) ∧ w1.cell? ⟨gb, oB + k * 13 + 3, none⟩ = some (.string b.set) ∧ w1.cell? ⟨gb, oB + k * 13 + 4, none⟩ = some (.string b.fmt) ∧ w1.cell? ⟨gb, oB + k * 13 + 5, none⟩ = some (.bool b.ui) ∧ w1.cell? ⟨gb, oB + k * 13 + 6, none⟩ = some (.int .i64 b.uy) ∧ w1.cell? ⟨gb, oB + k * 13 + 7, none⟩ = some (.int .i64 b.um) ∧ w1.cell? ⟨gb, oB + k * 13 + 8, none⟩ = some (.int .i64 b.dk) ∧ w1.cell? ⟨gb, oB + k * 13 + 9, none⟩ = some (.int .i64 b.dw) ∧ w1.cell? ⟨gb, oB + k * 13 + 10, none⟩ = some (.int .i64 b.dd) ∧ w1.cell? ⟨gb, oB + k * 13 + 11, none⟩ = some (.int .i64 b.asec) ∧ w1.cell? ⟨gb, oB + k * 13 + 12, none⟩ = some (.int .i64 b.ab) ∧ Below wr.heap.size wr w1 ∧ ga < wr.heap.size ∧ gb < wr.heap.size := by
  obtain ⟨h0, h1, h2, h3, h4, h5, h6, h7, h8, h9, h10, h11, h12, h13, h14, h15, h16, h17, h18, h19, h20, h21, h22, h23, h24, h25, _, hga, hgb⟩ := h
  exact ⟨(hb.cell (p := ⟨ga, oa + k * 13, none⟩) hga).trans h0, (hb.cell (p := ⟨ga, oa + k * 13 + 1, none⟩) hga).trans h1, (hb.cell (p := ⟨ga, oa + k * 13 + 2, none⟩) hga).trans h2, (hb.cell (p := ⟨ga, oa + k * 13 + 3, none⟩) hga).trans h3, (hb.cell (p := ⟨ga, oa + k * 13 + 4, none⟩) hga).trans h4, (hb.cell (p := ⟨ga, oa + k * 13 + 5, none⟩) hga).trans h5, (hb.cell (p := ⟨ga, oa + k * 13 + 6, none⟩) hga).trans h6, (hb.cell (p := ⟨ga, oa + k * 13 + 7, none⟩) hga).trans h7, (hb.cell (p := ⟨ga, oa + k * 13 + 8, none⟩) hga).trans h8, (hb.cell (p := ⟨ga, oa + k * 13 + 9, none⟩) hga).trans h9, (hb.cell (p := ⟨ga, oa + k * 13 + 10, none⟩) hga).trans h10, (hb.cell (p := ⟨ga, oa + k * 13 + 11, none⟩) hga).trans h11, (hb.cell (p := ⟨ga, oa + k * 13 + 12, none⟩) hga).trans h12, (hb.cell (p := ⟨gb, oB + k * 13, none⟩) hgb).trans h13, (hb.cell (p := ⟨gb, oB + k * 13 + 1, none⟩) hgb).trans h14, (hb.cell (p := ⟨gb, oB + k * 13 + 2, none⟩) hgb).trans h15, (hb.cell (p := ⟨gb, oB + k * 13 + 3, none⟩) hgb).trans h16, (hb.cell (p := ⟨gb, oB + k * 13 + 4, none⟩) hgb).trans h17, (hb.cell (p := ⟨gb, oB + k * 13 + 5, none⟩) hgb).trans h18, (hb.cell (p := ⟨gb, oB + k * 13 + 6, none⟩) hgb).trans h19, (hb.cell (p := ⟨gb, oB + k * 13 + 7, none⟩) hgb).trans h20, (hb.cell (p := ⟨gb, oB + k * 13 + 8, none⟩) hgb).trans h21, (hb.cell (p := ⟨gb, oB + k * 13 + 9, none⟩) hgb).trans h22, (hb.cell (p := ⟨gb, oB + k * 13 + 10, none⟩) hgb).trans h23, (hb.cell (p := ⟨gb, oB + k * 13 + 11, none⟩) hgb).trans h24, (hb.cell (p := ⟨gb, oB + k * 13 + 12, none⟩) hgb).trans h25, hb, hga, hgb⟩
set_option maxRecDepth 100000 in
set_option maxHeartbeats 8000000 in
theorem each_eras (A B : Option Addr) (ca cb : Nat) (LA LB : List EV) (ob : Nat) (v : Value) (l : List P32.CV) (w0 w : World) (zi ib : Nat) (hz : w.cell? ⟨ib, 0, none⟩ = some (.int .i64 zi)) (hib : ib < w.heap.size) (hi1 : ib ≠ ob) (hi2 : some ib ≠ v.ownBlock) (hA : CellsIn 13 EV.cells w0 A LA) (hB : CellsIn 13 EV.cells w0 B LB) (h0 : Below w0.heap.size w0 w) (hle : w0.heap.size ≤ ob) (hO : OutIs w ob v l) (hlen : LA.length ≤ 1000) (hlen2 : l.length ≤ 100000) (hlenB : LB.length ≤ maxLen) :
    Calls Tryd.prog 45 #[.slice A LA.length ca, .slice B LB.length cb, .func (.func 46) #[] #[], .func (.func 47) #[] #[.pointer (some ⟨ib, 0, none⟩)], .pointer (some ⟨ob, 0, none⟩)] w (EachRes P32.sameE P32.diffE (P32.mkE zi) LA LB ob w v l) := by
  unfold maxLen at hlenB
  have HZ := Lib.hid (turned_cell hz hib hi1 hi2); clear hz hib hi1 hi2
  by_cases hnn : LA.length = LB.length
  rotate_left
  · have hb : ((LA.length : Int) != (LB.length : Int)) = true := by rw [bne_iff_ne]; omega
    have hR : EachRes P32.sameE P32.diffE (P32.mkE zi) LA LB ob w v l (.returned (.bool false)) w := .inr ⟨fun q => hnn q.1, rfl, Below.refl _ _, v, Turned.refl _ _ _⟩
    have HR := Lib.hid hR
    clear hR hA hB h0 hle hO hnn
    go_enter Tryd.func45, Tryd.ntmps45
    go_wp2_with fail
    go_ret
    exact HR.out
  have hnb : ((LA.length : Int) != (LB.length : Int)) = false := by rw [bne_eq_false_iff_eq]; omega
  have HNN := Lib.hid hnn
  have HA := Lib.hid hA; have HB := Lib.hid hB; have H0 := Lib.hid h0; have HLE := Lib.hid hle
  have hli : (LA.length : Int) ≤ 1000 := by omega
  have HOL := Lib.hid hO.lt
  clear hnn hA hB h0 hle
  go_enter Tryd.func45, Tryd.ntmps45
  go_wp2_with fail
  go_loopw [21] (fun i wr => ∃ (k : Nat) (v' : Value), k ≤ LA.length ∧ i = .int .i64 k ∧ OutIs wr ob v' (l ++ P32.ch P32.diffE (P32.mkE zi) LA LB k) ∧ Turned ob w v wr v' ∧ Below ob w wr ∧ Hid (P32.okTo P32.sameE LA LB k)) (fun i _ => LA.length - (intOf i).toNat)
  case atStart => exact ⟨0, v, Nat.zero_le _, rfl, by rw [P32.ch_zero, List.append_nil]; exact hO, Turned.refl _ _ _, Below.refl _ _, Lib.hid (P32.okTo_zero _ _ _)⟩
  case round =>
    clear hO
    obtain ⟨k, v', hk, rfl, hO, hT, hb, hok⟩ := hrel
    have hw0 := H0.out.trans (hb.mono HLE.out)
    by_cases hlt : k < LA.length
    · obtain ⟨a, ha⟩ : ∃ a, LA[k]? = some a := ⟨_, List.getElem?_eq_getElem hlt⟩
      obtain ⟨b, hbk⟩ : ∃ b, LB[k]? = some b := ⟨_, List.getElem?_eq_getElem (by have := HNN.out; omega)⟩
      obtain ⟨ga, oa, rfl, hga, hat⟩ := (HA.out.below hw0) k a ha
      obtain ⟨gb, oB, rfl, hgb, hbt⟩ := (HB.out.below hw0) k b hbk
      have HAT := Lib.hid hat; have HBT := Lib.hid hbt
      have HAK := Lib.hid ha; have HBK := Lib.hid hbk
      have HO := Lib.hid hO; have HT := Lib.hid hT; have HB0 := Lib.hid hb; have HW0 := Lib.hid hw0
      have hki : (k : Int) < (LA.length : Int) := by omega
      have hki2 : (k : Int) < (LB.length : Int) := by have := HNN.out; omega
      have hk0 : (0 : Int) ≤ (k : Int) := by omega
      clear hat hbt ha hbk hO hT hb hw0
      obtain ⟨D, hD⟩ : ∃ D, P32.diffE a b = D := ⟨_, rfl⟩
      obtain ⟨SS, hSS⟩ : ∃ SS, P32.sameE a b = SS := ⟨_, rfl⟩
      have HD := Lib.hid hD; have HSS := Lib.hid hSS
      have cR : Hid (∀ W, Calls Tryd.prog 46 #[.agg #[.int .i64 a.off, .int .i64 a.kind, .int .i64 a.save, .string a.set, .string a.fmt, .bool a.ui, .int .i64 a.uy, .int .i64 a.um, .int .i64 a.dk, .int .i64 a.dw, .int .i64 a.dd, .int .i64 a.asec, .int .i64 a.ab], .agg #[.int .i64 b.off, .int .i64 b.kind, .int .i64 b.save, .string b.set, .string b.fmt, .bool b.ui, .int .i64 b.uy, .int .i64 b.um, .int .i64 b.dk, .int .i64 b.dw, .int .i64 b.dd, .int .i64 b.asec, .int .i64 b.ab]] W fun e w' => e = .returned (.tuple #[.int .i64 D, .bool SS]) ∧ Below W.heap.size W w') := Lib.hid (fun W => by have q := eras_any a.off a.kind a.save a.set a.fmt a.ui a.uy a.um a.dk a.dw a.dd a.asec a.ab b.off b.kind b.save b.set b.fmt b.ui b.uy b.um b.dk b.dw b.dd b.asec b.ab D hD W; rw [← hSS]; exact q)
      clear hD hSS
      have HS : Hid (wr.cell? ⟨ga, oa + k * 13, none⟩ = some (.int .i64 a.off) ∧ wr.cell? ⟨ga, oa + k * 13 + 1, none⟩ = some (.int .i64 a.kind) ∧ wr.cell? ⟨ga, oa + k * 13 + 2, none⟩ = some (.int .i64 a.save) ∧ wr.cell? ⟨ga, oa + k * 13 + 3, none⟩ = some (.string a.set) ∧ wr.cell? ⟨ga, oa + k * 13 + 4, none⟩ = some (.string a.fmt) ∧ wr.cell? ⟨ga, oa + k * 13 + 5, none⟩ = some (.bool a.ui) ∧ wr.cell? ⟨ga, oa + k * 13 + 6, none⟩ = some (.int .i64 a.uy) ∧ wr.cell? ⟨ga, oa + k * 13 + 7, none⟩ = some (.int .i64 a.um) ∧ wr.cell? ⟨ga, oa + k * 13 + 8, none⟩ = some (.int .i64 a.dk) ∧ wr.cell? ⟨ga, oa + k * 13 + 9, none⟩ = some (.int .i64 a.dw) ∧ wr.cell? ⟨ga, oa + k * 13 + 10, none⟩ = some (.int .i64 a.dd) ∧ wr.cell? ⟨ga, oa + k * 13 + 11, none⟩ = some (.int .i64 a.asec) ∧ wr.cell? ⟨ga, oa + k * 13 + 12, none⟩ = some (.int .i64 a.ab) ∧ wr.cell? ⟨gb, oB + k * 13, none⟩ = some (.int .i64 b.off) ∧ wr.cell? ⟨gb, oB + k * 13 + 1, none⟩ = some (.int .i64 b.kind) ∧ wr.cell? ⟨gb, oB + k * 13 + 2, none⟩ = some (.int .i64 b.save) ∧ wr.cell? ⟨gb, oB + k * 13 + 3, none⟩ = some (.string b.set) ∧ wr.cell? ⟨gb, oB + k * 13 + 4, none⟩ = some (.string b.fmt) ∧ wr.cell? ⟨gb, oB + k * 13 + 5, none⟩ = some (.bool b.ui) ∧ wr.cell? ⟨gb, oB + k * 13 + 6, none⟩ = some (.int .i64 b.uy) ∧ wr.cell? ⟨gb, oB + k * 13 + 7, none⟩ = some (.int .i64 b.um) ∧ wr.cell? ⟨gb, oB + k * 13 + 8, none⟩ = some (.int .i64 b.dk) ∧ wr.cell? ⟨gb, oB + k * 13 + 9, none⟩ = some (.int .i64 b.dw) ∧ wr.cell? ⟨gb, oB + k * 13 + 10, none⟩ = some (.int .i64 b.dd) ∧ wr.cell? ⟨gb, oB + k * 13 + 11, none⟩ = some (.int .i64 b.asec) ∧ wr.cell? ⟨gb, oB + k * 13 + 12, none⟩ = some (.int .i64 b.ab) ∧ Below wr.heap.size wr wr ∧ ga < wr.heap.size ∧ gb < wr.heap.size) := Lib.hid ⟨HAT.out 0 _ rfl, HAT.out 1 _ rfl, HAT.out 2 _ rfl, HAT.out 3 _ rfl, HAT.out 4 _ rfl, HAT.out 5 _ rfl, HAT.out 6 _ rfl, HAT.out 7 _ rfl, HAT.out 8 _ rfl, HAT.out 9 _ rfl, HAT.out 10 _ rfl, HAT.out 11 _ rfl, HAT.out 12 _ rfl, HBT.out 0 _ rfl, HBT.out 1 _ rfl, HBT.out 2 _ rfl, HBT.out 3 _ rfl, HBT.out 4 _ rfl, HBT.out 5 _ rfl, HBT.out 6 _ rfl, HBT.out 7 _ rfl, HBT.out 8 _ rfl, HBT.out 9 _ rfl, HBT.out 10 _ rfl, HBT.out 11 _ rfl, HBT.out 12 _ rfl, Below.refl _ _, hga, hgb⟩
      clear HAT HBT
      go_wp2_with fail
      go_region_held3 (fun W => W.cell? ⟨ga, oa + k * 13, none⟩ = some (.int .i64 a.off) ∧ W.cell? ⟨ga, oa + k * 13 + 1, none⟩ = some (.int .i64 a.kind) ∧ W.cell? ⟨ga, oa + k * 13 + 2, none⟩ = some (.int .i64 a.save) ∧ W.cell? ⟨ga, oa + k * 13 + 3, none⟩ = some (.string a.set) ∧ W.cell? ⟨ga, oa + k * 13 + 4, none⟩ = some (.string a.fmt) ∧ W.cell? ⟨ga, oa + k * 13 + 5, none⟩ = some (.bool a.ui) ∧ W.cell? ⟨ga, oa + k * 13 + 6, none⟩ = some (.int .i64 a.uy) ∧ W.cell? ⟨ga, oa + k * 13 + 7, none⟩ = some (.int .i64 a.um) ∧ W.cell? ⟨ga, oa + k * 13 + 8, none⟩ = some (.int .i64 a.dk) ∧ W.cell? ⟨ga, oa + k * 13 + 9, none⟩ = some (.int .i64 a.dw) ∧ W.cell? ⟨ga, oa + k * 13 + 10, none⟩ = some (.int .i64 a.dd) ∧ W.cell? ⟨ga, oa + k * 13 + 11, none⟩ = some (.int .i64 a.asec) ∧ W.cell? ⟨ga, oa + k * 13 + 12, none⟩ = some (.int .i64 a.ab) ∧ W.cell? ⟨gb, oB + k * 13, none⟩ = some (.int .i64 b.off) ∧ W.cell? ⟨gb, oB + k * 13 + 1, none⟩ = some (.int .i64 b.kind) ∧ W.cell? ⟨gb, oB + k * 13 + 2, none⟩ = some (.int .i64 b.save) ∧ W.cell? ⟨gb, oB + k * 13 + 3, none⟩ = some (.string b.set) ∧ W.cell? ⟨gb, oB + k * 13 + 4, none⟩ = some (.string b.fmt) ∧ W.cell? ⟨gb, oB + k * 13 + 5, none⟩ = some (.bool b.ui) ∧ W.cell? ⟨gb, oB + k * 13 + 6, none⟩ = some (.int .i64 b.uy) ∧ W.cell? ⟨gb, oB + k * 13 + 7, none⟩ = some (.int .i64 b.um) ∧ W.cell? ⟨gb, oB + k * 13 + 8, none⟩ = some (.int .i64 b.dk) ∧ W.cell? ⟨gb, oB + k * 13 + 9, none⟩ = some (.int .i64 b.dw) ∧ W.cell? ⟨gb, oB + k * 13 + 10, none⟩ = some (.int .i64 b.dd) ∧ W.cell? ⟨gb, oB + k * 13 + 11, none⟩ = some (.int .i64 b.asec) ∧ W.cell? ⟨gb, oB + k * 13 + 12, none⟩ = some (.int .i64 b.ab) ∧ Below wr.heap.size wr W ∧ ga < wr.heap.size ∧ gb < wr.heap.size) (first | exact HS.out | exact keep_each_eras HS.out hc2 | exact keep_each_eras HS.out ((Below.refl _ _).drew) | assumption) ((go_at_call 46; refine (cR.out _).mono ?_; rintro en w1 ⟨rfl, hc⟩; have hc2 : Below wr.heap.size wr w1 := (Below.refl wr.heap.size wr).drew.trans hc; clear hc))
      rename_i hKeep
      clear hKeep
      have HO1 := Lib.hid (HO.out.below hc2); have HT1 := Lib.hid (HT.out.below hc2); have HB1 := Lib.hid (HB0.out.trans (hc2.mono (Nat.le_trans (Nat.le_of_lt HOL.out) HB0.out.size)))
      clear hc2 HS HO HT HB0 HW0 cR
      cases SS with
      | false =>
        have HR : Hid (EachRes P32.sameE P32.diffE (P32.mkE zi) LA LB ob w v l (.returned (.bool false)) w1) := Lib.hid (.inr ⟨P32.okAll_not HAK.out HBK.out HSS.out, rfl, HB1.out, _, HT1.out⟩)
        clear HO1 HT1 HB1 HAK HBK HSS HD hok
        go_wp2_with fail
        go_ret
        exact HR.out
      | true =>
        have HOK := Lib.hid (P32.okTo_succ hok.out HAK.out HBK.out HSS.out)
        have HCH := Lib.hid (P32.ch_succ P32.diffE (P32.mkE zi) LA LB k a b HAK.out HBK.out)
        by_cases hz : D = 0
        · have hzb : (D != 0) = false := by simp [hz]
          have HO2 : Hid (OutIs w1 ob v' (l ++ P32.ch P32.diffE (P32.mkE zi) LA LB (k + 1))) := Lib.hid (by rw [HCH.out, if_pos (HD.out.trans hz), List.append_nil]; exact HO1.out)
          clear hz HO1 HAK HBK HSS HD hok HCH
          go_wp2_with fail
          go_roundw
          case rel => exact ⟨k + 1, v', by omega, by go_num, HO2.out, HT1.out, HB1.out, HOK⟩
          case measure => simp [intOf]; omega
        · have hzb : (D != 0) = true := by simp [hz]
          have HLS : Hid (l ++ P32.ch P32.diffE (P32.mkE zi) LA LB (k + 1) = (l ++ P32.ch P32.diffE (P32.mkE zi) LA LB k) ++ [(P32.mkE zi) k D]) := Lib.hid (by rw [HCH.out, if_neg (by rw [HD.out]; exact hz), HD.out, ← List.append_assoc])
          have hcl := P32.ch_len P32.diffE (P32.mkE zi) LA LB k
          obtain ⟨N, hN⟩ : ∃ N, (l ++ P32.ch P32.diffE (P32.mkE zi) LA LB k).length = N := ⟨_, rfl⟩
          have hN1 : N ≤ 101000 := by rw [← hN, List.length_append]; omega
          have HN := Lib.hid hN
          clear hN hcl hz HAK HBK HSS HD hok HCH
          have b0 : w1.cell? ⟨ob, 0, none⟩ = some v' := (HO1.out.1.cell 0).trans rfl
          have b1 : w1.frozen? ⟨ob, 0, none⟩ = false := HO1.out.1.frozen 0
          obtain ⟨i0, hi, hz0, hz1, hz2⟩ := info_parts infoChange
          have HO2 : Hid (∀ W, Below w1.heap.size w1 W → W.ownsRow (ob + 1) 50 4 v' N (ccells (l ++ P32.ch P32.diffE (P32.mkE zi) LA LB k))) := Lib.hid (fun W h => by have q := (HO1.out.below h).2; rw [HN.out] at q; exact q)
          go_wp2_with fail
          go_region_law (first | (refine step_append_lies _ (by rfl) _ _ _ (by rfl) (ob + 1) 50 i0 _ 4 32 Tryd.underlying30 hi hz0 hz1 hz2 rfl (by omega) v' N (ccells (l ++ P32.ch P32.diffE (P32.mkE zi) LA LB k)) (by rfl) ((HO2.out _ hd2).alloc _) ⟨w2.heap.size, 0, none⟩ 1 1 ((P32.mkE zi) k D).cells (by rfl) (by rfl) (blk_cells (Blk.new w2 _ #[.int .i64 2, .int .i64 zi, .int .i64 k, .int .i64 D])) (by simp [P32.mkE, P32.CV.cells, Value.oneCell']) (by omega) (by simp only [maxLen]; omega) (by omega) (by have := HO1.out.lt; have := hd2.size; simp; omega) (w2.heap.size + 1) (by simp) ?_; intro gg cap w3 hown hgr hat hlt3; have c0 : w3.cell? ⟨ob, 0, none⟩ = some v' := cellq HO1.out hd2 hgr; have c1 : w3.frozen? ⟨ob, 0, none⟩ = false := frozenq HO1.out hd2 hgr) | (go_simp; go_at_call 47; refine (place2_any _ (zi : Int) ib w1.drew (HZ.out _ _ HT1.out).1 (HZ.out _ _ HT1.out).2).mono ?_; rintro en w2 ⟨rfl, hd⟩; have hd2 : Below w1.heap.size w1 w2 := (Below.refl w1.heap.size w1).drew.trans hd; have e0 : w2.cell? ⟨ob, 0, none⟩ = some v' := (hd2.cell (p := ⟨ob, 0, none⟩) HO1.out.lt).trans b0; have e1 : ob < w2.heap.size := Nat.lt_of_lt_of_le HO1.out.lt hd2.size; clear hd))
          all_goals
            have hfin := out_step (c := (P32.mkE zi) k D) _ HO1.out HT1.out HB1.out hd2 hown HN.out hgr hat
            rw [show (l ++ P32.ch P32.diffE (P32.mkE zi) LA LB k) ++ [(P32.mkE zi) k D] = l ++ P32.ch P32.diffE (P32.mkE zi) LA LB (k + 1) from HLS.out.symm] at hfin
            have HFIN := Lib.hid hfin
            clear hfin b0 b1 c0 c1 e0 e1 hd2 hown hgr hat hlt3 HO1 HT1 HB1 HO2 HN HLS hi hz0 hz1 hz2
            go_wp2_with fail
            go_roundw
            case rel => exact ⟨k + 1, _, by omega, by go_num, HFIN.out.1, HFIN.out.2.1, HFIN.out.2.2, HOK⟩
            case measure => simp [intOf]; omega
    · obtain rfl : k = LA.length := by omega
      have hki : ¬ (LA.length : Int) < (LA.length : Int) := by omega
      have HR : Hid (EachRes P32.sameE P32.diffE (P32.mkE zi) LA LB ob w v l (.returned (.bool true)) wr) := Lib.hid (.inl ⟨⟨HNN.out, hok.out⟩, rfl, v', hO, hT, hb⟩)
      clear hO hT hb hok hw0
      go_wp2_with fail
      go_ret
      exact HR.out
end Go.Proofs.YtggdfgdnpicepaaDoor
