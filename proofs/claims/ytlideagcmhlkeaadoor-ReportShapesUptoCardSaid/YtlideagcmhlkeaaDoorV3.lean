/- Texts of one proof, one behind the other: Rep32e; Rep32g0; Open32; OpenB32; Rep32g; ShelfW; Rep32c. -/
import Derived.Test.YtlideagcmhlkeaaDoorV2
import Derived.Deep.RegionHeld3
import Derived.Deep.AppendLies
import Derived.Deep.RegionLaw
import Derived.Deep.DrawnRows
import Derived.Deep.DeepCutAuto
import Derived.Deep.CutBlock
import Derived.OpenShut
import Derived.Test.YtlideagcmhlkeaaDoorRows
import Derived.BigQuiet
import Derived.Deep.QuietTactic
import Derived.Shelf.Strings.Builder1
import Derived.Shelf.Strings.Builder2
import Derived.Shelf.Strings.OnBuilder
import Derived.Shelf.Strings.BuilderF
import Derived.Shelf.Strings.BuilderK
import Derived.Shelf.Strconv.Itoa0
import Derived.Shelf.Strconv.Itoa1
import Derived.Shelf.LaysM
import Derived.Shelf.Strconv.Itoa2
import Derived.Shelf.Strconv.Itoa3
import Derived.Ground.MpProg
import Derived.Shelf.Pu.ParseUintPublic10
import Derived.Shelf.Pu.ErrVarParseUint
import Derived.Shelf.Strings.Search1
import Derived.Shelf.Strings.Search2
import Derived.Shelf.Strings.Cut
import Derived.Shelf.Strings.Shaped
import Derived.Shelf.GgClosure.StringsIndexFunc
import Derived.Shelf.Strings.Prefix
import Derived.Ground.Names2Prog
import Derived.Shelf.Slices.Clone
import Derived.Ground.SlgnProg
import Derived.Shelf.SlicesE.Equal
import Derived.Shelf.SlicesE.Clone
import Derived.Test.YtlideagcmhlkeaaDoorProg
import Derived.Lib.ItoaNum
import Derived.Lib.LaidTab
import Derived.Lib.AppendIntMem

/- The walks of the places and of each (chapter 32). -/
namespace Go.Proofs.YtlideagcmhlkeaaDoor
open Go.RowKit
set_option linter.unusedVariables false
attribute [local go_sem ↓] Go.wp_at_zero Go.wp_at_succ

set_option maxHeartbeats 1000000 in
theorem place1_any (i : Int) (w : World) : Calls Tryd.prog 74 #[.int .i64 i] w fun e w' => e = .returned (.agg #[.int .i64 1, .int .i64 i, .int .i64 0]) ∧ Below w.heap.size w w' := by
  have hB := Blk.new w 85 #[.int .i64 1, .int .i64 i, .int .i64 0]
  have k0 := (hB.cell 0).trans rfl
  have k1 := (hB.cell 1).trans rfl
  have k2 := (hB.cell 2).trans rfl
  clear hB
  go_enter Tryd.func74, Tryd.ntmps74
  go_wp2_with fail
  exact bodyPost_ret (v := .agg #[.int .i64 1, .int .i64 i, .int .i64 0]) (by simp [results, Tryd.results74, go_sem, k0, k1, k2]) rfl ⟨rfl, (Below.refl _ _).alloc (Nat.le_refl _) _⟩
set_option maxHeartbeats 1000000 in
theorem place2_any (i z : Int) (ib : Nat) (w : World) (hz : w.cell? ⟨ib, 0, none⟩ = some (.int .i64 z)) (hib : ib < w.heap.size) : Calls Tryd.prog 77 #[.int .i64 i, .pointer (some ⟨ib, 0, none⟩)] w fun e w' => e = .returned (.agg #[.int .i64 2, .int .i64 z, .int .i64 i]) ∧ Below w.heap.size w w' := by
  have hB := Blk.new w 85 #[.int .i64 2, .int .i64 z, .int .i64 i]
  have k0 := (hB.cell 0).trans rfl
  have k1 := (hB.cell 1).trans rfl
  have k2 := (hB.cell 2).trans rfl
  clear hB
  go_enter Tryd.func77, Tryd.ntmps77
  go_wp2_with fail
  exact bodyPost_ret (v := .agg #[.int .i64 2, .int .i64 z, .int .i64 i]) (by simp [results, Tryd.results77, go_sem, k0, k1, k2]) rfl ⟨rfl, (Below.refl _ _).alloc (Nat.le_refl _) _⟩

def ccells (l : List P32.CV) : List Value := l.flatMap P32.CV.cells
theorem size_setCell' (w : World) (p : Addr) (u : Value) : (w.setCell p u).heap.size = w.heap.size := by simp [World.setCell]
/-- the variable of the changes: its cell in block ob, and its row -/
def OutIs (W : World) (ob : Nat) (v : Value) (l : List P32.CV) : Prop := Blk W ob 81 #[v] ∧ W.ownsRow (ob + 1) 87 4 v l.length (ccells l)
/-- from w to w': nothing is turned but block ob and the row of v -/
structure Turned (ob : Nat) (w : World) (v : Value) (w' : World) (v' : Value) : Prop where
  size : w.heap.size ≤ w'.heap.size
  kept : ∀ k, k < w.heap.size → k ≠ ob → some k ≠ v.ownBlock → w'.heap[k]? = w.heap[k]?
  own : ∀ k, v'.ownBlock = some k → v.ownBlock = some k ∨ w.heap.size ≤ k
theorem Turned.refl (ob : Nat) (w : World) (v : Value) : Turned ob w v w v := ⟨Nat.le_refl _, fun _ _ _ _ => rfl, fun k h => .inl h⟩
theorem Turned.trans {ob : Nat} {w w1 w2 : World} {v v1 v2 : Value} (h : Turned ob w v w1 v1) (k : Turned ob w1 v1 w2 v2) : Turned ob w v w2 v2 := by
  refine ⟨Nat.le_trans h.size k.size, fun j hj h1 h2 => ?_, fun j hj => ?_⟩
  · refine (k.kept j (Nat.lt_of_lt_of_le hj h.size) h1 fun q => ?_).trans (h.kept j hj h1 h2)
    rcases h.own j q.symm with r | r
    · exact h2 r.symm
    · omega
  · rcases k.own j hj with r | r
    · exact h.own j r
    · exact .inr (Nat.le_trans h.size r)
theorem Turned.below {ob : Nat} {w w1 w2 : World} {v v1 : Value} (h : Turned ob w v w1 v1) (hb : Below w1.heap.size w1 w2) : Turned ob w v w2 v1 :=
  h.trans ⟨hb.size, fun k hk _ _ => hb.block k hk, fun k q => .inl q⟩
theorem OutIs.below {W W' : World} {ob : Nat} {v : Value} {l : List P32.CV} (h : OutIs W ob v l) (hb : Below W.heap.size W W') : OutIs W' ob v l := ⟨h.1.below hb h.1.lt, own_below h.2 hb⟩
theorem OutIs.lt {W : World} {ob : Nat} {v : Value} {l : List P32.CV} (h : OutIs W ob v l) : ob < W.heap.size := h.1.lt
theorem ccells_snoc (l : List P32.CV) (c : P32.CV) : ccells (l ++ [c]) = ccells l ++ c.cells := by unfold ccells; rw [List.flatMap_append]; simp
theorem infoChange : (Tryd.prog.info? 87).map (fun i => (i.zero, i.size, i.bytes)) = some (some (.agg #[.int .i64 0, .int .i64 0, .int .i64 0, .int .i64 0]), 4, 32) := by kernel_rfl
theorem own_far {w : World} {base n size : Nat} {e : TypeId} {v : Value} {xs : List Value} (h : w.ownsRow base e size v n xs) (b : Nat) (hb : b < base) (u : Value) : (w.setCell ⟨b, 0, none⟩ u).ownsRow base e size v n xs := by
  refine ⟨h.1, ?_⟩
  rcases h.2 with q | ⟨g, cap, cur, hv, hg, hh, r⟩
  · exact .inl q
  · exact .inr ⟨g, cap, cur, hv, hg, (heap_setCell_other w ⟨b, 0, none⟩ g u (by show g ≠ b; omega)).trans hh, r⟩
/-- one change more: the row grows, the variable is written -/
theorem out_step {ob N gg cap : Nat} {w w1 w2 w3 : World} {v v' : Value} {l2 : List P32.CV} {c : P32.CV} (o : Obj) (hO : OutIs w1 ob v' l2) (hT : Turned ob w v w1 v') (hB : Below ob w w1) (hd : Below w1.heap.size w1 w2)
    (hown : w3.ownsRow (ob + 1) 87 4 (.slice (some ⟨gg, 0, none⟩) (N + 1) cap) (N + 1) (ccells l2 ++ c.cells)) (hN : l2.length = N) (hgr : (w2.alloc o).grownBy w3 v'.ownBlock) (hat : v'.ownBlock = some gg ∨ gg = w2.heap.size + 1) :
    OutIs (w3.setCell ⟨ob, 0, none⟩ (.slice (some ⟨gg, 0, none⟩) (N + 1) cap)) ob (.slice (some ⟨gg, 0, none⟩) (N + 1) cap) (l2 ++ [c]) ∧ Turned ob w v (w3.setCell ⟨ob, 0, none⟩ (.slice (some ⟨gg, 0, none⟩) (N + 1) cap)) (.slice (some ⟨gg, 0, none⟩) (N + 1) cap) ∧ Below ob w (w3.setCell ⟨ob, 0, none⟩ (.slice (some ⟨gg, 0, none⟩) (N + 1) cap)) := by
  have hO2 := (hO.below hd).below ((Below.refl _ _).alloc (Nat.le_refl _) o)
  have hs : (w2.alloc o).heap.size = w2.heap.size + 1 := by simp
  have hob := hO2.lt
  have hob1 := hO.lt
  have hdz := hd.size
  have hgz := hgr.size
  have hvb : ∀ k, v'.ownBlock = some k → ob + 1 ≤ k := fun k q => (hO2.2.lt k q).1
  have hB3 : Blk w3 ob 81 #[v'] := blk_grown hO2.1 hO2.2 hgr (Nat.lt_succ_self _)
  refine ⟨⟨?_, ?_⟩, hT.trans ⟨?_, ?_, ?_⟩, ?_⟩
  · have q := hB3.set_ 0 (.slice (some ⟨gg, 0, none⟩) (N + 1) cap)
    exact q
  · rw [ccells_snoc, List.length_append, hN]
    exact own_far hown ob (Nat.lt_succ_self _) _
  · simp only [size_setCell']
    omega
  · intro k hk h1 h2
    refine (heap_setCell_other w3 ⟨ob, 0, none⟩ k _ h1).trans ((hgr.block k (by omega) h2).trans ?_)
    exact (Below.heap_alloc w2 o k (by omega)).trans (hd.block k hk)
  · intro k hk
    simp only [Value.ownBlock, Option.some.injEq] at hk
    subst hk
    rcases hat with q | q
    · exact .inl q
    · exact .inr (by omega)
  · have h2 : Below ob w (w2.alloc o) := ((hB.trans (hd.mono (Nat.le_of_lt hob1))).alloc (by omega) o)
    exact (h2.grown hgr (by omega) (fun k q => Nat.le_of_succ_le (hvb k q))).setCell (p := ⟨ob, 0, none⟩) (Nat.le_refl _) _
theorem cellq {ob : Nat} {w1 w2 w3 : World} {v' : Value} {l2 : List P32.CV} {o : Obj} (hO : OutIs w1 ob v' l2) (hd : Below w1.heap.size w1 w2) (hgr : (w2.alloc o).grownBy w3 v'.ownBlock) : w3.cell? ⟨ob, 0, none⟩ = some v' := by
  have hO2 := (hO.below hd).below ((Below.refl _ _).alloc (Nat.le_refl _) o)
  exact ((blk_grown hO2.1 hO2.2 hgr (Nat.lt_succ_self _)).cell 0).trans rfl
theorem frozenq {ob : Nat} {w1 w2 w3 : World} {v' : Value} {l2 : List P32.CV} {o : Obj} (hO : OutIs w1 ob v' l2) (hd : Below w1.heap.size w1 w2) (hgr : (w2.alloc o).grownBy w3 v'.ownBlock) : w3.frozen? ⟨ob, 0, none⟩ = false := by
  have hO2 := (hO.below hd).below ((Below.refl _ _).alloc (Nat.le_refl _) o)
  exact (blk_grown hO2.1 hO2.2 hgr (Nat.lt_succ_self _)).frozen 0
theorem turned_cell {ob ib : Nat} {w : World} {v u : Value} (hz : w.cell? ⟨ib, 0, none⟩ = some u) (hib : ib < w.heap.size) (h1 : ib ≠ ob) (h2 : some ib ≠ v.ownBlock) : ∀ W v1, Turned ob w v W v1 → W.cell? ⟨ib, 0, none⟩ = some u ∧ ib < W.heap.size :=
  fun W v1 h => ⟨(World.cell?_of_block (h.kept ib hib h1 h2)).trans hz, Nat.lt_of_lt_of_le hib h.size⟩
/-- what each answers -/
def EachRes {α : Type} (same : α → α → Bool) (diff : α → α → Int) (mk : Nat → Int → P32.CV) (LA LB : List α) (ob : Nat) (w : World) (v : Value) (l : List P32.CV) (e : Ending) (w' : World) : Prop :=
  (P32.okAll same LA LB ∧ e = .returned (.bool true) ∧ ∃ v', OutIs w' ob v' (l ++ P32.ch diff mk LA LB LA.length) ∧ Turned ob w v w' v' ∧ Below ob w w') ∨ (¬ P32.okAll same LA LB ∧ e = .returned (.bool false) ∧ Below ob w w' ∧ ∃ v', Turned ob w v w' v')

theorem keep_each_rules {wr w1 : World} {ga oa gb oB k : Nat} {a b : RV} (h : wr.cell? ⟨ga, oa + k * 11, none⟩ = some (.string a.name) ∧ wr.cell? ⟨ga, oa + k * 11 + 1, none⟩ = some (.int .i64 a.frm) ∧ wr.cell? ⟨ga, oa + k * 11 + 2, none⟩ = some (.int .i64 a.til) ∧ wr.cell? ⟨ga, oa + k * 11 + 3, none⟩ = some (.int .i64 a.month) ∧ wr.cell? ⟨ga, oa + k * 11 + 4, none⟩ = some (.int .i64 a.dk) ∧ wr.cell? ⟨ga, oa + k * 11 + 5, none⟩ = some (.int .i64 a.dw) ∧ wr.cell? ⟨ga, oa + k * 11 + 6, none⟩ = some (.int .i64 a.dd) ∧ wr.cell? ⟨ga, oa + k * 11 + 7, none⟩ = some (.int .i64 a.asec) ∧ wr.cell? ⟨ga, oa + k * 11 + 8, none⟩ = some (.int .i64 a.abase) ∧ wr.cell? ⟨ga, oa + k * 11 + 9, none⟩ = some (.int .i64 a.save) ∧ wr.cell? ⟨ga, oa + k * 11 + 10, none⟩ = some (.string a.letter) ∧ wr.cell? ⟨gb, oB + k * 11, none⟩ = some (.string b.name) ∧ wr.cell? ⟨gb, oB + k * 11 + 1, none⟩ = some (.int .i64 b.frm) ∧ wr.cell? ⟨gb, oB + k * 11 + 2, none⟩ = some (.int .i64 b.til) ∧ wr.cell? ⟨gb, oB + k * 11 + 3, none⟩ = some (.int .i64 b.month) ∧ wr.cell? ⟨gb, oB + k * 11 + 4, none⟩ = some (.int .i64 b.dk) ∧ wr.cell? ⟨gb, oB + k * 11 + 5, none⟩ = some (.int .i64 b.dw) ∧ wr.cell? ⟨gb, oB + k * 11 + 6, none⟩ = some (.int .i64 b.dd) ∧ wr.cell? ⟨gb, oB + k * 11 + 7, none⟩ = some (.int .i64 b.asec) ∧ wr.cell? ⟨gb, oB + k * 11 + 8, none⟩ = some (.int .i64 b.abase) ∧ wr.cell? ⟨gb, oB + k * 11 + 9, none⟩ = some (.int .i64 b.save) ∧ wr.cell? ⟨gb, oB + k * 11 + 10, none⟩ = some (.string b.letter) ∧ Below wr.heap.size wr wr ∧ ga < wr.heap.size ∧ gb < wr.heap.size) (hb : Below wr.heap.size wr w1) : w1.cell? ⟨ga, oa + k * 11, none⟩ = some (.string a.name) ∧ w1.cell? ⟨ga, oa + k * 11 + 1, none⟩ = some (.int .i64 a.frm) ∧ w1.cell? ⟨ga, oa + k * 11 + 2, none⟩ = some (.int .i64 a.til) ∧ w1.cell? ⟨ga, oa + k * 11 + 3, none⟩ = some (.int .i64 a.month) ∧ w1.cell? ⟨ga, oa + k * 11 + 4, none⟩ = some (.int .i64 a.dk) ∧ w1.cell? ⟨ga, oa + k * 11 + 5, none⟩ = some (.int .i64 a.dw) ∧ w1.cell? ⟨ga, oa + k * 11 + 6, none⟩ = some (.int .i64 a.dd) ∧ w1.cell? ⟨ga, oa + k * 11 + 7, none⟩ = some (.int .i64 a.asec) ∧ w1.cell? ⟨ga, oa + k * 11 + 8, none⟩ = some (.int .i64 a.abase) ∧ w1.cell? ⟨ga, oa + k * 11 + 9, none⟩ = some (.int .i64 a.save) ∧ w1.cell? ⟨ga, oa + k * 11 + 10, none⟩ = some (.string a.letter) ∧ w1.cell? ⟨gb, oB + k * 11, none⟩ = some (.string b.name) ∧ w1.cell? ⟨gb, oB + k * 11 + 1, none⟩ = some (.int .i64 b.frm) ∧ w1.cell? ⟨gb, oB + k * 11 + 2, none⟩ = some (.int .i64 b.til) ∧ w1.cell? ⟨gb, oB + k * 11 + 3, none⟩ = some (.int .i64 b.month) ∧ w1.cell? ⟨gb, oB + k * 11 + 4, none⟩ = some (.int .i64 b.dk) ∧ w1.cell? ⟨gb, oB + k * 11 + 5, none⟩ = some (.int .i64 b.dw) ∧ w1.cell? ⟨gb, oB + k * 11 + 6, none⟩ = some (.int .i64 b.dd) ∧ w1.cell? ⟨gb, oB + k * 11 + 7, none⟩ = some (.int .i64 b.asec) ∧ w1.cell? ⟨gb, oB + k * 11 + 8, none⟩ = some (.int .i64 b.abase) ∧ w1.cell? ⟨gb, oB + k * 11 + 9, none⟩ = some (.int .i64 b.save) ∧ w1.cell? ⟨gb, oB + k * 11 + 10, none⟩ = some (.string b.letter) ∧ Below wr.heap.size wr w1 ∧ ga < wr.heap.size ∧ gb < wr.heap.size := by
  obtain ⟨h0, h1, h2, h3, h4, h5, h6, h7, h8, h9, h10, h11, h12, h13, h14, h15, h16, h17, h18, h19, h20, h21, _, hga, hgb⟩ := h
  exact ⟨(hb.cell (p := ⟨ga, oa + k * 11, none⟩) hga).trans h0, (hb.cell (p := ⟨ga, oa + k * 11 + 1, none⟩) hga).trans h1, (hb.cell (p := ⟨ga, oa + k * 11 + 2, none⟩) hga).trans h2, (hb.cell (p := ⟨ga, oa + k * 11 + 3, none⟩) hga).trans h3, (hb.cell (p := ⟨ga, oa + k * 11 + 4, none⟩) hga).trans h4, (hb.cell (p := ⟨ga, oa + k * 11 + 5, none⟩) hga).trans h5, (hb.cell (p := ⟨ga, oa + k * 11 + 6, none⟩) hga).trans h6, (hb.cell (p := ⟨ga, oa + k * 11 + 7, none⟩) hga).trans h7, (hb.cell (p := ⟨ga, oa + k * 11 + 8, none⟩) hga).trans h8, (hb.cell (p := ⟨ga, oa + k * 11 + 9, none⟩) hga).trans h9, (hb.cell (p := ⟨ga, oa + k * 11 + 10, none⟩) hga).trans h10, (hb.cell (p := ⟨gb, oB + k * 11, none⟩) hgb).trans h11, (hb.cell (p := ⟨gb, oB + k * 11 + 1, none⟩) hgb).trans h12, (hb.cell (p := ⟨gb, oB + k * 11 + 2, none⟩) hgb).trans h13, (hb.cell (p := ⟨gb, oB + k * 11 + 3, none⟩) hgb).trans h14, (hb.cell (p := ⟨gb, oB + k * 11 + 4, none⟩) hgb).trans h15, (hb.cell (p := ⟨gb, oB + k * 11 + 5, none⟩) hgb).trans h16, (hb.cell (p := ⟨gb, oB + k * 11 + 6, none⟩) hgb).trans h17, (hb.cell (p := ⟨gb, oB + k * 11 + 7, none⟩) hgb).trans h18, (hb.cell (p := ⟨gb, oB + k * 11 + 8, none⟩) hgb).trans h19, (hb.cell (p := ⟨gb, oB + k * 11 + 9, none⟩) hgb).trans h20, (hb.cell (p := ⟨gb, oB + k * 11 + 10, none⟩) hgb).trans h21, hb, hga, hgb⟩
set_option maxRecDepth 100000 in
set_option maxHeartbeats 8000000 in
theorem each_rules (A B : Option Addr) (ca cb : Nat) (LA LB : List RV) (ob : Nat) (v : Value) (l : List P32.CV) (w0 w : World) (hA : CellsIn 11 RV.cells w0 A LA) (hB : CellsIn 11 RV.cells w0 B LB) (h0 : Below w0.heap.size w0 w) (hle : w0.heap.size ≤ ob) (hO : OutIs w ob v l) (hlen : LA.length ≤ 1000) (hlen2 : l.length ≤ 100000) (hlenB : LB.length ≤ maxLen) :
    Calls Tryd.prog 72 #[.slice A LA.length ca, .slice B LB.length cb, .func (.func 73) #[] #[], .func (.func 74) #[] #[], .pointer (some ⟨ob, 0, none⟩)] w (EachRes P32.sameR P32.diffR P32.mkR LA LB ob w v l) := by
  unfold maxLen at hlenB
  by_cases hnn : LA.length = LB.length
  rotate_left
  · have hb : ((LA.length : Int) != (LB.length : Int)) = true := by rw [bne_iff_ne]; omega
    have hR : EachRes P32.sameR P32.diffR P32.mkR LA LB ob w v l (.returned (.bool false)) w := .inr ⟨fun q => hnn q.1, rfl, Below.refl _ _, v, Turned.refl _ _ _⟩
    have HR := Lib.hid hR
    clear hR hA hB h0 hle hO hnn
    go_enter Tryd.func72, Tryd.ntmps72
    go_wp2_with fail
    go_ret
    exact HR.out
  have hnb : ((LA.length : Int) != (LB.length : Int)) = false := by rw [bne_eq_false_iff_eq]; omega
  have HNN := Lib.hid hnn
  have HA := Lib.hid hA; have HB := Lib.hid hB; have H0 := Lib.hid h0; have HLE := Lib.hid hle
  have hli : (LA.length : Int) ≤ 1000 := by omega
  have HOL := Lib.hid hO.lt
  clear hnn hA hB h0 hle
  go_enter Tryd.func72, Tryd.ntmps72
  go_wp2_with fail
  go_loopw [21] (fun i wr => ∃ (k : Nat) (v' : Value), k ≤ LA.length ∧ i = .int .i64 k ∧ OutIs wr ob v' (l ++ P32.ch P32.diffR P32.mkR LA LB k) ∧ Turned ob w v wr v' ∧ Below ob w wr ∧ Hid (P32.okTo P32.sameR LA LB k)) (fun i _ => LA.length - (intOf i).toNat)
  case atStart => exact ⟨0, v, Nat.zero_le _, rfl, by rw [P32.ch_zero, List.append_nil]; exact hO, Turned.refl _ _ _, Below.refl _ _, Lib.hid (P32.okTo_zero _ _ _)⟩
  case round =>
    clear hO
    obtain ⟨k, v', hk, rfl, hO, hT, hb, hok⟩ := hrel
    have hw0 := H0.out.trans (hb.mono HLE.out)
    by_cases hlt : k < LA.length
    · obtain ⟨a, ha⟩ : ∃ a, LA[k]? = some a := ⟨_, List.getElem?_eq_getElem hlt⟩
      obtain ⟨b, hbk⟩ : ∃ b, LB[k]? = some b := ⟨_, List.getElem?_eq_getElem (by have := HNN.out; omega)⟩
      obtain ⟨ga, oa, rfl, hga, hat⟩ := (HA.out.below hw0) k a ha
      obtain ⟨gb, oB, rfl, hgb, hbt⟩ := (HB.out.below hw0) k b hbk
      have HAT := Lib.hid hat; have HBT := Lib.hid hbt
      have HAK := Lib.hid ha; have HBK := Lib.hid hbk
      have HO := Lib.hid hO; have HT := Lib.hid hT; have HB0 := Lib.hid hb; have HW0 := Lib.hid hw0
      have hki : (k : Int) < (LA.length : Int) := by omega
      have hki2 : (k : Int) < (LB.length : Int) := by have := HNN.out; omega
      have hk0 : (0 : Int) ≤ (k : Int) := by omega
      clear hat hbt ha hbk hO hT hb hw0
      obtain ⟨D, hD⟩ : ∃ D, P32.diffR a b = D := ⟨_, rfl⟩
      obtain ⟨SS, hSS⟩ : ∃ SS, P32.sameR a b = SS := ⟨_, rfl⟩
      have HD := Lib.hid hD; have HSS := Lib.hid hSS
      have cR : Hid (∀ W, Calls Tryd.prog 73 #[.agg #[.string a.name, .int .i64 a.frm, .int .i64 a.til, .int .i64 a.month, .int .i64 a.dk, .int .i64 a.dw, .int .i64 a.dd, .int .i64 a.asec, .int .i64 a.abase, .int .i64 a.save, .string a.letter], .agg #[.string b.name, .int .i64 b.frm, .int .i64 b.til, .int .i64 b.month, .int .i64 b.dk, .int .i64 b.dw, .int .i64 b.dd, .int .i64 b.asec, .int .i64 b.abase, .int .i64 b.save, .string b.letter]] W fun e w' => e = .returned (.tuple #[.int .i64 D, .bool SS]) ∧ Below W.heap.size W w') := Lib.hid (fun W => by have q := rules_any a.name a.frm a.til a.month a.dk a.dw a.dd a.asec a.abase a.save a.letter b.name b.frm b.til b.month b.dk b.dw b.dd b.asec b.abase b.save b.letter D hD W; rw [← hSS]; exact q)
      clear hD hSS
      have HS : Hid (wr.cell? ⟨ga, oa + k * 11, none⟩ = some (.string a.name) ∧ wr.cell? ⟨ga, oa + k * 11 + 1, none⟩ = some (.int .i64 a.frm) ∧ wr.cell? ⟨ga, oa + k * 11 + 2, none⟩ = some (.int .i64 a.til) ∧ wr.cell? ⟨ga, oa + k * 11 + 3, none⟩ = some (.int .i64 a.month) ∧ wr.cell? ⟨ga, oa + k * 11 + 4, none⟩ = some (.int .i64 a.dk) ∧ wr.cell? ⟨ga, oa + k * 11 + 5, none⟩ = some (.int .i64 a.dw) ∧ wr.cell? ⟨ga, oa + k * 11 + 6, none⟩ = some (.int .i64 a.dd) ∧ wr.cell? ⟨ga, oa + k * 11 + 7, none⟩ = some (.int .i64 a.asec) ∧ wr.cell? ⟨ga, oa + k * 11 + 8, none⟩ = some (.int .i64 a.abase) ∧ wr.cell? ⟨ga, oa + k * 11 + 9, none⟩ = some (.int .i64 a.save) ∧ wr.cell? ⟨ga, oa + k * 11 + 10, none⟩ = some (.string a.letter) ∧ wr.cell? ⟨gb, oB + k * 11, none⟩ = some (.string b.name) ∧ wr.cell? ⟨gb, oB + k * 11 + 1, none⟩ = some (.int .i64 b.frm) ∧ wr.cell? ⟨gb, oB + k * 11 + 2, none⟩ = some (.int .i64 b.til) ∧ wr.cell? ⟨gb, oB + k * 11 + 3, none⟩ = some (.int .i64 b.month) ∧ wr.cell? ⟨gb, oB + k * 11 + 4, none⟩ = some (.int .i64 b.dk) ∧ wr.cell? ⟨gb, oB + k * 11 + 5, none⟩ = some (.int .i64 b.dw) ∧ wr.cell? ⟨gb, oB + k * 11 + 6, none⟩ = some (.int .i64 b.dd) ∧ wr.cell? ⟨gb, oB + k * 11 + 7, none⟩ = some (.int .i64 b.asec) ∧ wr.cell? ⟨gb, oB + k * 11 + 8, none⟩ = some (.int .i64 b.abase) ∧ wr.cell? ⟨gb, oB + k * 11 + 9, none⟩ = some (.int .i64 b.save) ∧ wr.cell? ⟨gb, oB + k * 11 + 10, none⟩ = some (.string b.letter) ∧ Below wr.heap.size wr wr ∧ ga < wr.heap.size ∧ gb < wr.heap.size) := Lib.hid ⟨HAT.out 0 _ rfl, HAT.out 1 _ rfl, HAT.out 2 _ rfl, HAT.out 3 _ rfl, HAT.out 4 _ rfl, HAT.out 5 _ rfl, HAT.out 6 _ rfl, HAT.out 7 _ rfl, HAT.out 8 _ rfl, HAT.out 9 _ rfl, HAT.out 10 _ rfl, HBT.out 0 _ rfl, HBT.out 1 _ rfl, HBT.out 2 _ rfl, HBT.out 3 _ rfl, HBT.out 4 _ rfl, HBT.out 5 _ rfl, HBT.out 6 _ rfl, HBT.out 7 _ rfl, HBT.out 8 _ rfl, HBT.out 9 _ rfl, HBT.out 10 _ rfl, Below.refl _ _, hga, hgb⟩
      clear HAT HBT
      go_wp2_with fail
      go_region_held3 (fun W => W.cell? ⟨ga, oa + k * 11, none⟩ = some (.string a.name) ∧ W.cell? ⟨ga, oa + k * 11 + 1, none⟩ = some (.int .i64 a.frm) ∧ W.cell? ⟨ga, oa + k * 11 + 2, none⟩ = some (.int .i64 a.til) ∧ W.cell? ⟨ga, oa + k * 11 + 3, none⟩ = some (.int .i64 a.month) ∧ W.cell? ⟨ga, oa + k * 11 + 4, none⟩ = some (.int .i64 a.dk) ∧ W.cell? ⟨ga, oa + k * 11 + 5, none⟩ = some (.int .i64 a.dw) ∧ W.cell? ⟨ga, oa + k * 11 + 6, none⟩ = some (.int .i64 a.dd) ∧ W.cell? ⟨ga, oa + k * 11 + 7, none⟩ = some (.int .i64 a.asec) ∧ W.cell? ⟨ga, oa + k * 11 + 8, none⟩ = some (.int .i64 a.abase) ∧ W.cell? ⟨ga, oa + k * 11 + 9, none⟩ = some (.int .i64 a.save) ∧ W.cell? ⟨ga, oa + k * 11 + 10, none⟩ = some (.string a.letter) ∧ W.cell? ⟨gb, oB + k * 11, none⟩ = some (.string b.name) ∧ W.cell? ⟨gb, oB + k * 11 + 1, none⟩ = some (.int .i64 b.frm) ∧ W.cell? ⟨gb, oB + k * 11 + 2, none⟩ = some (.int .i64 b.til) ∧ W.cell? ⟨gb, oB + k * 11 + 3, none⟩ = some (.int .i64 b.month) ∧ W.cell? ⟨gb, oB + k * 11 + 4, none⟩ = some (.int .i64 b.dk) ∧ W.cell? ⟨gb, oB + k * 11 + 5, none⟩ = some (.int .i64 b.dw) ∧ W.cell? ⟨gb, oB + k * 11 + 6, none⟩ = some (.int .i64 b.dd) ∧ W.cell? ⟨gb, oB + k * 11 + 7, none⟩ = some (.int .i64 b.asec) ∧ W.cell? ⟨gb, oB + k * 11 + 8, none⟩ = some (.int .i64 b.abase) ∧ W.cell? ⟨gb, oB + k * 11 + 9, none⟩ = some (.int .i64 b.save) ∧ W.cell? ⟨gb, oB + k * 11 + 10, none⟩ = some (.string b.letter) ∧ Below wr.heap.size wr W ∧ ga < wr.heap.size ∧ gb < wr.heap.size) (first | exact HS.out | exact keep_each_rules HS.out hc2 | exact keep_each_rules HS.out ((Below.refl _ _).drew) | assumption) ((go_at_call 73; refine (cR.out _).mono ?_; rintro en w1 ⟨rfl, hc⟩; have hc2 : Below wr.heap.size wr w1 := (Below.refl wr.heap.size wr).drew.trans hc; clear hc))
      rename_i hKeep
      clear hKeep
      have HO1 := Lib.hid (HO.out.below hc2); have HT1 := Lib.hid (HT.out.below hc2); have HB1 := Lib.hid (HB0.out.trans (hc2.mono (Nat.le_trans (Nat.le_of_lt HOL.out) HB0.out.size)))
      clear hc2 HS HO HT HB0 HW0 cR
      cases SS with
      | false =>
        have HR : Hid (EachRes P32.sameR P32.diffR P32.mkR LA LB ob w v l (.returned (.bool false)) w1) := Lib.hid (.inr ⟨P32.okAll_not HAK.out HBK.out HSS.out, rfl, HB1.out, _, HT1.out⟩)
        clear HO1 HT1 HB1 HAK HBK HSS HD hok
        go_wp2_with fail
        go_ret
        exact HR.out
      | true =>
        have HOK := Lib.hid (P32.okTo_succ hok.out HAK.out HBK.out HSS.out)
        have HCH := Lib.hid (P32.ch_succ P32.diffR P32.mkR LA LB k a b HAK.out HBK.out)
        by_cases hz : D = 0
        · have hzb : (D != 0) = false := by simp [hz]
          have HO2 : Hid (OutIs w1 ob v' (l ++ P32.ch P32.diffR P32.mkR LA LB (k + 1))) := Lib.hid (by rw [HCH.out, if_pos (HD.out.trans hz), List.append_nil]; exact HO1.out)
          clear hz HO1 HAK HBK HSS HD hok HCH
          go_wp2_with fail
          go_roundw
          case rel => exact ⟨k + 1, v', by omega, by go_num, HO2.out, HT1.out, HB1.out, HOK⟩
          case measure => simp [intOf]; omega
        · have hzb : (D != 0) = true := by simp [hz]
          have HLS : Hid (l ++ P32.ch P32.diffR P32.mkR LA LB (k + 1) = (l ++ P32.ch P32.diffR P32.mkR LA LB k) ++ [P32.mkR k D]) := Lib.hid (by rw [HCH.out, if_neg (by rw [HD.out]; exact hz), HD.out, ← List.append_assoc])
          have hcl := P32.ch_len P32.diffR P32.mkR LA LB k
          obtain ⟨N, hN⟩ : ∃ N, (l ++ P32.ch P32.diffR P32.mkR LA LB k).length = N := ⟨_, rfl⟩
          have hN1 : N ≤ 101000 := by rw [← hN, List.length_append]; omega
          have HN := Lib.hid hN
          clear hN hcl hz HAK HBK HSS HD hok HCH
          have b0 : w1.cell? ⟨ob, 0, none⟩ = some v' := (HO1.out.1.cell 0).trans rfl
          have b1 : w1.frozen? ⟨ob, 0, none⟩ = false := HO1.out.1.frozen 0
          obtain ⟨i0, hi, hz0, hz1, hz2⟩ := info_parts infoChange
          have HO2 : Hid (∀ W, Below w1.heap.size w1 W → W.ownsRow (ob + 1) 87 4 v' N (ccells (l ++ P32.ch P32.diffR P32.mkR LA LB k))) := Lib.hid (fun W h => by have q := (HO1.out.below h).2; rw [HN.out] at q; exact q)
          go_wp2_with fail
          go_region_law (first | (refine step_append_lies _ (by rfl) _ _ _ (by rfl) (ob + 1) 87 i0 _ 4 32 Tryd.underlying81 hi hz0 hz1 hz2 rfl (by omega) v' N (ccells (l ++ P32.ch P32.diffR P32.mkR LA LB k)) (by rfl) ((HO2.out _ hd2).alloc _) ⟨w2.heap.size, 0, none⟩ 1 1 (P32.mkR k D).cells (by rfl) (by rfl) (blk_cells (Blk.new w2 _ #[.int .i64 1, .int .i64 k, .int .i64 0, .int .i64 D])) (by simp [P32.mkR, P32.CV.cells, Value.oneCell']) (by omega) (by simp only [maxLen]; omega) (by omega) (by have := HO1.out.lt; have := hd2.size; simp; omega) (w2.heap.size + 1) (by simp) ?_; intro gg cap w3 hown hgr hat hlt3; have c0 : w3.cell? ⟨ob, 0, none⟩ = some v' := cellq HO1.out hd2 hgr; have c1 : w3.frozen? ⟨ob, 0, none⟩ = false := frozenq HO1.out hd2 hgr) | (go_simp; go_at_call 74; refine (place1_any _ _).mono ?_; rintro en w2 ⟨rfl, hd⟩; have hd2 : Below w1.heap.size w1 w2 := (Below.refl w1.heap.size w1).drew.trans hd; have e0 : w2.cell? ⟨ob, 0, none⟩ = some v' := (hd2.cell (p := ⟨ob, 0, none⟩) HO1.out.lt).trans b0; have e1 : ob < w2.heap.size := Nat.lt_of_lt_of_le HO1.out.lt hd2.size; clear hd))
          all_goals
            have hfin := out_step (c := P32.mkR k D) _ HO1.out HT1.out HB1.out hd2 hown HN.out hgr hat
            rw [show (l ++ P32.ch P32.diffR P32.mkR LA LB k) ++ [P32.mkR k D] = l ++ P32.ch P32.diffR P32.mkR LA LB (k + 1) from HLS.out.symm] at hfin
            have HFIN := Lib.hid hfin
            clear hfin b0 b1 c0 c1 e0 e1 hd2 hown hgr hat hlt3 HO1 HT1 HB1 HO2 HN HLS hi hz0 hz1 hz2
            go_wp2_with fail
            go_roundw
            case rel => exact ⟨k + 1, _, by omega, by go_num, HFIN.out.1, HFIN.out.2.1, HFIN.out.2.2, HOK⟩
            case measure => simp [intOf]; omega
    · obtain rfl : k = LA.length := by omega
      have hki : ¬ (LA.length : Int) < (LA.length : Int) := by omega
      have HR : Hid (EachRes P32.sameR P32.diffR P32.mkR LA LB ob w v l (.returned (.bool true)) wr) := Lib.hid (.inl ⟨⟨HNN.out, hok.out⟩, rfl, v', hO, hT, hb⟩)
      clear hO hT hb hok hw0
      go_wp2_with fail
      go_ret
      exact HR.out
theorem keep_each_eras {wr w1 : World} {ga oa gb oB k : Nat} {a b : EV} (h : wr.cell? ⟨ga, oa + k * 13, none⟩ = some (.int .i64 a.off) ∧ wr.cell? ⟨ga, oa + k * 13 + 1, none⟩ = some (.int .i64 a.kind) ∧ wr.cell? ⟨ga, oa + k * 13 + 2, none⟩ = some (.int .i64 a.save) ∧ wr.cell? ⟨ga, oa + k * 13 + 3, none⟩ = some (.string a.set) ∧ wr.cell? ⟨ga, oa + k * 13 + 4, none⟩ = some (.string a.fmt) ∧ wr.cell? ⟨ga, oa + k * 13 + 5, none⟩ = some (.bool a.ui) ∧ wr.cell? ⟨ga, oa + k * 13 + 6, none⟩ = some (.int .i64 a.uy) ∧ wr.cell? ⟨ga, oa + k * 13 + 7, none⟩ = some (.int .i64 a.um) ∧ wr.cell? ⟨ga, oa + k * 13 + 8, none⟩ = some (.int .i64 a.dk) ∧ wr.cell? ⟨ga, oa + k * 13 + 9, none⟩ = some (.int .i64 a.dw) ∧ wr.cell? ⟨ga, oa + k * 13 + 10, none⟩ = some (.int .i64 a.dd) ∧ wr.cell? ⟨ga, oa + k * 13 + 11, none⟩ = some (.int .i64 a.asec) ∧ wr.cell? ⟨ga, oa + k * 13 + 12, none⟩ = some (.int .i64 a.ab) ∧ wr.cell? ⟨gb, oB + k * 13, none⟩ = some (.int .i64 b.off) ∧ wr.cell? ⟨gb, oB + k * 13 + 1, none⟩ = some (.int .i64 b.kind) ∧ wr.cell? ⟨gb, oB + k * 13 + 2, none⟩ = some (.int .i64 b.save) ∧ wr.cell? ⟨gb, oB + k * 13 + 3, none⟩ = some (.string b.set) ∧ wr.cell? ⟨gb, oB + k * 13 + 4, none⟩ = some (.string b.fmt) ∧ wr.cell? ⟨gb, oB + k * 13 + 5, none⟩ = some (.bool b.ui) ∧ wr.cell? ⟨gb, oB + k * 13 + 6, none⟩ = some (.int .i64 b.uy) ∧ wr.cell? ⟨gb, oB + k * 13 + 7, none⟩ = some (.int .i64 b.um) ∧ wr.cell? ⟨gb, oB + k * 13 + 8, none⟩ = some (.int .i64 b.dk) ∧ wr.cell? ⟨gb, oB + k * 13 + 9, none⟩ = some (.int .i64 b.dw) ∧ wr.cell? ⟨gb, oB + k * 13 + 10, none⟩ = some (.int .i64 b.dd) ∧ wr.cell? ⟨gb, oB + k * 13 + 11, none⟩ = some (.int .i64 b.asec) ∧ wr.cell? ⟨gb, oB + k * 13 + 12, none⟩ = some (.int .i64 b.ab) ∧ Below wr.heap.size wr wr ∧ ga < wr.heap.size ∧ gb < wr.heap.size) (hb : Below wr.heap.size wr w1) : w1.cell? ⟨ga, oa + k * 13, none⟩ = some (.int .i64 a.off) ∧ w1.cell? ⟨ga, oa + k * 13 + 1, none⟩ = some (.int .i64 a.kind) ∧ w1.cell? ⟨ga, oa + k * 13 + 2, none⟩ = some (.int .i64 a.save) ∧ w1.cell? ⟨ga, oa + k * 13 + 3, none⟩ = some (.string a.set) ∧ w1.cell? ⟨ga, oa + k * 13 + 4, none⟩ = some (.string a.fmt) ∧ w1.cell? ⟨ga, oa + k * 13 + 5, none⟩ = some (.bool a.ui) ∧ w1.cell? ⟨ga, oa + k * 13 + 6, none⟩ = some (.int .i64 a.uy) ∧ w1.cell? ⟨ga, oa + k * 13 + 7, none⟩ = some (.int .i64 a.um) ∧ w1.cell? ⟨ga, oa + k * 13 + 8, none⟩ = some (.int .i64 a.dk) ∧ w1.cell? ⟨ga, oa + k * 13 + 9, none⟩ = some (.int .i64 a.dw) ∧ w1.cell? ⟨ga, oa + k * 13 + 10, none⟩ = some (.int .i64 a.dd) ∧ w1.cell? ⟨ga, oa + k * 13 + 11, none⟩ = some (.int .i64 a.asec) ∧ w1.cell? ⟨ga, oa + k * 13 + 12, none⟩ = some (.int .i64 a.ab) ∧ w1.cell? ⟨gb, oB + k * 13, none⟩ = some (.int .i64 b.off) ∧ w1.cell? ⟨gb, oB + k * 13 + 1, none⟩ = some (.int .i64 b.kind) ∧ w1.cell? ⟨gb, oB + k * 13 + 2, none⟩ = some (.int .i64 b.save) ∧ w1.cell? ⟨gb, oB + k * 13 + 3, none⟩ = some (.string b.set) ∧ w1.cell? ⟨gb, oB + k * 13 + 4, none⟩ = some (.string b.fmt) ∧ w1.cell? ⟨gb, oB + k * 13 + 5, none⟩ = some (.bool b.ui) ∧ w1.cell? ⟨gb, oB + k * 13 + 6, none⟩ = some (.int .i64 b.uy) ∧ w1.cell? ⟨gb, oB + k * 13 + 7, none⟩ = some (.int .i64 b.um) ∧ w1.cell? ⟨gb, oB + k * 13 + 8, none⟩ = some (.int .i64 b.dk) ∧ w1.cell? ⟨gb, oB + k * 13 + 9, none⟩ = some (.int .i64 b.dw) ∧ w1.cell? ⟨gb, oB + k * 13 + 10, none⟩ = some (.int .i64 b.dd) ∧ w1.cell? ⟨gb, oB + k * 13 + 11, none⟩ = some (.int .i64 b.asec) ∧ w1.cell? ⟨gb, oB + k * 13 + 12, none⟩ = some (.int .i64 b.ab) ∧ Below wr.heap.size wr w1 ∧ ga < wr.heap.size ∧ gb < wr.heap.size := by
  obtain ⟨h0, h1, h2, h3, h4, h5, h6, h7, h8, h9, h10, h11, h12, h13, h14, h15, h16, h17, h18, h19, h20, h21, h22, h23, h24, h25, _, hga, hgb⟩ := h
  exact ⟨(hb.cell (p := ⟨ga, oa + k * 13, none⟩) hga).trans h0, (hb.cell (p := ⟨ga, oa + k * 13 + 1, none⟩) hga).trans h1, (hb.cell (p := ⟨ga, oa + k * 13 + 2, none⟩) hga).trans h2, (hb.cell (p := ⟨ga, oa + k * 13 + 3, none⟩) hga).trans h3, (hb.cell (p := ⟨ga, oa + k * 13 + 4, none⟩) hga).trans h4, (hb.cell (p := ⟨ga, oa + k * 13 + 5, none⟩) hga).trans h5, (hb.cell (p := ⟨ga, oa + k * 13 + 6, none⟩) hga).trans h6, (hb.cell (p := ⟨ga, oa + k * 13 + 7, none⟩) hga).trans h7, (hb.cell (p := ⟨ga, oa + k * 13 + 8, none⟩) hga).trans h8, (hb.cell (p := ⟨ga, oa + k * 13 + 9, none⟩) hga).trans h9, (hb.cell (p := ⟨ga, oa + k * 13 + 10, none⟩) hga).trans h10, (hb.cell (p := ⟨ga, oa + k * 13 + 11, none⟩) hga).trans h11, (hb.cell (p := ⟨ga, oa + k * 13 + 12, none⟩) hga).trans h12, (hb.cell (p := ⟨gb, oB + k * 13, none⟩) hgb).trans h13, (hb.cell (p := ⟨gb, oB + k * 13 + 1, none⟩) hgb).trans h14, (hb.cell (p := ⟨gb, oB + k * 13 + 2, none⟩) hgb).trans h15, (hb.cell (p := ⟨gb, oB + k * 13 + 3, none⟩) hgb).trans h16, (hb.cell (p := ⟨gb, oB + k * 13 + 4, none⟩) hgb).trans h17, (hb.cell (p := ⟨gb, oB + k * 13 + 5, none⟩) hgb).trans h18, (hb.cell (p := ⟨gb, oB + k * 13 + 6, none⟩) hgb).trans h19, (hb.cell (p := ⟨gb, oB + k * 13 + 7, none⟩) hgb).trans h20, (hb.cell (p := ⟨gb, oB + k * 13 + 8, none⟩) hgb).trans h21, (hb.cell (p := ⟨gb, oB + k * 13 + 9, none⟩) hgb).trans h22, (hb.cell (p := ⟨gb, oB + k * 13 + 10, none⟩) hgb).trans h23, (hb.cell (p := ⟨gb, oB + k * 13 + 11, none⟩) hgb).trans h24, (hb.cell (p := ⟨gb, oB + k * 13 + 12, none⟩) hgb).trans h25, hb, hga, hgb⟩
set_option maxRecDepth 100000 in
set_option maxHeartbeats 8000000 in
theorem each_eras (A B : Option Addr) (ca cb : Nat) (LA LB : List EV) (ob : Nat) (v : Value) (l : List P32.CV) (w0 w : World) (zi ib : Nat) (hz : w.cell? ⟨ib, 0, none⟩ = some (.int .i64 zi)) (hib : ib < w.heap.size) (hi1 : ib ≠ ob) (hi2 : some ib ≠ v.ownBlock) (hA : CellsIn 13 EV.cells w0 A LA) (hB : CellsIn 13 EV.cells w0 B LB) (h0 : Below w0.heap.size w0 w) (hle : w0.heap.size ≤ ob) (hO : OutIs w ob v l) (hlen : LA.length ≤ 1000) (hlen2 : l.length ≤ 100000) (hlenB : LB.length ≤ maxLen) :
    Calls Tryd.prog 75 #[.slice A LA.length ca, .slice B LB.length cb, .func (.func 76) #[] #[], .func (.func 77) #[] #[.pointer (some ⟨ib, 0, none⟩)], .pointer (some ⟨ob, 0, none⟩)] w (EachRes P32.sameE P32.diffE (P32.mkE zi) LA LB ob w v l) := by
  unfold maxLen at hlenB
  have HZ := Lib.hid (turned_cell hz hib hi1 hi2); clear hz hib hi1 hi2
  by_cases hnn : LA.length = LB.length
  rotate_left
  · have hb : ((LA.length : Int) != (LB.length : Int)) = true := by rw [bne_iff_ne]; omega
    have hR : EachRes P32.sameE P32.diffE (P32.mkE zi) LA LB ob w v l (.returned (.bool false)) w := .inr ⟨fun q => hnn q.1, rfl, Below.refl _ _, v, Turned.refl _ _ _⟩
    have HR := Lib.hid hR
    clear hR hA hB h0 hle hO hnn
    go_enter Tryd.func75, Tryd.ntmps75
    go_wp2_with fail
    go_ret
    exact HR.out
  have hnb : ((LA.length : Int) != (LB.length : Int)) = false := by rw [bne_eq_false_iff_eq]; omega
  have HNN := Lib.hid hnn
  have HA := Lib.hid hA; have HB := Lib.hid hB; have H0 := Lib.hid h0; have HLE := Lib.hid hle
  have hli : (LA.length : Int) ≤ 1000 := by omega
  have HOL := Lib.hid hO.lt
  clear hnn hA hB h0 hle
  go_enter Tryd.func75, Tryd.ntmps75
  go_wp2_with fail
  go_loopw [21] (fun i wr => ∃ (k : Nat) (v' : Value), k ≤ LA.length ∧ i = .int .i64 k ∧ OutIs wr ob v' (l ++ P32.ch P32.diffE (P32.mkE zi) LA LB k) ∧ Turned ob w v wr v' ∧ Below ob w wr ∧ Hid (P32.okTo P32.sameE LA LB k)) (fun i _ => LA.length - (intOf i).toNat)
  case atStart => exact ⟨0, v, Nat.zero_le _, rfl, by rw [P32.ch_zero, List.append_nil]; exact hO, Turned.refl _ _ _, Below.refl _ _, Lib.hid (P32.okTo_zero _ _ _)⟩
  case round =>
    clear hO
    obtain ⟨k, v', hk, rfl, hO, hT, hb, hok⟩ := hrel
    have hw0 := H0.out.trans (hb.mono HLE.out)
    by_cases hlt : k < LA.length
    · obtain ⟨a, ha⟩ : ∃ a, LA[k]? = some a := ⟨_, List.getElem?_eq_getElem hlt⟩
      obtain ⟨b, hbk⟩ : ∃ b, LB[k]? = some b := ⟨_, List.getElem?_eq_getElem (by have := HNN.out; omega)⟩
      obtain ⟨ga, oa, rfl, hga, hat⟩ := (HA.out.below hw0) k a ha
      obtain ⟨gb, oB, rfl, hgb, hbt⟩ := (HB.out.below hw0) k b hbk
      have HAT := Lib.hid hat; have HBT := Lib.hid hbt
      have HAK := Lib.hid ha; have HBK := Lib.hid hbk
      have HO := Lib.hid hO; have HT := Lib.hid hT; have HB0 := Lib.hid hb; have HW0 := Lib.hid hw0
      have hki : (k : Int) < (LA.length : Int) := by omega
      have hki2 : (k : Int) < (LB.length : Int) := by have := HNN.out; omega
      have hk0 : (0 : Int) ≤ (k : Int) := by omega
      clear hat hbt ha hbk hO hT hb hw0
      obtain ⟨D, hD⟩ : ∃ D, P32.diffE a b = D := ⟨_, rfl⟩
      obtain ⟨SS, hSS⟩ : ∃ SS, P32.sameE a b = SS := ⟨_, rfl⟩
      have HD := Lib.hid hD; have HSS := Lib.hid hSS
      have cR : Hid (∀ W, Calls Tryd.prog 76 #[.agg #[.int .i64 a.off, .int .i64 a.kind, .int .i64 a.save, .string a.set, .string a.fmt, .bool a.ui, .int .i64 a.uy, .int .i64 a.um, .int .i64 a.dk, .int .i64 a.dw, .int .i64 a.dd, .int .i64 a.asec, .int .i64 a.ab], .agg #[.int .i64 b.off, .int .i64 b.kind, .int .i64 b.save, .string b.set, .string b.fmt, .bool b.ui, .int .i64 b.uy, .int .i64 b.um, .int .i64 b.dk, .int .i64 b.dw, .int .i64 b.dd, .int .i64 b.asec, .int .i64 b.ab]] W fun e w' => e = .returned (.tuple #[.int .i64 D, .bool SS]) ∧ Below W.heap.size W w') := Lib.hid (fun W => by have q := eras_any a.off a.kind a.save a.set a.fmt a.ui a.uy a.um a.dk a.dw a.dd a.asec a.ab b.off b.kind b.save b.set b.fmt b.ui b.uy b.um b.dk b.dw b.dd b.asec b.ab D hD W; rw [← hSS]; exact q)
      clear hD hSS
      have HS : Hid (wr.cell? ⟨ga, oa + k * 13, none⟩ = some (.int .i64 a.off) ∧ wr.cell? ⟨ga, oa + k * 13 + 1, none⟩ = some (.int .i64 a.kind) ∧ wr.cell? ⟨ga, oa + k * 13 + 2, none⟩ = some (.int .i64 a.save) ∧ wr.cell? ⟨ga, oa + k * 13 + 3, none⟩ = some (.string a.set) ∧ wr.cell? ⟨ga, oa + k * 13 + 4, none⟩ = some (.string a.fmt) ∧ wr.cell? ⟨ga, oa + k * 13 + 5, none⟩ = some (.bool a.ui) ∧ wr.cell? ⟨ga, oa + k * 13 + 6, none⟩ = some (.int .i64 a.uy) ∧ wr.cell? ⟨ga, oa + k * 13 + 7, none⟩ = some (.int .i64 a.um) ∧ wr.cell? ⟨ga, oa + k * 13 + 8, none⟩ = some (.int .i64 a.dk) ∧ wr.cell? ⟨ga, oa + k * 13 + 9, none⟩ = some (.int .i64 a.dw) ∧ wr.cell? ⟨ga, oa + k * 13 + 10, none⟩ = some (.int .i64 a.dd) ∧ wr.cell? ⟨ga, oa + k * 13 + 11, none⟩ = some (.int .i64 a.asec) ∧ wr.cell? ⟨ga, oa + k * 13 + 12, none⟩ = some (.int .i64 a.ab) ∧ wr.cell? ⟨gb, oB + k * 13, none⟩ = some (.int .i64 b.off) ∧ wr.cell? ⟨gb, oB + k * 13 + 1, none⟩ = some (.int .i64 b.kind) ∧ wr.cell? ⟨gb, oB + k * 13 + 2, none⟩ = some (.int .i64 b.save) ∧ wr.cell? ⟨gb, oB + k * 13 + 3, none⟩ = some (.string b.set) ∧ wr.cell? ⟨gb, oB + k * 13 + 4, none⟩ = some (.string b.fmt) ∧ wr.cell? ⟨gb, oB + k * 13 + 5, none⟩ = some (.bool b.ui) ∧ wr.cell? ⟨gb, oB + k * 13 + 6, none⟩ = some (.int .i64 b.uy) ∧ wr.cell? ⟨gb, oB + k * 13 + 7, none⟩ = some (.int .i64 b.um) ∧ wr.cell? ⟨gb, oB + k * 13 + 8, none⟩ = some (.int .i64 b.dk) ∧ wr.cell? ⟨gb, oB + k * 13 + 9, none⟩ = some (.int .i64 b.dw) ∧ wr.cell? ⟨gb, oB + k * 13 + 10, none⟩ = some (.int .i64 b.dd) ∧ wr.cell? ⟨gb, oB + k * 13 + 11, none⟩ = some (.int .i64 b.asec) ∧ wr.cell? ⟨gb, oB + k * 13 + 12, none⟩ = some (.int .i64 b.ab) ∧ Below wr.heap.size wr wr ∧ ga < wr.heap.size ∧ gb < wr.heap.size) := Lib.hid ⟨HAT.out 0 _ rfl, HAT.out 1 _ rfl, HAT.out 2 _ rfl, HAT.out 3 _ rfl, HAT.out 4 _ rfl, HAT.out 5 _ rfl, HAT.out 6 _ rfl, HAT.out 7 _ rfl, HAT.out 8 _ rfl, HAT.out 9 _ rfl, HAT.out 10 _ rfl, HAT.out 11 _ rfl, HAT.out 12 _ rfl, HBT.out 0 _ rfl, HBT.out 1 _ rfl, HBT.out 2 _ rfl, HBT.out 3 _ rfl, HBT.out 4 _ rfl, HBT.out 5 _ rfl, HBT.out 6 _ rfl, HBT.out 7 _ rfl, HBT.out 8 _ rfl, HBT.out 9 _ rfl, HBT.out 10 _ rfl, HBT.out 11 _ rfl, HBT.out 12 _ rfl, Below.refl _ _, hga, hgb⟩
      clear HAT HBT
      go_wp2_with fail
      go_region_held3 (fun W => W.cell? ⟨ga, oa + k * 13, none⟩ = some (.int .i64 a.off) ∧ W.cell? ⟨ga, oa + k * 13 + 1, none⟩ = some (.int .i64 a.kind) ∧ W.cell? ⟨ga, oa + k * 13 + 2, none⟩ = some (.int .i64 a.save) ∧ W.cell? ⟨ga, oa + k * 13 + 3, none⟩ = some (.string a.set) ∧ W.cell? ⟨ga, oa + k * 13 + 4, none⟩ = some (.string a.fmt) ∧ W.cell? ⟨ga, oa + k * 13 + 5, none⟩ = some (.bool a.ui) ∧ W.cell? ⟨ga, oa + k * 13 + 6, none⟩ = some (.int .i64 a.uy) ∧ W.cell? ⟨ga, oa + k * 13 + 7, none⟩ = some (.int .i64 a.um) ∧ W.cell? ⟨ga, oa + k * 13 + 8, none⟩ = some (.int .i64 a.dk) ∧ W.cell? ⟨ga, oa + k * 13 + 9, none⟩ = some (.int .i64 a.dw) ∧ W.cell? ⟨ga, oa + k * 13 + 10, none⟩ = some (.int .i64 a.dd) ∧ W.cell? ⟨ga, oa + k * 13 + 11, none⟩ = some (.int .i64 a.asec) ∧ W.cell? ⟨ga, oa + k * 13 + 12, none⟩ = some (.int .i64 a.ab) ∧ W.cell? ⟨gb, oB + k * 13, none⟩ = some (.int .i64 b.off) ∧ W.cell? ⟨gb, oB + k * 13 + 1, none⟩ = some (.int .i64 b.kind) ∧ W.cell? ⟨gb, oB + k * 13 + 2, none⟩ = some (.int .i64 b.save) ∧ W.cell? ⟨gb, oB + k * 13 + 3, none⟩ = some (.string b.set) ∧ W.cell? ⟨gb, oB + k * 13 + 4, none⟩ = some (.string b.fmt) ∧ W.cell? ⟨gb, oB + k * 13 + 5, none⟩ = some (.bool b.ui) ∧ W.cell? ⟨gb, oB + k * 13 + 6, none⟩ = some (.int .i64 b.uy) ∧ W.cell? ⟨gb, oB + k * 13 + 7, none⟩ = some (.int .i64 b.um) ∧ W.cell? ⟨gb, oB + k * 13 + 8, none⟩ = some (.int .i64 b.dk) ∧ W.cell? ⟨gb, oB + k * 13 + 9, none⟩ = some (.int .i64 b.dw) ∧ W.cell? ⟨gb, oB + k * 13 + 10, none⟩ = some (.int .i64 b.dd) ∧ W.cell? ⟨gb, oB + k * 13 + 11, none⟩ = some (.int .i64 b.asec) ∧ W.cell? ⟨gb, oB + k * 13 + 12, none⟩ = some (.int .i64 b.ab) ∧ Below wr.heap.size wr W ∧ ga < wr.heap.size ∧ gb < wr.heap.size) (first | exact HS.out | exact keep_each_eras HS.out hc2 | exact keep_each_eras HS.out ((Below.refl _ _).drew) | assumption) ((go_at_call 76; refine (cR.out _).mono ?_; rintro en w1 ⟨rfl, hc⟩; have hc2 : Below wr.heap.size wr w1 := (Below.refl wr.heap.size wr).drew.trans hc; clear hc))
      rename_i hKeep
      clear hKeep
      have HO1 := Lib.hid (HO.out.below hc2); have HT1 := Lib.hid (HT.out.below hc2); have HB1 := Lib.hid (HB0.out.trans (hc2.mono (Nat.le_trans (Nat.le_of_lt HOL.out) HB0.out.size)))
      clear hc2 HS HO HT HB0 HW0 cR
      cases SS with
      | false =>
        have HR : Hid (EachRes P32.sameE P32.diffE (P32.mkE zi) LA LB ob w v l (.returned (.bool false)) w1) := Lib.hid (.inr ⟨P32.okAll_not HAK.out HBK.out HSS.out, rfl, HB1.out, _, HT1.out⟩)
        clear HO1 HT1 HB1 HAK HBK HSS HD hok
        go_wp2_with fail
        go_ret
        exact HR.out
      | true =>
        have HOK := Lib.hid (P32.okTo_succ hok.out HAK.out HBK.out HSS.out)
        have HCH := Lib.hid (P32.ch_succ P32.diffE (P32.mkE zi) LA LB k a b HAK.out HBK.out)
        by_cases hz : D = 0
        · have hzb : (D != 0) = false := by simp [hz]
          have HO2 : Hid (OutIs w1 ob v' (l ++ P32.ch P32.diffE (P32.mkE zi) LA LB (k + 1))) := Lib.hid (by rw [HCH.out, if_pos (HD.out.trans hz), List.append_nil]; exact HO1.out)
          clear hz HO1 HAK HBK HSS HD hok HCH
          go_wp2_with fail
          go_roundw
          case rel => exact ⟨k + 1, v', by omega, by go_num, HO2.out, HT1.out, HB1.out, HOK⟩
          case measure => simp [intOf]; omega
        · have hzb : (D != 0) = true := by simp [hz]
          have HLS : Hid (l ++ P32.ch P32.diffE (P32.mkE zi) LA LB (k + 1) = (l ++ P32.ch P32.diffE (P32.mkE zi) LA LB k) ++ [(P32.mkE zi) k D]) := Lib.hid (by rw [HCH.out, if_neg (by rw [HD.out]; exact hz), HD.out, ← List.append_assoc])
          have hcl := P32.ch_len P32.diffE (P32.mkE zi) LA LB k
          obtain ⟨N, hN⟩ : ∃ N, (l ++ P32.ch P32.diffE (P32.mkE zi) LA LB k).length = N := ⟨_, rfl⟩
          have hN1 : N ≤ 101000 := by rw [← hN, List.length_append]; omega
          have HN := Lib.hid hN
          clear hN hcl hz HAK HBK HSS HD hok HCH
          have b0 : w1.cell? ⟨ob, 0, none⟩ = some v' := (HO1.out.1.cell 0).trans rfl
          have b1 : w1.frozen? ⟨ob, 0, none⟩ = false := HO1.out.1.frozen 0
          obtain ⟨i0, hi, hz0, hz1, hz2⟩ := info_parts infoChange
          have HO2 : Hid (∀ W, Below w1.heap.size w1 W → W.ownsRow (ob + 1) 87 4 v' N (ccells (l ++ P32.ch P32.diffE (P32.mkE zi) LA LB k))) := Lib.hid (fun W h => by have q := (HO1.out.below h).2; rw [HN.out] at q; exact q)
          go_wp2_with fail
          go_region_law (first | (refine step_append_lies _ (by rfl) _ _ _ (by rfl) (ob + 1) 87 i0 _ 4 32 Tryd.underlying81 hi hz0 hz1 hz2 rfl (by omega) v' N (ccells (l ++ P32.ch P32.diffE (P32.mkE zi) LA LB k)) (by rfl) ((HO2.out _ hd2).alloc _) ⟨w2.heap.size, 0, none⟩ 1 1 ((P32.mkE zi) k D).cells (by rfl) (by rfl) (blk_cells (Blk.new w2 _ #[.int .i64 2, .int .i64 zi, .int .i64 k, .int .i64 D])) (by simp [P32.mkE, P32.CV.cells, Value.oneCell']) (by omega) (by simp only [maxLen]; omega) (by omega) (by have := HO1.out.lt; have := hd2.size; simp; omega) (w2.heap.size + 1) (by simp) ?_; intro gg cap w3 hown hgr hat hlt3; have c0 : w3.cell? ⟨ob, 0, none⟩ = some v' := cellq HO1.out hd2 hgr; have c1 : w3.frozen? ⟨ob, 0, none⟩ = false := frozenq HO1.out hd2 hgr) | (go_simp; go_at_call 77; refine (place2_any _ (zi : Int) ib w1.drew (HZ.out _ _ HT1.out).1 (HZ.out _ _ HT1.out).2).mono ?_; rintro en w2 ⟨rfl, hd⟩; have hd2 : Below w1.heap.size w1 w2 := (Below.refl w1.heap.size w1).drew.trans hd; have e0 : w2.cell? ⟨ob, 0, none⟩ = some v' := (hd2.cell (p := ⟨ob, 0, none⟩) HO1.out.lt).trans b0; have e1 : ob < w2.heap.size := Nat.lt_of_lt_of_le HO1.out.lt hd2.size; clear hd))
          all_goals
            have hfin := out_step (c := (P32.mkE zi) k D) _ HO1.out HT1.out HB1.out hd2 hown HN.out hgr hat
            rw [show (l ++ P32.ch P32.diffE (P32.mkE zi) LA LB k) ++ [(P32.mkE zi) k D] = l ++ P32.ch P32.diffE (P32.mkE zi) LA LB (k + 1) from HLS.out.symm] at hfin
            have HFIN := Lib.hid hfin
            clear hfin b0 b1 c0 c1 e0 e1 hd2 hown hgr hat hlt3 HO1 HT1 HB1 HO2 HN HLS hi hz0 hz1 hz2
            go_wp2_with fail
            go_roundw
            case rel => exact ⟨k + 1, _, by omega, by go_num, HFIN.out.1, HFIN.out.2.1, HFIN.out.2.2, HOK⟩
            case measure => simp [intOf]; omega
    · obtain rfl : k = LA.length := by omega
      have hki : ¬ (LA.length : Int) < (LA.length : Int) := by omega
      have HR : Hid (EachRes P32.sameE P32.diffE (P32.mkE zi) LA LB ob w v l (.returned (.bool true)) wr) := Lib.hid (.inl ⟨⟨HNN.out, hok.out⟩, rfl, v', hO, hT, hb⟩)
      clear hO hT hb hok hw0
      go_wp2_with fail
      go_ret
      exact HR.out
end Go.Proofs.YtlideagcmhlkeaaDoor

/- What the walks of Compare are told by (chapter 32). -/
namespace Go.Proofs.YtlideagcmhlkeaaDoor
open Go.RowKit
set_option linter.unusedVariables false

/-- what Compare answers -/
def CmpRes (a b : SV) (w : World) (e : Ending) (w' : World) : Prop :=
  (P32.okS a b ∧ (∃ A c, e = .returned (.tuple #[.slice A (P32.chS a b).length c, .int .i64 0]) ∧ ChIn w' A (P32.chS a b)) ∧ Below w.heap.size w w') ∨ (¬ P32.okS a b ∧ e = .returned (.tuple #[.slice none 0 0, .int .i64 2]) ∧ Below w.heap.size w w')
/-- the parts of a source fit the machine -/
def SrcSz (s : SV) : Prop := s.rules.length ≤ maxLen ∧ s.zones.length ≤ maxLen ∧ s.links.length ≤ maxLen ∧ s.shifts.length ≤ maxLen ∧ ∀ z ∈ s.zones, z.eras.length ≤ maxLen
theorem each_bool {α : Type} {same : α → α → Bool} {diff : α → α → Int} {mk : Nat → Int → P32.CV} {LA LB : List α} {ob : Nat} {w w' : World} {v : Value} {l : List P32.CV} {e : Ending} (h : EachRes same diff mk LA LB ob w v l e w') :
    ∃ (RB : Bool) (v' : Value), e = .returned (.bool RB) ∧ (RB = true → P32.okAll same LA LB ∧ OutIs w' ob v' (l ++ P32.ch diff mk LA LB LA.length)) ∧ (RB = false → ¬ P32.okAll same LA LB) ∧ Turned ob w v w' v' ∧ Below ob w w' := by
  rcases h with ⟨h1, h2, v', h3, h4, h5⟩ | ⟨h1, h2, h3, v', h4⟩
  · exact ⟨true, v', h2, fun _ => ⟨h1, h3⟩, (fun q => nomatch q), h4, h5⟩
  · exact ⟨false, v', h2, (fun q => nomatch q), fun _ => h1, h4, h3⟩
/-- parts enough for what is compared in the laws -/
def fewW (s : SV) : Prop := s.rules.length ≤ 100 ∧ s.zones.length ≤ 100 ∧ s.links.length ≤ 100 ∧ True ∧ ∀ z ∈ s.zones, z.eras.length ≤ 100
theorem few.w {s : SV} (h : few s) : fewW s := ⟨by have := h.1; omega, by have := h.2.1; omega, by have := h.2.2.1; omega, trivial, fun z hz => by have := h.2.2.2.2 z hz; omega⟩
theorem chZ_lenW (Z Y : List ZV) (h : ∀ z ∈ Z, z.eras.length ≤ 100) : ∀ n, (P32.chZ Z Y n).length ≤ n * 100
  | 0 => by simp [P32.chZ]
  | n + 1 => by
    have ih := chZ_lenW Z Y h n
    rw [P32.chZ, List.length_append]
    split
    · rename_i z y hz hy
      have := P32.ch_len P32.diffE (P32.mkE n) z.eras y.eras z.eras.length
      have := h z (List.mem_of_getElem? hz)
      omega
    · simp; omega
theorem out_leW {a b : SV} (h : fewW a) (k : Nat) (hk : k ≤ a.zones.length) : (P32.ch P32.diffR P32.mkR a.rules b.rules a.rules.length ++ P32.chZ a.zones b.zones k).length ≤ 100000 := by
  have h1 := P32.ch_len P32.diffR P32.mkR a.rules b.rules a.rules.length
  have h2 := chZ_lenW a.zones b.zones h.2.2.2.2 k
  have := h.1
  have := h.2.1
  rw [List.length_append]
  omega
theorem chZ_succ (Z Y : List ZV) (n : Nat) (z y : ZV) (hz : Z[n]? = some z) (hy : Y[n]? = some y) : P32.chZ Z Y (n + 1) = P32.chZ Z Y n ++ P32.ch P32.diffE (P32.mkE n) z.eras y.eras z.eras.length := by
  rw [P32.chZ, hz, hy]
theorem okZ_succ {Z Y : List ZV} {k : Nat} {z y : ZV} (h : P32.okZ Z Y k) (hz : Z[k]? = some z) (hy : Y[k]? = some y) (hs : P32.sameZ z y) : P32.okZ Z Y (k + 1) := by
  intro i a b hi ha hb
  by_cases e : i < k
  · exact h i a b e ha hb
  · obtain rfl : i = k := by omega
    rw [hz] at ha; rw [hy] at hb
    injection ha with ha; injection hb with hb
    rw [← ha, ← hb]; exact hs
/-- where the loop over the zones stands -/
structure CmpInv (a b : SV) (w W : World) (ob ib k : Nat) (v : Value) (IS : Bool) : Prop where
  box : Blk W ib 3 #[.int .i64 k]
  far : ob < ib
  bel : Below ob w W
  yes : IS = true → some ib ≠ v.ownBlock ∧ OutIs W ob v (P32.ch P32.diffR P32.mkR a.rules b.rules a.rules.length ++ P32.chZ a.zones b.zones k) ∧ P32.okAll P32.sameR a.rules b.rules ∧ a.zones.length = b.zones.length ∧ P32.okZ a.zones b.zones k ∧ a.links = b.links
  no : IS = false → ¬ P32.okS a b
/-- ahead of the loop over the zones -/
structure CmpPre (a b : SV) (w W : World) (ob : Nat) (v : Value) (IS : Bool) : Prop where
  lt : ob < W.heap.size
  bel : Below ob w W
  yes : IS = true → OutIs W ob v (P32.ch P32.diffR P32.mkR a.rules b.rules a.rules.length) ∧ P32.okAll P32.sameR a.rules b.rules ∧ a.zones.length = b.zones.length ∧ a.links = b.links
  no : IS = false → ¬ P32.okS a b
theorem CmpPre.start {a b : SV} {w W : World} {ob : Nat} {v : Value} {IS : Bool} (h : CmpPre a b w W ob v IS) : CmpInv a b w (W.alloc (.cells #[.int .i64 0] 3)) ob W.heap.size 0 v IS := by
  refine ⟨Blk.new W _ _, h.lt, h.bel.alloc (Nat.le_of_lt h.lt) _, fun q => ?_, h.no⟩
  obtain ⟨h1, h2, h3, h4⟩ := h.yes q
  refine ⟨fun e => ?_, ?_, h2, h3, fun i _ _ hi => by omega, h4⟩
  · have := (h1.2.lt _ e.symm).2
    omega
  · rw [P32.chZ, List.append_nil]
    exact h1.below ((Below.refl _ _).alloc (Nat.le_refl _) _)
theorem inv_no {a b : SV} {w W W' : World} {ob ib k : Nat} {v : Value} (h : CmpInv a b w W ob ib k v true) (hb : Below W.heap.size W W') (hn : ¬ P32.okS a b) : CmpInv a b w (W'.alloc (.cells #[.int .i64 ((k : Int) + 1)] 3)) ob W'.heap.size (k + 1) v false :=
  ⟨Blk.new W' _ _, Nat.lt_of_lt_of_le h.far (Nat.le_trans (Nat.le_of_lt h.box.lt) hb.size), ((h.bel.trans (hb.mono (Nat.le_of_lt (Nat.lt_trans h.far h.box.lt)))).alloc (Nat.le_trans (Nat.le_of_lt (Nat.lt_trans h.far h.box.lt)) hb.size) _), (fun q => nomatch q), fun _ => hn⟩
theorem inv_yes {a b : SV} {w W w5 : World} {ob ib k : Nat} {v v2 : Value} {RB : Bool} {z y : ZV} (h : CmpInv a b w W ob ib k v true) (hT : Turned ob W v w5 v2) (hb : Below ob W w5)
    (hyes : RB = true → P32.okAll P32.sameE z.eras y.eras ∧ OutIs w5 ob v2 ((P32.ch P32.diffR P32.mkR a.rules b.rules a.rules.length ++ P32.chZ a.zones b.zones k) ++ P32.ch P32.diffE (P32.mkE k) z.eras y.eras z.eras.length)) (hno : RB = false → ¬ P32.okAll P32.sameE z.eras y.eras)
    (hz : a.zones[k]? = some z) (hy : b.zones[k]? = some y) (hlt : k < a.zones.length) (hnm : z.name = y.name) : CmpInv a b w (w5.alloc (.cells #[.int .i64 ((k : Int) + 1)] 3)) ob w5.heap.size (k + 1) v2 RB := by
  have hs := hb.size
  have h1 := h.box.lt
  have h2 := h.far
  refine ⟨Blk.new w5 _ _, by omega, (h.bel.trans hb).alloc (by omega) _, fun q => ?_, fun q s => hno q (s.2.2.1 k z y hlt hz hy).2⟩
  obtain ⟨e1, e2⟩ := hyes q
  obtain ⟨y0, y1, y2, y3, y4, y5⟩ := h.yes rfl
  refine ⟨fun e => ?_, ?_, y2, y3, okZ_succ y4 hz hy ⟨hnm, e1⟩, y5⟩
  · have := (e2.2.lt _ e.symm).2
    omega
  · rw [chZ_succ _ _ _ _ _ hz hy, ← List.append_assoc]
    exact e2.below ((Below.refl _ _).alloc (Nat.le_refl _) _)
def mIdx (s : Value) (W : World) : Nat := match s with
  | .pointer (some a) => (match W.cell? a with
    | some (.int _ n) => n.toNat
    | _ => 0)
  | _ => 0
theorem mIdx_eq {W : World} {ib : Nat} {t : TypeId} {k : Nat} (h : Blk W ib t #[.int .i64 k]) : mIdx (.pointer (some ⟨ib, 0, none⟩)) W = k := by
  have q : W.cell? ⟨ib, 0, none⟩ = some (.int .i64 k) := (h.cell 0).trans rfl
  simp [mIdx, q]
theorem mIdx_next (W : World) (k : Nat) : mIdx (.pointer (some ⟨W.heap.size, 0, none⟩)) (W.alloc (.cells #[.int .i64 ((k : Int) + 1)] 3)) = k + 1 := mIdx_eq (k := k + 1) (Blk.new W _ _)
theorem okS_mk {a b : SV} (h1 : P32.okAll P32.sameR a.rules b.rules) (h2 : a.zones.length = b.zones.length) (h3 : P32.okZ a.zones b.zones a.zones.length) (h4 : a.links = b.links) : P32.okS a b := ⟨h1, h2, h3, h4⟩
theorem ccells_at : ∀ (L : List P32.CV) (k j : Nat) (r : P32.CV), j < 4 → L[k]? = some r → (ccells L)[k * 4 + j]? = r.cells[j]?
  | [], k, j, r, _, h => by simp at h
  | c :: L, 0, j, r, hj, h => by
    simp only [List.getElem?_cons_zero, Option.some.injEq] at h
    subst h
    unfold ccells
    rw [List.flatMap_cons, Nat.zero_mul, Nat.zero_add, List.getElem?_append_left (by simpa [P32.CV.cells] using hj)]
  | c :: L, k + 1, j, r, hj, h => by
    simp only [List.getElem?_cons_succ] at h
    have q := ccells_at L k j r hj h
    unfold ccells at q ⊢
    rw [List.flatMap_cons, List.getElem?_append_right (by simp [P32.CV.cells]; omega), show (k + 1) * 4 + j - c.cells.length = k * 4 + j by simp [P32.CV.cells]; omega]
    exact q
theorem ch_of_own {W : World} {ob : Nat} {v : Value} {l : List P32.CV} (h : OutIs W ob v l) : ∃ A c, v = .slice A l.length c ∧ ChIn W A l := by
  by_cases h0 : 0 < l.length
  · obtain ⟨B, cap, hv, hB, hlt, hcap, hc⟩ := own_form h.2 h0
    refine ⟨some ⟨B, 0, none⟩, cap, hv, fun k r hr => ⟨B, 0, rfl, hlt, fun j u hu => ?_⟩⟩
    rw [Nat.zero_add]
    refine hc _ _ ?_
    have hj : j < 4 := by have := (List.getElem?_eq_some_iff.mp hu).1; simpa [P32.CV.cells] using this
    exact (ccells_at l k j r hj hr).trans hu
  · have hl : l = [] := List.eq_nil_of_length_eq_zero (by omega)
    subst hl
    rcases h.2.2 with ⟨hv, _⟩ | ⟨g, cap, cur, hv, _⟩
    · exact ⟨none, 0, hv, CellsIn.nil W none⟩
    · exact ⟨some ⟨g, 0, none⟩, cap, hv, CellsIn.nil W _⟩

end Go.Proofs.YtlideagcmhlkeaaDoor

/- What changes and sources that come in read as (for the cards of chapter 32 and others). -/
namespace Go.Proofs.YtlideagcmhlkeaaDoor
open Go.RowKit Go.ChangeShapes Go.WideShapes
set_option linter.unusedVariables false

section
variable {H : Type} {enc : TypeId × Value → H} {w : World} {base : Nat} {sp : Nat → Bool} {held : Bool}
/-- a link's cells -/
theorem open_link {fuel : Nat} {cs : List Value} {x : DataW H × List MemPlace} (hlen : cs.length = 2) (h : DataW.trod enc Tryd.prog w base sp held fuel 94 cs = some x) : ∃ k : KV, cs = k.cells ∧ True := by
  match cs, hlen with
  | [c0, c1], _ =>
    obtain ⟨s0, e0, _⟩ := leaf_str Tryd.underlying94 h 0 9 0 (by kernel_rfl) Tryd.underlying9
    obtain ⟨s1, e1, _⟩ := leaf_str Tryd.underlying94 h 1 9 1 (by kernel_rfl) Tryd.underlying9
    simp only [List.drop_succ_cons, List.drop_zero, List.take_succ_cons, List.take_zero, List.cons.injEq, and_true] at e0 e1
    subst e0 e1
    exact ⟨⟨s0, s1⟩, rfl, trivial⟩
/-- a string's cell -/
theorem open_word {fuel : Nat} {cs : List Value} {x : DataW H × List MemPlace} (hlen : cs.length = 1) (h : DataW.trod enc Tryd.prog w base sp held fuel 9 cs = some x) : ∃ b : ByteArray, cs = [Value.string b] ∧ True := by
  obtain ⟨z, e, _⟩ := DataW.trod_string Tryd.underlying9 h
  exact ⟨z, e, trivial⟩
end
end Go.Proofs.YtlideagcmhlkeaaDoor

/- What a source by value that comes in reads as, where the bulk of what comes in is bounded (for the second forms of chapter 32's laws). -/
namespace Go.Proofs.YtlideagcmhlkeaaDoor
open Go.RowKit Go.ChangeShapes Go.WideShapes
set_option linter.unusedVariables false

theorem bulk_part {H : Type} {d : DataW H} {l : List (DataW H)} (h : d ∈ l) : Rows.uptoBulk d ≤ Rows.uptoBulkAll l := by
  induction l with
  | nil => cases h
  | cons x r ih =>
    simp only [Rows.uptoBulkAll]
    rcases List.mem_cons.1 h with e | e
    · subst e; omega
    · have := ih e; omega
section
variable {H : Type} {enc : TypeId × Value → H} {w : World} {base : Nat} {sp : Nat → Bool} {held : Bool}
/-- a field, with what it holds at most -/
theorem field_ofB {P : Program} {t : TypeId} {fs : Array Field} {fuel : Nat} {cs : List Value} {x : DataW H × List MemPlace} (ht : P.underlying t = some (.struct fs)) (h : DataW.trod enc P w base sp held fuel t cs = some x) (i : Nat) (ty : TypeId) (o s : Nat)
    (hf : (fs[i]?).map (fun f => (f.type, f.offset, P.cellsOf f.type)) = some (ty, o, s)) : ∃ n y, DataW.trod enc P w base sp held n ty ((cs.drop o).take s) = some y ∧ Rows.uptoBulk y.1 ≤ Rows.uptoBulk x.1 := by
  obtain ⟨xs, n, _, hx, _, hl, hg⟩ := DataW.trod_struct ht h
  cases hq : fs[i]? with
  | none => rw [hq] at hf; cases hf
  | some f =>
    rw [hq] at hf
    simp only [Option.map_some, Option.some.injEq, Prod.mk.injEq] at hf
    obtain ⟨rfl, rfl, rfl⟩ := hf
    have hi : i < xs.length := by rw [hl]; exact (Array.getElem?_eq_some_iff.1 hq).1
    refine ⟨n, xs[i], (hg i f hq).trans (List.getElem?_eq_getElem hi), ?_⟩
    have q := bulk_part (d := xs[i].1) (l := xs.map (·.1)) (List.mem_map.2 ⟨xs[i], List.getElem_mem hi, rfl⟩)
    rw [hx]
    simp only [Rows.uptoBulk]
    omega
theorem leaf_strB {P : Program} {t : TypeId} {fs : Array Field} {fuel : Nat} {cs : List Value} {x : DataW H × List MemPlace} (ht : P.underlying t = some (.struct fs)) (h : DataW.trod enc P w base sp held fuel t cs = some x) (i : Nat) (ty : TypeId) (o : Nat)
    (hf : (fs[i]?).map (fun f => (f.type, f.offset, P.cellsOf f.type)) = some (ty, o, 1)) (hk : P.underlying ty = some .string) : ∃ s : ByteArray, (cs.drop o).take 1 = [.string s] ∧ s.size ≤ Rows.uptoBulk x.1 := by
  obtain ⟨n, y, hy, hb⟩ := field_ofB ht h i ty o 1 hf
  obtain ⟨z, e, hx, hw⟩ := DataW.trod_string hk hy
  refine ⟨z, e, Nat.le_trans ?_ hb⟩
  rw [hx]
  simp only [Rows.uptoBulk]
  show z.data.toList.length ≤ _
  omega
/-- a slice that comes in, on the list of its cells, with what they hold at most -/
theorem open_cellsB {P : Program} {α : Type} {t e : TypeId} {m : Nat} {f : α → List Value} {Good : α → Prop} {B : Nat} {fuel : Nat} {cs : List Value} {x : DataW H × List MemPlace} (ht : P.underlying t = some (.slice e)) (hC : P.cellsOf e = m) (h0 : 0 < m)
    (hopen : ∀ (fuel : Nat) (cs : List Value) (x : DataW H × List MemPlace), cs.length = m → DataW.trod enc P w base sp held fuel e cs = some x → Rows.uptoBulk x.1 ≤ B → ∃ r : α, cs = f r ∧ Good r)
    (hf : DataW.trod enc P w base sp held fuel t cs = some x) (hB : Rows.uptoBulk x.1 ≤ B) :
    ∃ (A : Option Addr) (c : Nat) (L : List α), cs = [.slice A L.length c] ∧ L.length ≤ maxLen ∧ CellsIn m f w A L ∧ ∀ r ∈ L, Good r := by
  rcases Go.Deep.open_slice ht hf with ⟨h0', _⟩ | ⟨a, len, cap, m', n, D, Pl, hcs, hb, hl, hm, hmm, hx, hi⟩
  · exact ⟨none, 0, [], h0', Nat.zero_le _, CellsIn.nil _ _, fun r hr => by simp at hr⟩
  · have hlm : len ≤ m' := by rw [hmm]; split <;> omega
    have key : ∀ i, i < len → ∃ r : α, Good r ∧ (f r).length = m ∧ ∀ j u, (f r)[j]? = some u → w.cell? ((a.add (i * m)).add j) = some u := by
      intro i hil
      obtain ⟨cs', hc, htt⟩ := hi i (by omega)
      rw [hC] at hc
      obtain ⟨_, hcl, hat⟩ := World.cells?_some hc
      obtain ⟨r, hr, hw⟩ := hopen _ _ _ hcl htt (by
        have q1 := bulk_part (d := D i) (l := (List.range len).map D) (List.mem_map.2 ⟨i, List.mem_range.2 hil, rfl⟩)
        rw [hx] at hB
        simp only [Rows.uptoBulk] at hB
        show Rows.uptoBulk (D i) ≤ B
        omega)
      refine ⟨r, hw, by rw [← hr, hcl], fun j u hu => ?_⟩
      have hj : j < m := by rw [← hcl, hr]; exact (List.getElem?_eq_some_iff.mp hu).1
      rw [hat j hj, hr]; exact hu
    have key2 : ∃ L : List α, L.length = len ∧ ∀ i r, L[i]? = some r → Good r ∧ (f r).length = m ∧ ∀ j u, (f r)[j]? = some u → w.cell? ((a.add (i * m)).add j) = some u := by
      refine ⟨List.ofFn (fun i : Fin len => Classical.choose (key i.1 i.2)), by simp, fun i r hr => ?_⟩
      have hil : i < len := by have := (List.getElem?_eq_some_iff.mp hr).1; simpa using this
      rw [List.getElem?_ofFn, dif_pos hil] at hr
      injection hr with hr
      rw [← hr]
      exact Classical.choose_spec (key i hil)
    obtain ⟨L, hLl, hL⟩ := key2
    refine ⟨some a, cap, L, by rw [hLl]; exact hcs, by rw [hLl]; omega, fun k r hr => ?_, fun r hr => ?_⟩
    · have h00 : 0 < L.length := by have := (List.getElem?_eq_some_iff.mp hr).1; omega
      have hs : a.spot = none := by
        obtain ⟨_, hl0, q⟩ := hL 0 _ (List.getElem?_eq_getElem h00)
        have q0 := q 0 _ (List.getElem?_eq_getElem (by omega))
        rw [Nat.zero_mul] at q0
        exact World.cell?_spot (by simpa [Addr.add] using q0)
      obtain ⟨_, hl1, hk⟩ := hL k r hr
      obtain ⟨b, o, s⟩ := a
      simp only at hs
      subst hs
      refine ⟨b, o, rfl, ?_, fun j u hu => ?_⟩
      · have q := hk 0 _ (List.getElem?_eq_getElem (by omega))
        rw [add_plain] at q
        unfold World.cell? at q
        rcases Nat.lt_or_ge b w.heap.size with q' | q'
        · exact q'
        · rw [Array.getElem?_eq_none q'] at q; cases q
      · have := hk j u hu
        rwa [add_plain] at this
    · obtain ⟨k, hk⟩ := List.mem_iff_getElem?.1 hr
      exact (hL k r hk).1
def OkB (B : Nat) (e : EV) : Prop := e.set.size ≤ B ∧ e.fmt.size ≤ B
theorem open_eravB {B fuel : Nat} {cs : List Value} {x : DataW H × List MemPlace} (hlen : cs.length = 13) (h : DataW.trod enc Tryd.prog w base sp held fuel 47 cs = some x) (hB : Rows.uptoBulk x.1 ≤ B) : ∃ e : EV, cs = e.cells ∧ OkB B e := by
  obtain ⟨n0, n1, n2, s3, s4, b5, n6, n7, n8, n9, n10, n11, n12, hcs, _⟩ := open_era hlen h
  obtain ⟨s, es, hs⟩ := leaf_strB Tryd.underlying47 h 4 9 4 (by kernel_rfl) Tryd.underlying9
  obtain ⟨r, er, hr⟩ := leaf_strB Tryd.underlying47 h 3 9 3 (by kernel_rfl) Tryd.underlying9
  subst hcs
  have e : s4 = s := by simpa using es
  have e' : s3 = r := by simpa using er
  subst e e'
  exact ⟨⟨n0, n1, n2, s3, s4, b5, n6, n7, n8, n9, n10, n11, n12⟩, rfl, Nat.le_trans hr hB, Nat.le_trans hs hB⟩
theorem open_ruleB {B fuel : Nat} {cs : List Value} {x : DataW H × List MemPlace} (hlen : cs.length = 11) (h : DataW.trod enc Tryd.prog w base sp held fuel 83 cs = some x) (hB : Rows.uptoBulk x.1 ≤ B) : ∃ r : RV, cs = r.cells ∧ r.name.size ≤ B ∧ r.letter.size ≤ B := by
  obtain ⟨r, hcs, _⟩ := open_rule hlen h
  obtain ⟨s, es, hs⟩ := leaf_strB Tryd.underlying83 h 0 9 0 (by kernel_rfl) Tryd.underlying9
  obtain ⟨u, eu, hu⟩ := leaf_strB Tryd.underlying83 h 7 9 10 (by kernel_rfl) Tryd.underlying9
  subst hcs
  have e : r.name = s := by simpa [RV.cells] using es
  have e' : r.letter = u := by simpa [RV.cells] using eu
  subst e e'
  exact ⟨r, rfl, Nat.le_trans hs hB, Nat.le_trans hu hB⟩
theorem open_linkB {B fuel : Nat} {cs : List Value} {x : DataW H × List MemPlace} (hlen : cs.length = 2) (h : DataW.trod enc Tryd.prog w base sp held fuel 94 cs = some x) (hB : Rows.uptoBulk x.1 ≤ B) : ∃ k : KV, cs = k.cells ∧ k.target.size ≤ B := by
  obtain ⟨k, hcs, _⟩ := open_link hlen h
  obtain ⟨s, es, hs⟩ := leaf_strB Tryd.underlying94 h 0 9 0 (by kernel_rfl) Tryd.underlying9
  subst hcs
  have e : k.target = s := by simpa [KV.cells] using es
  subst e
  exact ⟨k, rfl, Nat.le_trans hs hB⟩
/-- a zone's cells, with its eras -/
theorem open_zoneB {B fuel : Nat} {cs : List Value} {x : DataW H × List MemPlace} (hlen : cs.length = 2) (h : DataW.trod enc Tryd.prog w base sp held fuel 39 cs = some x) (hB : Rows.uptoBulk x.1 ≤ B) :
    ∃ z : ZV, cs = z.cells ∧ (z.eras.length ≤ maxLen ∧ CellsIn 13 EV.cells w z.A z.eras ∧ z.name.size ≤ B ∧ ∀ e ∈ z.eras, OkB B e) := by
  match cs, hlen with
  | [c0, c1], _ =>
    obtain ⟨s0, e0, hs⟩ := leaf_strB Tryd.underlying39 h 0 9 0 (by kernel_rfl) Tryd.underlying9
    obtain ⟨m, y, hd, hb⟩ := field_ofB Tryd.underlying39 h 1 37 1 1 (by kernel_rfl)
    obtain ⟨A, c, L, e1, hl, hc, hf⟩ := open_cellsB (m := 13) (f := EV.cells) (Good := OkB B) Tryd.underlying37 (by kernel_rfl) (by decide) (fun fuel cs x hl hx hq => open_eravB hl hx hq) hd (Nat.le_trans hb hB)
    simp only [List.drop_succ_cons, List.drop_zero, List.take_succ_cons, List.take_zero, List.cons.injEq, and_true] at e0 e1
    subst e0 e1
    exact ⟨⟨s0, A, c, L⟩, rfl, hl, hc, Nat.le_trans hs hB, hf⟩
/-- the strings of a source are short -/
structure SmallStr (B : Nat) (s : SV) : Prop where
  rules : ∀ r ∈ s.rules, r.name.size ≤ B ∧ r.letter.size ≤ B
  zones : ∀ z ∈ s.zones, z.name.size ≤ B
  eras : ∀ z ∈ s.zones, ∀ e ∈ z.eras, e.set.size ≤ B ∧ e.fmt.size ≤ B
  links : ∀ k ∈ s.links, k.target.size ≤ B
/-- a source by value -/
theorem open_sourceB {B fuel : Nat} {cs : List Value} {x : DataW H × List MemPlace} (hlen : cs.length = 4) (h : DataW.trod enc Tryd.prog w base sp held fuel 32 cs = some x) (hB : Rows.uptoBulk x.1 ≤ B) :
    ∃ s : SV, cs = s.agg.toList ∧ SrcIn w s ∧ SmallStr B s := by
  match cs, hlen with
  | [c0, c1, c2, c3], _ =>
    obtain ⟨m0, y0, hd0, hb0⟩ := field_ofB Tryd.underlying32 h 0 27 0 1 (by kernel_rfl)
    obtain ⟨m1, y1, hd1, hb1⟩ := field_ofB Tryd.underlying32 h 1 28 1 1 (by kernel_rfl)
    obtain ⟨m2, y2, hd2, hb2⟩ := field_ofB Tryd.underlying32 h 2 29 2 1 (by kernel_rfl)
    obtain ⟨m3, y3, hd3⟩ := field_of Tryd.underlying32 h 3 30 3 1 (by kernel_rfl)
    obtain ⟨A0, k0, L0, e0, l0, i0, g0⟩ := open_cellsB (m := 11) (f := RV.cells) (Good := fun r => r.name.size ≤ B ∧ r.letter.size ≤ B) Tryd.underlying27 (by kernel_rfl) (by decide) (fun fuel cs x hl hx hq => open_ruleB hl hx hq) hd0 (Nat.le_trans hb0 hB)
    obtain ⟨A1, k1, L1, e1, l1, i1, g1⟩ := open_cellsB (m := 2) (f := ZV.cells) (Good := fun z => z.eras.length ≤ maxLen ∧ CellsIn 13 EV.cells w z.A z.eras ∧ z.name.size ≤ B ∧ ∀ e ∈ z.eras, OkB B e) Tryd.underlying28 (by kernel_rfl) (by decide) (fun fuel cs x hl hx hq => open_zoneB hl hx hq) hd1 (Nat.le_trans hb1 hB)
    obtain ⟨A2, k2, L2, e2, l2, i2, g2⟩ := open_cellsB (m := 2) (f := KV.cells) (Good := fun k => k.target.size ≤ B) Tryd.underlying29 (by kernel_rfl) (by decide) (fun fuel cs x hl hx hq => open_linkB hl hx hq) hd2 (Nat.le_trans hb2 hB)
    obtain ⟨A3, k3, L3, e3, l3, i3, _⟩ := open_cells (m := 1) (f := fun b : ByteArray => [Value.string b]) (Good := fun _ => True) Tryd.underlying30 (by kernel_rfl) (by decide) (fun fuel cs x hl hx => open_word hl hx) hd3
    simp only [List.drop_succ_cons, List.drop_zero, List.take_succ_cons, List.take_zero, List.cons.injEq, and_true] at e0 e1 e2 e3
    subst e0 e1 e2 e3
    exact ⟨⟨A0, k0, L0, A1, k1, L1, A2, k2, L2, A3, k3, L3⟩, rfl, ⟨i0, i1, i2, i3, fun z hz => (g1 z hz).2.1⟩, ⟨g0, fun z hz => (g1 z hz).2.2.1, fun z hz => (g1 z hz).2.2.2, g2⟩⟩
end
end Go.Proofs.YtlideagcmhlkeaaDoor

/- The walk of report.Compare (chapter 32). -/
namespace Go.Proofs.YtlideagcmhlkeaaDoor
open Go.RowKit
set_option linter.unusedVariables false
attribute [local go_sem ↓] Go.wp_at_zero Go.wp_at_succ

set_option maxRecDepth 100000 in
set_option maxHeartbeats 16000000 in
theorem compare_anyW (a b : SV) (w : World) (hA : SrcIn w a) (hB : SrcIn w b) (hfa : fewW a) (hzb : SrcSz b) :
    Calls Tryd.prog 42 #[.agg #[.slice a.rA a.rules.length a.rc, .slice a.zA a.zones.length a.zc, .slice a.kA a.links.length a.kc, .slice a.hA a.shifts.length a.hc], .agg #[.slice b.rA b.rules.length b.rc, .slice b.zA b.zones.length b.zc, .slice b.kA b.links.length b.kc, .slice b.hA b.shifts.length b.hc]] w (CmpRes a b w) := by
  have hB1 := Blk.new w 32 #[.slice a.rA a.rules.length a.rc, .slice a.zA a.zones.length a.zc, .slice a.kA a.links.length a.kc, .slice a.hA a.shifts.length a.hc]
  have hb1 := (Below.refl w.heap.size w).alloc (Nat.le_refl _) (.cells #[.slice a.rA a.rules.length a.rc, .slice a.zA a.zones.length a.zc, .slice a.kA a.links.length a.kc, .slice a.hA a.shifts.length a.hc] 32)
  have hB1' := hB1.alloc (.cells #[.slice b.rA b.rules.length b.rc, .slice b.zA b.zones.length b.zc, .slice b.kA b.links.length b.kc, .slice b.hA b.shifts.length b.hc] 32)
  have hB2 := Blk.newAt (w.alloc (.cells #[.slice a.rA a.rules.length a.rc, .slice a.zA a.zones.length a.zc, .slice a.kA a.links.length a.kc, .slice a.hA a.shifts.length a.hc] 32)) (w.heap.size + 1) (by simp) 32 #[.slice b.rA b.rules.length b.rc, .slice b.zA b.zones.length b.zc, .slice b.kA b.links.length b.kc, .slice b.hA b.shifts.length b.hc]
  have hb2 := hb1.alloc hb1.size (.cells #[.slice b.rA b.rules.length b.rc, .slice b.zA b.zones.length b.zc, .slice b.kA b.links.length b.kc, .slice b.hA b.shifts.length b.hc] 32)
  have hsz2 : ((w.alloc (.cells #[.slice a.rA a.rules.length a.rc, .slice a.zA a.zones.length a.zc, .slice a.kA a.links.length a.kc, .slice a.hA a.shifts.length a.hc] 32)).alloc (.cells #[.slice b.rA b.rules.length b.rc, .slice b.zA b.zones.length b.zc, .slice b.kA b.links.length b.kc, .slice b.hA b.shifts.length b.hc] 32)).heap.size = w.heap.size + 2 := by simp
  have HBa := Lib.hid (hB1'.alloc (.cells #[.slice none 0 0] 81)); have HBb := Lib.hid (hB2.alloc (.cells #[.slice none 0 0] 81))
  have hb3 := hb2.alloc hb2.size (.cells #[.slice none 0 0] 81)
  have hO : OutIs (((w.alloc (.cells #[.slice a.rA a.rules.length a.rc, .slice a.zA a.zones.length a.zc, .slice a.kA a.links.length a.kc, .slice a.hA a.shifts.length a.hc] 32)).alloc (.cells #[.slice b.rA b.rules.length b.rc, .slice b.zA b.zones.length b.zc, .slice b.kA b.links.length b.kc, .slice b.hA b.shifts.length b.hc] 32)).alloc (.cells #[.slice none 0 0] 81)) (w.heap.size + 2) (.slice none 0 0) [] := ⟨Blk.newAt ((w.alloc (.cells #[.slice a.rA a.rules.length a.rc, .slice a.zA a.zones.length a.zc, .slice a.kA a.links.length a.kc, .slice a.hA a.shifts.length a.hc] 32)).alloc (.cells #[.slice b.rA b.rules.length b.rc, .slice b.zA b.zones.length b.zc, .slice b.kA b.links.length b.kc, .slice b.hA b.shifts.length b.hc] 32)) (w.heap.size + 2) hsz2 _ _, rfl, .inl ⟨rfl, rfl⟩⟩
  have cR := Lib.hid (each_rules a.rA b.rA a.rc b.rc a.rules b.rules (w.heap.size + 2) (.slice none 0 0) [] w (((w.alloc (.cells #[.slice a.rA a.rules.length a.rc, .slice a.zA a.zones.length a.zc, .slice a.kA a.links.length a.kc, .slice a.hA a.shifts.length a.hc] 32)).alloc (.cells #[.slice b.rA b.rules.length b.rc, .slice b.zA b.zones.length b.zc, .slice b.kA b.links.length b.kc, .slice b.hA b.shifts.length b.hc] 32)).alloc (.cells #[.slice none 0 0] 81)) hA.rules hB.rules hb3 (by omega) hO (by have := hfa.1; omega) (by simp) hzb.1)
  have HA := Lib.hid hA; have HB := Lib.hid hB; have HF := Lib.hid hfa; have HZB := Lib.hid hzb; have HB3 := Lib.hid hb3
  have ka0 := (HBa.out.cell 0).trans rfl
  have kb0 := (HBb.out.cell 0).trans rfl
  clear hB1 hb1 hB1' hB2 hb2 hsz2 hb3 hO hA hB hfa hzb
  go_enter Tryd.func42, Tryd.ntmps42
  go_wp2_with fail
  refine cR.out.mono ?_
  rintro en w4 hres
  obtain ⟨RB, v1, rfl, hyes, hno, hT, hb4⟩ := each_bool hres
  have HLT : Hid (w.heap.size + 2 < w4.heap.size) := Lib.hid (by have := hT.size; simp at this; omega)
  have hb3 := HB3.out
  have hba4 := HBa.out.below hb4 (by omega)
  have hbb4 := HBb.out.below hb4 (by omega)
  clear HB3 HBa HBb hT ka0 kb0 cR hres
  obtain ⟨w3, hw3⟩ : ∃ x : World, x = (((w.alloc (.cells #[.slice a.rA a.rules.length a.rc, .slice a.zA a.zones.length a.zc, .slice a.kA a.links.length a.kc, .slice a.hA a.shifts.length a.hc] 32)).alloc (.cells #[.slice b.rA b.rules.length b.rc, .slice b.zA b.zones.length b.zc, .slice b.kA b.links.length b.kc, .slice b.hA b.shifts.length b.hc] 32)).alloc (.cells #[.slice none 0 0] 81)) := ⟨_, rfl⟩
  rw [← hw3] at hb3 hb4
  clear hw3
  have HB3 := Lib.hid hb3
  have HYES := Lib.hid hyes; have HNO := Lib.hid hno; have HB4 := Lib.hid hb4
  have HBa4 := Lib.hid hba4; have HBb4 := Lib.hid hbb4
  clear hyes hno hb3 hb4 hba4 hbb4
  go_upto_region 3 with (fail)
  go_cut [7] (fun s7 wx => ∃ (IS : Bool) (v : Value), s7 = .bool IS ∧ Below w4.heap.size w4 wx ∧ CmpPre a b w3 wx (w.heap.size + 2) v IS)
  case first =>
    have ka1 := (HBa4.out.cell 1).trans rfl
    have kb1 := (HBb4.out.cell 1).trans rfl
    have ka2 := (HBa4.out.cell 2).trans rfl
    have kb2 := (HBb4.out.cell 2).trans rfl
    have HBB := HB4
    cases RB with
    | false =>
      have HP : Hid (CmpPre a b w3 w4 (w.heap.size + 2) v1 false) := Lib.hid ⟨HLT.out, HBB.out, (fun q => nomatch q), fun _ q => HNO.out rfl q.1⟩
      clear HYES HNO HB4 HA HB HF HZB HB3
      go_wp2_with fail
      go_meet
      exact ⟨false, v1, rfl, Below.refl _ _, HP.out⟩
    | true =>
      obtain ⟨y1, y2⟩ := HYES.out rfl
      have Y1 := Lib.hid y1; have Y2 := Lib.hid y2
      clear y1 y2 HYES HNO
      by_cases hz : a.zones.length = b.zones.length
      rotate_left
      · have hzb2 : ((a.zones.length : Int) == (b.zones.length : Int)) = false := by rw [beq_eq_false_iff_ne]; omega
        have HP : Hid (CmpPre a b w3 w4 (w.heap.size + 2) v1 false) := Lib.hid ⟨HLT.out, HBB.out, (fun q => nomatch q), fun _ q => hz q.2.1⟩
        clear hz Y1 Y2 HB4 HA HB HF HZB HB3
        go_wp2_with fail
        go_meet
        exact ⟨false, v1, rfl, Below.refl _ _, HP.out⟩
      have hzb2 : ((a.zones.length : Int) == (b.zones.length : Int)) = true := by rw [beq_iff_eq]; omega
      have HZ := Lib.hid hz
      obtain ⟨RL, hRL⟩ : ∃ RL : Bool, (RL = true ↔ a.links = b.links) := by
        rcases Classical.em (a.links = b.links) with h | h
        · exact ⟨true, by simp [h]⟩
        · exact ⟨false, by simp [h]⟩
      have HRL := Lib.hid hRL
      have hbw := HB3.out.trans (HB4.out.mono (by omega))
      have cE := Lib.hid (equal_any a.kA b.kA a.kc b.kc a.links b.links RL w4 hRL (HA.out.links.below hbw) (HB.out.links.below hbw) (by have := HF.out.2.2.1; omega) HZB.out.2.2.1)
      clear hz hRL hbw HB4 HA HB HF HZB HB3
      go_wp2_with fail
      refine cE.out.mono ?_
      rintro en w5 ⟨rfl, hq⟩
      have hb5 := hq.below w4.heap.size
      have HP : Hid (CmpPre a b w3 w5 (w.heap.size + 2) v1 RL) := Lib.hid ⟨Nat.lt_of_lt_of_le HLT.out hb5.size, HBB.out.trans (hb5.mono (Nat.le_of_lt HLT.out)), fun q => ⟨Y2.out.below hb5, Y1.out, HZ.out, HRL.out.1 q⟩, fun q h => by have := HRL.out.2 h.2.2.2; rw [q] at this; cases this⟩
      have HB5 := Lib.hid hb5
      clear hq hb5 cE Y1 Y2 HZ HRL HBB HLT
      go_wp2_with fail
      go_meet
      exact ⟨RL, v1, rfl, HB5.out, HP.out⟩
  case rest =>
    obtain ⟨IS, v, rfl, hbc, hpre⟩ := hcut
    have HINV := Lib.hid hpre.start
    have hbc2 := hbc.alloc hbc.size (.cells #[.int .i64 0] 3)
    have HBa5 := Lib.hid (HBa4.out.below hbc2 (HBa4.out.lt)); have HBb5 := Lib.hid (HBb4.out.below hbc2 (HBb4.out.lt))
    clear HYES HNO HBa4 HBb4 hpre hbc hbc2
    go_wp2_with fail
    go_loopw [7, 8] (fun s7 s8 W => ∃ (k ib : Nat) (v : Value) (IS : Bool), k ≤ a.zones.length ∧ s7 = .bool IS ∧ s8 = .pointer (some ⟨ib, 0, none⟩) ∧ CmpInv a b w3 W (w.heap.size + 2) ib k v IS ∧ Blk W w.heap.size 32 #[.slice a.rA a.rules.length a.rc, .slice a.zA a.zones.length a.zc, .slice a.kA a.links.length a.kc, .slice a.hA a.shifts.length a.hc] ∧ Blk W (w.heap.size + 1) 32 #[.slice b.rA b.rules.length b.rc, .slice b.zA b.zones.length b.zc, .slice b.kA b.links.length b.kc, .slice b.hA b.shifts.length b.hc]) (fun _ s8 W => a.zones.length - mIdx s8 W)
    case atStart => exact ⟨0, _, v, IS, Nat.zero_le _, rfl, rfl, HINV.out, HBa5.out, HBb5.out⟩
    case round =>
      clear HINV HBa5 HBb5
      obtain ⟨k, ib, v, IS, hk, rfl, rfl, hinv, hBa, hBb⟩ := hrel
      have HI := Lib.hid hinv; have HBa := Lib.hid hBa; have HBb := Lib.hid hBb
      clear hinv hBa hBb
      have hi0 := (HI.out.box.cell 0).trans rfl
      have ka1 := (HBa.out.cell 1).trans rfl
      cases IS with
      | false =>
        have HR : Hid (CmpRes a b w (.returned (.tuple #[.slice none 0 0, .int .i64 2])) wr) := Lib.hid (.inr ⟨HI.out.no rfl, rfl, HB3.out.trans (HI.out.bel.mono (by omega))⟩)
        clear HI HBa HBb HA HB HF HZB HB3
        go_wp2_with fail
        go_ret2
        exact HR.out
      | true =>
        obtain ⟨y0, y1, y2, y3, y4, y5⟩ := HI.out.yes rfl
        by_cases hlt : k < a.zones.length
        rotate_left
        · obtain rfl : k = a.zones.length := by omega
          have hki : ¬ (a.zones.length : Int) < (a.zones.length : Int) := by omega
          have c0 := (y1.1.cell 0).trans rfl
          obtain ⟨A0, c0', hv0, hCh⟩ := ch_of_own y1
          have HR : Hid (CmpRes a b w (.returned (.tuple #[v, .int .i64 0])) wr) := Lib.hid (.inl ⟨okS_mk y2 y3 y4 y5, ⟨A0, c0', by rw [hv0]; rfl, hCh⟩, HB3.out.trans (HI.out.bel.mono (by omega))⟩)
          clear HI HBa HBb HA HB HF HZB HB3 HB4 y0 y1 y2 y3 y4 y5 hCh hv0
          go_wp2_with fail
          go_ret2
          exact HR.out
        obtain ⟨z, hz⟩ : ∃ z, a.zones[k]? = some z := ⟨_, List.getElem?_eq_getElem hlt⟩
        obtain ⟨y, hy⟩ : ∃ y, b.zones[k]? = some y := ⟨_, List.getElem?_eq_getElem (by omega)⟩
        have hbw := HB3.out.trans (HI.out.bel.mono (show w.heap.size ≤ w.heap.size + 2 by omega))
        obtain ⟨gz, oz, hzA, hgz0, haz0⟩ := HA.out.zones k z hz
        obtain ⟨gz', oz', hzA', hgz, haz⟩ := (HA.out.zones.below hbw) k z hz
        obtain ⟨rfl, rfl⟩ : gz' = gz ∧ oz' = oz := by rw [hzA] at hzA'; injection hzA' with q; injection q with q1 q2; exact ⟨q1.symm, q2.symm⟩
        obtain ⟨gy, oy, hyA, hgy0, hay0⟩ := HB.out.zones k y hy
        obtain ⟨gy', oy', hyA', hgy, hay⟩ := (HB.out.zones.below hbw) k y hy
        obtain ⟨rfl, rfl⟩ : gy' = gy ∧ oy' = oy := by rw [hyA] at hyA'; injection hyA' with q; injection q with q1 q2; exact ⟨q1.symm, q2.symm⟩
        have kb1 := (HBb.out.cell 1).trans rfl
        rw [hzA] at ka1
        rw [hyA] at kb1
        have nz0 : wr.cell? ⟨gz', oz' + k * 2, none⟩ = some (.string z.name) := haz 0 _ rfl
        have nz1 : wr.cell? ⟨gz', oz' + k * 2 + 1, none⟩ = some (.slice z.A z.eras.length z.c) := haz 1 _ rfl
        have ny0 : wr.cell? ⟨gy', oy' + k * 2, none⟩ = some (.string y.name) := hay 0 _ rfl
        have ny1 : wr.cell? ⟨gy', oy' + k * 2 + 1, none⟩ = some (.slice y.A y.eras.length y.c) := hay 1 _ rfl
        have hki : (k : Int) < (a.zones.length : Int) := by omega
        have hki2 : (k : Int) < (b.zones.length : Int) := by omega
        have hk0 : (0 : Int) ≤ (k : Int) := by omega
        have hk10 : (a.zones.length : Int) ≤ 100 := by have := HF.out.2.1; omega
        have hgzw : gz' < wr.heap.size := hgz; have hgyw : gy' < wr.heap.size := hgy
        have HZK := Lib.hid hz; have HYK := Lib.hid hy; have HBW := Lib.hid hbw; have Y0 := Lib.hid y0; have Y1 := Lib.hid y1; have Y2 := Lib.hid y2; have Y3 := Lib.hid y3; have Y4 := Lib.hid y4; have Y5 := Lib.hid y5; have HZA : Hid (gz' < w.heap.size + 2) := Lib.hid (by omega); have HYA : Hid (gy' < w.heap.size + 2) := Lib.hid (by omega)
        clear hz hy hbw haz hay haz0 hay0 hgz0 hgy0 y0 y1 y2 y3 y4 y5 hzA hyA hzA' hyA'
        by_cases hnm : z.name = y.name
        rotate_left
        · have hnb : (z.name.toList == y.name.toList) = false := by rw [beq_eq_false_iff_ne]; exact fun q => hnm ((toList_eq_iff _ _).1 q)
          have HNO2 : Hid (¬ P32.okS a b) := Lib.hid (fun q => hnm (q.2.2.1 k z y hlt HZK.out HYK.out).1)
          clear hnm Y0 Y1 Y2 Y3 Y4 Y5 HZK HYK HZA HYA HB3 HF HZB HA HB HBW
          go_wp2_with fail
          go_quiet (fail)
          have hi1 : (wr.drewN nq).cell? ⟨ib, 0, none⟩ = some (.int .i64 k) := hi0
          have hw1 := below_drewN (Below.refl wr.heap.size wr) nq
          have HBa2 := Lib.hid (HBa.out.drewN nq); have HBb2 := Lib.hid (HBb.out.drewN nq)
          clear ka1 kb1 nz0 nz1 ny0 ny1 hi0 hgz hgy hgzw hgyw HBa HBb
          generalize wr.drewN nq = wq at hi1 hw1 HBa2 HBb2 ⊢
          have HIN := Lib.hid (inv_no HI.out hw1 HNO2.out)
          have HMI := Lib.hid (mIdx_eq HI.out.box)
          clear hw1 HNO2 HI
          go_wp2_with fail
          go_roundw
          case rel => exact ⟨k + 1, _, v, false, by omega, rfl, rfl, HIN.out, HBa2.out.alloc _, HBb2.out.alloc _⟩
          case measure => rw [HMI.out, mIdx_next]; omega
        have hnb : (z.name.toList == y.name.toList) = true := by rw [hnm]; exact beq_self_eq_true _
        have HNM := Lib.hid hnm
        have CE : Hid (Calls Tryd.prog 75 #[.slice z.A z.eras.length z.c, .slice y.A y.eras.length y.c, .func (.func 76) #[] #[], .func (.func 77) #[] #[.pointer (some ⟨ib, 0, none⟩)], .pointer (some ⟨w.heap.size + 2, 0, none⟩)] wr.drew (EachRes P32.sameE P32.diffE (P32.mkE k) z.eras y.eras (w.heap.size + 2) wr.drew v (P32.ch P32.diffR P32.mkR a.rules b.rules a.rules.length ++ P32.chZ a.zones b.zones k))) := Lib.hid (each_eras z.A y.A z.c y.c z.eras y.eras (w.heap.size + 2) v _ w wr.drew k ib hi0 HI.out.box.lt (Nat.ne_of_gt HI.out.far) Y0.out (HA.out.eras z (List.mem_of_getElem? HZK.out)) (HB.out.eras y (List.mem_of_getElem? HYK.out)) HBW.out.drew (by omega) Y1.out (by have := HF.out.2.2.2.2 z (List.mem_of_getElem? HZK.out); omega) (out_leW HF.out k (by omega)) (HZB.out.2.2.2.2 y (List.mem_of_getElem? HYK.out)))
        have HS : Hid (wr.cell? ⟨w.heap.size, 1, none⟩ = some (.slice (some ⟨gz', oz', none⟩) a.zones.length a.zc) ∧ wr.cell? ⟨w.heap.size + 1, 1, none⟩ = some (.slice (some ⟨gy', oy', none⟩) b.zones.length b.zc) ∧ wr.cell? ⟨ib, 0, none⟩ = some (.int .i64 k) ∧ wr.cell? ⟨gz', oz' + k * 2, none⟩ = some (.string z.name) ∧ wr.cell? ⟨gz', oz' + k * 2 + 1, none⟩ = some (.slice z.A z.eras.length z.c) ∧ wr.cell? ⟨gy', oy' + k * 2, none⟩ = some (.string y.name) ∧ wr.cell? ⟨gy', oy' + k * 2 + 1, none⟩ = some (.slice y.A y.eras.length y.c)) := Lib.hid ⟨ka1, kb1, hi0, nz0, nz1, ny0, ny1⟩
        have HSK : Hid (∀ W v2, Turned (w.heap.size + 2) wr v W v2 → Below (w.heap.size + 2) wr W → (W.cell? ⟨w.heap.size, 1, none⟩ = some (.slice (some ⟨gz', oz', none⟩) a.zones.length a.zc) ∧ W.cell? ⟨w.heap.size + 1, 1, none⟩ = some (.slice (some ⟨gy', oy', none⟩) b.zones.length b.zc) ∧ W.cell? ⟨ib, 0, none⟩ = some (.int .i64 k) ∧ W.cell? ⟨gz', oz' + k * 2, none⟩ = some (.string z.name) ∧ W.cell? ⟨gz', oz' + k * 2 + 1, none⟩ = some (.slice z.A z.eras.length z.c) ∧ W.cell? ⟨gy', oy' + k * 2, none⟩ = some (.string y.name) ∧ W.cell? ⟨gy', oy' + k * 2 + 1, none⟩ = some (.slice y.A y.eras.length y.c))) := Lib.hid (fun W v2 h1 h2 => ⟨(h2.cell (p := ⟨w.heap.size, 1, none⟩) (by show w.heap.size < _; omega)).trans ka1, (h2.cell (p := ⟨w.heap.size + 1, 1, none⟩) (by show w.heap.size + 1 < _; omega)).trans kb1, (turned_cell hi0 HI.out.box.lt (Nat.ne_of_gt HI.out.far) Y0.out W v2 h1).1, (h2.cell (p := ⟨gz', _, none⟩) (HZA.out)).trans nz0, (h2.cell (p := ⟨gz', _, none⟩) (HZA.out)).trans nz1, (h2.cell (p := ⟨gy', _, none⟩) (HYA.out)).trans ny0, (h2.cell (p := ⟨gy', _, none⟩) (HYA.out)).trans ny1⟩)
        go_wp2_with fail
        go_region_held3 (fun W => W.cell? ⟨w.heap.size, 1, none⟩ = some (.slice (some ⟨gz', oz', none⟩) a.zones.length a.zc) ∧ W.cell? ⟨w.heap.size + 1, 1, none⟩ = some (.slice (some ⟨gy', oy', none⟩) b.zones.length b.zc) ∧ W.cell? ⟨ib, 0, none⟩ = some (.int .i64 k) ∧ W.cell? ⟨gz', oz' + k * 2, none⟩ = some (.string z.name) ∧ W.cell? ⟨gz', oz' + k * 2 + 1, none⟩ = some (.slice z.A z.eras.length z.c) ∧ W.cell? ⟨gy', oy' + k * 2, none⟩ = some (.string y.name) ∧ W.cell? ⟨gy', oy' + k * 2 + 1, none⟩ = some (.slice y.A y.eras.length y.c)) (first | exact HSK.out _ _ hT5 hb5 | exact HS.out | assumption) ((go_at_call 75; refine CE.out.mono ?_; rintro en w5 hres; obtain ⟨RB, v2, rfl, hyes, hno, hT5', hb5'⟩ := each_bool hres; have hT5 : Turned (w.heap.size + 2) wr v w5 v2 := ⟨hT5'.size, hT5'.kept, hT5'.own⟩; have hb5 : Below (w.heap.size + 2) wr w5 := (Below.refl (w.heap.size + 2) wr).drew.trans hb5'; clear hres hT5' hb5'))
        rename_i hKeep
        clear hKeep
        have hi5 := (HSK.out _ _ hT5 hb5).2.2.1
        have HIN := Lib.hid (inv_yes HI.out hT5 hb5 hyes hno HZK.out HYK.out hlt HNM.out)
        have HBa5 := Lib.hid (HBa.out.below hb5 (by omega)); have HBb5 := Lib.hid (HBb.out.below hb5 (by omega))
        have HMI := Lib.hid (mIdx_eq HI.out.box)
        clear hT5 hb5 hyes hno HSK HS HI HBa HBb Y0 Y1 Y2 Y3 Y4 Y5 HZK HYK HNM CE HBW HZA HYA ka1 kb1 nz0 nz1 ny0 ny1 hi0 hgz hgy hgzw hgyw
        go_wp2_with fail
        go_roundw
        case rel => exact ⟨k + 1, _, v2, RB, by omega, rfl, rfl, HIN.out, HBa5.out.alloc _, HBb5.out.alloc _⟩
        case measure => rw [HMI.out, mIdx_next]; omega
theorem compare_any (a b : SV) (w : World) (hA : SrcIn w a) (hB : SrcIn w b) (hfa : few a) (hzb : SrcSz b) :
    Calls Tryd.prog 42 #[.agg #[.slice a.rA a.rules.length a.rc, .slice a.zA a.zones.length a.zc, .slice a.kA a.links.length a.kc, .slice a.hA a.shifts.length a.hc], .agg #[.slice b.rA b.rules.length b.rc, .slice b.zA b.zones.length b.zc, .slice b.kA b.links.length b.kc, .slice b.hA b.shifts.length b.hc]] w (CmpRes a b w) := compare_anyW a b w hA hB hfa.w hzb
end Go.Proofs.YtlideagcmhlkeaaDoor

/-
  DERIVED: THE SHELF's CONTRACTS AT THIS DUMP, IN PLAIN WORDS (tools/lay-plain.mjs out of 'YtlideagcmhlkeaaDoorShelfRaw.lean', which tools/lay-shelf.mjs wrote): THE SAME DECLARATIONS UNDER THE SAME NAMES: 'import', 'namespace', 'open', 'def', 'theorem' AND NOTHING ELSE: no command of the shelf's: FOR A HAND-IN. Each laying: the table of numbers ('.._ren') and one theorem, a field a fact of the dump's own or the kernel's comparison; each contract: ONE APPLICATION.
-/
namespace Go.Proofs
open Go.Shelf
def Tryd.lays169_ren : Go.Shelf.Ren := ⟨fun | 169 => 102 | n => n, fun | 70 => 156 | 9 => 9 | 0 => 0 | 72 => 158 | 37 => 24 | 127 => 182 | 3 => 3 | 5 => 5 | n => n, fun | n => n⟩
theorem Tryd.lays169 : Go.Proofs.Lays.n169 Tryd.prog Tryd.lays169_ren := {
  mixed := by kernel_rfl
  f169 := Tryd.func102.trans (congrArg some (by kernel_rfl))
  t0 := Tryd.underlying0
  a0 := Tryd.isAgg0
  z0 := Tryd.sizeOf0
  v0 := Tryd.zeroValue0
  t3 := Tryd.underlying3
  a3 := Tryd.isAgg3
  z3 := Tryd.sizeOf3
  v3 := Tryd.zeroValue3
  t9 := Tryd.underlying9
  a9 := Tryd.isAgg9
  z9 := Tryd.sizeOf9
  v9 := Tryd.zeroValue9
  t37 := Tryd.underlying24
  a37 := Tryd.isAgg24
  z37 := Tryd.sizeOf24
  v37 := Tryd.zeroValue24
  t70 := Tryd.underlying156
  a70 := Tryd.isAgg156
  z70 := Tryd.sizeOf156
  v70 := Tryd.zeroValue156
  t72 := Tryd.underlying158
  a72 := Tryd.isAgg158
  z72 := Tryd.sizeOf158
  v72 := Tryd.zeroValue158
  t127 := Tryd.underlying182
  a127 := Tryd.isAgg182
  z127 := Tryd.sizeOf182
  v127 := Tryd.zeroValue182 }
theorem Tryd.Builder_Extra_169 : Builder.Extra Tryd.prog Tryd.lays169_ren := {
  sizeBuilder := by kernel_rfl
  liesBuilder := by kernel_rfl
  t5 := Tryd.underlying5
  a5 := Tryd.isAgg5
  z5 := Tryd.sizeOf5
  v5 := Tryd.zeroValue5
  infoByte := by kernel_rfl
  cellsByte := by kernel_rfl
  sizeByte := by kernel_rfl
  neB5 := by decide }
open Go.RowKit in
/-- (*strings.Builder).String: "String returns the accumulated string.": WHATEVER THE BUILDER HOLDS; THE FORM '_k': OVER 'Lib.IsBuilderF' (a builder that 'String()' may have read), AND WITH THE FRAME THAT REACHES ABOVE THE BUILDER: 'Lib.OthersKept': every block that is not b and is no row of uint8's stands as it stood: the iterator of a range among them. (LAID: no walk: one application.) -/
theorem Tryd.Builder_String_any_k (B b : Nat) (l : List UInt8) (w : World) (h : Lib.IsBuilderF 158 5 B b (Lib.byteCells l) w) (hBw : B ≤ w.heap.size) :
    Calls Tryd.prog 102 #[.pointer (some ⟨b, 0, none⟩)] w fun e w' => e = .returned (.string ⟨l.toArray⟩) ∧ (Lib.IsBuilderF 158 5 B b (Lib.byteCells l) w' ∧ Below B w w' ∧ Lib.OthersKept 5 (some b) w w') := Any.Builder_String_any_k Tryd.lays169 Tryd.Builder_Extra_169 B b l w h hBw
end Go.Proofs

/- The walk of report.Text (chapter 32). -/
namespace Go.Proofs.YtlideagcmhlkeaaDoor
open Go.RowKit
set_option linter.unusedVariables false

theorem gPow : Tryd.prog.globalNamed "internal/strconv.uint64pow10" = some 2 := by kernel_rfl
theorem var_below {P : Program} {B g : Nat} {W W' : World} {n : String} {cs : Array Value} (h : Below B W W') (hg : P.globalNamed n = some g) (hgB : g < B) (hv : W.var? P n = some cs) : W'.var? P n = some cs := by
  unfold World.var? at hv ⊢
  simp only [hg, Option.bind_some] at hv ⊢
  rw [h.block g hgB]
  exact hv
/-- the variables: the table of powers of ten, the words -/
structure Vars (w : World) : Prop where
  pow : Lib.TabIs Tryd.prog w "internal/strconv.uint64pow10" .u64 Lib.pow10Tab
  words : ∀ j u, (#[.int .i64 1, .string ⟨#[115, 97, 118, 101]⟩, .int .i64 2, .string ⟨#[97, 116]⟩, .int .i64 4, .string ⟨#[111, 102, 102]⟩, .int .i64 8, .string ⟨#[102, 111, 114, 109, 97, 116]⟩, .int .i64 16, .string ⟨#[117, 110, 116, 105, 108]⟩] : Array Value)[j]? = some u → w.cell? ⟨0, j, none⟩ = some u
  big : 2 < w.heap.size ∧ 0 < w.heap.size
theorem Vars.below {w w' : World} (h : Vars w) (hb : Below w.heap.size w w') : Vars w' :=
  ⟨var_below hb gPow h.big.1 h.pow, fun j u hu => (hb.cell (p := ⟨0, j, none⟩) h.big.2).trans (h.words j u hu), Nat.lt_of_lt_of_le h.big.1 hb.size, Nat.lt_of_lt_of_le h.big.2 hb.size⟩
theorem itoa_pos (i : Int) (w : World) (h0 : 0 ≤ i) (h1 : i ≤ 9223372036854775807) (hv : Vars w) :
    Calls Tryd.prog 45 #[.int .i64 i] w fun e w' => e = .returned (.string (str (Lib.decDigits i.toNat))) ∧ Below w.heap.size w w' := by
  refine (Tryd.strconv_Itoa i (by omega) h1 w hv.pow).mono ?_
  rintro e w' ⟨rfl, k, os, rfl⟩
  refine ⟨by simp only [Lib.itoa]; rw [if_neg (by omega)]; rfl, Lib.below_grow _ _ (Nat.le_refl _) _ _⟩
theorem Blk.others {w w' : World} {g : Nat} {t e : TypeId} {b : Nat} {cs : Array Value} (h : Blk w g t cs) (hk : Lib.OthersKept e (some b) w w') (hg : g ≠ b) (ht : t ≠ e) : Blk w' g t cs :=
  hk g _ h (fun q => hg (Option.some.inj q)) (fun c fz q => by injection q with _ q _; exact ht q)
theorem bld_below {w w' : World} {B b : Nat} {l : List UInt8} (h : Bld w B b l) (hb : Below w.heap.size w w') : Bld w' B b l := by
  have key : ∀ p, Lib.BuilderAtF 158 5 B b p (Lib.byteCells l) w → Lib.BuilderAtF 158 5 B b p (Lib.byteCells l) w' := by
    rintro p ⟨h1, v, h2, h3, h4⟩
    have lt : ∀ {g : Nat} {o : Obj}, w.heap[g]? = some o → g < w.heap.size := by
      intro g o hg
      rcases Nat.lt_or_ge g w.heap.size with q | q
      · exact q
      · rw [Array.getElem?_eq_none q] at hg; cases hg
    refine ⟨h1, v, (hb.block b (lt h2)).trans h2, ⟨h3.1, ?_⟩, h4⟩
    rcases h3.2 with q | ⟨g, cap, cur, fz, hv, hB, hg, r⟩
    · exact .inl q
    · exact .inr ⟨g, cap, cur, fz, hv, hB, (hb.block g (lt hg)).trans hg, r⟩
  rcases h with h | h
  · exact .inl (key _ h)
  · exact .inr (key _ h)
theorem bld_alloc {w : World} {B b : Nat} {l : List UInt8} (h : Bld w B b l) (o : Obj) : Bld (w.alloc o) B b l := bld_below h ((Below.refl _ _).alloc (Nat.le_refl _) o)
theorem bld_new (w : World) : Bld (w.alloc (.cells #[.pointer none, .slice none 0 0] 158)) w.heap.size w.heap.size [] :=
  .inl ⟨Nat.le_refl _, _, heap_alloc_new w _, ⟨rfl, .inl ⟨rfl, rfl⟩⟩, fun q => by simp [Value.ownBlock] at q⟩
/-- the words that a sum names -/
def wordsL (x : Int) (k : Nat) : List UInt8 := (([(1, [115, 97, 118, 101]), (2, [97, 116]), (4, [111, 102, 102]), (8, [102, 111, 114, 109, 97, 116]), (16, [117, 110, 116, 105, 108])] : List (Int × List UInt8)).take k).flatMap fun t => P32.wordL (P32.bit x t.1) t.2
theorem wordsL_len (x : Int) (k : Nat) : (wordsL x k).length ≤ 40 := by
  have key : ∀ b1 b2 b3 b4 b5 : Bool, ∀ k, k < 6 → (((([(b1, [115, 97, 118, 101]), (b2, [97, 116]), (b3, [111, 102, 102]), (b4, [102, 111, 114, 109, 97, 116]), (b5, [117, 110, 116, 105, 108])] : List (Bool × List UInt8)).take k).flatMap fun t => P32.wordL t.1 t.2)).length ≤ 40 := by decide +kernel
  have hk : wordsL x k = wordsL x (min k 5) := by
    unfold wordsL
    rcases Nat.le_total k 5 with h | h
    · rw [Nat.min_eq_left h]
    · rw [Nat.min_eq_right h, List.take_of_length_le (by simpa using h), List.take_of_length_le (by simp)]
  rw [hk]
  have q := key (P32.bit x 1) (P32.bit x 2) (P32.bit x 4) (P32.bit x 8) (P32.bit x 16) (min k 5) (by omega)
  have e : wordsL x (min k 5) = ((([(P32.bit x 1, [115, 97, 118, 101]), (P32.bit x 2, [97, 116]), (P32.bit x 4, [111, 102, 102]), (P32.bit x 8, [102, 111, 114, 109, 97, 116]), (P32.bit x 16, [117, 110, 116, 105, 108])] : List (Bool × List UInt8)).take (min k 5)).flatMap fun t => P32.wordL t.1 t.2) := by
    have hm : min k 5 ≤ 5 := Nat.min_le_right _ _
    generalize min k 5 = m at hm
    match m, hm with
    | 0, _ | 1, _ | 2, _ | 3, _ | 4, _ | 5, _ => rfl
  rw [e]; exact q
theorem wordsL_succ (x : Int) (k : Nat) (t : Int × List UInt8) (h : ([(1, [115, 97, 118, 101]), (2, [97, 116]), (4, [111, 102, 102]), (8, [102, 111, 114, 109, 97, 116]), (16, [117, 110, 116, 105, 108])] : List (Int × List UInt8))[k]? = some t) : wordsL x (k + 1) = wordsL x k ++ P32.wordL (P32.bit x t.1) t.2 := by
  unfold wordsL
  rw [List.take_add_one, h, List.flatMap_append]
  simp
theorem bits_bit (x : Int) (h0 : 0 ≤ x) (h1 : x ≤ 31) (b : Int) (hb : b ∈ [1, 2, 4, 8, 16]) : (bits .and .i64 x b != 0) = P32.bit x b := by
  have key : ∀ n < 32, ∀ b ∈ ([1, 2, 4, 8, 16] : List Int), (bits .and .i64 ((n : Nat) : Int) b != 0) = P32.bit (n : Int) b := by decide +kernel
  obtain ⟨n, rfl⟩ := Int.eq_ofNat_of_zero_le h0
  exact key n (by omega) b hb
theorem line_words (c : P32.CV) (h : P32.right c) : P32.line c = (if c.part = 1 then [114, 117, 108, 101, 32] ++ Lib.decDigits c.index.toNat else [101, 114, 97, 32] ++ Lib.decDigits c.index.toNat ++ [32] ++ Lib.decDigits c.era.toNat) ++ (wordsL c.what 5 ++ [10]) := by
  have key : ∀ n < 32, (1 ≤ n ∧ n ≤ 3 → P32.wordL (P32.bit ((n : Nat) : Int) 1) [115, 97, 118, 101] ++ P32.wordL (P32.bit (n : Int) 2) [97, 116] = wordsL (n : Int) 5) ∧ (n % 4 = 0 → P32.wordL (P32.bit (n : Int) 4) [111, 102, 102] ++ P32.wordL (P32.bit (n : Int) 8) [102, 111, 114, 109, 97, 116] ++ P32.wordL (P32.bit (n : Int) 16) [117, 110, 116, 105, 108] = wordsL (n : Int) 5) := by decide +kernel
  obtain ⟨p, i, e, x⟩ := c
  rcases h with ⟨rfl, h1, h2, h3, h4⟩ | ⟨rfl, h1, h2, h3, h4, h5⟩
  · simp only at h1 h2 h3 h4
    obtain ⟨n, rfl⟩ := Int.eq_ofNat_of_zero_le (show 0 ≤ x by omega)
    have q := (key n (by omega)).1 (by omega)
    unfold P32.line
    rw [if_pos rfl, if_pos rfl, P32.lineR]
    simp only at *
    rw [← q]
    simp only [List.append_assoc]
  · simp only at h1 h2 h3 h4 h5
    obtain ⟨n, rfl⟩ := Int.eq_ofNat_of_zero_le (show 0 ≤ x by omega)
    have q := (key n (by omega)).2 (by omega)
    unfold P32.line
    rw [if_neg (show ¬ (2 : Int) = 1 by decide), if_neg (show ¬ (2 : Int) = 1 by decide), P32.lineE]
    simp only at *
    rw [← q]
    simp only [List.append_assoc]

theorem idx5_0 : ∀ w : World, (Instr.index 165 (.agg #[.int .i64 1, .string ⟨#[115, 97, 118, 101]⟩, .int .i64 2, .string ⟨#[97, 116]⟩, .int .i64 4, .string ⟨#[111, 102, 102]⟩, .int .i64 8, .string ⟨#[102, 111, 114, 109, 97, 116]⟩, .int .i64 16, .string ⟨#[117, 110, 116, 105, 108]⟩]) (.int .i64 0)).run Tryd.prog w = .ok (.agg #[.int .i64 1, .string ⟨#[115, 97, 118, 101]⟩]) w := by intro w; kernel_rfl
theorem idx5_1 : ∀ w : World, (Instr.index 165 (.agg #[.int .i64 1, .string ⟨#[115, 97, 118, 101]⟩, .int .i64 2, .string ⟨#[97, 116]⟩, .int .i64 4, .string ⟨#[111, 102, 102]⟩, .int .i64 8, .string ⟨#[102, 111, 114, 109, 97, 116]⟩, .int .i64 16, .string ⟨#[117, 110, 116, 105, 108]⟩]) (.int .i64 1)).run Tryd.prog w = .ok (.agg #[.int .i64 2, .string ⟨#[97, 116]⟩]) w := by intro w; kernel_rfl
theorem idx5_2 : ∀ w : World, (Instr.index 165 (.agg #[.int .i64 1, .string ⟨#[115, 97, 118, 101]⟩, .int .i64 2, .string ⟨#[97, 116]⟩, .int .i64 4, .string ⟨#[111, 102, 102]⟩, .int .i64 8, .string ⟨#[102, 111, 114, 109, 97, 116]⟩, .int .i64 16, .string ⟨#[117, 110, 116, 105, 108]⟩]) (.int .i64 2)).run Tryd.prog w = .ok (.agg #[.int .i64 4, .string ⟨#[111, 102, 102]⟩]) w := by intro w; kernel_rfl
theorem idx5_3 : ∀ w : World, (Instr.index 165 (.agg #[.int .i64 1, .string ⟨#[115, 97, 118, 101]⟩, .int .i64 2, .string ⟨#[97, 116]⟩, .int .i64 4, .string ⟨#[111, 102, 102]⟩, .int .i64 8, .string ⟨#[102, 111, 114, 109, 97, 116]⟩, .int .i64 16, .string ⟨#[117, 110, 116, 105, 108]⟩]) (.int .i64 3)).run Tryd.prog w = .ok (.agg #[.int .i64 8, .string ⟨#[102, 111, 114, 109, 97, 116]⟩]) w := by intro w; kernel_rfl
theorem idx5_4 : ∀ w : World, (Instr.index 165 (.agg #[.int .i64 1, .string ⟨#[115, 97, 118, 101]⟩, .int .i64 2, .string ⟨#[97, 116]⟩, .int .i64 4, .string ⟨#[111, 102, 102]⟩, .int .i64 8, .string ⟨#[102, 111, 114, 109, 97, 116]⟩, .int .i64 16, .string ⟨#[117, 110, 116, 105, 108]⟩]) (.int .i64 4)).run Tryd.prog w = .ok (.agg #[.int .i64 16, .string ⟨#[117, 110, 116, 105, 108]⟩]) w := by intro w; kernel_rfl
theorem bld_lt {w : World} {B b : Nat} {l : List UInt8} (h : Bld w B b l) : b < w.heap.size := by
  have key : ∀ p, Lib.BuilderAtF 158 5 B b p (Lib.byteCells l) w → b < w.heap.size := by
    rintro p ⟨h1, v, h2, _⟩
    rcases Nat.lt_or_ge b w.heap.size with q | q
    · exact q
    · rw [Array.getElem?_eq_none q] at h2; cases h2
  rcases h with h | h <;> exact key _ h
theorem lit_app (a b : List UInt8) (X : ByteArray) (h : X = str a) : X ++ str b = str (a ++ b) := by rw [h, str_append]
/-- what stays while a line is written -/
def Mid (w wr : World) (cs : Array Value) (l : List UInt8) (W : World) : Prop := Bld W w.heap.size w.heap.size l ∧ Blk W wr.heap.size 87 cs ∧ Vars W ∧ Below w.heap.size w W
theorem Mid.below {w wr W W' : World} {cs : Array Value} {l : List UInt8} (h : Mid w wr cs l W) (hb : Below W.heap.size W W') : Mid w wr cs l W' :=
  ⟨bld_below h.1 hb, h.2.1.below hb h.2.1.lt, h.2.2.1.below hb, h.2.2.2.trans (hb.mono h.2.2.2.size)⟩
theorem Mid.alloc {w wr W : World} {cs : Array Value} {l : List UInt8} (h : Mid w wr cs l W) (o : Obj) : Mid w wr cs l (W.alloc o) := h.below ((Below.refl _ _).alloc (Nat.le_refl _) o)
theorem mid_drew {w wr W : World} {cs : Array Value} {l : List UInt8} (h : Mid w wr cs l W) : Mid w wr cs l W.drew := h.below (Below.refl W.heap.size W).drew
theorem mid_write {w wr W W' : World} {cs : Array Value} {l l' : List UInt8} (h : Mid w wr cs l W) (hlt : w.heap.size < wr.heap.size) (hg : 2 < w.heap.size ∧ 0 < w.heap.size) (h1 : Bld W' w.heap.size w.heap.size l') (h2 : Below w.heap.size W W') (h3 : Lib.OthersKept 5 (some w.heap.size) W W') : Mid w wr cs l' W' := by
  have hv := h.2.2.1
  refine ⟨h1, h.2.1.others h3 (by omega) (by decide), ⟨var_below h2 gPow hg.1 hv.pow, fun j u hu => (h2.cell (p := ⟨0, j, none⟩) hg.2).trans (hv.words j u hu), Nat.lt_of_lt_of_le hg.1 (Nat.le_trans h.2.2.2.size h2.size), Nat.lt_of_lt_of_le hg.2 (Nat.le_trans h.2.2.2.size h2.size)⟩, h.2.2.2.trans h2⟩
theorem mid_str {w wr W : World} {cs : Array Value} {l : List UInt8} (h : Mid w wr cs l W) (hlt : w.heap.size < wr.heap.size) (hg : 2 < w.heap.size ∧ 0 < w.heap.size) (s : List UInt8) (X : ByteArray) (hX : X = str s) (hl : l.length ≤ 1100000) (hs : s.length ≤ 1100000) :
    Calls Tryd.prog 100 #[.pointer (some ⟨w.heap.size, 0, none⟩), .string X] W fun e W' => e = .returned (.tuple #[.int .i64 s.length, .nilIface]) ∧ Mid w wr cs (l ++ s) W' := by
  subst hX
  refine (write_str w.heap.size w.heap.size l s W h.1 (by omega) h.2.2.2.size).mono ?_
  rintro e W' ⟨rfl, h1, h2, h3⟩
  exact ⟨rfl, mid_write h hlt hg h1 h2 h3⟩
theorem mid_byte {w wr W : World} {cs : Array Value} {l : List UInt8} (h : Mid w wr cs l W) (hlt : w.heap.size < wr.heap.size) (hg : 2 < w.heap.size ∧ 0 < w.heap.size) (hl : l.length ≤ 1100000) :
    Calls Tryd.prog 101 #[.pointer (some ⟨w.heap.size, 0, none⟩), .int .u8 10] W fun e W' => e = .returned .nilIface ∧ Mid w wr cs (l ++ [10]) W' := by
  refine (write_byte w.heap.size w.heap.size l 10 W h.1 (by omega) h.2.2.2.size).mono ?_
  rintro e W' ⟨rfl, h1, h2, h3⟩
  exact ⟨rfl, mid_write h hlt hg h1 h2 h3⟩
theorem mid_itoa {w wr W : World} {cs : Array Value} {l : List UInt8} (h : Mid w wr cs l W) (i : Int) (h0 : 0 ≤ i) (h1 : i ≤ 9223372036854775807) :
    Calls Tryd.prog 45 #[.int .i64 i] W fun e W' => e = .returned (.string (str (Lib.decDigits i.toNat))) ∧ Mid w wr cs l W' :=
  (itoa_pos i W h0 h1 h.2.2.1).mono fun _ _ ⟨he, hb⟩ => ⟨he, h.below hb⟩
theorem mid_cells {w wr W : World} {p i e x : Int} {l : List UInt8} (h : Mid w wr #[.int .i64 p, .int .i64 i, .int .i64 e, .int .i64 x] l W) : W.cell? ⟨wr.heap.size, 0, none⟩ = some (.int .i64 p) ∧ W.cell? ⟨wr.heap.size, 1, none⟩ = some (.int .i64 i) ∧ W.cell? ⟨wr.heap.size, 2, none⟩ = some (.int .i64 e) ∧ W.cell? ⟨wr.heap.size, 3, none⟩ = some (.int .i64 x) :=
  ⟨(h.2.1.cell 0).trans rfl, (h.2.1.cell 1).trans rfl, (h.2.1.cell 2).trans rfl, (h.2.1.cell 3).trans rfl⟩
def MidX (w wr : World) (cs : Array Value) (W : World) : Prop := ∃ l, Mid w wr cs l W
theorem midx {w wr W : World} {p i e x : Int} {l : List UInt8} (h : Mid w wr #[.int .i64 p, .int .i64 i, .int .i64 e, .int .i64 x] l W) : W.cell? ⟨wr.heap.size, 0, none⟩ = some (.int .i64 p) ∧ W.cell? ⟨wr.heap.size, 1, none⟩ = some (.int .i64 i) ∧ W.cell? ⟨wr.heap.size, 2, none⟩ = some (.int .i64 e) ∧ W.cell? ⟨wr.heap.size, 3, none⟩ = some (.int .i64 x) ∧ MidX w wr #[.int .i64 p, .int .i64 i, .int .i64 e, .int .i64 x] W :=
  ⟨(h.2.1.cell 0).trans rfl, (h.2.1.cell 1).trans rfl, (h.2.1.cell 2).trans rfl, (h.2.1.cell 3).trans rfl, ⟨l, h⟩⟩
set_option maxRecDepth 100000 in
set_option maxHeartbeats 8000000 in
theorem rep_text (A : Option Addr) (c : Nat) (L : List P32.CV) (w : World) (hl : L.length ≤ 1000) (hC : ChIn w A L) (hok : ChOk L) (hv : Vars w) :
    Calls Tryd.prog 71 #[.slice A L.length c] w fun e w' => e = .returned (.tuple #[.string (str (P32.text L).1), .int .i64 (P32.text L).2]) ∧ Below w.heap.size w w' := by
  have hli : (L.length : Int) ≤ 1000 := by omega
  have HOK := Lib.hid hok
  have HV := Lib.hid hv
  have HG := Lib.hid hv.big
  clear hok hv
  obtain ⟨R, hR⟩ : ∃ R, P32.text L = R := ⟨_, rfl⟩
  rw [hR]
  have HR := Lib.hid hR
  clear hR
  have hC0 := hC
  have hB0 := bld_new w
  have hb0 := (Below.refl w.heap.size w).alloc (Nat.le_refl _) (.cells #[.pointer none, .slice none 0 0] 158)
  go_enter Tryd.func71, Tryd.ntmps71
  go_wp2_with fail
  go_loopw [11] (fun i wr => ∃ k : Nat, k ≤ L.length ∧ i = .int .i64 k ∧ Bld wr w.heap.size w.heap.size ((L.take k).flatMap P32.line) ∧ Hid (RtTo L k) ∧ Below w.heap.size w wr) (fun i _ => L.length - (intOf i).toNat)
  case atStart => exact ⟨0, Nat.zero_le _, rfl, hB0, Lib.hid (fun j c h => by omega), hb0⟩
  case round =>
    clear hB0 hb0
    obtain ⟨k, hk, rfl, hB, HT, hb⟩ := hrel
    have HC := Lib.hid (hC0.below hb)
    have hlt0 := bld_lt hB
    clear hC hC0
    by_cases hlt : k < L.length
    · obtain ⟨cv, hcv⟩ : ∃ cv, L[k]? = some cv := ⟨_, List.getElem?_eq_getElem hlt⟩
      obtain ⟨g, o, rfl, hg, hat⟩ := HC.out k cv hcv
      have HAT := Lib.hid hat
      have HN := Lib.hid (fun q => (text_no hcv q).symm.trans HR.out)
      have HF := Lib.hid (flat_take P32.line L k cv hcv)
      have hL1 : ((L.take k).flatMap P32.line).length ≤ 100000 := by
        have q := flat_len (L.take k) (fun d hd => HOK.out d (List.mem_of_mem_take hd))
        have := List.length_take_le k L
        omega
      obtain ⟨hp, hi, he, hx⟩ := HOK.out cv (List.mem_of_getElem? hcv)
      have HT2 := Lib.hid (fun hr => HT.out.succ hcv hr)
      have HLW := Lib.hid (line_words cv)
      clear hat hcv HC
      obtain ⟨p, i, e, x⟩ := cv
      simp only at hp hi he hx
      have a0 : wr.cell? ⟨g, o + k * 4, none⟩ = some (.int .i64 p) := HAT.out 0 _ rfl
      have a1 : wr.cell? ⟨g, o + k * 4 + 1, none⟩ = some (.int .i64 i) := HAT.out 1 _ rfl
      have a2 : wr.cell? ⟨g, o + k * 4 + 2, none⟩ = some (.int .i64 e) := HAT.out 2 _ rfl
      have a3 : wr.cell? ⟨g, o + k * 4 + 3, none⟩ = some (.int .i64 x) := HAT.out 3 _ rfl
      have hki : (k : Int) < (L.length : Int) := by omega
      generalize hS : (L.take k).flatMap P32.line = S at *
      clear hS
      have HM0 : Hid (Mid w wr #[.int .i64 p, .int .i64 i, .int .i64 e, .int .i64 x] S (wr.alloc (.cells #[.int .i64 p, .int .i64 i, .int .i64 e, .int .i64 x] 87))) := Lib.hid ⟨bld_alloc hB _, Blk.new wr _ _, (HV.out.below hb).below ((Below.refl _ _).alloc (Nat.le_refl _) _), hb.alloc hb.size _⟩
      obtain ⟨RR, hRR⟩ : ∃ RR, RR = decide (P32.right ⟨p, i, e, x⟩) := ⟨_, rfl⟩
      have HRR := Lib.hid hRR
      have cR := Lib.hid (fun W => right_any p i e x RR HRR.out W hx)
      clear hRR hB hb HAT HOK
      go_wp2_with fail
      refine (cR.out _).mono ?_
      rintro en w1 ⟨rfl, hc1⟩
      have HM1 := Lib.hid (HM0.out.below hc1)
      clear hc1 HM0 cR a0 a1 a2 a3
      cases RR with
      | false =>
        have hn : ¬ P32.right ⟨p, i, e, x⟩ := of_decide_eq_false HRR.out.symm
        obtain rfl : R = ([], 2) := (HN.out hn).symm
        have hbf := HM1.out.2.2.2
        clear HN HF HT2 HR HT HLW hn HM1 HRR
        go_wp2_with fail
        go_ret2
        exact ⟨rfl, hbf⟩
      | true =>
        have hr : P32.right ⟨p, i, e, x⟩ := of_decide_eq_true HRR.out.symm
        have HT3 := HT2.out hr
        have hl2 := HLW.out hr
        have hx2 : 0 ≤ x ∧ x ≤ 31 := by rcases hr with h | h <;> (simp only [P32.rightR, P32.rightE] at h; omega)
        clear HN HT2 HT HLW HRR HR
        obtain ⟨k0, k1, k2, k3⟩ := mid_cells HM1.out
        obtain ⟨HD, hHD⟩ : ∃ HD : List UInt8, HD = (if p = 1 then [114, 117, 108, 101, 32] ++ Lib.decDigits i.toNat else [101, 114, 97, 32] ++ Lib.decDigits i.toNat ++ [32] ++ Lib.decDigits e.toNat) := ⟨_, rfl⟩
        have HHD := Lib.hid hHD
        have HF2 : Hid ((L.take (k + 1)).flatMap P32.line = S ++ (HD ++ (wordsL x 5 ++ [10]))) := Lib.hid (by rw [HF.out, hl2, hHD])
        have hHl : HD.length ≤ 100 := by
          have d1 := dec_le i.toNat (by omega)
          have d2 := dec_le e.toNat (by omega)
          rw [hHD]; split <;> simp <;> omega
        clear hHD HF hl2
        go_upto_if 21 with (fail)
        go_cut [] (fun wx => Mid w wr #[.int .i64 p, .int .i64 i, .int .i64 e, .int .i64 x] (S ++ HD) wx)
        case first =>
          rcases hr with hr | hr
          · obtain ⟨rfl, h1, h2, h3, h4⟩ := hr
            simp only at h1 h2 h3 h4
            obtain rfl : HD = [114, 117, 108, 101, 32] ++ Lib.decDigits i.toNat := HHD.out.trans (if_pos rfl)
            have l1 : (str (Lib.decDigits i.toNat)).size ≤ 19 := dec_le _ (by omega)
            have l2 : (Lib.decDigits i.toNat).length ≤ 19 := dec_le _ (by omega)
            have cI := Lib.hid (mid_itoa HM1.out i h1 hi.2)
            have cW : Hid (∀ W, Mid w wr #[.int .i64 1, .int .i64 i, .int .i64 e, .int .i64 x] S W → Calls Tryd.prog 100 #[.pointer (some ⟨w.heap.size, 0, none⟩), .string (⟨#[114, 117, 108, 101, 32]⟩ ++ str (Lib.decDigits i.toNat))] W fun en W' => en = .returned (.tuple #[.int .i64 ([114, 117, 108, 101, 32] ++ Lib.decDigits i.toNat).length, .nilIface]) ∧ Mid w wr #[.int .i64 1, .int .i64 i, .int .i64 e, .int .i64 x] (S ++ ([114, 117, 108, 101, 32] ++ Lib.decDigits i.toNat)) W') := Lib.hid (fun W h => mid_str h hlt0 HG.out ([114, 117, 108, 101, 32] ++ Lib.decDigits i.toNat) _ (lit_app _ _ _ rfl) (by omega) (by simp; omega))
            clear h2 h3 h4 HHD HF2
            go_wp2_with fail
            refine cI.out.mono ?_
            rintro en w2 ⟨rfl, hM2⟩
            have HM2 := Lib.hid hM2
            clear hM2 cI
            go_wp2_with fail
            refine (cW.out _ HM2.out).mono ?_
            rintro en w3 ⟨rfl, hM3⟩
            have HM3 := Lib.hid hM3
            clear hM3 cW
            go_wp2_with fail
            go_meet
            exact HM3.out
          · obtain ⟨h0, h1, h2, h3, h4, h5⟩ := hr
            simp only at h0 h1 h2 h3 h4 h5
            obtain rfl : HD = [101, 114, 97, 32] ++ Lib.decDigits i.toNat ++ [32] ++ Lib.decDigits e.toNat := HHD.out.trans (if_neg (by omega))
            have l1 : (str (Lib.decDigits i.toNat)).size ≤ 19 := dec_le _ (by omega)
            have l2 : (str (Lib.decDigits e.toNat)).size ≤ 19 := dec_le _ (by omega)
            have l3 : (Lib.decDigits i.toNat).length ≤ 19 := dec_le _ (by omega)
            have l4 : (Lib.decDigits e.toNat).length ≤ 19 := dec_le _ (by omega)
            have bp : (p == 1) = false := by simp; omega
            have cW : Hid (∀ W, Mid w wr #[.int .i64 p, .int .i64 i, .int .i64 e, .int .i64 x] S W → Calls Tryd.prog 100 #[.pointer (some ⟨w.heap.size, 0, none⟩), .string (((⟨#[101, 114, 97, 32]⟩ ++ str (Lib.decDigits i.toNat)) ++ ⟨#[32]⟩) ++ str (Lib.decDigits e.toNat))] W fun en W' => en = .returned (.tuple #[.int .i64 ([101, 114, 97, 32] ++ Lib.decDigits i.toNat ++ [32] ++ Lib.decDigits e.toNat).length, .nilIface]) ∧ Mid w wr #[.int .i64 p, .int .i64 i, .int .i64 e, .int .i64 x] (S ++ ([101, 114, 97, 32] ++ Lib.decDigits i.toNat ++ [32] ++ Lib.decDigits e.toNat)) W') := Lib.hid (fun W h => mid_str h hlt0 HG.out _ _ (by rw [show (⟨#[101, 114, 97, 32]⟩ : ByteArray) = str [101, 114, 97, 32] from rfl, show (⟨#[32]⟩ : ByteArray) = str [32] from rfl, str_append, str_append, str_append]) (by omega) (by simp; omega))
            have hM1 := HM1.out
            have HS := Lib.hid (midx HM1.out)
            clear h0 h3 h4 h5 HHD HF2
            go_wp2_with fail
            have z0 : (⟨#[101, 114, 97, 32]⟩ : ByteArray).size = 4 := rfl
            have z1 : (⟨#[32]⟩ : ByteArray).size = 1 := rfl
            have z2 : (⟨#[101, 114, 97, 32]⟩ ++ str (Lib.decDigits i.toNat)).size ≤ 30 := by rw [ByteArray.size_append]; omega
            have z3 : (⟨#[101, 114, 97, 32]⟩ ++ str (Lib.decDigits i.toNat) ++ ⟨#[32]⟩).size ≤ 31 := by rw [ByteArray.size_append]; omega
            have q1 : ∀ W, (Op.stringOp .add ⟨#[101, 114, 97, 32]⟩ (str (Lib.decDigits i.toNat))).run Tryd.prog W = .ok (.string (⟨#[101, 114, 97, 32]⟩ ++ str (Lib.decDigits i.toNat))) W := fun W => run_string_add_sum (w := W) _ _ (by omega)
            have q2 : ∀ W, (Op.stringOp .add (⟨#[101, 114, 97, 32]⟩ ++ str (Lib.decDigits i.toNat)) ⟨#[32]⟩).run Tryd.prog W = .ok (.string (⟨#[101, 114, 97, 32]⟩ ++ str (Lib.decDigits i.toNat) ++ ⟨#[32]⟩)) W := fun W => run_string_add_sum (w := W) _ _ (by omega)
            have q3 : ∀ W, (Op.stringOp .add (⟨#[101, 114, 97, 32]⟩ ++ str (Lib.decDigits i.toNat) ++ ⟨#[32]⟩) (str (Lib.decDigits e.toNat))).run Tryd.prog W = .ok (.string (⟨#[101, 114, 97, 32]⟩ ++ str (Lib.decDigits i.toNat) ++ ⟨#[32]⟩ ++ str (Lib.decDigits e.toNat))) W := fun W => run_string_add_sum (w := W) _ _ (by omega)
            clear z0 z1 z2 z3
            go_region_held3 (fun W => W.cell? ⟨wr.heap.size, 0, none⟩ = some (.int .i64 p) ∧ W.cell? ⟨wr.heap.size, 1, none⟩ = some (.int .i64 i) ∧ W.cell? ⟨wr.heap.size, 2, none⟩ = some (.int .i64 e) ∧ W.cell? ⟨wr.heap.size, 3, none⟩ = some (.int .i64 x) ∧ MidX w wr #[.int .i64 p, .int .i64 i, .int .i64 e, .int .i64 x] W) (first | exact midx (by assumption) | exact midx (mid_drew (by assumption)) | exact HS.out)
              (first | (go_at_call 45; with_reducible refine (mid_itoa (by first | assumption | exact mid_drew (by assumption)) i h1 hi.2).mono ?_; rintro en w' ⟨rfl, hMq⟩; clear hM1) | (go_at_call 45; with_reducible refine (mid_itoa (by first | assumption | exact mid_drew (by assumption)) e h2 he.2).mono ?_; rintro en w' ⟨rfl, hMr⟩; clear hMq) | (go_at_call 100; refine (cW.out _ (by first | assumption | exact mid_drew (by assumption))).mono ?_; rintro en w' ⟨rfl, hMz⟩; clear hMr))
            all_goals
              go_wp2_with fail
              go_meet
              assumption
        case rest =>
          clear k0 k1 k2 k3 HM1
          have HM2 := Lib.hid hcut
          have HMW := Lib.hid hcut.2.2.1.words
          clear hcut
          have g0 : wc.cell? ⟨0, 0, none⟩ = some (.int .i64 1) := HMW.out 0 _ rfl
          have g1 : wc.cell? ⟨0, 1, none⟩ = some (.string ⟨#[115, 97, 118, 101]⟩) := HMW.out 1 _ rfl
          have g2 : wc.cell? ⟨0, 2, none⟩ = some (.int .i64 2) := HMW.out 2 _ rfl
          have g3 : wc.cell? ⟨0, 3, none⟩ = some (.string ⟨#[97, 116]⟩) := HMW.out 3 _ rfl
          have g4 : wc.cell? ⟨0, 4, none⟩ = some (.int .i64 4) := HMW.out 4 _ rfl
          have g5 : wc.cell? ⟨0, 5, none⟩ = some (.string ⟨#[111, 102, 102]⟩) := HMW.out 5 _ rfl
          have g6 : wc.cell? ⟨0, 6, none⟩ = some (.int .i64 8) := HMW.out 6 _ rfl
          have g7 : wc.cell? ⟨0, 7, none⟩ = some (.string ⟨#[102, 111, 114, 109, 97, 116]⟩) := HMW.out 7 _ rfl
          have g8 : wc.cell? ⟨0, 8, none⟩ = some (.int .i64 16) := HMW.out 8 _ rfl
          have g9 : wc.cell? ⟨0, 9, none⟩ = some (.string ⟨#[117, 110, 116, 105, 108]⟩) := HMW.out 9 _ rfl
          clear HMW
          go_wp2_with fail
          clear g0 g1 g2 g3 g4 g5 g6 g7 g8 g9
          obtain ⟨v, hvv⟩ : ∃ v : World, v = wr := ⟨_, rfl⟩
          subst hvv
          go_loopw [41] (fun j wq => ∃ m : Nat, m ≤ 5 ∧ j = .int .i64 m ∧ Mid w v #[.int .i64 p, .int .i64 i, .int .i64 e, .int .i64 x] (S ++ HD ++ wordsL x m) wq) (fun j _ => 5 - (intOf j).toNat)
          case atStart => exact ⟨0, by omega, rfl, by rw [show wordsL x 0 = [] from rfl, List.append_nil]; exact HM2.out⟩
          case round =>
            clear HM2
            obtain ⟨m, hm, rfl, hM⟩ := hrel
            have HM := Lib.hid hM
            obtain ⟨k0, k1, k2, k3⟩ := mid_cells hM
            have hlv := hM.2.1.lt
            clear hM
            rcases (by omega : m = 0 ∨ m = 1 ∨ m = 2 ∨ m = 3 ∨ m = 4 ∨ m = 5) with rfl | rfl | rfl | rfl | rfl | rfl
            · have hbt := bits_bit x hx2.1 hx2.2 1 (by decide)
              have HW : Hid (wordsL x 1 = wordsL x 0 ++ P32.wordL (P32.bit x 1) [115, 97, 118, 101]) := Lib.hid (wordsL_succ x 0 (1, [115, 97, 118, 101]) rfl)
              have hwl := wordsL_len x 0
              have hix := idx5_0
              generalize P32.bit x 1 = bb at hbt HW
              cases bb with
              | false =>
                go_wp2_with fail
                go_roundw
                case rel => exact ⟨1, by omega, by go_num, by rw [HW.out, show P32.wordL false [115, 97, 118, 101] = [] from rfl, List.append_nil]; exact HM.out.alloc _⟩
                case measure => simp [intOf]
              | true =>
                have cW : Hid (∀ W, Mid w v #[.int .i64 p, .int .i64 i, .int .i64 e, .int .i64 x] (S ++ HD ++ wordsL x 0) W → Calls Tryd.prog 100 #[.pointer (some ⟨w.heap.size, 0, none⟩), .string (⟨#[32]⟩ ++ ⟨#[115, 97, 118, 101]⟩)] W fun en W' => en = .returned (.tuple #[.int .i64 (32 :: [115, 97, 118, 101] : List UInt8).length, .nilIface]) ∧ Mid w v #[.int .i64 p, .int .i64 i, .int .i64 e, .int .i64 x] (S ++ HD ++ wordsL x 0 ++ 32 :: [115, 97, 118, 101]) W') := Lib.hid (fun W h => mid_str h hlt0 HG.out (32 :: [115, 97, 118, 101]) _ (by rfl) (by simp only [List.length_append]; omega) (by simp))
                have HMa := Lib.hid (HM.out.alloc (.cells #[.int .i64 1, .string ⟨#[115, 97, 118, 101]⟩] 164))
                go_wp2_with fail
                refine (cW.out _ HMa.out).mono ?_
                rintro en w4 ⟨rfl, hM4⟩
                have HM4 := Lib.hid hM4
                clear hM4 cW HMa HM k0 k1 k2 k3
                go_wp2_with fail
                go_roundw
                case rel => exact ⟨1, by omega, by go_num, by rw [HW.out, show P32.wordL true [115, 97, 118, 101] = 32 :: [115, 97, 118, 101] from rfl, ← List.append_assoc]; exact HM4.out⟩
                case measure => simp [intOf]
            · have hbt := bits_bit x hx2.1 hx2.2 2 (by decide)
              have HW : Hid (wordsL x 2 = wordsL x 1 ++ P32.wordL (P32.bit x 2) [97, 116]) := Lib.hid (wordsL_succ x 1 (2, [97, 116]) rfl)
              have hwl := wordsL_len x 1
              have hix := idx5_1
              generalize P32.bit x 2 = bb at hbt HW
              cases bb with
              | false =>
                go_wp2_with fail
                go_roundw
                case rel => exact ⟨2, by omega, by go_num, by rw [HW.out, show P32.wordL false [97, 116] = [] from rfl, List.append_nil]; exact HM.out.alloc _⟩
                case measure => simp [intOf]
              | true =>
                have cW : Hid (∀ W, Mid w v #[.int .i64 p, .int .i64 i, .int .i64 e, .int .i64 x] (S ++ HD ++ wordsL x 1) W → Calls Tryd.prog 100 #[.pointer (some ⟨w.heap.size, 0, none⟩), .string (⟨#[32]⟩ ++ ⟨#[97, 116]⟩)] W fun en W' => en = .returned (.tuple #[.int .i64 (32 :: [97, 116] : List UInt8).length, .nilIface]) ∧ Mid w v #[.int .i64 p, .int .i64 i, .int .i64 e, .int .i64 x] (S ++ HD ++ wordsL x 1 ++ 32 :: [97, 116]) W') := Lib.hid (fun W h => mid_str h hlt0 HG.out (32 :: [97, 116]) _ (by rfl) (by simp only [List.length_append]; omega) (by simp))
                have HMa := Lib.hid (HM.out.alloc (.cells #[.int .i64 2, .string ⟨#[97, 116]⟩] 164))
                go_wp2_with fail
                refine (cW.out _ HMa.out).mono ?_
                rintro en w4 ⟨rfl, hM4⟩
                have HM4 := Lib.hid hM4
                clear hM4 cW HMa HM k0 k1 k2 k3
                go_wp2_with fail
                go_roundw
                case rel => exact ⟨2, by omega, by go_num, by rw [HW.out, show P32.wordL true [97, 116] = 32 :: [97, 116] from rfl, ← List.append_assoc]; exact HM4.out⟩
                case measure => simp [intOf]
            · have hbt := bits_bit x hx2.1 hx2.2 4 (by decide)
              have HW : Hid (wordsL x 3 = wordsL x 2 ++ P32.wordL (P32.bit x 4) [111, 102, 102]) := Lib.hid (wordsL_succ x 2 (4, [111, 102, 102]) rfl)
              have hwl := wordsL_len x 2
              have hix := idx5_2
              generalize P32.bit x 4 = bb at hbt HW
              cases bb with
              | false =>
                go_wp2_with fail
                go_roundw
                case rel => exact ⟨3, by omega, by go_num, by rw [HW.out, show P32.wordL false [111, 102, 102] = [] from rfl, List.append_nil]; exact HM.out.alloc _⟩
                case measure => simp [intOf]
              | true =>
                have cW : Hid (∀ W, Mid w v #[.int .i64 p, .int .i64 i, .int .i64 e, .int .i64 x] (S ++ HD ++ wordsL x 2) W → Calls Tryd.prog 100 #[.pointer (some ⟨w.heap.size, 0, none⟩), .string (⟨#[32]⟩ ++ ⟨#[111, 102, 102]⟩)] W fun en W' => en = .returned (.tuple #[.int .i64 (32 :: [111, 102, 102] : List UInt8).length, .nilIface]) ∧ Mid w v #[.int .i64 p, .int .i64 i, .int .i64 e, .int .i64 x] (S ++ HD ++ wordsL x 2 ++ 32 :: [111, 102, 102]) W') := Lib.hid (fun W h => mid_str h hlt0 HG.out (32 :: [111, 102, 102]) _ (by rfl) (by simp only [List.length_append]; omega) (by simp))
                have HMa := Lib.hid (HM.out.alloc (.cells #[.int .i64 4, .string ⟨#[111, 102, 102]⟩] 164))
                go_wp2_with fail
                refine (cW.out _ HMa.out).mono ?_
                rintro en w4 ⟨rfl, hM4⟩
                have HM4 := Lib.hid hM4
                clear hM4 cW HMa HM k0 k1 k2 k3
                go_wp2_with fail
                go_roundw
                case rel => exact ⟨3, by omega, by go_num, by rw [HW.out, show P32.wordL true [111, 102, 102] = 32 :: [111, 102, 102] from rfl, ← List.append_assoc]; exact HM4.out⟩
                case measure => simp [intOf]
            · have hbt := bits_bit x hx2.1 hx2.2 8 (by decide)
              have HW : Hid (wordsL x 4 = wordsL x 3 ++ P32.wordL (P32.bit x 8) [102, 111, 114, 109, 97, 116]) := Lib.hid (wordsL_succ x 3 (8, [102, 111, 114, 109, 97, 116]) rfl)
              have hwl := wordsL_len x 3
              have hix := idx5_3
              generalize P32.bit x 8 = bb at hbt HW
              cases bb with
              | false =>
                go_wp2_with fail
                go_roundw
                case rel => exact ⟨4, by omega, by go_num, by rw [HW.out, show P32.wordL false [102, 111, 114, 109, 97, 116] = [] from rfl, List.append_nil]; exact HM.out.alloc _⟩
                case measure => simp [intOf]
              | true =>
                have cW : Hid (∀ W, Mid w v #[.int .i64 p, .int .i64 i, .int .i64 e, .int .i64 x] (S ++ HD ++ wordsL x 3) W → Calls Tryd.prog 100 #[.pointer (some ⟨w.heap.size, 0, none⟩), .string (⟨#[32]⟩ ++ ⟨#[102, 111, 114, 109, 97, 116]⟩)] W fun en W' => en = .returned (.tuple #[.int .i64 (32 :: [102, 111, 114, 109, 97, 116] : List UInt8).length, .nilIface]) ∧ Mid w v #[.int .i64 p, .int .i64 i, .int .i64 e, .int .i64 x] (S ++ HD ++ wordsL x 3 ++ 32 :: [102, 111, 114, 109, 97, 116]) W') := Lib.hid (fun W h => mid_str h hlt0 HG.out (32 :: [102, 111, 114, 109, 97, 116]) _ (by rfl) (by simp only [List.length_append]; omega) (by simp))
                have HMa := Lib.hid (HM.out.alloc (.cells #[.int .i64 8, .string ⟨#[102, 111, 114, 109, 97, 116]⟩] 164))
                go_wp2_with fail
                refine (cW.out _ HMa.out).mono ?_
                rintro en w4 ⟨rfl, hM4⟩
                have HM4 := Lib.hid hM4
                clear hM4 cW HMa HM k0 k1 k2 k3
                go_wp2_with fail
                go_roundw
                case rel => exact ⟨4, by omega, by go_num, by rw [HW.out, show P32.wordL true [102, 111, 114, 109, 97, 116] = 32 :: [102, 111, 114, 109, 97, 116] from rfl, ← List.append_assoc]; exact HM4.out⟩
                case measure => simp [intOf]
            · have hbt := bits_bit x hx2.1 hx2.2 16 (by decide)
              have HW : Hid (wordsL x 5 = wordsL x 4 ++ P32.wordL (P32.bit x 16) [117, 110, 116, 105, 108]) := Lib.hid (wordsL_succ x 4 (16, [117, 110, 116, 105, 108]) rfl)
              have hwl := wordsL_len x 4
              have hix := idx5_4
              generalize P32.bit x 16 = bb at hbt HW
              cases bb with
              | false =>
                go_wp2_with fail
                go_roundw
                case rel => exact ⟨5, by omega, by go_num, by rw [HW.out, show P32.wordL false [117, 110, 116, 105, 108] = [] from rfl, List.append_nil]; exact HM.out.alloc _⟩
                case measure => simp [intOf]
              | true =>
                have cW : Hid (∀ W, Mid w v #[.int .i64 p, .int .i64 i, .int .i64 e, .int .i64 x] (S ++ HD ++ wordsL x 4) W → Calls Tryd.prog 100 #[.pointer (some ⟨w.heap.size, 0, none⟩), .string (⟨#[32]⟩ ++ ⟨#[117, 110, 116, 105, 108]⟩)] W fun en W' => en = .returned (.tuple #[.int .i64 (32 :: [117, 110, 116, 105, 108] : List UInt8).length, .nilIface]) ∧ Mid w v #[.int .i64 p, .int .i64 i, .int .i64 e, .int .i64 x] (S ++ HD ++ wordsL x 4 ++ 32 :: [117, 110, 116, 105, 108]) W') := Lib.hid (fun W h => mid_str h hlt0 HG.out (32 :: [117, 110, 116, 105, 108]) _ (by rfl) (by simp only [List.length_append]; omega) (by simp))
                have HMa := Lib.hid (HM.out.alloc (.cells #[.int .i64 16, .string ⟨#[117, 110, 116, 105, 108]⟩] 164))
                go_wp2_with fail
                refine (cW.out _ HMa.out).mono ?_
                rintro en w4 ⟨rfl, hM4⟩
                have HM4 := Lib.hid hM4
                clear hM4 cW HMa HM k0 k1 k2 k3
                go_wp2_with fail
                go_roundw
                case rel => exact ⟨5, by omega, by go_num, by rw [HW.out, show P32.wordL true [117, 110, 116, 105, 108] = 32 :: [117, 110, 116, 105, 108] from rfl, ← List.append_assoc]; exact HM4.out⟩
                case measure => simp [intOf]
            · have hwl := wordsL_len x 5
              have cB := Lib.hid (mid_byte HM.out hlt0 HG.out (by simp only [List.length_append]; omega))
              clear k0 k1 k2 k3
              go_wp2_with fail
              refine cB.out.mono ?_
              rintro en w5 ⟨rfl, hM5⟩
              have HM5 : Hid (Mid w v #[.int .i64 p, .int .i64 i, .int .i64 e, .int .i64 x] ((L.take (k + 1)).flatMap P32.line) w5) := Lib.hid (by rw [HF2.out, ← List.append_assoc, ← List.append_assoc]; exact hM5)
              clear hM5 cB HM
              go_wp2_with fail
              go_roundw
              case rel => exact ⟨k + 1, by omega, by go_num, HM5.out.1, Lib.hid HT3, HM5.out.2.2.2⟩
              case measure => simp [intOf]; omega
    · obtain rfl : k = L.length := by omega
      have hki : ¬ (L.length : Int) < (L.length : Int) := by omega
      obtain rfl : R = (L.flatMap P32.line, 0) := HR.out.symm.trans (text_ok (all_upto HT.out))
      rw [List.take_length] at hB
      have cS := Lib.hid (Tryd.Builder_String_any_k w.heap.size w.heap.size (L.flatMap P32.line) wr hB hb.size)
      clear hB
      go_wp2_with fail
      refine cS.out.mono ?_
      rintro en w2 ⟨rfl, _, hc2, _⟩
      go_wp2_with fail
      go_ret2
      exact ⟨rfl, hb.trans hc2⟩
end Go.Proofs.YtlideagcmhlkeaaDoor
