/- The walk of the reference's Compare (chapter 32). -/
import Derived.Test.YtggdfgdnpicepaaDoorRep32g0
import Derived.BigQuiet
import Derived.Deep.QuietTactic
namespace Go.Proofs.YtggdfgdnpicepaaDoor
open Go.RowKit
set_option linter.unusedVariables false
attribute [local go_sem ↓] Go.wp_at_zero Go.wp_at_succ
attribute [local go_sem high] guard_link

/-- the row of the changes, in a slot -/
def RowIs (W : World) (base : Nat) (v : Value) (l : List P32.CV) : Prop := W.ownsRow base 50 4 v l.length (ccells l)
theorem RowIs.below {W W' : World} {base : Nat} {v : Value} {l : List P32.CV} (h : RowIs W base v l) (hb : Below W.heap.size W W') : RowIs W' base v l := own_below h hb
theorem row_ch {W : World} {base : Nat} {v : Value} {l : List P32.CV} (h : RowIs W base v l) : ∃ A c, v = .slice A l.length c ∧ ChIn W A l := by
  by_cases h0 : 0 < l.length
  · obtain ⟨B, cap, hv, hB, hlt, hcap, hc⟩ := own_form h h0
    refine ⟨some ⟨B, 0, none⟩, cap, hv, fun k r hr => ⟨B, 0, rfl, hlt, fun j u hu => ?_⟩⟩
    rw [Nat.zero_add]
    exact hc _ _ ((ccells_at l k j r (by have := (List.getElem?_eq_some_iff.mp hu).1; simpa [P32.CV.cells] using this) hr).trans hu)
  · have hl : l = [] := List.eq_nil_of_length_eq_zero (by omega)
    subst hl
    rcases h.2 with ⟨hv, _⟩ | ⟨g, cap, cur, hv, _⟩
    · exact ⟨none, 0, hv, CellsIn.nil W none⟩
    · exact ⟨some ⟨g, 0, none⟩, cap, hv, CellsIn.nil W _⟩
theorem row_more {W W' : World} {base N : Nat} {v v1 : Value} {l : List P32.CV} {c : P32.CV} {o : Obj} (hb : Below base W W') : True := trivial
/-- the two sources stand in their boxes -/
def Boxes (a b : SV) (w W : World) : Prop := Blk W w.heap.size 27 #[.slice a.rA a.rules.length a.rc, .slice a.zA a.zones.length a.zc, .slice a.kA a.links.length a.kc, .slice a.hA a.shifts.length a.hc] ∧ Blk W (w.heap.size + 1) 27 #[.slice b.rA b.rules.length b.rc, .slice b.zA b.zones.length b.zc, .slice b.kA b.links.length b.kc, .slice b.hA b.shifts.length b.hc] ∧ Below w.heap.size w W
theorem Boxes.below {a b : SV} {w W W' : World} (h : Boxes a b w W) (hb : Below W.heap.size W W') : Boxes a b w W' := ⟨h.1.below hb h.1.lt, h.2.1.below hb h.2.1.lt, h.2.2.trans (hb.mono h.2.2.size)⟩
theorem Boxes.alloc {a b : SV} {w W : World} (h : Boxes a b w W) (o : Obj) : Boxes a b w (W.alloc o) := h.below ((Below.refl _ _).alloc (Nat.le_refl _) o)
theorem Boxes.grown {a b : SV} {w W W' : World} {n size : Nat} {e : TypeId} {v : Value} {xs : List Value} (h : Boxes a b w W) (ho : W.ownsRow (w.heap.size + 2) e size v n xs) (hg : W.grownBy W' v.ownBlock) : Boxes a b w W' :=
  ⟨blk_grown h.1 ho hg (by omega), blk_grown h.2.1 ho hg (by omega), own_grown h.2.2 ho hg h.2.2.size (by omega)⟩
theorem Boxes.base {a b : SV} {w W : World} (h : Boxes a b w W) : w.heap.size + 2 ≤ W.heap.size := h.2.1.lt

set_option maxRecDepth 100000 in
set_option maxHeartbeats 16000000 in
theorem rcompare_any (a b : SV) (w : World) (hA : SrcIn w a) (hB : SrcIn w b) (hfa : few a) (hzb : SrcSz b) :
    Calls Tryd.prog 18 #[.agg #[.slice a.rA a.rules.length a.rc, .slice a.zA a.zones.length a.zc, .slice a.kA a.links.length a.kc, .slice a.hA a.shifts.length a.hc], .agg #[.slice b.rA b.rules.length b.rc, .slice b.zA b.zones.length b.zc, .slice b.kA b.links.length b.kc, .slice b.hA b.shifts.length b.hc]] w (CmpRes a b w) := by
  have hB1 := Blk.new w 27 #[.slice a.rA a.rules.length a.rc, .slice a.zA a.zones.length a.zc, .slice a.kA a.links.length a.kc, .slice a.hA a.shifts.length a.hc]
  have hb1 := (Below.refl w.heap.size w).alloc (Nat.le_refl _) (.cells #[.slice a.rA a.rules.length a.rc, .slice a.zA a.zones.length a.zc, .slice a.kA a.links.length a.kc, .slice a.hA a.shifts.length a.hc] 27)
  have hB1' := hB1.alloc (.cells #[.slice b.rA b.rules.length b.rc, .slice b.zA b.zones.length b.zc, .slice b.kA b.links.length b.kc, .slice b.hA b.shifts.length b.hc] 27)
  have hB2 := Blk.newAt (w.alloc (.cells #[.slice a.rA a.rules.length a.rc, .slice a.zA a.zones.length a.zc, .slice a.kA a.links.length a.kc, .slice a.hA a.shifts.length a.hc] 27)) (w.heap.size + 1) (by simp) 27 #[.slice b.rA b.rules.length b.rc, .slice b.zA b.zones.length b.zc, .slice b.kA b.links.length b.kc, .slice b.hA b.shifts.length b.hc]
  have hb2 := hb1.alloc hb1.size (.cells #[.slice b.rA b.rules.length b.rc, .slice b.zA b.zones.length b.zc, .slice b.kA b.links.length b.kc, .slice b.hA b.shifts.length b.hc] 27)
  have HX := Lib.hid (show Boxes a b w ((w.alloc (.cells #[.slice a.rA a.rules.length a.rc, .slice a.zA a.zones.length a.zc, .slice a.kA a.links.length a.kc, .slice a.hA a.shifts.length a.hc] 27)).alloc (.cells #[.slice b.rA b.rules.length b.rc, .slice b.zA b.zones.length b.zc, .slice b.kA b.links.length b.kc, .slice b.hA b.shifts.length b.hc] 27)) from ⟨hB1', hB2, hb2⟩)
  have HA := Lib.hid hA; have HB := Lib.hid hB; have HF := Lib.hid hfa; have HZB := Lib.hid hzb
  have ka0 := (HX.out.1.cell 0).trans rfl
  have kb0 := (HX.out.2.1.cell 0).trans rfl
  have ka1 := (HX.out.1.cell 1).trans rfl
  have kb1 := (HX.out.2.1.cell 1).trans rfl
  have ka2 := (HX.out.1.cell 2).trans rfl
  have kb2 := (HX.out.2.1.cell 2).trans rfl
  clear hB1 hb1 hB1' hB2 hb2 hA hB hfa hzb
  by_cases lrules : a.rules.length = b.rules.length
  rotate_left
  · have hbn : ((a.rules.length : Int) != (b.rules.length : Int)) = true := by rw [bne_iff_ne]; omega
    have HR : Hid (∀ W, Below w.heap.size w W → CmpRes a b w (.returned (.tuple #[.slice none 0 0, .int .i64 2])) W) := Lib.hid (fun W h => .inr ⟨fun q => lrules (q.1.1), rfl, h⟩)
    have HB2 := Lib.hid HX.out.2.2
    clear lrules HX HA HB HF HZB
    go_enter Tryd.func18, Tryd.ntmps18
    go_wp2_with fail
    go_ret2
    exact HR.out _ HB2.out
  have brules : ((a.rules.length : Int) != (b.rules.length : Int)) = false := by rw [bne_eq_false_iff_eq]; omega
  have Lrules := Lib.hid lrules
  clear lrules
  by_cases lzones : a.zones.length = b.zones.length
  rotate_left
  · have hbn : ((a.zones.length : Int) != (b.zones.length : Int)) = true := by rw [bne_iff_ne]; omega
    have HR : Hid (∀ W, Below w.heap.size w W → CmpRes a b w (.returned (.tuple #[.slice none 0 0, .int .i64 2])) W) := Lib.hid (fun W h => .inr ⟨fun q => lzones (q.2.1), rfl, h⟩)
    have HB2 := Lib.hid HX.out.2.2
    clear lzones HX HA HB HF HZB
    go_enter Tryd.func18, Tryd.ntmps18
    go_wp2_with fail
    go_ret2
    exact HR.out _ HB2.out
  have bzones : ((a.zones.length : Int) != (b.zones.length : Int)) = false := by rw [bne_eq_false_iff_eq]; omega
  have Lzones := Lib.hid lzones
  clear lzones
  by_cases llinks : a.links.length = b.links.length
  rotate_left
  · have hbn : ((a.links.length : Int) != (b.links.length : Int)) = true := by rw [bne_iff_ne]; omega
    have HR : Hid (∀ W, Below w.heap.size w W → CmpRes a b w (.returned (.tuple #[.slice none 0 0, .int .i64 2])) W) := Lib.hid (fun W h => .inr ⟨fun q => llinks (congrArg List.length q.2.2.2), rfl, h⟩)
    have HB2 := Lib.hid HX.out.2.2
    clear llinks HX HA HB HF HZB
    go_enter Tryd.func18, Tryd.ntmps18
    go_wp2_with fail
    go_ret2
    exact HR.out _ HB2.out
  have blinks : ((a.links.length : Int) != (b.links.length : Int)) = false := by rw [bne_eq_false_iff_eq]; omega
  have Llinks := Lib.hid llinks
  clear llinks
  have hr40 : (a.rules.length : Int) ≤ 40 := by have := HF.out.1; omega
  have hz10 : (a.zones.length : Int) ≤ 10 := by have := HF.out.2.1; omega
  have hl40 : (a.links.length : Int) ≤ 40 := by have := HF.out.2.2.1; omega
  go_enter Tryd.func18, Tryd.ntmps18
  go_wp2_with fail
  clear ka0 kb0 ka1 kb1 ka2 kb2
  go_loopw [6, 7] (fun v i W => ∃ k : Nat, k ≤ a.rules.length ∧ i = .int .i64 k ∧ RowIs W (w.heap.size + 2) v (P32.ch P32.diffR P32.mkR a.rules b.rules k) ∧ Boxes a b w W ∧ Hid (P32.okTo P32.sameR a.rules b.rules k)) (fun _ i _ => a.rules.length - (intOf i).toNat)
  case atStart => exact ⟨0, Nat.zero_le _, rfl, ⟨rfl, .inl ⟨rfl, rfl⟩⟩, HX.out, Lib.hid (P32.okTo_zero _ _ _)⟩
  case round =>
    clear HX
    obtain ⟨k, hk, rfl, hrow, hbx, hok⟩ := hrel
    have HRW := Lib.hid hrow; have HX := Lib.hid hbx
    have ka0 := (HX.out.1.cell 0).trans rfl
    have kb0 := (HX.out.2.1.cell 0).trans rfl
    clear hrow hbx
    by_cases hlt : k < a.rules.length
    · obtain ⟨x, hx⟩ : ∃ x, a.rules[k]? = some x := ⟨_, List.getElem?_eq_getElem hlt⟩
      obtain ⟨y, hy⟩ : ∃ y, b.rules[k]? = some y := ⟨_, List.getElem?_eq_getElem (by have := Lrules.out; omega)⟩
      obtain ⟨gx, ox, hxA, hgx, hxt⟩ := (HA.out.rules.below HX.out.2.2) k x hx
      obtain ⟨gy, oy, hyA, hgy, hyt⟩ := (HB.out.rules.below HX.out.2.2) k y hy
      rw [hxA] at ka0
      rw [hyA] at kb0
      have HKx := Lib.hid hx; have HKy := Lib.hid hy
      have hki : (k : Int) < (a.rules.length : Int) := by omega
      have hki2 : (k : Int) < (b.rules.length : Int) := by have := Lrules.out; omega
      have hk0 : (0 : Int) ≤ (k : Int) := by omega
      clear hx hy hxA hyA
      have hgxx : gx < wr.heap.size := hgx; have hgyy : gy < wr.heap.size := hgy
      obtain ⟨D, hD⟩ : ∃ D, P32.diffR x y = D := ⟨_, rfl⟩
      obtain ⟨SM, hSM⟩ : ∃ SM, P32.sameR x y = SM := ⟨_, rfl⟩
      have cR : Hid (∀ W, Calls Tryd.prog 48 #[.agg #[.string x.name, .int .i64 x.frm, .int .i64 x.til, .int .i64 x.month, .int .i64 x.dk, .int .i64 x.dw, .int .i64 x.dd, .int .i64 x.asec, .int .i64 x.abase, .int .i64 x.save, .string x.letter], .agg #[.string y.name, .int .i64 y.frm, .int .i64 y.til, .int .i64 y.month, .int .i64 y.dk, .int .i64 y.dw, .int .i64 y.dd, .int .i64 y.asec, .int .i64 y.abase, .int .i64 y.save, .string y.letter]] W fun e w' => e = .returned (.tuple #[.int .i64 D, .bool SM]) ∧ Below W.heap.size W w') := Lib.hid (fun W => by have q := rrules_any x.name x.frm x.til x.month x.dk x.dw x.dd x.asec x.abase x.save x.letter y.name y.frm y.til y.month y.dk y.dw y.dd y.asec y.abase y.save y.letter D hD W; rw [← hSM]; exact q)
      have HD := Lib.hid hD; have HSM := Lib.hid hSM
      have HS : Hid (wr.cell? ⟨w.heap.size, 0, none⟩ = some (.slice (some ⟨gx, ox, none⟩) a.rules.length a.rc) ∧ wr.cell? ⟨w.heap.size + 1, 0, none⟩ = some (.slice (some ⟨gy, oy, none⟩) b.rules.length b.rc) ∧ wr.cell? ⟨gx, ox + k * 11, none⟩ = some (.string x.name) ∧ wr.cell? ⟨gx, ox + k * 11 + 1, none⟩ = some (.int .i64 x.frm) ∧ wr.cell? ⟨gx, ox + k * 11 + 2, none⟩ = some (.int .i64 x.til) ∧ wr.cell? ⟨gx, ox + k * 11 + 3, none⟩ = some (.int .i64 x.month) ∧ wr.cell? ⟨gx, ox + k * 11 + 4, none⟩ = some (.int .i64 x.dk) ∧ wr.cell? ⟨gx, ox + k * 11 + 5, none⟩ = some (.int .i64 x.dw) ∧ wr.cell? ⟨gx, ox + k * 11 + 6, none⟩ = some (.int .i64 x.dd) ∧ wr.cell? ⟨gx, ox + k * 11 + 7, none⟩ = some (.int .i64 x.asec) ∧ wr.cell? ⟨gx, ox + k * 11 + 8, none⟩ = some (.int .i64 x.abase) ∧ wr.cell? ⟨gx, ox + k * 11 + 9, none⟩ = some (.int .i64 x.save) ∧ wr.cell? ⟨gx, ox + k * 11 + 10, none⟩ = some (.string x.letter) ∧ wr.cell? ⟨gy, oy + k * 11, none⟩ = some (.string y.name) ∧ wr.cell? ⟨gy, oy + k * 11 + 1, none⟩ = some (.int .i64 y.frm) ∧ wr.cell? ⟨gy, oy + k * 11 + 2, none⟩ = some (.int .i64 y.til) ∧ wr.cell? ⟨gy, oy + k * 11 + 3, none⟩ = some (.int .i64 y.month) ∧ wr.cell? ⟨gy, oy + k * 11 + 4, none⟩ = some (.int .i64 y.dk) ∧ wr.cell? ⟨gy, oy + k * 11 + 5, none⟩ = some (.int .i64 y.dw) ∧ wr.cell? ⟨gy, oy + k * 11 + 6, none⟩ = some (.int .i64 y.dd) ∧ wr.cell? ⟨gy, oy + k * 11 + 7, none⟩ = some (.int .i64 y.asec) ∧ wr.cell? ⟨gy, oy + k * 11 + 8, none⟩ = some (.int .i64 y.abase) ∧ wr.cell? ⟨gy, oy + k * 11 + 9, none⟩ = some (.int .i64 y.save) ∧ wr.cell? ⟨gy, oy + k * 11 + 10, none⟩ = some (.string y.letter)) := Lib.hid ⟨ka0, kb0, hxt 0 _ rfl, hxt 1 _ rfl, hxt 2 _ rfl, hxt 3 _ rfl, hxt 4 _ rfl, hxt 5 _ rfl, hxt 6 _ rfl, hxt 7 _ rfl, hxt 8 _ rfl, hxt 9 _ rfl, hxt 10 _ rfl, hyt 0 _ rfl, hyt 1 _ rfl, hyt 2 _ rfl, hyt 3 _ rfl, hyt 4 _ rfl, hyt 5 _ rfl, hyt 6 _ rfl, hyt 7 _ rfl, hyt 8 _ rfl, hyt 9 _ rfl, hyt 10 _ rfl⟩
      have HSK : Hid (∀ W, Below wr.heap.size wr W → (W.cell? ⟨w.heap.size, 0, none⟩ = some (.slice (some ⟨gx, ox, none⟩) a.rules.length a.rc) ∧ W.cell? ⟨w.heap.size + 1, 0, none⟩ = some (.slice (some ⟨gy, oy, none⟩) b.rules.length b.rc) ∧ W.cell? ⟨gx, ox + k * 11, none⟩ = some (.string x.name) ∧ W.cell? ⟨gx, ox + k * 11 + 1, none⟩ = some (.int .i64 x.frm) ∧ W.cell? ⟨gx, ox + k * 11 + 2, none⟩ = some (.int .i64 x.til) ∧ W.cell? ⟨gx, ox + k * 11 + 3, none⟩ = some (.int .i64 x.month) ∧ W.cell? ⟨gx, ox + k * 11 + 4, none⟩ = some (.int .i64 x.dk) ∧ W.cell? ⟨gx, ox + k * 11 + 5, none⟩ = some (.int .i64 x.dw) ∧ W.cell? ⟨gx, ox + k * 11 + 6, none⟩ = some (.int .i64 x.dd) ∧ W.cell? ⟨gx, ox + k * 11 + 7, none⟩ = some (.int .i64 x.asec) ∧ W.cell? ⟨gx, ox + k * 11 + 8, none⟩ = some (.int .i64 x.abase) ∧ W.cell? ⟨gx, ox + k * 11 + 9, none⟩ = some (.int .i64 x.save) ∧ W.cell? ⟨gx, ox + k * 11 + 10, none⟩ = some (.string x.letter) ∧ W.cell? ⟨gy, oy + k * 11, none⟩ = some (.string y.name) ∧ W.cell? ⟨gy, oy + k * 11 + 1, none⟩ = some (.int .i64 y.frm) ∧ W.cell? ⟨gy, oy + k * 11 + 2, none⟩ = some (.int .i64 y.til) ∧ W.cell? ⟨gy, oy + k * 11 + 3, none⟩ = some (.int .i64 y.month) ∧ W.cell? ⟨gy, oy + k * 11 + 4, none⟩ = some (.int .i64 y.dk) ∧ W.cell? ⟨gy, oy + k * 11 + 5, none⟩ = some (.int .i64 y.dw) ∧ W.cell? ⟨gy, oy + k * 11 + 6, none⟩ = some (.int .i64 y.dd) ∧ W.cell? ⟨gy, oy + k * 11 + 7, none⟩ = some (.int .i64 y.asec) ∧ W.cell? ⟨gy, oy + k * 11 + 8, none⟩ = some (.int .i64 y.abase) ∧ W.cell? ⟨gy, oy + k * 11 + 9, none⟩ = some (.int .i64 y.save) ∧ W.cell? ⟨gy, oy + k * 11 + 10, none⟩ = some (.string y.letter))) := Lib.hid (fun W h => ⟨(h.cell (p := ⟨w.heap.size, _, none⟩) (HX.out.1.lt)).trans ka0, (h.cell (p := ⟨w.heap.size + 1, _, none⟩) (HX.out.2.1.lt)).trans kb0, (h.cell (p := ⟨gx, _, none⟩) hgx).trans (hxt 0 _ rfl), (h.cell (p := ⟨gx, _, none⟩) hgx).trans (hxt 1 _ rfl), (h.cell (p := ⟨gx, _, none⟩) hgx).trans (hxt 2 _ rfl), (h.cell (p := ⟨gx, _, none⟩) hgx).trans (hxt 3 _ rfl), (h.cell (p := ⟨gx, _, none⟩) hgx).trans (hxt 4 _ rfl), (h.cell (p := ⟨gx, _, none⟩) hgx).trans (hxt 5 _ rfl), (h.cell (p := ⟨gx, _, none⟩) hgx).trans (hxt 6 _ rfl), (h.cell (p := ⟨gx, _, none⟩) hgx).trans (hxt 7 _ rfl), (h.cell (p := ⟨gx, _, none⟩) hgx).trans (hxt 8 _ rfl), (h.cell (p := ⟨gx, _, none⟩) hgx).trans (hxt 9 _ rfl), (h.cell (p := ⟨gx, _, none⟩) hgx).trans (hxt 10 _ rfl), (h.cell (p := ⟨gy, _, none⟩) hgy).trans (hyt 0 _ rfl), (h.cell (p := ⟨gy, _, none⟩) hgy).trans (hyt 1 _ rfl), (h.cell (p := ⟨gy, _, none⟩) hgy).trans (hyt 2 _ rfl), (h.cell (p := ⟨gy, _, none⟩) hgy).trans (hyt 3 _ rfl), (h.cell (p := ⟨gy, _, none⟩) hgy).trans (hyt 4 _ rfl), (h.cell (p := ⟨gy, _, none⟩) hgy).trans (hyt 5 _ rfl), (h.cell (p := ⟨gy, _, none⟩) hgy).trans (hyt 6 _ rfl), (h.cell (p := ⟨gy, _, none⟩) hgy).trans (hyt 7 _ rfl), (h.cell (p := ⟨gy, _, none⟩) hgy).trans (hyt 8 _ rfl), (h.cell (p := ⟨gy, _, none⟩) hgy).trans (hyt 9 _ rfl), (h.cell (p := ⟨gy, _, none⟩) hgy).trans (hyt 10 _ rfl)⟩)
      clear hD hSM hxt hyt
      go_wp2_with fail
      go_region_held3 (fun W => W.cell? ⟨w.heap.size, 0, none⟩ = some (.slice (some ⟨gx, ox, none⟩) a.rules.length a.rc) ∧ W.cell? ⟨w.heap.size + 1, 0, none⟩ = some (.slice (some ⟨gy, oy, none⟩) b.rules.length b.rc) ∧ W.cell? ⟨gx, ox + k * 11, none⟩ = some (.string x.name) ∧ W.cell? ⟨gx, ox + k * 11 + 1, none⟩ = some (.int .i64 x.frm) ∧ W.cell? ⟨gx, ox + k * 11 + 2, none⟩ = some (.int .i64 x.til) ∧ W.cell? ⟨gx, ox + k * 11 + 3, none⟩ = some (.int .i64 x.month) ∧ W.cell? ⟨gx, ox + k * 11 + 4, none⟩ = some (.int .i64 x.dk) ∧ W.cell? ⟨gx, ox + k * 11 + 5, none⟩ = some (.int .i64 x.dw) ∧ W.cell? ⟨gx, ox + k * 11 + 6, none⟩ = some (.int .i64 x.dd) ∧ W.cell? ⟨gx, ox + k * 11 + 7, none⟩ = some (.int .i64 x.asec) ∧ W.cell? ⟨gx, ox + k * 11 + 8, none⟩ = some (.int .i64 x.abase) ∧ W.cell? ⟨gx, ox + k * 11 + 9, none⟩ = some (.int .i64 x.save) ∧ W.cell? ⟨gx, ox + k * 11 + 10, none⟩ = some (.string x.letter) ∧ W.cell? ⟨gy, oy + k * 11, none⟩ = some (.string y.name) ∧ W.cell? ⟨gy, oy + k * 11 + 1, none⟩ = some (.int .i64 y.frm) ∧ W.cell? ⟨gy, oy + k * 11 + 2, none⟩ = some (.int .i64 y.til) ∧ W.cell? ⟨gy, oy + k * 11 + 3, none⟩ = some (.int .i64 y.month) ∧ W.cell? ⟨gy, oy + k * 11 + 4, none⟩ = some (.int .i64 y.dk) ∧ W.cell? ⟨gy, oy + k * 11 + 5, none⟩ = some (.int .i64 y.dw) ∧ W.cell? ⟨gy, oy + k * 11 + 6, none⟩ = some (.int .i64 y.dd) ∧ W.cell? ⟨gy, oy + k * 11 + 7, none⟩ = some (.int .i64 y.asec) ∧ W.cell? ⟨gy, oy + k * 11 + 8, none⟩ = some (.int .i64 y.abase) ∧ W.cell? ⟨gy, oy + k * 11 + 9, none⟩ = some (.int .i64 y.save) ∧ W.cell? ⟨gy, oy + k * 11 + 10, none⟩ = some (.string y.letter)) (first | exact HSK.out _ hc2 | exact HSK.out _ ((Below.refl _ _).drew) | exact HS.out | assumption) ((go_at_call 48; refine (cR.out _).mono ?_; rintro en w1 ⟨rfl, hc⟩; have hc2 : Below wr.heap.size wr w1 := (Below.refl wr.heap.size wr).drew.trans hc; clear hc))
      rename_i hKeep
      clear hKeep
      have HRW1 := Lib.hid (HRW.out.below hc2); have HX1 := Lib.hid (HX.out.below hc2); have HC2 := Lib.hid hc2
      clear hc2 HS HSK cR HRW ka0 kb0
      cases SM with
      | false =>
        have HR : Hid (CmpRes a b w (.returned (.tuple #[.slice none 0 0, .int .i64 2])) w1) := Lib.hid (.inr ⟨fun q => P32.okAll_not HKx.out HKy.out HSM.out q.1, rfl, HX1.out.2.2⟩)
        clear HX HX1 HRW1 HC2 HSM HD hok
        go_wp2_with fail
        go_ret2
        exact HR.out
      | true =>
        have HOK := Lib.hid (P32.okTo_succ hok.out HKx.out HKy.out HSM.out)
        have HCH := Lib.hid (P32.ch_succ P32.diffR P32.mkR a.rules b.rules k x y HKx.out HKy.out)
        by_cases hz : D = 0
        · have hzb : (D != 0) = false := by simp [hz]
          have HRW2 : Hid (RowIs w1 (w.heap.size + 2) _ (P32.ch P32.diffR P32.mkR a.rules b.rules (k + 1))) := Lib.hid (by rw [HCH.out, if_pos (HD.out.trans hz), List.append_nil]; exact HRW1.out)
          clear hz HX HRW1 HSM HD HCH hok
          go_wp2_with fail
          go_roundw
          case rel => first | exact ⟨k + 1, by omega, by go_num, HRW2.out, HX1.out, HOK⟩ | ((repeat apply Exists.intro); exact ⟨⟨k + 1, by omega, by go_num, HRW2.out, HX1.out, HOK⟩, rfl⟩)
          case measure => simp [intOf]; omega
        · have hzb : (D != 0) = true := by simp [hz]
          have HLS : Hid (P32.ch P32.diffR P32.mkR a.rules b.rules (k + 1) = (P32.ch P32.diffR P32.mkR a.rules b.rules k) ++ [P32.mkR k D]) := Lib.hid (by rw [HCH.out, if_neg (by rw [HD.out]; exact hz), HD.out])
          have HLE : Hid ((P32.ch P32.diffR P32.mkR a.rules b.rules k).length ≤ 1000) := Lib.hid (Nat.le_trans (P32.ch_len _ _ _ _ _) (by omega))
          generalize P32.ch P32.diffR P32.mkR a.rules b.rules k = l1 at HRW1 HLS HLE
          have hNB : Hid (Blk (w1.alloc (.cells #[.int .i64 1, .int .i64 k, .int .i64 0, .int .i64 D] 50)) w1.heap.size 50 #[.int .i64 1, .int .i64 k, .int .i64 0, .int .i64 D]) := Lib.hid (Blk.new _ _ _)
          have HO := Lib.hid (HRW1.out.alloc (.cells #[.int .i64 1, .int .i64 k, .int .i64 0, .int .i64 D] 50))
          have HX2 := Lib.hid (HX1.out.alloc (.cells #[.int .i64 1, .int .i64 k, .int .i64 0, .int .i64 D] 50))
          obtain ⟨i0, hi, hz0, hz1, hz2⟩ := info_parts infoChange
          clear hz HX HX1 HRW1 HSM HD HCH HC2 hok
          go_wp2_with (at_builtin; refine wpList_append_own _ rfl _ _ 30 rfl (w.heap.size + 2) 50 i0 _ 4 32 Tryd.underlying30 hi hz0 hz1 hz2 rfl (by decide) _ _ _ rfl HO.out ⟨w1.heap.size, 0, none⟩ 1 1 (P32.mkR k D).cells rfl rfl (blk_cells hNB.out) (by simp [P32.mkR, P32.CV.cells, Value.oneCell']) (by have := HLE.out; simp only [maxLen]; omega) (by have := HLE.out; omega) HX2.out.base ?_)
          intro v1 wa hown hgr hne
          have HX3 := Lib.hid (HX2.out.grown HO.out hgr)
          have HRW2 : Hid (RowIs wa (w.heap.size + 2) v1 (P32.ch P32.diffR P32.mkR a.rules b.rules (k + 1))) := Lib.hid (by rw [HLS.out]; unfold RowIs; rw [ccells_snoc, List.length_append]; exact hown)
          clear hown hgr hne HO HX2 hNB HLS HLE
          go_wp2_with fail
          go_roundw
          case rel => exact ⟨k + 1, by omega, by go_num, HRW2.out, HX3.out, HOK⟩
          case measure => simp [intOf]; omega
    · obtain rfl : k = a.rules.length := by omega
      have HOKR := Lib.hid (show P32.okAll P32.sameR a.rules b.rules from ⟨Lrules.out, hok.out⟩)
      have hki : ¬ (a.rules.length : Int) < (a.rules.length : Int) := by omega
      clear hok ka0 kb0
      have ka0 := (HX.out.1.cell 0).trans rfl
      go_wp2_with fail
      clear ka0
      go_loopw [6, 10] (fun v i W => ∃ k : Nat, k ≤ a.zones.length ∧ i = .int .i64 k ∧ RowIs W (w.heap.size + 2) v (P32.ch P32.diffR P32.mkR a.rules b.rules a.rules.length ++ P32.chZ a.zones b.zones k) ∧ Boxes a b w W ∧ Hid (P32.okZ a.zones b.zones k)) (fun _ i _ => a.zones.length - (intOf i).toNat)
      case atStart => exact ⟨0, Nat.zero_le _, rfl, by rw [P32.chZ, List.append_nil]; exact HRW.out, HX.out, Lib.hid (fun i _ _ h => by omega)⟩
      case round =>
        clear HRW HX
        obtain ⟨k, hk, rfl, hrow, hbx, hokz⟩ := hrel
        have HRW := Lib.hid hrow; have HX := Lib.hid hbx
        have ka1 := (HX.out.1.cell 1).trans rfl
        have kb1 := (HX.out.2.1.cell 1).trans rfl
        clear hrow hbx
        by_cases hlt : k < a.zones.length
        · obtain ⟨z, hz⟩ : ∃ z, a.zones[k]? = some z := ⟨_, List.getElem?_eq_getElem hlt⟩
          obtain ⟨y, hy⟩ : ∃ y, b.zones[k]? = some y := ⟨_, List.getElem?_eq_getElem (by have := Lzones.out; omega)⟩
          obtain ⟨gz, oz, hzA, hgz, haz⟩ := (HA.out.zones.below HX.out.2.2) k z hz
          obtain ⟨gy, oy, hyA, hgy, hay⟩ := (HB.out.zones.below HX.out.2.2) k y hy
          rw [hzA] at ka1
          rw [hyA] at kb1
          have nz0 : wr.cell? ⟨gz, oz + k * 2, none⟩ = some (.string z.name) := haz 0 _ rfl
          have nz1 : wr.cell? ⟨gz, oz + k * 2 + 1, none⟩ = some (.slice z.A z.eras.length z.c) := haz 1 _ rfl
          have ny0 : wr.cell? ⟨gy, oy + k * 2, none⟩ = some (.string y.name) := hay 0 _ rfl
          have ny1 : wr.cell? ⟨gy, oy + k * 2 + 1, none⟩ = some (.slice y.A y.eras.length y.c) := hay 1 _ rfl
          have hki : (k : Int) < (a.zones.length : Int) := by omega
          have hki2 : (k : Int) < (b.zones.length : Int) := by have := Lzones.out; omega
          have hk0 : (0 : Int) ≤ (k : Int) := by omega
          have HKz := Lib.hid hz; have HKy := Lib.hid hy
          clear hz hy haz hay hzA hyA
          by_cases hnm : z.name = y.name
          rotate_left
          · have hnb : (z.name.toList == y.name.toList) = false := by rw [beq_eq_false_iff_ne]; exact fun q => hnm ((toList_eq_iff _ _).1 q)
            have hnc : (z.name.toList != y.name.toList) = true := by unfold bne; rw [hnb]; rfl
            have hnd : (!(z.name.toList == y.name.toList)) = true := by rw [hnb]; rfl
            have HR : Hid (∀ W, Below wr.heap.size wr W → CmpRes a b w (.returned (.tuple #[.slice none 0 0, .int .i64 2])) W) := Lib.hid (fun W h => .inr ⟨fun q => hnm (q.2.2.1 k z y hlt HKz.out HKy.out).1, rfl, HX.out.2.2.trans (h.mono HX.out.2.2.size)⟩)
            clear hnm HRW HX HA HB HF HZB
            go_wp2_with fail
            go_quiet (fail)
            go_wp2_with fail
            go_ret2
            exact HR.out _ (below_drewN (Below.refl _ _) _)
          have hnb : (z.name.toList == y.name.toList) = true := by rw [hnm]; exact beq_self_eq_true _
          have hnc : (z.name.toList != y.name.toList) = false := by unfold bne; rw [hnb]; rfl
          have HNM := Lib.hid hnm
          by_cases hne : z.eras.length = y.eras.length
          rotate_left
          · have hnd : ((z.eras.length : Int) != (y.eras.length : Int)) = true := by rw [bne_iff_ne]; omega
            have HR : Hid (∀ W, Below wr.heap.size wr W → CmpRes a b w (.returned (.tuple #[.slice none 0 0, .int .i64 2])) W) := Lib.hid (fun W h => .inr ⟨fun q => hne (q.2.2.1 k z y hlt HKz.out HKy.out).2.1, rfl, HX.out.2.2.trans (h.mono HX.out.2.2.size)⟩)
            clear hnm hne HRW HX HA HB HF HZB
            go_wp2_with fail
            go_quiet (fail)
            go_wp2_with fail
            go_ret2
            exact HR.out _ (below_drewN (Below.refl _ _) _)
          have hnd : ((z.eras.length : Int) != (y.eras.length : Int)) = false := by rw [bne_eq_false_iff_eq]; omega
          have HNE := Lib.hid hne
          have hz20 : (z.eras.length : Int) ≤ 20 := by have := HF.out.2.2.2.2 z (List.mem_of_getElem? HKz.out); omega
          clear hnm hne
          go_wp2_with fail
          go_quiet (fail)
          have HRW1 := Lib.hid (HRW.out.below (below_drewN (Below.refl wr.heap.size wr) nq)); have HX1 := Lib.hid (HX.out.below (below_drewN (Below.refl wr.heap.size wr) nq))
          clear HRW HX ka1 kb1 nz0 nz1 ny0 ny1 hnb hnc hnd hgz hgy
          generalize wr.drewN nq = wq at HRW1 HX1 ⊢
          go_wp2_with fail
          go_loopw [6, 11] (fun v i W => ∃ j : Nat, j ≤ z.eras.length ∧ i = .int .i64 j ∧ RowIs W (w.heap.size + 2) v ((P32.ch P32.diffR P32.mkR a.rules b.rules a.rules.length ++ P32.chZ a.zones b.zones k) ++ P32.ch P32.diffE (P32.mkE k) z.eras y.eras j) ∧ Boxes a b w W ∧ Hid (P32.okTo P32.sameE z.eras y.eras j)) (fun _ i _ => z.eras.length - (intOf i).toNat)
          case atStart => exact ⟨0, Nat.zero_le _, rfl, by rw [P32.ch_zero, List.append_nil]; exact HRW1.out, HX1.out, Lib.hid (P32.okTo_zero _ _ _)⟩
          case round =>
            clear HRW1 HX1
            obtain ⟨j, hj, rfl, hrow, hbx, hok⟩ := hrel
            have HRW := Lib.hid hrow; have HX := Lib.hid hbx
            have ka1 := (HX.out.1.cell 1).trans rfl
            have kb1 := (HX.out.2.1.cell 1).trans rfl
            clear hrow hbx
            obtain ⟨gz, oz, hzA, hgz, haz⟩ := (HA.out.zones.below HX.out.2.2) k z HKz.out
            obtain ⟨gy, oy, hyA, hgy, hay⟩ := (HB.out.zones.below HX.out.2.2) k y HKy.out
            rw [hzA] at ka1
            rw [hyA] at kb1
            have nz1 : wr.cell? ⟨gz, oz + k * 2 + 1, none⟩ = some (.slice z.A z.eras.length z.c) := haz 1 _ rfl
            have ny1 : wr.cell? ⟨gy, oy + k * 2 + 1, none⟩ = some (.slice y.A y.eras.length y.c) := hay 1 _ rfl
            clear haz hay hzA hyA
            by_cases hltj : j < z.eras.length
            · obtain ⟨p, hp⟩ : ∃ p, z.eras[j]? = some p := ⟨_, List.getElem?_eq_getElem hltj⟩
              obtain ⟨r, hr⟩ : ∃ r, y.eras[j]? = some r := ⟨_, List.getElem?_eq_getElem (by have := HNE.out; omega)⟩
              obtain ⟨gp, op, hpA, hgp, hpt⟩ := ((HA.out.eras z (List.mem_of_getElem? HKz.out)).below HX.out.2.2) j p hp
              obtain ⟨gr, or_, hrA, hgr, hrt⟩ := ((HB.out.eras y (List.mem_of_getElem? HKy.out)).below HX.out.2.2) j r hr
              rw [hpA] at nz1
              rw [hrA] at ny1
              have HKp := Lib.hid hp; have HKr := Lib.hid hr
              have hkj : (j : Int) < (z.eras.length : Int) := by omega
              have hkj2 : (j : Int) < (y.eras.length : Int) := by have := HNE.out; omega
              have hj0 : (0 : Int) ≤ (j : Int) := by omega
              clear hp hr hpA hrA
              obtain ⟨D, hD⟩ : ∃ D, P32.diffE p r = D := ⟨_, rfl⟩
              obtain ⟨SM, hSM⟩ : ∃ SM, P32.sameE p r = SM := ⟨_, rfl⟩
              have cR : Hid (∀ W, Calls Tryd.prog 49 #[.agg #[.int .i64 p.off, .int .i64 p.kind, .int .i64 p.save, .string p.set, .string p.fmt, .bool p.ui, .int .i64 p.uy, .int .i64 p.um, .int .i64 p.dk, .int .i64 p.dw, .int .i64 p.dd, .int .i64 p.asec, .int .i64 p.ab], .agg #[.int .i64 r.off, .int .i64 r.kind, .int .i64 r.save, .string r.set, .string r.fmt, .bool r.ui, .int .i64 r.uy, .int .i64 r.um, .int .i64 r.dk, .int .i64 r.dw, .int .i64 r.dd, .int .i64 r.asec, .int .i64 r.ab]] W fun e w' => e = .returned (.tuple #[.int .i64 D, .bool SM]) ∧ Below W.heap.size W w') := Lib.hid (fun W => by have q := reras_any p.off p.kind p.save p.set p.fmt p.ui p.uy p.um p.dk p.dw p.dd p.asec p.ab r.off r.kind r.save r.set r.fmt r.ui r.uy r.um r.dk r.dw r.dd r.asec r.ab D hD W; rw [← hSM]; exact q)
              have HD := Lib.hid hD; have HSM := Lib.hid hSM
              have HS : Hid (wr.cell? ⟨w.heap.size, 1, none⟩ = some (.slice (some ⟨gz, oz, none⟩) a.zones.length a.zc) ∧ wr.cell? ⟨w.heap.size + 1, 1, none⟩ = some (.slice (some ⟨gy, oy, none⟩) b.zones.length b.zc) ∧ wr.cell? ⟨gz, oz + k * 2 + 1, none⟩ = some (.slice (some ⟨gp, op, none⟩) z.eras.length z.c) ∧ wr.cell? ⟨gy, oy + k * 2 + 1, none⟩ = some (.slice (some ⟨gr, or_, none⟩) y.eras.length y.c) ∧ wr.cell? ⟨gp, op + j * 13, none⟩ = some (.int .i64 p.off) ∧ wr.cell? ⟨gp, op + j * 13 + 1, none⟩ = some (.int .i64 p.kind) ∧ wr.cell? ⟨gp, op + j * 13 + 2, none⟩ = some (.int .i64 p.save) ∧ wr.cell? ⟨gp, op + j * 13 + 3, none⟩ = some (.string p.set) ∧ wr.cell? ⟨gp, op + j * 13 + 4, none⟩ = some (.string p.fmt) ∧ wr.cell? ⟨gp, op + j * 13 + 5, none⟩ = some (.bool p.ui) ∧ wr.cell? ⟨gp, op + j * 13 + 6, none⟩ = some (.int .i64 p.uy) ∧ wr.cell? ⟨gp, op + j * 13 + 7, none⟩ = some (.int .i64 p.um) ∧ wr.cell? ⟨gp, op + j * 13 + 8, none⟩ = some (.int .i64 p.dk) ∧ wr.cell? ⟨gp, op + j * 13 + 9, none⟩ = some (.int .i64 p.dw) ∧ wr.cell? ⟨gp, op + j * 13 + 10, none⟩ = some (.int .i64 p.dd) ∧ wr.cell? ⟨gp, op + j * 13 + 11, none⟩ = some (.int .i64 p.asec) ∧ wr.cell? ⟨gp, op + j * 13 + 12, none⟩ = some (.int .i64 p.ab) ∧ wr.cell? ⟨gr, or_ + j * 13, none⟩ = some (.int .i64 r.off) ∧ wr.cell? ⟨gr, or_ + j * 13 + 1, none⟩ = some (.int .i64 r.kind) ∧ wr.cell? ⟨gr, or_ + j * 13 + 2, none⟩ = some (.int .i64 r.save) ∧ wr.cell? ⟨gr, or_ + j * 13 + 3, none⟩ = some (.string r.set) ∧ wr.cell? ⟨gr, or_ + j * 13 + 4, none⟩ = some (.string r.fmt) ∧ wr.cell? ⟨gr, or_ + j * 13 + 5, none⟩ = some (.bool r.ui) ∧ wr.cell? ⟨gr, or_ + j * 13 + 6, none⟩ = some (.int .i64 r.uy) ∧ wr.cell? ⟨gr, or_ + j * 13 + 7, none⟩ = some (.int .i64 r.um) ∧ wr.cell? ⟨gr, or_ + j * 13 + 8, none⟩ = some (.int .i64 r.dk) ∧ wr.cell? ⟨gr, or_ + j * 13 + 9, none⟩ = some (.int .i64 r.dw) ∧ wr.cell? ⟨gr, or_ + j * 13 + 10, none⟩ = some (.int .i64 r.dd) ∧ wr.cell? ⟨gr, or_ + j * 13 + 11, none⟩ = some (.int .i64 r.asec) ∧ wr.cell? ⟨gr, or_ + j * 13 + 12, none⟩ = some (.int .i64 r.ab)) := Lib.hid ⟨ka1, kb1, nz1, ny1, hpt 0 _ rfl, hpt 1 _ rfl, hpt 2 _ rfl, hpt 3 _ rfl, hpt 4 _ rfl, hpt 5 _ rfl, hpt 6 _ rfl, hpt 7 _ rfl, hpt 8 _ rfl, hpt 9 _ rfl, hpt 10 _ rfl, hpt 11 _ rfl, hpt 12 _ rfl, hrt 0 _ rfl, hrt 1 _ rfl, hrt 2 _ rfl, hrt 3 _ rfl, hrt 4 _ rfl, hrt 5 _ rfl, hrt 6 _ rfl, hrt 7 _ rfl, hrt 8 _ rfl, hrt 9 _ rfl, hrt 10 _ rfl, hrt 11 _ rfl, hrt 12 _ rfl⟩
              have HSK : Hid (∀ W, Below wr.heap.size wr W → (W.cell? ⟨w.heap.size, 1, none⟩ = some (.slice (some ⟨gz, oz, none⟩) a.zones.length a.zc) ∧ W.cell? ⟨w.heap.size + 1, 1, none⟩ = some (.slice (some ⟨gy, oy, none⟩) b.zones.length b.zc) ∧ W.cell? ⟨gz, oz + k * 2 + 1, none⟩ = some (.slice (some ⟨gp, op, none⟩) z.eras.length z.c) ∧ W.cell? ⟨gy, oy + k * 2 + 1, none⟩ = some (.slice (some ⟨gr, or_, none⟩) y.eras.length y.c) ∧ W.cell? ⟨gp, op + j * 13, none⟩ = some (.int .i64 p.off) ∧ W.cell? ⟨gp, op + j * 13 + 1, none⟩ = some (.int .i64 p.kind) ∧ W.cell? ⟨gp, op + j * 13 + 2, none⟩ = some (.int .i64 p.save) ∧ W.cell? ⟨gp, op + j * 13 + 3, none⟩ = some (.string p.set) ∧ W.cell? ⟨gp, op + j * 13 + 4, none⟩ = some (.string p.fmt) ∧ W.cell? ⟨gp, op + j * 13 + 5, none⟩ = some (.bool p.ui) ∧ W.cell? ⟨gp, op + j * 13 + 6, none⟩ = some (.int .i64 p.uy) ∧ W.cell? ⟨gp, op + j * 13 + 7, none⟩ = some (.int .i64 p.um) ∧ W.cell? ⟨gp, op + j * 13 + 8, none⟩ = some (.int .i64 p.dk) ∧ W.cell? ⟨gp, op + j * 13 + 9, none⟩ = some (.int .i64 p.dw) ∧ W.cell? ⟨gp, op + j * 13 + 10, none⟩ = some (.int .i64 p.dd) ∧ W.cell? ⟨gp, op + j * 13 + 11, none⟩ = some (.int .i64 p.asec) ∧ W.cell? ⟨gp, op + j * 13 + 12, none⟩ = some (.int .i64 p.ab) ∧ W.cell? ⟨gr, or_ + j * 13, none⟩ = some (.int .i64 r.off) ∧ W.cell? ⟨gr, or_ + j * 13 + 1, none⟩ = some (.int .i64 r.kind) ∧ W.cell? ⟨gr, or_ + j * 13 + 2, none⟩ = some (.int .i64 r.save) ∧ W.cell? ⟨gr, or_ + j * 13 + 3, none⟩ = some (.string r.set) ∧ W.cell? ⟨gr, or_ + j * 13 + 4, none⟩ = some (.string r.fmt) ∧ W.cell? ⟨gr, or_ + j * 13 + 5, none⟩ = some (.bool r.ui) ∧ W.cell? ⟨gr, or_ + j * 13 + 6, none⟩ = some (.int .i64 r.uy) ∧ W.cell? ⟨gr, or_ + j * 13 + 7, none⟩ = some (.int .i64 r.um) ∧ W.cell? ⟨gr, or_ + j * 13 + 8, none⟩ = some (.int .i64 r.dk) ∧ W.cell? ⟨gr, or_ + j * 13 + 9, none⟩ = some (.int .i64 r.dw) ∧ W.cell? ⟨gr, or_ + j * 13 + 10, none⟩ = some (.int .i64 r.dd) ∧ W.cell? ⟨gr, or_ + j * 13 + 11, none⟩ = some (.int .i64 r.asec) ∧ W.cell? ⟨gr, or_ + j * 13 + 12, none⟩ = some (.int .i64 r.ab))) := Lib.hid (fun W h => ⟨(h.cell (p := ⟨w.heap.size, _, none⟩) (HX.out.1.lt)).trans ka1, (h.cell (p := ⟨w.heap.size + 1, _, none⟩) (HX.out.2.1.lt)).trans kb1, (h.cell (p := ⟨gz, _, none⟩) (hgz)).trans nz1, (h.cell (p := ⟨gy, _, none⟩) (hgy)).trans ny1, (h.cell (p := ⟨gp, _, none⟩) hgp).trans (hpt 0 _ rfl), (h.cell (p := ⟨gp, _, none⟩) hgp).trans (hpt 1 _ rfl), (h.cell (p := ⟨gp, _, none⟩) hgp).trans (hpt 2 _ rfl), (h.cell (p := ⟨gp, _, none⟩) hgp).trans (hpt 3 _ rfl), (h.cell (p := ⟨gp, _, none⟩) hgp).trans (hpt 4 _ rfl), (h.cell (p := ⟨gp, _, none⟩) hgp).trans (hpt 5 _ rfl), (h.cell (p := ⟨gp, _, none⟩) hgp).trans (hpt 6 _ rfl), (h.cell (p := ⟨gp, _, none⟩) hgp).trans (hpt 7 _ rfl), (h.cell (p := ⟨gp, _, none⟩) hgp).trans (hpt 8 _ rfl), (h.cell (p := ⟨gp, _, none⟩) hgp).trans (hpt 9 _ rfl), (h.cell (p := ⟨gp, _, none⟩) hgp).trans (hpt 10 _ rfl), (h.cell (p := ⟨gp, _, none⟩) hgp).trans (hpt 11 _ rfl), (h.cell (p := ⟨gp, _, none⟩) hgp).trans (hpt 12 _ rfl), (h.cell (p := ⟨gr, _, none⟩) hgr).trans (hrt 0 _ rfl), (h.cell (p := ⟨gr, _, none⟩) hgr).trans (hrt 1 _ rfl), (h.cell (p := ⟨gr, _, none⟩) hgr).trans (hrt 2 _ rfl), (h.cell (p := ⟨gr, _, none⟩) hgr).trans (hrt 3 _ rfl), (h.cell (p := ⟨gr, _, none⟩) hgr).trans (hrt 4 _ rfl), (h.cell (p := ⟨gr, _, none⟩) hgr).trans (hrt 5 _ rfl), (h.cell (p := ⟨gr, _, none⟩) hgr).trans (hrt 6 _ rfl), (h.cell (p := ⟨gr, _, none⟩) hgr).trans (hrt 7 _ rfl), (h.cell (p := ⟨gr, _, none⟩) hgr).trans (hrt 8 _ rfl), (h.cell (p := ⟨gr, _, none⟩) hgr).trans (hrt 9 _ rfl), (h.cell (p := ⟨gr, _, none⟩) hgr).trans (hrt 10 _ rfl), (h.cell (p := ⟨gr, _, none⟩) hgr).trans (hrt 11 _ rfl), (h.cell (p := ⟨gr, _, none⟩) hgr).trans (hrt 12 _ rfl)⟩)
              clear hD hSM hpt hrt
              go_wp2_with fail
              go_region_held3 (fun W => W.cell? ⟨w.heap.size, 1, none⟩ = some (.slice (some ⟨gz, oz, none⟩) a.zones.length a.zc) ∧ W.cell? ⟨w.heap.size + 1, 1, none⟩ = some (.slice (some ⟨gy, oy, none⟩) b.zones.length b.zc) ∧ W.cell? ⟨gz, oz + k * 2 + 1, none⟩ = some (.slice (some ⟨gp, op, none⟩) z.eras.length z.c) ∧ W.cell? ⟨gy, oy + k * 2 + 1, none⟩ = some (.slice (some ⟨gr, or_, none⟩) y.eras.length y.c) ∧ W.cell? ⟨gp, op + j * 13, none⟩ = some (.int .i64 p.off) ∧ W.cell? ⟨gp, op + j * 13 + 1, none⟩ = some (.int .i64 p.kind) ∧ W.cell? ⟨gp, op + j * 13 + 2, none⟩ = some (.int .i64 p.save) ∧ W.cell? ⟨gp, op + j * 13 + 3, none⟩ = some (.string p.set) ∧ W.cell? ⟨gp, op + j * 13 + 4, none⟩ = some (.string p.fmt) ∧ W.cell? ⟨gp, op + j * 13 + 5, none⟩ = some (.bool p.ui) ∧ W.cell? ⟨gp, op + j * 13 + 6, none⟩ = some (.int .i64 p.uy) ∧ W.cell? ⟨gp, op + j * 13 + 7, none⟩ = some (.int .i64 p.um) ∧ W.cell? ⟨gp, op + j * 13 + 8, none⟩ = some (.int .i64 p.dk) ∧ W.cell? ⟨gp, op + j * 13 + 9, none⟩ = some (.int .i64 p.dw) ∧ W.cell? ⟨gp, op + j * 13 + 10, none⟩ = some (.int .i64 p.dd) ∧ W.cell? ⟨gp, op + j * 13 + 11, none⟩ = some (.int .i64 p.asec) ∧ W.cell? ⟨gp, op + j * 13 + 12, none⟩ = some (.int .i64 p.ab) ∧ W.cell? ⟨gr, or_ + j * 13, none⟩ = some (.int .i64 r.off) ∧ W.cell? ⟨gr, or_ + j * 13 + 1, none⟩ = some (.int .i64 r.kind) ∧ W.cell? ⟨gr, or_ + j * 13 + 2, none⟩ = some (.int .i64 r.save) ∧ W.cell? ⟨gr, or_ + j * 13 + 3, none⟩ = some (.string r.set) ∧ W.cell? ⟨gr, or_ + j * 13 + 4, none⟩ = some (.string r.fmt) ∧ W.cell? ⟨gr, or_ + j * 13 + 5, none⟩ = some (.bool r.ui) ∧ W.cell? ⟨gr, or_ + j * 13 + 6, none⟩ = some (.int .i64 r.uy) ∧ W.cell? ⟨gr, or_ + j * 13 + 7, none⟩ = some (.int .i64 r.um) ∧ W.cell? ⟨gr, or_ + j * 13 + 8, none⟩ = some (.int .i64 r.dk) ∧ W.cell? ⟨gr, or_ + j * 13 + 9, none⟩ = some (.int .i64 r.dw) ∧ W.cell? ⟨gr, or_ + j * 13 + 10, none⟩ = some (.int .i64 r.dd) ∧ W.cell? ⟨gr, or_ + j * 13 + 11, none⟩ = some (.int .i64 r.asec) ∧ W.cell? ⟨gr, or_ + j * 13 + 12, none⟩ = some (.int .i64 r.ab)) (first | exact HSK.out _ hc2 | exact HSK.out _ ((Below.refl _ _).drew) | exact HS.out | assumption) ((go_at_call 49; refine (cR.out _).mono ?_; rintro en w1 ⟨rfl, hc⟩; have hc2 : Below wr.heap.size wr w1 := (Below.refl wr.heap.size wr).drew.trans hc; clear hc))
              rename_i hKeep
              clear hKeep
              have HRW1 := Lib.hid (HRW.out.below hc2); have HX1 := Lib.hid (HX.out.below hc2); have HC2 := Lib.hid hc2
              clear hc2 HS HSK cR HRW ka1 kb1 nz1 ny1
              cases SM with
              | false =>
                have HR : Hid (CmpRes a b w (.returned (.tuple #[.slice none 0 0, .int .i64 2])) w1) := Lib.hid (.inr ⟨fun q => P32.okAll_not HKp.out HKr.out HSM.out (q.2.2.1 k z y hlt HKz.out HKy.out).2, rfl, HX1.out.2.2⟩)
                clear HX HX1 HRW1 HC2 HSM HD hok
                go_wp2_with fail
                go_ret2
                exact HR.out
              | true =>
                have HOK := Lib.hid (P32.okTo_succ hok.out HKp.out HKr.out HSM.out)
                have HCH := Lib.hid (P32.ch_succ P32.diffE (P32.mkE k) z.eras y.eras j p r HKp.out HKr.out)
                by_cases hz : D = 0
                · have hzb : (D != 0) = false := by simp [hz]
                  have HRW2 : Hid (RowIs w1 (w.heap.size + 2) _ ((P32.ch P32.diffR P32.mkR a.rules b.rules a.rules.length ++ P32.chZ a.zones b.zones k) ++ P32.ch P32.diffE (P32.mkE k) z.eras y.eras (j + 1))) := Lib.hid (by rw [HCH.out, if_pos (HD.out.trans hz), List.append_nil]; exact HRW1.out)
                  clear hz HX HRW1 HSM HD HCH hok
                  go_wp2_with fail
                  go_roundw
                  case rel => first | exact ⟨j + 1, by omega, by go_num, HRW2.out, HX1.out, HOK⟩ | ((repeat apply Exists.intro); exact ⟨⟨j + 1, by omega, by go_num, HRW2.out, HX1.out, HOK⟩, rfl⟩)
                  case measure => simp [intOf]; omega
                · have hzb : (D != 0) = true := by simp [hz]
                  have HLS : Hid ((P32.ch P32.diffR P32.mkR a.rules b.rules a.rules.length ++ P32.chZ a.zones b.zones k) ++ P32.ch P32.diffE (P32.mkE k) z.eras y.eras (j + 1) = ((P32.ch P32.diffR P32.mkR a.rules b.rules a.rules.length ++ P32.chZ a.zones b.zones k) ++ P32.ch P32.diffE (P32.mkE k) z.eras y.eras j) ++ [(P32.mkE k) j D]) := Lib.hid (by rw [HCH.out, if_neg (by rw [HD.out]; exact hz), HD.out]; rw [← List.append_assoc])
                  have HLE : Hid (((P32.ch P32.diffR P32.mkR a.rules b.rules a.rules.length ++ P32.chZ a.zones b.zones k) ++ P32.ch P32.diffE (P32.mkE k) z.eras y.eras j).length ≤ 1000) := Lib.hid (by have e1 := out_le (b := b) HF.out k (by omega); have e2 := P32.ch_len P32.diffE (P32.mkE k) z.eras y.eras j; have e3 := chZ_len a.zones b.zones HF.out.2.2.2.2 k; have e4 := P32.ch_len P32.diffR P32.mkR a.rules b.rules a.rules.length; rw [List.length_append, List.length_append]; omega)
                  generalize (P32.ch P32.diffR P32.mkR a.rules b.rules a.rules.length ++ P32.chZ a.zones b.zones k) ++ P32.ch P32.diffE (P32.mkE k) z.eras y.eras j = l1 at HRW1 HLS HLE
                  have hNB : Hid (Blk (w1.alloc (.cells #[.int .i64 2, .int .i64 k, .int .i64 j, .int .i64 D] 50)) w1.heap.size 50 #[.int .i64 2, .int .i64 k, .int .i64 j, .int .i64 D]) := Lib.hid (Blk.new _ _ _)
                  have HO := Lib.hid (HRW1.out.alloc (.cells #[.int .i64 2, .int .i64 k, .int .i64 j, .int .i64 D] 50))
                  have HX2 := Lib.hid (HX1.out.alloc (.cells #[.int .i64 2, .int .i64 k, .int .i64 j, .int .i64 D] 50))
                  obtain ⟨i0, hi, hz0, hz1, hz2⟩ := info_parts infoChange
                  clear hz HX HX1 HRW1 HSM HD HCH HC2 hok
                  go_wp2_with (at_builtin; refine wpList_append_own _ rfl _ _ 30 rfl (w.heap.size + 2) 50 i0 _ 4 32 Tryd.underlying30 hi hz0 hz1 hz2 rfl (by decide) _ _ _ rfl HO.out ⟨w1.heap.size, 0, none⟩ 1 1 ((P32.mkE k) j D).cells rfl rfl (blk_cells hNB.out) (by simp [P32.mkE, P32.CV.cells, Value.oneCell']) (by have := HLE.out; simp only [maxLen]; omega) (by have := HLE.out; omega) HX2.out.base ?_)
                  intro v1 wa hown hgr hne
                  have HX3 := Lib.hid (HX2.out.grown HO.out hgr)
                  have HRW2 : Hid (RowIs wa (w.heap.size + 2) v1 ((P32.ch P32.diffR P32.mkR a.rules b.rules a.rules.length ++ P32.chZ a.zones b.zones k) ++ P32.ch P32.diffE (P32.mkE k) z.eras y.eras (j + 1))) := Lib.hid (by rw [HLS.out]; unfold RowIs; rw [ccells_snoc, List.length_append]; exact hown)
                  clear hown hgr hne HO HX2 hNB HLS HLE
                  go_wp2_with fail
                  go_roundw
                  case rel => exact ⟨j + 1, by omega, by go_num, HRW2.out, HX3.out, HOK⟩
                  case measure => simp [intOf]; omega
            · obtain rfl : j = z.eras.length := by omega
              have hkj : ¬ (z.eras.length : Int) < (z.eras.length : Int) := by omega
              have HOKZ := Lib.hid (okZ_succ hokz.out HKz.out HKy.out ⟨HNM.out, HNE.out, hok.out⟩)
              have HRW2 : Hid (RowIs wr (w.heap.size + 2) _ (P32.ch P32.diffR P32.mkR a.rules b.rules a.rules.length ++ P32.chZ a.zones b.zones (k + 1))) := Lib.hid (by rw [chZ_succ _ _ _ _ _ HKz.out HKy.out, ← List.append_assoc]; exact HRW.out)
              clear hok hokz HRW kb1 ny1
              go_wp2_with fail
              go_roundw
              case rel => first | exact ⟨k + 1, by omega, by go_num, HRW2.out, HX.out, HOKZ⟩ | ((repeat apply Exists.intro); exact ⟨⟨k + 1, by omega, by go_num, HRW2.out, HX.out, HOKZ⟩, rfl⟩)
              case measure => simp [intOf]; omega
        · obtain rfl : k = a.zones.length := by omega
          have HOKZ := Lib.hid hokz.out
          have hki : ¬ (a.zones.length : Int) < (a.zones.length : Int) := by omega
          clear hokz kb1
          go_wp2_with fail
          clear ka1
          go_loopw [14] (fun i W => ∃ (k n : Nat), k ≤ a.links.length ∧ i = .int .i64 k ∧ Hid (alike a.links b.links k) ∧ wr.drewN n = W) (fun i _ => a.links.length - (intOf i).toNat)
          case atStart => exact ⟨0, 0, Nat.zero_le _, rfl, Lib.hid (fun j h => by omega), rfl⟩
          case round =>
            obtain ⟨k, n0, hk, rfl, hal, rfl⟩ := hrel
            have ka2 := (HX.out.1.cell 2).trans rfl
            have kb2 := (HX.out.2.1.cell 2).trans rfl
            by_cases hlt : k < a.links.length
            · obtain ⟨x, hx⟩ : ∃ x, a.links[k]? = some x := ⟨_, List.getElem?_eq_getElem hlt⟩
              obtain ⟨y, hy⟩ : ∃ y, b.links[k]? = some y := ⟨_, List.getElem?_eq_getElem (by have := Llinks.out; omega)⟩
              obtain ⟨gx, ox, hxA, hgx, hxt⟩ := (HA.out.links.below HX.out.2.2) k x hx
              obtain ⟨gy, oy, hyA, hgy, hyt⟩ := (HB.out.links.below HX.out.2.2) k y hy
              rw [hxA] at ka2
              rw [hyA] at kb2
              have HKx := Lib.hid hx; have HKy := Lib.hid hy
              have hki : (k : Int) < (a.links.length : Int) := by omega
              have hki2 : (k : Int) < (b.links.length : Int) := by have := Llinks.out; omega
              have hk0 : (0 : Int) ≤ (k : Int) := by omega
              obtain ⟨x0, x1⟩ := x
              obtain ⟨y0, y1⟩ := y
              have cx0 : wr.cell? ⟨gx, ox + k * 2, none⟩ = some (.string x0) := hxt 0 _ rfl
              have cx1 : wr.cell? ⟨gx, ox + k * 2 + 1, none⟩ = some (.string x1) := hxt 1 _ rfl
              have cy0 : wr.cell? ⟨gy, oy + k * 2, none⟩ = some (.string y0) := hyt 0 _ rfl
              have cy1 : wr.cell? ⟨gy, oy + k * 2 + 1, none⟩ = some (.string y1) := hyt 1 _ rfl
              obtain ⟨D, hD⟩ : ∃ D, decide (x0 = y0 ∧ x1 = y1) = D := ⟨_, rfl⟩
              have hnq : ∀ W, (binOp .neq 61 (.agg #[.string x0, .string x1]) (.agg #[.string y0, .string y1])).run Tryd.prog W = .ok (.bool (!D)) W := fun W => by rw [← hD]; exact neq_link W x0 x1 y0 y1
              have HD := Lib.hid hD
              clear hD hx hy hxA hyA hxt hyt
              cases D with
              | false =>
                have HR : Hid (∀ W, Below wr.heap.size wr W → CmpRes a b w (.returned (.tuple #[.slice none 0 0, .int .i64 2])) W) := Lib.hid (fun W h => .inr ⟨fun q => by
                  have e := HKx.out.symm.trans ((congrArg (fun z => z[k]?) q.2.2.2).trans HKy.out)
                  injection e with e; injection e with e0 e1
                  exact absurd ⟨e0, e1⟩ (of_decide_eq_false HD.out), rfl, HX.out.2.2.trans (h.mono HX.out.2.2.size)⟩)
                clear HD HKx HKy hal HX HRW HA HB HF HZB
                go_wp2_with fail
                go_quiet (fail)
                go_wp2_with fail
                go_ret2
                exact HR.out _ (below_drewN (below_drewN (Below.refl _ _) _) _)
              | true =>
                have HAL : Hid (alike a.links b.links (k + 1)) := Lib.hid (by
                  obtain ⟨q0, q1⟩ := of_decide_eq_true HD.out
                  subst q0 q1
                  exact alike_succ hal.out HKx.out HKy.out)
                clear HD HKx HKy hal
                go_wp2_with fail
                go_quiet (fail)
                go_wp2_with fail
                go_roundw
                case rel => first | exact ⟨k + 1, _, by omega, by go_num, HAL, rfl⟩ | exact ⟨k + 1, _, by omega, by go_num, HAL, (World.drewN_drewN _ _ _).symm⟩
                case measure => simp [intOf]; omega
            · obtain rfl : k = a.links.length := by omega
              have hki : ¬ (a.links.length : Int) < (a.links.length : Int) := by omega
              obtain ⟨A0, c0, hv0, hCh⟩ := row_ch HRW.out
              have HR : Hid (CmpRes a b w (.returned (.tuple #[_, .int .i64 0])) (wr.drewN n0)) := Lib.hid (.inl ⟨okS_mk HOKR.out Lzones.out HOKZ.out (alike_all Llinks.out hal.out), ⟨A0, c0, congrArg (fun z => Ending.returned (.tuple #[z, .int .i64 0])) hv0, hCh.drewN _⟩, below_drewN HX.out.2.2 _⟩)
              clear hv0 hCh hal HX HRW kb2
              go_wp2_with fail
              go_ret2
              exact HR.out
end Go.Proofs.YtggdfgdnpicepaaDoor
