/- The searches of variant.Check (chapter 24): the first rule, the first era that is not allowed. -/
import Derived.Test.YtmhciidliicheaaDoorVar24b
namespace Go.Proofs.YtmhciidliicheaaDoor
open Go.RowKit Go.Lib
set_option linter.unusedVariables false

theorem cells_all {α : Type} [Inhabited α] {m : Nat} {f : α → List Value} {w : World} {A : Option Addr} {L : List α} (h : CellsIn m f w A L) (h0 : 0 < L.length) (hm : 0 < (f L[0]!).length) :
    ∃ b o, A = some ⟨b, o, none⟩ ∧ b < w.heap.size ∧ ∀ j, j < L.length → ∀ i v, (f L[j]!)[i]? = some v → w.cell? ⟨b, o + j * m + i, none⟩ = some v := by
  obtain ⟨b, o, hA, hlt, _⟩ := h 0 _ (List.getElem?_eq_getElem h0)
  refine ⟨b, o, hA, hlt, fun j hj i v hv => ?_⟩
  obtain ⟨b', o', hA', _, hc⟩ := h j _ (List.getElem?_eq_getElem hj)
  rw [hA] at hA'
  injection hA' with q
  injection q with q1 q2
  subst q1 q2
  rw [getElem!_pos L j hj] at hv
  exact hc i v hv
def vty : TypeId := 136
set_option maxRecDepth 100000 in
theorem check1_pred (n : Int) (B : Nat) (w : World) (hV : Blk w B 136 (P24.row n).toArray) :
    PredBelow Tryd.prog 68 #[.pointer (some ⟨B, 0, none⟩)] (fun x : RV => .agg x.cells.toArray) (P24.negR n) w := fun W x hb => by
  have hW := hV.below hb hV.lt
  have hne : B ≠ W.heap.size := by have := hW.lt; omega
  have c1 : W.cell? ⟨B, 1, none⟩ = some (.bool (P24.neg n)) := (hW.cell 1).trans rfl
  have hlt := hW.lt
  clear hW
  obtain ⟨nm, fr, tl, mo, rdk, rdw, rdd, sc, bs, sv, lt⟩ := x
  show Calls Tryd.prog 68 #[.agg #[.string nm, .int .i64 fr, .int .i64 tl, .int .i64 mo, .int .i64 rdk, .int .i64 rdw, .int .i64 rdd, .int .i64 sc, .int .i64 bs, .int .i64 sv, .string lt], .pointer (some ⟨B, 0, none⟩)] W fun e w' => e = .returned (.bool (decide (sv < 0) && !P24.neg n)) ∧ Below w.heap.size w w'
  have hN := (Below.refl W.heap.size W).alloc (Nat.le_refl _) (.cells #[.string nm, .int .i64 fr, .int .i64 tl, .int .i64 mo, .int .i64 rdk, .int .i64 rdw, .int .i64 rdd, .int .i64 sc, .int .i64 bs, .int .i64 sv, .string lt] 38)
  have c2 := (hN.cell (p := ⟨B, 1, none⟩) hlt).trans c1
  have hb2 := hb.trans (hN.mono hb.size)
  generalize P24.neg n = b at c1 c2 ⊢
  by_cases h : sv < 0
  · rw [decide_eq_true h]
    go_enter Tryd.func68, Tryd.ntmps68
    go_wp2_with fail
    go_ret
    exact ⟨by simp, hb2⟩
  · rw [decide_eq_false h]
    go_enter Tryd.func68, Tryd.ntmps68
    go_wp2_with fail
    go_ret
    exact ⟨by simp, hb2⟩
/-- an era whose FORMAT is not too long -/
abbrev EVs := {e : EV // e.fmt.size ≤ 1000000}
instance : Inhabited EVs := ⟨⟨default, Nat.zero_le _⟩⟩
set_option maxRecDepth 100000 in
set_option maxHeartbeats 4000000 in
theorem check2_pred (n : Int) (B : Nat) (w : World) (hV : Blk w B 136 (P24.row n).toArray) (hv : Vars21 w) :
    PredBelow Tryd.prog 69 #[.pointer (some ⟨B, 0, none⟩)] (fun x : EVs => .agg x.1.cells.toArray) (fun x => P24.badV n x.1) w := fun W x hb => by
  have hW := hV.below hb hV.lt
  obtain ⟨⟨off, kd, save, set, fmt, ui, uy, um, dk, dw, dd, asec, ab⟩, hsz⟩ := x
  have hN := (Below.refl W.heap.size W).alloc (Nat.le_refl _) (.cells #[.int .i64 off, .int .i64 kd, .int .i64 save, .string set, .string fmt, .bool ui, .int .i64 uy, .int .i64 um, .int .i64 dk, .int .i64 dw, .int .i64 dd, .int .i64 asec, .int .i64 ab] 33)
  have hb2 := hb.trans (hN.mono hb.size)
  have hv2 := hv.below hb2
  have hW2 := hW.alloc (.cells #[.int .i64 off, .int .i64 kd, .int .i64 save, .string set, .string fmt, .bool ui, .int .i64 uy, .int .i64 um, .int .i64 dk, .int .i64 dw, .int .i64 dd, .int .i64 asec, .int .i64 ab] 33)
  show Calls Tryd.prog 69 #[.agg #[.int .i64 off, .int .i64 kd, .int .i64 save, .string set, .string fmt, .bool ui, .int .i64 uy, .int .i64 um, .int .i64 dk, .int .i64 dw, .int .i64 dd, .int .i64 asec, .int .i64 ab], .pointer (some ⟨B, 0, none⟩)] W fun e w' => e = .returned (.bool ((decide (P21.kind (P4.bl fmt) = 4) && !P24.made n) || (decide (P21.kind (P4.bl fmt) = 5) && !P24.num n))) ∧ Below w.heap.size w w'
  have cK := Lib.hid (kind_any fmt _ hsz hv2)
  have hkc := P21.kind_cases (P4.bl fmt)
  generalize P21.kind (P4.bl fmt) = K at cK hkc ⊢
  have hrow : (P24.row n).toArray = #[.string (str (P24.word n)), .bool (P24.neg n), .bool (P24.made n), .bool (P24.num n), .bool (P24.shift n)] := rfl
  rw [hrow] at hW2
  generalize P24.made n = b2 at hW2 ⊢
  generalize P24.num n = b3 at hW2 ⊢
  clear hsz hv2 hv hN hW hV hb hrow
  rcases hkc with rfl | rfl | rfl | rfl | rfl | rfl <;> cases b2 <;> cases b3
  all_goals
    go_enter Tryd.func69, Tryd.ntmps69
    go_wp2_with fail
    refine cK.out.mono ?_
    rintro e w1 ⟨rfl, hc⟩
    have hW3 := hW2.below hc hW2.lt
    have hb3 := hb2.trans (hc.mono hb2.size)
    have c2 := (hW3.cell 2).trans rfl
    have c3 := (hW3.cell 3).trans rfl
    clear hW2 hW3 hb2 hc cK
    go_wp2_with fail
    go_ret
    exact ⟨by simp, hb3⟩
set_option maxRecDepth 100000 in
theorem idx_rules (n : Int) (B : Nat) (A : Option Addr) (c : Nat) (L : List RV) (w : World) (hl : L.length ≤ 1000000) (hR : CellsIn 11 RV.cells w A L) (hV : Blk w B 136 (P24.row n).toArray) :
    Calls Tryd.prog 67 #[.slice A L.length c, .func (.func 68) #[] #[.pointer (some ⟨B, 0, none⟩)]] w fun e w' => e = .returned (.int .i64 (P24.first (P24.negR n) L)) ∧ Below w.heap.size w w' := by
  rcases Nat.eq_zero_or_pos L.length with h0 | h0
  · obtain rfl : L = [] := List.length_eq_zero_iff.1 h0
    go_enter Tryd.func67, Tryd.ntmps67
    go_wp2_with fail
    refine wp_loop_rounds 1 ?_
    rw [rounds_succ]
    go_wp2_with fail
    go_ret
    exact ⟨rfl, Below.refl _ _⟩
  · obtain ⟨b, o, rfl, hb, hc⟩ := cells_all hR h0 (by show 0 < 11; decide)
    have q := AnyQ.slices_IndexFunc Tryd.laysIFR 11 Tryd.isAgg38 Tryd.sizeOf38 RV.cells (fun _ => rfl) (P24.negR n) 68 #[.pointer (some ⟨B, 0, none⟩)] (enters_of Tryd.func68 (by kernel_rfl) rfl) b o L.length c L w (check1_pred n B w hV) (Nat.le_refl _) (by omega) hb hc
    rw [List.take_length, P24.first_idx] at q
    exact q
/-- the same eras, each with its bound -/
def bounded (L : List EV) (h : ∀ e ∈ L, e.fmt.size ≤ 1000000) : List EVs := L.pmap (fun e he => ⟨e, he⟩) h
theorem bounded_len (L : List EV) (h : ∀ e ∈ L, e.fmt.size ≤ 1000000) : (bounded L h).length = L.length := List.length_pmap ..
theorem bounded_map (L : List EV) (h : ∀ e ∈ L, e.fmt.size ≤ 1000000) : (bounded L h).map (·.1) = L := by
  unfold bounded
  rw [List.map_pmap]
  simp
theorem bounded_at (L : List EV) (h : ∀ e ∈ L, e.fmt.size ≤ 1000000) (j : Nat) (hj : j < L.length) : (bounded L h)[j]!.1 = L[j]! := by
  have hj' : j < (bounded L h).length := by rw [bounded_len]; exact hj
  rw [getElem!_pos (bounded L h) j hj', getElem!_pos L j hj]
  have e := congrArg (fun l => l[j]?) (bounded_map L h)
  simp only [List.getElem?_map, List.getElem?_eq_getElem hj', List.getElem?_eq_getElem hj, Option.map_some, Option.some.injEq] at e
  exact e
set_option maxRecDepth 100000 in
theorem idx_eras (n : Int) (B : Nat) (A : Option Addr) (c : Nat) (L : List EV) (w : World) (hl : L.length ≤ 1000000) (hz : ∀ e ∈ L, e.fmt.size ≤ 1000000) (hR : CellsIn 13 EV.cells w A L) (hV : Blk w B 136 (P24.row n).toArray) (hv : Vars21 w) :
    Calls Tryd.prog 70 #[.slice A L.length c, .func (.func 69) #[] #[.pointer (some ⟨B, 0, none⟩)]] w fun e w' => e = .returned (.int .i64 (P24.first (P24.badV n) L)) ∧ Below w.heap.size w w' := by
  rcases Nat.eq_zero_or_pos L.length with h0 | h0
  · obtain rfl : L = [] := List.length_eq_zero_iff.1 h0
    go_enter Tryd.func70, Tryd.ntmps70
    go_wp2_with fail
    refine wp_loop_rounds 1 ?_
    rw [rounds_succ]
    go_wp2_with fail
    go_ret
    exact ⟨rfl, Below.refl _ _⟩
  · obtain ⟨b, o, rfl, hb, hc⟩ := cells_all hR h0 (by show 0 < 13; decide)
    have q := AnyQ.slices_IndexFunc Tryd.laysIFE 13 Tryd.isAgg33 Tryd.sizeOf33 (fun x : EVs => x.1.cells) (fun _ => rfl) (fun x => P24.badV n x.1) 69 #[.pointer (some ⟨B, 0, none⟩)] (enters_of Tryd.func69 (by kernel_rfl) rfl) b o L.length c (bounded L hz) w (check2_pred n B w hV hv) (by rw [bounded_len]; exact Nat.le_refl _) (by omega) hb
      (fun j hj i v hi => by
        rw [bounded_len] at hj
        rw [bounded_at L hz j hj] at hi
        exact hc j hj i v hi)
    rw [← bounded_len L hz, List.take_length, P24.first_idx, P24.first_map (fun x : EVs => x.1) (P24.badV n), bounded_map] at q
    rw [bounded_len] at q
    exact q
end Go.Proofs.YtmhciidliicheaaDoor
