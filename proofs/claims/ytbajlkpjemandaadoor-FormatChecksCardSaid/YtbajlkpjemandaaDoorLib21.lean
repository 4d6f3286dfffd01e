/- Generic functions of the library over rules: Clone, Equal of a list with itself, ContainsFunc with the law's closure. -/
import Derived.Test.YtbajlkpjemandaaDoorFmt21h
import Derived.Test.YtbajlkpjemandaaDoorShelfG
import Derived.Test.YtbajlkpjemandaaDoorEqs
import Derived.Shelf.SlicesQ.IndexFunc
import Derived.Shelf.SlicesQ.Equal
import Derived.Shelf.SlicesE.Clone
import Derived.LoopN
namespace Go.Proofs.YtbajlkpjemandaaDoor
open Go.RowKit Go.Lib
set_option linter.unusedVariables false

instance : Inhabited RV := ⟨⟨⟨#[]⟩, 0, 0, 0, 0, 0, 0, 0, 0, 0, ⟨#[]⟩⟩⟩
theorem rules_cells {w : World} {A : Option Addr} {L : List RV} (h : RulesIn w A L) (h0 : 0 < L.length) :
    ∃ b o, A = some ⟨b, o, none⟩ ∧ b < w.heap.size ∧ ∀ j, j < L.length → ∀ i v, (L[j]!.cells)[i]? = some v → w.cell? ⟨b, o + j * 11 + i, none⟩ = some v := by
  obtain ⟨b, o, hA, hlt, _⟩ := h 0 _ (List.getElem?_eq_getElem h0)
  refine ⟨b, o, hA, hlt, fun j hj i v hv => ?_⟩
  obtain ⟨b', o', hA', _, hc⟩ := h j _ (List.getElem?_eq_getElem hj)
  rw [hA] at hA'
  injection hA' with q
  injection q with q1 q2
  subst q1 q2
  rw [getElem!_pos L j hj] at hv
  exact hc i v hv
theorem rcell_one (r : RV) : ∀ v ∈ r.cells, v.oneCell' = true := by
  intro v hv
  simp only [RV.cells, List.mem_cons, List.not_mem_nil, or_false] at hv
  rcases hv with rfl | rfl | rfl | rfl | rfl | rfl | rfl | rfl | rfl | rfl | rfl <;> rfl
theorem infoR : (Tryd.prog.info? 38).map (fun i => (i.zero.map (·.cells.size), i.size, i.bytes)) = some (some 11, 11, 104) := by kernel_rfl
theorem flat_get {L : List RV} {q : Nat} {u : Value} (h : (L.flatMap RV.cells)[q]? = some u) : q / 11 < L.length ∧ (L[q / 11]!.cells)[q % 11]? = some u := by
  induction L generalizing q with
  | nil => simp at h
  | cons r L ih =>
    rw [List.flatMap_cons] at h
    by_cases hq : q < 11
    · rw [List.getElem?_append_left (by exact hq)] at h
      rw [show q / 11 = 0 by omega, show q % 11 = q by omega]
      exact ⟨by simp, h⟩
    · rw [List.getElem?_append_right (by show 11 ≤ q; omega)] at h
      obtain ⟨h1, h2⟩ := ih (q := q - 11) h
      have e1 : q / 11 = (q - 11) / 11 + 1 := by omega
      have e2 : q % 11 = (q - 11) % 11 := by omega
      rw [e1, e2]
      refine ⟨by simp; omega, ?_⟩
      rw [getElem!_pos (r :: L) ((q - 11) / 11 + 1) (by simp; omega)]
      rw [getElem!_pos L ((q - 11) / 11) h1] at h2
      exact h2
theorem flat_at11 {L : List RV} {k j : Nat} {r : RV} (hj : j < 11) (h : L[k]? = some r) : (L.flatMap RV.cells)[k * 11 + j]? = r.cells[j]? := by
  induction L generalizing k with
  | nil => simp at h
  | cons a L ih =>
    rw [List.flatMap_cons]
    cases k with
    | zero =>
      rw [List.getElem?_cons_zero] at h
      injection h with h
      subst h
      rw [Nat.zero_mul, Nat.zero_add, List.getElem?_append_left (by exact hj)]
    | succ k =>
      rw [List.getElem?_cons_succ] at h
      rw [List.getElem?_append_right (by show 11 ≤ _; omega)]
      have := ih h
      rw [← this]
      congr 1
      show (k + 1) * 11 + j - 11 = k * 11 + j
      omega
set_option maxRecDepth 100000 in
set_option maxHeartbeats 4000000 in
theorem clone_rules (A : Option Addr) (c : Nat) (L : List RV) (w : World) (hl : L.length ≤ 1000000) (hR : RulesIn w A L) :
    Calls Tryd.prog 32 #[.slice A L.length c] w fun e w' => ∃ A' c', e = .returned (.slice A' L.length c') ∧ RulesIn w' A' L ∧ Below w.heap.size w w' := by
  rcases Nat.eq_zero_or_pos L.length with h0 | h0
  · obtain rfl : L = [] := List.length_eq_zero_iff.1 h0
    have hq := fun (w : World) (a : Option Addr) (n c n' c' : Nat) => Lib.run_eql_slice_nil (P := Tryd.prog) w 24 38 a n c n' c' Tryd.underlying24
    cases A with
    | none =>
      exact (AnyE.slices_Clone_nil Tryd.laysCLR 0 c w).mono fun e w' h => ⟨none, 0, h.1, RulesIn.nil _ _, h.2 ▸ Below.refl _ _⟩
    | some a =>
      obtain ⟨i, hi⟩ : ∃ i, Tryd.prog.info? 38 = some i := by
        cases q : Tryd.prog.info? 38 with
        | none => have := infoR; rw [q] at this; cases this
        | some i => exact ⟨i, rfl⟩
      have hap : ∀ (ty : TypeId) (w : World), (Builtin.append_ #[24, 24] ty #[.slice (some ⟨w.heap.size, 0, none⟩) 0 0, .slice (some a) 0 c]).run Tryd.prog (w.alloc (.cells #[] 38)) = .ok (.slice (some ⟨w.heap.size, 0, none⟩) 0 0) (w.alloc (.cells #[] 38)) := fun ty w => by
        simp [Builtin.append_, run_underlying Tryd.underlying24, sizeOf, typeInfo, hi, Builtin.lenOf, Builtin.firstCells, loadCells, loadCellsFrom, storeCells]
      show Calls Tryd.prog 32 #[.slice (some a) 0 c] w _
      go_enter Tryd.func32, Tryd.ntmps32
      go_wp2_with fail
      go_ret
      exact ⟨_, _, rfl, RulesIn.nil _ _, (Below.refl _ _).alloc (Nat.le_refl _) _⟩
  · obtain ⟨b, o, rfl, hb, hc⟩ := rules_cells hR h0
    obtain ⟨i, hi⟩ : ∃ i, Tryd.prog.info? 38 = some i := by
      cases q : Tryd.prog.info? 38 with
      | none => have := infoR; rw [q] at this; cases this
      | some i => exact ⟨i, rfl⟩
    have hii := infoR
    rw [hi] at hii
    simp only [Option.map_some, Option.some.injEq, Prod.mk.injEq] at hii
    obtain ⟨hz, hz1, hz2⟩ := hii
    obtain ⟨z, hz0⟩ : ∃ z, i.zero = some z := by
      cases q : i.zero with
      | none => rw [q] at hz; cases hz
      | some z => exact ⟨z, rfl⟩
    rw [hz0] at hz
    have hzs : z.cells.size = 11 := by simpa using hz
    have hfl : (L.flatMap RV.cells).length = L.length * 11 := by
      clear hR h0 hc hl
      induction L with
      | nil => rfl
      | cons r L ih => rw [List.flatMap_cons, List.length_append, ih]; show 11 + L.length * 11 = (L.length + 1) * 11; omega
    have q := AnyE.slices_Clone Tryd.laysCLR i z 11 104 hi hz0 hz1 hz2 hzs (by decide) Tryd.sizeOf38 b o L.length c (L.flatMap RV.cells) w hfl (by simp only [maxLen]; omega) (by omega)
      (fun j u hu => by
        obtain ⟨h1, h2⟩ := flat_get hu
        have := hc _ h1 _ _ h2
        rwa [show o + j / 11 * 11 + j % 11 = o + j by omega] at this)
      (fun u hu => by
        obtain ⟨r, _, hr⟩ := List.mem_flatMap.1 hu
        exact rcell_one r u hr)
    refine Calls.mono (P := Tryd.prog) q fun e w' h => ?_
    obtain ⟨v', rfl, hown, _, hbl⟩ := h
    obtain ⟨B, cap, rfl, hB0, hB1, hcap, hcs⟩ := own_form hown h0
    refine ⟨_, _, rfl, fun k r hr => ⟨B, 0, rfl, hB1, fun j u hu => ?_⟩, hbl⟩
    have hj : j < 11 := (List.getElem?_eq_some_iff.mp hu).1
    rw [Nat.zero_add]
    exact hcs _ _ ((flat_at11 hj hr).trans hu)
def eqR (a b : RV) : Bool := decide (a.name = b.name ∧ a.frm = b.frm ∧ a.til = b.til ∧ a.month = b.month ∧ a.dk = b.dk ∧ a.dw = b.dw ∧ a.dd = b.dd ∧ a.asec = b.asec ∧ a.abase = b.abase ∧ a.save = b.save ∧ a.letter = b.letter)
theorem eqR_self (a : RV) : eqR a a = true := by unfold eqR; simp
theorem neqR : NeqAt Tryd.prog 38 (fun x : RV => .agg x.cells.toArray) eqR := ⟨fun x y w => neq_rule w .., GuardAt.agg _ (by kernel_rfl)⟩
theorem allEq_self (L : List RV) : Lib.allEq eqR L L = true := by
  induction L with
  | nil => rfl
  | cons a L ih => simp [Lib.allEq, eqR_self] at *; try assumption
set_option maxRecDepth 100000 in
set_option maxHeartbeats 4000000 in
theorem equal_same (A A' : Option Addr) (c c' : Nat) (L : List RV) (w : World) (hl : L.length ≤ 1000000) (hR : RulesIn w A L) (hR' : RulesIn w A' L) :
    Calls Tryd.prog 34 #[.slice A L.length c, .slice A' L.length c'] w fun e w' => e = .returned (.bool true) ∧ Q w w' := by
  rcases Nat.eq_zero_or_pos L.length with h0 | h0
  · obtain rfl : L = [] := List.length_eq_zero_iff.1 h0
    go_enter Tryd.func34, Tryd.ntmps34
    go_wp2_with fail
    refine wp_loop_rounds 1 ?_
    rw [rounds_succ]
    go_wp2_with fail
    go_ret
    exact ⟨rfl, Q.refl _⟩
  · obtain ⟨b, o, rfl, hb, hc⟩ := rules_cells hR h0
    obtain ⟨b', o', rfl, hb', hc'⟩ := rules_cells hR' h0
    have q := AnyQ.slices_Equal Tryd.laysEQR 11 Tryd.isAgg38 Tryd.sizeOf38 RV.cells (fun _ => rfl) eqR neqR b o L.length c b' o' L.length c' L L w (Nat.le_refl _) (Nat.le_refl _) (by omega) (by omega) hc hc'
    rw [List.take_length, allEq_self] at q
    exact q
def longB (r : RV) : Bool := decide (50 < r.letter.size)
theorem long_pred (w : World) : PredBelow Tryd.prog 31 #[] (fun x : RV => .agg x.cells.toArray) longB w := fun W x hb => by
  obtain ⟨nm, fr, tl, mo, rdk, rdw, rdd, sc, bs, sv, lt⟩ := x
  show Calls Tryd.prog 31 #[.agg #[.string nm, .int .i64 fr, .int .i64 tl, .int .i64 mo, .int .i64 rdk, .int .i64 rdw, .int .i64 rdd, .int .i64 sc, .int .i64 bs, .int .i64 sv, .string lt]] W fun e w' => e = .returned (.bool (decide (50 < lt.size))) ∧ Below w.heap.size w w'
  by_cases h : 50 < lt.size
  · have hi : (50 : Int) < (lt.size : Int) := by omega
    rw [decide_eq_true h]
    go_enter Tryd.func31, Tryd.ntmps31
    go_wp2_with fail
    go_ret
    exact ⟨by simp, hb.alloc hb.size _⟩
  · have hi : ¬ (50 : Int) < (lt.size : Int) := by omega
    rw [decide_eq_false h]
    go_enter Tryd.func31, Tryd.ntmps31
    go_wp2_with fail
    go_ret
    exact ⟨by simp, hb.alloc hb.size _⟩
set_option maxRecDepth 100000 in
set_option maxHeartbeats 4000000 in
theorem contains_long (A : Option Addr) (c : Nat) (L : List RV) (w : World) (hl : L.length ≤ 1000000) (hR : RulesIn w A L) :
    Calls Tryd.prog 30 #[.slice A L.length c, .func (.func 31) #[] #[]] w fun e w' => e = .returned (.bool (L.any longB)) ∧ Below w.heap.size w w' := by
  rcases Nat.eq_zero_or_pos L.length with h0 | h0
  · obtain rfl : L = [] := List.length_eq_zero_iff.1 h0
    have cI : Hid (∀ W, Calls Tryd.prog 71 #[.slice A 0 c, .func (.func 31) #[] #[]] W fun e w' => e = .returned (.int .i64 (-1)) ∧ w' = W) := Lib.hid fun W => by
      go_enter Tryd.func71, Tryd.ntmps71
      go_wp2_with fail
      refine wp_loop_rounds 1 ?_
      rw [rounds_succ]
      go_wp2_with fail
      go_ret
      exact ⟨rfl, rfl⟩
    go_enter Tryd.func30, Tryd.ntmps30
    go_wp2_with (go_at_call 71; refine (cI.out _).mono ?_; rintro e w' ⟨rfl, rfl⟩)
    go_ret
    exact ⟨rfl, Below.refl _ _⟩
  · obtain ⟨b, o, rfl, hb, hc⟩ := rules_cells hR h0
    have q := AnyQ.slices_ContainsFunc Tryd.laysCFR 11 Tryd.isAgg38 Tryd.sizeOf38 RV.cells (fun _ => rfl) longB 31 #[] (enters_of Tryd.func31 (by kernel_rfl) rfl) b o L.length c L w (long_pred w) (Nat.le_refl _) (by omega) hb hc
    rw [List.take_length] at q
    exact q
end Go.Proofs.YtbajlkpjemandaaDoor
