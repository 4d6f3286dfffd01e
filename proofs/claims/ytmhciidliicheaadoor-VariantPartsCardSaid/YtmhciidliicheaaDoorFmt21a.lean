/- The walks of small functions of chapters 7 and 21: letters, abbreviations, what stands around %s and a slash. -/
import Derived.Test.YtmhciidliicheaaDoorPlain21b
import Derived.Test.YtmhciidliicheaaDoorNum20c
import Derived.Test.YtmhciidliicheaaDoorNum20d
import Derived.Deep.WholeRow
import Derived.Shelf.GgClosure.StringsIndexFunc
import Derived.BigQuiet
namespace Go.Proofs.YtmhciidliicheaaDoor
open Go.RowKit Go.Lib
set_option linter.unusedVariables false

/-- what chapters 21 and 24 read: the error of a number that is none, and some number of bytes -/
structure Vars21 (w : World) : Prop where
  num : Vars w
  max : ∃ m, w.cell? ⟨1, 0, none⟩ = some (.int .i64 m)
  big : 1 < w.heap.size
theorem Vars21.below {w w' : World} (h : Vars21 w) (hb : Below w.heap.size w w') : Vars21 w' := by
  obtain ⟨m, hm⟩ := h.max
  exact ⟨h.num.below hb, ⟨m, (hb.cell (p := ⟨1, 0, none⟩) h.big).trans hm⟩, Nat.lt_of_lt_of_le h.big hb.size⟩

/-- strings.Cut -/
theorem cut21 (s : ByteArray) (sep : List UInt8) (w : World) (hs : s.size ≤ 1000000) (hv : Vars21 w) :
    Calls Tryd.prog 53 #[.string s, .string (str sep)] w fun e w' => e = .returned (.tuple #[.string (str (Lib.cut (P4.bl s) sep).1), .string (str (Lib.cut (P4.bl s) sep).2.1), .bool (Lib.cut (P4.bl s) sep).2.2]) ∧ Q w w' := by
  obtain ⟨m, hm⟩ := hv.max
  exact Tryd.strings_Cut s (str sep) m w (by omega) hm

/-- letters alone, so far -/
theorem all_take_succ {l : List UInt8} {k : Nat} {c : UInt8} (h : l[k]? = some c) (ha : (l.take k).all P21.isL = true) (hc : P21.isL c = true) : (l.take (k + 1)).all P21.isL = true := by
  rw [List.take_add_one, h, List.all_append, ha]
  simp [hc]
theorem all_no {l : List UInt8} {k : Nat} {c : UInt8} (h : l[k]? = some c) (hc : P21.isL c = false) : l.all P21.isL = false := by
  cases q : l.all P21.isL with
  | false => rfl
  | true => rw [List.all_eq_true] at q; rw [q c (List.mem_of_getElem? h)] at hc; cases hc
set_option maxRecDepth 100000 in
theorem is_any (s : ByteArray) (w : World) (hs : s.size ≤ 1000000) (hv : Vars w) :
    Calls Tryd.prog 54 #[.string s] w fun e w' => e = .returned (.bool (P21.num (P4.bl s))) ∧ Below w.heap.size w w' := by
  have c1 := nparse_any s w hs hv
  have hn : P21.num (P4.bl s) = decide ((P20.parse (P4.bl s)).2 = 0) := rfl
  rw [hn]
  generalize P20.parse (P4.bl s) = R at c1 ⊢
  obtain ⟨y, e⟩ := R
  go_enter Tryd.func54, Tryd.ntmps54
  go_wp2_with (go_at_call 19; refine c1.mono ?_; rintro e w' ⟨rfl, hb⟩)
  go_ret
  exact ⟨rfl, hb⟩
/-- the closure: no letter -/
theorem odd_pred (w : World) : PredAt Tryd.prog 84 #[] encR (fun r => !P21.isLr r) w := fun W r _ => by
  unfold FnGives
  show Calls _ _ _ _ fun e w' => e = .returned (.bool (!P21.isLr r)) ∧ ∃ q, w' = W.drewN q
  have hR : P21.isLr r = ((decide (65 ≤ r) && decide (r ≤ 90)) || (decide (97 ≤ r) && decide (r ≤ 122))) := rfl
  rw [hR]
  by_cases h1 : 65 ≤ r <;> by_cases h2 : r ≤ 90 <;> by_cases h3 : 97 ≤ r <;> by_cases h4 : r ≤ 122
  all_goals first | (exfalso; omega) | skip
  all_goals
    have i1 : (r : Int) < 65 ↔ r < 65 := by omega
    have i2 : (90 : Int) < (r : Int) ↔ 90 < r := by omega
    have i3 : (r : Int) < 97 ↔ r < 97 := by omega
    have i4 : (122 : Int) < (r : Int) ↔ 122 < r := by omega
    go_enter Tryd.func84, Tryd.ntmps84
    go_wp2_with fail
    go_ret
    exact ⟨by first | (simp [h1, h2, h3, h4]; done) | (simp [h1, h2, h3, h4]; omega), 0, rfl⟩
set_option maxRecDepth 100000 in
theorem idxf_any (s : ByteArray) (w : World) :
    Calls Tryd.prog 83 #[.string s, .func (.func 84) #[] #[]] w fun e w' => e = .returned (.int .i64 (Lib.idxFunc (fun r => !P21.isLr r) true s)) ∧ Below w.heap.size w w' := by
  have c1 := Any.strings_indexFunc Tryd.lays315 84 #[] (enters_of Tryd.func84 (by kernel_rfl) rfl) (fun r => !P21.isLr r) true s w (odd_pred w)
  have c2 : Calls Tryd.prog 108 #[.string s, .func (.func 84) #[] #[], .bool true] w fun e w' => e = .returned (.int .i64 (Lib.idxFunc (fun r => !P21.isLr r) true s)) ∧ Below w.heap.size w w' := c1.mono fun e w' h => ⟨h.1, by first | exact h.2 | exact h.2.1⟩
  clear c1
  generalize Lib.idxFunc (fun r => !P21.isLr r) true s = R at c2 ⊢
  go_enter Tryd.func83, Tryd.ntmps83
  go_wp2_with (go_at_call 108; refine c2.mono ?_; rintro e w' ⟨rfl, hb⟩)
  go_ret
  exact ⟨rfl, hb⟩
end Go.Proofs.YtmhciidliicheaaDoor
