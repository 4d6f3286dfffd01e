/- The walks of forms and their words (chapter 24). -/
import Derived.Test.YtmhciidliicheaaDoorPlain24
import Derived.Test.YtmhciidliicheaaDoorCs
import Derived.Test.YtmhciidliicheaaDoorFmt21e
import Derived.Test.YtmhciidliicheaaDoorShelfG
import Derived.Shelf.SlicesQ.IndexFunc
import Derived.LoopN
namespace Go.Proofs.YtmhciidliicheaaDoor
open Go.RowKit Go.Lib
set_option linter.unusedVariables false

/-- what chapter 24 reads -/
structure Vars24 (w : World) : Prop where
  v21 : Vars21 w
  tab : Rd w 0 P24.tab
theorem Vars24.below {w w' : World} (h : Vars24 w) (hb : Below w.heap.size w w') : Vars24 w' := ⟨h.v21.below hb, h.tab.belowS hb⟩
theorem form_cases (n : Int) : n < 1 ∨ n = 1 ∨ n = 2 ∨ n = 3 ∨ 4 ≤ n := by omega
theorem row_out {n : Int} (h : n < 1 ∨ 4 ≤ n) : P24.row n = [.string ⟨#[]⟩, .bool false, .bool false, .bool false, .bool false] ∧ P24.isForm n = false := by
  unfold P24.row P24.word P24.neg P24.made P24.num P24.shift P24.isForm
  rw [if_neg (by omega), if_neg (by omega), if_neg (by omega), decide_eq_false (by omega), decide_eq_false (by omega), decide_eq_false (by omega), decide_eq_false (by omega), decide_eq_false (by omega)]
  exact ⟨rfl, rfl⟩
set_option maxRecDepth 100000 in
set_option maxHeartbeats 4000000 in
theorem of24_any (n : Int) (w : World) (hv : Vars24 w) :
    Calls Tryd.prog 66 #[.int .i64 n] w fun e w' => e = .returned (.tuple #[.agg (P24.row n).toArray, .bool (P24.isForm n)]) ∧ Below w.heap.size w w' := by
  have hT := hv.tab
  have hg := hT.lt
  rcases form_cases n with h | rfl | rfl | rfl | h
  · obtain ⟨h1, h2⟩ := row_out (n := n) (.inl h)
    rw [h1, h2]
    clear h1 h2 hT hg
    go_enter Tryd.func66, Tryd.ntmps66
    go_wp2_with fail
    refine bodyPost_ret (v := .tuple #[.agg #[.string ⟨#[]⟩, .bool false, .bool false, .bool false, .bool false], .bool false]) (by simp [results, Tryd.results66, go_sem]) rfl ⟨rfl, (Below.refl _ _).alloc (Nat.le_refl _) _⟩
  · have hB := hT.alloc (.cells #[.string ⟨#[]⟩, .bool false, .bool false, .bool false, .bool false] 136)
    have k0 := hB.cell 5 (.string (str (P24.word 1))) rfl
    have k1 := hB.cell 6 (.bool true) rfl
    have k2 := hB.cell 7 (.bool true) rfl
    have k3 := hB.cell 8 (.bool false) rfl
    have k4 := hB.cell 9 (.bool false) rfl
    generalize hS : str (P24.word 1) = SW at k0
    clear hT hB
    go_enter Tryd.func66, Tryd.ntmps66
    go_wp2_with fail
    refine bodyPost_ret (v := .tuple #[.agg #[.string SW, .bool true, .bool true, .bool false, .bool false], .bool true]) (by simp [results, Tryd.results66, go_sem]) rfl ⟨by rw [← hS]; rfl, (Below.refl _ _).alloc (Nat.le_refl _) _⟩
  · have hB := hT.alloc (.cells #[.string ⟨#[]⟩, .bool false, .bool false, .bool false, .bool false] 136)
    have k0 := hB.cell 10 (.string (str (P24.word 2))) rfl
    have k1 := hB.cell 11 (.bool true) rfl
    have k2 := hB.cell 12 (.bool false) rfl
    have k3 := hB.cell 13 (.bool true) rfl
    have k4 := hB.cell 14 (.bool false) rfl
    generalize hS : str (P24.word 2) = SW at k0
    clear hT hB
    go_enter Tryd.func66, Tryd.ntmps66
    go_wp2_with fail
    refine bodyPost_ret (v := .tuple #[.agg #[.string SW, .bool true, .bool false, .bool true, .bool false], .bool true]) (by simp [results, Tryd.results66, go_sem]) rfl ⟨by rw [← hS]; rfl, (Below.refl _ _).alloc (Nat.le_refl _) _⟩
  · have hB := hT.alloc (.cells #[.string ⟨#[]⟩, .bool false, .bool false, .bool false, .bool false] 136)
    have k0 := hB.cell 15 (.string (str (P24.word 3))) rfl
    have k1 := hB.cell 16 (.bool false) rfl
    have k2 := hB.cell 17 (.bool false) rfl
    have k3 := hB.cell 18 (.bool true) rfl
    have k4 := hB.cell 19 (.bool true) rfl
    generalize hS : str (P24.word 3) = SW at k0
    clear hT hB
    go_enter Tryd.func66, Tryd.ntmps66
    go_wp2_with fail
    refine bodyPost_ret (v := .tuple #[.agg #[.string SW, .bool false, .bool false, .bool true, .bool true], .bool true]) (by simp [results, Tryd.results66, go_sem]) rfl ⟨by rw [← hS]; rfl, (Below.refl _ _).alloc (Nat.le_refl _) _⟩
  · obtain ⟨h1, h2⟩ := row_out (n := n) (.inr h)
    rw [h1, h2]
    have h3 : ¬ n < 1 := by omega
    clear h1 h2 hT hg
    go_enter Tryd.func66, Tryd.ntmps66
    go_wp2_with fail
    refine bodyPost_ret (v := .tuple #[.agg #[.string ⟨#[]⟩, .bool false, .bool false, .bool false, .bool false], .bool false]) (by simp [results, Tryd.results66, go_sem]) rfl ⟨rfl, (Below.refl _ _).alloc (Nat.le_refl _) _⟩
set_option maxRecDepth 100000 in
set_option maxHeartbeats 4000000 in
theorem word_any (n : Int) (w : World) (hv : Vars24 w) :
    Calls Tryd.prog 29 #[.int .i64 n] w fun e w' => e = .returned (.string (str (P24.word n))) ∧ Below w.heap.size w w' := by
  have cO := Lib.hid (of24_any n w hv)
  have hr : (P24.row n).toArray = #[.string (str (P24.word n)), .bool (P24.neg n), .bool (P24.made n), .bool (P24.num n), .bool (P24.shift n)] := rfl
  rw [hr] at cO
  generalize str (P24.word n) = SW at cO ⊢
  generalize P24.neg n = b1 at cO
  generalize P24.made n = b2 at cO
  generalize P24.num n = b3 at cO
  generalize P24.shift n = b4 at cO
  generalize P24.isForm n = b5 at cO
  clear hr hv
  go_enter Tryd.func29, Tryd.ntmps29
  go_wp2_with (go_at_call 66; refine cO.out.mono ?_; rintro e w' ⟨rfl, hb⟩)
  go_ret
  exact ⟨rfl, hb.alloc hb.size _⟩
/-- the rows of the three forms as the library's search meets them -/
def rows3 : List (List UInt8 × Bool × Bool × Bool × Bool) := [(P24.word 1, true, true, false, false), (P24.word 2, true, false, true, false), (P24.word 3, false, false, true, true)]
def vcell (x : List UInt8 × Bool × Bool × Bool × Bool) : List Value := [.string (str x.1), .bool x.2.1, .bool x.2.2.1, .bool x.2.2.2.1, .bool x.2.2.2.2]
theorem parse1_pred (s : ByteArray) (B : Nat) (w : World) (hB : B < w.heap.size) (hc : w.cell? ⟨B, 0, none⟩ = some (.string s)) :
    PredBelow Tryd.prog 73 #[.pointer (some ⟨B, 0, none⟩)] (fun x => .agg (vcell x).toArray) (fun x => decide (x.1 = P4.bl s)) w := fun W x hb => by
  have hc' : W.cell? ⟨B, 0, none⟩ = some (.string s) := (hb.cell (p := ⟨B, 0, none⟩) hB).trans hc
  have hBW : B < W.heap.size := Nat.lt_of_lt_of_le hB hb.size
  have hne : B ≠ W.heap.size := by omega
  obtain ⟨wd, b1, b2, b3, b4⟩ := x
  show Calls Tryd.prog 73 #[.agg #[.string (str wd), .bool b1, .bool b2, .bool b3, .bool b4], .pointer (some ⟨B, 0, none⟩)] W fun e w' => e = .returned (.bool (decide (wd = P4.bl s))) ∧ Below w.heap.size w w'
  have hq : ((str wd).toList == s.toList) = decide (wd = P4.bl s) := by
    by_cases h : wd = P4.bl s
    · rw [decide_eq_true h, h, str_bl]; simp
    · rw [decide_eq_false h]
      exact eq_b _ _ fun q => h (by rw [← q]; rfl)
  rw [← hq]
  clear hq
  have hN := (Below.refl W.heap.size W).alloc (Nat.le_refl _) (.cells #[.string (str wd), .bool b1, .bool b2, .bool b3, .bool b4] 136)
  have hc2 := (hN.cell (p := ⟨B, 0, none⟩) hBW).trans hc'
  generalize str wd = SW at hc2 hN ⊢
  go_enter Tryd.func73, Tryd.ntmps73
  go_wp2_with fail
  go_ret
  exact ⟨rfl, hb.trans (hN.mono hb.size)⟩
end Go.Proofs.YtmhciidliicheaaDoor
