/- The walks of Parse (chapter 24). -/
import Derived.Test.YtmhciidliicheaaDoorVar24a
import Derived.Test.YtmhciidliicheaaDoorFlat21
namespace Go.Proofs.YtmhciidliicheaaDoor
open Go.RowKit Go.Lib
set_option linter.unusedVariables false

theorem tab_rows : P24.tab.drop 5 = rows3.flatMap vcell := rfl
theorem tab_at {w : World} (h : Rd w 0 P24.tab) : ∀ j, j < rows3.length → ∀ i v, (vcell rows3[j]!)[i]? = some v → w.cell? ⟨0, 5 + j * 5 + i, none⟩ = some v := by
  intro j hj i v hv
  have hi : i < 5 := (List.getElem?_eq_some_iff.mp hv).1
  refine h.cell _ v ?_
  rw [show 5 + j * 5 + i = 5 + (j * 5 + i) by omega, ← List.getElem?_drop, tab_rows]
  rw [flat_at (m := 5) (fun _ => rfl) rows3 j i rows3[j]! hi (by rw [getElem!_pos rows3 j hj]; exact List.getElem?_eq_getElem hj)]
  exact hv
theorem parse_first (s : List UInt8) : P24.parse s = if P24.first (fun x : List UInt8 × Bool × Bool × Bool × Bool => decide (x.1 = s)) rows3 < 0 then (0, 5) else (P24.first (fun x : List UInt8 × Bool × Bool × Bool × Bool => decide (x.1 = s)) rows3 + 1, 0) := by
  unfold P24.parse rows3 P24.first P24.first P24.first P24.first
  by_cases h1 : s = P24.word 1
  · rw [if_pos h1, h1]; simp
  · rw [if_neg h1]
    have h1' : ¬ P24.word 1 = s := fun q => h1 q.symm
    by_cases h2 : s = P24.word 2
    · rw [if_pos h2]
      have h2' : P24.word 2 = s := h2.symm
      simp [h1', h2']
    · rw [if_neg h2]
      have h2' : ¬ P24.word 2 = s := fun q => h2 q.symm
      by_cases h3 : s = P24.word 3
      · rw [if_pos h3]
        have h3' : P24.word 3 = s := h3.symm
        simp [h1', h2', h3']
      · rw [if_neg h3]
        have h3' : ¬ P24.word 3 = s := fun q => h3 q.symm
        simp [h1', h2', h3']
set_option maxRecDepth 100000 in
set_option maxHeartbeats 4000000 in
theorem parse24_any (s : ByteArray) (w : World) (hv : Vars24 w) :
    Calls Tryd.prog 30 #[.string s] w fun e w' => e = .returned (.tuple #[.int .i64 (P24.parse (P4.bl s)).1, .int .i64 (P24.parse (P4.bl s)).2]) ∧ Below w.heap.size w w' := by
  have hmf : ∀ (fn : Fn) (first cap : Array Value) (w : World), (Instr.makeFunc fn first cap).run Tryd.prog w = .ok (.func fn first cap) w := fun _ _ _ _ => rfl
  have hB := Blk.new w 9 #[.string s]
  have hb0 := (Below.refl w.heap.size w).alloc (Nat.le_refl _) (.cells #[.string s] 9)
  have hT := hv.tab.alloc (.cells #[.string s] 9)
  have q := AnyQ.slices_IndexFunc Tryd.laysIFV 5 Tryd.isAgg136 Tryd.sizeOf136 vcell (fun _ => rfl) (fun x => decide (x.1 = P4.bl s)) 73 #[.pointer (some ⟨w.heap.size, 0, none⟩)] (enters_of Tryd.func73 (by kernel_rfl) rfl) 0 5 3 3 rows3 (w.alloc (.cells #[.string s] 9))
    (parse1_pred s w.heap.size _ hB.lt ((hB.cell 0).trans rfl)) (by decide) (by decide) hT.lt (tab_at hT)
  rw [show rows3.take 3 = rows3 from rfl, P24.first_idx] at q
  have hp := parse_first (P4.bl s)
  have hg := P24.first_ge (fun x : List UInt8 × Bool × Bool × Bool × Bool => decide (x.1 = P4.bl s)) rows3
  rw [hp]
  have hl3 : rows3.length = 3 := rfl
  rw [hl3] at hg
  have cI : Hid (Calls Tryd.prog 72 #[.slice (some ⟨0, 5, none⟩) 3 3, .func (.func 73) #[] #[.pointer (some ⟨w.heap.size, 0, none⟩)]] (w.alloc (.cells #[.string s] 9)) fun e w' => e = .returned (.int .i64 (P24.first (fun x : List UInt8 × Bool × Bool × Bool × Bool => decide (x.1 = P4.bl s)) rows3)) ∧ Below (w.alloc (.cells #[.string s] 9)).heap.size (w.alloc (.cells #[.string s] 9)) w') := Lib.hid q
  generalize P24.first (fun x : List UInt8 × Bool × Bool × Bool × Bool => decide (x.1 = P4.bl s)) rows3 = F at cI hg ⊢
  clear q hp hl3 hT hB
  obtain ⟨g1, g2⟩ := hg
  by_cases hF : F < 0
  · rw [if_pos hF]
    go_enter Tryd.func30, Tryd.ntmps30
    go_wp2_with fail
    refine cI.out.mono ?_
    rintro e w1 ⟨rfl, hc⟩
    have hb1 := hb0.trans (hc.mono hb0.size)
    go_wp2_with fail
    go_ret2
    exact ⟨rfl, hb1⟩
  · rw [if_neg hF]
    go_enter Tryd.func30, Tryd.ntmps30
    go_wp2_with fail
    refine cI.out.mono ?_
    rintro e w1 ⟨rfl, hc⟩
    have hb1 := hb0.trans (hc.mono hb0.size)
    go_wp2_with fail
    go_ret2
    exact ⟨by rw [Int.add_comm]; rfl, hb1⟩
end Go.Proofs.YtmhciidliicheaaDoor
