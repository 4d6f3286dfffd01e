/- The walk of works (chapter 4): the examples of the chapter hold. -/
import Derived.Test.YtgaacbmihcbedaaDoorOff4b
import Derived.Test.YtgaacbmihcbedaaDoorOff4c
import Derived.Test.YtgaacbmihcbedaaDoorTab4
namespace Go.Proofs.YtgaacbmihcbedaaDoor
open Go.RowKit
set_option linter.unusedVariables false

/-- block g is just these cells, none of them frozen -/
def Blk (w : World) (g : Nat) (t : TypeId) (cs : Array Value) : Prop := w.heap[g]? = some (.cells cs t (0, 0))
section
variable {w w' : World} {g : Nat} {t : TypeId} {cs : Array Value}
theorem Blk.lt (h : Blk w g t cs) : g < w.heap.size := by
  rcases Nat.lt_or_ge g w.heap.size with hlt | hge
  · exact hlt
  · unfold Blk at h; rw [Array.getElem?_eq_none hge] at h; cases h
theorem Blk.cell (h : Blk w g t cs) (i : Nat) : w.cell? ⟨g, i, none⟩ = cs[i]? := cell_of_row w g i cs t (0, 0) h
theorem Blk.below {B : Nat} (h : Blk w g t cs) (hb : Below B w w') (hg : g < B) : Blk w' g t cs := (hb.block g hg).trans h
theorem Blk.alloc (h : Blk w g t cs) (o : Obj) : Blk (w.alloc o) g t cs := (Below.heap_alloc w o g h.lt).trans h
end
theorem Blk.new (w : World) (t : TypeId) (cs : Array Value) : Blk (w.alloc (.cells cs t)) w.heap.size t cs := heap_alloc_new w _

set_option maxRecDepth 100000 in
set_option maxHeartbeats 4000000 in
theorem works4_any (w : World) (hv : Vars w) :
    Calls Tryd.prog 16 #[] w fun e w' => e = .returned (.bool true) ∧ Below w.heap.size w w' := by
  go_enter Tryd.func16, Tryd.ntmps16
  go_wp2_with fail
  go_loopw [31] (fun i wr => ∃ k : Nat, k ≤ 20 ∧ i = .int .i64 k ∧ Blk wr w.heap.size 59 arrP4 ∧ Below w.heap.size w wr) (fun i _ => 20 - (intOf i).toNat)
  case atStart => exact ⟨0, by omega, rfl, Blk.new w 59 arrP4, (Below.refl _ _).alloc (Nat.le_refl _) _⟩
  case round =>
    obtain ⟨k, hk, rfl, hB, hb⟩ := hrel
    by_cases hlt : k < 20
    · obtain ⟨x, hx, a0, a1, a2⟩ := arrP4_at k hlt
      obtain ⟨⟨S, W, E⟩, hxe⟩ : ∃ y, y = x := ⟨_, rfl⟩
      subst hxe
      have hp := (tabP4_holds _ hx).1
      have hl := (tabP4_holds _ hx).2
      clear hx
      have c0 : wr.cell? ⟨w.heap.size, k * 3, none⟩ = some (.string (str S)) := (hB.cell _).trans a0
      have c1 : wr.cell? ⟨w.heap.size, k * 3 + 1, none⟩ = some (.int .i64 W) := (hB.cell _).trans a1
      have c2 : wr.cell? ⟨w.heap.size, k * 3 + 2, none⟩ = some (.int .i64 E) := (hB.cell _).trans a2
      have hc : Hid (∀ W', Vars W' → Calls Tryd.prog 17 #[.string (str S)] W' fun e w' => e = .returned (.tuple #[.int .i64 W, .int .i64 E]) ∧ Below W'.heap.size W' w') := fun W' hv' => by
        have h := parse_any (str S) W' (by rw [str_size]; simp only at hl; omega) hv'
        simp only [P4.pv, P4.pe, show P4.parse (P4.bl (str S)) = (W, E) from hp] at h
        exact h
      clear hp a0 a1 a2 hl
      have hki : (k : Int) < 20 := by omega
      go_wp2_with fail
      refine (hc.out _ (hv.below (hb.alloc hb.size _))).mono ?_
      rintro e w1 ⟨rfl, hb1⟩
      have hb2 := (hb.alloc hb.size (.cells #[.string (str S), .int .i64 W, .int .i64 E] 59)).trans (hb1.mono (by simp; have := hb.size; omega))
      have hB2 := (hB.alloc (.cells #[.string (str S), .int .i64 W, .int .i64 E] 59)).below hb1 (by simp; have := hB.lt; omega)
      have d1 : w1.cell? ⟨wr.heap.size, 1, none⟩ = some (.int .i64 W) := (hb1.cell (p := ⟨wr.heap.size, 1, none⟩) (by simp)).trans (by simp [go_sem])
      have d2 : w1.cell? ⟨wr.heap.size, 2, none⟩ = some (.int .i64 E) := (hb1.cell (p := ⟨wr.heap.size, 2, none⟩) (by simp)).trans (by simp [go_sem])
      go_wp2_with fail
      go_roundw
      case rel => exact ⟨k + 1, by omega, by go_num, hB2, hb2⟩
      case measure => simp [intOf]; omega
    · obtain rfl : k = 20 := by omega
      clear hB
      go_wp2_with fail
      obtain ⟨B, hBe⟩ : ∃ B, B = wr.heap.size := ⟨_, rfl⟩
      have hBs : w.heap.size ≤ B := by rw [hBe]; exact hb.size
      have hQ : Blk (wr.alloc (.cells arrQ4 61)) B 61 arrQ4 := by rw [hBe]; exact Blk.new wr 61 arrQ4
      have hbQ : Below w.heap.size w (wr.alloc (.cells arrQ4 61)) := hb.alloc hb.size _
      rw [← hBe]
      clear hBe
      go_loopw [61] (fun i w2 => ∃ k : Nat, k ≤ 7 ∧ i = .int .i64 k ∧ Blk w2 B 61 arrQ4 ∧ Below w.heap.size w w2) (fun i _ => 7 - (intOf i).toNat)
      case atStart => exact ⟨0, by omega, rfl, hQ, hbQ⟩
      case round =>
        clear hQ hbQ hb
        obtain ⟨k, hk, rfl, hB, hb⟩ := hrel
        by_cases hlt : k < 7
        · obtain ⟨x, hx, a0, a1, a2⟩ := arrQ4_at k hlt
          obtain ⟨⟨N, S, E⟩, hxe⟩ : ∃ y, y = x := ⟨_, rfl⟩
          subst hxe
          have hp := tabQ4_holds _ hx
          clear hx
          have c0 : wr.cell? ⟨B, k * 3, none⟩ = some (.int .i64 N) := (hB.cell _).trans a0
          have c1 : wr.cell? ⟨B, k * 3 + 1, none⟩ = some (.string (str S)) := (hB.cell _).trans a1
          have c2 : wr.cell? ⟨B, k * 3 + 2, none⟩ = some (.int .i64 E) := (hB.cell _).trans a2
          have hc : Hid (∀ W', Vars W' → Calls Tryd.prog 19 #[.int .i64 N] W' fun e w' => e = .returned (.tuple #[.string (str S), .int .i64 E]) ∧ Below W'.heap.size W' w') := fun W' hv' => by
            have h := print_any N W' hp.2.1 hp.2.2 hv'
            rw [show P4.print N = (S, E) from hp.1] at h
            exact h
          clear hp a0 a1 a2
          have hki : (k : Int) < 7 := by omega
          go_wp2_with fail
          refine (hc.out _ (hv.below (hb.alloc hb.size _))).mono ?_
          rintro e w1 ⟨rfl, hb1⟩
          have hb2 := (hb.alloc hb.size (.cells #[.int .i64 N, .string (str S), .int .i64 E] 61)).trans (hb1.mono (by simp; have := hb.size; omega))
          have hB2 := (hB.alloc (.cells #[.int .i64 N, .string (str S), .int .i64 E] 61)).below hb1 (by simp; have := hB.lt; omega)
          have d1 : w1.cell? ⟨wr.heap.size, 1, none⟩ = some (.string (str S)) := (hb1.cell (p := ⟨wr.heap.size, 1, none⟩) (by simp)).trans (by simp [go_sem])
          have d2 : w1.cell? ⟨wr.heap.size, 2, none⟩ = some (.int .i64 E) := (hb1.cell (p := ⟨wr.heap.size, 2, none⟩) (by simp)).trans (by simp [go_sem])
          go_wp2_with fail
          go_roundw
          case rel => (repeat apply Exists.intro); exact ⟨⟨k + 1, by omega, by go_num, hB2, hb2⟩, rfl⟩
          case measure => simp [intOf]; omega
        · obtain rfl : k = 7 := by omega
          clear hB
          go_wp2_with fail
          go_ret
          exact ⟨rfl, hb⟩
end Go.Proofs.YtgaacbmihcbedaaDoor
