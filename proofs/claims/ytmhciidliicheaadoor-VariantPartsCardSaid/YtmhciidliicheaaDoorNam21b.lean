/- The walk of name.Abbr: the table of the kinds of bytes, made at each call, and the closure that reads it. -/
import Derived.Test.YtmhciidliicheaaDoorNam21
import Derived.Laws.CopyOwn
namespace Go.Proofs.YtmhciidliicheaaDoor
open Go.RowKit Go.Lib
set_option linter.unusedVariables false

theorem kA_get (k n : Nat) (h : n < 256) : ∃ v, (kA k)[n]? = some v := ⟨_, Array.getElem?_eq_getElem (by rw [kA_size]; exact h)⟩
theorem kD_get (k n : Nat) (h : n < 256) : ∃ v, (kD k)[n]? = some v := ⟨_, Array.getElem?_eq_getElem (by rw [kD_size]; exact h)⟩
theorem zeroK : (Tryd.prog.info? 167).map (fun i => (i.zero, i.size)) = some (some (.agg (kA 0)), 256) := by kernel_rfl
theorem below_setB {B : Nat} {w W : World} {p : Addr} (h : Below B w W) (hp : B ≤ p.block) (u : Value) : Below B w (W.setCell p u) := h.trans ⟨rfl, rfl, rfl, by simp [World.setCell], fun j hj => Below.heap_setCell W p u j (by omega)⟩
theorem set_get {cs : Array Value} {n i : Nat} {u : Value} (hn : n < cs.size) : ∃ v, (cs.setIfInBounds i u)[n]? = some v := ⟨_, Array.getElem?_eq_getElem (by rw [Array.size_setIfInBounds]; exact hn)⟩
theorem load_blk {P : Program} {W : World} {B : Nat} {e : TypeId} {cs : Array Value} (h : Blk W B e cs) {n : Nat} (hn : cs.size = n) : (loadCellsFrom ⟨B, 0, none⟩ 0 n #[]).run P W = .ok cs W := by
  subst hn
  have := run_loadCells_list (P := P) W ⟨B, 0, none⟩ cs.toList (blk_cells h)
  simpa [loadCells] using this
theorem store_blk {P : Program} {W : World} {B : Nat} {e : TypeId} {cs ds : Array Value} (h : Blk W B e cs) (hn : cs.size = ds.size) (h1 : ds.all (·.oneCell') = true) : (storeCells ⟨B, 0, none⟩ ds.toList 0).run P W = .ok () (W.setRow B ds) := by
  have := run_storeCells_from (P := P) B e ds.toList 0 cs W h (by rw [Array.length_toList]; omega) (fun v hv => by
    rw [← Array.all_toList, List.all_eq_true] at h1; exact h1 v hv)
  simpa using this
theorem blk_setRow {W : World} {B : Nat} {e : TypeId} {cs ds : Array Value} (h : Blk W B e cs) : Blk (W.setRow B ds) B e ds := by
  unfold Blk at h ⊢
  simp [World.setRow, Array.getElem?_modify, h]
set_option maxRecDepth 1000000 in
set_option maxHeartbeats 4000000 in
theorem kinds_any (w : World) :
    Calls Tryd.prog 89 #[] w fun e w' => e = .returned (.agg kAll) ∧ Below w.heap.size w w' := by
  obtain ⟨hz, hi⟩ := zero_of_info zeroK
  have hB0 := Blk.new w 167 (kA 0)
  have hO0 := Blk.newAt (w.alloc (.cells (kA 0) 167)) (w.heap.size + 1) (by simp) 167 (kA 0)
  have hB1 := hB0.alloc (.cells (kA 0) 167)
  have hb1 : Below w.heap.size w ((w.alloc (.cells (kA 0) 167)).alloc (.cells (kA 0) 167)) := ((Below.refl _ _).alloc (Nat.le_refl _) _).alloc (by simp) _
  clear hB0
  go_enter Tryd.func89, Tryd.ntmps89
  go_wp2_with fail
  generalize (w.alloc (.cells (kA 0) 167)).alloc (.cells (kA 0) 167) = W1 at hO0 hB1 hb1
  go_loopw [4] (fun s4 wr => ∃ k : Nat, k ≤ 26 ∧ s4 = .int .i64 (k : Int) ∧ Blk wr (w.heap.size + 1) 167 (kA k) ∧ Blk wr w.heap.size 167 (kA 0) ∧ Below w.heap.size w wr) (fun s4 _ => 26 - (intOf s4).toNat)
  case atStart => exact ⟨0, Nat.zero_le _, rfl, hO0, hB1, hb1⟩
  case round =>
    clear hO0 hB1 hb1
    obtain ⟨k, hk, rfl, hO, hB, hb⟩ := hrel
    by_cases hlt : k < 26
    · have hki : (k : Int) < 26 := by omega
      obtain ⟨v1, hv1⟩ := kA_get k (65 + k) (by omega)
      have c1 : wr.cell? ⟨w.heap.size + 1, 65 + k, none⟩ = some v1 := (hO.cell _).trans hv1
      have f1 := hO.frozen (65 + k)
      have hO2 := hO.set_ (65 + k) (.int .u8 1)
      obtain ⟨v2, hv2⟩ := set_get (cs := kA k) (n := 97 + k) (i := 65 + k) (u := .int .u8 1) (by rw [kA_size]; omega)
      have c2 : (wr.setCell ⟨w.heap.size + 1, 65 + k, none⟩ (.int .u8 1)).cell? ⟨w.heap.size + 1, 97 + k, none⟩ = some v2 := (hO2.cell _).trans hv2
      have f2 := hO2.frozen (97 + k)
      have hO3 := hO2.set_ (97 + k) (.int .u8 1)
      rw [← kA_succ] at hO3
      have hB3 := (hB.far (p := ⟨w.heap.size + 1, 65 + k, none⟩) (by simp) (.int .u8 1)).far (p := ⟨w.heap.size + 1, 97 + k, none⟩) (by simp) (.int .u8 1)
      have hb3 := below_setB (below_setB hb (p := ⟨w.heap.size + 1, 65 + k, none⟩) (Nat.le_succ _) (.int .u8 1)) (p := ⟨w.heap.size + 1, 97 + k, none⟩) (Nat.le_succ _) (.int .u8 1)
      have HO := Lib.hid hO3
      have HB := Lib.hid hB3
      have HBe := Lib.hid hb3
      clear hO hB hb hv1 hv2 hO2 hO3 hB3 hb3
      go_wp2_with fail
      go_roundw
      case rel => exact ⟨k + 1, by omega, by go_num, HO.out, HB.out, HBe.out⟩
      case measure => simp [intOf]; omega
    · obtain rfl : k = 26 := by omega
      rw [← kD_zero] at hO
      go_wp2_with fail
      go_loopw [14] (fun s4 wr => ∃ k : Nat, k ≤ 10 ∧ s4 = .int .i64 (k : Int) ∧ Blk wr (w.heap.size + 1) 167 (kD k) ∧ Blk wr w.heap.size 167 (kA 0) ∧ Below w.heap.size w wr) (fun s4 _ => 10 - (intOf s4).toNat)
      case atStart => exact ⟨0, Nat.zero_le _, rfl, hO, hB, hb⟩
      case round =>
        clear hO hB hb
        obtain ⟨k, hk, rfl, hO, hB, hb⟩ := hrel
        by_cases hlt : k < 10
        · have hki : (k : Int) < 10 := by omega
          obtain ⟨v1, hv1⟩ := kD_get k (48 + k) (by omega)
          have c1 : wr.cell? ⟨w.heap.size + 1, 48 + k, none⟩ = some v1 := (hO.cell _).trans hv1
          have f1 := hO.frozen (48 + k)
          have hO3 := hO.set_ (48 + k) (.int .u8 2)
          rw [← kD_succ] at hO3
          have hB3 := hB.far (p := ⟨w.heap.size + 1, 48 + k, none⟩) (by simp) (.int .u8 2)
          have hb3 := below_setB hb (p := ⟨w.heap.size + 1, 48 + k, none⟩) (Nat.le_succ _) (.int .u8 2)
          have HO := Lib.hid hO3
          have HB := Lib.hid hB3
          have HBe := Lib.hid hb3
          clear hO hB hb hv1 hO3 hB3 hb3
          go_wp2_with fail
          go_roundw
          case rel => exact ⟨k + 1, by omega, by go_num, HO.out, HB.out, HBe.out⟩
          case measure => simp [intOf]; omega
        · obtain rfl : k = 10 := by omega
          have hz10 := kD_size 10
          obtain ⟨v1, hv1⟩ := kD_get 10 95 (by omega)
          have c1 : wr.cell? ⟨w.heap.size + 1, 95, none⟩ = some v1 := (hO.cell _).trans hv1
          have f1 := hO.frozen 95
          have hO1 := hO.set_ 95 (.int .u8 4)
          obtain ⟨v2, hv2⟩ := set_get (cs := kD 10) (n := 45) (i := 95) (u := .int .u8 4) (by omega)
          have c2 := (hO1.cell 45).trans hv2
          have f2 := hO1.frozen 45
          have hO2 := hO1.set_ 45 (.int .u8 8)
          obtain ⟨v3, hv3⟩ := set_get (cs := (kD 10).setIfInBounds 95 (.int .u8 4)) (n := 46) (i := 45) (u := .int .u8 8) (by rw [Array.size_setIfInBounds]; omega)
          have c3 := (hO2.cell 46).trans hv3
          have f3 := hO2.frozen 46
          have hO3 := hO2.set_ 46 (.int .u8 16)
          obtain ⟨v4, hv4⟩ := set_get (cs := ((kD 10).setIfInBounds 95 (.int .u8 4)).setIfInBounds 45 (.int .u8 8)) (n := 43) (i := 46) (u := .int .u8 16) (by rw [Array.size_setIfInBounds, Array.size_setIfInBounds]; omega)
          have c4 := (hO3.cell 43).trans hv4
          have f4 := hO3.frozen 43
          have hO4 := hO3.set_ 43 (.int .u8 16)
          rw [← kAll_eq] at hO4
          have hB4 := (((hB.far (p := ⟨w.heap.size + 1, 95, none⟩) (by simp) (.int .u8 4)).far (p := ⟨w.heap.size + 1, 45, none⟩) (by simp) (.int .u8 8)).far (p := ⟨w.heap.size + 1, 46, none⟩) (by simp) (.int .u8 16)).far (p := ⟨w.heap.size + 1, 43, none⟩) (by simp) (.int .u8 16)
          have hb4 := below_setB (below_setB (below_setB (below_setB hb (p := ⟨w.heap.size + 1, 95, none⟩) (Nat.le_succ _) (.int .u8 4)) (p := ⟨w.heap.size + 1, 45, none⟩) (Nat.le_succ _) (.int .u8 8)) (p := ⟨w.heap.size + 1, 46, none⟩) (Nat.le_succ _) (.int .u8 16)) (p := ⟨w.heap.size + 1, 43, none⟩) (Nat.le_succ _) (.int .u8 16)
          have HO := Lib.hid hO4
          have HB := Lib.hid hB4
          have HBe := Lib.hid hb4
          clear hO hO1 hO2 hO3 hO4 hB hB4 hb hb4 hv1 hv2 hv3 hv4 hz10
          go_wp2_with fail
          generalize (((wr.setCell ⟨w.heap.size + 1, 95, none⟩ (.int .u8 4)).setCell ⟨w.heap.size + 1, 45, none⟩ (.int .u8 8)).setCell ⟨w.heap.size + 1, 46, none⟩ (.int .u8 16)).setCell ⟨w.heap.size + 1, 43, none⟩ (.int .u8 16) = W5 at HO HB HBe ⊢
          have hks := kAll_size
          have hsc : (storeCells ⟨w.heap.size, 0, none⟩ kAll.toList 0).run Tryd.prog W5 = .ok () (W5.setRow w.heap.size kAll) := store_blk HB.out (by rw [kA_size, kAll_size]) kAll_one
          refine wp_load_row _ _ rfl (w.heap.size + 1) rfl _ kAll (0, 0) _ HO.out Tryd.underlying167 rfl (by rw [kAll_size]; exact hi) ?_
          go_wp2_with fail
          (try simp only [Exit.inBlock, Exit.then])
          refine bodyPost_ret (v := .agg kAll) ?_ rfl ⟨rfl, below_setRow HBe.out (Nat.le_refl _) _⟩
          exact results_cell_row rfl _ _ w.heap.size _ kAll (0, 0) _ rfl (blk_setRow HB.out) Tryd.underlying167 rfl (by rw [kAll_size]; exact hi)
end Go.Proofs.YtmhciidliicheaaDoor
