/- The walk of the law NumericRefuses (chapter 20). -/
import Derived.Test.YtmgmgdjddimgmaaDoorRef20
import Derived.Test.YtmgmgdjddimgmaaDoorNum20i
namespace Go.Proofs.YtmgmgdjddimgmaaDoor
open Go.RowKit
set_option linter.unusedVariables false

def ar1 (f : Int) : Array Value := #[.int .i64 (-1 - f), .int .i64 (3 + f)]
theorem ar1_at (f : Int) (hf : 0 ≤ f) (k : Nat) (hk : k < 2) : ∃ z : Int, (ar1 f)[k]? = some (.int .i64 z) ∧ (z < 0 ∨ 2 < z) := by
  match k, hk with
  | 0, _ => exact ⟨_, rfl, by omega⟩
  | 1, _ => exact ⟨_, rfl, by omega⟩
def ar2 (x : Int) : Array Value := #[.int .i64 x, .int .i64 4611686018427387904, .int .i64 (-9223372036854775808)]
theorem ar2_at (x : Int) (h0 : -86400 < x) (h1 : x < 86400) (k : Nat) (hk : k < 3) : ∃ z : Int, (ar2 x)[k]? = some (.int .i64 z) ∧ -9223372036854775808 ≤ z ∧ z ≤ 9223372036854775807 := by
  match k, hk with
  | 0, _ => exact ⟨_, rfl, by omega, by omega⟩
  | 1, _ => exact ⟨_, rfl, by omega, by omega⟩
  | 2, _ => exact ⟨_, rfl, by omega, by omega⟩
def ar4 (f : Int) : Array Value := #[.int .i64 (86400 + f), .int .i64 (-86400 - f), .int .i64 9223372036854775807, .int .i64 (-9223372036854775808)]
theorem ar4_at (f : Int) (h0 : 0 ≤ f) (h1 : f ≤ 4294967295) (k : Nat) (hk : k < 4) : ∃ z : Int, (ar4 f)[k]? = some (.int .i64 z) ∧ (z ≤ -86400 ∨ 86400 ≤ z) ∧ -9223372036854775808 ≤ z ∧ z ≤ 9223372036854775807 := by
  match k, hk with
  | 0, _ => exact ⟨_, rfl, by omega, by omega, by omega⟩
  | 1, _ => exact ⟨_, rfl, by omega, by omega, by omega⟩
  | 2, _ => exact ⟨_, rfl, by omega, by omega, by omega⟩
  | 3, _ => exact ⟨_, rfl, by omega, by omega, by omega⟩
def era3 (z : Int × Int × Int) : List Value := [.int .i64 z.1, .int .i64 z.2.1, .int .i64 z.2.2, .string ⟨#[]⟩, .string ⟨#[]⟩, .bool false, .int .i64 0, .int .i64 0, .int .i64 0, .int .i64 0, .int .i64 0, .int .i64 0, .int .i64 0]
def li3 (x f : Int) : List (Int × Int × Int) := [(86400 + f, 0, 0), (-86400 - f, 0, 0), (x, 1, 86400 - x + f), (x, 1, 9223372036854775807), (-9223372036854775808, 1, -1), (86400 + f, 2, 0)]
def ar3 (x f : Int) : Array Value := ((li3 x f).flatMap era3).toArray
theorem ar3_at (x f : Int) (k j : Nat) (z : Int × Int × Int) (hj : j < 13) (h : (li3 x f)[k]? = some z) : (ar3 x f)[k * 13 + j]? = (era3 z)[j]? := by
  unfold ar3
  rw [List.getElem?_toArray]
  exact flat_at (m := 13) (fun _ => rfl) (li3 x f) k j z hj h
theorem li3_bad (x f : Int) (h0 : -54001 < x) (h1 : x < 54001) (f0 : 0 ≤ f) (f1 : f ≤ 4294967295) : ∀ z ∈ li3 x f, Refused z.1 z.2.1 z.2.2 [0, 60] 3 ∧ (-9223372036854775808 ≤ z.1 ∧ z.1 ≤ 9223372036854775807) ∧ (-9223372036854775808 ≤ z.2.2 ∧ z.2.2 ≤ 9223372036854775807) := by
  intro z hz
  simp only [li3, List.mem_cons, List.not_mem_nil, or_false] at hz
  rcases hz with rfl | rfl | rfl | rfl | rfl | rfl
  · exact (show Refused (86400 + f) 0 (0) [0, 60] 3 ∧ (-9223372036854775808 ≤ (86400 + f : Int) ∧ (86400 + f : Int) ≤ 9223372036854775807) ∧ (-9223372036854775808 ≤ (0 : Int) ∧ (0 : Int) ≤ 9223372036854775807) from ⟨ref_far _ _ _ (by omega), by omega, by omega⟩)
  · exact (show Refused (-86400 - f) 0 (0) [0, 60] 3 ∧ (-9223372036854775808 ≤ (-86400 - f : Int) ∧ (-86400 - f : Int) ≤ 9223372036854775807) ∧ (-9223372036854775808 ≤ (0 : Int) ∧ (0 : Int) ≤ 9223372036854775807) from ⟨ref_far _ _ _ (by omega), by omega, by omega⟩)
  · exact (show Refused (x) 1 (86400 - x + f) [0, 60] 3 ∧ (-9223372036854775808 ≤ (x : Int) ∧ (x : Int) ≤ 9223372036854775807) ∧ (-9223372036854775808 ≤ (86400 - x + f : Int) ∧ (86400 - x + f : Int) ≤ 9223372036854775807) from ⟨ref_sum _ _ _ (by omega), by omega, by omega⟩)
  · exact (show Refused (x) 1 (9223372036854775807) [0, 60] 3 ∧ (-9223372036854775808 ≤ (x : Int) ∧ (x : Int) ≤ 9223372036854775807) ∧ (-9223372036854775808 ≤ (9223372036854775807 : Int) ∧ (9223372036854775807 : Int) ≤ 9223372036854775807) from ⟨ref_sum _ _ _ (by omega), by omega, by omega⟩)
  · exact (show Refused (-9223372036854775808) 1 (-1) [0, 60] 3 ∧ (-9223372036854775808 ≤ (-9223372036854775808 : Int) ∧ (-9223372036854775808 : Int) ≤ 9223372036854775807) ∧ (-9223372036854775808 ≤ (-1 : Int) ∧ (-1 : Int) ≤ 9223372036854775807) from ⟨ref_sum _ _ _ (by omega), by omega, by omega⟩)
  · exact (show Refused (86400 + f) 2 (0) [0, 60] 3 ∧ (-9223372036854775808 ≤ (86400 + f : Int) ∧ (86400 + f : Int) ≤ 9223372036854775807) ∧ (-9223372036854775808 ≤ (0 : Int) ∧ (0 : Int) ≤ 9223372036854775807) from ⟨ref_named _ 60 (by decide) (by omega), by omega, by omega⟩)

theorem start3 {w V v W : World} {x f zo zk zs : Int} (h : Blk W V.heap.size 35 #[.int .i64 zo, .int .i64 zk, .int .i64 zs, .string ⟨#[]⟩, .string ⟨#[]⟩, .bool false, .int .i64 0, .int .i64 0, .int .i64 0, .int .i64 0, .int .i64 0, .int .i64 0, .int .i64 0]) (hT : Blk W v.heap.size 35 (ar3 x f)) (hb : Below w.heap.size w W) : W.cell? ⟨V.heap.size, 0, none⟩ = some (.int .i64 zo) ∧ W.cell? ⟨V.heap.size, 1, none⟩ = some (.int .i64 zk) ∧ W.cell? ⟨V.heap.size, 2, none⟩ = some (.int .i64 zs) ∧ W.cell? ⟨V.heap.size, 3, none⟩ = some (.string ⟨#[]⟩) ∧ W.cell? ⟨V.heap.size, 4, none⟩ = some (.string ⟨#[]⟩) ∧ W.cell? ⟨V.heap.size, 5, none⟩ = some (.bool false) ∧ W.cell? ⟨V.heap.size, 6, none⟩ = some (.int .i64 0) ∧ W.cell? ⟨V.heap.size, 7, none⟩ = some (.int .i64 0) ∧ W.cell? ⟨V.heap.size, 8, none⟩ = some (.int .i64 0) ∧ W.cell? ⟨V.heap.size, 9, none⟩ = some (.int .i64 0) ∧ W.cell? ⟨V.heap.size, 10, none⟩ = some (.int .i64 0) ∧ W.cell? ⟨V.heap.size, 11, none⟩ = some (.int .i64 0) ∧ W.cell? ⟨V.heap.size, 12, none⟩ = some (.int .i64 0) ∧ V.heap.size < W.heap.size ∧ Blk W v.heap.size 35 (ar3 x f) ∧ Below w.heap.size w W :=
  ⟨(h.cell 0).trans rfl, (h.cell 1).trans rfl, (h.cell 2).trans rfl, (h.cell 3).trans rfl, (h.cell 4).trans rfl, (h.cell 5).trans rfl, (h.cell 6).trans rfl, (h.cell 7).trans rfl, (h.cell 8).trans rfl, (h.cell 9).trans rfl, (h.cell 10).trans rfl, (h.cell 11).trans rfl, (h.cell 12).trans rfl, h.lt, hT, hb⟩
theorem keep3 {w V v W W' : World} {x f zo zk zs : Int} (hb : Below W.heap.size W W') (h : W.cell? ⟨V.heap.size, 0, none⟩ = some (.int .i64 zo) ∧ W.cell? ⟨V.heap.size, 1, none⟩ = some (.int .i64 zk) ∧ W.cell? ⟨V.heap.size, 2, none⟩ = some (.int .i64 zs) ∧ W.cell? ⟨V.heap.size, 3, none⟩ = some (.string ⟨#[]⟩) ∧ W.cell? ⟨V.heap.size, 4, none⟩ = some (.string ⟨#[]⟩) ∧ W.cell? ⟨V.heap.size, 5, none⟩ = some (.bool false) ∧ W.cell? ⟨V.heap.size, 6, none⟩ = some (.int .i64 0) ∧ W.cell? ⟨V.heap.size, 7, none⟩ = some (.int .i64 0) ∧ W.cell? ⟨V.heap.size, 8, none⟩ = some (.int .i64 0) ∧ W.cell? ⟨V.heap.size, 9, none⟩ = some (.int .i64 0) ∧ W.cell? ⟨V.heap.size, 10, none⟩ = some (.int .i64 0) ∧ W.cell? ⟨V.heap.size, 11, none⟩ = some (.int .i64 0) ∧ W.cell? ⟨V.heap.size, 12, none⟩ = some (.int .i64 0) ∧ V.heap.size < W.heap.size ∧ Blk W v.heap.size 35 (ar3 x f) ∧ Below w.heap.size w W) : W'.cell? ⟨V.heap.size, 0, none⟩ = some (.int .i64 zo) ∧ W'.cell? ⟨V.heap.size, 1, none⟩ = some (.int .i64 zk) ∧ W'.cell? ⟨V.heap.size, 2, none⟩ = some (.int .i64 zs) ∧ W'.cell? ⟨V.heap.size, 3, none⟩ = some (.string ⟨#[]⟩) ∧ W'.cell? ⟨V.heap.size, 4, none⟩ = some (.string ⟨#[]⟩) ∧ W'.cell? ⟨V.heap.size, 5, none⟩ = some (.bool false) ∧ W'.cell? ⟨V.heap.size, 6, none⟩ = some (.int .i64 0) ∧ W'.cell? ⟨V.heap.size, 7, none⟩ = some (.int .i64 0) ∧ W'.cell? ⟨V.heap.size, 8, none⟩ = some (.int .i64 0) ∧ W'.cell? ⟨V.heap.size, 9, none⟩ = some (.int .i64 0) ∧ W'.cell? ⟨V.heap.size, 10, none⟩ = some (.int .i64 0) ∧ W'.cell? ⟨V.heap.size, 11, none⟩ = some (.int .i64 0) ∧ W'.cell? ⟨V.heap.size, 12, none⟩ = some (.int .i64 0) ∧ V.heap.size < W'.heap.size ∧ Blk W' v.heap.size 35 (ar3 x f) ∧ Below w.heap.size w W' := by
  obtain ⟨h0, h1, h2, h3, h4, h5, h6, h7, h8, h9, h10, h11, h12, hl, hT, hB⟩ := h
  exact ⟨(hb.cell (p := ⟨V.heap.size, 0, none⟩) hl).trans h0, (hb.cell (p := ⟨V.heap.size, 1, none⟩) hl).trans h1, (hb.cell (p := ⟨V.heap.size, 2, none⟩) hl).trans h2, (hb.cell (p := ⟨V.heap.size, 3, none⟩) hl).trans h3, (hb.cell (p := ⟨V.heap.size, 4, none⟩) hl).trans h4, (hb.cell (p := ⟨V.heap.size, 5, none⟩) hl).trans h5, (hb.cell (p := ⟨V.heap.size, 6, none⟩) hl).trans h6, (hb.cell (p := ⟨V.heap.size, 7, none⟩) hl).trans h7, (hb.cell (p := ⟨V.heap.size, 8, none⟩) hl).trans h8, (hb.cell (p := ⟨V.heap.size, 9, none⟩) hl).trans h9, (hb.cell (p := ⟨V.heap.size, 10, none⟩) hl).trans h10, (hb.cell (p := ⟨V.heap.size, 11, none⟩) hl).trans h11, (hb.cell (p := ⟨V.heap.size, 12, none⟩) hl).trans h12, Nat.lt_of_lt_of_le hl hb.size, hT.below hb hT.lt, hB.trans (hb.mono hB.size)⟩
theorem blk3 {w V v W : World} {x f zo zk zs : Int} (h : W.cell? ⟨V.heap.size, 0, none⟩ = some (.int .i64 zo) ∧ W.cell? ⟨V.heap.size, 1, none⟩ = some (.int .i64 zk) ∧ W.cell? ⟨V.heap.size, 2, none⟩ = some (.int .i64 zs) ∧ W.cell? ⟨V.heap.size, 3, none⟩ = some (.string ⟨#[]⟩) ∧ W.cell? ⟨V.heap.size, 4, none⟩ = some (.string ⟨#[]⟩) ∧ W.cell? ⟨V.heap.size, 5, none⟩ = some (.bool false) ∧ W.cell? ⟨V.heap.size, 6, none⟩ = some (.int .i64 0) ∧ W.cell? ⟨V.heap.size, 7, none⟩ = some (.int .i64 0) ∧ W.cell? ⟨V.heap.size, 8, none⟩ = some (.int .i64 0) ∧ W.cell? ⟨V.heap.size, 9, none⟩ = some (.int .i64 0) ∧ W.cell? ⟨V.heap.size, 10, none⟩ = some (.int .i64 0) ∧ W.cell? ⟨V.heap.size, 11, none⟩ = some (.int .i64 0) ∧ W.cell? ⟨V.heap.size, 12, none⟩ = some (.int .i64 0) ∧ V.heap.size < W.heap.size ∧ Blk W v.heap.size 35 (ar3 x f) ∧ Below w.heap.size w W) : Blk W v.heap.size 35 (ar3 x f) := h.2.2.2.2.2.2.2.2.2.2.2.2.2.2.1
theorem bel3 {w V v W : World} {x f zo zk zs : Int} (h : W.cell? ⟨V.heap.size, 0, none⟩ = some (.int .i64 zo) ∧ W.cell? ⟨V.heap.size, 1, none⟩ = some (.int .i64 zk) ∧ W.cell? ⟨V.heap.size, 2, none⟩ = some (.int .i64 zs) ∧ W.cell? ⟨V.heap.size, 3, none⟩ = some (.string ⟨#[]⟩) ∧ W.cell? ⟨V.heap.size, 4, none⟩ = some (.string ⟨#[]⟩) ∧ W.cell? ⟨V.heap.size, 5, none⟩ = some (.bool false) ∧ W.cell? ⟨V.heap.size, 6, none⟩ = some (.int .i64 0) ∧ W.cell? ⟨V.heap.size, 7, none⟩ = some (.int .i64 0) ∧ W.cell? ⟨V.heap.size, 8, none⟩ = some (.int .i64 0) ∧ W.cell? ⟨V.heap.size, 9, none⟩ = some (.int .i64 0) ∧ W.cell? ⟨V.heap.size, 10, none⟩ = some (.int .i64 0) ∧ W.cell? ⟨V.heap.size, 11, none⟩ = some (.int .i64 0) ∧ W.cell? ⟨V.heap.size, 12, none⟩ = some (.int .i64 0) ∧ V.heap.size < W.heap.size ∧ Blk W v.heap.size 35 (ar3 x f) ∧ Below w.heap.size w W) : Below w.heap.size w W := h.2.2.2.2.2.2.2.2.2.2.2.2.2.2.2
set_option maxRecDepth 100000 in
set_option maxHeartbeats 20000000 in
theorem walkNumericRefuses (m a b f : Int) (w : World) (hm : (Lit.int .i32 m).wf = true) (ha : (Lit.int .u16 a).wf = true) (hb : (Lit.int .u16 b).wf = true) (hf : (Lit.int .u32 f).wf = true) (hv : Vars w) :
    Calls Tryd.prog 8 #[.int .i32 m, .int .u16 a, .int .u16 b, .int .u32 f] w fun e w' => e = .returned (.bool true) ∧ Below w.heap.size w w' := by
  have hm2 := bounds_i32 hm
  have ha2 := bounds_u16 ha
  have hb2 := bounds_u16 hb
  have hf2 := bounds_u32 hf
  clear hm ha hb hf
  obtain ⟨x, hx⟩ : ∃ x, m.tmod 54001 = x := ⟨_, rfl⟩
  have bx := tmod_bd2 m 54001 (by decide)
  rw [hx] at bx
  obtain ⟨hm0, hm1⟩ := hm2
  obtain ⟨ha0, ha1⟩ := ha2
  obtain ⟨hb0, hb1⟩ := hb2
  obtain ⟨hf0, hf1⟩ := hf2
  obtain ⟨x0, x1⟩ := bx
  obtain ⟨one, hone⟩ : ∃ one, 1 + a = one := ⟨_, rfl⟩
  obtain ⟨two, htwo⟩ : ∃ two, -1 - b = two := ⟨_, rfl⟩
  have g0 : 0 < one := by omega
  have g1 : one ≤ 65536 := by omega
  have g2 : two < 0 := by omega
  have g3 : -65536 ≤ two := by omega
  have cS1 : Hid (∀ (B : Nat) (W : World), IntsIn W B [one, two] → Calls Tryd.prog 18 #[.slice (some ⟨B, 0, none⟩) 2 2] W (SavesRes W [one, two])) := fun B W h => saves4_any B 2 [one, two] W (by simp) (by simp) h
  have bd1 : Hid (∀ r ∈ [one, two], -9223372036854775808 ≤ r ∧ r ≤ 9223372036854775807) := Lib.hid (by
    intro r hr
    simp only [List.mem_cons, List.not_mem_nil, or_false] at hr
    omega)
  have cS2 : Hid (∀ (B : Nat) (W : World), IntsIn W B [0, one, 0, two] → Calls Tryd.prog 18 #[.slice (some ⟨B, 0, none⟩) 4 4] W (SavesRes W [0, one, 0, two])) := fun B W h => saves4_any B 4 [0, one, 0, two] W (by simp) (by simp) h
  have bd2 : Hid (∀ r ∈ [0, one, 0, two], -9223372036854775808 ≤ r ∧ r ≤ 9223372036854775807) := Lib.hid (by
    intro r hr
    simp only [List.mem_cons, List.not_mem_nil, or_false] at hr
    omega)
  have cS3 : Hid (∀ (B : Nat) (W : World), IntsIn W B [0, 60] → Calls Tryd.prog 18 #[.slice (some ⟨B, 0, none⟩) 2 2] W (SavesRes W [0, 60])) := fun B W h => saves4_any B 2 [0, 60] W (by simp) (by simp) h
  have bd3 : Hid (∀ r ∈ [0, 60], -9223372036854775808 ≤ r ∧ r ≤ 9223372036854775807) := Lib.hid (by
    intro r hr
    simp only [List.mem_cons, List.not_mem_nil, or_false] at hr
    omega)
  have cS4 : Hid (∀ (B : Nat) (W : World), IntsIn W B [86400 - x + f, 0] → Calls Tryd.prog 18 #[.slice (some ⟨B, 0, none⟩) 2 2] W (SavesRes W [86400 - x + f, 0])) := fun B W h => saves4_any B 2 [86400 - x + f, 0] W (by simp) (by simp) h
  have bd4 : Hid (∀ r ∈ [86400 - x + f, 0], -9223372036854775808 ≤ r ∧ r ≤ 9223372036854775807) := Lib.hid (by
    intro r hr
    simp only [List.mem_cons, List.not_mem_nil, or_false] at hr
    omega)
  have H1 := Lib.hid (ar1_at f hf0)
  have H2 := Lib.hid (ar2_at x (by omega) (by omega))
  have H3 := Lib.hid (li3_bad x f x0 x1 hf0 hf1)
  have H4 := Lib.hid (ar4_at f hf0 hf1)
  go_enter Tryd.func8, Tryd.ntmps8
  have n1 := str_nil'
  have hT1 := Blk.new w 3 (ar1 f)
  have hb1 := (Below.refl w.heap.size w).alloc (Nat.le_refl _) (.cells (ar1 f) 3)
  go_wp2_with fail
  go_loopw [48] (fun i wz => ∃ k : Nat, k ≤ 2 ∧ i = .int .i64 k ∧ Blk wz w.heap.size 3 (ar1 f) ∧ Below w.heap.size w wz) (fun i _ => 2 - (intOf i).toNat)
  case atStart => exact ⟨0, by omega, rfl, hT1, hb1⟩
  case round =>
    clear hT1 hb1
    obtain ⟨k, hk, rfl, hT, hb⟩ := hrel
    by_cases hlt : k < 2
    · obtain ⟨z, a0, hz⟩ := H1.out k hlt
      have e0 : wr.cell? ⟨w.heap.size, k, none⟩ = some (.int .i64 z) := (hT.cell _).trans a0
      have HZ := Lib.hid (ref_kind 4611686018427387904 z 0 [one, two] hz)
      have hki : (k : Int) < 2 := by omega
      clear a0 hz
      have hN : IntsIn (wr.alloc (.cells #[.int .i64 one, .int .i64 two] 2)) wr.heap.size [one, two] := ints_of (Blk.new wr 2 #[.int .i64 one, .int .i64 two]) rfl
      have hbn := hb.alloc hb.size (.cells #[.int .i64 one, .int .i64 two] 2)
      have hTn := hT.alloc (.cells #[.int .i64 one, .int .i64 two] 2)
      have CS := Lib.hid (cS1.out _ _ hN)
      clear hN hb hT
      go_wp2_with fail
      refine CS.out.mono ?_
      rintro e va ⟨Aa, ca, rfl, hrl, hc⟩
      have hbv := hbn.trans (hc.mono hbn.size)
      have hTv := hTn.below hc hTn.lt
      have CE := Lib.hid (exp_saves 4611686018427387904 z 0 Aa ca 2 [one, two] ([], 2) va rfl (by omega) (by omega) (by omega) bd1.out (HZ.out) hrl)
      clear hrl hc hbn CS hTn
      go_wp2_with fail
      refine CE.out.mono ?_
      rintro e ua ⟨rfl, hd⟩
      have hbu := hbv.trans (hd.mono hbv.size)
      have hTu := hTv.below hd hTv.lt
      clear hd hbv CE hTv
      go_wp2_with fail
      go_roundw
      case rel => first | exact ⟨k + 1, by omega, by go_num, hTu, hbu⟩ | ((repeat apply Exists.intro); exact ⟨⟨k + 1, by omega, by go_num, hTu, hbu⟩, rfl⟩)
      case measure => simp [intOf]; omega
    · obtain rfl : k = 2 := by omega
      clear hT
      have hTn := Blk.new wr 2 (ar2 x)
      have hbn := hb.alloc hb.size (.cells (ar2 x) 2)
      clear hb hk hlt
      go_wp2_with fail
      obtain ⟨y1, hvv⟩ : ∃ v : World, v = wr := ⟨_, rfl⟩
      rw [← hvv] at hTn hbn ⊢
      clear hvv
      go_loopw [72] (fun i wz => ∃ k : Nat, k ≤ 3 ∧ i = .int .i64 k ∧ Blk wz y1.heap.size 2 (ar2 x) ∧ Below w.heap.size w wz) (fun i _ => 3 - (intOf i).toNat)
      case atStart => exact ⟨0, by omega, rfl, hTn, hbn⟩
      case round =>
        clear hTn hbn
        obtain ⟨k, hk, rfl, hT, hb⟩ := hrel
        by_cases hlt : k < 3
        · obtain ⟨z, a0, hz0, hz1⟩ := H2.out k hlt
          have e0 : wr.cell? ⟨y1.heap.size, k, none⟩ = some (.int .i64 z) := (hT.cell _).trans a0
          have HZ := Lib.hid (ref_two z one two g0 g2)
          have hki : (k : Int) < 3 := by omega
          clear a0
          have hN : IntsIn (wr.alloc (.cells #[.int .i64 0, .int .i64 one, .int .i64 0, .int .i64 two] 2)) wr.heap.size [0, one, 0, two] := ints_of (Blk.new wr 2 #[.int .i64 0, .int .i64 one, .int .i64 0, .int .i64 two]) rfl
          have hbn := hb.alloc hb.size (.cells #[.int .i64 0, .int .i64 one, .int .i64 0, .int .i64 two] 2)
          have hTn := hT.alloc (.cells #[.int .i64 0, .int .i64 one, .int .i64 0, .int .i64 two] 2)
          have CS := Lib.hid (cS2.out _ _ hN)
          clear hN hb hT
          go_wp2_with fail
          refine CS.out.mono ?_
          rintro e vb ⟨Ab, cb, rfl, hrl, hc⟩
          have hbv := hbn.trans (hc.mono hbn.size)
          have hTv := hTn.below hc hTn.lt
          have CE := Lib.hid (exp_saves z 2 0 Ab cb 4 [0, one, 0, two] ([], 14) vb rfl (⟨hz0, hz1⟩) (by omega) (by omega) bd2.out (HZ.out) hrl)
          clear hrl hc hbn CS hTn
          go_wp2_with fail
          refine CE.out.mono ?_
          rintro e ub ⟨rfl, hd⟩
          have hbu := hbv.trans (hd.mono hbv.size)
          have hTu := hTv.below hd hTv.lt
          clear hd hbv CE hTv
          go_wp2_with fail
          go_roundw
          case rel => first | exact ⟨k + 1, by omega, by go_num, hTu, hbu⟩ | ((repeat apply Exists.intro); exact ⟨⟨k + 1, by omega, by go_num, hTu, hbu⟩, rfl⟩)
          case measure => simp [intOf]; omega
        · obtain rfl : k = 3 := by omega
          clear hT
          have hTn := Blk.new wr 35 (ar3 x f)
          have hbn := hb.alloc hb.size (.cells (ar3 x f) 35)
          clear hb hk hlt
          go_wp2_with fail
          obtain ⟨y2, hvv⟩ : ∃ v : World, v = wr := ⟨_, rfl⟩
          rw [← hvv] at hTn hbn ⊢
          clear hvv
          go_loopw [113] (fun i wz => ∃ k : Nat, k ≤ 6 ∧ i = .int .i64 k ∧ Blk wz y2.heap.size 35 (ar3 x f) ∧ Below w.heap.size w wz) (fun i _ => 6 - (intOf i).toNat)
          case atStart => exact ⟨0, by omega, rfl, hTn, hbn⟩
          case round =>
            clear hTn hbn
            obtain ⟨k, hk, rfl, hT, hb⟩ := hrel
            by_cases hlt : k < 6
            · obtain ⟨z, hz⟩ : ∃ z, (li3 x f)[k]? = some z := ⟨_, List.getElem?_eq_getElem (show k < (li3 x f).length from hlt)⟩
              obtain ⟨hr1, hr2, hr3⟩ := H3.out z (List.mem_of_getElem? hz)
              have at_ := fun j hj => (hT.cell (k * 13 + j)).trans (ar3_at x f k j z hj hz)
              have e0 : wr.cell? ⟨y2.heap.size, k * 13, none⟩ = some (.int .i64 z.1) := at_ 0 (by decide)
              have e1 : wr.cell? ⟨y2.heap.size, k * 13 + 1, none⟩ = some (.int .i64 z.2.1) := at_ 1 (by decide)
              have e2 : wr.cell? ⟨y2.heap.size, k * 13 + 2, none⟩ = some (.int .i64 z.2.2) := at_ 2 (by decide)
              have e3 : wr.cell? ⟨y2.heap.size, k * 13 + 3, none⟩ = some (.string ⟨#[]⟩) := at_ 3 (by decide)
              have e4 : wr.cell? ⟨y2.heap.size, k * 13 + 4, none⟩ = some (.string ⟨#[]⟩) := at_ 4 (by decide)
              have e5 : wr.cell? ⟨y2.heap.size, k * 13 + 5, none⟩ = some (.bool false) := at_ 5 (by decide)
              have e6 : wr.cell? ⟨y2.heap.size, k * 13 + 6, none⟩ = some (.int .i64 0) := at_ 6 (by decide)
              have e7 : wr.cell? ⟨y2.heap.size, k * 13 + 7, none⟩ = some (.int .i64 0) := at_ 7 (by decide)
              have e8 : wr.cell? ⟨y2.heap.size, k * 13 + 8, none⟩ = some (.int .i64 0) := at_ 8 (by decide)
              have e9 : wr.cell? ⟨y2.heap.size, k * 13 + 9, none⟩ = some (.int .i64 0) := at_ 9 (by decide)
              have e10 : wr.cell? ⟨y2.heap.size, k * 13 + 10, none⟩ = some (.int .i64 0) := at_ 10 (by decide)
              have e11 : wr.cell? ⟨y2.heap.size, k * 13 + 11, none⟩ = some (.int .i64 0) := at_ 11 (by decide)
              have e12 : wr.cell? ⟨y2.heap.size, k * 13 + 12, none⟩ = some (.int .i64 0) := at_ 12 (by decide)
              obtain ⟨zo, zk, zs⟩ := z
              simp only at e0 e1 e2 hr1 hr2 hr3
              have HR1 := Lib.hid hr1
              have HR2 := Lib.hid hr2
              have HR3 := Lib.hid hr3
              have hki : (k : Int) < 6 := by omega
              clear hz hr1 hr2 hr3 at_
              have HS := Lib.hid (start3 (w := w) (V := wr) (v := y2) (x := x) (f := f) (zo := zo) (zk := zk) (zs := zs) (Blk.new wr 35 #[.int .i64 zo, .int .i64 zk, .int .i64 zs, .string ⟨#[]⟩, .string ⟨#[]⟩, .bool false, .int .i64 0, .int .i64 0, .int .i64 0, .int .i64 0, .int .i64 0, .int .i64 0, .int .i64 0]) (hT.alloc (.cells #[.int .i64 zo, .int .i64 zk, .int .i64 zs, .string ⟨#[]⟩, .string ⟨#[]⟩, .bool false, .int .i64 0, .int .i64 0, .int .i64 0, .int .i64 0, .int .i64 0, .int .i64 0, .int .i64 0] 35)) (hb.alloc hb.size (.cells #[.int .i64 zo, .int .i64 zk, .int .i64 zs, .string ⟨#[]⟩, .string ⟨#[]⟩, .bool false, .int .i64 0, .int .i64 0, .int .i64 0, .int .i64 0, .int .i64 0, .int .i64 0, .int .i64 0] 35)))
              have HI : Hid (IntsIn (((wr.alloc (.cells #[.int .i64 zo, .int .i64 zk, .int .i64 zs, .string ⟨#[]⟩, .string ⟨#[]⟩, .bool false, .int .i64 0, .int .i64 0, .int .i64 0, .int .i64 0, .int .i64 0, .int .i64 0, .int .i64 0] 35)).alloc (.cells #[.int .i64 0, .int .i64 60] 2)).drew) (wr.heap.size + 1) [0, 60]) := Lib.hid (ints_of (show Blk (((wr.alloc (.cells #[.int .i64 zo, .int .i64 zk, .int .i64 zs, .string ⟨#[]⟩, .string ⟨#[]⟩, .bool false, .int .i64 0, .int .i64 0, .int .i64 0, .int .i64 0, .int .i64 0, .int .i64 0, .int .i64 0] 35)).alloc (.cells #[.int .i64 0, .int .i64 60] 2)).drew) (wr.heap.size + 1) 2 #[.int .i64 0, .int .i64 60] from Blk.newAt (wr.alloc (.cells #[.int .i64 zo, .int .i64 zk, .int .i64 zs, .string ⟨#[]⟩, .string ⟨#[]⟩, .bool false, .int .i64 0, .int .i64 0, .int .i64 0, .int .i64 0, .int .i64 0, .int .i64 0, .int .i64 0] 35)) (wr.heap.size + 1) (by simp) 2 #[.int .i64 0, .int .i64 60]) rfl)
              clear hT hb
              go_wp2_with fail
              go_region_held3 (fun W => W.cell? ⟨wr.heap.size, 0, none⟩ = some (.int .i64 zo) ∧ W.cell? ⟨wr.heap.size, 1, none⟩ = some (.int .i64 zk) ∧ W.cell? ⟨wr.heap.size, 2, none⟩ = some (.int .i64 zs) ∧ W.cell? ⟨wr.heap.size, 3, none⟩ = some (.string ⟨#[]⟩) ∧ W.cell? ⟨wr.heap.size, 4, none⟩ = some (.string ⟨#[]⟩) ∧ W.cell? ⟨wr.heap.size, 5, none⟩ = some (.bool false) ∧ W.cell? ⟨wr.heap.size, 6, none⟩ = some (.int .i64 0) ∧ W.cell? ⟨wr.heap.size, 7, none⟩ = some (.int .i64 0) ∧ W.cell? ⟨wr.heap.size, 8, none⟩ = some (.int .i64 0) ∧ W.cell? ⟨wr.heap.size, 9, none⟩ = some (.int .i64 0) ∧ W.cell? ⟨wr.heap.size, 10, none⟩ = some (.int .i64 0) ∧ W.cell? ⟨wr.heap.size, 11, none⟩ = some (.int .i64 0) ∧ W.cell? ⟨wr.heap.size, 12, none⟩ = some (.int .i64 0) ∧ wr.heap.size < W.heap.size ∧ Blk W y2.heap.size 35 (ar3 x f) ∧ Below w.heap.size w W) (first | exact keep3 ((Below.refl _ _).drew) HS.out | exact keep3 ((Below.refl _ _).alloc (Nat.le_refl _) _) (by assumption) | exact keep3 (by assumption) (by assumption) | assumption) (first | (go_at_call 18; refine (cS3.out _ _ HI.out).mono ?_; rintro e w' ⟨A, c, rfl, hrl, hbq⟩) | (go_at_call 15; refine (exp_saves zo zk zs _ _ 2 [0, 60] ([], 3) _ rfl HR2.out HR3.out (by decide) bd3.out HR1.out (by assumption)).mono ?_; rintro e w' ⟨rfl, hbq⟩))
              all_goals
                have hT2 := blk3 (by assumption)
                have hb2 := bel3 (by assumption)
                clear HS e0 e1 e2 e3 e4 e5 e6 e7 e8 e9 e10 e11 e12
                go_wp2_with fail
                go_roundw
                case rel => first | exact ⟨k + 1, by omega, by go_num, hT2, hb2⟩ | ((repeat apply Exists.intro); exact ⟨⟨k + 1, by omega, by go_num, hT2, hb2⟩, rfl⟩)
                case measure => simp [intOf]; omega
            · obtain rfl : k = 6 := by omega
              clear hT
              have hTn := Blk.new wr 2 (ar4 f)
              have hbn := hb.alloc hb.size (.cells (ar4 f) 2)
              clear hb hk hlt
              go_wp2_with fail
              obtain ⟨y3, hvv⟩ : ∃ v : World, v = wr := ⟨_, rfl⟩
              rw [← hvv] at hTn hbn ⊢
              clear hvv
              go_loopw [137] (fun i wz => ∃ k : Nat, k ≤ 4 ∧ i = .int .i64 k ∧ Blk wz y3.heap.size 2 (ar4 f) ∧ Below w.heap.size w wz) (fun i _ => 4 - (intOf i).toNat)
              case atStart => exact ⟨0, by omega, rfl, hTn, hbn⟩
              case round =>
                clear hTn hbn
                obtain ⟨k, hk, rfl, hT, hb⟩ := hrel
                by_cases hlt : k < 4
                · obtain ⟨z, a0, hz, hz0, hz1⟩ := H4.out k hlt
                  have e0 : wr.cell? ⟨y3.heap.size, k, none⟩ = some (.int .i64 z) := (hT.cell _).trans a0
                  have cT : Hid (∀ W, Calls Tryd.prog 13 #[.int .i64 z] W fun e w' => e = .returned (.string (str [])) ∧ Below W.heap.size W w') := fun W => by have q := ntext_any z W hz0 hz1; rw [P20.text_out hz] at q; exact q
                  have hki : (k : Int) < 4 := by omega
                  clear a0 hz hz0 hz1
                  go_wp2_with fail
                  refine (cT.out _).mono ?_
                  rintro e u ⟨rfl, hd⟩
                  have hTu := hT.below hd hT.lt
                  have hbu := hb.trans (hd.mono hb.size)
                  clear hd hT hb cT e0
                  go_wp2_with fail
                  go_roundw
                  case rel => first | exact ⟨k + 1, by omega, by go_num, hTu, hbu⟩ | ((repeat apply Exists.intro); exact ⟨⟨k + 1, by omega, by go_num, hTu, hbu⟩, rfl⟩)
                  case measure => simp [intOf]; omega
                · obtain rfl : k = 4 := by omega
                  have HZ := Lib.hid (ref_named2 x (86400 - x + f) (by omega) (by omega))
                  clear hT hk hlt
                  have hN : IntsIn (wr.alloc (.cells #[.int .i64 (86400 - x + f), .int .i64 0] 2)) wr.heap.size [86400 - x + f, 0] := ints_of (Blk.new wr 2 #[.int .i64 (86400 - x + f), .int .i64 0]) rfl
                  have hbn := hb.alloc hb.size (.cells #[.int .i64 (86400 - x + f), .int .i64 0] 2)
                  have CS := Lib.hid (cS4.out _ _ hN)
                  clear hN hb 
                  go_wp2_with fail
                  refine CS.out.mono ?_
                  rintro e vd ⟨Ad, cd, rfl, hrl, hc⟩
                  have hbv := hbn.trans (hc.mono hbn.size)
                  have CE := Lib.hid (exp_saves x 2 0 Ad cd 2 [86400 - x + f, 0] ([], 3) vd rfl (by omega) (by omega) (by omega) bd4.out (HZ.out) hrl)
                  clear hrl hc hbn CS 
                  go_wp2_with fail
                  refine CE.out.mono ?_
                  rintro e ud ⟨rfl, hd⟩
                  have hbu := hbv.trans (hd.mono hbv.size)
                  clear hd hbv CE 
                  go_wp2_with fail
                  have hvz := hv.below hbu
                  refine (works20_any _ hvz).mono ?_
                  rintro e q ⟨rfl, hq⟩
                  have hbf := hbu.trans (hq.mono hbu.size)
                  go_wp2_with fail
                  go_ret
                  exact ⟨rfl, hbf⟩
end Go.Proofs.YtmgmgdjddimgmaaDoor
