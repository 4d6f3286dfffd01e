/- The walk of the law VariantChecks (chapter 24). -/
import Derived.Test.YtbajlkpjemandaaDoorWork24
import Derived.Test.YtbajlkpjemandaaDoorFew24
import Derived.Test.YtbajlkpjemandaaDoorVar24e
import Derived.Test.YtbajlkpjemandaaDoorOpen24
import Derived.OpenShut
import Derived.IntWalk
namespace Go.Proofs.YtbajlkpjemandaaDoor
open Go.RowKit Go.Lib
set_option linter.unusedVariables false

set_option maxRecDepth 100000 in
set_option maxHeartbeats 16000000 in
theorem walkVariantChecks (s : SV) (n : Int) (w : World) (hS : SrcIn w s) (hz : Lens s) (hn : (Lit.int .i64 n).wf = true) (hv : Vars24 w) :
    Calls Tryd.prog 9 #[.agg s.agg, .int .i64 n] w fun e w' => e = .returned (.bool true) ∧ Below w.heap.size w w' := by
  have cF : Hid (∀ W, Below w.heap.size w W → Calls Tryd.prog 35 #[.agg s.agg] W fun e w' => (e = .returned (.bool false) ∨ (e = .returned (.bool true) ∧ Few24 s)) ∧ Below W.heap.size W w') := fun W h => few24_any s W (hS.below h) hz
  have cC : Hid (SmallS s → ∀ k W, Below w.heap.size w W → Calls Tryd.prog 37 #[.agg s.agg, .int .i64 k] W fun e w' => e = .returned (.tuple #[.agg #[.int .i64 (P24.check s k).1.1, .int .i64 (P24.check s k).1.2.1, .int .i64 (P24.check s k).1.2.2], .int .i64 (P24.check s k).2]) ∧ Below W.heap.size W w') := fun h k W hb => vcheck_any s k W (hS.below hb) h (hv.below hb)
  have cR : Hid (SmallS s → ∀ k W, Below w.heap.size w W → Calls Tryd.prog 38 #[.agg s.agg, .int .i64 k] W fun e w' => e = .returned (.tuple #[.agg #[.int .i64 (P24.check s k).1.1, .int .i64 (P24.check s k).1.2.1, .int .i64 (P24.check s k).1.2.2], .int .i64 (P24.check s k).2]) ∧ Below W.heap.size W w') := fun h k W hb => rvcheck_any s k W (hS.below hb) h
  have hagg : s.agg = #[.slice s.rA s.rules.length s.rc, .slice s.zA s.zones.length s.zc, .slice s.kA s.links.length s.kc, .slice s.hA s.shifts.length s.hc] := rfl
  rw [hagg] at cF cC cR ⊢
  have hnp : ∀ (W : World) (a b c : Int), (binOp .neq 70 (.agg #[.int .i64 a, .int .i64 b, .int .i64 c]) (.agg #[.int .i64 a, .int .i64 b, .int .i64 c])).run Tryd.prog W = .ok (.bool false) W := fun W a b c => by rw [neq_place]; simp
  clear hagg hS hz hn
  generalize s.rules.length = NR at cF cC cR ⊢
  generalize s.zones.length = NZ at cF cC cR ⊢
  generalize s.links.length = NK at cF cC cR ⊢
  generalize s.shifts.length = NH at cF cC cR ⊢
  have hX := Blk.new w 66 #[.slice s.rA NR s.rc, .slice s.zA NZ s.zc, .slice s.kA NK s.kc, .slice s.hA NH s.hc]
  have hb0 := (Below.refl w.heap.size w).alloc (Nat.le_refl _) (.cells #[.slice s.rA NR s.rc, .slice s.zA NZ s.zc, .slice s.kA NK s.kc, .slice s.hA NH s.hc] 66)
  have x0 := (hX.cell 0).trans rfl
  have x1 := (hX.cell 1).trans rfl
  have x2 := (hX.cell 2).trans rfl
  have x3 := (hX.cell 3).trans rfl
  go_enter Tryd.func9, Tryd.ntmps9
  go_wp2_with fail
  refine (cF.out _ hb0).mono ?_
  rintro e w1 ⟨he, hc⟩
  have hX1 := hX.below hc hX.lt
  have hb1 := hb0.trans (hc.mono hb0.size)
  clear hX hb0 hc x0 x1 x2 x3 cF
  rcases he with rfl | ⟨rfl, hF⟩
  · have hv1 := hv.below hb1
    go_wp2_with fail
    refine (works24_any _ hv1).mono ?_
    rintro e w2 ⟨rfl, hc⟩
    have hb2 := hb1.trans (hc.mono hb1.size)
    clear hb1 hc hX1
    go_wp2_with fail
    go_ret
    exact ⟨rfl, hb2⟩
  · have CC := Lib.hid (cC.out hF.small)
    have CR := Lib.hid (cR.out hF.small)
    clear cC cR hF
    have hX2 := hX1.alloc (.cells #[.int .i64 n, .int .i64 1, .int .i64 2, .int .i64 3] 3)
    have hE2 := Blk.new w1 3 #[.int .i64 n, .int .i64 1, .int .i64 2, .int .i64 3]
    have hb2 := hb1.alloc hb1.size (.cells #[.int .i64 n, .int .i64 1, .int .i64 2, .int .i64 3] 3)
    clear hX1 hb1
    go_wp2_with fail
    generalize w1.heap.size = BE at hE2 ⊢
    generalize w1.alloc (.cells #[.int .i64 n, .int .i64 1, .int .i64 2, .int .i64 3] 3) = W0 at hX2 hE2 hb2 ⊢
    go_loopw [18] (fun i wr => ∃ k : Nat, k ≤ 4 ∧ i = .int .i64 (k : Int) ∧ Blk wr w.heap.size 66 #[.slice s.rA NR s.rc, .slice s.zA NZ s.zc, .slice s.kA NK s.kc, .slice s.hA NH s.hc] ∧ Blk wr BE 3 #[.int .i64 n, .int .i64 1, .int .i64 2, .int .i64 3] ∧ Below w.heap.size w wr) (fun i _ => 4 - (intOf i).toNat)
    case atStart => exact ⟨0, by omega, rfl, hX2, hE2, hb2⟩
    case round =>
      clear hX2 hE2 hb2
      obtain ⟨k, hk, rfl, hX, hE, hb⟩ := hrel
      by_cases hlt : k < 4
      · obtain ⟨f, hf⟩ : ∃ f : Int, wr.cell? ⟨BE, k, none⟩ = some (.int .i64 f) := by
          have hk4 : k = 0 ∨ k = 1 ∨ k = 2 ∨ k = 3 := by omega
          rcases hk4 with rfl | rfl | rfl | rfl
          · exact ⟨_, (hE.cell 0).trans rfl⟩
          · exact ⟨_, (hE.cell 1).trans rfl⟩
          · exact ⟨_, (hE.cell 2).trans rfl⟩
          · exact ⟨_, (hE.cell 3).trans rfl⟩
        have hki : (k : Int) < 4 := by omega
        have x0 := (hX.cell 0).trans rfl
        have x1 := (hX.cell 1).trans rfl
        have x2 := (hX.cell 2).trans rfl
        have x3 := (hX.cell 3).trans rfl
        have c1 := CC.out f
        have c2 := CR.out f
        generalize P24.check s f = R at c1 c2
        obtain ⟨⟨q1, q2, q3⟩, q4⟩ := R
        simp only at c1 c2
        have C1 := Lib.hid c1
        have C2 := Lib.hid c2
        clear c1 c2
        go_wp2_with fail
        refine (C1.out _ hb).mono ?_
        rintro e w3 ⟨rfl, hc⟩
        have hX3 := (hX.below hc hX.lt).alloc (.cells #[.int .i64 q1, .int .i64 q2, .int .i64 q3] 70)
        have hE3 := (hE.below hc hE.lt).alloc (.cells #[.int .i64 q1, .int .i64 q2, .int .i64 q3] 70)
        have hb3 := (hb.trans (hc.mono hb.size)).alloc (Nat.le_trans hb.size hc.size) (.cells #[.int .i64 q1, .int .i64 q2, .int .i64 q3] 70)
        have hP3 := Blk.new w3 70 #[.int .i64 q1, .int .i64 q2, .int .i64 q3]
        clear hX hE hb hc x0 x1 x2 x3 hf C1
        have x0 := (hX3.cell 0).trans rfl
        have x1 := (hX3.cell 1).trans rfl
        have x2 := (hX3.cell 2).trans rfl
        have x3 := (hX3.cell 3).trans rfl
        go_wp2_with fail
        refine (C2.out _ hb3).mono ?_
        rintro e w4 ⟨rfl, hc⟩
        have hX4 := (hX3.below hc hX3.lt).alloc (.cells #[.int .i64 q1, .int .i64 q2, .int .i64 q3] 70)
        have hE4 := (hE3.below hc hE3.lt).alloc (.cells #[.int .i64 q1, .int .i64 q2, .int .i64 q3] 70)
        have hb4 := (hb3.trans (hc.mono hb3.size)).alloc (Nat.le_trans hb3.size hc.size) (.cells #[.int .i64 q1, .int .i64 q2, .int .i64 q3] 70)
        have hP4 := (hP3.below hc hP3.lt).alloc (.cells #[.int .i64 q1, .int .i64 q2, .int .i64 q3] 70)
        clear hX3 hE3 hb3 hP3 hc x0 x1 x2 x3 C2
        have y0 := (hP4.cell 0).trans rfl
        have y1 := (hP4.cell 1).trans rfl
        have y2 := (hP4.cell 2).trans rfl
        go_wp2_with fail
        go_roundw
        case rel => exact ⟨k + 1, by omega, by go_num, hX4, hE4, hb4⟩
        case measure => simp [intOf]; omega
      · obtain rfl : k = 4 := by omega
        have hv5 := hv.below hb
        clear hX hE
        go_wp2_with fail
        refine (works24_any _ hv5).mono ?_
        rintro e w2 ⟨rfl, hc⟩
        have hb2 := hb.trans (hc.mono hb.size)
        clear hb hc
        go_wp2_with fail
        go_ret
        exact ⟨rfl, hb2⟩
end Go.Proofs.YtbajlkpjemandaaDoor
