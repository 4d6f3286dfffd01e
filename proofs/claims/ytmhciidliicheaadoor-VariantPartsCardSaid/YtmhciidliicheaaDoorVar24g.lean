/- The walk of is (chapter 24). -/
import Derived.Test.YtmhciidliicheaaDoorVar24f
namespace Go.Proofs.YtmhciidliicheaaDoor
open Go.RowKit Go.Lib
set_option linter.unusedVariables false

/-- where the fault lies, if there is one -/
def atOf (e p1 p2 p3 : Int) : (Int × Int × Int) × Int := if e = 0 then ((0, 0, 0), 0) else ((p1, p2, p3), e)
set_option maxRecDepth 100000 in
set_option maxHeartbeats 16000000 in
theorem is24_any (s : SV) (p1 p2 p3 e1 e2 e3 : Int) (w : World) (hS : SrcIn w s) (hz : SmallS s) (hv : Vars24 w) (h1 : P24.check s 1 = atOf e1 p1 p2 p3) (h2 : P24.check s 2 = atOf e2 p1 p2 p3) (h3 : P24.check s 3 = atOf e3 p1 p2 p3) :
    Calls Tryd.prog 71 #[.agg s.agg, .agg #[.int .i64 p1, .int .i64 p2, .int .i64 p3], .int .i64 e1, .int .i64 e2, .int .i64 e3] w fun e w' => e = .returned (.bool true) ∧ Below w.heap.size w w' := by
  have c1 : Hid (∀ W, Below w.heap.size w W → Calls Tryd.prog 27 #[.agg s.agg, .int .i64 1] W fun e w' => e = .returned (.tuple #[.agg #[.int .i64 (atOf e1 p1 p2 p3).1.1, .int .i64 (atOf e1 p1 p2 p3).1.2.1, .int .i64 (atOf e1 p1 p2 p3).1.2.2], .int .i64 (atOf e1 p1 p2 p3).2]) ∧ Below W.heap.size W w') := fun W hb => by
    have q := vcheck_any s 1 W (hS.below hb) hz (hv.below hb)
    rw [h1] at q; exact q
  have c2 : Hid (∀ W, Below w.heap.size w W → Calls Tryd.prog 27 #[.agg s.agg, .int .i64 2] W fun e w' => e = .returned (.tuple #[.agg #[.int .i64 (atOf e2 p1 p2 p3).1.1, .int .i64 (atOf e2 p1 p2 p3).1.2.1, .int .i64 (atOf e2 p1 p2 p3).1.2.2], .int .i64 (atOf e2 p1 p2 p3).2]) ∧ Below W.heap.size W w') := fun W hb => by
    have q := vcheck_any s 2 W (hS.below hb) hz (hv.below hb)
    rw [h2] at q; exact q
  have c3 : Hid (∀ W, Below w.heap.size w W → Calls Tryd.prog 27 #[.agg s.agg, .int .i64 3] W fun e w' => e = .returned (.tuple #[.agg #[.int .i64 (atOf e3 p1 p2 p3).1.1, .int .i64 (atOf e3 p1 p2 p3).1.2.1, .int .i64 (atOf e3 p1 p2 p3).1.2.2], .int .i64 (atOf e3 p1 p2 p3).2]) ∧ Below W.heap.size W w') := fun W hb => by
    have q := vcheck_any s 3 W (hS.below hb) hz (hv.below hb)
    rw [h3] at q; exact q
  have hagg : s.agg = #[.slice s.rA s.rules.length s.rc, .slice s.zA s.zones.length s.zc, .slice s.kA s.links.length s.kc, .slice s.hA s.shifts.length s.hc] := rfl
  rw [hagg] at c1 c2 c3 ⊢
  clear hagg h1 h2 h3 hS hv hz
  generalize s.rules.length = NR at c1 c2 c3 ⊢
  generalize s.zones.length = NZ at c1 c2 c3 ⊢
  generalize s.links.length = NK at c1 c2 c3 ⊢
  generalize s.shifts.length = NH at c1 c2 c3 ⊢
  have hnp : ∀ (W : World) (a b c : Int), (binOp .neq 65 (.agg #[.int .i64 a, .int .i64 b, .int .i64 c]) (.agg #[.int .i64 a, .int .i64 b, .int .i64 c])).run Tryd.prog W = .ok (.bool false) W := fun W a b c => by rw [neq_place]; simp
  have hX := ((Blk.new w 62 #[.slice s.rA NR s.rc, .slice s.zA NZ s.zc, .slice s.kA NK s.kc, .slice s.hA NH s.hc]).alloc (.cells #[.int .i64 p1, .int .i64 p2, .int .i64 p3] 65)).alloc (.cells #[.int .i64 e1, .int .i64 e2, .int .i64 e3] 35)
  have hY := (Blk.newAt (w.alloc (.cells #[.slice s.rA NR s.rc, .slice s.zA NZ s.zc, .slice s.kA NK s.kc, .slice s.hA NH s.hc] 62)) (w.heap.size + 1) (by simp) 65 #[.int .i64 p1, .int .i64 p2, .int .i64 p3]).alloc (.cells #[.int .i64 e1, .int .i64 e2, .int .i64 e3] 35)
  have hE := Blk.newAt ((w.alloc (.cells #[.slice s.rA NR s.rc, .slice s.zA NZ s.zc, .slice s.kA NK s.kc, .slice s.hA NH s.hc] 62)).alloc (.cells #[.int .i64 p1, .int .i64 p2, .int .i64 p3] 65)) (w.heap.size + 1 + 1) (by simp) 35 #[.int .i64 e1, .int .i64 e2, .int .i64 e3]
  have hb0 := (((Below.refl w.heap.size w).alloc (Nat.le_refl _) (.cells #[.slice s.rA NR s.rc, .slice s.zA NZ s.zc, .slice s.kA NK s.kc, .slice s.hA NH s.hc] 62)).alloc (by simp) (.cells #[.int .i64 p1, .int .i64 p2, .int .i64 p3] 65)).alloc (by simp; omega) (.cells #[.int .i64 e1, .int .i64 e2, .int .i64 e3] 35)
  go_enter Tryd.func71, Tryd.ntmps71
  go_wp2_with fail
  generalize ((w.alloc (.cells #[.slice s.rA NR s.rc, .slice s.zA NZ s.zc, .slice s.kA NK s.kc, .slice s.hA NH s.hc] 62)).alloc (.cells #[.int .i64 p1, .int .i64 p2, .int .i64 p3] 65)).alloc (.cells #[.int .i64 e1, .int .i64 e2, .int .i64 e3] 35) = W0 at hX hY hE hb0
  go_loopw [20] (fun i wr => ∃ k : Nat, k ≤ 3 ∧ i = .int .i64 (k : Int) ∧ Blk wr w.heap.size 62 #[.slice s.rA NR s.rc, .slice s.zA NZ s.zc, .slice s.kA NK s.kc, .slice s.hA NH s.hc] ∧ Blk wr (w.heap.size + 1) 65 #[.int .i64 p1, .int .i64 p2, .int .i64 p3] ∧ Blk wr (w.heap.size + 1 + 1) 35 #[.int .i64 e1, .int .i64 e2, .int .i64 e3] ∧ Below w.heap.size w wr) (fun i _ => 3 - (intOf i).toNat)
  case atStart => exact ⟨0, by omega, rfl, hX, hY, hE, hb0⟩
  case round =>
    clear hX hY hE hb0
    obtain ⟨k, hk, rfl, hX, hY, hE, hb⟩ := hrel
    by_cases hlt : k < 3
    · have hk3 : k = 0 ∨ k = 1 ∨ k = 2 := by omega
      clear hk hlt
      have x0 := (hX.cell 0).trans rfl
      have x1 := (hX.cell 1).trans rfl
      have x2 := (hX.cell 2).trans rfl
      have x3 := (hX.cell 3).trans rfl
      rcases hk3 with rfl | rfl | rfl
      · have ce := (hE.cell 0).trans rfl
        have cc := c1.out _ hb
        by_cases he : e1 = 0
        · rw [show atOf e1 p1 p2 p3 = ((0, 0, 0), 0) from if_pos he] at cc
          rw [he] at ce
          simp only at cc
          have CC := Lib.hid cc
          clear cc he
          go_wp2_with fail
          refine CC.out.mono ?_
          rintro e w2 ⟨rfl, hc⟩
          have hX2 := (hX.below hc hX.lt).alloc (.cells #[.int .i64 0, .int .i64 0, .int .i64 0] 65)
          have hY2 := (hY.below hc hY.lt).alloc (.cells #[.int .i64 0, .int .i64 0, .int .i64 0] 65)
          have hE2 := (hE.below hc hE.lt).alloc (.cells #[.int .i64 0, .int .i64 0, .int .i64 0] 65)
          have hb2 := (hb.trans (hc.mono hb.size)).alloc (Nat.le_trans hb.size hc.size) (.cells #[.int .i64 0, .int .i64 0, .int .i64 0] 65)
          have y0 := (hY2.cell 0).trans rfl
          have y1 := (hY2.cell 1).trans rfl
          have y2 := (hY2.cell 2).trans rfl
          clear hX hY hE hb hc CC x0 x1 x2 x3 ce
          go_wp2_with fail
          go_roundw
          case rel => exact ⟨1, by omega, by go_num, hX2, hY2, hE2, hb2⟩
          case measure => simp [intOf]
        · rw [show atOf e1 p1 p2 p3 = ((p1, p2, p3), e1) from if_neg he] at cc
          have b1 : (e1 == 0) = false := by rw [beq_eq_false_iff_ne]; exact he
          have b2 : (e1 != 0) = true := by rw [bne_iff_ne]; exact he
          simp only at cc
          have CC := Lib.hid cc
          clear cc he
          go_wp2_with fail
          refine CC.out.mono ?_
          rintro e w2 ⟨rfl, hc⟩
          have hX2 := (hX.below hc hX.lt).alloc (.cells #[.int .i64 p1, .int .i64 p2, .int .i64 p3] 65)
          have hY2 := (hY.below hc hY.lt).alloc (.cells #[.int .i64 p1, .int .i64 p2, .int .i64 p3] 65)
          have hE2 := (hE.below hc hE.lt).alloc (.cells #[.int .i64 p1, .int .i64 p2, .int .i64 p3] 65)
          have hb2 := (hb.trans (hc.mono hb.size)).alloc (Nat.le_trans hb.size hc.size) (.cells #[.int .i64 p1, .int .i64 p2, .int .i64 p3] 65)
          have y0 := (hY2.cell 0).trans rfl
          have y1 := (hY2.cell 1).trans rfl
          have y2 := (hY2.cell 2).trans rfl
          clear hX hY hE hb hc CC x0 x1 x2 x3 ce
          go_wp2_with fail
          go_roundw
          case rel => exact ⟨1, by omega, by go_num, hX2, hY2, hE2, hb2⟩
          case measure => simp [intOf]
      · have ce := (hE.cell 1).trans rfl
        have cc := c2.out _ hb
        by_cases he : e2 = 0
        · rw [show atOf e2 p1 p2 p3 = ((0, 0, 0), 0) from if_pos he] at cc
          rw [he] at ce
          simp only at cc
          have CC := Lib.hid cc
          clear cc he
          go_wp2_with fail
          refine CC.out.mono ?_
          rintro e w2 ⟨rfl, hc⟩
          have hX2 := (hX.below hc hX.lt).alloc (.cells #[.int .i64 0, .int .i64 0, .int .i64 0] 65)
          have hY2 := (hY.below hc hY.lt).alloc (.cells #[.int .i64 0, .int .i64 0, .int .i64 0] 65)
          have hE2 := (hE.below hc hE.lt).alloc (.cells #[.int .i64 0, .int .i64 0, .int .i64 0] 65)
          have hb2 := (hb.trans (hc.mono hb.size)).alloc (Nat.le_trans hb.size hc.size) (.cells #[.int .i64 0, .int .i64 0, .int .i64 0] 65)
          have y0 := (hY2.cell 0).trans rfl
          have y1 := (hY2.cell 1).trans rfl
          have y2 := (hY2.cell 2).trans rfl
          clear hX hY hE hb hc CC x0 x1 x2 x3 ce
          go_wp2_with fail
          go_roundw
          case rel => exact ⟨2, by omega, by go_num, hX2, hY2, hE2, hb2⟩
          case measure => simp [intOf]
        · rw [show atOf e2 p1 p2 p3 = ((p1, p2, p3), e2) from if_neg he] at cc
          have b1 : (e2 == 0) = false := by rw [beq_eq_false_iff_ne]; exact he
          have b2 : (e2 != 0) = true := by rw [bne_iff_ne]; exact he
          simp only at cc
          have CC := Lib.hid cc
          clear cc he
          go_wp2_with fail
          refine CC.out.mono ?_
          rintro e w2 ⟨rfl, hc⟩
          have hX2 := (hX.below hc hX.lt).alloc (.cells #[.int .i64 p1, .int .i64 p2, .int .i64 p3] 65)
          have hY2 := (hY.below hc hY.lt).alloc (.cells #[.int .i64 p1, .int .i64 p2, .int .i64 p3] 65)
          have hE2 := (hE.below hc hE.lt).alloc (.cells #[.int .i64 p1, .int .i64 p2, .int .i64 p3] 65)
          have hb2 := (hb.trans (hc.mono hb.size)).alloc (Nat.le_trans hb.size hc.size) (.cells #[.int .i64 p1, .int .i64 p2, .int .i64 p3] 65)
          have y0 := (hY2.cell 0).trans rfl
          have y1 := (hY2.cell 1).trans rfl
          have y2 := (hY2.cell 2).trans rfl
          clear hX hY hE hb hc CC x0 x1 x2 x3 ce
          go_wp2_with fail
          go_roundw
          case rel => exact ⟨2, by omega, by go_num, hX2, hY2, hE2, hb2⟩
          case measure => simp [intOf]
      · have ce := (hE.cell 2).trans rfl
        have cc := c3.out _ hb
        by_cases he : e3 = 0
        · rw [show atOf e3 p1 p2 p3 = ((0, 0, 0), 0) from if_pos he] at cc
          rw [he] at ce
          simp only at cc
          have CC := Lib.hid cc
          clear cc he
          go_wp2_with fail
          refine CC.out.mono ?_
          rintro e w2 ⟨rfl, hc⟩
          have hX2 := (hX.below hc hX.lt).alloc (.cells #[.int .i64 0, .int .i64 0, .int .i64 0] 65)
          have hY2 := (hY.below hc hY.lt).alloc (.cells #[.int .i64 0, .int .i64 0, .int .i64 0] 65)
          have hE2 := (hE.below hc hE.lt).alloc (.cells #[.int .i64 0, .int .i64 0, .int .i64 0] 65)
          have hb2 := (hb.trans (hc.mono hb.size)).alloc (Nat.le_trans hb.size hc.size) (.cells #[.int .i64 0, .int .i64 0, .int .i64 0] 65)
          have y0 := (hY2.cell 0).trans rfl
          have y1 := (hY2.cell 1).trans rfl
          have y2 := (hY2.cell 2).trans rfl
          clear hX hY hE hb hc CC x0 x1 x2 x3 ce
          go_wp2_with fail
          go_roundw
          case rel => exact ⟨3, by omega, by go_num, hX2, hY2, hE2, hb2⟩
          case measure => simp [intOf]
        · rw [show atOf e3 p1 p2 p3 = ((p1, p2, p3), e3) from if_neg he] at cc
          have b1 : (e3 == 0) = false := by rw [beq_eq_false_iff_ne]; exact he
          have b2 : (e3 != 0) = true := by rw [bne_iff_ne]; exact he
          simp only at cc
          have CC := Lib.hid cc
          clear cc he
          go_wp2_with fail
          refine CC.out.mono ?_
          rintro e w2 ⟨rfl, hc⟩
          have hX2 := (hX.below hc hX.lt).alloc (.cells #[.int .i64 p1, .int .i64 p2, .int .i64 p3] 65)
          have hY2 := (hY.below hc hY.lt).alloc (.cells #[.int .i64 p1, .int .i64 p2, .int .i64 p3] 65)
          have hE2 := (hE.below hc hE.lt).alloc (.cells #[.int .i64 p1, .int .i64 p2, .int .i64 p3] 65)
          have hb2 := (hb.trans (hc.mono hb.size)).alloc (Nat.le_trans hb.size hc.size) (.cells #[.int .i64 p1, .int .i64 p2, .int .i64 p3] 65)
          have y0 := (hY2.cell 0).trans rfl
          have y1 := (hY2.cell 1).trans rfl
          have y2 := (hY2.cell 2).trans rfl
          clear hX hY hE hb hc CC x0 x1 x2 x3 ce
          go_wp2_with fail
          go_roundw
          case rel => exact ⟨3, by omega, by go_num, hX2, hY2, hE2, hb2⟩
          case measure => simp [intOf]
    · obtain rfl : k = 3 := by omega
      go_wp2_with fail
      go_ret
      exact ⟨rfl, hb⟩
end Go.Proofs.YtmhciidliicheaaDoor
