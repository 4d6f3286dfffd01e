/- The walk of works (chapter 20): the examples of the chapter hold. -/
import Derived.Test.YtmgmgdjddimgmaaDoorNum20j
import Derived.Test.YtmgmgdjddimgmaaDoorNum20c
namespace Go.Proofs.YtmgmgdjddimgmaaDoor
open Go.RowKit
set_option linter.unusedVariables false

theorem keepT {w V W W' : World} {x : Int} {t : ByteArray} (hb : Below W.heap.size W W') (h : W.cell? ⟨V.heap.size, 0, none⟩ = some (.int .i64 x) ∧ W.cell? ⟨V.heap.size, 1, none⟩ = some (.string t) ∧ V.heap.size < W.heap.size ∧ Blk W w.heap.size 60 arrT20 ∧ Below w.heap.size w W) :
    W'.cell? ⟨V.heap.size, 0, none⟩ = some (.int .i64 x) ∧ W'.cell? ⟨V.heap.size, 1, none⟩ = some (.string t) ∧ V.heap.size < W'.heap.size ∧ Blk W' w.heap.size 60 arrT20 ∧ Below w.heap.size w W' :=
  ⟨(hb.cell (p := ⟨V.heap.size, 0, none⟩) h.2.2.1).trans h.1, (hb.cell (p := ⟨V.heap.size, 1, none⟩) h.2.2.1).trans h.2.1, Nat.lt_of_lt_of_le h.2.2.1 hb.size, h.2.2.2.1.below hb h.2.2.2.1.lt, h.2.2.2.2.trans (hb.mono h.2.2.2.2.size)⟩
theorem blkT {w V W : World} {x : Int} {t : ByteArray} (h : W.cell? ⟨V.heap.size, 0, none⟩ = some (.int .i64 x) ∧ W.cell? ⟨V.heap.size, 1, none⟩ = some (.string t) ∧ V.heap.size < W.heap.size ∧ Blk W w.heap.size 60 arrT20 ∧ Below w.heap.size w W) : Blk W w.heap.size 60 arrT20 := h.2.2.2.1
theorem belT {w V W : World} {x : Int} {t : ByteArray} (h : W.cell? ⟨V.heap.size, 0, none⟩ = some (.int .i64 x) ∧ W.cell? ⟨V.heap.size, 1, none⟩ = some (.string t) ∧ V.heap.size < W.heap.size ∧ Blk W w.heap.size 60 arrT20 ∧ Below w.heap.size w W) : Below w.heap.size w W := h.2.2.2.2
theorem ints_of {w : World} {B : Nat} {e : TypeId} {cs : Array Value} {L : List Int} (h : Blk w B e cs) (hc : cs.toList = L.map fun x => Value.int .i64 x) : IntsIn w B L := ⟨h.lt, fun k y hy => by
  rw [h.cell k, ← Array.getElem?_toList, hc, List.getElem?_map, hy]; rfl⟩
/-- the rules of the six sets of examples -/
structure Six (w : World) (A1 A2 A3 A4 A5 A6 : Option Addr) : Prop where
  r1 : RulesIn w A1 [mkR 0, mkR 7200]
  r2 : RulesIn w A2 [mkR 0, mkR 3600]
  r3 : RulesIn w A3 [mkR 0]
  r4 : RulesIn w A4 [mkR 0, mkR (-3600)]
  r5 : RulesIn w A5 [mkR 0, mkR 3600, mkR 7200]
  r6 : RulesIn w A6 [mkR 0, mkR 3600]
theorem Six.below {w w' : World} {A1 A2 A3 A4 A5 A6 : Option Addr} (h : Six w A1 A2 A3 A4 A5 A6) (hb : Below w.heap.size w w') : Six w' A1 A2 A3 A4 A5 A6 := ⟨h.r1.below hb, h.r2.below hb, h.r3.below hb, h.r4.below hb, h.r5.below hb, h.r6.below hb⟩
theorem Six.at_ {w : World} {A1 A2 A3 A4 A5 A6 : Option Addr} (h : Six w A1 A2 A3 A4 A5 A6) (c1 c2 c3 c4 c5 c6 : Nat) : ∀ x ∈ exs A1 A2 A3 A4 A5 A6 c1 c2 c3 c4 c5 c6, RulesIn w x.A x.L := by
  intro x hx
  simp only [exs, List.mem_cons, List.not_mem_nil, or_false] at hx
  rcases hx with rfl | rfl | rfl | rfl | rfl | rfl | rfl | rfl
  · exact h.r1
  · exact RulesIn.nil _ _
  · exact h.r2
  · exact h.r3
  · exact h.r4
  · exact h.r5
  · exact h.r6
  · exact RulesIn.nil _ _
theorem exs_len (A1 A2 A3 A4 A5 A6 : Option Addr) (c1 c2 c3 c4 c5 c6 : Nat) : (exs A1 A2 A3 A4 A5 A6 c1 c2 c3 c4 c5 c6).length = 8 := rfl

set_option maxRecDepth 100000 in
set_option maxHeartbeats 20000000 in
theorem works20_any (w : World) (hv : Vars w) :
    Calls Tryd.prog 10 #[] w fun e w' => e = .returned (.bool true) ∧ Below w.heap.size w w' := by
  go_enter Tryd.func10, Tryd.ntmps10
  go_wp2_with fail
  go_loopw [20] (fun i wr => ∃ k : Nat, k ≤ 7 ∧ i = .int .i64 k ∧ Blk wr w.heap.size 60 arrT20 ∧ Below w.heap.size w wr) (fun i _ => 7 - (intOf i).toNat)
  case atStart => exact ⟨0, by omega, rfl, Blk.new w 60 arrT20, (Below.refl _ _).alloc (Nat.le_refl _) _⟩
  case round =>
    obtain ⟨k, hk, rfl, hT, hb⟩ := hrel
    by_cases hlt : k < 7
    · obtain ⟨x, hx⟩ : ∃ x, tabT20[k]? = some x := ⟨_, List.getElem?_eq_getElem (show k < tabT20.length from hlt)⟩
      obtain ⟨hx1, hx2, hx3⟩ := tabT20_holds x (List.mem_of_getElem? hx)
      have e0 : wr.cell? ⟨w.heap.size, k * 2, none⟩ = some (.int .i64 x.1) := (hT.cell _).trans (arrT20_at k 0 x (by decide) hx)
      have e1 : wr.cell? ⟨w.heap.size, k * 2 + 1, none⟩ = some (.string (str x.2)) := (hT.cell _).trans (arrT20_at k 1 x (by decide) hx)
      have cT : Hid (∀ W, Calls Tryd.prog 13 #[.int .i64 x.1] W fun e w' => e = .returned (.string (str x.2)) ∧ Below W.heap.size W w') := fun W => by
        have q := ntext_any x.1 W hx2 hx3; rw [hx1] at q; exact q
      have hki : (k : Int) < 7 := by omega
      clear hx hx1 hx2 hx3
      generalize str x.2 = t at e1 cT
      generalize x.1 = xo at e0 cT
      have hS : (wr.alloc (.cells #[.int .i64 xo, .string t] 60)).cell? ⟨wr.heap.size, 0, none⟩ = some (.int .i64 xo) ∧ (wr.alloc (.cells #[.int .i64 xo, .string t] 60)).cell? ⟨wr.heap.size, 1, none⟩ = some (.string t) ∧ wr.heap.size < (wr.alloc (.cells #[.int .i64 xo, .string t] 60)).heap.size ∧ Blk (wr.alloc (.cells #[.int .i64 xo, .string t] 60)) w.heap.size 60 arrT20 ∧ Below w.heap.size w (wr.alloc (.cells #[.int .i64 xo, .string t] 60)) :=
        ⟨((Blk.new wr 60 #[.int .i64 xo, .string t]).cell 0).trans rfl, ((Blk.new wr 60 #[.int .i64 xo, .string t]).cell 1).trans rfl, by simp, hT.alloc _, hb.alloc hb.size _⟩
      have HS := Lib.hid hS
      clear hS hT hb
      go_wp2_with fail
      go_region_held3 (fun W => W.cell? ⟨wr.heap.size, 0, none⟩ = some (.int .i64 xo) ∧ W.cell? ⟨wr.heap.size, 1, none⟩ = some (.string t) ∧ wr.heap.size < W.heap.size ∧ Blk W w.heap.size 60 arrT20 ∧ Below w.heap.size w W) (first | exact keepT ((Below.refl _ _).drew) HS.out | exact keepT (by assumption) (by assumption) | assumption) (first | (go_at_call 13; refine (cT.out _).mono ?_; rintro e w' ⟨rfl, hb⟩))
      all_goals
        have hT2 := blkT (by assumption)
        have hb2 := belT (by assumption)
        clear HS cT e0 e1
        go_wp2_with fail
        go_roundw
        case rel => exact ⟨k + 1, by omega, by go_num, hT2, hb2⟩
        case measure => simp [intOf]; omega
    · obtain rfl : k = 7 := by omega
      clear hT
      have hP := Blk.new wr 62 arrP20
      have hbP := hb.alloc hb.size (.cells arrP20 62)
      clear hb
      go_wp2_with fail
      obtain ⟨v, hvv⟩ : ∃ v : World, v = wr := ⟨_, rfl⟩
      rw [← hvv] at hP hbP ⊢
      clear hvv
      go_loopw [43] (fun i wr => ∃ k : Nat, k ≤ 10 ∧ i = .int .i64 k ∧ Blk wr v.heap.size 62 arrP20 ∧ Below w.heap.size w wr) (fun i _ => 10 - (intOf i).toNat)
      case atStart => exact ⟨0, by omega, rfl, hP, hbP⟩
      case round =>
        clear hP hbP
        obtain ⟨k, hk, rfl, hT, hb⟩ := hrel
        by_cases hlt : k < 10
        · obtain ⟨x, hx⟩ : ∃ x, tabP20[k]? = some x := ⟨_, List.getElem?_eq_getElem (show k < tabP20.length from hlt)⟩
          obtain ⟨hx1, hx2⟩ := tabP20_holds x (List.mem_of_getElem? hx)
          have e0 : wr.cell? ⟨v.heap.size, k * 3, none⟩ = some (.string (str x.1)) := (hT.cell _).trans (arrP20_at k 0 x (by decide) hx)
          have e1 : wr.cell? ⟨v.heap.size, k * 3 + 1, none⟩ = some (.int .i64 x.2.1) := (hT.cell _).trans (arrP20_at k 1 x (by decide) hx)
          have e2 : wr.cell? ⟨v.heap.size, k * 3 + 2, none⟩ = some (.int .i64 x.2.2) := (hT.cell _).trans (arrP20_at k 2 x (by decide) hx)
          have cP : Hid (∀ W, Vars W → Calls Tryd.prog 11 #[.string (str x.1)] W fun e w' => e = .returned (.tuple #[.int .i64 x.2.1, .int .i64 x.2.2]) ∧ Below W.heap.size W w') := fun W h => by
            have q := nparse_any (str x.1) W (by rw [str_size]; omega) h
            rw [show P20.parse (P4.bl (str x.1)) = x.2 from hx1] at q; exact q
          have hki : (k : Int) < 10 := by omega
          clear hx hx1 hx2
          generalize str x.1 = s at e0 cP
          generalize x.2.1 = xn at e1 cP
          generalize x.2.2 = xe at e2 cP
          have hX := Blk.new wr 62 #[.string s, .int .i64 xn, .int .i64 xe]
          have hT1 := hT.alloc (.cells #[.string s, .int .i64 xn, .int .i64 xe] 62)
          have hb1 := hb.alloc hb.size (.cells #[.string s, .int .i64 xn, .int .i64 xe] 62)
          have hv1 := hv.below hb1
          clear hT hb
          go_wp2_with fail
          refine (cP.out _ hv1).mono ?_
          rintro e w1 ⟨rfl, hc1⟩
          have hX1 := hX.below hc1 hX.lt
          have hT2 := hT1.below hc1 hT1.lt
          have hb2 := hb1.trans (hc1.mono hb1.size)
          have k1 : w1.cell? ⟨wr.heap.size, 1, none⟩ = some (.int .i64 xn) := (hX1.cell 1).trans rfl
          have k2 : w1.cell? ⟨wr.heap.size, 2, none⟩ = some (.int .i64 xe) := (hX1.cell 2).trans rfl
          clear hX hX1 hT1 hb1 hc1 hv1 cP e0 e1 e2
          go_wp2_with fail
          go_roundw
          case rel => first | exact ⟨k + 1, by omega, by go_num, hT2, hb2⟩ | ((repeat apply Exists.intro); exact ⟨⟨k + 1, by omega, by go_num, hT2, hb2⟩, rfl⟩)
          case measure => simp [intOf]; omega
        · obtain rfl : k = 10 := by omega
          clear hT hk hlt
          have HV := Lib.hid hv
          clear hv
          have hN1 : IntsIn (wr.alloc (.cells #[.int .i64 0, .int .i64 7200] 2)) wr.heap.size [0, 7200] := ints_of (Blk.new wr 2 #[.int .i64 0, .int .i64 7200]) rfl
          have hbn1 := hb.alloc hb.size (.cells #[.int .i64 0, .int .i64 7200] 2)
          have cS1 := saves_any wr.heap.size 2 [0, 7200] (wr.alloc (.cells #[.int .i64 0, .int .i64 7200] 2)) (by decide) (by decide) hN1
          have CS1 := Lib.hid cS1
          clear cS1 hN1
          clear hb
          go_wp2_with fail
          refine CS1.out.mono ?_
          rintro e v1 ⟨A1, c1, rfl, hrl1, hc1⟩
          have hb1 := hbn1.trans (hc1.mono hbn1.size)
          have hR1 := Lib.hid hrl1
          clear hbn1 hc1 hrl1 CS1
          have hN2 : IntsIn (v1.alloc (.cells #[.int .i64 0, .int .i64 3600] 2)) v1.heap.size [0, 3600] := ints_of (Blk.new v1 2 #[.int .i64 0, .int .i64 3600]) rfl
          have hbn2 := hb1.alloc hb1.size (.cells #[.int .i64 0, .int .i64 3600] 2)
          have cS2 := saves_any v1.heap.size 2 [0, 3600] (v1.alloc (.cells #[.int .i64 0, .int .i64 3600] 2)) (by decide) (by decide) hN2
          have CS2 := Lib.hid cS2
          have hQ1 := Lib.hid (hR1.out.alloc (.cells #[.int .i64 0, .int .i64 3600] 2))
          clear cS2 hN2 hR1
          clear hb1
          go_wp2_with fail
          refine CS2.out.mono ?_
          rintro e v2 ⟨A2, c2, rfl, hrl2, hc2⟩
          have hb2 := hbn2.trans (hc2.mono hbn2.size)
          have hR2 := Lib.hid hrl2
          have hR1 := Lib.hid (hQ1.out.below hc2)
          clear hbn2 hc2 hrl2 CS2 hQ1
          have hN3 : IntsIn (v2.alloc (.cells #[.int .i64 0] 2)) v2.heap.size [0] := ints_of (Blk.new v2 2 #[.int .i64 0]) rfl
          have hbn3 := hb2.alloc hb2.size (.cells #[.int .i64 0] 2)
          have cS3 := saves_any v2.heap.size 1 [0] (v2.alloc (.cells #[.int .i64 0] 2)) (by decide) (by decide) hN3
          have CS3 := Lib.hid cS3
          have hQ1 := Lib.hid (hR1.out.alloc (.cells #[.int .i64 0] 2))
          have hQ2 := Lib.hid (hR2.out.alloc (.cells #[.int .i64 0] 2))
          clear cS3 hN3 hR1 hR2
          clear hb2
          go_wp2_with fail
          refine CS3.out.mono ?_
          rintro e v3 ⟨A3, c3, rfl, hrl3, hc3⟩
          have hb3 := hbn3.trans (hc3.mono hbn3.size)
          have hR3 := Lib.hid hrl3
          have hR1 := Lib.hid (hQ1.out.below hc3)
          have hR2 := Lib.hid (hQ2.out.below hc3)
          clear hbn3 hc3 hrl3 CS3 hQ1 hQ2
          have hN4 : IntsIn (v3.alloc (.cells #[.int .i64 0, .int .i64 (-3600)] 2)) v3.heap.size [0, -3600] := ints_of (Blk.new v3 2 #[.int .i64 0, .int .i64 (-3600)]) rfl
          have hbn4 := hb3.alloc hb3.size (.cells #[.int .i64 0, .int .i64 (-3600)] 2)
          have cS4 := saves_any v3.heap.size 2 [0, -3600] (v3.alloc (.cells #[.int .i64 0, .int .i64 (-3600)] 2)) (by decide) (by decide) hN4
          have CS4 := Lib.hid cS4
          have hQ1 := Lib.hid (hR1.out.alloc (.cells #[.int .i64 0, .int .i64 (-3600)] 2))
          have hQ2 := Lib.hid (hR2.out.alloc (.cells #[.int .i64 0, .int .i64 (-3600)] 2))
          have hQ3 := Lib.hid (hR3.out.alloc (.cells #[.int .i64 0, .int .i64 (-3600)] 2))
          clear cS4 hN4 hR1 hR2 hR3
          clear hb3
          go_wp2_with fail
          refine CS4.out.mono ?_
          rintro e v4 ⟨A4, c4, rfl, hrl4, hc4⟩
          have hb4 := hbn4.trans (hc4.mono hbn4.size)
          have hR4 := Lib.hid hrl4
          have hR1 := Lib.hid (hQ1.out.below hc4)
          have hR2 := Lib.hid (hQ2.out.below hc4)
          have hR3 := Lib.hid (hQ3.out.below hc4)
          clear hbn4 hc4 hrl4 CS4 hQ1 hQ2 hQ3
          have hN5 : IntsIn (v4.alloc (.cells #[.int .i64 0, .int .i64 3600, .int .i64 7200] 2)) v4.heap.size [0, 3600, 7200] := ints_of (Blk.new v4 2 #[.int .i64 0, .int .i64 3600, .int .i64 7200]) rfl
          have hbn5 := hb4.alloc hb4.size (.cells #[.int .i64 0, .int .i64 3600, .int .i64 7200] 2)
          have cS5 := saves_any v4.heap.size 3 [0, 3600, 7200] (v4.alloc (.cells #[.int .i64 0, .int .i64 3600, .int .i64 7200] 2)) (by decide) (by decide) hN5
          have CS5 := Lib.hid cS5
          have hQ1 := Lib.hid (hR1.out.alloc (.cells #[.int .i64 0, .int .i64 3600, .int .i64 7200] 2))
          have hQ2 := Lib.hid (hR2.out.alloc (.cells #[.int .i64 0, .int .i64 3600, .int .i64 7200] 2))
          have hQ3 := Lib.hid (hR3.out.alloc (.cells #[.int .i64 0, .int .i64 3600, .int .i64 7200] 2))
          have hQ4 := Lib.hid (hR4.out.alloc (.cells #[.int .i64 0, .int .i64 3600, .int .i64 7200] 2))
          clear cS5 hN5 hR1 hR2 hR3 hR4
          clear hb4
          go_wp2_with fail
          refine CS5.out.mono ?_
          rintro e v5 ⟨A5, c5, rfl, hrl5, hc5⟩
          have hb5 := hbn5.trans (hc5.mono hbn5.size)
          have hR5 := Lib.hid hrl5
          have hR1 := Lib.hid (hQ1.out.below hc5)
          have hR2 := Lib.hid (hQ2.out.below hc5)
          have hR3 := Lib.hid (hQ3.out.below hc5)
          have hR4 := Lib.hid (hQ4.out.below hc5)
          clear hbn5 hc5 hrl5 CS5 hQ1 hQ2 hQ3 hQ4
          have hN6 : IntsIn (v5.alloc (.cells #[.int .i64 0, .int .i64 3600] 2)) v5.heap.size [0, 3600] := ints_of (Blk.new v5 2 #[.int .i64 0, .int .i64 3600]) rfl
          have hbn6 := hb5.alloc hb5.size (.cells #[.int .i64 0, .int .i64 3600] 2)
          have cS6 := saves_any v5.heap.size 2 [0, 3600] (v5.alloc (.cells #[.int .i64 0, .int .i64 3600] 2)) (by decide) (by decide) hN6
          have CS6 := Lib.hid cS6
          have hQ1 := Lib.hid (hR1.out.alloc (.cells #[.int .i64 0, .int .i64 3600] 2))
          have hQ2 := Lib.hid (hR2.out.alloc (.cells #[.int .i64 0, .int .i64 3600] 2))
          have hQ3 := Lib.hid (hR3.out.alloc (.cells #[.int .i64 0, .int .i64 3600] 2))
          have hQ4 := Lib.hid (hR4.out.alloc (.cells #[.int .i64 0, .int .i64 3600] 2))
          have hQ5 := Lib.hid (hR5.out.alloc (.cells #[.int .i64 0, .int .i64 3600] 2))
          clear cS6 hN6 hR1 hR2 hR3 hR4 hR5
          clear hb5
          go_wp2_with fail
          refine CS6.out.mono ?_
          rintro e v6 ⟨A6, c6, rfl, hrl6, hc6⟩
          have hb6 := hbn6.trans (hc6.mono hbn6.size)
          have hR6 := Lib.hid hrl6
          have hR1 := Lib.hid (hQ1.out.below hc6)
          have hR2 := Lib.hid (hQ2.out.below hc6)
          have hR3 := Lib.hid (hQ3.out.below hc6)
          have hR4 := Lib.hid (hQ4.out.below hc6)
          have hR5 := Lib.hid (hQ5.out.below hc6)
          clear hbn6 hc6 hrl6 CS6 hQ1 hQ2 hQ3 hQ4 hQ5
          have hSix : Six v6 A1 A2 A3 A4 A5 A6 := ⟨hR1.out, hR2.out, hR3.out, hR4.out, hR5.out, hR6.out⟩
          clear hR1 hR2 hR3 hR4 hR5 hR6
          obtain ⟨XS, hXS⟩ : ∃ XS, XS = exs A1 A2 A3 A4 A5 A6 c1 c2 c3 c4 c5 c6 := ⟨_, rfl⟩
          have hT := Blk.new v6 64 (arrE (exs A1 A2 A3 A4 A5 A6 c1 c2 c3 c4 c5 c6))
          have hbT := hb6.alloc hb6.size (.cells (arrE (exs A1 A2 A3 A4 A5 A6 c1 c2 c3 c4 c5 c6)) 64)
          have hSix2 := hSix.below ((Below.refl _ _).alloc (Nat.le_refl _) (.cells (arrE (exs A1 A2 A3 A4 A5 A6 c1 c2 c3 c4 c5 c6)) 64))
          have HOK := Lib.hid (exs_ok A1 A2 A3 A4 A5 A6 c1 c2 c3 c4 c5 c6)
          have HLEN := Lib.hid (exs_len A1 A2 A3 A4 A5 A6 c1 c2 c3 c4 c5 c6)
          have HXS := Lib.hid hXS
          have HSA := Lib.hid (fun (W : World) (h : Six W A1 A2 A3 A4 A5 A6) => h.at_ c1 c2 c3 c4 c5 c6)
          have HT := Lib.hid hT
          have HBT := Lib.hid hbT
          have HS2 := Lib.hid hSix2
          clear hSix hb6 hT hbT hSix2 hXS
          go_wp2_with fail
          go_loopw [94] (fun i wz => ∃ k : Nat, k ≤ 8 ∧ i = .int .i64 k ∧ Hid (Blk wz v6.heap.size 64 (arrE XS)) ∧ Hid (Six wz A1 A2 A3 A4 A5 A6) ∧ Below w.heap.size w wz) (fun i _ => 8 - (intOf i).toNat)
          case atStart =>
            rw [HXS.out]
            exact ⟨0, by omega, rfl, HT.out, HS2.out, HBT.out⟩
          case round =>
            clear HT HS2 HBT
            obtain ⟨k, hk, rfl, hT, hSix, hb⟩ := hrel
            by_cases hlt : k < 8
            · obtain ⟨x, hx⟩ : ∃ x, XS[k]? = some x := ⟨_, List.getElem?_eq_getElem (by rw [HXS.out, HLEN.out]; exact hlt)⟩
              have hxm : x ∈ exs A1 A2 A3 A4 A5 A6 c1 c2 c3 c4 c5 c6 := by rw [← HXS.out]; exact List.mem_of_getElem? hx
              obtain ⟨hx1, hx2, hx3, hx4, hx5⟩ := HOK.out x hxm
              have hRx := HSA.out _ hSix.out x hxm
              have at_ := fun j hj => (hT.out.cell (k * 16 + j)).trans (arrE_at XS k j x hj hx)
              have e0 : wr.cell? ⟨v6.heap.size, k * 16, none⟩ = some (.int .i64 x.off) := at_ 0 (by decide)
              have e1 : wr.cell? ⟨v6.heap.size, k * 16 + 1, none⟩ = some (.int .i64 x.kind) := at_ 1 (by decide)
              have e2 : wr.cell? ⟨v6.heap.size, k * 16 + 2, none⟩ = some (.int .i64 x.save) := at_ 2 (by decide)
              have e3 : wr.cell? ⟨v6.heap.size, k * 16 + 3, none⟩ = some (.string ⟨#[]⟩) := at_ 3 (by decide)
              have e4 : wr.cell? ⟨v6.heap.size, k * 16 + 4, none⟩ = some (.string ⟨#[]⟩) := at_ 4 (by decide)
              have e5 : wr.cell? ⟨v6.heap.size, k * 16 + 5, none⟩ = some (.bool false) := at_ 5 (by decide)
              have e6 : wr.cell? ⟨v6.heap.size, k * 16 + 6, none⟩ = some (.int .i64 0) := at_ 6 (by decide)
              have e7 : wr.cell? ⟨v6.heap.size, k * 16 + 7, none⟩ = some (.int .i64 0) := at_ 7 (by decide)
              have e8 : wr.cell? ⟨v6.heap.size, k * 16 + 8, none⟩ = some (.int .i64 0) := at_ 8 (by decide)
              have e9 : wr.cell? ⟨v6.heap.size, k * 16 + 9, none⟩ = some (.int .i64 0) := at_ 9 (by decide)
              have e10 : wr.cell? ⟨v6.heap.size, k * 16 + 10, none⟩ = some (.int .i64 0) := at_ 10 (by decide)
              have e11 : wr.cell? ⟨v6.heap.size, k * 16 + 11, none⟩ = some (.int .i64 0) := at_ 11 (by decide)
              have e12 : wr.cell? ⟨v6.heap.size, k * 16 + 12, none⟩ = some (.int .i64 0) := at_ 12 (by decide)
              have e13 : wr.cell? ⟨v6.heap.size, k * 16 + 13, none⟩ = some (.slice x.A x.L.length x.c) := at_ 13 (by decide)
              have e14 : wr.cell? ⟨v6.heap.size, k * 16 + 14, none⟩ = some (.string (str x.want)) := at_ 14 (by decide)
              have e15 : wr.cell? ⟨v6.heap.size, k * 16 + 15, none⟩ = some (.int .i64 x.err) := at_ 15 (by decide)
              have cE : Hid (∀ W, RulesIn W x.A x.L → Calls Tryd.prog 15 #[.agg #[.int .i64 x.off, .int .i64 x.kind, .int .i64 x.save, .string ⟨#[]⟩, .string ⟨#[]⟩, .bool false, .int .i64 0, .int .i64 0, .int .i64 0, .int .i64 0, .int .i64 0, .int .i64 0, .int .i64 0], .slice x.A x.L.length x.c] W fun e w' => e = .returned (.tuple #[.string (str x.want), .int .i64 x.err]) ∧ Below W.heap.size W w') := fun W h => by
                have q := expansion_any x.off x.kind x.save ⟨#[]⟩ ⟨#[]⟩ false 0 0 0 0 0 0 0 x.A x.L x.c W hx2 hx3 (by omega) hx5 h
                rw [hx1] at q; exact q
              have hki : (k : Int) < 8 := by omega
              obtain ⟨xo, xk, xs, xA, xc, xL, xw, xe⟩ := x
              simp only at e0 e1 e2 e13 e14 e15 cE hRx
              clear hx hxm hx1 hx2 hx3 hx4 hx5 at_
              generalize str xw = t at e14 cE
              generalize xL.length = xn at e13 cE
              have hX := Lib.hid (Blk.new wr 64 #[.int .i64 xo, .int .i64 xk, .int .i64 xs, .string ⟨#[]⟩, .string ⟨#[]⟩, .bool false, .int .i64 0, .int .i64 0, .int .i64 0, .int .i64 0, .int .i64 0, .int .i64 0, .int .i64 0, .slice xA xn xc, .string t, .int .i64 xe])
              have hal : Below wr.heap.size wr (wr.alloc (.cells #[.int .i64 xo, .int .i64 xk, .int .i64 xs, .string ⟨#[]⟩, .string ⟨#[]⟩, .bool false, .int .i64 0, .int .i64 0, .int .i64 0, .int .i64 0, .int .i64 0, .int .i64 0, .int .i64 0, .slice xA xn xc, .string t, .int .i64 xe] 64)) := (Below.refl _ _).alloc (Nat.le_refl _) _
              have hT1 := Lib.hid (hT.out.below hal hT.out.lt)
              have hS1 := Lib.hid (hSix.out.below hal)
              have hR1 := Lib.hid (hRx.below hal)
              have hb1 := Lib.hid (hb.trans (hal.mono hb.size))
              clear hT hSix hb hRx hal
              go_wp2_with fail
              refine (cE.out _ hR1.out).mono ?_
              rintro e w1 ⟨rfl, hc1⟩
              have hX1 := hX.out.below hc1 hX.out.lt
              have hT2 := Lib.hid (hT1.out.below hc1 hT1.out.lt)
              have hS2 := Lib.hid (hS1.out.below hc1)
              have hb2 := hb1.out.trans (hc1.mono hb1.out.size)
              have k1 : w1.cell? ⟨wr.heap.size, 14, none⟩ = some (.string t) := (hX1.cell 14).trans rfl
              have k2 : w1.cell? ⟨wr.heap.size, 15, none⟩ = some (.int .i64 xe) := (hX1.cell 15).trans rfl
              clear hX hX1 hT1 hS1 hR1 hb1 hc1 cE e0 e1 e2 e3 e4 e5 e6 e7 e8 e9 e10 e11 e12 e13 e14 e15
              go_wp2_with fail
              go_roundw
              case rel => first | exact ⟨k + 1, by omega, by go_num, hT2, hS2, hb2⟩ | ((repeat apply Exists.intro); exact ⟨⟨k + 1, by omega, by go_num, hT2, hS2, hb2⟩, rfl⟩)
              case measure => simp [intOf]; omega
            · obtain rfl : k = 8 := by omega
              clear hT hSix
              go_wp2_with fail
              go_ret
              exact ⟨rfl, hb⟩
end Go.Proofs.YtmgmgdjddimgmaaDoor
