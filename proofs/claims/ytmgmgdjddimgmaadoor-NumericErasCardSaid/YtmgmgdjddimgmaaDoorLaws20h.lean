/- The walk of the law NumericEras (chapter 20). -/
import Derived.Test.YtmgmgdjddimgmaaDoorPlain20g
import Derived.Test.YtmgmgdjddimgmaaDoorLaws20b
import Derived.BigRegion
import Derived.Deep.RegionHeld3
import Derived.Deep.DeepCutAuto
import Derived.Deep.CutBlock
import Derived.Deep.AppendLies
namespace Go.Proofs.YtmgmgdjddimgmaaDoor
open Go.RowKit
set_option linter.unusedVariables false

/-- a slice that came in reads as these bits -/
def BoolsIn (w : World) (A : Option Addr) (L : List Bool) : Prop :=
  ∀ k b, L[k]? = some b → ∃ g o, A = some ⟨g, o, none⟩ ∧ g < w.heap.size ∧ w.cell? ⟨g, o + k, none⟩ = some (.bool b)
theorem BoolsIn.below {w w' : World} {A : Option Addr} {L : List Bool} (h : BoolsIn w A L) (hb : Below w.heap.size w w') : BoolsIn w' A L := by
  intro k b hk
  obtain ⟨g, o, hA, hlt, hc⟩ := h k b hk
  exact ⟨g, o, hA, Nat.lt_of_lt_of_le hlt hb.size, (hb.cell (p := ⟨g, o + k, none⟩) hlt).trans hc⟩
/-- a row of the call's own that reads as rules, empty or not -/
theorem rules_own {w : World} {base n : Nat} {v : Value} {L : List RV} (h : w.ownsRow base 48 11 v n (rcells L)) (hn : n = L.length) : ∃ A c, v = .slice A L.length c ∧ RulesIn w A L := by
  by_cases h0 : 0 < n
  · exact rules_of_own h hn h0
  · have hl : L = [] := List.eq_nil_of_length_eq_zero (by omega)
    subst hl
    rcases h.2 with ⟨hv, _⟩ | ⟨g, cap, cur, hv, _⟩
    · exact ⟨none, 0, hv, RulesIn.nil w none⟩
    · exact ⟨some ⟨g, 0, none⟩, cap, by rw [hv, hn], RulesIn.nil w _⟩

theorem eras_call (x kd y : Int) (WT : List UInt8) (x0 : -9223372036854775808 ≤ x) (x1 : x ≤ 9223372036854775807) (y0 : -9223372036854775808 ≤ y) (y1 : y ≤ 9223372036854775807) (A' : Option Addr) (c' n : Nat) (M : List Bool) (W : World) (hn : n = M.length) (hn2 : n ≤ 13) (he : P20.expansion kd x y (bsv y M) = (WT, 0)) (h : RulesIn W A' (bru y M)) :
    Calls Tryd.prog 15 #[.agg #[.int .i64 x, .int .i64 kd, .int .i64 y, .string ⟨#[]⟩, .string ⟨#[]⟩, .bool false, .int .i64 0, .int .i64 0, .int .i64 0, .int .i64 0, .int .i64 0, .int .i64 0, .int .i64 0], .slice A' n c'] W fun e w' => e = .returned (.tuple #[.string (str WT), .int .i64 0]) ∧ Below W.heap.size W w' := by
  have q := expansion_any x kd y ⟨#[]⟩ ⟨#[]⟩ false 0 0 0 0 0 0 0 A' (bru y M) c' W ⟨x0, x1⟩ ⟨y0, y1⟩ (by rw [bru_len]; omega) (by
    unfold SvOk
    rw [svs_bru]
    intro z hz
    obtain ⟨b, _, rfl⟩ := List.mem_map.1 hz
    cases b with
    | true => exact ⟨y0, y1⟩
    | false => exact ⟨by simp, by simp⟩) h
  rw [svs_bru, he, bru_len, ← hn] at q
  exact q

theorem rulesQ {w : World} {base n : Nat} {A : Option Addr} {c : Nat} {y : Int} {M : List Bool} {xs : List Value} (h : w.ownsRow base 48 11 (.slice A n c) n xs) (hx : rcells (bru y M) = xs) (hn : n = M.length) : RulesIn w A (bru y M) := by
  obtain ⟨A', c', hv, hR⟩ := rules_own (L := bru y M) (by rw [hx]; exact h) (by rw [bru_len]; exact hn)
  injection hv with h1 _ _
  rw [h1]; exact hR
/-- a rule of a row is turned -/
def putQ (w : World) (B k : Nat) (s : Int) : World := (((((((((((w.setCell ⟨B, k * 11, none⟩ (.string ⟨#[]⟩)).setCell ⟨B, k * 11 + 1, none⟩ (.int .i64 0)).setCell ⟨B, k * 11 + 2, none⟩ (.int .i64 0)).setCell ⟨B, k * 11 + 3, none⟩ (.int .i64 0)).setCell ⟨B, k * 11 + 4, none⟩ (.int .i64 0)).setCell ⟨B, k * 11 + 5, none⟩ (.int .i64 0)).setCell ⟨B, k * 11 + 6, none⟩ (.int .i64 0)).setCell ⟨B, k * 11 + 7, none⟩ (.int .i64 0)).setCell ⟨B, k * 11 + 8, none⟩ (.int .i64 0)).setCell ⟨B, k * 11 + 9, none⟩ (.int .i64 s)).setCell ⟨B, k * 11 + 10, none⟩ (.string ⟨#[]⟩))
theorem putQ_own {w : World} {base n cap B : Nat} {L : List RV} (h : w.ownsRow base 48 11 (.slice (some ⟨B, 0, none⟩) n cap) n (rcells L)) (k : Nat) (hk : k < L.length) (s : Int) : (putQ w B k s).ownsRow base 48 11 (.slice (some ⟨B, 0, none⟩) n cap) n (rcells (L.set k (mkQ s))) := by
  have q := (((((((((((h.stored (k * 11) (.string ⟨#[]⟩)).1.stored (k * 11 + 1) (.int .i64 0)).1.stored (k * 11 + 2) (.int .i64 0)).1.stored (k * 11 + 3) (.int .i64 0)).1.stored (k * 11 + 4) (.int .i64 0)).1.stored (k * 11 + 5) (.int .i64 0)).1.stored (k * 11 + 6) (.int .i64 0)).1.stored (k * 11 + 7) (.int .i64 0)).1.stored (k * 11 + 8) (.int .i64 0)).1.stored (k * 11 + 9) (.int .i64 s)).1.stored (k * 11 + 10) (.string ⟨#[]⟩)).1
  rw [rcells_set (mkQ s) L k hk (.string ⟨#[]⟩) (.int .i64 0) (.int .i64 0) (.int .i64 0) (.int .i64 0) (.int .i64 0) (.int .i64 0) (.int .i64 0) (.int .i64 0) (.int .i64 s) (.string ⟨#[]⟩) rfl] at q
  exact q
theorem putQ_far {w : World} {B g : Nat} {t : TypeId} {cs : Array Value} (h : Blk w g t cs) (hg : g ≠ B) (k : Nat) (s : Int) : Blk (putQ w B k s) g t cs := (((((((((((h.far (p := ⟨B, k * 11, none⟩) hg (.string ⟨#[]⟩)).far (p := ⟨B, k * 11 + 1, none⟩) hg (.int .i64 0)).far (p := ⟨B, k * 11 + 2, none⟩) hg (.int .i64 0)).far (p := ⟨B, k * 11 + 3, none⟩) hg (.int .i64 0)).far (p := ⟨B, k * 11 + 4, none⟩) hg (.int .i64 0)).far (p := ⟨B, k * 11 + 5, none⟩) hg (.int .i64 0)).far (p := ⟨B, k * 11 + 6, none⟩) hg (.int .i64 0)).far (p := ⟨B, k * 11 + 7, none⟩) hg (.int .i64 0)).far (p := ⟨B, k * 11 + 8, none⟩) hg (.int .i64 0)).far (p := ⟨B, k * 11 + 9, none⟩) hg (.int .i64 s)).far (p := ⟨B, k * 11 + 10, none⟩) hg (.string ⟨#[]⟩))
theorem putQ_below {w a : World} {B b : Nat} (h : Below b a w) (hg : b ≤ B) (k : Nat) (s : Int) : Below b a (putQ w B k s) := (((((((((((h.setCell (p := ⟨B, k * 11, none⟩) hg (.string ⟨#[]⟩)).setCell (p := ⟨B, k * 11 + 1, none⟩) hg (.int .i64 0)).setCell (p := ⟨B, k * 11 + 2, none⟩) hg (.int .i64 0)).setCell (p := ⟨B, k * 11 + 3, none⟩) hg (.int .i64 0)).setCell (p := ⟨B, k * 11 + 4, none⟩) hg (.int .i64 0)).setCell (p := ⟨B, k * 11 + 5, none⟩) hg (.int .i64 0)).setCell (p := ⟨B, k * 11 + 6, none⟩) hg (.int .i64 0)).setCell (p := ⟨B, k * 11 + 7, none⟩) hg (.int .i64 0)).setCell (p := ⟨B, k * 11 + 8, none⟩) hg (.int .i64 0)).setCell (p := ⟨B, k * 11 + 9, none⟩) hg (.int .i64 s)).setCell (p := ⟨B, k * 11 + 10, none⟩) hg (.string ⟨#[]⟩))
/-- the cells of the era, in the world at hand -/
theorem sE {w W : World} {g : Nat} {x z y : Int} (h : Blk W g 35 #[.int .i64 x, .int .i64 z, .int .i64 y, .string ⟨#[]⟩, .string ⟨#[]⟩, .bool false, .int .i64 0, .int .i64 0, .int .i64 0, .int .i64 0, .int .i64 0, .int .i64 0, .int .i64 0]) (hb : Below w.heap.size w W) : W.cell? ⟨g, 0, none⟩ = some (.int .i64 x) ∧ W.cell? ⟨g, 1, none⟩ = some (.int .i64 z) ∧ W.cell? ⟨g, 2, none⟩ = some (.int .i64 y) ∧ W.cell? ⟨g, 3, none⟩ = some (.string ⟨#[]⟩) ∧ W.cell? ⟨g, 4, none⟩ = some (.string ⟨#[]⟩) ∧ W.cell? ⟨g, 5, none⟩ = some (.bool false) ∧ W.cell? ⟨g, 6, none⟩ = some (.int .i64 0) ∧ W.cell? ⟨g, 7, none⟩ = some (.int .i64 0) ∧ W.cell? ⟨g, 8, none⟩ = some (.int .i64 0) ∧ W.cell? ⟨g, 9, none⟩ = some (.int .i64 0) ∧ W.cell? ⟨g, 10, none⟩ = some (.int .i64 0) ∧ W.cell? ⟨g, 11, none⟩ = some (.int .i64 0) ∧ W.cell? ⟨g, 12, none⟩ = some (.int .i64 0) ∧ Blk W g 35 #[.int .i64 x, .int .i64 z, .int .i64 y, .string ⟨#[]⟩, .string ⟨#[]⟩, .bool false, .int .i64 0, .int .i64 0, .int .i64 0, .int .i64 0, .int .i64 0, .int .i64 0, .int .i64 0] ∧ Below w.heap.size w W :=
  ⟨(h.cell 0).trans rfl, (h.cell 1).trans rfl, (h.cell 2).trans rfl, (h.cell 3).trans rfl, (h.cell 4).trans rfl, (h.cell 5).trans rfl, (h.cell 6).trans rfl, (h.cell 7).trans rfl, (h.cell 8).trans rfl, (h.cell 9).trans rfl, (h.cell 10).trans rfl, (h.cell 11).trans rfl, (h.cell 12).trans rfl, h, hb⟩
theorem blkE_drew {w : World} {g : Nat} {t : TypeId} {cs : Array Value} (h : Blk w g t cs) : Blk w.drew g t cs := h
theorem own_drew {w : World} {base n size : Nat} {e : TypeId} {v : Value} {xs : List Value} (h : w.ownsRow base e size v n xs) : w.drew.ownsRow base e size v n xs := h

set_option maxRecDepth 1000000 in
set_option maxHeartbeats 20000000 in
theorem walkNumericEras (m n q : Int) (A : Option Addr) (c : Nat) (L : List Bool) (w : World) (hm : (Lit.int .i32 m).wf = true) (hn : (Lit.int .i16 n).wf = true) (hq : (Lit.int .u8 q).wf = true) (hl : L.length ≤ maxLen) (hA : BoolsIn w A L) (hv : Vars w) :
    Calls Tryd.prog 7 #[.int .i32 m, .int .i16 n, .int .u8 q, .slice A L.length c] w fun e w' => e = .returned (.bool true) ∧ Below w.heap.size w w' := by
  unfold maxLen at hl
  have hm2 := bounds_i32 hm
  have hn2 := bounds_i16 hn
  have hq2 := bounds_u8 hq
  clear hm hn hq
  obtain ⟨x, hx⟩ : ∃ x, m.tmod 54001 = x := ⟨_, rfl⟩
  obtain ⟨y, hy⟩ : ∃ y, n.tmod 10801 = y := ⟨_, rfl⟩
  have bx := tmod_bd2 m 54001 (by decide)
  have bY := tmod_bd2 n 10801 (by decide)
  rw [hx] at bx
  rw [hy] at bY
  obtain ⟨hm0, hm1⟩ := hm2
  obtain ⟨hn0, hn1⟩ := hn2
  obtain ⟨hq0, hq1⟩ := hq2
  obtain ⟨x0, x1⟩ := bx
  obtain ⟨y0, y1⟩ := bY
  by_cases h12 : 12 < L.length
  · have hli : (12 : Int) < (L.length : Int) := by omega
    clear hA
    go_enter Tryd.func7, Tryd.ntmps7
    go_wp2_with fail
    refine (works20_any _ hv).mono ?_
    rintro e w1 ⟨rfl, hc⟩
    go_wp2_with fail
    go_ret
    exact ⟨rfl, hc⟩
  · have hli : (L.length : Int) ≤ 12 := by omega
    have HA := Lib.hid hA
    have hE0 := Blk.new w 35 #[.int .i64 x, .int .i64 (q % 3), .int .i64 y, .string ⟨#[]⟩, .string ⟨#[]⟩, .bool false, .int .i64 0, .int .i64 0, .int .i64 0, .int .i64 0, .int .i64 0, .int .i64 0, .int .i64 0]
    have hb0 := (Below.refl w.heap.size w).alloc (Nat.le_refl _) (.cells #[.int .i64 x, .int .i64 (q % 3), .int .i64 y, .string ⟨#[]⟩, .string ⟨#[]⟩, .bool false, .int .i64 0, .int .i64 0, .int .i64 0, .int .i64 0, .int .i64 0, .int .i64 0, .int .i64 0] 35)
    clear hA
    go_enter Tryd.func7, Tryd.ntmps7
    go_wp2_with fail
    go_loopw [12, 13, 42] (fun v b i wr => ∃ k : Nat, k ≤ L.length ∧ i = .int .i64 k ∧ b = .bool (bany y (L.take k)) ∧ wr.ownsRow (w.heap.size + 1) 48 11 v k (rcells (bru y (L.take k))) ∧ Blk wr w.heap.size 35 #[.int .i64 x, .int .i64 (q % 3), .int .i64 y, .string ⟨#[]⟩, .string ⟨#[]⟩, .bool false, .int .i64 0, .int .i64 0, .int .i64 0, .int .i64 0, .int .i64 0, .int .i64 0, .int .i64 0] ∧ Below w.heap.size w wr) (fun _ _ i _ => L.length - (intOf i).toNat)
    case atStart => exact ⟨0, Nat.zero_le _, rfl, by rw [List.take_zero]; simp [bany], ⟨rfl, .inl ⟨rfl, rfl⟩⟩, hE0, hb0⟩
    case round =>
      clear hE0 hb0
      obtain ⟨k, hk, rfl, rfl, hO, hE, hb⟩ := hrel
      by_cases hlt : k < L.length
      · obtain ⟨s, hs⟩ : ∃ s, L[k]? = some s := ⟨_, List.getElem?_eq_getElem hlt⟩
        obtain ⟨g, o, rfl, hg, c0⟩ := (HA.out.below hb) k s hs
        have hki : (k : Int) < (L.length : Int) := by omega
        have HS : Hid (rcells (bru y (L.take (k + 1))) = rcells (bru y (L.take k)) ++ (mkQ (bif s then y else 0)).cells) := Lib.hid (bru_take y L k s hs)
        have HT := Lib.hid (bany_take y L k s hs)
        have HT0 : Hid (bany y (L.take k) = true → y ≠ 0) := Lib.hid (bany_ne y _)
        generalize bany y (L.take k) = b at HT HT0 ⊢
        clear hs
        cases s with
        | true =>
          by_cases hy0 : y = 0
          · have HYd : Hid (decide (y ≠ 0) = false) := Lib.hid (by simp [hy0])
            have hyb : (y != 0) = false := by simp [hy0]
            clear hy0
            cases b with
            | true => exact absurd (HT0.out rfl) (by have := HYd.out; simpa using this)
            | false =>
              have hNB : Hid (Blk ((wr.alloc (.cells #[.string ⟨#[]⟩, .int .i64 0, .int .i64 0, .int .i64 0, .int .i64 0, .int .i64 0, .int .i64 0, .int .i64 0, .int .i64 0, .int .i64 y, .string ⟨#[]⟩] 48)).alloc (.cells #[.string ⟨#[]⟩, .int .i64 0, .int .i64 0, .int .i64 0, .int .i64 0, .int .i64 0, .int .i64 0, .int .i64 0, .int .i64 0, .int .i64 y, .string ⟨#[]⟩] 48)) (wr.heap.size + 1) 48 #[.string ⟨#[]⟩, .int .i64 0, .int .i64 0, .int .i64 0, .int .i64 0, .int .i64 0, .int .i64 0, .int .i64 0, .int .i64 0, .int .i64 y, .string ⟨#[]⟩]) := Lib.hid (Blk.newAt (wr.alloc (.cells #[.string ⟨#[]⟩, .int .i64 0, .int .i64 0, .int .i64 0, .int .i64 0, .int .i64 0, .int .i64 0, .int .i64 0, .int .i64 0, .int .i64 y, .string ⟨#[]⟩] 48)) (wr.heap.size + 1) (by simp) _ _)
              have HO := Lib.hid ((hO.alloc (.cells #[.string ⟨#[]⟩, .int .i64 0, .int .i64 0, .int .i64 0, .int .i64 0, .int .i64 0, .int .i64 0, .int .i64 0, .int .i64 0, .int .i64 y, .string ⟨#[]⟩] 48)).alloc (.cells #[.string ⟨#[]⟩, .int .i64 0, .int .i64 0, .int .i64 0, .int .i64 0, .int .i64 0, .int .i64 0, .int .i64 0, .int .i64 0, .int .i64 y, .string ⟨#[]⟩] 48))
              have HE := Lib.hid ((hE.alloc (.cells #[.string ⟨#[]⟩, .int .i64 0, .int .i64 0, .int .i64 0, .int .i64 0, .int .i64 0, .int .i64 0, .int .i64 0, .int .i64 0, .int .i64 y, .string ⟨#[]⟩] 48)).alloc (.cells #[.string ⟨#[]⟩, .int .i64 0, .int .i64 0, .int .i64 0, .int .i64 0, .int .i64 0, .int .i64 0, .int .i64 0, .int .i64 0, .int .i64 y, .string ⟨#[]⟩] 48))
              have HB0 := hb.alloc hb.size (.cells #[.string ⟨#[]⟩, .int .i64 0, .int .i64 0, .int .i64 0, .int .i64 0, .int .i64 0, .int .i64 0, .int .i64 0, .int .i64 0, .int .i64 y, .string ⟨#[]⟩] 48)
              have HB := Lib.hid (HB0.alloc HB0.size (.cells #[.string ⟨#[]⟩, .int .i64 0, .int .i64 0, .int .i64 0, .int .i64 0, .int .i64 0, .int .i64 0, .int .i64 0, .int .i64 0, .int .i64 y, .string ⟨#[]⟩] 48))
              have HK := Lib.hid (show k ≤ 11 by omega)
              have HLT : Hid (w.heap.size + 1 ≤ ((wr.alloc (.cells #[.string ⟨#[]⟩, .int .i64 0, .int .i64 0, .int .i64 0, .int .i64 0, .int .i64 0, .int .i64 0, .int .i64 0, .int .i64 0, .int .i64 y, .string ⟨#[]⟩] 48)).alloc (.cells #[.string ⟨#[]⟩, .int .i64 0, .int .i64 0, .int .i64 0, .int .i64 0, .int .i64 0, .int .i64 0, .int .i64 0, .int .i64 0, .int .i64 y, .string ⟨#[]⟩] 48)).heap.size) := Lib.hid (by have := hE.lt; simp; omega)
              obtain ⟨i0, hi, hz0, hz1, hz2⟩ := info_parts infoRule
              clear hO hE hb HB0
              go_wp2_with (at_builtin; refine wpList_append_own _ rfl _ _ 36 rfl (w.heap.size + 1) 48 i0 _ 11 104 Tryd.underlying36 hi hz0 hz1 hz2 rfl (by decide) _ _ _ rfl HO.out ⟨wr.heap.size + 1, 0, none⟩ 1 1 (mkQ y).cells rfl rfl (blk_cells hNB.out) (by simp [mkQ, RV.cells, Value.oneCell']) (by have := HK.out; simp only [maxLen]; omega) (by have := HK.out; omega) HLT.out ?_)
              intro v1 wa hown hgr hne
              have hb3 := own_grown HB.out HO.out hgr HB.out.size (Nat.le_succ _)
              have hE3 := blk_grown HE.out HO.out hgr (Nat.lt_succ_self _)
              have hown2 : wa.ownsRow (w.heap.size + 1) 48 11 v1 (k + 1) (rcells (bru y (L.take (k + 1)))) := by rw [HS.out]; exact hown
              clear hgr hne HO HE HB hNB HS HLT hown
              go_wp2_with fail
              go_roundw
              case rel => exact ⟨k + 1, by omega, by go_num, by rw [HT.out]; rw [HYd.out]; rfl, hown2, hE3, hb3⟩
              case measure => simp [intOf]; omega
          · have HYd : Hid (decide (y ≠ 0) = true) := Lib.hid (by simp [hy0])
            have hyb : (y != 0) = true := by simpa using hy0
            clear hy0
            cases b with
            | true =>
              have hNB : Hid (Blk ((wr.alloc (.cells #[.string ⟨#[]⟩, .int .i64 0, .int .i64 0, .int .i64 0, .int .i64 0, .int .i64 0, .int .i64 0, .int .i64 0, .int .i64 0, .int .i64 y, .string ⟨#[]⟩] 48)).alloc (.cells #[.string ⟨#[]⟩, .int .i64 0, .int .i64 0, .int .i64 0, .int .i64 0, .int .i64 0, .int .i64 0, .int .i64 0, .int .i64 0, .int .i64 y, .string ⟨#[]⟩] 48)) (wr.heap.size + 1) 48 #[.string ⟨#[]⟩, .int .i64 0, .int .i64 0, .int .i64 0, .int .i64 0, .int .i64 0, .int .i64 0, .int .i64 0, .int .i64 0, .int .i64 y, .string ⟨#[]⟩]) := Lib.hid (Blk.newAt (wr.alloc (.cells #[.string ⟨#[]⟩, .int .i64 0, .int .i64 0, .int .i64 0, .int .i64 0, .int .i64 0, .int .i64 0, .int .i64 0, .int .i64 0, .int .i64 y, .string ⟨#[]⟩] 48)) (wr.heap.size + 1) (by simp) _ _)
              have HO := Lib.hid ((hO.alloc (.cells #[.string ⟨#[]⟩, .int .i64 0, .int .i64 0, .int .i64 0, .int .i64 0, .int .i64 0, .int .i64 0, .int .i64 0, .int .i64 0, .int .i64 y, .string ⟨#[]⟩] 48)).alloc (.cells #[.string ⟨#[]⟩, .int .i64 0, .int .i64 0, .int .i64 0, .int .i64 0, .int .i64 0, .int .i64 0, .int .i64 0, .int .i64 0, .int .i64 y, .string ⟨#[]⟩] 48))
              have HE := Lib.hid ((hE.alloc (.cells #[.string ⟨#[]⟩, .int .i64 0, .int .i64 0, .int .i64 0, .int .i64 0, .int .i64 0, .int .i64 0, .int .i64 0, .int .i64 0, .int .i64 y, .string ⟨#[]⟩] 48)).alloc (.cells #[.string ⟨#[]⟩, .int .i64 0, .int .i64 0, .int .i64 0, .int .i64 0, .int .i64 0, .int .i64 0, .int .i64 0, .int .i64 0, .int .i64 y, .string ⟨#[]⟩] 48))
              have HB0 := hb.alloc hb.size (.cells #[.string ⟨#[]⟩, .int .i64 0, .int .i64 0, .int .i64 0, .int .i64 0, .int .i64 0, .int .i64 0, .int .i64 0, .int .i64 0, .int .i64 y, .string ⟨#[]⟩] 48)
              have HB := Lib.hid (HB0.alloc HB0.size (.cells #[.string ⟨#[]⟩, .int .i64 0, .int .i64 0, .int .i64 0, .int .i64 0, .int .i64 0, .int .i64 0, .int .i64 0, .int .i64 0, .int .i64 y, .string ⟨#[]⟩] 48))
              have HK := Lib.hid (show k ≤ 11 by omega)
              have HLT : Hid (w.heap.size + 1 ≤ ((wr.alloc (.cells #[.string ⟨#[]⟩, .int .i64 0, .int .i64 0, .int .i64 0, .int .i64 0, .int .i64 0, .int .i64 0, .int .i64 0, .int .i64 0, .int .i64 y, .string ⟨#[]⟩] 48)).alloc (.cells #[.string ⟨#[]⟩, .int .i64 0, .int .i64 0, .int .i64 0, .int .i64 0, .int .i64 0, .int .i64 0, .int .i64 0, .int .i64 0, .int .i64 y, .string ⟨#[]⟩] 48)).heap.size) := Lib.hid (by have := hE.lt; simp; omega)
              obtain ⟨i0, hi, hz0, hz1, hz2⟩ := info_parts infoRule
              clear hO hE hb HB0
              go_wp2_with (at_builtin; refine wpList_append_own _ rfl _ _ 36 rfl (w.heap.size + 1) 48 i0 _ 11 104 Tryd.underlying36 hi hz0 hz1 hz2 rfl (by decide) _ _ _ rfl HO.out ⟨wr.heap.size + 1, 0, none⟩ 1 1 (mkQ y).cells rfl rfl (blk_cells hNB.out) (by simp [mkQ, RV.cells, Value.oneCell']) (by have := HK.out; simp only [maxLen]; omega) (by have := HK.out; omega) HLT.out ?_)
              intro v1 wa hown hgr hne
              have hb3 := own_grown HB.out HO.out hgr HB.out.size (Nat.le_succ _)
              have hE3 := blk_grown HE.out HO.out hgr (Nat.lt_succ_self _)
              have hown2 : wa.ownsRow (w.heap.size + 1) 48 11 v1 (k + 1) (rcells (bru y (L.take (k + 1)))) := by rw [HS.out]; exact hown
              clear hgr hne HO HE HB hNB HS HLT hown
              go_wp2_with fail
              go_roundw
              case rel => exact ⟨k + 1, by omega, by go_num, by rw [HT.out]; rw [HYd.out]; rfl, hown2, hE3, hb3⟩
              case measure => simp [intOf]; omega
            | false =>
              have hNB : Hid (Blk ((wr.alloc (.cells #[.string ⟨#[]⟩, .int .i64 0, .int .i64 0, .int .i64 0, .int .i64 0, .int .i64 0, .int .i64 0, .int .i64 0, .int .i64 0, .int .i64 y, .string ⟨#[]⟩] 48)).alloc (.cells #[.string ⟨#[]⟩, .int .i64 0, .int .i64 0, .int .i64 0, .int .i64 0, .int .i64 0, .int .i64 0, .int .i64 0, .int .i64 0, .int .i64 y, .string ⟨#[]⟩] 48)) (wr.heap.size + 1) 48 #[.string ⟨#[]⟩, .int .i64 0, .int .i64 0, .int .i64 0, .int .i64 0, .int .i64 0, .int .i64 0, .int .i64 0, .int .i64 0, .int .i64 y, .string ⟨#[]⟩]) := Lib.hid (Blk.newAt (wr.alloc (.cells #[.string ⟨#[]⟩, .int .i64 0, .int .i64 0, .int .i64 0, .int .i64 0, .int .i64 0, .int .i64 0, .int .i64 0, .int .i64 0, .int .i64 y, .string ⟨#[]⟩] 48)) (wr.heap.size + 1) (by simp) _ _)
              have HO := Lib.hid ((hO.alloc (.cells #[.string ⟨#[]⟩, .int .i64 0, .int .i64 0, .int .i64 0, .int .i64 0, .int .i64 0, .int .i64 0, .int .i64 0, .int .i64 0, .int .i64 y, .string ⟨#[]⟩] 48)).alloc (.cells #[.string ⟨#[]⟩, .int .i64 0, .int .i64 0, .int .i64 0, .int .i64 0, .int .i64 0, .int .i64 0, .int .i64 0, .int .i64 0, .int .i64 y, .string ⟨#[]⟩] 48))
              have HE := Lib.hid ((hE.alloc (.cells #[.string ⟨#[]⟩, .int .i64 0, .int .i64 0, .int .i64 0, .int .i64 0, .int .i64 0, .int .i64 0, .int .i64 0, .int .i64 0, .int .i64 y, .string ⟨#[]⟩] 48)).alloc (.cells #[.string ⟨#[]⟩, .int .i64 0, .int .i64 0, .int .i64 0, .int .i64 0, .int .i64 0, .int .i64 0, .int .i64 0, .int .i64 0, .int .i64 y, .string ⟨#[]⟩] 48))
              have HB0 := hb.alloc hb.size (.cells #[.string ⟨#[]⟩, .int .i64 0, .int .i64 0, .int .i64 0, .int .i64 0, .int .i64 0, .int .i64 0, .int .i64 0, .int .i64 0, .int .i64 y, .string ⟨#[]⟩] 48)
              have HB := Lib.hid (HB0.alloc HB0.size (.cells #[.string ⟨#[]⟩, .int .i64 0, .int .i64 0, .int .i64 0, .int .i64 0, .int .i64 0, .int .i64 0, .int .i64 0, .int .i64 0, .int .i64 y, .string ⟨#[]⟩] 48))
              have HK := Lib.hid (show k ≤ 11 by omega)
              have HLT : Hid (w.heap.size + 1 ≤ ((wr.alloc (.cells #[.string ⟨#[]⟩, .int .i64 0, .int .i64 0, .int .i64 0, .int .i64 0, .int .i64 0, .int .i64 0, .int .i64 0, .int .i64 0, .int .i64 y, .string ⟨#[]⟩] 48)).alloc (.cells #[.string ⟨#[]⟩, .int .i64 0, .int .i64 0, .int .i64 0, .int .i64 0, .int .i64 0, .int .i64 0, .int .i64 0, .int .i64 0, .int .i64 y, .string ⟨#[]⟩] 48)).heap.size) := Lib.hid (by have := hE.lt; simp; omega)
              obtain ⟨i0, hi, hz0, hz1, hz2⟩ := info_parts infoRule
              clear hO hE hb HB0
              go_wp2_with (at_builtin; refine wpList_append_own _ rfl _ _ 36 rfl (w.heap.size + 1) 48 i0 _ 11 104 Tryd.underlying36 hi hz0 hz1 hz2 rfl (by decide) _ _ _ rfl HO.out ⟨wr.heap.size + 1, 0, none⟩ 1 1 (mkQ y).cells rfl rfl (blk_cells hNB.out) (by simp [mkQ, RV.cells, Value.oneCell']) (by have := HK.out; simp only [maxLen]; omega) (by have := HK.out; omega) HLT.out ?_)
              intro v1 wa hown hgr hne
              have hb3 := own_grown HB.out HO.out hgr HB.out.size (Nat.le_succ _)
              have hE3 := blk_grown HE.out HO.out hgr (Nat.lt_succ_self _)
              have hown2 : wa.ownsRow (w.heap.size + 1) 48 11 v1 (k + 1) (rcells (bru y (L.take (k + 1)))) := by rw [HS.out]; exact hown
              clear hgr hne HO HE HB hNB HS HLT hown
              go_wp2_with fail
              go_roundw
              case rel => exact ⟨k + 1, by omega, by go_num, by rw [HT.out]; rw [HYd.out]; rfl, hown2, hE3, hb3⟩
              case measure => simp [intOf]; omega
        | false =>
          have hNB : Hid (Blk ((wr.alloc (.cells #[.string ⟨#[]⟩, .int .i64 0, .int .i64 0, .int .i64 0, .int .i64 0, .int .i64 0, .int .i64 0, .int .i64 0, .int .i64 0, .int .i64 0, .string ⟨#[]⟩] 48)).alloc (.cells #[.string ⟨#[]⟩, .int .i64 0, .int .i64 0, .int .i64 0, .int .i64 0, .int .i64 0, .int .i64 0, .int .i64 0, .int .i64 0, .int .i64 0, .string ⟨#[]⟩] 48)) (wr.heap.size + 1) 48 #[.string ⟨#[]⟩, .int .i64 0, .int .i64 0, .int .i64 0, .int .i64 0, .int .i64 0, .int .i64 0, .int .i64 0, .int .i64 0, .int .i64 0, .string ⟨#[]⟩]) := Lib.hid (Blk.newAt (wr.alloc (.cells #[.string ⟨#[]⟩, .int .i64 0, .int .i64 0, .int .i64 0, .int .i64 0, .int .i64 0, .int .i64 0, .int .i64 0, .int .i64 0, .int .i64 0, .string ⟨#[]⟩] 48)) (wr.heap.size + 1) (by simp) _ _)
          have HO := Lib.hid ((hO.alloc (.cells #[.string ⟨#[]⟩, .int .i64 0, .int .i64 0, .int .i64 0, .int .i64 0, .int .i64 0, .int .i64 0, .int .i64 0, .int .i64 0, .int .i64 0, .string ⟨#[]⟩] 48)).alloc (.cells #[.string ⟨#[]⟩, .int .i64 0, .int .i64 0, .int .i64 0, .int .i64 0, .int .i64 0, .int .i64 0, .int .i64 0, .int .i64 0, .int .i64 0, .string ⟨#[]⟩] 48))
          have HE := Lib.hid ((hE.alloc (.cells #[.string ⟨#[]⟩, .int .i64 0, .int .i64 0, .int .i64 0, .int .i64 0, .int .i64 0, .int .i64 0, .int .i64 0, .int .i64 0, .int .i64 0, .string ⟨#[]⟩] 48)).alloc (.cells #[.string ⟨#[]⟩, .int .i64 0, .int .i64 0, .int .i64 0, .int .i64 0, .int .i64 0, .int .i64 0, .int .i64 0, .int .i64 0, .int .i64 0, .string ⟨#[]⟩] 48))
          have HB0 := hb.alloc hb.size (.cells #[.string ⟨#[]⟩, .int .i64 0, .int .i64 0, .int .i64 0, .int .i64 0, .int .i64 0, .int .i64 0, .int .i64 0, .int .i64 0, .int .i64 0, .string ⟨#[]⟩] 48)
          have HB := Lib.hid (HB0.alloc HB0.size (.cells #[.string ⟨#[]⟩, .int .i64 0, .int .i64 0, .int .i64 0, .int .i64 0, .int .i64 0, .int .i64 0, .int .i64 0, .int .i64 0, .int .i64 0, .string ⟨#[]⟩] 48))
          have HK := Lib.hid (show k ≤ 11 by omega)
          have HLT : Hid (w.heap.size + 1 ≤ ((wr.alloc (.cells #[.string ⟨#[]⟩, .int .i64 0, .int .i64 0, .int .i64 0, .int .i64 0, .int .i64 0, .int .i64 0, .int .i64 0, .int .i64 0, .int .i64 0, .string ⟨#[]⟩] 48)).alloc (.cells #[.string ⟨#[]⟩, .int .i64 0, .int .i64 0, .int .i64 0, .int .i64 0, .int .i64 0, .int .i64 0, .int .i64 0, .int .i64 0, .int .i64 0, .string ⟨#[]⟩] 48)).heap.size) := Lib.hid (by have := hE.lt; simp; omega)
          obtain ⟨i0, hi, hz0, hz1, hz2⟩ := info_parts infoRule
          clear hO hE hb HB0
          go_wp2_with (at_builtin; refine wpList_append_own _ rfl _ _ 36 rfl (w.heap.size + 1) 48 i0 _ 11 104 Tryd.underlying36 hi hz0 hz1 hz2 rfl (by decide) _ _ _ rfl HO.out ⟨wr.heap.size + 1, 0, none⟩ 1 1 (mkQ 0).cells rfl rfl (blk_cells hNB.out) (by simp [mkQ, RV.cells, Value.oneCell']) (by have := HK.out; simp only [maxLen]; omega) (by have := HK.out; omega) HLT.out ?_)
          intro v1 wa hown hgr hne
          have hb3 := own_grown HB.out HO.out hgr HB.out.size (Nat.le_succ _)
          have hE3 := blk_grown HE.out HO.out hgr (Nat.lt_succ_self _)
          have hown2 : wa.ownsRow (w.heap.size + 1) 48 11 v1 (k + 1) (rcells (bru y (L.take (k + 1)))) := by rw [HS.out]; exact hown
          clear hgr hne HO HE HB hNB HS HLT hown
          go_wp2_with fail
          go_roundw
          case rel => exact ⟨k + 1, by omega, by go_num, by rw [HT.out]; simp, hown2, hE3, hb3⟩
          case measure => simp [intOf]; omega
      · obtain rfl : k = L.length := by omega
        have hki : ¬ (L.length : Int) < (L.length : Int) := by omega
        rw [List.take_length] at hO ⊢
        obtain ⟨A', c', rfl, hRl⟩ := rules_own hO (by rw [bru_len])
        rw [bru_len] at hO ⊢
        have cT1 := ntext_any x wr (by omega) (by omega)
        have HW := Lib.hid (eras_want (q % 3) x y L (by omega) (by omega) (by omega) (by omega) (by omega) (by omega))
        obtain ⟨WT, hWT⟩ : ∃ WT, wantB (q % 3) x y (bany y L) = WT := ⟨_, rfl⟩
        obtain ⟨BT, hBT⟩ : ∃ BT, bany y L = BT := ⟨_, rfl⟩
        rw [hBT] at hWT ⊢
        have HBT := Lib.hid hBT
        have HWT := Lib.hid hWT
        clear hWT hBT
        go_wp2_with fail
        refine cT1.mono ?_
        rintro e w1 ⟨rfl, hc⟩
        have hO1 := own_below hO hc
        have hR1 := hRl.below hc
        have hE1 := hE.below hc hE.lt
        have hb1 := hb.trans (hc.mono hb.size)
        clear hc hO hRl hE hb cT1
        go_upto_block 2 with (fail)
        go_cut [17] (fun s17 wx => s17 = .string (str WT) ∧ Below w1.heap.size w1 wx)
        case first =>
          have e0 := (hE1.cell 1).trans rfl
          clear hO1 hR1 hE1 hb1 HW
          by_cases hk1 : q % 3 = 1
          · obtain rfl : P20.text (x + y) = WT := by rw [← HWT.out]; unfold wantB; rw [if_pos hk1]
            have t1 : ((q % 3) == 1) = true := by simp [hk1]
            have cT2 := ntext_any (x + y) w1 (by omega) (by omega)
            clear hk1 HWT
            go_wp2_with fail
            refine cT2.mono ?_
            rintro e w2 ⟨rfl, hc⟩
            go_wp2_with fail
            go_meet
            exact ⟨rfl, hc⟩
          · have t1 : ((q % 3) == 1) = false := by simp [hk1]
            by_cases hk2 : q % 3 = 2
            · have t2 : ((q % 3) == 2) = true := by simp [hk2]
              clear HBT
              cases BT with
              | true =>
                obtain rfl : P20.text x ++ 47 :: P20.text (x + y) = WT := by rw [← HWT.out]; unfold wantB; rw [if_neg hk1, if_pos ⟨hk2, rfl⟩]
                have cT1 := ntext_any x w1 (by omega) (by omega)
                have l1 : (str (P20.text x)).size ≤ 7 := text_le x
                have l2 : (str (P20.text (x + y))).size ≤ 7 := text_le (x + y)
                have hst : Hid (str (P20.text x) ++ ⟨#[47]⟩ ++ str (P20.text (x + y)) = str (P20.text x ++ 47 :: P20.text (x + y))) := Lib.hid (by
                  rw [show (⟨#[47]⟩ : ByteArray) = str [47] from rfl, str_append, str_append, List.append_assoc]; rfl)
                clear hk1 hk2 HWT
                go_wp2_with fail
                refine cT1.mono ?_
                rintro e w2 ⟨rfl, hc⟩
                have cT2 := ntext_any (x + y) w2 (by omega) (by omega)
                go_wp2_with fail
                refine cT2.mono ?_
                rintro e w3 ⟨rfl, hc3⟩
                go_wp2_with fail
                go_meet
                exact ⟨by rw [← hst.out], hc.trans (hc3.mono hc.size)⟩
              | false =>
                obtain rfl : P20.text x = WT := by rw [← HWT.out]; unfold wantB; rw [if_neg hk1, if_neg (by simp)]
                clear hk1 hk2 HWT
                go_wp2_with fail
                go_meet
                exact ⟨rfl, Below.refl _ _⟩
            · have t2 : ((q % 3) == 2) = false := by simp [hk2]
              obtain rfl : P20.text x = WT := by rw [← HWT.out]; unfold wantB; rw [if_neg hk1, if_neg (fun h => hk2 h.1)]
              clear hk1 hk2 HWT
              go_wp2_with fail
              go_meet
              exact ⟨rfl, Below.refl _ _⟩
        case rest =>
          obtain ⟨rfl, hc⟩ := hcut
          have hO2 := own_below hO1 hc
          have hR2 := hR1.below hc
          have hE2 := hE1.below hc hE1.lt
          have hb2 := hb1.trans (hc.mono hb1.size)
          clear hc hO1 hR1 hE1 hb1
          have k0 := (hE2.cell 0).trans rfl
          have k1 := (hE2.cell 1).trans rfl
          have k2 := (hE2.cell 2).trans rfl
          have k3 := (hE2.cell 3).trans rfl
          have k4 := (hE2.cell 4).trans rfl
          have k5 := (hE2.cell 5).trans rfl
          have k6 := (hE2.cell 6).trans rfl
          have k7 := (hE2.cell 7).trans rfl
          have k8 := (hE2.cell 8).trans rfl
          have k9 := (hE2.cell 9).trans rfl
          have k10 := (hE2.cell 10).trans rfl
          have k11 := (hE2.cell 11).trans rfl
          have k12 := (hE2.cell 12).trans rfl
          have cE : Hid (∀ (A' : Option Addr) (c' n : Nat) (M : List Bool) (W : World), n = M.length → n ≤ 13 → P20.expansion (q % 3) x y (bsv y M) = (WT, 0) → RulesIn W A' (bru y M) → Calls Tryd.prog 15 #[.agg #[.int .i64 x, .int .i64 (q % 3), .int .i64 y, .string ⟨#[]⟩, .string ⟨#[]⟩, .bool false, .int .i64 0, .int .i64 0, .int .i64 0, .int .i64 0, .int .i64 0, .int .i64 0, .int .i64 0], .slice A' n c'] W fun e w' => e = .returned (.tuple #[.string (str WT), .int .i64 0]) ∧ Below W.heap.size W w') := Lib.hid (eras_call x (q % 3) y WT (by omega) (by omega) (by omega) (by omega))
          have HE1 : Hid (∀ M : List Bool, M.Perm L → P20.expansion (q % 3) x y (bsv y M) = (WT, 0)) := Lib.hid (fun M hM => by
            rw [eras_want (q % 3) x y M (by omega) (by omega) (by omega) (by omega) (by omega) (by omega), bany_perm hM, HBT.out, HWT.out])
          have cE1 := cE.out A' c' L.length L _ rfl (by omega) (HE1.out L (List.Perm.refl _)) hR2
          clear HW hR2
          go_wp2_with fail
          refine cE1.mono ?_
          rintro e w2 ⟨rfl, hc⟩
          have hO3 := own_below hO2 hc
          have hE3 := hE2.below hc hE2.lt
          have hb3 := hb2.trans (hc.mono hb2.size)
          clear hc hO2 hE2 hb2 cE1 k0 k1 k2 k3 k4 k5 k6 k7 k8 k9 k10 k11 k12
          go_wp2_with fail
          go_loopw [20, 21] (fun i j wr => ∃ (k : Nat) (M : List Bool), k ≤ L.length ∧ i = .int .i64 k ∧ j = .int .i64 ((L.length : Int) - 1 - (k : Int)) ∧ M.Perm L ∧ wr.ownsRow (w.heap.size + 1) 48 11 (.slice A' L.length c') L.length (rcells (bru y M)) ∧ Blk wr w.heap.size 35 #[.int .i64 x, .int .i64 (q % 3), .int .i64 y, .string ⟨#[]⟩, .string ⟨#[]⟩, .bool false, .int .i64 0, .int .i64 0, .int .i64 0, .int .i64 0, .int .i64 0, .int .i64 0, .int .i64 0] ∧ Below w.heap.size w wr) (fun i _ _ => L.length - (intOf i).toNat)
          case atStart => exact ⟨0, L, Nat.zero_le _, rfl, by simp, List.Perm.refl _, hO3, hE3, hb3⟩
          case round =>
            clear hO3 hE3 hb3
            obtain ⟨k, M, hk, rfl, rfl, hM, hO, hE, hb⟩ := hrel
            have hMl := hM.length_eq
            by_cases hlt : (k : Int) < (L.length : Int) - 1 - (k : Int)
            · obtain ⟨B, cap, hv0, hB0, hBlt, hcap, hc0⟩ := own_form hO (by omega)
              injection hv0 with hA' _ hc'
              subst hA' hc'
              obtain ⟨jj, hjj⟩ : ∃ jj : Nat, (L.length : Int) - 1 - (k : Int) = (jj : Int) := ⟨L.length - 1 - k, by omega⟩
              obtain ⟨a, ha⟩ : ∃ a, M[k]? = some a := ⟨_, List.getElem?_eq_getElem (by omega)⟩
              obtain ⟨b, hb_⟩ : ∃ b, M[jj]? = some b := ⟨_, List.getElem?_eq_getElem (by omega)⟩
              have j1 : k < jj := by omega
              have j2 : jj < L.length := by omega
              rw [hjj] at hlt ⊢
              clear hc0
              obtain ⟨sa, hsa⟩ : ∃ sa, (bif a then y else 0) = sa := ⟨_, rfl⟩
              obtain ⟨sb, hsb⟩ : ∃ sb, (bif b then y else 0) = sb := ⟨_, rfl⟩
              have p0 : wr.cell? ⟨B, k * 11, none⟩ = some (.string ⟨#[]⟩) := (hO.cellAt (k * 11 + 0) (by omega)).trans ((flat_at cells_len (bru y M) k 0 _ (by decide) (bru_get y M k a ha)).trans (by rw [hsa]; rfl))
              have pf0 : wr.frozen? ⟨B, k * 11, none⟩ = false := hO.frozenAt _
              have p1 : wr.cell? ⟨B, k * 11 + 1, none⟩ = some (.int .i64 0) := (hO.cellAt (k * 11 + 1) (by omega)).trans ((flat_at cells_len (bru y M) k 1 _ (by decide) (bru_get y M k a ha)).trans (by rw [hsa]; rfl))
              have pf1 : wr.frozen? ⟨B, k * 11 + 1, none⟩ = false := hO.frozenAt _
              have p2 : wr.cell? ⟨B, k * 11 + 2, none⟩ = some (.int .i64 0) := (hO.cellAt (k * 11 + 2) (by omega)).trans ((flat_at cells_len (bru y M) k 2 _ (by decide) (bru_get y M k a ha)).trans (by rw [hsa]; rfl))
              have pf2 : wr.frozen? ⟨B, k * 11 + 2, none⟩ = false := hO.frozenAt _
              have p3 : wr.cell? ⟨B, k * 11 + 3, none⟩ = some (.int .i64 0) := (hO.cellAt (k * 11 + 3) (by omega)).trans ((flat_at cells_len (bru y M) k 3 _ (by decide) (bru_get y M k a ha)).trans (by rw [hsa]; rfl))
              have pf3 : wr.frozen? ⟨B, k * 11 + 3, none⟩ = false := hO.frozenAt _
              have p4 : wr.cell? ⟨B, k * 11 + 4, none⟩ = some (.int .i64 0) := (hO.cellAt (k * 11 + 4) (by omega)).trans ((flat_at cells_len (bru y M) k 4 _ (by decide) (bru_get y M k a ha)).trans (by rw [hsa]; rfl))
              have pf4 : wr.frozen? ⟨B, k * 11 + 4, none⟩ = false := hO.frozenAt _
              have p5 : wr.cell? ⟨B, k * 11 + 5, none⟩ = some (.int .i64 0) := (hO.cellAt (k * 11 + 5) (by omega)).trans ((flat_at cells_len (bru y M) k 5 _ (by decide) (bru_get y M k a ha)).trans (by rw [hsa]; rfl))
              have pf5 : wr.frozen? ⟨B, k * 11 + 5, none⟩ = false := hO.frozenAt _
              have p6 : wr.cell? ⟨B, k * 11 + 6, none⟩ = some (.int .i64 0) := (hO.cellAt (k * 11 + 6) (by omega)).trans ((flat_at cells_len (bru y M) k 6 _ (by decide) (bru_get y M k a ha)).trans (by rw [hsa]; rfl))
              have pf6 : wr.frozen? ⟨B, k * 11 + 6, none⟩ = false := hO.frozenAt _
              have p7 : wr.cell? ⟨B, k * 11 + 7, none⟩ = some (.int .i64 0) := (hO.cellAt (k * 11 + 7) (by omega)).trans ((flat_at cells_len (bru y M) k 7 _ (by decide) (bru_get y M k a ha)).trans (by rw [hsa]; rfl))
              have pf7 : wr.frozen? ⟨B, k * 11 + 7, none⟩ = false := hO.frozenAt _
              have p8 : wr.cell? ⟨B, k * 11 + 8, none⟩ = some (.int .i64 0) := (hO.cellAt (k * 11 + 8) (by omega)).trans ((flat_at cells_len (bru y M) k 8 _ (by decide) (bru_get y M k a ha)).trans (by rw [hsa]; rfl))
              have pf8 : wr.frozen? ⟨B, k * 11 + 8, none⟩ = false := hO.frozenAt _
              have p9 : wr.cell? ⟨B, k * 11 + 9, none⟩ = some (.int .i64 sa) := (hO.cellAt (k * 11 + 9) (by omega)).trans ((flat_at cells_len (bru y M) k 9 _ (by decide) (bru_get y M k a ha)).trans (by rw [hsa]; rfl))
              have pf9 : wr.frozen? ⟨B, k * 11 + 9, none⟩ = false := hO.frozenAt _
              have p10 : wr.cell? ⟨B, k * 11 + 10, none⟩ = some (.string ⟨#[]⟩) := (hO.cellAt (k * 11 + 10) (by omega)).trans ((flat_at cells_len (bru y M) k 10 _ (by decide) (bru_get y M k a ha)).trans (by rw [hsa]; rfl))
              have pf10 : wr.frozen? ⟨B, k * 11 + 10, none⟩ = false := hO.frozenAt _
              have r0 : wr.cell? ⟨B, jj * 11, none⟩ = some (.string ⟨#[]⟩) := (hO.cellAt (jj * 11 + 0) (by omega)).trans ((flat_at cells_len (bru y M) jj 0 _ (by decide) (bru_get y M jj b hb_)).trans (by rw [hsb]; rfl))
              have rf0 : wr.frozen? ⟨B, jj * 11, none⟩ = false := hO.frozenAt _
              have r1 : wr.cell? ⟨B, jj * 11 + 1, none⟩ = some (.int .i64 0) := (hO.cellAt (jj * 11 + 1) (by omega)).trans ((flat_at cells_len (bru y M) jj 1 _ (by decide) (bru_get y M jj b hb_)).trans (by rw [hsb]; rfl))
              have rf1 : wr.frozen? ⟨B, jj * 11 + 1, none⟩ = false := hO.frozenAt _
              have r2 : wr.cell? ⟨B, jj * 11 + 2, none⟩ = some (.int .i64 0) := (hO.cellAt (jj * 11 + 2) (by omega)).trans ((flat_at cells_len (bru y M) jj 2 _ (by decide) (bru_get y M jj b hb_)).trans (by rw [hsb]; rfl))
              have rf2 : wr.frozen? ⟨B, jj * 11 + 2, none⟩ = false := hO.frozenAt _
              have r3 : wr.cell? ⟨B, jj * 11 + 3, none⟩ = some (.int .i64 0) := (hO.cellAt (jj * 11 + 3) (by omega)).trans ((flat_at cells_len (bru y M) jj 3 _ (by decide) (bru_get y M jj b hb_)).trans (by rw [hsb]; rfl))
              have rf3 : wr.frozen? ⟨B, jj * 11 + 3, none⟩ = false := hO.frozenAt _
              have r4 : wr.cell? ⟨B, jj * 11 + 4, none⟩ = some (.int .i64 0) := (hO.cellAt (jj * 11 + 4) (by omega)).trans ((flat_at cells_len (bru y M) jj 4 _ (by decide) (bru_get y M jj b hb_)).trans (by rw [hsb]; rfl))
              have rf4 : wr.frozen? ⟨B, jj * 11 + 4, none⟩ = false := hO.frozenAt _
              have r5 : wr.cell? ⟨B, jj * 11 + 5, none⟩ = some (.int .i64 0) := (hO.cellAt (jj * 11 + 5) (by omega)).trans ((flat_at cells_len (bru y M) jj 5 _ (by decide) (bru_get y M jj b hb_)).trans (by rw [hsb]; rfl))
              have rf5 : wr.frozen? ⟨B, jj * 11 + 5, none⟩ = false := hO.frozenAt _
              have r6 : wr.cell? ⟨B, jj * 11 + 6, none⟩ = some (.int .i64 0) := (hO.cellAt (jj * 11 + 6) (by omega)).trans ((flat_at cells_len (bru y M) jj 6 _ (by decide) (bru_get y M jj b hb_)).trans (by rw [hsb]; rfl))
              have rf6 : wr.frozen? ⟨B, jj * 11 + 6, none⟩ = false := hO.frozenAt _
              have r7 : wr.cell? ⟨B, jj * 11 + 7, none⟩ = some (.int .i64 0) := (hO.cellAt (jj * 11 + 7) (by omega)).trans ((flat_at cells_len (bru y M) jj 7 _ (by decide) (bru_get y M jj b hb_)).trans (by rw [hsb]; rfl))
              have rf7 : wr.frozen? ⟨B, jj * 11 + 7, none⟩ = false := hO.frozenAt _
              have r8 : wr.cell? ⟨B, jj * 11 + 8, none⟩ = some (.int .i64 0) := (hO.cellAt (jj * 11 + 8) (by omega)).trans ((flat_at cells_len (bru y M) jj 8 _ (by decide) (bru_get y M jj b hb_)).trans (by rw [hsb]; rfl))
              have rf8 : wr.frozen? ⟨B, jj * 11 + 8, none⟩ = false := hO.frozenAt _
              have r9 : wr.cell? ⟨B, jj * 11 + 9, none⟩ = some (.int .i64 sb) := (hO.cellAt (jj * 11 + 9) (by omega)).trans ((flat_at cells_len (bru y M) jj 9 _ (by decide) (bru_get y M jj b hb_)).trans (by rw [hsb]; rfl))
              have rf9 : wr.frozen? ⟨B, jj * 11 + 9, none⟩ = false := hO.frozenAt _
              have r10 : wr.cell? ⟨B, jj * 11 + 10, none⟩ = some (.string ⟨#[]⟩) := (hO.cellAt (jj * 11 + 10) (by omega)).trans ((flat_at cells_len (bru y M) jj 10 _ (by decide) (bru_get y M jj b hb_)).trans (by rw [hsb]; rfl))
              have rf10 : wr.frozen? ⟨B, jj * 11 + 10, none⟩ = false := hO.frozenAt _
              have HH : Hid (M.length = L.length) := Lib.hid hMl
              have HJ := Lib.hid hjj
              have HA1 := Lib.hid ha; have HB1 := Lib.hid hb_; have HSA := Lib.hid hsa; have HSB := Lib.hid hsb; have HM := Lib.hid hM; have HO := Lib.hid hO; have HE := Lib.hid hE; have HB := Lib.hid hb
              have hki : (0 : Int) ≤ (k : Int) := by omega
              have hki2 : (k : Int) < (L.length : Int) := by omega
              have hji : (0 : Int) ≤ (jj : Int) := by omega
              have hji2 : (jj : Int) < (L.length : Int) := by omega
              clear hMl hjj ha hb_ hsa hsb hM hO hE hb
              go_wp2_with fail
              go_region
              obtain ⟨W, hW⟩ : ∃ W, W = (putQ (putQ wr B k sb) B jj sa).drew := ⟨_, rfl⟩
              have hO2 := own_drew (putQ_own (putQ_own HO.out k (by have := HH.out; rw [bru_len]; omega) sb) jj (by have := HH.out; rw [List.length_set, bru_len]; omega) sa)
              have hE2 := blkE_drew (putQ_far (putQ_far HE.out (show w.heap.size ≠ B by omega) k sb) (show w.heap.size ≠ B by omega) jj sa)
              have hb2 := (putQ_below (putQ_below HB.out (show w.heap.size ≤ B by omega) k sb) (show w.heap.size ≤ B by omega) jj sa).drew
              rw [← hW] at hO2 hE2 hb2
              unfold putQ at hW
              rw [← hW]
              rw [← HSA.out, ← HSB.out, bru_set, bru_set] at hO2
              have hp2 := (perm_swap M k jj a b HA1.out HB1.out).trans HM.out
              have HP := Lib.hid hp2
              clear hW HO HE HB HSA HSB HA1 HB1 HM HH hp2 p0 pf0 r0 rf0 p1 pf1 r1 rf1 p2 pf2 r2 rf2 p3 pf3 r3 rf3 p4 pf4 r4 rf4 p5 pf5 r5 rf5 p6 pf6 r6 rf6 p7 pf7 r7 rf7 p8 pf8 r8 rf8 p9 pf9 r9 rf9 p10 pf10 r10 rf10
              go_wp2_with fail
              go_roundw
              case rel => exact ⟨k + 1, (M.set k b).set jj a, by omega, by go_num, by have := HJ.out; congr 1; omega, HP.out, hO2, hE2, hb2⟩
              case measure => simp [intOf]; omega
            · have HX : Hid (P20.expansion (q % 3) x y (bsv y (M ++ [false])) = (WT, 0)) := Lib.hid (by
                rw [eras_want (q % 3) x y _ (by omega) (by omega) (by omega) (by omega) (by omega) (by omega), bany_snoc0, bany_perm hM, HBT.out, HWT.out])
              have HSN : Hid (rcells (bru y (M ++ [false])) = rcells (bru y M) ++ (mkQ 0).cells) := Lib.hid (bru_snoc y M false)
              have HLM : Hid (L.length + 1 = (M ++ [false]).length) := Lib.hid (by rw [List.length_append]; simp; omega)
              have HLB : Hid (w.heap.size + 1 ≤ wr.heap.size) := Lib.hid hE.lt
              have HL12 : Hid (L.length ≤ 12) := Lib.hid (by omega)
              have HO := Lib.hid hO; have HE := Lib.hid hE; have HB := Lib.hid hb
              have HS0 := Lib.hid (sE hE hb)
              obtain ⟨i0, hi, hz0, hz1, hz2⟩ := info_parts infoRule
              clear hO hE hb hM hMl hk cE HE1 HBT HWT
              go_wp2_with fail
              go_region_held3 (fun W => W.cell? ⟨w.heap.size, 0, none⟩ = some (.int .i64 x) ∧ W.cell? ⟨w.heap.size, 1, none⟩ = some (.int .i64 (q % 3)) ∧ W.cell? ⟨w.heap.size, 2, none⟩ = some (.int .i64 y) ∧ W.cell? ⟨w.heap.size, 3, none⟩ = some (.string ⟨#[]⟩) ∧ W.cell? ⟨w.heap.size, 4, none⟩ = some (.string ⟨#[]⟩) ∧ W.cell? ⟨w.heap.size, 5, none⟩ = some (.bool false) ∧ W.cell? ⟨w.heap.size, 6, none⟩ = some (.int .i64 0) ∧ W.cell? ⟨w.heap.size, 7, none⟩ = some (.int .i64 0) ∧ W.cell? ⟨w.heap.size, 8, none⟩ = some (.int .i64 0) ∧ W.cell? ⟨w.heap.size, 9, none⟩ = some (.int .i64 0) ∧ W.cell? ⟨w.heap.size, 10, none⟩ = some (.int .i64 0) ∧ W.cell? ⟨w.heap.size, 11, none⟩ = some (.int .i64 0) ∧ W.cell? ⟨w.heap.size, 12, none⟩ = some (.int .i64 0) ∧ Blk W w.heap.size 35 #[.int .i64 x, .int .i64 (q % 3), .int .i64 y, .string ⟨#[]⟩, .string ⟨#[]⟩, .bool false, .int .i64 0, .int .i64 0, .int .i64 0, .int .i64 0, .int .i64 0, .int .i64 0, .int .i64 0] ∧ Below w.heap.size w W) (first | exact sE hE3 hb3 | exact sE hE4 hb4 | exact sE (blkE_drew (HE.out.alloc _)) (HB.out.alloc HB.out.size _).drew | exact sE (blkE_drew HE.out) HB.out.drew | exact HS0.out | assumption)
                (first | (refine step_append_lies _ (by rfl) _ _ _ (by rfl) (w.heap.size + 1) 48 i0 _ 11 104 Tryd.underlying36 hi hz0 hz1 hz2 rfl (by omega) _ L.length (rcells (bru y M)) (by rfl) (own_drew (HO.out.alloc (.cells #[.string ⟨#[]⟩, .int .i64 0, .int .i64 0, .int .i64 0, .int .i64 0, .int .i64 0, .int .i64 0, .int .i64 0, .int .i64 0, .int .i64 0, .string ⟨#[]⟩] 48))) ⟨wr.heap.size, 0, none⟩ 1 1 (mkQ 0).cells (by rfl) (by rfl) (blk_cells (blkE_drew (Blk.new wr 48 #[.string ⟨#[]⟩, .int .i64 0, .int .i64 0, .int .i64 0, .int .i64 0, .int .i64 0, .int .i64 0, .int .i64 0, .int .i64 0, .int .i64 0, .string ⟨#[]⟩]))) (by simp [mkQ, RV.cells, Value.oneCell']) (by omega) (by have := HL12.out; simp only [maxLen]; omega) (by have := HL12.out; omega) (by have := HLB.out; simp; omega) (wr.heap.size + 1) (by simp) ?_; intro gg cap wa hown hgr hat hlt3; have hE3 := blk_grown (blkE_drew (HE.out.alloc (.cells #[.string ⟨#[]⟩, .int .i64 0, .int .i64 0, .int .i64 0, .int .i64 0, .int .i64 0, .int .i64 0, .int .i64 0, .int .i64 0, .int .i64 0, .string ⟨#[]⟩] 48))) (own_drew (HO.out.alloc (.cells #[.string ⟨#[]⟩, .int .i64 0, .int .i64 0, .int .i64 0, .int .i64 0, .int .i64 0, .int .i64 0, .int .i64 0, .int .i64 0, .int .i64 0, .string ⟨#[]⟩] 48))) hgr (Nat.lt_succ_self _); have hb3 := own_grown (HB.out.alloc HB.out.size (.cells #[.string ⟨#[]⟩, .int .i64 0, .int .i64 0, .int .i64 0, .int .i64 0, .int .i64 0, .int .i64 0, .int .i64 0, .int .i64 0, .int .i64 0, .string ⟨#[]⟩] 48)).drew (own_drew (HO.out.alloc (.cells #[.string ⟨#[]⟩, .int .i64 0, .int .i64 0, .int .i64 0, .int .i64 0, .int .i64 0, .int .i64 0, .int .i64 0, .int .i64 0, .int .i64 0, .string ⟨#[]⟩] 48))) hgr (HB.out.alloc HB.out.size (.cells #[.string ⟨#[]⟩, .int .i64 0, .int .i64 0, .int .i64 0, .int .i64 0, .int .i64 0, .int .i64 0, .int .i64 0, .int .i64 0, .int .i64 0, .string ⟨#[]⟩] 48)).drew.size (Nat.le_succ _)) | (go_at_call 15; refine (eras_call x (q % 3) y WT (by omega) (by omega) (by omega) (by omega) _ _ _ (M ++ [false]) _ HLM.out (by have := HL12.out; omega) HX.out (rulesQ hown HSN.out HLM.out)).mono ?_; rintro e w4 ⟨rfl, hd⟩; have hE4 := hE3.below hd hE3.lt; have hb4 := hb3.trans (hd.mono hb3.size)))
              all_goals
                clear HO HE HB HS0 HX HSN
                go_wp2_with fail
                refine (works20_any _ (hv.below hb4)).mono ?_
                rintro e w5 ⟨rfl, h5⟩
                go_wp2_with fail
                go_ret
                exact ⟨rfl, hb4.trans (h5.mono hb4.size)⟩
end Go.Proofs.YtmgmgdjddimgmaaDoor
