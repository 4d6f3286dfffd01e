/- The walks of numeric.Expansion and of the reference's Expansion (chapter 20). -/
import Derived.Test.YtmhciidliicheaaDoorNum20g
import Derived.Test.YtmhciidliicheaaDoorNum20e
import Derived.Deep.DeepCutAuto
import Derived.Deep.CutBlock
namespace Go.Proofs.YtmhciidliicheaaDoor
open Go.RowKit
set_option linter.unusedVariables false

theorem otherFrom_bd : ∀ (l : List Int) (x : Int), (-9223372036854775808 ≤ x ∧ x ≤ 9223372036854775807) → (∀ y ∈ l, -9223372036854775808 ≤ y ∧ y ≤ 9223372036854775807) → -9223372036854775808 ≤ (P20.otherFrom x l).1 ∧ (P20.otherFrom x l).1 ≤ 9223372036854775807
  | [], x, hx, _ => hx
  | r :: l, x, hx, h => by
    rw [P20.otherFrom]
    split
    · exact otherFrom_bd l x hx fun y hy => h y (List.mem_cons_of_mem _ hy)
    · split
      · exact ⟨by decide, by decide⟩
      · exact otherFrom_bd l r (h r (List.mem_cons_self ..)) fun y hy => h y (List.mem_cons_of_mem _ hy)
theorem other_bd (l : List Int) (h : ∀ y ∈ l, -9223372036854775808 ≤ y ∧ y ≤ 9223372036854775807) : -9223372036854775808 ≤ (P20.other l).1 ∧ (P20.other l).1 ≤ 9223372036854775807 := otherFrom_bd l 0 ⟨by decide, by decide⟩ h
/-- the saves are numbers of the machine -/
def SvOk (L : List RV) : Prop := ∀ y ∈ svs L, -9223372036854775808 ≤ y ∧ y ≤ 9223372036854775807
theorem exp_none (off save : Int) (l : List Int) : P20.expansion 0 off save l = P20.jFrom off [] [0] := by rw [jFrom_one, Int.add_zero]; rfl
theorem exp_fixed (off save : Int) (l : List Int) : P20.expansion 1 off save l = P20.jFrom off [] [save] := by rw [jFrom_one]; rfl
theorem exp_is (off save : Int) (l : List Int) (h : (P20.other l).2 = true) : P20.expansion 2 off save l = P20.jFrom off [] [0, (P20.other l).1] := by
  rw [jFrom_two, Int.add_zero]
  show (if (P20.other l).2 = true then _ else _) = _
  rw [if_pos h]
theorem exp_isnt (off save : Int) (l : List Int) (h : (P20.other l).2 = false) : P20.expansion 2 off save l = if l.any (fun r => decide (r ≠ 0)) then ([], 14) else P20.jFrom off [] [0] := by
  rw [jFrom_one, Int.add_zero]
  show (if (P20.other l).2 = true then _ else _) = _
  rw [if_neg (by rw [h]; decide)]
theorem exp_else (kind off save : Int) (l : List Int) (h : kind < 0 ∨ 2 < kind) : P20.expansion kind off save l = ([], 2) := by
  unfold P20.expansion
  rw [if_neg (by omega), if_neg (by omega), if_neg (by omega)]
theorem any_hit {L : List RV} {k : Nat} {r : RV} (h : L[k]? = some r) (hz : r.save ≠ 0) : (svs L).any (fun r => decide (r ≠ 0)) = true := by
  rw [List.any_eq_true]
  exact ⟨r.save, List.mem_map.2 ⟨r, List.mem_of_getElem? h, rfl⟩, decide_eq_true hz⟩
theorem any_no {L : List RV} (h : ∀ j r, j < L.length → L[j]? = some r → r.save = 0) : (svs L).any (fun r => decide (r ≠ 0)) = false := by
  rw [List.any_eq_false]
  intro y hy
  obtain ⟨r, hr, rfl⟩ := List.mem_map.1 hy
  obtain ⟨j, hj⟩ := List.mem_iff_getElem?.1 hr
  have := h j r (List.getElem?_eq_some_iff.mp hj).1 hj
  simpa using this
theorem ints_one {w : World} {B : Nat} {e : TypeId} {x : Int} (h : Blk w B e #[.int .i64 x]) : IntsIn w B [x] := ⟨h.lt, fun k y hy => by
  rw [h.cell k]
  match k, hy with
  | 0, hy => injection hy with hy; rw [← hy]; rfl⟩
theorem ints_two {w : World} {B : Nat} {e : TypeId} {x y : Int} (h : Blk w B e #[.int .i64 x, .int .i64 y]) : IntsIn w B [x, y] := ⟨h.lt, fun k z hz => by
  rw [h.cell k]
  match k, hz with
  | 0, hz => injection hz with hz; rw [← hz]; rfl
  | 1, hz => injection hz with hz; rw [← hz]; rfl⟩

set_option maxRecDepth 100000 in
set_option maxHeartbeats 8000000 in
theorem expansion_any (off kind save : Int) (set fmt : ByteArray) (ui : Bool) (uy um dk dw dd asec ab : Int) (A : Option Addr) (L : List RV) (c : Nat) (w : World) (o64 : -9223372036854775808 ≤ off ∧ off ≤ 9223372036854775807) (s64 : -9223372036854775808 ≤ save ∧ save ≤ 9223372036854775807) (hl : L.length ≤ 1000000) (hsv : SvOk L) (hR : RulesIn w A L) :
    Calls Tryd.prog 23 #[.agg #[.int .i64 off, .int .i64 kind, .int .i64 save, .string set, .string fmt, .bool ui, .int .i64 uy, .int .i64 um, .int .i64 dk, .int .i64 dw, .int .i64 dd, .int .i64 asec, .int .i64 ab], .slice A L.length c] w fun e w' => e = .returned (.tuple #[.string (str (P20.expansion kind off save (svs L)).1), .int .i64 (P20.expansion kind off save (svs L)).2]) ∧ Below w.heap.size w w' := by
  have hE := Blk.new w 33 #[.int .i64 off, .int .i64 kind, .int .i64 save, .string set, .string fmt, .bool ui, .int .i64 uy, .int .i64 um, .int .i64 dk, .int .i64 dw, .int .i64 dd, .int .i64 asec, .int .i64 ab]
  have hb0 : Below w.heap.size w (w.alloc (.cells #[.int .i64 off, .int .i64 kind, .int .i64 save, .string set, .string fmt, .bool ui, .int .i64 uy, .int .i64 um, .int .i64 dk, .int .i64 dw, .int .i64 dd, .int .i64 asec, .int .i64 ab] 33)) := (Below.refl _ _).alloc (Nat.le_refl _) _
  have hR0 := hR.alloc (.cells #[.int .i64 off, .int .i64 kind, .int .i64 save, .string set, .string fmt, .bool ui, .int .i64 uy, .int .i64 um, .int .i64 dk, .int .i64 dw, .int .i64 dd, .int .i64 asec, .int .i64 ab] 33)
  have hli : (L.length : Int) ≤ 1000000 := by omega
  obtain ⟨o0, o1⟩ := o64
  obtain ⟨s0, s1⟩ := s64
  have cJ1 : Hid (∀ (x : Int) (B : Nat) (W : World), (-9223372036854775808 ≤ x ∧ x ≤ 9223372036854775807) → IntsIn W B [x] → Calls Tryd.prog 64 #[.int .i64 off, .slice (some ⟨B, 0, none⟩) 1 1] W fun e w' => e = .returned (.tuple #[.string (str (P20.jFrom off [] [x]).1), .int .i64 (P20.jFrom off [] [x]).2]) ∧ Below W.heap.size W w') := fun x B W hx hI =>
    joined_any off B 1 [x] W o0 o1 (by simp) (by simp) (fun y hy => by rw [List.mem_singleton] at hy; rw [hy]; exact hx) hI
  have cJ2 : Hid (∀ (x y : Int) (B : Nat) (W : World), (-9223372036854775808 ≤ x ∧ x ≤ 9223372036854775807) → (-9223372036854775808 ≤ y ∧ y ≤ 9223372036854775807) → IntsIn W B [x, y] → Calls Tryd.prog 64 #[.int .i64 off, .slice (some ⟨B, 0, none⟩) 2 2] W fun e w' => e = .returned (.tuple #[.string (str (P20.jFrom off [] [x, y]).1), .int .i64 (P20.jFrom off [] [x, y]).2]) ∧ Below W.heap.size W w') := fun x y B W hx hy hI =>
    joined_any off B 2 [x, y] W o0 o1 (by simp) (by simp) (fun z hz => by
      simp only [List.mem_cons, List.not_mem_nil, or_false] at hz
      rcases hz with rfl | rfl
      · exact hx
      · exact hy) hI
  by_cases hk0 : kind = 0
  · subst hk0
    rw [exp_none]
    clear hR hR0
    have hN := ints_one (Blk.newAt (w.alloc (.cells #[.int .i64 off, .int .i64 0, .int .i64 save, .string set, .string fmt, .bool ui, .int .i64 uy, .int .i64 um, .int .i64 dk, .int .i64 dw, .int .i64 dd, .int .i64 asec, .int .i64 ab] 33)) (w.heap.size + 1) (by simp) 2 #[.int .i64 0])
    have hb1 := hb0.alloc hb0.size (.cells #[.int .i64 0] 2)
    have cJ := cJ1.out 0 _ _ ⟨by decide, by decide⟩ hN
    generalize P20.jFrom off [] [0] = R at cJ ⊢
    have CJ := Lib.hid cJ
    clear cJ hN cJ1 cJ2 hE hb0
    go_enter Tryd.func23, Tryd.ntmps23
    go_wp2_with fail
    refine CJ.out.mono ?_
    rintro e w1 ⟨rfl, hc1⟩
    have hb2 := hb1.trans (hc1.mono hb1.size)
    clear CJ hb1 hc1
    go_wp2_with fail
    go_ret2
    exact ⟨rfl, hb2⟩
  by_cases hk1 : kind = 1
  · subst hk1
    rw [exp_fixed]
    clear hR hR0
    have hN := ints_one (Blk.newAt (w.alloc (.cells #[.int .i64 off, .int .i64 1, .int .i64 save, .string set, .string fmt, .bool ui, .int .i64 uy, .int .i64 um, .int .i64 dk, .int .i64 dw, .int .i64 dd, .int .i64 asec, .int .i64 ab] 33)) (w.heap.size + 1) (by simp) 2 #[.int .i64 save])
    have hb1 := hb0.alloc hb0.size (.cells #[.int .i64 save] 2)
    have cJ := cJ1.out save _ _ ⟨s0, s1⟩ hN
    generalize P20.jFrom off [] [save] = R at cJ ⊢
    have CJ := Lib.hid cJ
    clear cJ hN cJ1 cJ2 hE hb0
    go_enter Tryd.func23, Tryd.ntmps23
    go_wp2_with fail
    refine CJ.out.mono ?_
    rintro e w1 ⟨rfl, hc1⟩
    have hb2 := hb1.trans (hc1.mono hb1.size)
    clear CJ hb1 hc1
    go_wp2_with fail
    go_ret2
    exact ⟨rfl, hb2⟩
  by_cases hk2 : kind = 2
  · subst hk2
    have cO : Hid (∀ W, RulesIn W A L → Calls Tryd.prog 33 #[.slice A L.length c] W fun e w' => e = .returned (.tuple #[.int .i64 (P20.other (svs L)).1, .bool (P20.other (svs L)).2]) ∧ Below W.heap.size W w') := fun W h => other_any A L c W hl h
    obtain ⟨x0, x1⟩ := other_bd (svs L) hsv
    have e1 := exp_is off save (svs L)
    have e2 := exp_isnt off save (svs L)
    obtain ⟨X, hX⟩ : ∃ X, X = (P20.other (svs L)).1 := ⟨_, rfl⟩
    rw [← hX] at x0 x1 e1 cO
    clear hX
    generalize (P20.other (svs L)).2 = I at e1 e2 cO
    clear hR
    cases I with
    | true =>
      rw [e1 rfl]
      clear e1 e2
      have cJ3 : Hid (∀ (B : Nat) (W : World), IntsIn W B [0, X] → Calls Tryd.prog 64 #[.int .i64 off, .slice (some ⟨B, 0, none⟩) 2 2] W fun e w' => e = .returned (.tuple #[.string (str (P20.jFrom off [] [0, X]).1), .int .i64 (P20.jFrom off [] [0, X]).2]) ∧ Below W.heap.size W w') := fun B W hI => cJ2.out 0 X B W ⟨by decide, by decide⟩ ⟨x0, x1⟩ hI
      generalize P20.jFrom off [] [0, X] = R at cJ3 ⊢
      go_enter Tryd.func23, Tryd.ntmps23
      go_wp2_with fail
      refine (cO.out _ hR0).mono ?_
      rintro e w1 ⟨rfl, hc1⟩
      have hE1 := hE.below hc1 hE.lt
      have hb1 := hb0.trans (hc1.mono hb0.size)
      have k0 : w1.cell? ⟨w.heap.size, 0, none⟩ = some (.int .i64 off) := (hE1.cell 0).trans rfl
      have hN := ints_two (Blk.new w1 2 #[.int .i64 0, .int .i64 X])
      have hb2 := hb1.alloc hb1.size (.cells #[.int .i64 0, .int .i64 X] 2)
      have cJ := cJ3.out _ _ hN
      have CJ := Lib.hid cJ
      clear cJ hN cJ1 cJ2 cJ3 hE hb0 hE1 hb1 hc1 cO hR0
      go_wp2_with fail
      refine CJ.out.mono ?_
      rintro e w2 ⟨rfl, hc2⟩
      have hb3 := hb2.trans (hc2.mono hb2.size)
      clear CJ hb2 hc2
      go_wp2_with fail
      go_ret2
      exact ⟨rfl, hb3⟩
    | false =>
      obtain ⟨R, hRR⟩ : ∃ R, R = P20.expansion 2 off save (svs L) := ⟨_, rfl⟩
      rw [← hRR]
      have HR := Lib.hid (hRR.trans (e2 rfl))
      clear e1 e2 hRR x0 x1
      go_enter Tryd.func23, Tryd.ntmps23
      go_wp2_with fail
      refine (cO.out _ hR0).mono ?_
      rintro e w1 ⟨rfl, hc1⟩
      have hE1 := hE.below hc1 hE.lt
      have hb1 := hb0.trans (hc1.mono hb0.size)
      have hR1 := hR0.below hc1
      clear hE hb0 hR0 hc1 cO
      go_wp2_with fail
      go_loopw [47] (fun i wr => ∃ k : Nat, k ≤ L.length ∧ i = .int .i64 k ∧ Hid (∀ j r, j < k → L[j]? = some r → r.save = 0) ∧ RulesIn wr A L ∧ Blk wr w.heap.size 33 #[.int .i64 off, .int .i64 2, .int .i64 save, .string set, .string fmt, .bool ui, .int .i64 uy, .int .i64 um, .int .i64 dk, .int .i64 dw, .int .i64 dd, .int .i64 asec, .int .i64 ab] ∧ Below w.heap.size w wr) (fun i _ => L.length - (intOf i).toNat)
      case atStart => exact ⟨0, Nat.zero_le _, rfl, fun j r hj => absurd hj (Nat.not_lt_zero _), hR1, hE1, hb1⟩
      case round =>
        clear hR1 hE1 hb1
        obtain ⟨k, hk, rfl, HN, hR, hE, hb⟩ := hrel
        by_cases hlt : k < L.length
        · obtain ⟨r, hr⟩ : ∃ r, L[k]? = some r := ⟨_, List.getElem?_eq_getElem hlt⟩
          obtain ⟨b, o, rfl, hlb, c0, c1, c2, c3, c4, c5, c6, c7, c8, c9, c10⟩ := hR.get k r hr
          have hki : (k : Int) < (L.length : Int) := by omega
          have z0 := fun q => any_hit hr q
          have z1 : r.save = 0 → ∀ j r', j < k + 1 → L[j]? = some r' → r'.save = 0 := fun q j r' hj hr' => by
            rcases Nat.lt_succ_iff_lt_or_eq.mp hj with hj | hj
            · exact HN.out j r' hj hr'
            · rw [hj, hr] at hr'; injection hr' with hr'; rw [← hr']; exact q
          obtain ⟨nm, fr, tl, mo, rdk, rdw, rdd, sc, bs, sv, lt⟩ := r
          simp only at c0 c1 c2 c3 c4 c5 c6 c7 c8 c9 c10 z0 z1
          have hR2 := Lib.hid (hR.alloc (.cells #[.string nm, .int .i64 fr, .int .i64 tl, .int .i64 mo, .int .i64 rdk, .int .i64 rdw, .int .i64 rdd, .int .i64 sc, .int .i64 bs, .int .i64 sv, .string lt] 38))
          have hE2 := Lib.hid (hE.alloc (.cells #[.string nm, .int .i64 fr, .int .i64 tl, .int .i64 mo, .int .i64 rdk, .int .i64 rdw, .int .i64 rdd, .int .i64 sc, .int .i64 bs, .int .i64 sv, .string lt] 38))
          have hb2 := hb.alloc hb.size (.cells #[.string nm, .int .i64 fr, .int .i64 tl, .int .i64 mo, .int .i64 rdk, .int .i64 rdw, .int .i64 rdd, .int .i64 sc, .int .i64 bs, .int .i64 sv, .string lt] 38)
          clear hR hE hb hr
          by_cases hz : sv = 0
          · have HZ := Lib.hid (z1 hz)
            have e1 : (sv != 0) = false := by rw [bne_eq_false_iff_eq]; exact hz
            clear hz z0 z1
            go_wp2_with fail
            go_roundw
            case rel => exact ⟨k + 1, by omega, by go_num, HZ, hR2.out, hE2.out, hb2⟩
            case measure => simp [intOf]; omega
          · have HG : Hid (R = ([], 14)) := Lib.hid (HR.out.trans (if_pos (z0 hz)))
            have e1 : (sv != 0) = true := by rw [bne_iff_ne]; exact hz
            clear hz z0 z1
            go_wp2_with fail
            go_ret2
            exact ⟨by rw [HG.out]; rfl, hb2⟩
        · obtain rfl : k = L.length := by omega
          have hki : ¬ (L.length : Int) < (L.length : Int) := by omega
          have hno := any_no HN.out
          have HG := Lib.hid (HR.out.trans (if_neg (by rw [hno]; decide)))
          have k0 : wr.cell? ⟨w.heap.size, 0, none⟩ = some (.int .i64 off) := (hE.cell 0).trans rfl
          have hN := ints_one (Blk.new wr 2 #[.int .i64 0])
          have hb2 := hb.alloc hb.size (.cells #[.int .i64 0] 2)
          have cJ := cJ1.out 0 _ _ ⟨by decide, by decide⟩ hN
          generalize P20.jFrom off [] [0] = Z at cJ HG
          have CJ := Lib.hid cJ
          clear cJ hN cJ1 cJ2 hE hb hR hno HN HR
          go_wp2_with fail
          refine CJ.out.mono ?_
          rintro e w2 ⟨rfl, hc2⟩
          have hb3 := hb2.trans (hc2.mono hb2.size)
          clear CJ hb2 hc2
          go_wp2_with fail
          go_ret2
          exact ⟨by rw [HG.out]; rfl, hb3⟩
  rw [exp_else kind off save (svs L) (by omega)]
  have q0 : (kind == 0) = false := by rw [beq_eq_false_iff_ne]; exact hk0
  have q1 : (kind == 1) = false := by rw [beq_eq_false_iff_ne]; exact hk1
  have q2 : (kind == 2) = false := by rw [beq_eq_false_iff_ne]; exact hk2
  clear hk0 hk1 hk2 hE hR hR0 cJ1 cJ2
  go_enter Tryd.func23, Tryd.ntmps23
  go_wp2_with fail
  go_ret2
  exact ⟨rfl, hb0⟩
-- REF
end Go.Proofs.YtmhciidliicheaaDoor
