/- Texts of one proof, one behind the other: Num20h; Plain30; Clone30; Rinv; Store30; Each30; Iter29; Pcopy29; Turn29a. -/
import Derived.Test.YtlideagcmhlkeaaDoorT3
import Derived.Deep.DeepCutAuto
import Derived.Deep.CutBlock
import Derived.IntWalk
import Derived.Lib.SliceRun
import Derived.Orders
import Derived.Deep.RegionHeld
import Derived.BigRegion
import Derived.RangeFuncNested
import Derived.RangeFuncBound
import Derived.RangeFuncCalls
import Derived.RangeFuncLeaves
import Derived.RangeFuncBox
import Derived.RangeFuncWrites
import Derived.Shelf.Abstract
import Derived.Shelf.RegionOpen
import Derived.OwnWalkIn
import Derived.TacticsInMore
import Derived.LoopNIn
import Derived.LoopIn

/- The walks of numeric.Expansion and of the reference's Expansion (chapter 20). -/
namespace Go.Proofs.YtlideagcmhlkeaaDoor
open Go.RowKit
set_option linter.unusedVariables false

theorem otherFrom_bd : ∀ (l : List Int) (x : Int), (-9223372036854775808 ≤ x ∧ x ≤ 9223372036854775807) → (∀ y ∈ l, -9223372036854775808 ≤ y ∧ y ≤ 9223372036854775807) → -9223372036854775808 ≤ (P20.otherFrom x l).1 ∧ (P20.otherFrom x l).1 ≤ 9223372036854775807
  | [], x, hx, _ => hx
  | r :: l, x, hx, h => by
    rw [P20.otherFrom]
    split
    · exact otherFrom_bd l x hx fun y hy => h y (List.mem_cons_of_mem _ hy)
    · split
      · exact ⟨by decide, by decide⟩
      · exact otherFrom_bd l r (h r (List.mem_cons_self ..)) fun y hy => h y (List.mem_cons_of_mem _ hy)
theorem other_bd (l : List Int) (h : ∀ y ∈ l, -9223372036854775808 ≤ y ∧ y ≤ 9223372036854775807) : -9223372036854775808 ≤ (P20.other l).1 ∧ (P20.other l).1 ≤ 9223372036854775807 := otherFrom_bd l 0 ⟨by decide, by decide⟩ h
/-- the saves are numbers of the machine -/
def SvOk (L : List RV) : Prop := ∀ y ∈ svs L, -9223372036854775808 ≤ y ∧ y ≤ 9223372036854775807
theorem exp_none (off save : Int) (l : List Int) : P20.expansion 0 off save l = P20.jFrom off [] [0] := by rw [jFrom_one, Int.add_zero]; rfl
theorem exp_fixed (off save : Int) (l : List Int) : P20.expansion 1 off save l = P20.jFrom off [] [save] := by rw [jFrom_one]; rfl
theorem exp_is (off save : Int) (l : List Int) (h : (P20.other l).2 = true) : P20.expansion 2 off save l = P20.jFrom off [] [0, (P20.other l).1] := by
  rw [jFrom_two, Int.add_zero]
  show (if (P20.other l).2 = true then _ else _) = _
  rw [if_pos h]
theorem exp_isnt (off save : Int) (l : List Int) (h : (P20.other l).2 = false) : P20.expansion 2 off save l = if l.any (fun r => decide (r ≠ 0)) then ([], 14) else P20.jFrom off [] [0] := by
  rw [jFrom_one, Int.add_zero]
  show (if (P20.other l).2 = true then _ else _) = _
  rw [if_neg (by rw [h]; decide)]
theorem exp_else (kind off save : Int) (l : List Int) (h : kind < 0 ∨ 2 < kind) : P20.expansion kind off save l = ([], 2) := by
  unfold P20.expansion
  rw [if_neg (by omega), if_neg (by omega), if_neg (by omega)]
theorem any_hit {L : List RV} {k : Nat} {r : RV} (h : L[k]? = some r) (hz : r.save ≠ 0) : (svs L).any (fun r => decide (r ≠ 0)) = true := by
  rw [List.any_eq_true]
  exact ⟨r.save, List.mem_map.2 ⟨r, List.mem_of_getElem? h, rfl⟩, decide_eq_true hz⟩
theorem any_no {L : List RV} (h : ∀ j r, j < L.length → L[j]? = some r → r.save = 0) : (svs L).any (fun r => decide (r ≠ 0)) = false := by
  rw [List.any_eq_false]
  intro y hy
  obtain ⟨r, hr, rfl⟩ := List.mem_map.1 hy
  obtain ⟨j, hj⟩ := List.mem_iff_getElem?.1 hr
  have := h j r (List.getElem?_eq_some_iff.mp hj).1 hj
  simpa using this
theorem ints_one {w : World} {B : Nat} {e : TypeId} {x : Int} (h : Blk w B e #[.int .i64 x]) : IntsIn w B [x] := ⟨h.lt, fun k y hy => by
  rw [h.cell k]
  match k, hy with
  | 0, hy => injection hy with hy; rw [← hy]; rfl⟩
theorem ints_two {w : World} {B : Nat} {e : TypeId} {x y : Int} (h : Blk w B e #[.int .i64 x, .int .i64 y]) : IntsIn w B [x, y] := ⟨h.lt, fun k z hz => by
  rw [h.cell k]
  match k, hz with
  | 0, hz => injection hz with hz; rw [← hz]; rfl
  | 1, hz => injection hz with hz; rw [← hz]; rfl⟩

set_option maxRecDepth 100000 in
set_option maxHeartbeats 8000000 in
theorem expansion_any (off kind save : Int) (set fmt : ByteArray) (ui : Bool) (uy um dk dw dd asec ab : Int) (A : Option Addr) (L : List RV) (c : Nat) (w : World) (o64 : -9223372036854775808 ≤ off ∧ off ≤ 9223372036854775807) (s64 : -9223372036854775808 ≤ save ∧ save ≤ 9223372036854775807) (hl : L.length ≤ 1100000) (hsv : SvOk L) (hR : RulesIn w A L) :
    Calls Tryd.prog 18 #[.agg #[.int .i64 off, .int .i64 kind, .int .i64 save, .string set, .string fmt, .bool ui, .int .i64 uy, .int .i64 um, .int .i64 dk, .int .i64 dw, .int .i64 dd, .int .i64 asec, .int .i64 ab], .slice A L.length c] w fun e w' => e = .returned (.tuple #[.string (str (P20.expansion kind off save (svs L)).1), .int .i64 (P20.expansion kind off save (svs L)).2]) ∧ Below w.heap.size w w' := by
  have hE := Blk.new w 47 #[.int .i64 off, .int .i64 kind, .int .i64 save, .string set, .string fmt, .bool ui, .int .i64 uy, .int .i64 um, .int .i64 dk, .int .i64 dw, .int .i64 dd, .int .i64 asec, .int .i64 ab]
  have hb0 : Below w.heap.size w (w.alloc (.cells #[.int .i64 off, .int .i64 kind, .int .i64 save, .string set, .string fmt, .bool ui, .int .i64 uy, .int .i64 um, .int .i64 dk, .int .i64 dw, .int .i64 dd, .int .i64 asec, .int .i64 ab] 47)) := (Below.refl _ _).alloc (Nat.le_refl _) _
  have hR0 := hR.alloc (.cells #[.int .i64 off, .int .i64 kind, .int .i64 save, .string set, .string fmt, .bool ui, .int .i64 uy, .int .i64 um, .int .i64 dk, .int .i64 dw, .int .i64 dd, .int .i64 asec, .int .i64 ab] 47)
  have hli : (L.length : Int) ≤ 1100000 := by omega
  obtain ⟨o0, o1⟩ := o64
  obtain ⟨s0, s1⟩ := s64
  have cJ1 : Hid (∀ (x : Int) (B : Nat) (W : World), (-9223372036854775808 ≤ x ∧ x ≤ 9223372036854775807) → IntsIn W B [x] → Calls Tryd.prog 54 #[.int .i64 off, .slice (some ⟨B, 0, none⟩) 1 1] W fun e w' => e = .returned (.tuple #[.string (str (P20.jFrom off [] [x]).1), .int .i64 (P20.jFrom off [] [x]).2]) ∧ Below W.heap.size W w') := fun x B W hx hI =>
    joined_any off B 1 [x] W o0 o1 (by simp) (by simp) (fun y hy => by rw [List.mem_singleton] at hy; rw [hy]; exact hx) hI
  have cJ2 : Hid (∀ (x y : Int) (B : Nat) (W : World), (-9223372036854775808 ≤ x ∧ x ≤ 9223372036854775807) → (-9223372036854775808 ≤ y ∧ y ≤ 9223372036854775807) → IntsIn W B [x, y] → Calls Tryd.prog 54 #[.int .i64 off, .slice (some ⟨B, 0, none⟩) 2 2] W fun e w' => e = .returned (.tuple #[.string (str (P20.jFrom off [] [x, y]).1), .int .i64 (P20.jFrom off [] [x, y]).2]) ∧ Below W.heap.size W w') := fun x y B W hx hy hI =>
    joined_any off B 2 [x, y] W o0 o1 (by simp) (by simp) (fun z hz => by
      simp only [List.mem_cons, List.not_mem_nil, or_false] at hz
      rcases hz with rfl | rfl
      · exact hx
      · exact hy) hI
  by_cases hk0 : kind = 0
  · subst hk0
    rw [exp_none]
    clear hR hR0
    have hN := ints_one (Blk.newAt (w.alloc (.cells #[.int .i64 off, .int .i64 0, .int .i64 save, .string set, .string fmt, .bool ui, .int .i64 uy, .int .i64 um, .int .i64 dk, .int .i64 dw, .int .i64 dd, .int .i64 asec, .int .i64 ab] 47)) (w.heap.size + 1) (by simp) 2 #[.int .i64 0])
    have hb1 := hb0.alloc hb0.size (.cells #[.int .i64 0] 2)
    have cJ := cJ1.out 0 _ _ ⟨by decide, by decide⟩ hN
    generalize P20.jFrom off [] [0] = R at cJ ⊢
    have CJ := Lib.hid cJ
    clear cJ hN cJ1 cJ2 hE hb0
    go_enter Tryd.func18, Tryd.ntmps18
    go_wp2_with fail
    refine CJ.out.mono ?_
    rintro e w1 ⟨rfl, hc1⟩
    have hb2 := hb1.trans (hc1.mono hb1.size)
    clear CJ hb1 hc1
    go_wp2_with fail
    go_ret2
    exact ⟨rfl, hb2⟩
  by_cases hk1 : kind = 1
  · subst hk1
    rw [exp_fixed]
    clear hR hR0
    have hN := ints_one (Blk.newAt (w.alloc (.cells #[.int .i64 off, .int .i64 1, .int .i64 save, .string set, .string fmt, .bool ui, .int .i64 uy, .int .i64 um, .int .i64 dk, .int .i64 dw, .int .i64 dd, .int .i64 asec, .int .i64 ab] 47)) (w.heap.size + 1) (by simp) 2 #[.int .i64 save])
    have hb1 := hb0.alloc hb0.size (.cells #[.int .i64 save] 2)
    have cJ := cJ1.out save _ _ ⟨s0, s1⟩ hN
    generalize P20.jFrom off [] [save] = R at cJ ⊢
    have CJ := Lib.hid cJ
    clear cJ hN cJ1 cJ2 hE hb0
    go_enter Tryd.func18, Tryd.ntmps18
    go_wp2_with fail
    refine CJ.out.mono ?_
    rintro e w1 ⟨rfl, hc1⟩
    have hb2 := hb1.trans (hc1.mono hb1.size)
    clear CJ hb1 hc1
    go_wp2_with fail
    go_ret2
    exact ⟨rfl, hb2⟩
  by_cases hk2 : kind = 2
  · subst hk2
    have cO : Hid (∀ W, RulesIn W A L → Calls Tryd.prog 15 #[.slice A L.length c] W fun e w' => e = .returned (.tuple #[.int .i64 (P20.other (svs L)).1, .bool (P20.other (svs L)).2]) ∧ Below W.heap.size W w') := fun W h => other_any A L c W hl h
    obtain ⟨x0, x1⟩ := other_bd (svs L) hsv
    have e1 := exp_is off save (svs L)
    have e2 := exp_isnt off save (svs L)
    obtain ⟨X, hX⟩ : ∃ X, X = (P20.other (svs L)).1 := ⟨_, rfl⟩
    rw [← hX] at x0 x1 e1 cO
    clear hX
    generalize (P20.other (svs L)).2 = I at e1 e2 cO
    clear hR
    cases I with
    | true =>
      rw [e1 rfl]
      clear e1 e2
      have cJ3 : Hid (∀ (B : Nat) (W : World), IntsIn W B [0, X] → Calls Tryd.prog 54 #[.int .i64 off, .slice (some ⟨B, 0, none⟩) 2 2] W fun e w' => e = .returned (.tuple #[.string (str (P20.jFrom off [] [0, X]).1), .int .i64 (P20.jFrom off [] [0, X]).2]) ∧ Below W.heap.size W w') := fun B W hI => cJ2.out 0 X B W ⟨by decide, by decide⟩ ⟨x0, x1⟩ hI
      generalize P20.jFrom off [] [0, X] = R at cJ3 ⊢
      go_enter Tryd.func18, Tryd.ntmps18
      go_wp2_with fail
      refine (cO.out _ hR0).mono ?_
      rintro e w1 ⟨rfl, hc1⟩
      have hE1 := hE.below hc1 hE.lt
      have hb1 := hb0.trans (hc1.mono hb0.size)
      have k0 : w1.cell? ⟨w.heap.size, 0, none⟩ = some (.int .i64 off) := (hE1.cell 0).trans rfl
      have hN := ints_two (Blk.new w1 2 #[.int .i64 0, .int .i64 X])
      have hb2 := hb1.alloc hb1.size (.cells #[.int .i64 0, .int .i64 X] 2)
      have cJ := cJ3.out _ _ hN
      have CJ := Lib.hid cJ
      clear cJ hN cJ1 cJ2 cJ3 hE hb0 hE1 hb1 hc1 cO hR0
      go_wp2_with fail
      refine CJ.out.mono ?_
      rintro e w2 ⟨rfl, hc2⟩
      have hb3 := hb2.trans (hc2.mono hb2.size)
      clear CJ hb2 hc2
      go_wp2_with fail
      go_ret2
      exact ⟨rfl, hb3⟩
    | false =>
      obtain ⟨R, hRR⟩ : ∃ R, R = P20.expansion 2 off save (svs L) := ⟨_, rfl⟩
      rw [← hRR]
      have HR := Lib.hid (hRR.trans (e2 rfl))
      clear e1 e2 hRR x0 x1
      go_enter Tryd.func18, Tryd.ntmps18
      go_wp2_with fail
      refine (cO.out _ hR0).mono ?_
      rintro e w1 ⟨rfl, hc1⟩
      have hE1 := hE.below hc1 hE.lt
      have hb1 := hb0.trans (hc1.mono hb0.size)
      have hR1 := hR0.below hc1
      clear hE hb0 hR0 hc1 cO
      go_wp2_with fail
      go_loopw [47] (fun i wr => ∃ k : Nat, k ≤ L.length ∧ i = .int .i64 k ∧ Hid (∀ j r, j < k → L[j]? = some r → r.save = 0) ∧ RulesIn wr A L ∧ Blk wr w.heap.size 47 #[.int .i64 off, .int .i64 2, .int .i64 save, .string set, .string fmt, .bool ui, .int .i64 uy, .int .i64 um, .int .i64 dk, .int .i64 dw, .int .i64 dd, .int .i64 asec, .int .i64 ab] ∧ Below w.heap.size w wr) (fun i _ => L.length - (intOf i).toNat)
      case atStart => exact ⟨0, Nat.zero_le _, rfl, fun j r hj => absurd hj (Nat.not_lt_zero _), hR1, hE1, hb1⟩
      case round =>
        clear hR1 hE1 hb1
        obtain ⟨k, hk, rfl, HN, hR, hE, hb⟩ := hrel
        by_cases hlt : k < L.length
        · obtain ⟨r, hr⟩ : ∃ r, L[k]? = some r := ⟨_, List.getElem?_eq_getElem hlt⟩
          obtain ⟨b, o, rfl, hlb, c0, c1, c2, c3, c4, c5, c6, c7, c8, c9, c10⟩ := hR.get k r hr
          have hki : (k : Int) < (L.length : Int) := by omega
          have z0 := fun q => any_hit hr q
          have z1 : r.save = 0 → ∀ j r', j < k + 1 → L[j]? = some r' → r'.save = 0 := fun q j r' hj hr' => by
            rcases Nat.lt_succ_iff_lt_or_eq.mp hj with hj | hj
            · exact HN.out j r' hj hr'
            · rw [hj, hr] at hr'; injection hr' with hr'; rw [← hr']; exact q
          obtain ⟨nm, fr, tl, mo, rdk, rdw, rdd, sc, bs, sv, lt⟩ := r
          simp only at c0 c1 c2 c3 c4 c5 c6 c7 c8 c9 c10 z0 z1
          have hR2 := Lib.hid (hR.alloc (.cells #[.string nm, .int .i64 fr, .int .i64 tl, .int .i64 mo, .int .i64 rdk, .int .i64 rdw, .int .i64 rdd, .int .i64 sc, .int .i64 bs, .int .i64 sv, .string lt] 83))
          have hE2 := Lib.hid (hE.alloc (.cells #[.string nm, .int .i64 fr, .int .i64 tl, .int .i64 mo, .int .i64 rdk, .int .i64 rdw, .int .i64 rdd, .int .i64 sc, .int .i64 bs, .int .i64 sv, .string lt] 83))
          have hb2 := hb.alloc hb.size (.cells #[.string nm, .int .i64 fr, .int .i64 tl, .int .i64 mo, .int .i64 rdk, .int .i64 rdw, .int .i64 rdd, .int .i64 sc, .int .i64 bs, .int .i64 sv, .string lt] 83)
          clear hR hE hb hr
          by_cases hz : sv = 0
          · have HZ := Lib.hid (z1 hz)
            have e1 : (sv != 0) = false := by rw [bne_eq_false_iff_eq]; exact hz
            clear hz z0 z1
            go_wp2_with fail
            go_roundw
            case rel => exact ⟨k + 1, by omega, by go_num, HZ, hR2.out, hE2.out, hb2⟩
            case measure => simp [intOf]; omega
          · have HG : Hid (R = ([], 14)) := Lib.hid (HR.out.trans (if_pos (z0 hz)))
            have e1 : (sv != 0) = true := by rw [bne_iff_ne]; exact hz
            clear hz z0 z1
            go_wp2_with fail
            go_ret2
            exact ⟨by rw [HG.out]; rfl, hb2⟩
        · obtain rfl : k = L.length := by omega
          have hki : ¬ (L.length : Int) < (L.length : Int) := by omega
          have hno := any_no HN.out
          have HG := Lib.hid (HR.out.trans (if_neg (by rw [hno]; decide)))
          have k0 : wr.cell? ⟨w.heap.size, 0, none⟩ = some (.int .i64 off) := (hE.cell 0).trans rfl
          have hN := ints_one (Blk.new wr 2 #[.int .i64 0])
          have hb2 := hb.alloc hb.size (.cells #[.int .i64 0] 2)
          have cJ := cJ1.out 0 _ _ ⟨by decide, by decide⟩ hN
          generalize P20.jFrom off [] [0] = Z at cJ HG
          have CJ := Lib.hid cJ
          clear cJ hN cJ1 cJ2 hE hb hR hno HN HR
          go_wp2_with fail
          refine CJ.out.mono ?_
          rintro e w2 ⟨rfl, hc2⟩
          have hb3 := hb2.trans (hc2.mono hb2.size)
          clear CJ hb2 hc2
          go_wp2_with fail
          go_ret2
          exact ⟨by rw [HG.out]; rfl, hb3⟩
  rw [exp_else kind off save (svs L) (by omega)]
  have q0 : (kind == 0) = false := by rw [beq_eq_false_iff_ne]; exact hk0
  have q1 : (kind == 1) = false := by rw [beq_eq_false_iff_ne]; exact hk1
  have q2 : (kind == 2) = false := by rw [beq_eq_false_iff_ne]; exact hk2
  clear hk0 hk1 hk2 hE hR hR0 cJ1 cJ2
  go_enter Tryd.func18, Tryd.ntmps18
  go_wp2_with fail
  go_ret2
  exact ⟨rfl, hb0⟩
-- REF
end Go.Proofs.YtlideagcmhlkeaaDoor

/- Chapter 30 in plain words: what Expand and Contract answer. No function of the program. -/
namespace Go.Proofs.YtlideagcmhlkeaaDoor
open Go.RowKit
set_option linter.unusedVariables false

/-- the rules of a set -/
def ofSet (L : List RV) (nm : ByteArray) : List RV := L.filter (fun r => decide (r.name = nm))
/-- what stands for %z in an era -/
def num30 (R : List RV) (e : EV) : ByteArray × Int := (str (P20.expansion e.kind e.off e.save (svs (if e.kind = 2 then ofSet R e.set else []))).1, (P20.expansion e.kind e.off e.save (svs (if e.kind = 2 then ofSet R e.set else []))).2)
/-- the era with a new FORMAT -/
def fmtE (F : EV → ByteArray × Int) (e : EV) : EV := { e with fmt := (F e).1 }
/-- the eras in front of a place have no error -/
def okTo30 (F : EV → ByteArray × Int) (Z : List ZV) (i k : Nat) : Prop := ∀ (a b : Nat) (z : ZV) (e : EV), Z[a]? = some z → z.eras[b]? = some e → (a < i ∨ (a = i ∧ b < k)) → (F e).2 = 0
/-- the first error, 0 if there is none -/
def ErrIs (F : EV → ByteArray × Int) (Z : List ZV) (x : Int) : Prop := (x = 0 ∧ okTo30 F Z Z.length 0) ∨ (x ≠ 0 ∧ ∃ (i k : Nat) (z : ZV) (e : EV), Z[i]? = some z ∧ z.eras[k]? = some e ∧ okTo30 F Z i k ∧ (F e).2 = x)
theorem okTo30.zero (F : EV → ByteArray × Int) (Z : List ZV) : okTo30 F Z 0 0 := fun a b z e _ _ h => by omega
theorem okTo30.step {F : EV → ByteArray × Int} {Z : List ZV} {i k : Nat} {z : ZV} {e : EV} (h : okTo30 F Z i k) (hz : Z[i]? = some z) (he : z.eras[k]? = some e) (h0 : (F e).2 = 0) : okTo30 F Z i (k + 1) := fun a b z' e' hz' he' hp => by
  by_cases hq : a = i ∧ b = k
  · obtain ⟨rfl, rfl⟩ := hq
    rw [hz] at hz'
    injection hz' with hz'
    subst hz'
    rw [he] at he'
    injection he' with he'
    subst he'
    exact h0
  · exact h a b z' e' hz' he' (by omega)
theorem okTo30.zone {F : EV → ByteArray × Int} {Z : List ZV} {i k : Nat} {z : ZV} (h : okTo30 F Z i k) (hz : Z[i]? = some z) (hk : z.eras.length ≤ k) : okTo30 F Z (i + 1) 0 := fun a b z' e' hz' he' hp => by
  by_cases hq : a = i
  · subst hq
    rw [hz] at hz'
    injection hz' with hz'
    subst hz'
    have := (List.getElem?_eq_some_iff.1 he').1
    exact h a b z e' hz he' (by omega)
  · exact h a b z' e' hz' he' (by omega)
theorem ErrIs.ok {F : EV → ByteArray × Int} {Z : List ZV} {i : Nat} (h : okTo30 F Z i 0) (hi : Z.length ≤ i) : ErrIs F Z 0 := .inl ⟨rfl, fun a b z e hz he _ => h a b z e hz he (by have := (List.getElem?_eq_some_iff.1 hz).1; omega)⟩
theorem ErrIs.bad {F : EV → ByteArray × Int} {Z : List ZV} {i k : Nat} {z : ZV} {e : EV} (h : okTo30 F Z i k) (hz : Z[i]? = some z) (he : z.eras[k]? = some e) (h0 : (F e).2 ≠ 0) : ErrIs F Z (F e).2 := .inr ⟨h0, i, k, z, e, hz, he, h, rfl⟩
theorem ErrIs.uniq {F : EV → ByteArray × Int} {Z : List ZV} {x y : Int} (hx : ErrIs F Z x) (hy : ErrIs F Z y) : x = y := by
  rcases hx with ⟨rfl, hx⟩ | ⟨hx0, i, k, z, e, hz, he, hok, rfl⟩
  · rcases hy with ⟨rfl, _⟩ | ⟨hy0, i, k, z, e, hz, he, hok, rfl⟩
    · rfl
    · exact absurd (hx i k z e hz he (by have := (List.getElem?_eq_some_iff.1 hz).1; omega)) hy0
  · rcases hy with ⟨rfl, hy⟩ | ⟨hy0, i', k', z', e', hz', he', hok', rfl⟩
    · exact absurd (hy i k z e hz he (by have := (List.getElem?_eq_some_iff.1 hz).1; omega)) hx0
    · by_cases h1 : i < i' ∨ (i = i' ∧ k < k')
      · exact absurd (hok' i k z e hz he h1) hx0
      · by_cases h2 : i' < i ∨ (i' = i ∧ k' < k)
        · exact absurd (hok i' k' z' e' hz' he' h2) hy0
        · obtain rfl : i = i' := by omega
          obtain rfl : k = k' := by omega
          rw [hz] at hz'
          injection hz' with hz'
          subst hz'
          rw [he] at he'
          injection he' with he'
          subst he'
          rfl
theorem ErrIs.same {F : EV → ByteArray × Int} {Z Y : List ZV} {x : Int} (h : zSame14 Z Y) (hx : ErrIs F Y x) : ErrIs F Z x := by
  have key : ∀ (a : Nat) (z : ZV), Z[a]? = some z → ∃ y, Y[a]? = some y ∧ z.eras = y.eras := fun a z hz => by
    have hl := (List.getElem?_eq_some_iff.1 hz).1
    obtain ⟨y, hy⟩ : ∃ y, Y[a]? = some y := ⟨_, List.getElem?_eq_getElem (by rw [← h.1]; exact hl)⟩
    exact ⟨y, hy, (h.2 a z y hl hz hy).2⟩
  have mono : ∀ i k, okTo30 F Y i k → okTo30 F Z i k := fun i k hok a b z e hz he hp => by
    obtain ⟨y, hy, hye⟩ := key a z hz
    rw [hye] at he
    exact hok a b y e hy he hp
  rcases hx with ⟨rfl, hx⟩ | ⟨hx0, i, k, y, e, hy, he, hok, rfl⟩
  · exact .inl ⟨rfl, by rw [h.1]; exact mono _ _ hx⟩
  · have hl := (List.getElem?_eq_some_iff.1 hy).1
    obtain ⟨z, hz⟩ : ∃ z, Z[i]? = some z := ⟨_, List.getElem?_eq_getElem (by rw [h.1]; exact hl)⟩
    refine .inr ⟨hx0, i, k, z, e, hz, ?_, mono _ _ hok, rfl⟩
    rw [(h.2 i z y (by rw [h.1]; exact hl) hz hy).2]
    exact he
/-- the FORMAT that Expand makes -/
def exF (R : List RV) (e : EV) : ByteArray × Int := if e.fmt = ⟨#[37, 122]⟩ then num30 R e else (e.fmt, 0)
/-- the empty source -/
def nilS : SV := ⟨none, 0, [], none, 0, [], none, 0, [], none, 0, []⟩
/-- what a change of all FORMATs gives -/
structure Res30 (F : EV → ByteArray × Int) (s t : SV) (x : Int) : Prop where
  err : ErrIs F s.zones x
  yes : x = 0 → sSame14 t (mapS (fmtE F) s)
  no : x ≠ 0 → sSame14 t nilS
/-- a source that is small enough to be copied, with numbers of the machine -/
structure Few30 (s : SV) : Prop where
  lens : s.rules.length ≤ 1000 ∧ s.zones.length ≤ 1000 ∧ s.links.length ≤ 1000 ∧ s.shifts.length ≤ 1000
  eras : ∀ z ∈ s.zones, z.eras.length ≤ 1000
  nums : ∀ z ∈ s.zones, ∀ e ∈ z.eras, (-9223372036854775808 ≤ e.off ∧ e.off ≤ 9223372036854775807) ∧ (-9223372036854775808 ≤ e.save ∧ e.save ≤ 9223372036854775807) ∧ e.fmt.size ≤ 1100000
  saves : SvOk s.rules
end Go.Proofs.YtlideagcmhlkeaaDoor

/- slices.Clone of rules, links, eras and strings: a row of the call's own. -/
namespace Go.Proofs.YtlideagcmhlkeaaDoor
open Go.RowKit
set_option linter.unusedVariables false
set_option linter.unusedSimpArgs false

theorem len_str (b : ByteArray) : ((fun b : ByteArray => [Value.string b]) b).length = 1 := rfl
theorem one_str (b : ByteArray) : ∀ u ∈ (fun b : ByteArray => [Value.string b]) b, u.oneCell' = true := fun u hu => by rw [List.mem_singleton.1 hu]; rfl
set_option maxRecDepth 100000 in
set_option maxHeartbeats 4000000 in
theorem clone_rule (A : Option Addr) (c : Nat) (L : List RV) (w : World) (hl : L.length ≤ 1100000) (hC : CellsIn 11 RV.cells w A L) :
    Calls Tryd.prog 84 #[.slice A L.length c] w fun e w' => ∃ A' c', e = .returned (.slice A' L.length c') ∧ RowOf w' w.heap.size 83 11 RV.cells A' c' L ∧ Below w.heap.size w w' := by
  have hq := fun (w : World) (a : Option Addr) (n c n' c' : Nat) => Lib.run_eql_slice_nil (P := Tryd.prog) w 27 83 a n c n' c' Tryd.underlying27
  cases A with
  | none =>
    obtain rfl : L = [] := by
      cases L with
      | nil => rfl
      | cons x L => obtain ⟨b, o, h, _⟩ := hC 0 x rfl; cases h
    go_enter Tryd.func84, Tryd.ntmps84
    go_wp2_with fail
    go_ret
    exact ⟨none, 0, rfl, World.ownsRow_nil .., Below.refl _ _⟩
  | some a =>
    obtain ⟨i1, hi, hz0, hz1, hz2⟩ := info_parts infoRuleC
    have hal := (Below.refl w.heap.size w).alloc (Nat.le_refl _) (.cells #[] 83)
    have HIN := Lib.hid (in_news len_rule (by decide) (hC.below hal))
    have HMD := Lib.hid (World.ownsRow_made (base := w.heap.size) (e := 83) (size := 11) w #[] 0 (Nat.le_refl _) (Nat.zero_le _) (by simp))
    have HFL := Lib.hid (fl_len len_rule L)
    have H1S := Lib.hid (one_fl one_rule L)
    have HAL := Lib.hid hal
    clear hC hal
    go_enter Tryd.func84, Tryd.ntmps84
    go_wp2_with (at_builtin; refine wpList_append_lit rfl _ _ 27 rfl w.heap.size 83 i1 _ 11 104 w.heap.size Tryd.underlying27 hi hz0 hz1 hz2 rfl (by decide) rfl HMD.out (some a) L.length c (L.flatMap RV.cells) rfl HFL.out HIN.out H1S.out (by simp only [maxLen]; omega) (by omega) (by simp) ?_)
    intro A' c' w1 hown hgrow
    have hbl : Below w.heap.size w w1 := HAL.out.grown hgrow (by simp) (by intro k hk; cases hk)
    clear hi hz0 hz1 hz2
    go_wp2_with fail
    go_ret
    exact ⟨_, _, rfl, hown, hbl⟩
set_option maxRecDepth 100000 in
set_option maxHeartbeats 4000000 in
theorem clone_link (A : Option Addr) (c : Nat) (L : List KV) (w : World) (hl : L.length ≤ 1100000) (hC : CellsIn 2 KV.cells w A L) :
    Calls Tryd.prog 85 #[.slice A L.length c] w fun e w' => ∃ A' c', e = .returned (.slice A' L.length c') ∧ RowOf w' w.heap.size 94 2 KV.cells A' c' L ∧ Below w.heap.size w w' := by
  have hq := fun (w : World) (a : Option Addr) (n c n' c' : Nat) => Lib.run_eql_slice_nil (P := Tryd.prog) w 29 94 a n c n' c' Tryd.underlying29
  cases A with
  | none =>
    obtain rfl : L = [] := by
      cases L with
      | nil => rfl
      | cons x L => obtain ⟨b, o, h, _⟩ := hC 0 x rfl; cases h
    go_enter Tryd.func85, Tryd.ntmps85
    go_wp2_with fail
    go_ret
    exact ⟨none, 0, rfl, World.ownsRow_nil .., Below.refl _ _⟩
  | some a =>
    obtain ⟨i1, hi, hz0, hz1, hz2⟩ := info_parts infoLink
    have hal := (Below.refl w.heap.size w).alloc (Nat.le_refl _) (.cells #[] 94)
    have HIN := Lib.hid (in_news len_link (by decide) (hC.below hal))
    have HMD := Lib.hid (World.ownsRow_made (base := w.heap.size) (e := 94) (size := 2) w #[] 0 (Nat.le_refl _) (Nat.zero_le _) (by simp))
    have HFL := Lib.hid (fl_len len_link L)
    have H1S := Lib.hid (one_fl one_link L)
    have HAL := Lib.hid hal
    clear hC hal
    go_enter Tryd.func85, Tryd.ntmps85
    go_wp2_with (at_builtin; refine wpList_append_lit rfl _ _ 29 rfl w.heap.size 94 i1 _ 2 32 w.heap.size Tryd.underlying29 hi hz0 hz1 hz2 rfl (by decide) rfl HMD.out (some a) L.length c (L.flatMap KV.cells) rfl HFL.out HIN.out H1S.out (by simp only [maxLen]; omega) (by omega) (by simp) ?_)
    intro A' c' w1 hown hgrow
    have hbl : Below w.heap.size w w1 := HAL.out.grown hgrow (by simp) (by intro k hk; cases hk)
    clear hi hz0 hz1 hz2
    go_wp2_with fail
    go_ret
    exact ⟨_, _, rfl, hown, hbl⟩
set_option maxRecDepth 100000 in
set_option maxHeartbeats 4000000 in
theorem clone_era (A : Option Addr) (c : Nat) (L : List EV) (w : World) (hl : L.length ≤ 1100000) (hC : CellsIn 13 EV.cells w A L) :
    Calls Tryd.prog 87 #[.slice A L.length c] w fun e w' => ∃ A' c', e = .returned (.slice A' L.length c') ∧ RowOf w' w.heap.size 47 13 EV.cells A' c' L ∧ Below w.heap.size w w' := by
  have hq := fun (w : World) (a : Option Addr) (n c n' c' : Nat) => Lib.run_eql_slice_nil (P := Tryd.prog) w 37 47 a n c n' c' Tryd.underlying37
  cases A with
  | none =>
    obtain rfl : L = [] := by
      cases L with
      | nil => rfl
      | cons x L => obtain ⟨b, o, h, _⟩ := hC 0 x rfl; cases h
    go_enter Tryd.func87, Tryd.ntmps87
    go_wp2_with fail
    go_ret
    exact ⟨none, 0, rfl, World.ownsRow_nil .., Below.refl _ _⟩
  | some a =>
    obtain ⟨i1, hi, hz0, hz1, hz2⟩ := info_parts infoEra
    have hal := (Below.refl w.heap.size w).alloc (Nat.le_refl _) (.cells #[] 47)
    have HIN := Lib.hid (in_news len_era (by decide) (hC.below hal))
    have HMD := Lib.hid (World.ownsRow_made (base := w.heap.size) (e := 47) (size := 13) w #[] 0 (Nat.le_refl _) (Nat.zero_le _) (by simp))
    have HFL := Lib.hid (fl_len len_era L)
    have H1S := Lib.hid (one_fl one_era L)
    have HAL := Lib.hid hal
    clear hC hal
    go_enter Tryd.func87, Tryd.ntmps87
    go_wp2_with (at_builtin; refine wpList_append_lit rfl _ _ 37 rfl w.heap.size 47 i1 _ 13 120 w.heap.size Tryd.underlying37 hi hz0 hz1 hz2 rfl (by decide) rfl HMD.out (some a) L.length c (L.flatMap EV.cells) rfl HFL.out HIN.out H1S.out (by simp only [maxLen]; omega) (by omega) (by simp) ?_)
    intro A' c' w1 hown hgrow
    have hbl : Below w.heap.size w w1 := HAL.out.grown hgrow (by simp) (by intro k hk; cases hk)
    clear hi hz0 hz1 hz2
    go_wp2_with fail
    go_ret
    exact ⟨_, _, rfl, hown, hbl⟩
set_option maxRecDepth 100000 in
set_option maxHeartbeats 4000000 in
theorem clone_str (A : Option Addr) (c : Nat) (L : List ByteArray) (w : World) (hl : L.length ≤ 1100000) (hC : CellsIn 1 (fun b : ByteArray => [Value.string b]) w A L) :
    Calls Tryd.prog 86 #[.slice A L.length c] w fun e w' => ∃ A' c', e = .returned (.slice A' L.length c') ∧ RowOf w' w.heap.size 9 1 (fun b : ByteArray => [Value.string b]) A' c' L ∧ Below w.heap.size w w' := by
  have hq := fun (w : World) (a : Option Addr) (n c n' c' : Nat) => Lib.run_eql_slice_nil (P := Tryd.prog) w 30 9 a n c n' c' Tryd.underlying30
  cases A with
  | none =>
    obtain rfl : L = [] := by
      cases L with
      | nil => rfl
      | cons x L => obtain ⟨b, o, h, _⟩ := hC 0 x rfl; cases h
    go_enter Tryd.func86, Tryd.ntmps86
    go_wp2_with fail
    go_ret
    exact ⟨none, 0, rfl, World.ownsRow_nil .., Below.refl _ _⟩
  | some a =>
    obtain ⟨i1, hi, hz0, hz1, hz2⟩ := info_parts infoStrC
    have hal := (Below.refl w.heap.size w).alloc (Nat.le_refl _) (.cells #[] 9)
    have HIN := Lib.hid (in_news len_str (by decide) (hC.below hal))
    have HMD := Lib.hid (World.ownsRow_made (base := w.heap.size) (e := 9) (size := 1) w #[] 0 (Nat.le_refl _) (Nat.zero_le _) (by simp))
    have HFL := Lib.hid (fl_len len_str L)
    have H1S := Lib.hid (one_fl one_str L)
    have HAL := Lib.hid hal
    clear hC hal
    go_enter Tryd.func86, Tryd.ntmps86
    go_wp2_with (at_builtin; refine wpList_append_lit rfl _ _ 30 rfl w.heap.size 9 i1 _ 1 16 w.heap.size Tryd.underlying30 hi hz0 hz1 hz2 rfl (by decide) rfl HMD.out (some a) L.length c (L.flatMap (fun b : ByteArray => [Value.string b])) rfl HFL.out HIN.out H1S.out (by simp only [maxLen]; omega) (by omega) (by simp) ?_)
    intro A' c' w1 hown hgrow
    have hbl : Below w.heap.size w w1 := HAL.out.grown hgrow (by simp) (by intro k hk; cases hk)
    clear hi hz0 hz1 hz2
    go_wp2_with fail
    go_ret
    exact ⟨_, _, rfl, hown, hbl⟩
end Go.Proofs.YtlideagcmhlkeaaDoor

/- A law on regions that draw their order, by what each operation leaves: each operation is walked once, whatever the order. No function of the program. -/
namespace Go.Proofs.YtlideagcmhlkeaaDoor
open Go
set_option linter.unusedVariables false

/-- what must stand ahead of operation i -/
def rdeps (ops : Array Oper) (i : Nat) : List Nat := match ops[i]? with
  | some o => (o.after.toList.filter (Region.binds .any)).map (·.on)
  | none => []
def rdst (ops : Array Oper) (i : Nat) : Option Nat := (ops[i]?).bind (·.dst)
def upd (y : Nat → Value) (d : Option Nat) (v : Value) : Nat → Value := match d with
  | some d => fun k => if k = d then v else y k
  | none => y
theorem ready_spec {ops : Array Oper} {listed : Array Bool} {i : Nat} (h : i ∈ Region.ready .any ops listed) : i < ops.size ∧ listed.getD i true = false ∧ ∀ d ∈ rdeps ops i, listed.getD d false = true := by
  unfold Region.ready at h
  rw [List.mem_filter, List.mem_range] at h
  obtain ⟨h1, h2⟩ := h
  rw [Array.getElem?_eq_getElem h1] at h2
  simp only [Option.map_some, Option.getD_some, Bool.and_eq_true, Bool.not_eq_true', Array.all_eq_true_iff_forall_mem, Bool.or_eq_true] at h2
  refine ⟨h1, h2.1, fun d hd => ?_⟩
  unfold rdeps at hd
  rw [Array.getElem?_eq_getElem h1] at hd
  simp only [List.mem_map, List.mem_filter, Array.mem_toList_iff] at hd
  obtain ⟨e, ⟨he, hb⟩, rfl⟩ := hd
  rcases h2.2 e he with q | q
  · rw [hb] at q; cases q
  · exact q
theorem ready_of {ops : Array Oper} {listed : Array Bool} {i : Nat} (h1 : i < ops.size) (h2 : listed.getD i true = false) (h3 : ∀ d ∈ rdeps ops i, listed.getD d false = true) : i ∈ Region.ready .any ops listed := by
  unfold Region.ready
  rw [List.mem_filter, List.mem_range]
  refine ⟨h1, ?_⟩
  rw [Array.getElem?_eq_getElem h1]
  simp only [Option.map_some, Option.getD_some, Bool.and_eq_true, Bool.not_eq_true', Array.all_eq_true_iff_forall_mem, Bool.or_eq_true]
  refine ⟨h2, fun e he => ?_⟩
  by_cases hb : Region.binds .any e = true
  · refine .inr (h3 e.on ?_)
    unfold rdeps
    rw [Array.getElem?_eq_getElem h1]
    simp only [List.mem_map, List.mem_filter, Array.mem_toList_iff]
    exact ⟨e, ⟨he, hb⟩, rfl⟩
  · exact .inl (by simpa using hb)
/-- the operations of which nothing is left open stand ahead of it -/
theorem all_listed {ops : Array Oper} {listed : Array Bool} (hs : listed.size = ops.size) (hlt : ∀ i, i < ops.size → ∀ d ∈ rdeps ops i, d < i) (h : Region.ready .any ops listed = []) : ∀ i, i < ops.size → listed.getD i false = true := by
  intro i
  induction i using Nat.strongRecOn with
  | ind i ih =>
    intro hi
    cases q : listed.getD i false with
    | true => rfl
    | false =>
      have q' : listed.getD i true = false := by
        rw [Array.getD_eq_getD_getElem?, Array.getElem?_eq_getElem (by omega)] at q ⊢
        exact q
      have := ready_of hi q' fun d hd => ih d (hlt i hi d hd) (Nat.lt_trans (hlt i hi d hd) hi)
      rw [h] at this; cases this

section
variable {P : Program} {ops : Array Oper} {Q : Exit → Act → World → Prop}
def unl (listed : Array Bool) : Nat := (listed.toList.filter (fun b => !b)).length
theorem unl_set {listed : Array Bool} {i : Nat} (h : listed.getD i true = false) : unl (listed.setIfInBounds i true) + 1 = unl listed := by
  unfold unl
  rw [Array.toList_setIfInBounds]
  rw [Array.getD_eq_getD_getElem?, ← Array.getElem?_toList] at h
  generalize listed.toList = l at h ⊢
  induction l generalizing i with
  | nil => simp at h
  | cons b l ih =>
    cases i with
    | zero =>
      simp at h
      subst h
      simp
    | succ i =>
      rw [List.getElem?_cons_succ] at h
      rw [List.set_cons_succ]
      cases b <;> simp [ih h]
theorem unl_zero {listed : Array Bool} (h : unl listed = 0) (i : Nat) : listed.getD i true = true := by
  unfold unl at h
  have := List.length_eq_zero_iff.1 h
  rw [List.filter_eq_nil_iff] at this
  rw [Array.getD_eq_getD_getElem?]
  cases q : listed[i]? with
  | none => rfl
  | some b =>
    have hb : b ∈ listed.toList := by rw [← Array.getElem?_toList] at q; exact List.mem_of_getElem? q
    have := this b hb
    simpa using this
/-- whatever the order, by an invariant -/
theorem wpAny_inv (I : Array Bool → Act → World → Prop) (hstep : ∀ listed a w i, I listed a w → i ∈ Region.ready .any ops listed → wpOp P ops Q i (fun a' w' => I (listed.setIfInBounds i true) a' w') a w)
    (hdone : ∀ listed a w, I listed a w → Region.ready .any ops listed = [] → Q .normal a w) : ∀ (fuel : Nat) (listed : Array Bool) (a : Act) (w : World), unl listed ≤ fuel → I listed a w → wpAny P .any ops Q fuel listed a w
  | 0, listed, a, w, hu, h => by
    have hr : Region.ready .any ops listed = [] := by
      apply List.eq_nil_iff_forall_not_mem.2
      intro i hi
      have h1 := (ready_spec hi).2.1
      rw [unl_zero (by omega) i] at h1; cases h1
    exact ⟨hr, hdone _ _ _ h hr⟩
  | fuel + 1, listed, a, w, hu, h => ⟨fun hr => hdone _ _ _ h hr, fun i hi => wpOp_mono (fun a' w' h' => wpAny_inv I hstep hdone fuel _ a' w' (by have := unl_set (ready_spec hi).2.1; omega) h') (hstep _ _ _ _ h hi)⟩

/-- what operation j has left: a value that is known ahead, or what X says -/
def Left17 (ops : Array Oper) (val : Nat → Option Value) (X : Nat → (Nat → Value) → World → Prop) (j : Nat) (y : Nat → Value) (w : World) : Prop :=
  match val j with
  | some v => ∀ d, rdst ops j = some d → y d = v
  | none => X j y w
theorem Left17.known {val : Nat → Option Value} {X : Nat → (Nat → Value) → World → Prop} {j : Nat} {y : Nat → Value} {w : World} (h : Left17 ops val X j y w) {v : Value} (hv : val j = some v) {d : Nat} (hd : rdst ops j = some d) : y d = v := by
  unfold Left17 at h; rw [hv] at h; exact h d hd
theorem Left17.other {val : Nat → Option Value} {X : Nat → (Nat → Value) → World → Prop} {j : Nat} {y : Nat → Value} {w : World} (h : Left17 ops val X j y w) (hv : val j = none) : X j y w := by
  unfold Left17 at h; rw [hv] at h; exact h
/-- THE LAW: each operation by itself, behind those that must stand ahead of it. fr: the frame by the slots that the region makes; val: the values known ahead; X: what the others leave, by the slots Kx; G: what a step may do to the world. -/
theorem wp_region_inv {id : Nat} {a : Act} {w : World} (fr : (Nat → Value) → Act) (y0 : Nat → Value) (val : Nat → Option Value) (X : Nat → (Nat → Value) → World → Prop) (Kx : Nat → List Nat) (G : World → World → Prop) (S : World → Prop)
    (hm : P.follows .mixedOrders = true) (ha : a = fr y0) (hS : S w.drew)
    (hlt : ∀ i, i < ops.size → ∀ d ∈ rdeps ops i, d < i)
    (hput : ∀ i d, i < ops.size → rdst ops i = some d → ∀ y v, (fr y).put (some d) v = fr (upd y (some d) v))
    (hloc : ∀ j, j < ops.size → val j = none → ∀ y y' w, (∀ k ∈ Kx j, y k = y' k) → X j y w → X j y' w)
    (hmono : ∀ j, j < ops.size → val j = none → (∃ i, i < ops.size ∧ i ≠ j ∧ i ∉ rdeps ops j) → ∀ y w w', G w w' → X j y w → X j y w')
    (hap : ∀ i j, i < ops.size → j < ops.size → i ≠ j → i ∉ rdeps ops j → ∀ d, rdst ops i = some d → (rdst ops j ≠ some d) ∧ (val j = none → d ∉ Kx j))
    (hstep : ∀ i, i < ops.size → ∀ o, ops[i]? = some o → ∀ y w, S w → (∀ d ∈ rdeps ops i, Left17 ops val X d y w) →
      ∀ K' : Act → World → Prop, Shut (∀ v a' w', a' = (fr y).put o.dst v → G w w' → S w' → (val i = some v ∨ (val i = none ∧ X i (upd y o.dst v) w')) → K' a' w') →
        if Region.wanted o (yielded ops (fr y).tmps) = true then Oper.wp P o (fr y) w K' Q else K' ((fr y).put o.dst undef) w)
    (hdone : ∀ y w, S w → (∀ j, j < ops.size → Left17 ops val X j y w) → Q .normal (fr y) w) : (Code.region id ops true).wp P Q a w := by
  refine wp_region_any hm ?_
  refine wpAny_inv (fun listed a w => listed.size = ops.size ∧ ∃ y, a = fr y ∧ S w ∧ (∀ j, listed.getD j false = true → j < ops.size ∧ Left17 ops val X j y w) ∧ ∀ j, listed.getD j false = true → ∀ d ∈ rdeps ops j, listed.getD d false = true) ?_ ?_ _ _ _ _ ?_ ?_
  · rintro listed a w i ⟨hsz, y, rfl, hSw, hl, hcl⟩ hi
    obtain ⟨h1, h2, h3⟩ := ready_spec hi
    have ho : ops[i]? = some (ops[i]'h1) := Array.getElem?_eq_getElem h1
    refine wpOp_step ho fun K' hK => ?_
    refine hstep i h1 _ ho y w hSw (fun d hd => (hl d (h3 d hd)).2) K' ?_
    intro v a' w' ha' hG hS' hnew
    refine hK _ _ ⟨by rw [Array.size_setIfInBounds]; exact hsz, upd y (ops[i]'h1).dst v, ?_, hS', ?_, ?_⟩
    · rw [ha']
      cases hd : (ops[i]'h1).dst with
      | none => rfl
      | some d => exact hput i d h1 (by unfold rdst; rw [ho]; exact hd) y v
    · intro j hj
      by_cases hij : j = i
      · subst hij
        refine ⟨h1, ?_⟩
        unfold Left17
        rcases hnew with hv | ⟨hv, hx⟩
        · rw [hv]
          intro d hd
          have hd' : (ops[j]'h1).dst = some d := by unfold rdst at hd; rw [ho] at hd; exact hd
          rw [hd']
          show (if d = d then v else y d) = v
          rw [if_pos rfl]
        · rw [hv]; exact hx
      · have hj' : listed.getD j false = true := by
          rw [Array.getD_eq_getD_getElem?, Array.getElem?_setIfInBounds, if_neg (fun q => hij q.symm)] at hj
          rw [Array.getD_eq_getD_getElem?]; exact hj
        obtain ⟨hjn, hf⟩ := hl j hj'
        have hni : i ∉ rdeps ops j := fun q => by
          have := hcl j hj' i q
          rw [Array.getD_eq_getD_getElem?] at this h2
          cases e : listed[i]? with
          | none => rw [e] at this; cases this
          | some b => rw [e] at this h2; simp at this h2; rw [this] at h2; cases h2
        refine ⟨hjn, ?_⟩
        cases hd : (ops[i]'h1).dst with
        | none =>
          unfold Left17 at hf ⊢
          cases hv : val j with
          | some u => rw [hv] at hf; exact hf
          | none => rw [hv] at hf; exact hmono j hjn hv ⟨i, h1, fun q => hij q.symm, hni⟩ y w w' hG hf
        | some d =>
          obtain ⟨a1, a2⟩ := hap i j h1 hjn (fun q => hij q.symm) hni d (by unfold rdst; rw [ho]; exact hd)
          unfold Left17 at hf ⊢
          cases hv : val j with
          | some u =>
            rw [hv] at hf
            intro d' hd'
            have hne : d' ≠ d := fun q => a1 (by rw [hd', q])
            show (if d' = d then v else y d') = u
            rw [if_neg hne]; exact hf d' hd'
          | none =>
            rw [hv] at hf
            refine hloc j hjn hv y _ w' (fun k hk => ?_) (hmono j hjn hv ⟨i, h1, fun q => hij q.symm, hni⟩ y w w' hG hf)
            have hne : k ≠ d := fun q => a2 hv (by rw [← q]; exact hk)
            show y k = if k = d then v else y k
            rw [if_neg hne]
    · intro j hj d hd
      have key : ∀ k, listed.getD k false = true → (listed.setIfInBounds i true).getD k false = true := fun k hk => by
        rw [Array.getD_eq_getD_getElem?] at hk ⊢
        rw [Array.getElem?_setIfInBounds]
        split
        · split
          · rfl
          · rename_i q1 q2; subst q1; rw [Array.getElem?_eq_none (by omega)] at hk; cases hk
        · exact hk
      by_cases hij : j = i
      · subst hij; exact key d (h3 d hd)
      · have hj' : listed.getD j false = true := by
          rw [Array.getD_eq_getD_getElem?, Array.getElem?_setIfInBounds, if_neg (fun q => hij q.symm)] at hj
          rw [Array.getD_eq_getD_getElem?]; exact hj
        exact key d (hcl j hj' d hd)
  · rintro listed a w ⟨hsz, y, rfl, hSw, hl, _⟩ hr
    exact hdone y w hSw fun j hj => (hl j (all_listed hsz hlt hr j hj)).2
  · unfold unl
    rw [Array.toList_replicate]
    simp
  · refine ⟨Array.size_replicate, y0, ha, hS, fun j hj => ?_, fun j hj => ?_⟩
    all_goals
      rw [Array.getD_eq_getD_getElem?, Array.getElem?_replicate] at hj
      split at hj <;> cases hj
/-- slots and what must stand ahead, read off the operations -/
def shapeOf (ops : List Oper) : List (Option Nat × List Nat) := ops.map fun o => (o.dst, (o.after.toList.filter (Region.binds .any)).map (·.on))
def sdst (sh : List (Option Nat × List Nat)) (i : Nat) : Option Nat := (sh.getD i (none, [])).1
def sdeps (sh : List (Option Nat × List Nat)) (i : Nat) : List Nat := (sh.getD i (none, [])).2
theorem rdst_shape {l : List Oper} {sh : List (Option Nat × List Nat)} (h : shapeOf l = sh) (i : Nat) : rdst l.toArray i = sdst sh i := by
  subst h
  unfold rdst sdst shapeOf
  rw [List.getD_eq_getElem?_getD, List.getElem?_map, List.getElem?_toArray]
  cases l[i]? <;> rfl
theorem rdeps_shape {l : List Oper} {sh : List (Option Nat × List Nat)} (h : shapeOf l = sh) (i : Nat) : rdeps l.toArray i = sdeps sh i := by
  subst h
  unfold rdeps sdeps shapeOf
  rw [List.getD_eq_getElem?_getD, List.getElem?_map, List.getElem?_toArray]
  cases l[i]? <;> rfl
/-- each stands behind those ahead of it; no two write one slot, nor one that another's facts speak of -/
def shapeOk (sh : List (Option Nat × List Nat)) (sp : Nat → Bool) (Kx : Nat → List Nat) : Bool :=
  (List.range sh.length).all fun i => (sdeps sh i).all (fun d => decide (d < i)) && (List.range sh.length).all fun j => (i == j) || (sdeps sh j).contains i || match sdst sh i with
    | none => true
    | some d => (sdst sh j != some d) && (!sp j || !(Kx j).contains d)
/-- what operation j has left, by the shape -/
def LeftS (sh : List (Option Nat × List Nat)) (val : Nat → Option Value) (X : Nat → (Nat → Value) → World → Prop) (j : Nat) (y : Nat → Value) (w : World) : Prop :=
  match val j with
  | some v => ∀ d, sdst sh j = some d → y d = v
  | none => X j y w
theorem LeftS.of {l : List Oper} {sh : List (Option Nat × List Nat)} (hsh : shapeOf l = sh) {val : Nat → Option Value} {X : Nat → (Nat → Value) → World → Prop} {j : Nat} {y : Nat → Value} {w : World} (h : Left17 l.toArray val X j y w) : LeftS sh val X j y w := by
  unfold Left17 at h
  unfold LeftS
  cases hv : val j with
  | none => rw [hv] at h; exact h
  | some v => rw [hv] at h; exact fun d hd => h d (by rw [rdst_shape hsh]; exact hd)
/-- all others stand ahead of operation j -/
def lastB (sh : List (Option Nat × List Nat)) (j : Nat) : Bool := (List.range sh.length).all fun i => (i == j) || (sdeps sh j).contains i
def valOf (sp : Nat → Bool) (vals : List Value) (j : Nat) : Option Value := if sp j = true then none else some (vals.getD j undef)
/-- a step of the law: operation i alone -/
def StepOk (P : Program) (ops : Array Oper) (Q : Exit → Act → World → Prop) (fr : (Nat → Value) → Act) (sh : List (Option Nat × List Nat)) (sp : Nat → Bool) (vals : List Value) (X : Nat → (Nat → Value) → World → Prop) (G : World → World → Prop) (S : World → Prop) (i : Nat) (o : Oper) : Prop :=
  ∀ y w, S w → (∀ d, (sdeps sh i).contains d = true → LeftS sh (valOf sp vals) X d y w) →
    ∀ K' : Act → World → Prop, Shut (∀ v a' w', a' = (fr y).put o.dst v → G w w' → S w' → (valOf sp vals i = some v ∨ (valOf sp vals i = none ∧ X i (upd y o.dst v) w')) → K' a' w') →
      if Region.wanted o (yielded ops (fr y).tmps) = true then Oper.wp P o (fr y) w K' Q else K' ((fr y).put o.dst undef) w
def StepsOk (P : Program) (ops : Array Oper) (Q : Exit → Act → World → Prop) (fr : (Nat → Value) → Act) (sh : List (Option Nat × List Nat)) (sp : Nat → Bool) (vals : List Value) (X : Nat → (Nat → Value) → World → Prop) (G : World → World → Prop) (S : World → Prop) (i : Nat) (l : List Oper) : Prop :=
  ∀ k o, l[k]? = some o → StepOk P ops Q fr sh sp vals X G S (i + k) o
section
variable {fr : (Nat → Value) → Act} {sh : List (Option Nat × List Nat)} {sp : Nat → Bool} {vals : List Value} {X : Nat → (Nat → Value) → World → Prop} {G : World → World → Prop} {S : World → Prop}
theorem StepsOk.nil {i : Nat} : StepsOk P ops Q fr sh sp vals X G S i [] := fun k o h => by simp at h
theorem StepsOk.cons {i : Nat} {o : Oper} {l : List Oper} (h : StepOk P ops Q fr sh sp vals X G S i o) (hl : StepsOk P ops Q fr sh sp vals X G S (i + 1) l) : StepsOk P ops Q fr sh sp vals X G S i (o :: l) := fun k o' ho => by
  cases k with
  | zero => rw [List.getElem?_cons_zero] at ho; injection ho with ho; subst ho; exact h
  | succ k =>
    rw [List.getElem?_cons_succ] at ho
    have := hl k o' ho
    rwa [show i + 1 + k = i + (k + 1) by omega] at this
/-- a step whose value is known ahead -/
theorem StepOk.known {i : Nat} {o : Oper} (hi : sp i = false) (h : ∀ y w, S w → (∀ d, (sdeps sh i).contains d = true → LeftS sh (valOf sp vals) X d y w) →
    ∀ K' : Act → World → Prop, Shut (∀ a' w', a' = (fr y).put o.dst (vals.getD i undef) → G w w' → S w' → K' a' w') →
      if Region.wanted o (yielded ops (fr y).tmps) = true then Oper.wp P o (fr y) w K' Q else K' ((fr y).put o.dst undef) w) : StepOk P ops Q fr sh sp vals X G S i o :=
  fun y w hS hd K' hK => h y w hS hd K' fun a' w' ha hG hS' => hK _ a' w' ha hG hS' (.inl (by unfold valOf; rw [if_neg (by rw [hi]; decide)]))
/-- a step whose value is not known ahead -/
theorem StepOk.other {i : Nat} {o : Oper} (hi : sp i = true) (h : ∀ y w, S w → (∀ d, (sdeps sh i).contains d = true → LeftS sh (valOf sp vals) X d y w) →
    ∀ K' : Act → World → Prop, Shut (∀ v a' w', a' = (fr y).put o.dst v → G w w' → S w' → X i (upd y o.dst v) w' → K' a' w') →
      if Region.wanted o (yielded ops (fr y).tmps) = true then Oper.wp P o (fr y) w K' Q else K' ((fr y).put o.dst undef) w) : StepOk P ops Q fr sh sp vals X G S i o :=
  fun y w hS hd K' hK => h y w hS hd K' fun v a' w' ha hG hS' hx => hK v a' w' ha hG hS' (.inr ⟨by unfold valOf; rw [if_pos hi], hx⟩)
end
/-- THE LAW, by the shape -/
theorem wp_region_shape {id : Nat} {l : List Oper} {Q : Exit → Act → World → Prop} {a : Act} {w : World} (sh : List (Option Nat × List Nat)) (fr : (Nat → Value) → Act) (y0 : Nat → Value) (sp : Nat → Bool) (vals : List Value) (X : Nat → (Nat → Value) → World → Prop) (Kx : Nat → List Nat) (G : World → World → Prop) (S : World → Prop)
    (hm : P.follows .mixedOrders = true) (hsh : shapeOf l = sh) (hok : shapeOk sh sp Kx = true) (ha : a = fr y0) (hS : S w.drew)
    (hput : ∀ d ∈ sh.filterMap (·.1), ∀ y v, (fr y).put (some d) v = fr (upd y (some d) v))
    (hloc : ∀ j, sp j = true → ∀ y y' w, (∀ k ∈ Kx j, y k = y' k) → X j y w → X j y' w)
    (hmono : ∀ j, sp j = true → lastB sh j = false → ∀ y w w', G w w' → X j y w → X j y w')
    (hstep : StepsOk P l.toArray Q fr sh sp vals X G S 0 l)
    (hdone : ∀ y w, S w → (∀ j, j < sh.length → LeftS sh (valOf sp vals) X j y w) → Q .normal (fr y) w) : (Code.region id l.toArray true).wp P Q a w := by
  have hlen : l.length = sh.length := by rw [← hsh]; unfold shapeOf; rw [List.length_map]
  have hsz : l.toArray.size = sh.length := by rw [List.size_toArray, hlen]
  have hsp : ∀ j, valOf sp vals j = none → sp j = true := fun j h => by
    unfold valOf at h; split at h
    · assumption
    · cases h
  have hok' := hok
  unfold shapeOk at hok'
  rw [List.all_eq_true] at hok'
  refine wp_region_inv fr y0 (valOf sp vals) X Kx G S hm ha hS ?_ ?_ ?_ ?_ ?_ ?_ ?_
  · intro i hi d hd
    rw [hsz] at hi
    rw [rdeps_shape hsh] at hd
    have := hok' i (List.mem_range.2 hi)
    rw [Bool.and_eq_true, List.all_eq_true] at this
    exact of_decide_eq_true (this.1 d hd)
  · intro i d hi hd y v
    rw [rdst_shape hsh] at hd
    refine hput d (List.mem_filterMap.2 ⟨sh.getD i (none, []), ?_, hd⟩) y v
    rw [hsz] at hi
    rw [List.getD_eq_getElem?_getD, List.getElem?_eq_getElem hi]
    exact List.getElem_mem _
  · intro j _ hv; exact hloc j (hsp j hv)
  · intro j _ hv ⟨i, hi, hij, hni⟩
    refine hmono j (hsp j hv) ?_
    unfold lastB
    rw [List.all_eq_false]
    refine ⟨i, List.mem_range.2 (by rw [← hsz]; exact hi), ?_⟩
    rw [rdeps_shape hsh] at hni
    simp [hij, hni]
  · intro i j hi hj hij hni d hd
    rw [hsz] at hi hj
    rw [rdeps_shape hsh] at hni
    rw [rdst_shape hsh] at hd ⊢
    have := hok' i (List.mem_range.2 hi)
    rw [Bool.and_eq_true, List.all_eq_true, List.all_eq_true] at this
    have q := this.2 j (List.mem_range.2 hj)
    rw [hd] at q
    simp only [Bool.or_eq_true, beq_iff_eq, Bool.and_eq_true, bne_iff_ne, Bool.not_eq_true', List.contains_iff_mem] at q
    rcases q with (q | q) | ⟨q1, q2⟩
    · exact absurd q hij
    · exact absurd q hni
    · refine ⟨q1, fun hv hk => ?_⟩
      rcases q2 with q2 | q2
      · rw [hsp j hv] at q2; cases q2
      · rw [List.contains_iff_mem.2 hk] at q2; cases q2
  · intro i hi o ho y w hSw hd K' hK
    have hs := hstep i o (by rw [List.getElem?_toArray] at ho; exact ho)
    rw [Nat.zero_add] at hs
    exact hs y w hSw (fun d hd' => LeftS.of hsh (hd d (by rw [rdeps_shape hsh]; exact List.contains_iff_mem.1 hd'))) K' hK
  · intro y w hSw h
    exact hdone y w hSw fun j hj => LeftS.of hsh (h j (by rw [hsz]; exact hj))
/-- a fact that an operation has left -/
theorem LeftS.val {sh : List (Option Nat × List Nat)} {sp : Nat → Bool} {vals : List Value} {X : Nat → (Nat → Value) → World → Prop} {j : Nat} {y : Nat → Value} {w : World} (h : LeftS sh (valOf sp vals) X j y w) {d : Nat} (hj : sp j = false) (hd : sdst sh j = some d) : y d = vals.getD j undef := by
  unfold LeftS valOf at h
  rw [if_neg (by rw [hj]; decide)] at h
  exact h d hd
theorem LeftS.ex {sh : List (Option Nat × List Nat)} {sp : Nat → Bool} {vals : List Value} {X : Nat → (Nat → Value) → World → Prop} {j : Nat} {y : Nat → Value} {w : World} (h : LeftS sh (valOf sp vals) X j y w) (hj : sp j = true) : X j y w := by
  unfold LeftS valOf at h
  rw [if_pos hj] at h
  exact h
end
end Go.Proofs.YtlideagcmhlkeaaDoor

/- What the steps of a drawn region keep that makes a source: rows of its own, and the box of the source. No function of the program. -/
namespace Go.Proofs.YtlideagcmhlkeaaDoor
open Go.RowKit
set_option linter.unusedVariables false

/-- blocks that hold no source stay as they are; boxes of sources stay boxes of sources -/
structure GS (W W' : World) : Prop where
  far : ∀ (g : Nat) (e : TypeId) (cur : Array Value), e ≠ 32 → W.heap[g]? = some (.cells cur e (0, 0)) → W'.heap[g]? = some (.cells cur e (0, 0))
  own : ∀ g, (∃ a b c d, Blk W g 32 #[a, b, c, d]) → ∃ a b c d, Blk W' g 32 #[a, b, c, d]
theorem GS.refl (W : World) : GS W W := ⟨fun _ _ _ _ h => h, fun _ h => h⟩
theorem GS.below {W W' : World} (h : Below W.heap.size W W') : GS W W' :=
  ⟨fun g e cur _ hb => (h.block g (Array.getElem?_eq_some_iff.1 hb).1).trans hb, fun g ⟨a, b, c, d, hb⟩ => ⟨a, b, c, d, hb.below h hb.lt⟩⟩
theorem GS.alloc (W : World) (ob : Obj) : GS W (W.alloc ob) := GS.below ((Below.refl _ W).alloc (Nat.le_refl _) ob)
theorem GS.trans {A B C : World} (h : GS A B) (k : GS B C) : GS A C := ⟨fun g e cur he hb => k.far g e cur he (h.far g e cur he hb), fun g hb => k.own g (h.own g hb)⟩
theorem GS.set_ {W : World} {g : Nat} {a b c d : Value} (hb : Blk W g 32 #[a, b, c, d]) (n : Nat) (u : Value) : GS W (W.setCell ⟨g, n, none⟩ u) := by
  refine ⟨fun g' e cur he h' => (Below.heap_setCell W _ u g' (fun q => he ?_)).trans h', fun g' ⟨a', b', c', d', hb'⟩ => ?_⟩
  · have q' : g' = g := q
    subst q'
    unfold Blk at hb
    rw [hb] at h'
    injection h' with h'
    injection h' with _ h' _
    exact h'.symm
  · by_cases q : g' = g
    · subst q
      have := hb.set_ n u
      match n with
      | 0 | 1 | 2 | 3 => exact ⟨_, _, _, _, this⟩
      | n + 4 =>
        rw [Array.setIfInBounds, dif_neg (by simp)] at this
        exact ⟨_, _, _, _, this⟩
    · exact ⟨a', b', c', d', hb'.far q u⟩
theorem GS.row {α : Type} {W W' : World} {base : Nat} {e : TypeId} {m : Nat} {f : α → List Value} {A : Option Addr} {c : Nat} {L : List α} (hg : GS W W') (he : e ≠ 32) (h : RowOf W base e m f A c L) : RowOf W' base e m f A c L := by
  refine ⟨h.1, ?_⟩
  rcases h.2 with q | ⟨g, cap, cur, hv, hb, hh, hr⟩
  · exact .inl q
  · exact .inr ⟨g, cap, cur, hv, hb, hg.far g e cur he hh, hr⟩
theorem GS.zones {W W' : World} {base : Nat} {Z Y : List ZV} (hg : GS W W') (h : ZonesIn W base Z Y) : ZonesIn W' base Z Y := ⟨h.same, fun i y hy => hg.row (by decide) (h.eras i y hy), h.apart⟩
theorem passR {α : Type} {W W' : World} {base : Nat} {e : TypeId} {m : Nat} {f : α → List Value} {L : List α} {p : Option Addr → Nat → Prop} (hg : GS W W') (he : e ≠ 32) (h : ∃ A c, p A c ∧ RowOf W base e m f A c L) : ∃ A c, p A c ∧ RowOf W' base e m f A c L := by
  obtain ⟨A, c, h1, h2⟩ := h
  exact ⟨A, c, h1, hg.row he h2⟩
/-- a source that boxes of sources can be written beside -/
def SrcG (W : World) (t : SV) : Prop := ∀ W', GS W W' → SrcIn W' t
theorem SrcG.src {W : World} {t : SV} (h : SrcG W t) : SrcIn W t := h W (GS.refl W)
theorem SrcG.step {W W' : World} {t : SV} (h : SrcG W t) (hg : GS W W') : SrcG W' t := fun V hv => h V (hg.trans hv)
theorem SrcG.below {W W' : World} {t : SV} (h : SrcG W t) (hb : Below W.heap.size W W') : SrcG W' t := h.step (GS.below hb)
/-- a whole source is written into its box -/
theorem GS.set4 {W : World} {g : Nat} {a b c d : Value} (hb : Blk W g 32 #[a, b, c, d]) (a' b' c' d' : Value) : GS W ((((W.setCell ⟨g, 0, none⟩ a').setCell ⟨g, 1, none⟩ b').setCell ⟨g, 2, none⟩ c').setCell ⟨g, 3, none⟩ d') ∧ Blk ((((W.setCell ⟨g, 0, none⟩ a').setCell ⟨g, 1, none⟩ b').setCell ⟨g, 2, none⟩ c').setCell ⟨g, 3, none⟩ d') g 32 #[a', b', c', d'] := by
  have t1 : Blk _ g 32 #[a', b, c, d] := hb.set_ 0 a'
  have t2 : Blk _ g 32 #[a', b', c, d] := t1.set_ 1 b'
  have t3 : Blk _ g 32 #[a', b', c', d] := t2.set_ 2 c'
  exact ⟨(GS.set_ hb 0 a').trans ((GS.set_ t1 1 b').trans ((GS.set_ t2 2 c').trans (GS.set_ t3 3 d'))), t3.set_ 3 d'⟩
theorem below_set4 {n : Nat} {w W : World} (h : Below n w W) {g : Nat} (hg : n ≤ g) (a b c d : Value) : Below n w ((((W.setCell ⟨g, 0, none⟩ a).setCell ⟨g, 1, none⟩ b).setCell ⟨g, 2, none⟩ c).setCell ⟨g, 3, none⟩ d) :=
  (((h.setCell (p := ⟨g, 0, none⟩) hg a).setCell (p := ⟨g, 1, none⟩) hg b).setCell (p := ⟨g, 2, none⟩) hg c).setCell (p := ⟨g, 3, none⟩) hg d
/-- a literal of no elements -/
def Lit0 (W : World) (base : Nat) (e : TypeId) (m : Nat) (v : Value) : Prop := ∃ B, v = .slice (some ⟨B, 0, none⟩) 0 0 ∧ W.ownsRow base e m (.slice (some ⟨B, 0, none⟩) 0 0) 0 []
theorem Lit0.made {base : Nat} {e : TypeId} {m : Nat} (W : World) (hb : base ≤ W.heap.size) : Lit0 (W.alloc (.cells #[] e)) base e m (.slice (some ⟨W.heap.size, 0, none⟩) 0 0) := ⟨_, rfl, World.ownsRow_made W #[] 0 hb (Nat.zero_le _) (by simp)⟩
theorem CopyOf.gs {W W' : World} {base : Nat} {s t : SV} (h : CopyOf W base s t) (hg : GS W W') : CopyOf W' base s t :=
  ⟨⟨h.rules.1, hg.row (by decide) h.rules.2⟩, ⟨hg.row (by decide) h.zones.1, hg.zones h.zones.2⟩, ⟨h.links.1, hg.row (by decide) h.links.2⟩, ⟨h.shifts.1, hg.row (by decide) h.shifts.2⟩⟩
theorem CopyOf.srcG {W : World} {base : Nat} {s t : SV} (h : CopyOf W base s t) : SrcG W t := fun _ hg => (h.gs hg).src
/-- a row of one call's own, for one that began earlier -/
theorem RowOf.low {α : Type} {W : World} {b b' : Nat} {e : TypeId} {m : Nat} {f : α → List Value} {A : Option Addr} {c : Nat} {L : List α} (h : RowOf W b e m f A c L) (hb : b' ≤ b) : RowOf W b' e m f A c L := own_base h hb
end Go.Proofs.YtlideagcmhlkeaaDoor

/- expand.each: all FORMATs of a source are changed, or the first error comes back. -/
namespace Go.Proofs.YtlideagcmhlkeaaDoor
open Go.RowKit Go.Lib
set_option linter.unusedVariables false
set_option linter.unusedSimpArgs false

theorem RowOf.addr {α : Type} {W : World} {base : Nat} {e : TypeId} {m : Nat} {f : α → List Value} {A : Option Addr} {c : Nat} {L : List α} (h : RowOf W base e m f A c L) (hl : 0 < L.length) : ∃ B, A = some ⟨B, 0, none⟩ ∧ base ≤ B ∧ B < W.heap.size := by
  rcases h.2 with ⟨_, q⟩ | ⟨g, cap, cur, hv, hb, hh, _⟩
  · omega
  · injection hv with hA
    exact ⟨g, hA, hb, (Array.getElem?_eq_some_iff.1 hh).1⟩
theorem RowOf.cellAt {α : Type} {W : World} {base : Nat} {e : TypeId} {m : Nat} {f : α → List Value} {B : Nat} {c : Nat} {L : List α} (h : RowOf W base e m f (some ⟨B, 0, none⟩) c L) (hf : ∀ a, (f a).length = m) {k : Nat} {x : α} (hx : L[k]? = some x) (j : Nat) (u : Value) (hu : (f x)[j]? = some u) : W.cell? ⟨B, k * m + j, none⟩ = some u := by
  obtain ⟨b, o, hA, _, hc⟩ := h.cellsIn hf k x hx
  injection hA with hA
  injection hA with h1 h2
  subst h1
  subst h2
  have := hc j u hu
  rwa [Nat.zero_add] at this
theorem RowOf.frozenAt {α : Type} {W : World} {base : Nat} {e : TypeId} {m : Nat} {f : α → List Value} {B : Nat} {c : Nat} {L : List α} (h : RowOf W base e m f (some ⟨B, 0, none⟩) c L) (j : Nat) : W.frozen? ⟨B, j, none⟩ = false := World.ownsRow.frozenAt h j
/-- where the walk of each stands: the boxes, the copied rows, the zones that are done -/
structure Ea (w W : World) (s : SV) (G : EV → EV) (b1 g : Nat) (A1 : Option Addr) (c1 : Nat) (A2 : Option Addr) (c2 : Nat) (A3 : Option Addr) (c3 : Nat) (zA : Option Addr) (zc : Nat) (Y : List ZV) (k : Nat) : Prop where
  src : Blk W w.heap.size 32 #[.slice s.rA s.rules.length s.rc, .slice s.zA s.zones.length s.zc, .slice s.kA s.links.length s.kc, .slice s.hA s.shifts.length s.hc]
  res : Blk W (w.heap.size + 1) 32 #[.slice none 0 0, .slice none 0 0, .slice none 0 0, .slice none 0 0]
  own : Blk W g 32 #[.slice A1 s.rules.length c1, .slice zA Y.length zc, .slice A2 s.links.length c2, .slice A3 s.shifts.length c3]
  rules : RowOf W (w.heap.size + 2) 83 11 RV.cells A1 c1 s.rules
  links : RowOf W (w.heap.size + 2) 94 2 KV.cells A2 c2 s.links
  shifts : RowOf W (w.heap.size + 2) 9 1 (fun b : ByteArray => [Value.string b]) A3 c3 s.shifts
  zrow : RowOf W b1 39 2 ZV.cells zA zc Y
  zin : ZonesIn W b1 ((s.zones.map (mapE G)).take k) Y
  bel : Below w.heap.size w W
  gle : w.heap.size + 2 ≤ g ∧ g < b1 ∧ b1 ≤ W.heap.size
theorem Ea.below {w W W' : World} {s : SV} {G : EV → EV} {b1 g c1 c2 c3 zc k : Nat} {A1 A2 A3 zA : Option Addr} {Y : List ZV} (h : Ea w W s G b1 g A1 c1 A2 c2 A3 c3 zA zc Y k) (hb : Below W.heap.size W W') : Ea w W' s G b1 g A1 c1 A2 c2 A3 c3 zA zc Y k :=
  ⟨h.src.below hb h.src.lt, h.res.below hb h.res.lt, h.own.below hb h.own.lt, h.rules.below hb, h.links.below hb, h.shifts.below hb, h.zrow.below hb, h.zin.below hb, h.bel.trans (hb.mono h.bel.size), h.gle.1, h.gle.2.1, Nat.le_trans h.gle.2.2 hb.size⟩
/-- one zone more -/
theorem Ea.snoc {w W W' : World} {s : SV} {G : EV → EV} {b1 g c1 c2 c3 zc zc' k : Nat} {A1 A2 A3 zA zA' : Option Addr} {Y Y' : List ZV} (h : Ea w W s G b1 g A1 c1 A2 c2 A3 c3 zA zc Y k) (hg : W.grownBy W' (Value.slice zA Y.length zc).ownBlock) (hr : RowOf W' b1 39 2 ZV.cells zA' zc' Y')
    (hz : ZonesIn W b1 ((s.zones.map (mapE G)).take (k + 1)) Y') : Ea w (W'.setCell ⟨g, 1, none⟩ (.slice zA' Y'.length zc')) s G b1 g A1 c1 A2 c2 A3 c3 zA' zc' Y' (k + 1) := by
  have o := blk_grown h.own h.zrow hg h.gle.2.1
  have q := GS.set_ o 1 (.slice zA' Y'.length zc')
  have hlt := h.gle
  exact ⟨(blk_grown h.src h.zrow hg (by omega)).far (by show _ ≠ g; omega) _, (blk_grown h.res h.zrow hg (by omega)).far (by show _ ≠ g; omega) _, o.set_ 1 (.slice zA' Y'.length zc'), q.row (by decide) (row_other h.rules h.zrow (by decide) hg), q.row (by decide) (row_other h.links h.zrow (by decide) hg), q.row (by decide) (row_other h.shifts h.zrow (by decide) hg),
    q.row (by decide) hr, q.zones (hz.other h.zrow (by decide) hg), (own_grown h.bel h.zrow hg h.bel.size (by omega)).setCell (by show w.heap.size ≤ g; omega) _, h.gle.1, h.gle.2.1, by simpa using Nat.le_trans h.gle.2.2 hg.size⟩
end Go.Proofs.YtlideagcmhlkeaaDoor

/- Places of eras, a copy turned place by place, and the iterator turn.eras (chapter 29). -/
namespace Go.Proofs.YtlideagcmhlkeaaDoor
open Go.RowKit Go.Shelf Go.Proofs
set_option linter.unusedVariables false
set_option linter.unusedSimpArgs false
attribute [local go_sem] Oper.semAt_some

/-- how many eras the zone at a place has -/
def eLen (Z : List ZV) (i : Nat) : Nat := (Z[i]?.map (·.eras.length)).getD 0
theorem eLen_at {Z : List ZV} {i : Nat} {z : ZV} (h : Z[i]? = some z) : eLen Z i = z.eras.length := by unfold eLen; rw [h]; rfl
/-- the places in front of a place -/
def plTo (Z : List ZV) (i k : Nat) : List (Nat × Nat) := ((List.range i).flatMap fun a => (List.range (eLen Z a)).map fun b => (a, b)) ++ (List.range k).map fun b => (i, b)
theorem plTo_succ (Z : List ZV) (i k : Nat) : plTo Z i (k + 1) = plTo Z i k ++ [(i, k)] := by
  unfold plTo
  rw [List.range_succ, List.map_append, List.append_assoc]
  rfl
theorem plTo_zone (Z : List ZV) (i : Nat) : plTo Z (i + 1) 0 = plTo Z i (eLen Z i) := by
  unfold plTo
  rw [List.range_succ, List.flatMap_append, List.flatMap_singleton]
  simp
/-- an era changed at a place -/
def chgP (G : EV → EV) (Y : List ZV) (p : Nat × Nat) : List ZV := Y.modify p.1 fun y => { y with eras := y.eras.modify p.2 G }
theorem chgP_set {G : EV → EV} {Y : List ZV} {i k : Nat} {y : ZV} {e : EV} (hy : Y[i]? = some y) (he : y.eras[k]? = some e) : chgP G Y (i, k) = Y.set i { y with eras := y.eras.set k (G e) } := by
  unfold chgP
  refine List.ext_getElem? fun j => ?_
  rw [List.getElem?_modify, List.getElem?_set]
  by_cases hi : i = j
  · subst hi
    rw [hy, if_pos rfl, if_pos (List.getElem?_eq_some_iff.1 hy).1]
    show some (if i = i then ({ y with eras := y.eras.modify k G } : ZV) else y) = some _
    rw [if_pos rfl]
    refine congrArg (fun E => some ({ y with eras := E } : ZV)) (List.ext_getElem? fun b => ?_)
    rw [List.getElem?_modify, List.getElem?_set]
    by_cases hb : k = b
    · subst hb
      rw [he, if_pos rfl, if_pos (List.getElem?_eq_some_iff.1 he).1]
      show some (if k = k then G e else e) = some _
      rw [if_pos rfl]
    · rw [if_neg hb]
      cases y.eras[b]? with
      | none => rfl
      | some x =>
        show some (if k = b then G x else x) = some x
        rw [if_neg hb]
  · rw [if_neg hi]
    cases Y[j]? with
    | none => rfl
    | some x =>
      show some (if i = j then ({ x with eras := x.eras.modify k G } : ZV) else x) = some x
      rw [if_neg hi]
def chgs (G : EV → EV) (Y : List ZV) (l : List (Nat × Nat)) : List ZV := l.foldl (chgP G) Y
theorem chgs_snoc (G : EV → EV) (Y : List ZV) (l : List (Nat × Nat)) (p : Nat × Nat) : chgs G Y (l ++ [p]) = chgP G (chgs G Y l) p := by unfold chgs; rw [List.foldl_append]; rfl
theorem chgs_era (G : EV → EV) (Z : List ZV) {i : Nat} {z : ZV} (hz : Z[i]? = some z) (h : part30 G Z (chgs G Z (plTo Z i 0)) i 0) : ∀ k, k ≤ z.eras.length → part30 G Z (chgs G Z (plTo Z i k)) i k
  | 0, _ => h
  | k + 1, hk => by
    have q := chgs_era G Z hz h k (by omega)
    obtain ⟨e, he⟩ : ∃ e, z.eras[k]? = some e := ⟨_, List.getElem?_eq_getElem (by omega)⟩
    obtain ⟨y, hy, hye⟩ := q.at_ hz he
    rw [plTo_succ, chgs_snoc, chgP_set hy hye]
    exact q.step hz hy he
theorem chgs_zone (G : EV → EV) (Z : List ZV) : ∀ i, i ≤ Z.length → part30 G Z (chgs G Z (plTo Z i 0)) i 0
  | 0, _ => part30.start (zSame14.refl Z)
  | i + 1, hi => by
    obtain ⟨z, hz⟩ : ∃ z, Z[i]? = some z := ⟨_, List.getElem?_eq_getElem (by omega)⟩
    have q := chgs_era G Z hz (chgs_zone G Z i (by omega)) z.eras.length (Nat.le_refl _)
    rw [plTo_zone, eLen_at hz]
    exact q.zone hz (Nat.le_refl _)
/-- all places: all eras are changed -/
theorem chgs_all (G : EV → EV) (Z : List ZV) : zSame14 (chgs G Z (plTo Z Z.length 0)) (Z.map (mapE G)) := (chgs_zone G Z Z.length (Nat.le_refl _)).all (Nat.le_refl _)
/-- places that there are -/
def PlOk (Z : List ZV) (p : Nat × Nat) : Prop := ∃ z e, Z[p.1]? = some z ∧ z.eras[p.2]? = some e
/-- what changes at a place keep: names, where rows lie, how long they are -/
def likeZ (Z Y : List ZV) : Prop := Y.length = Z.length ∧ ∀ (i : Nat) (z y : ZV), Z[i]? = some z → Y[i]? = some y → y.A = z.A ∧ y.c = z.c ∧ y.name = z.name ∧ y.eras.length = z.eras.length
theorem likeZ.refl (Z : List ZV) : likeZ Z Z := ⟨rfl, fun i z y h k => by rw [h] at k; injection k with k; subst k; exact ⟨rfl, rfl, rfl, rfl⟩⟩
theorem likeZ.chg {Z Y : List ZV} (h : likeZ Z Y) (G : EV → EV) (p : Nat × Nat) : likeZ Z (chgP G Y p) := by
  unfold chgP
  refine ⟨by rw [List.length_modify]; exact h.1, fun i z y hz hy => ?_⟩
  rw [List.getElem?_modify] at hy
  cases hq : Y[i]? with
  | none => rw [hq] at hy; cases hy
  | some x =>
    rw [hq] at hy
    have q := h.2 i z x hz hq
    injection hy with hy
    subst hy
    split
    · exact ⟨q.1, q.2.1, q.2.2.1, by show (x.eras.modify p.2 G).length = _; rw [List.length_modify]; exact q.2.2.2⟩
    · exact q
theorem likeZ.chgs {Z : List ZV} (G : EV → EV) : ∀ (l : List (Nat × Nat)) (Y : List ZV), likeZ Z Y → likeZ Z (chgs G Y l)
  | [], _, h => h
  | p :: l, Y, h => likeZ.chgs G l (chgP G Y p) (h.chg G p)
/-- the block of a zone's eras -/
def zb (Z : List ZV) (i : Nat) : Nat := ((Z[i]?.bind (·.A)).map (·.block)).getD 0
theorem zb_at {Z : List ZV} {i g : Nat} {z : ZV} (hz : Z[i]? = some z) (hA : z.A = some ⟨g, 0, none⟩) : zb Z i = g := by unfold zb; rw [hz]; show ((z.A).map (·.block)).getD 0 = g; rw [hA]; rfl
/-- blocks of cells stay but those of eras -/
def KE (A B : World) : Prop := ∀ (g : Nat) (e : TypeId) (cur : Array Value), e ≠ 47 → A.heap[g]? = some (.cells cur e (0, 0)) → B.heap[g]? = some (.cells cur e (0, 0))
theorem KE.refl (A : World) : KE A A := fun _ _ _ _ h => h
theorem KE.trans {A B C : World} (h : KE A B) (k : KE B C) : KE A C := fun g e cur he hb => k g e cur he (h g e cur he hb)
theorem KE.below {A B : World} (h : Below A.heap.size A B) : KE A B := fun g e cur _ hb => (h.block g (Array.getElem?_eq_some_iff.1 hb).1).trans hb
theorem KE.putObj (W : World) (l : Nat) (o o' : Obj) (hl : W.heap[l]? = some o) (ho : o.isCells = false) : KE W (W.putObj l o') := fun g e cur _ q => by
  by_cases h : g = l
  · subst h
    rw [hl] at q
    injection q with q
    subst q
    cases ho
  · exact (World.putObj_heap_other h).trans q
theorem KE.blk {A B : World} (h : KE A B) {g : Nat} {e : TypeId} {cs : Array Value} (he : e ≠ 47) (hb : Blk A g e cs) : Blk B g e cs := h g e cs he hb
theorem KE.row {α : Type} {A B : World} {base : Nat} {e : TypeId} {m : Nat} {f : α → List Value} {a : Option Addr} {c : Nat} {L : List α} (hg : KE A B) (he : e ≠ 47) (h : RowOf A base e m f a c L) : RowOf B base e m f a c L := by
  refine ⟨h.1, ?_⟩
  rcases h.2 with q | ⟨g, cap, cur, hv, hb, hh, hr⟩
  · exact .inl q
  · exact .inr ⟨g, cap, cur, hv, hb, hg g e cur he hh, hr⟩
/-- what is handed out at a place -/
def ptE (Z : List ZV) (p : Nat × Nat) : Array Value := #[.pointer (some ⟨zb Z p.1, p.2 * 13, none⟩)]
abbrev Pl (Z : List ZV) : Type := { p : Nat × Nat // PlOk Z p }
def vals {Z : List ZV} (l : List (Pl Z)) : List (Nat × Nat) := l.map (·.1)
theorem vals_snoc {Z : List ZV} (l : List (Pl Z)) (p : Pl Z) : vals (l ++ [p]) = vals l ++ [p.1] := by unfold vals; rw [List.map_append]; rfl
theorem vals_len {Z : List ZV} (l : List (Pl Z)) : l.length = (vals l).length := by unfold vals; rw [List.length_map]
theorem plTo_len (Z : List ZV) (hm : ∀ z ∈ Z, z.eras.length ≤ 1000) : ∀ i k, i ≤ Z.length → (plTo Z i k).length ≤ i * 1000 + k
  | 0, k, _ => by unfold plTo; simp
  | i + 1, k, hi => by
    have q := plTo_len Z hm i (eLen Z i) (by omega)
    rw [← plTo_zone] at q
    obtain ⟨z, hz⟩ : ∃ z, Z[i]? = some z := ⟨_, List.getElem?_eq_getElem (by omega)⟩
    rw [eLen_at hz] at q
    have := hm z (List.mem_of_getElem? hz)
    have e : (plTo Z (i + 1) k).length = (plTo Z (i + 1) 0).length + k := by unfold plTo; simp
    rw [e]
    omega
set_option maxRecDepth 100000 in
set_option maxHeartbeats 4000000 in
theorem eras_in (n : Nat) (hn : 1 ≤ n) (l B base : Nat) (c : SV) (hf : c.zones.length ≤ 1000 ∧ ∀ z ∈ c.zones, z.eras.length ≤ 1000) (J Jx : List (Pl c.zones) → World → Prop) (W : World) (hJ : AbidesFrom W.heap.size J)
    (hY : ∀ pre (x : Pl c.zones) W1, J pre W1 → pre.length < 1000001 → YieldAt Fence.wide (n - 1) Tryd.prog l (ptE c.zones x.1) W1 fun e W' =>
      (e = .returned (.bool true) ∧ J (pre ++ [x]) W' ∧ KE W1 W') ∨ (e = .returned (.bool false) ∧ Jx (pre ++ [x]) W'))
    (hB : Blk W B 32 #[.slice c.rA c.rules.length c.rc, .slice c.zA c.zones.length c.zc, .slice c.kA c.links.length c.kc, .slice c.hA c.shifts.length c.hc]) (hZ : RowOf W base 39 2 ZV.cells c.zA c.zc c.zones) (hE : ∀ (i : Nat) (z : ZV), c.zones[i]? = some z → RowOf W base 47 13 EV.cells z.A z.c z.eras) (h0 : J [] W) :
    CallsIn Fence.wide n Tryd.prog 94 #[.func (.yield l) #[] #[], .pointer (some ⟨B, 0, none⟩)] W fun e W' => (∃ v, e = .returned v) ∧
      ((∃ ys, vals ys = plTo c.zones c.zones.length 0 ∧ J ys W') ∨ (∃ pre, True ∧ Jx pre W')) := by
  have c1 := (hB.cell 1).trans rfl
  have HA : Hid (∀ (i : Nat) (z : ZV), c.zones[i]? = some z → 0 < z.eras.length → ∃ g, z.A = some ⟨g, 0, none⟩) := Lib.hid fun i z hz hl => by obtain ⟨g, hA, _⟩ := (hE i z hz).addr hl; exact ⟨g, hA⟩
  have HZ := Lib.hid hZ; have HF := Lib.hid hf.2
  have hl2 : (c.zones.length : Int) ≤ 1000 := by omega
  have HL2 := Lib.hid hf.1
  clear hE hB hZ hf
  refine callsIn_of_wp Tryd.func94 rfl trivial ?_ rfl
  simp only [Tryd.ntmps94, List.size_toArray, List.length_cons, List.length_nil, Nat.reduceAdd, Nat.reduceSub, Array.replicate_succ, Array.replicate_zero, List.push_toArray, List.append_toArray, List.nil_append, List.cons_append]
  gi_wp2
  gi_loopw [4, 5, 9] (fun s4 s5 i wr => ∃ k : Nat, k ≤ c.zones.length ∧ i = .int .i64 k ∧ ∃ pre, vals pre = plTo c.zones k 0 ∧ J pre wr ∧ KE W wr)
    (fun _ _ i _ => c.zones.length - (intOf i).toNat)
  case atStart => exact ⟨0, Nat.zero_le _, rfl, [], rfl, h0, KE.refl _⟩
  case round =>
    obtain ⟨wo, hwo⟩ : ∃ x, x = wr := ⟨_, rfl⟩
    subst hwo
    obtain ⟨k, hk, rfl, pre, hpre, hJs, hke⟩ := hrel
    have HKE := Lib.hid hke; have HPRE := Lib.hid hpre
    by_cases hlt : k < c.zones.length
    · have hki : (k : Int) < (c.zones.length : Int) := by omega
      have hk0 : (0 : Int) ≤ (k : Int) := by omega
      obtain ⟨z, hz⟩ : ∃ z, c.zones[k]? = some z := ⟨_, List.getElem?_eq_getElem hlt⟩
      have hrow := hke.row (by decide) HZ.out
      obtain ⟨g, hgA, hg2, hgl⟩ := hrow.addr (by omega)
      rw [hgA] at hrow
      have n0 : wo.cell? ⟨g, k * 2, none⟩ = some (.string z.name) := hrow.cellAt len_zone hz 0 _ rfl
      have n1 : wo.cell? ⟨g, k * 2 + 1, none⟩ = some (.slice z.A z.eras.length z.c) := hrow.cellAt len_zone hz 1 _ rfl
      have HBZ := Lib.hid (Blk.new wo 39 #[.string z.name, .slice z.A z.eras.length z.c])
      have b1 := (HBZ.out.cell 1).trans rfl
      have hJ2 := hJ pre wo (wo.alloc (.cells #[.string z.name, .slice z.A z.eras.length z.c] 39)) none hJs (World.grownBy_alloc _ _ none) (fun r e => by cases e)
      have HK2 := Lib.hid (hke.trans (KE.below ((Below.refl wo.heap.size wo).alloc (Nat.le_refl _) (.cells #[.string z.name, .slice z.A z.eras.length z.c] 39))))
      have hzl : (z.eras.length : Int) ≤ 1000 := by have := HF.out z (List.mem_of_getElem? hz); omega
      have HZK := Lib.hid hz; have HLT := Lib.hid hlt; have HGA := Lib.hid hgA
      rw [hgA] at *
      clear hrow hke hpre hJs hz hlt hgA
      gi_wp2
      clear n0 n1
      obtain ⟨wa, hwa⟩ : ∃ x, x = (wo.alloc (.cells #[.string z.name, .slice z.A z.eras.length z.c] 39)) := ⟨_, rfl⟩
      rw [← hwa] at hJ2 HBZ HK2 ⊢
      have HWA := Lib.hid (show wo.heap.size ≤ wa.heap.size by rw [hwa]; simp)
      clear hwa
      generalize wo.heap.size = q4 at *
      gi_loopw [5, 16] (fun s5 i wr => ∃ q : Nat, q ≤ z.eras.length ∧ i = .int .i64 q ∧ ∃ pre, vals pre = plTo c.zones k q ∧ J pre wr ∧ KE wa wr)
        (fun _ i _ => z.eras.length - (intOf i).toNat)
      case atStart => exact ⟨0, Nat.zero_le _, rfl, pre, HPRE.out, hJ2, KE.refl _⟩
      case round =>
        obtain ⟨q, hq, rfl, pr, hpr, hJs, hke⟩ := hrel
        have hbz := hke.blk (by decide) HBZ.out
        have b1 := (hbz.cell 1).trans rfl
        have HKI := Lib.hid hke; have HPR := Lib.hid hpr
        by_cases hlt : q < z.eras.length
        · have hqi : (q : Int) < (z.eras.length : Int) := by omega
          have hq0 : (0 : Int) ≤ (q : Int) := by omega
          obtain ⟨e, he⟩ : ∃ e, z.eras[q]? = some e := ⟨_, List.getElem?_eq_getElem hlt⟩
          obtain ⟨g5, hA5⟩ := HA.out k z HZK.out (by omega)
          have hzb := zb_at HZK.out hA5
          rw [hA5] at b1
          have HX := Lib.hid (show PlOk c.zones (k, q) from ⟨z, e, HZK.out, he⟩)
          have hy := hY pr ⟨(k, q), HX.out⟩ wr hJs (by
            have := plTo_len c.zones HF.out k q (by have := HLT.out; omega)
            rw [vals_len, hpr]
            have := HF.out z (List.mem_of_getElem? HZK.out)
            have := HLT.out
            have := HL2.out
            omega)
          unfold ptE at hy
          simp only [hzb] at hy
          obtain ⟨fn, tmps, assign, body, hy, hR⟩ := hy
          have HLQ := Lib.hid hlt
          clear hke hpr hJs hbz hlt he hA5 hzb
          gi_wp2
          refine hR.mono ?_
          rintro x W3 (⟨rfl, hJ3, hk3⟩ | ⟨rfl, hJx3⟩)
          · gi_wp2
            go_roundw
            case rel => exact ⟨q + 1, by have := HLQ.out; omega, by simp, _, by rw [vals_snoc, plTo_succ, HPR.out], hJ3, HKI.out.trans hk3⟩
            case measure => have := HLQ.out; simp [intOf]; omega
          · gi_wp2
            refine bodyPost_ret (results_none rfl _ _ _) rfl ?_
            exact ⟨⟨_, rfl⟩, .inr ⟨_, trivial, hJx3⟩⟩
        · obtain rfl : q = z.eras.length := by omega
          clear b1 hbz
          gi_wp2
          go_roundw
          case rel => exact ⟨k + 1, by have := HLT.out; omega, by simp, _, by rw [plTo_zone, eLen_at HZK.out, HPR.out], hJs, HK2.out.trans HKI.out⟩
          case measure => have := HLT.out; simp [intOf]; omega
    · obtain rfl : k = c.zones.length := by omega
      gi_wp2
      go_end0
      exact ⟨⟨_, rfl⟩, .inl ⟨_, HPRE.out, hJs⟩⟩
end Go.Proofs.YtlideagcmhlkeaaDoor

/- slices.Clone of zones, and printer.Copy: a copy in rows of the call's own. -/
namespace Go.Proofs.YtlideagcmhlkeaaDoor
open Go.RowKit Go.Lib
set_option linter.unusedVariables false
set_option linter.unusedSimpArgs false

set_option maxRecDepth 100000 in
set_option maxHeartbeats 4000000 in
theorem clone_zone (A : Option Addr) (c : Nat) (L : List ZV) (w : World) (hl : L.length ≤ 1100000) (hC : CellsIn 2 ZV.cells w A L) :
    Calls Tryd.prog 93 #[.slice A L.length c] w fun e w' => ∃ A' c', e = .returned (.slice A' L.length c') ∧ RowOf w' w.heap.size 39 2 ZV.cells A' c' L ∧ Below w.heap.size w w' := by
  have hq := fun (w : World) (a : Option Addr) (n c n' c' : Nat) => Lib.run_eql_slice_nil (P := Tryd.prog) w 28 39 a n c n' c' Tryd.underlying28
  cases A with
  | none =>
    obtain rfl : L = [] := by
      cases L with
      | nil => rfl
      | cons x L => obtain ⟨b, o, h, _⟩ := hC 0 x rfl; cases h
    go_enter Tryd.func93, Tryd.ntmps93
    go_wp2_with fail
    go_ret
    exact ⟨none, 0, rfl, World.ownsRow_nil .., Below.refl _ _⟩
  | some a =>
    obtain ⟨i1, hi, hz0, hz1, hz2⟩ := info_parts infoZone
    have hal := (Below.refl w.heap.size w).alloc (Nat.le_refl _) (.cells #[] 39)
    have HIN := Lib.hid (in_news len_zone (by decide) (hC.below hal))
    have HMD := Lib.hid (World.ownsRow_made (base := w.heap.size) (e := 39) (size := 2) w #[] 0 (Nat.le_refl _) (Nat.zero_le _) (by simp))
    have HFL := Lib.hid (fl_len len_zone L)
    have H1S := Lib.hid (one_fl one_zone L)
    have HAL := Lib.hid hal
    clear hC hal
    go_enter Tryd.func93, Tryd.ntmps93
    go_wp2_with (at_builtin; refine wpList_append_lit rfl _ _ 28 rfl w.heap.size 39 i1 _ 2 40 w.heap.size Tryd.underlying28 hi hz0 hz1 hz2 rfl (by decide) rfl HMD.out (some a) L.length c (L.flatMap ZV.cells) rfl HFL.out HIN.out H1S.out (by simp only [maxLen]; omega) (by omega) (by simp) ?_)
    intro A' c' w1 hown hgrow
    have hbl : Below w.heap.size w w1 := HAL.out.grown hgrow (by simp) (by intro k hk; cases hk)
    clear hi hz0 hz1 hz2
    go_wp2_with fail
    go_ret
    exact ⟨_, _, rfl, hown, hbl⟩
/-- where the walk of Copy stands: the zones in front of k have eras of their own -/
structure Pc (w W : World) (s : SV) (A : Option Addr) (c : Nat) (Y : List ZV) (k : Nat) : Prop where
  src : Blk W w.heap.size 32 #[.slice s.rA s.rules.length s.rc, .slice s.zA s.zones.length s.zc, .slice s.kA s.links.length s.kc, .slice s.hA s.shifts.length s.hc]
  res : Blk W (w.heap.size + 1) 32 #[.slice none 0 0, .slice none 0 0, .slice none 0 0, .slice none 0 0]
  zrow : RowOf W (w.heap.size + 2) 39 2 ZV.cells A c Y
  len : Y.length = s.zones.length
  same : ∀ (i : Nat) (z y : ZV), s.zones[i]? = some z → Y[i]? = some y → y.name = z.name ∧ y.eras = z.eras ∧ (k ≤ i → y = z)
  eras : ∀ (i : Nat) (y : ZV), i < k → Y[i]? = some y → RowOf W (w.heap.size + 2) 47 13 EV.cells y.A y.c y.eras
  apart : ∀ (i j : Nat) (y z : ZV), i < j → j < k → Y[i]? = some y → Y[j]? = some z → ∀ (g : Nat), y.A = some ⟨g, 0, none⟩ → z.A ≠ some ⟨g, 0, none⟩
  bel : Below w.heap.size w W
theorem Pc.below {w W W' : World} {s : SV} {A : Option Addr} {c k : Nat} {Y : List ZV} (h : Pc w W s A c Y k) (hb : Below W.heap.size W W') : Pc w W' s A c Y k :=
  ⟨h.src.below hb h.src.lt, h.res.below hb h.res.lt, h.zrow.below hb, h.len, h.same, fun i y hi hy => (h.eras i y hi hy).below hb, h.apart, h.bel.trans (hb.mono h.bel.size)⟩
/-- the zone at k gets eras of its own -/
theorem Pc.step {w V W : World} {s : SV} {c k c' g : Nat} {Y : List ZV} {z : ZV} {A' : Option Addr} (h0 : Pc w V s (some ⟨g, 0, none⟩) c Y k) (h : Pc w W s (some ⟨g, 0, none⟩) c Y k) (hz : s.zones[k]? = some z) (hrow : RowOf W V.heap.size 47 13 EV.cells A' c' z.eras) (hle : w.heap.size + 2 ≤ V.heap.size) :
    Pc w (W.setCell ⟨g, k * 2 + 1, none⟩ (.slice A' z.eras.length c')) s (some ⟨g, 0, none⟩) c (Y.set k ⟨z.name, A', c', z.eras⟩) (k + 1) := by
  have hO : (Value.slice (some ⟨g, 0, none⟩) Y.length c).ownBlock = some g := rfl
  have hkl := (List.getElem?_eq_some_iff.1 hz).1
  obtain ⟨y, hy⟩ : ∃ y, Y[k]? = some y := ⟨_, List.getElem?_eq_getElem (by rw [h.len]; exact hkl)⟩
  obtain rfl := (h.same k z y hz hy).2.2 (Nat.le_refl _)
  have hge := (World.ownsRow.lt h.zrow g rfl).1
  have key : ∀ (i : Nat) (x : ZV), (Y.set k ⟨y.name, A', c', y.eras⟩)[i]? = some x → (i = k ∧ x = ⟨y.name, A', c', y.eras⟩) ∨ (i ≠ k ∧ Y[i]? = some x) := fun i x hx => by
    by_cases hi : k = i
    · subst hi
      rw [List.getElem?_set_self (List.getElem?_eq_some_iff.1 hy).1] at hx
      injection hx with hx
      exact .inl ⟨rfl, hx.symm⟩
    · rw [List.getElem?_set_ne hi] at hx
      exact .inr ⟨fun q => hi q.symm, hx⟩
  have old : ∀ (i : Nat) (x : ZV), i < k → Y[i]? = some x → ∀ g', x.A = some ⟨g', 0, none⟩ → A' ≠ some ⟨g', 0, none⟩ := fun i x hi hx g' h1 h2 => by
    have hlt : g' < V.heap.size := by
      have q := h0.eras i x hi hx
      rw [h1] at q
      exact (World.ownsRow.lt q g' rfl).2
    have q := hrow
    rw [h2] at q
    have := (World.ownsRow.lt q g' rfl).1
    omega
  refine ⟨blk_set_other h.src h.zrow hO (by decide) _, blk_set_other h.res h.zrow hO (by decide) _, h.zrow.set_ len_zone k 1 y ⟨y.name, A', c', y.eras⟩ _ (by decide) hy rfl, by rw [List.length_set]; exact h.len, fun i z x hz' hx => ?_, fun i x hi hx => ?_, fun i j x z' hij hj hx hz' g' h1 h2 => ?_, h.bel.setCell (by show w.heap.size ≤ g; omega) _⟩
  · rcases key i x hx with ⟨rfl, rfl⟩ | ⟨hi, hx2⟩
    · rw [hz] at hz'
      injection hz' with hz'
      subst hz'
      exact ⟨rfl, rfl, fun q => by omega⟩
    · obtain ⟨q1, q2, q3⟩ := h.same i z x hz' hx2
      exact ⟨q1, q2, fun q => q3 (by omega)⟩
  · rcases key i x hx with ⟨rfl, rfl⟩ | ⟨hne, hx2⟩
    · exact row_set_other (hrow.low hle) h.zrow hO (by decide) _
    · exact row_set_other (h.eras i x (by omega) hx2) h.zrow hO (by decide) _
  · rcases key i x hx with ⟨rfl, rfl⟩ | ⟨hni, hx2⟩
    · omega
    · rcases key j z' hz' with ⟨rfl, rfl⟩ | ⟨hnj, hz2⟩
      · exact old i x hij hx2 g' h1 h2
      · exact h.apart i j x z' hij (by omega) hx2 hz2 g' h1 h2
theorem Pc.zones {w W W' : World} {s : SV} {A : Option Addr} {c : Nat} {Y : List ZV} (h : Pc w W s A c Y s.zones.length) (hg : GS W W') : RowOf W' (w.heap.size + 2) 39 2 ZV.cells A c Y ∧ ZonesIn W' (w.heap.size + 2) s.zones Y :=
  ⟨hg.row (by decide) h.zrow, ⟨⟨h.len, fun i z y hz hy => ⟨(h.same i z y hz hy).1, (h.same i z y hz hy).2.1⟩⟩, fun i y hy => hg.row (by decide) (h.eras i y (by have := (List.getElem?_eq_some_iff.1 hy).1; have := h.len; omega) hy), fun i j y z hij hy hz => h.apart i j y z hij (by have := (List.getElem?_eq_some_iff.1 hz).1; have := h.len; omega) hy hz⟩⟩
set_option maxRecDepth 100000 in
set_option maxHeartbeats 16000000 in
theorem pcopy_any (s : SV) (w : World) (hS : SrcIn w s) (hf : Few30 s) :
    Calls Tryd.prog 57 #[.agg #[.slice s.rA s.rules.length s.rc, .slice s.zA s.zones.length s.zc, .slice s.kA s.links.length s.kc, .slice s.hA s.shifts.length s.hc]] w fun x w' => ∃ t : SV, x = .returned (.agg #[.slice t.rA t.rules.length t.rc, .slice t.zA t.zones.length t.zc, .slice t.kA t.links.length t.kc, .slice t.hA t.shifts.length t.hc]) ∧ CopyOf w' (w.heap.size + 2) s t ∧ Below w.heap.size w w' := by
  have HS := Lib.hid hS; have HF := Lib.hid hf
  have hl1 := hf.lens.1; have hl2 := hf.lens.2.1; have hl3 := hf.lens.2.2.1; have hl4 := hf.lens.2.2.2
  have hb0 := ((Below.refl w.heap.size w).alloc (Nat.le_refl _) (.cells #[.slice s.rA s.rules.length s.rc, .slice s.zA s.zones.length s.zc, .slice s.kA s.links.length s.kc, .slice s.hA s.shifts.length s.hc] 32)).alloc (by simp) (.cells #[.slice none 0 0, .slice none 0 0, .slice none 0 0, .slice none 0 0] 32)
  have hx0 := (Blk.new w 32 #[.slice s.rA s.rules.length s.rc, .slice s.zA s.zones.length s.zc, .slice s.kA s.links.length s.kc, .slice s.hA s.shifts.length s.hc]).alloc (.cells #[.slice none 0 0, .slice none 0 0, .slice none 0 0, .slice none 0 0] 32)
  have hr0 := Blk.newAt (w.alloc (.cells #[.slice s.rA s.rules.length s.rc, .slice s.zA s.zones.length s.zc, .slice s.kA s.links.length s.kc, .slice s.hA s.shifts.length s.hc] 32)) (w.heap.size + 1) (by simp) 32 #[.slice none 0 0, .slice none 0 0, .slice none 0 0, .slice none 0 0]
  have cZ := Lib.hid (clone_zone s.zA s.zc s.zones _ (by omega) (hS.zones.below hb0))
  have HX0 := Lib.hid hx0; have HR0 := Lib.hid hr0; have HB0 := Lib.hid hb0
  have c1 := (hx0.cell 1).trans rfl
  clear hS hf hb0 hx0 hr0
  go_enter Tryd.func57, Tryd.ntmps57
  go_wp2_with fail
  refine cZ.out.mono ?_
  rintro x W2 ⟨A, c, rfl, hrow, hc⟩
  have HPC := Lib.hid (show Pc w W2 s A c s.zones 0 from ⟨HX0.out.below hc HX0.out.lt, HR0.out.below hc HR0.out.lt, hrow.low (by simp), rfl, fun i z y hz hy => by rw [hz] at hy; injection hy with hy; subst hy; exact ⟨rfl, rfl, fun _ => rfl⟩, fun i y hi => by omega, fun i j y z _ hj => by omega, HB0.out.trans (hc.mono HB0.out.size)⟩)
  clear hrow hc cZ HX0 HR0 HB0 c1
  go_wp2_with fail
  have hz2 : (s.zones.length : Int) ≤ 1000 := by omega
  go_loopw [4, 10] (fun s4 i W => ∃ k : Nat, k ≤ s.zones.length ∧ i = .int .i64 k ∧ ∃ Y, Pc w W s A c Y k) (fun _ i _ => s.zones.length - (intOf i).toNat)
  case atStart => exact ⟨0, Nat.zero_le _, rfl, s.zones, HPC.out⟩
  case round =>
    clear HPC
    obtain ⟨k, hk, rfl, Y, hpc⟩ := hrel
    have HPC := Lib.hid hpc
    by_cases hlt : k < s.zones.length
    · have hki : (k : Int) < (s.zones.length : Int) := by omega
      have hk0 : (0 : Int) ≤ (k : Int) := by omega
      obtain ⟨z, hz⟩ : ∃ z, s.zones[k]? = some z := ⟨_, List.getElem?_eq_getElem hlt⟩
      obtain ⟨y, hy⟩ : ∃ y, Y[k]? = some y := ⟨_, List.getElem?_eq_getElem (by rw [hpc.len]; exact hlt)⟩
      obtain rfl := (hpc.same k z y hz hy).2.2 (Nat.le_refl _)
      obtain ⟨g, rfl, hg2, hgl⟩ := hpc.zrow.addr (by rw [hpc.len]; omega)
      have n1 : wr.cell? ⟨g, k * 2 + 1, none⟩ = some (.slice y.A y.eras.length y.c) := hpc.zrow.cellAt len_zone hy 1 _ rfl
      have cE := Lib.hid (clone_era y.A y.c y.eras wr (by have := HF.out.eras y (List.mem_of_getElem? hz); omega) ((HS.out.below hpc.bel).eras y (List.mem_of_getElem? hz)))
      have HZ := Lib.hid hz; have HLT := Lib.hid hlt; have HGL := Lib.hid (Nat.le_trans (show w.heap.size + 2 ≤ g + 1 by omega) hgl)
      clear hpc hz hy hlt
      go_wp2_with fail
      refine cE.out.mono ?_
      rintro e W5 ⟨A', c', rfl, hrow, hc⟩
      have hpc := HPC.out.below hc
      have f1 := hpc.zrow.frozenAt (k * 2 + 1)
      have n1 : W5.cell? ⟨g, k * 2 + 1, none⟩ = some (.slice y.A y.eras.length y.c) := (hc.cell (p := ⟨g, k * 2 + 1, none⟩) hgl).trans n1
      have HPN := Lib.hid (HPC.out.step hpc HZ.out hrow HGL.out)
      clear hpc hrow hc cE HPC
      go_wp2_with fail
      go_roundw
      case rel => exact ⟨k + 1, by have := HLT.out; omega, by go_num, _, HPN.out⟩
      case measure => have := HLT.out; simp [intOf]; omega
    · obtain rfl : k = s.zones.length := by omega
      obtain ⟨W0, hW0⟩ : ∃ x, x = wr := ⟨_, rfl⟩
      subst hW0
      have HS0 := Lib.hid (show (fun W => GS W0 W ∧ Below w.heap.size w W ∧ Blk W w.heap.size 32 #[.slice s.rA s.rules.length s.rc, .slice s.zA s.zones.length s.zc, .slice s.kA s.links.length s.kc, .slice s.hA s.shifts.length s.hc] ∧ ∃ a b c d, Blk W (w.heap.size + 1) 32 #[a, b, c, d]) W0.drew from ⟨⟨fun _ _ _ _ h => h, fun _ h => h⟩, hpc.bel.drew, hpc.src, _, _, _, _, hpc.res⟩)
      clear hpc
      go_wp2_with fail
      refine wp_region_shape [(some 24, []), (some 25, [0]), (some 26, [1]), (some 27, []), (some 28, []), (some 29, [4]), (some 30, [5, 2]), (some 31, []), (some 32, [7]), (some 33, [8, 6]), (some 34, [2, 3, 6, 9]), (none, [10, 9, 0, 1, 2, 3, 4, 5, 6, 7, 8, 9, 10])] (fun y => { tmps := #[.agg #[.slice s.rA s.rules.length s.rc, .slice s.zA s.zones.length s.zc, .slice s.kA s.links.length s.kc, .slice s.hA s.shifts.length s.hc], .pointer (some ⟨w.heap.size, 0, none⟩), .pointer (some ⟨w.heap.size + 1, 0, none⟩), .slice A s.zones.length c, u4, .pointer (some ⟨w.heap.size, 1, none⟩), .slice s.zA s.zones.length s.zc, .slice A s.zones.length c, .slice A s.zones.length c, .int .i64 s.zones.length, .int .i64 s.zones.length, .bool false, u12, u13, u14, u15, u16, u17, u18, u19, u20, u21, u22, u23, y 24, y 25, y 26, y 27, y 28, y 29, y 30, y 31, y 32, y 33, y 34], defers := [] }) (fun _ => undef) (fun j => j == 2 || j == 6 || j == 9 || j == 10 || j == 11) [.pointer (some ⟨w.heap.size, 0, none⟩), .slice s.rA s.rules.length s.rc, undef, .slice A s.zones.length c, .pointer (some ⟨w.heap.size, 2, none⟩), .slice s.kA s.links.length s.kc, undef, .pointer (some ⟨w.heap.size, 3, none⟩), .slice s.hA s.shifts.length s.hc, undef, undef, undef] (fun j y W => match j with | 2 => ∃ A c, y 26 = .slice A s.rules.length c ∧ RowOf W (w.heap.size + 2) 83 11 RV.cells A c s.rules | 6 => ∃ A c, y 30 = .slice A s.links.length c ∧ RowOf W (w.heap.size + 2) 94 2 KV.cells A c s.links | 9 => ∃ A c, y 33 = .slice A s.shifts.length c ∧ RowOf W (w.heap.size + 2) 9 1 (fun b : ByteArray => [Value.string b]) A c s.shifts | 10 => ∃ A1 c1 A2 c2 A3 c3, y 34 = .agg #[.slice A1 s.rules.length c1, .slice A s.zones.length c, .slice A2 s.links.length c2, .slice A3 s.shifts.length c3] ∧ RowOf W (w.heap.size + 2) 83 11 RV.cells A1 c1 s.rules ∧ RowOf W (w.heap.size + 2) 94 2 KV.cells A2 c2 s.links ∧ RowOf W (w.heap.size + 2) 9 1 (fun b : ByteArray => [Value.string b]) A3 c3 s.shifts | 11 => ∃ A1 c1 A2 c2 A3 c3, Blk W (w.heap.size + 1) 32 #[.slice A1 s.rules.length c1, .slice A s.zones.length c, .slice A2 s.links.length c2, .slice A3 s.shifts.length c3] ∧ RowOf W (w.heap.size + 2) 83 11 RV.cells A1 c1 s.rules ∧ RowOf W (w.heap.size + 2) 94 2 KV.cells A2 c2 s.links ∧ RowOf W (w.heap.size + 2) 9 1 (fun b : ByteArray => [Value.string b]) A3 c3 s.shifts | _ => True) (fun j => match j with | 2 => [26] | 6 => [30] | 9 => [33] | 10 => [34] | 11 => [] | _ => []) (GS) (fun W => GS W0 W ∧ Below w.heap.size w W ∧ Blk W w.heap.size 32 #[.slice s.rA s.rules.length s.rc, .slice s.zA s.zones.length s.zc, .slice s.kA s.links.length s.kc, .slice s.hA s.shifts.length s.hc] ∧ ∃ a b c d, Blk W (w.heap.size + 1) 32 #[a, b, c, d]) (by kernel_rfl) (by kernel_rfl) (by decide +kernel) rfl HS0.out ?hput7 ?hloc7 ?hmono7 ?hstep7 ?hdone7
      case hput7 =>
        intro d hd y v
        simp only [List.filterMap_cons, List.filterMap_nil, List.mem_cons, List.not_mem_nil, or_false] at hd
        rcases hd with rfl | rfl | rfl | rfl | rfl | rfl | rfl | rfl | rfl | rfl | rfl
        all_goals rfl
      case hloc7 =>
        intro j hj y y' W hk hx
        have hj' : j = 2 ∨ j = 6 ∨ j = 9 ∨ j = 10 ∨ j = 11 := by simpa [or_assoc] using hj
        rcases hj' with rfl | rfl | rfl | rfl | rfl
        · simp only [List.forall_mem_cons, List.not_mem_nil, false_imp_iff, implies_true, and_true] at hk
          show _
          simpa only [hk] using hx
        · simp only [List.forall_mem_cons, List.not_mem_nil, false_imp_iff, implies_true, and_true] at hk
          show _
          simpa only [hk] using hx
        · simp only [List.forall_mem_cons, List.not_mem_nil, false_imp_iff, implies_true, and_true] at hk
          show _
          simpa only [hk] using hx
        · simp only [List.forall_mem_cons, List.not_mem_nil, false_imp_iff, implies_true, and_true] at hk
          show _
          simpa only [hk] using hx
        · skip
          exact hx
      case hmono7 =>
        intro j hj hlast y W W' hg hx
        have hj' : j = 2 ∨ j = 6 ∨ j = 9 ∨ j = 10 ∨ j = 11 := by simpa [or_assoc] using hj
        rcases hj' with rfl | rfl | rfl | rfl | rfl
        · exact passR (p := fun A c => y 26 = .slice A s.rules.length c) hg (by decide) hx
        · exact passR (p := fun A c => y 30 = .slice A s.links.length c) hg (by decide) hx
        · exact passR (p := fun A c => y 33 = .slice A s.shifts.length c) hg (by decide) hx
        · obtain ⟨A1, c1, A2, c2, A3, c3, h1, h2, h3, h4⟩ := hx; exact ⟨A1, c1, A2, c2, A3, c3, h1, hg.row (by decide) h2, hg.row (by decide) h3, hg.row (by decide) h4⟩
        · exact absurd hlast (by decide)
      case hdone7 =>
        intro yy W1 hS hd
        have x11 : (fun (y : Nat → Value) (W : World) => ∃ A1 c1 A2 c2 A3 c3, Blk W (w.heap.size + 1) 32 #[.slice A1 s.rules.length c1, .slice A s.zones.length c, .slice A2 s.links.length c2, .slice A3 s.shifts.length c3] ∧ RowOf W (w.heap.size + 2) 83 11 RV.cells A1 c1 s.rules ∧ RowOf W (w.heap.size + 2) 94 2 KV.cells A2 c2 s.links ∧ RowOf W (w.heap.size + 2) 9 1 (fun b : ByteArray => [Value.string b]) A3 c3 s.shifts) yy W1 := (hd 11 (by decide)).ex rfl
        obtain ⟨A1, c1, A2, c2, A3, c3, h1, h4, h5, h6⟩ := x11
        obtain ⟨hgs, hb, hx, hr⟩ := hS
        have k0 := (h1.cell 0).trans rfl; have k1 := (h1.cell 1).trans rfl; have k2 := (h1.cell 2).trans rfl; have k3 := (h1.cell 3).trans rfl
        have HH := Lib.hid (And.intro hgs (And.intro hb (And.intro h4 (And.intro h5 h6))))
        clear hd hgs hb hx hr h4 h5 h6 h1
        go_wp2_with fail
        refine bodyPost_ret (v := .agg #[.slice A1 s.rules.length c1, .slice A s.zones.length c, .slice A2 s.links.length c2, .slice A3 s.shifts.length c3]) (by simp [results, Tryd.results57, go_sem, k0, k1, k2, k3]) rfl ?_
        exact ⟨⟨A1, c1, s.rules, A, c, Y, A2, c2, s.links, A3, c3, s.shifts⟩, by rw [HPC.out.len.symm], ⟨⟨rfl, HH.out.2.2.1⟩, HPC.out.zones HH.out.1, ⟨rfl, HH.out.2.2.2.1⟩, ⟨rfl, HH.out.2.2.2.2⟩⟩, HH.out.2.1⟩
      case hstep7 =>
        refine StepsOk.cons (StepOk.known rfl fun y W hS hd K' hK => ?_) ?_
        · skip
          clear hd
          go_simp
          exact hK.out _ _ rfl (GS.refl _) hS
        refine StepsOk.cons (StepOk.known rfl fun y W hS hd K' hK => ?_) ?_
        · skip
          have e24 : y 24 = .pointer (some ⟨w.heap.size, 0, none⟩) := (hd 0 rfl).val rfl rfl
          clear hd
          have hc := (hS.2.2.1.cell 0).trans rfl
          go_simp
          exact hK.out _ _ (by first | rfl | (simp only [e24]; done) | (simp only [e24]; rfl)) (GS.refl _) hS
        refine StepsOk.cons (StepOk.other rfl fun y W hS hd K' hK => ?_) ?_
        · skip
          have e25 : y 25 = .slice s.rA s.rules.length s.rc := (hd 1 rfl).val rfl rfl
          clear hd
          go_simp
          obtain ⟨hgs, hb, hx, hr⟩ := hS
          refine (clone_rule _ _ _ W (by omega) (HS.out.rules.below hb)).mono ?_
          rintro e W' ⟨A, c, rfl, hrow, hc⟩
          go_wp2_with fail
          have hle : w.heap.size + 2 ≤ W.heap.size := by obtain ⟨a, b, c, d, hr'⟩ := hr; exact hr'.lt
          exact hK.out _ _ _ (by first | rfl | (simp only [e25]; done) | (simp only [e25]; rfl)) (GS.below hc) ⟨hgs.trans (GS.below hc), hb.trans (hc.mono hb.size), hx.below hc hx.lt, (GS.below hc).own _ hr⟩ (show ∃ A c, _ = Value.slice A s.rules.length c ∧ RowOf _ (w.heap.size + 2) 83 11 RV.cells A c s.rules from ⟨A, c, rfl, hrow.low (by omega)⟩)
        refine StepsOk.cons (StepOk.known rfl fun y W hS hd K' hK => ?_) ?_
        · skip
          clear hd
          go_simp
          exact hK.out _ _ rfl (GS.refl _) hS
        refine StepsOk.cons (StepOk.known rfl fun y W hS hd K' hK => ?_) ?_
        · skip
          clear hd
          go_simp
          exact hK.out _ _ rfl (GS.refl _) hS
        refine StepsOk.cons (StepOk.known rfl fun y W hS hd K' hK => ?_) ?_
        · skip
          have e28 : y 28 = .pointer (some ⟨w.heap.size, 2, none⟩) := (hd 4 rfl).val rfl rfl
          clear hd
          have hc := (hS.2.2.1.cell 2).trans rfl
          go_simp
          exact hK.out _ _ (by first | rfl | (simp only [e28]; done) | (simp only [e28]; rfl)) (GS.refl _) hS
        refine StepsOk.cons (StepOk.other rfl fun y W hS hd K' hK => ?_) ?_
        · skip
          have x2 : (fun (y : Nat → Value) (W : World) => ∃ A c, y 26 = .slice A s.rules.length c ∧ RowOf W (w.heap.size + 2) 83 11 RV.cells A c s.rules) y W := (hd 2 rfl).ex rfl
          have e29 : y 29 = .slice s.kA s.links.length s.kc := (hd 5 rfl).val rfl rfl
          clear hd
          go_simp
          obtain ⟨hgs, hb, hx, hr⟩ := hS
          refine (clone_link _ _ _ W (by omega) (HS.out.links.below hb)).mono ?_
          rintro e W' ⟨A, c, rfl, hrow, hc⟩
          go_wp2_with fail
          have hle : w.heap.size + 2 ≤ W.heap.size := by obtain ⟨a, b, c, d, hr'⟩ := hr; exact hr'.lt
          exact hK.out _ _ _ (by first | rfl | (simp only [e29]; done) | (simp only [e29]; rfl)) (GS.below hc) ⟨hgs.trans (GS.below hc), hb.trans (hc.mono hb.size), hx.below hc hx.lt, (GS.below hc).own _ hr⟩ (show ∃ A c, _ = Value.slice A s.links.length c ∧ RowOf _ (w.heap.size + 2) 94 2 KV.cells A c s.links from ⟨A, c, rfl, hrow.low (by omega)⟩)
        refine StepsOk.cons (StepOk.known rfl fun y W hS hd K' hK => ?_) ?_
        · skip
          clear hd
          go_simp
          exact hK.out _ _ rfl (GS.refl _) hS
        refine StepsOk.cons (StepOk.known rfl fun y W hS hd K' hK => ?_) ?_
        · skip
          have e31 : y 31 = .pointer (some ⟨w.heap.size, 3, none⟩) := (hd 7 rfl).val rfl rfl
          clear hd
          have hc := (hS.2.2.1.cell 3).trans rfl
          go_simp
          exact hK.out _ _ (by first | rfl | (simp only [e31]; done) | (simp only [e31]; rfl)) (GS.refl _) hS
        refine StepsOk.cons (StepOk.other rfl fun y W hS hd K' hK => ?_) ?_
        · skip
          have x6 : (fun (y : Nat → Value) (W : World) => ∃ A c, y 30 = .slice A s.links.length c ∧ RowOf W (w.heap.size + 2) 94 2 KV.cells A c s.links) y W := (hd 6 rfl).ex rfl
          have e32 : y 32 = .slice s.hA s.shifts.length s.hc := (hd 8 rfl).val rfl rfl
          clear hd
          go_simp
          obtain ⟨hgs, hb, hx, hr⟩ := hS
          refine (clone_str _ _ _ W (by omega) (HS.out.shifts.below hb)).mono ?_
          rintro e W' ⟨A, c, rfl, hrow, hc⟩
          go_wp2_with fail
          have hle : w.heap.size + 2 ≤ W.heap.size := by obtain ⟨a, b, c, d, hr'⟩ := hr; exact hr'.lt
          exact hK.out _ _ _ (by first | rfl | (simp only [e32]; done) | (simp only [e32]; rfl)) (GS.below hc) ⟨hgs.trans (GS.below hc), hb.trans (hc.mono hb.size), hx.below hc hx.lt, (GS.below hc).own _ hr⟩ (show ∃ A c, _ = Value.slice A s.shifts.length c ∧ RowOf _ (w.heap.size + 2) 9 1 (fun b : ByteArray => [Value.string b]) A c s.shifts from ⟨A, c, rfl, hrow.low (by omega)⟩)
        refine StepsOk.cons (StepOk.other rfl fun y W hS hd K' hK => ?_) ?_
        · skip
          have x2 : (fun (y : Nat → Value) (W : World) => ∃ A c, y 26 = .slice A s.rules.length c ∧ RowOf W (w.heap.size + 2) 83 11 RV.cells A c s.rules) y W := (hd 2 rfl).ex rfl
          have e27 : y 27 = .slice A s.zones.length c := (hd 3 rfl).val rfl rfl
          have x6 : (fun (y : Nat → Value) (W : World) => ∃ A c, y 30 = .slice A s.links.length c ∧ RowOf W (w.heap.size + 2) 94 2 KV.cells A c s.links) y W := (hd 6 rfl).ex rfl
          have x9 : (fun (y : Nat → Value) (W : World) => ∃ A c, y 33 = .slice A s.shifts.length c ∧ RowOf W (w.heap.size + 2) 9 1 (fun b : ByteArray => [Value.string b]) A c s.shifts) y W := (hd 9 rfl).ex rfl
          clear hd
          obtain ⟨A1, c1, h1, h4⟩ := x2
          obtain ⟨A2, c2, h2, h5⟩ := x6
          obtain ⟨A3, c3, h3, h6⟩ := x9
          go_simp
          exact hK.out _ _ _ (by first | rfl | (simp only [h1, h2, h3, e27]; done) | (simp only [h1, h2, h3, e27]; rfl)) (GS.refl _) hS (show ∃ A1 c1 A2 c2 A3 c3, _ = Value.agg #[.slice A1 s.rules.length c1, .slice A s.zones.length c, .slice A2 s.links.length c2, .slice A3 s.shifts.length c3] ∧ RowOf _ (w.heap.size + 2) 83 11 RV.cells A1 c1 s.rules ∧ RowOf _ (w.heap.size + 2) 94 2 KV.cells A2 c2 s.links ∧ RowOf _ (w.heap.size + 2) 9 1 (fun b : ByteArray => [Value.string b]) A3 c3 s.shifts from ⟨A1, c1, A2, c2, A3, c3, rfl, h4, h5, h6⟩)
        refine StepsOk.cons (StepOk.other rfl fun y W hS hd K' hK => ?_) ?_
        · skip
          have x10 : (fun (y : Nat → Value) (W : World) => ∃ A1 c1 A2 c2 A3 c3, y 34 = .agg #[.slice A1 s.rules.length c1, .slice A s.zones.length c, .slice A2 s.links.length c2, .slice A3 s.shifts.length c3] ∧ RowOf W (w.heap.size + 2) 83 11 RV.cells A1 c1 s.rules ∧ RowOf W (w.heap.size + 2) 94 2 KV.cells A2 c2 s.links ∧ RowOf W (w.heap.size + 2) 9 1 (fun b : ByteArray => [Value.string b]) A3 c3 s.shifts) y W := (hd 10 rfl).ex rfl
          clear hd
          obtain ⟨A1, c1, A2, c2, A3, c3, h3, h4, h5, h6⟩ := x10
          obtain ⟨hgs, hb, hx, hr⟩ := hS
          obtain ⟨a, b, c', d, hr0⟩ := hr
          have k0 := (hr0.cell 0).trans rfl
          have k1 := (hr0.cell 1).trans rfl
          have k2 := (hr0.cell 2).trans rfl
          have k3 := (hr0.cell 3).trans rfl
          have f0 := hr0.frozen 0
          have f1 := hr0.frozen 1
          have f2 := hr0.frozen 2
          have f3 := hr0.frozen 3
          have q4 := GS.set4 hr0 (.slice A1 s.rules.length c1) (.slice A s.zones.length c) (.slice A2 s.links.length c2) (.slice A3 s.shifts.length c3)
          have hb2 := below_set4 hb (Nat.le_succ w.heap.size) (.slice A1 s.rules.length c1) (.slice A s.zones.length c) (.slice A2 s.links.length c2) (.slice A3 s.shifts.length c3)
          have hx2 := (((hx.far (p := ⟨w.heap.size + 1, 0, none⟩) (by show _ ≠ w.heap.size + 1; omega) (.slice A1 s.rules.length c1)).far (p := ⟨w.heap.size + 1, 1, none⟩) (by show _ ≠ w.heap.size + 1; omega) (.slice A s.zones.length c)).far (p := ⟨w.heap.size + 1, 2, none⟩) (by show _ ≠ w.heap.size + 1; omega) (.slice A2 s.links.length c2)).far (p := ⟨w.heap.size + 1, 3, none⟩) (by show _ ≠ w.heap.size + 1; omega) (.slice A3 s.shifts.length c3)
          have HH := Lib.hid (And.intro q4 (And.intro hb2 (And.intro hx2 (And.intro (q4.1.row (by decide) h4) (And.intro (q4.1.row (by decide) h5) (q4.1.row (by decide) h6))))))
          clear q4 hb2 hx2 hb h4 h5 h6 hr0
          go_simp
          exact hK.out undef _ _ (by first | rfl | (simp only [h3]; done) | (simp only [h3]; rfl)) HH.out.1.1 ⟨hgs.trans HH.out.1.1, HH.out.2.1, HH.out.2.2.1, _, _, _, _, HH.out.1.2⟩ (show ∃ A1 c1 A2 c2 A3 c3, Blk _ (w.heap.size + 1) 32 #[.slice A1 s.rules.length c1, .slice A s.zones.length c, .slice A2 s.links.length c2, .slice A3 s.shifts.length c3] ∧ RowOf _ (w.heap.size + 2) 83 11 RV.cells A1 c1 s.rules ∧ RowOf _ (w.heap.size + 2) 94 2 KV.cells A2 c2 s.links ∧ RowOf _ (w.heap.size + 2) 9 1 (fun b : ByteArray => [Value.string b]) A3 c3 s.shifts from ⟨A1, c1, A2, c2, A3, c3, HH.out.1.2, HH.out.2.2.2⟩)
        exact StepsOk.nil
end Go.Proofs.YtlideagcmhlkeaaDoor

/- The walks of turn.Format and of the reference's Format (chapter 29). -/
namespace Go.Proofs.YtlideagcmhlkeaaDoor
open Go.RowKit Go.Lib
set_option linter.unusedVariables false
set_option linter.unusedSimpArgs false

theorem turnB_no {f : ByteArray} (h : P21.two (P4.bl f) = false) : turnB f = f := by
  unfold turnB
  rw [P29.turn_no h, str_blP]
theorem parts_no_ {f : ByteArray} (h : P21.two (P4.bl f) = false) : P21.parts (P4.bl f) = ([], [], false) := by
  rw [parts_of, if_neg (by rw [h]; decide)]
theorem parts_yes {f : ByteArray} (h : P21.two (P4.bl f) = true) : ∃ a b, P21.parts (P4.bl f) = (a, b, true) ∧ turnB f = str (b ++ 47 :: a) ∧ a.length + b.length + 1 = f.size := by
  obtain ⟨a, b, hs, _⟩ := P29.two_parts h
  refine ⟨a, b, by rw [parts_of, if_pos h, hs], ?_, ?_⟩
  · unfold turnB P29.turn
    rw [if_pos h, hs]
    simp
  · have q := congrArg List.length (P21.slash_join hs)
    rw [P4.bl_len] at q
    rw [q]
    simp
    omega
set_option maxRecDepth 100000 in
set_option maxHeartbeats 4000000 in
theorem tformat_any (f : ByteArray) (w : World) (hs : f.size ≤ 1100000) (hv : Vars21 w) :
    Calls Tryd.prog 32 #[.string f] w fun e w' => e = .returned (.string (turnB f)) ∧ Below w.heap.size w w' := by
  have cP := Lib.hid (parts_any f w (by omega) hv)
  cases h : P21.two (P4.bl f) with
  | false =>
    rw [parts_no_ h] at cP
    rw [turnB_no h]
    go_enter Tryd.func32, Tryd.ntmps32
    go_wp2_with fail
    refine cP.out.mono ?_
    rintro e W ⟨rfl, hb⟩
    have HB := Lib.hid hb
    clear hb
    go_wp2_with fail
    go_ret
    exact ⟨rfl, HB.out⟩
  | true =>
    obtain ⟨a, b, hp, ht, hl⟩ := parts_yes h
    rw [hp] at cP
    rw [ht]
    obtain ⟨r1, r2⟩ := cat3_run (P := Tryd.prog) b [47] a (by simp; omega)
    have s1 : ∀ W, (Op.stringOp .add (str b) ⟨#[47]⟩).run Tryd.prog W = .ok (.string (str (b ++ [47]))) W := r1
    clear hp ht hl r1 hs
    go_enter Tryd.func32, Tryd.ntmps32
    go_wp2_with fail
    refine cP.out.mono ?_
    rintro e W ⟨rfl, hb⟩
    have HB := Lib.hid hb
    clear hb
    go_wp2_with fail
    go_ret
    exact ⟨rfl, HB.out⟩
end Go.Proofs.YtlideagcmhlkeaaDoor
