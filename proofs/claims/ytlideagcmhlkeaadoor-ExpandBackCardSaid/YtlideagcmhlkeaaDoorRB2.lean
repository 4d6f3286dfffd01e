/- Texts of one proof, one behind the other: Sam14b; Sam14c; CopyS; Num20d; Num20f; Num20g; Num20e; Num20h; Plain21; Plain30; Rinv; Store30; RinvB; Grow30; One30; Clone30. -/
import Derived.Test.YtlideagcmhlkeaaDoorRB1
import Derived.BigQuiet
import Derived.ArgAppend
import Derived.Deep.DeepCutAuto
import Derived.Deep.CutBlock
import Derived.Shelf.GgClosure.StringsIndexFunc
import Derived.Lib.IndexMore
import Derived.Laws.RangeAny
import Derived.Orders
import Derived.Deep.RegionHeld
import Derived.BigRegion
import Derived.IntWalk
import Derived.Lib.SliceRun

/- The walk of zones (the reference of chapter 14). -/
namespace Go.Proofs.YtlideagcmhlkeaaDoor
open Go.RowKit Go.Lib
set_option linter.unusedVariables false
set_option linter.unusedSimpArgs false
attribute [local go_sem high] neq_era neq_rule neq_link

set_option maxRecDepth 100000 in
set_option maxHeartbeats 8000000 in
theorem zones14_any (Z Y : List ZV) (A B : Option Addr) (c d : Nat) (w : World) (hZ : CellsIn 2 ZV.cells w A Z) (hY : CellsIn 2 ZV.cells w B Y) (eZ : ∀ z ∈ Z, CellsIn 13 EV.cells w z.A z.eras) (eY : ∀ z ∈ Y, CellsIn 13 EV.cells w z.A z.eras) (hl : Z.length ≤ 1000) (hm : ∀ z ∈ Z, z.eras.length ≤ 1000) :
    Calls Tryd.prog 56 #[.slice A Z.length c, .slice B Y.length d] w fun e W => ∃ R : Bool, (R = true ↔ zSame14 Z Y) ∧ e = .returned (.bool R) ∧ Below w.heap.size w W := by
  by_cases hlen : Z.length = Y.length
  rotate_left
  · have hbn : ((Z.length : Int) != (Y.length : Int)) = true := by rw [bne_iff_ne]; omega
    have HL := Lib.hid hlen
    clear hZ hY eZ eY hlen hl hm
    go_enter Tryd.func56, Tryd.ntmps56
    go_wp2_with fail
    go_ret
    exact ⟨false, ⟨fun h => (by cases h), fun h => absurd h.1 HL.out⟩, rfl, Below.refl _ _⟩
  have hbn : ((Z.length : Int) != (Y.length : Int)) = false := by rw [bne_eq_false_iff_eq]; omega
  have HL := Lib.hid hlen; have HZ := Lib.hid hZ; have HY := Lib.hid hY; have EZ := Lib.hid eZ; have EY := Lib.hid eY; have HM := Lib.hid hm
  have hl2 : (Z.length : Int) ≤ 1000 := by omega
  have hly : (Y.length : Int) = (Z.length : Int) := by omega
  clear hZ hY eZ eY hlen hm
  go_enter Tryd.func56, Tryd.ntmps56
  go_wp2_with fail
  go_loopw [5] (fun i W => ∃ k : Nat, k ≤ Z.length ∧ i = .int .i64 k ∧ Below w.heap.size w W ∧ Hid (zTo14 Z Y k)) (fun i _ => Z.length - (intOf i).toNat)
  case atStart => exact ⟨0, Nat.zero_le _, rfl, Below.refl _ _, Lib.hid (fun i z y h => by omega)⟩
  case round =>
    obtain ⟨k, hk, rfl, hbw, hto⟩ := hrel
    have HBW := Lib.hid hbw
    clear hbw
    by_cases hlt : k < Z.length
    · obtain ⟨z, hz⟩ : ∃ z, Z[k]? = some z := ⟨_, List.getElem?_eq_getElem hlt⟩
      obtain ⟨y, hy⟩ : ∃ y, Y[k]? = some y := ⟨_, List.getElem?_eq_getElem (by have := HL.out; omega)⟩
      obtain ⟨gz, oz, hzA, hgz, hzt⟩ := (HZ.out.below HBW.out) k z hz
      obtain ⟨gy, oy, hyA, hgy, hyt⟩ := (HY.out.below HBW.out) k y hy
      subst hzA; subst hyA
      have a0 : wr.cell? ⟨gz, oz + k * 2, none⟩ = some (.string z.name) := hzt 0 _ rfl
      have a1 : wr.cell? ⟨gz, oz + k * 2 + 1, none⟩ = some (.slice z.A z.eras.length z.c) := hzt 1 _ rfl
      have b0 : wr.cell? ⟨gy, oy + k * 2, none⟩ = some (.string y.name) := hyt 0 _ rfl
      have b1 : wr.cell? ⟨gy, oy + k * 2 + 1, none⟩ = some (.slice y.A y.eras.length y.c) := hyt 1 _ rfl
      have hki : (k : Int) < (Z.length : Int) := by omega
      have hkj : (k : Int) < (Y.length : Int) := by omega
      have HKZ := Lib.hid hz; have HKY := Lib.hid hy
      have HEZ := Lib.hid (EZ.out z (List.mem_of_getElem? hz)); have HEY := Lib.hid (EY.out y (List.mem_of_getElem? hy))
      have HMZ := Lib.hid (HM.out z (List.mem_of_getElem? hz))
      have HLT := Lib.hid hlt
      clear hzt hyt hz hy
      by_cases hn : z.name = y.name
      rotate_left
      · have bn : (z.name.toList == y.name.toList) = false := eq_b _ _ hn
        have HN := Lib.hid (show ¬ zSame14 Z Y from fun q => hn (q.2 k z y HLT.out HKZ.out HKY.out).1)
        clear hn hto
        go_wp2_with fail
        go_quiet (fail)
        all_goals
          go_wp2_with fail
          go_ret
          exact ⟨false, ⟨fun h => (by cases h), fun h => absurd h HN.out⟩, rfl, below_drewN HBW.out _⟩
      have bn : (z.name.toList == y.name.toList) = true := by rw [hn]; simp
      have HNN := Lib.hid hn
      clear hn
      by_cases he : z.eras.length = y.eras.length
      rotate_left
      · have bl : ((z.eras.length : Int) != (y.eras.length : Int)) = true := by rw [bne_iff_ne]; omega
        have HN := Lib.hid (show ¬ zSame14 Z Y from fun q => he (congrArg List.length (q.2 k z y HLT.out HKZ.out HKY.out).2))
        clear he hto
        go_wp2_with fail
        go_quiet (fail)
        all_goals
          go_wp2_with fail
          go_ret
          exact ⟨false, ⟨fun h => (by cases h), fun h => absurd h HN.out⟩, rfl, below_drewN HBW.out _⟩
      have bl : ((z.eras.length : Int) != (y.eras.length : Int)) = false := by rw [bne_eq_false_iff_eq]; omega
      have HE := Lib.hid he
      have hez : (z.eras.length : Int) ≤ 1000 := by have := HMZ.out; omega
      clear he
      go_wp2_with fail
      go_quiet (fail)
      go_wp2_with fail
      go_loopw [6] (fun i W => ∃ m : Nat, m ≤ z.eras.length ∧ i = .int .i64 m ∧ Below w.heap.size w W ∧ Hid (eTo14 z.eras y.eras m)) (fun i _ => z.eras.length - (intOf i).toNat)
      case atStart => exact ⟨0, Nat.zero_le _, rfl, below_drewN HBW.out _, Lib.hid (fun i h => by omega)⟩
      case round =>
        clear a0 a1 b0 b1 bn bl HBW
        obtain ⟨m, hm, rfl, hbw, hte⟩ := hrel
        have HBW := Lib.hid hbw
        clear hbw
        obtain ⟨gz2, oz2, hzA2, hgz2, hzt⟩ := (HZ.out.below HBW.out) k z HKZ.out
        obtain ⟨gy2, oy2, hyA2, hgy2, hyt⟩ := (HY.out.below HBW.out) k y HKY.out
        injection hzA2 with q; injection q with q1 q2 q3; subst q1; subst q2
        injection hyA2 with q; injection q with q1 q2 q3; subst q1; subst q2
        have a0 : wr.cell? ⟨gz, oz + k * 2, none⟩ = some (.string z.name) := hzt 0 _ rfl
        have a1 : wr.cell? ⟨gz, oz + k * 2 + 1, none⟩ = some (.slice z.A z.eras.length z.c) := hzt 1 _ rfl
        have b0 : wr.cell? ⟨gy, oy + k * 2, none⟩ = some (.string y.name) := hyt 0 _ rfl
        have b1 : wr.cell? ⟨gy, oy + k * 2 + 1, none⟩ = some (.slice y.A y.eras.length y.c) := hyt 1 _ rfl
        clear hzt hyt
        by_cases hml : m < z.eras.length
        · obtain ⟨x, hx⟩ : ∃ x, z.eras[m]? = some x := ⟨_, List.getElem?_eq_getElem hml⟩
          obtain ⟨u, hu⟩ : ∃ u, y.eras[m]? = some u := ⟨_, List.getElem?_eq_getElem (by have := HE.out; omega)⟩
          obtain ⟨ge, oe, heA, hge, xt⟩ := (HEZ.out.below HBW.out) m x hx
          obtain ⟨gf, of', hfA, hgf, ut⟩ := (HEY.out.below HBW.out) m u hu
          rw [heA] at a1
          rw [hfA] at b1
          clear heA hfA
          have x0 : wr.cell? ⟨ge, oe + m * 13, none⟩ = some (.int .i64 x.off) := xt 0 _ rfl
          have x1 : wr.cell? ⟨ge, oe + m * 13 + 1, none⟩ = some (.int .i64 x.kind) := xt 1 _ rfl
          have x2 : wr.cell? ⟨ge, oe + m * 13 + 2, none⟩ = some (.int .i64 x.save) := xt 2 _ rfl
          have x3 : wr.cell? ⟨ge, oe + m * 13 + 3, none⟩ = some (.string x.set) := xt 3 _ rfl
          have x4 : wr.cell? ⟨ge, oe + m * 13 + 4, none⟩ = some (.string x.fmt) := xt 4 _ rfl
          have x5 : wr.cell? ⟨ge, oe + m * 13 + 5, none⟩ = some (.bool x.ui) := xt 5 _ rfl
          have x6 : wr.cell? ⟨ge, oe + m * 13 + 6, none⟩ = some (.int .i64 x.uy) := xt 6 _ rfl
          have x7 : wr.cell? ⟨ge, oe + m * 13 + 7, none⟩ = some (.int .i64 x.um) := xt 7 _ rfl
          have x8 : wr.cell? ⟨ge, oe + m * 13 + 8, none⟩ = some (.int .i64 x.dk) := xt 8 _ rfl
          have x9 : wr.cell? ⟨ge, oe + m * 13 + 9, none⟩ = some (.int .i64 x.dw) := xt 9 _ rfl
          have x10 : wr.cell? ⟨ge, oe + m * 13 + 10, none⟩ = some (.int .i64 x.dd) := xt 10 _ rfl
          have x11 : wr.cell? ⟨ge, oe + m * 13 + 11, none⟩ = some (.int .i64 x.asec) := xt 11 _ rfl
          have x12 : wr.cell? ⟨ge, oe + m * 13 + 12, none⟩ = some (.int .i64 x.ab) := xt 12 _ rfl
          have u0 : wr.cell? ⟨gf, of' + m * 13, none⟩ = some (.int .i64 u.off) := ut 0 _ rfl
          have u1 : wr.cell? ⟨gf, of' + m * 13 + 1, none⟩ = some (.int .i64 u.kind) := ut 1 _ rfl
          have u2 : wr.cell? ⟨gf, of' + m * 13 + 2, none⟩ = some (.int .i64 u.save) := ut 2 _ rfl
          have u3 : wr.cell? ⟨gf, of' + m * 13 + 3, none⟩ = some (.string u.set) := ut 3 _ rfl
          have u4 : wr.cell? ⟨gf, of' + m * 13 + 4, none⟩ = some (.string u.fmt) := ut 4 _ rfl
          have u5 : wr.cell? ⟨gf, of' + m * 13 + 5, none⟩ = some (.bool u.ui) := ut 5 _ rfl
          have u6 : wr.cell? ⟨gf, of' + m * 13 + 6, none⟩ = some (.int .i64 u.uy) := ut 6 _ rfl
          have u7 : wr.cell? ⟨gf, of' + m * 13 + 7, none⟩ = some (.int .i64 u.um) := ut 7 _ rfl
          have u8 : wr.cell? ⟨gf, of' + m * 13 + 8, none⟩ = some (.int .i64 u.dk) := ut 8 _ rfl
          have u9 : wr.cell? ⟨gf, of' + m * 13 + 9, none⟩ = some (.int .i64 u.dw) := ut 9 _ rfl
          have u10 : wr.cell? ⟨gf, of' + m * 13 + 10, none⟩ = some (.int .i64 u.dd) := ut 10 _ rfl
          have u11 : wr.cell? ⟨gf, of' + m * 13 + 11, none⟩ = some (.int .i64 u.asec) := ut 11 _ rfl
          have u12 : wr.cell? ⟨gf, of' + m * 13 + 12, none⟩ = some (.int .i64 u.ab) := ut 12 _ rfl
          have hmi : (m : Int) < (z.eras.length : Int) := by omega
          have hmj : (m : Int) < (y.eras.length : Int) := by have := HE.out; omega
          have HXX := Lib.hid hx; have HUU := Lib.hid hu
          have HML := Lib.hid hml
          clear xt ut hx hu
          by_cases hq : x = u
          · have hd : decide (x.off = u.off ∧ x.kind = u.kind ∧ x.save = u.save ∧ x.set = u.set ∧ x.fmt = u.fmt ∧ x.ui = u.ui ∧ x.uy = u.uy ∧ x.um = u.um ∧ x.dk = u.dk ∧ x.dw = u.dw ∧ x.dd = u.dd ∧ x.asec = u.asec ∧ x.ab = u.ab) = true := by rw [decide_eq_true_eq]; exact (ev_eq x u).1 hq
            have HTE := Lib.hid (eTo14.succ hte.out (HXX.out.trans (by rw [HUU.out, hq])))
            clear hq hte
            go_wp2_with fail
            go_quiet (fail)
            all_goals
              go_wp2_with fail
              go_roundw
              case rel => first | exact ⟨m + 1, by omega, by go_num, below_drewN HBW.out _, HTE⟩ | ((repeat apply Exists.intro); refine ⟨?_, rfl⟩; exact ⟨m + 1, by omega, by go_num, below_drewN HBW.out _, HTE⟩)
              case measure => simp [intOf]; omega
          · have hd : decide (x.off = u.off ∧ x.kind = u.kind ∧ x.save = u.save ∧ x.set = u.set ∧ x.fmt = u.fmt ∧ x.ui = u.ui ∧ x.uy = u.uy ∧ x.um = u.um ∧ x.dk = u.dk ∧ x.dw = u.dw ∧ x.dd = u.dd ∧ x.asec = u.asec ∧ x.ab = u.ab) = false := by rw [decide_eq_false_iff_not]; exact fun q => hq ((ev_eq x u).2 q)
            have HN := Lib.hid (show ¬ zSame14 Z Y from fun q => hq (by
              have e1 := (q.2 k z y HLT.out HKZ.out HKY.out).2
              have h1 := HXX.out
              rw [e1, HUU.out] at h1
              injection h1 with h1
              exact h1.symm))
            clear hq hte
            go_wp2_with fail
            go_quiet (fail)
            all_goals
              go_wp2_with fail
              go_ret
              exact ⟨false, ⟨fun h => (by cases h), fun h => absurd h HN.out⟩, rfl, below_drewN HBW.out _⟩
        · obtain rfl : m = z.eras.length := by omega
          have HTE := Lib.hid (zTo14.succ hto.out HKZ.out HKY.out HNN.out (hte.out.all HE.out))
          clear hto hte
          go_wp2_with fail
          go_roundw
          case rel => first | exact ⟨k + 1, by have := HLT.out; omega, by go_num, HBW.out, HTE⟩ | ((repeat apply Exists.intro); refine ⟨?_, rfl⟩; exact ⟨k + 1, by have := HLT.out; omega, by go_num, HBW.out, HTE⟩)
          case measure => have := HLT.out; simp [intOf]; omega
    · obtain rfl : k = Z.length := by omega
      have HN := Lib.hid (show zSame14 Z Y from ⟨HL.out, hto.out⟩)
      clear hto
      go_wp2_with fail
      go_ret
      exact ⟨true, ⟨fun _ => HN.out, fun _ => rfl⟩, rfl, HBW.out⟩
end Go.Proofs.YtlideagcmhlkeaaDoor

/- Two sources are compared (the reference of chapter 14, Same): the plain law of the answer. -/
namespace Go.Proofs.YtlideagcmhlkeaaDoor
open Go.RowKit Go.Lib
set_option linter.unusedVariables false
set_option linter.unusedSimpArgs false

/-- two sources are the same -/
structure sSame14 (a b : SV) : Prop where
  rules : a.rules = b.rules
  links : a.links = b.links
  shifts : a.shifts = b.shifts
  zones : zSame14 a.zones b.zones
theorem zSame14.refl (Z : List ZV) : zSame14 Z Z := ⟨rfl, fun i z y _ hz hy => by rw [hz] at hy; injection hy with hy; subst hy; exact ⟨rfl, rfl⟩⟩
theorem zSame14.symm {Z Y : List ZV} (h : zSame14 Z Y) : zSame14 Y Z := ⟨h.1.symm, fun i z y hi hz hy => by
  have hi2 : i < Z.length := by rw [h.1]; exact hi
  obtain ⟨q1, q2⟩ := h.2 i y z hi2 hy hz
  exact ⟨q1.symm, q2.symm⟩⟩
theorem zSame14.trans {X Y Z : List ZV} (h : zSame14 X Y) (k : zSame14 Y Z) : zSame14 X Z := ⟨h.1.trans k.1, fun i x z hi hx hz => by
  have hi2 : i < Y.length := by rw [← h.1]; exact hi
  obtain ⟨y, hy⟩ : ∃ y, Y[i]? = some y := ⟨_, List.getElem?_eq_getElem hi2⟩
  obtain ⟨q1, q2⟩ := h.2 i x y hi hx hy
  obtain ⟨r1, r2⟩ := k.2 i y z hi2 hy hz
  exact ⟨q1.trans r1, q2.trans r2⟩⟩
theorem sSame14.rfl' (a : SV) : sSame14 a a := ⟨rfl, rfl, rfl, zSame14.refl _⟩
theorem sSame14.symm {a b : SV} (h : sSame14 a b) : sSame14 b a := ⟨h.rules.symm, h.links.symm, h.shifts.symm, h.zones.symm⟩
theorem sSame14.trans {a b c : SV} (h : sSame14 a b) (k : sSame14 b c) : sSame14 a c := ⟨h.rules.trans k.rules, h.links.trans k.links, h.shifts.trans k.shifts, h.zones.trans k.zones⟩
end Go.Proofs.YtlideagcmhlkeaaDoor

/- Copies of sources that are written to, and eras that are changed one by one. No function of the program. -/
namespace Go.Proofs.YtlideagcmhlkeaaDoor
open Go.RowKit
set_option linter.unusedVariables false

theorem CopyOf.below {W W' : World} {base : Nat} {s t : SV} (h : CopyOf W base s t) (hb : Below W.heap.size W W') : CopyOf W' base s t :=
  ⟨⟨h.rules.1, h.rules.2.below hb⟩, ⟨h.zones.1.below hb, h.zones.2.below hb⟩, ⟨h.links.1, h.links.2.below hb⟩, ⟨h.shifts.1, h.shifts.2.below hb⟩⟩
theorem CopyOf.self {W : World} {base : Nat} {s t : SV} (h : CopyOf W base s t) : CopyOf W base t t :=
  ⟨⟨rfl, h.rules.2⟩, ⟨h.zones.1, ⟨⟨rfl, fun i z y hz hy => by rw [hz] at hy; injection hy with hy; subst hy; exact ⟨rfl, rfl⟩⟩, h.zones.2.eras, h.zones.2.apart⟩⟩, ⟨rfl, h.links.2⟩, ⟨rfl, h.shifts.2⟩⟩
theorem CopyOf.same {W : World} {base : Nat} {s t : SV} (h : CopyOf W base s t) : sSame14 t s :=
  ⟨h.rules.1, h.links.1, h.shifts.1, ⟨h.zones.2.same.1, fun i z y _ hz hy => h.zones.2.same.2 i y z hy hz⟩⟩
/-- the source with another era at a place -/
def SV.setEra (t : SV) (i : Nat) (z : ZV) (k : Nat) (e : EV) : SV := { t with zones := t.zones.set i { z with eras := z.eras.set k e } }
theorem own_setOff {W : World} {base n size B j : Nat} {e : TypeId} {v : Value} {xs : List Value} (h : W.ownsRow base e size v n xs) (hB : v.ownBlock ≠ some B) (u : Value) : (W.setCell ⟨B, j, none⟩ u).ownsRow base e size v n xs := by
  refine ⟨h.1, ?_⟩
  rcases h.2 with q | ⟨g, cap, cur, hv, hb, hh, hr⟩
  · exact .inl q
  · refine .inr ⟨g, cap, cur, hv, hb, (Below.heap_setCell W _ u g (fun e => hB ?_)).trans hh, hr⟩
    rw [hv]
    show some g = some B
    rw [show g = B from e]
theorem zcells_set : ∀ {Z : List ZV} {i : Nat} {z z' : ZV}, Z[i]? = some z → z'.cells = z.cells → (Z.set i z').flatMap ZV.cells = Z.flatMap ZV.cells
  | [], i, z, z', h, _ => by simp at h
  | a :: Z, 0, z, z', h, hc => by
    simp only [List.getElem?_cons_zero, Option.some.injEq] at h
    subst h
    rw [List.set_cons_zero, List.flatMap_cons, List.flatMap_cons, hc]
  | a :: Z, i + 1, z, z', h, hc => by
    simp only [List.getElem?_cons_succ] at h
    rw [List.set_cons_succ, List.flatMap_cons, List.flatMap_cons, zcells_set h hc]
theorem set_from {Z : List ZV} {i a : Nat} {z z' y : ZV} (hz : Z[i]? = some z) (hA : z'.A = z.A) (h : (Z.set i z')[a]? = some y) : ∃ x, Z[a]? = some x ∧ x.A = y.A := by
  by_cases hi : i = a
  · subst hi
    rw [List.getElem?_set_self (List.getElem?_eq_some_iff.1 hz).1] at h
    injection h with h
    subst h
    exact ⟨z, hz, hA.symm⟩
  · rw [List.getElem?_set_ne hi] at h
    exact ⟨y, h, rfl⟩
/-- one cell of an era is stored -/
theorem CopyOf.setCell {W : World} {base : Nat} {t : SV} (h : CopyOf W base t t) {i : Nat} {z : ZV} (hz : t.zones[i]? = some z) {g : Nat} (hA : z.A = some ⟨g, 0, none⟩) {k j : Nat} {x y : EV} (hk : z.eras[k]? = some x) (u : Value) (hj : j < 13) (hy : y.cells = x.cells.set j u) :
    CopyOf (W.setCell ⟨g, k * 13 + j, none⟩ u) base (t.setEra i z k y) (t.setEra i z k y) := by
  have hrow := h.zones.2.eras i z hz
  rw [hA] at hrow
  have hO : (Value.slice (some ⟨g, 0, none⟩) z.eras.length z.c).ownBlock = some g := rfl
  refine ⟨⟨rfl, row_set_other h.rules.2 hrow hO (by decide) u⟩, ⟨?_, ⟨⟨rfl, fun i z y hz hy => by rw [hz] at hy; injection hy with hy; subst hy; exact ⟨rfl, rfl⟩⟩, fun a y' hy' => ?_, fun a b y' z' hab hya hzb g' h1 h2 => ?_⟩⟩, ⟨rfl, row_set_other h.links.2 hrow hO (by decide) u⟩, ⟨rfl, row_set_other h.shifts.2 hrow hO (by decide) u⟩⟩
  · show RowOf _ base 39 2 ZV.cells t.zA t.zc (t.zones.set i _)
    unfold RowOf
    rw [List.length_set, zcells_set hz (by unfold ZV.cells; rw [List.length_set])]
    exact row_set_other h.zones.1 hrow hO (by decide) u
  · show RowOf _ base 47 13 EV.cells y'.A y'.c y'.eras
    have hy'' : (t.zones.set i { z with eras := z.eras.set k y })[a]? = some y' := hy'
    by_cases hi : i = a
    · subst hi
      rw [List.getElem?_set_self (List.getElem?_eq_some_iff.1 hz).1] at hy''
      injection hy'' with hy''
      subst hy''
      show RowOf _ base 47 13 EV.cells z.A z.c (z.eras.set k y)
      rw [hA]
      exact hrow.set_ len_era k j x y u hj hk hy
    · rw [List.getElem?_set_ne hi] at hy''
      have hr := h.zones.2.eras a y' hy''
      refine own_setOff hr (fun q => ?_) u
      have hyA : y'.A = some ⟨g, 0, none⟩ := by
        rcases hr.2 with ⟨q2, _⟩ | ⟨g2, cap, cur, hv, _⟩
        · rw [q2] at q; cases q
        · rw [hv] at q
          have q3 : g2 = g := Option.some.inj q
          subst q3
          injection hv
      rcases Nat.lt_or_gt_of_ne hi with hlt | hgt
      · exact h.zones.2.apart i a z y' hlt hz hy'' g hA hyA
      · exact h.zones.2.apart a i y' z hgt hy'' hz g hyA hA
  · obtain ⟨x1, hx1, e1⟩ := set_from (z' := { z with eras := z.eras.set k y }) hz rfl hya
    obtain ⟨x2, hx2, e2⟩ := set_from (z' := { z with eras := z.eras.set k y }) hz rfl hzb
    exact h.zones.2.apart a b x1 x2 hab hx1 hx2 g' (e1.trans h1) (e2.trans h2)
theorem CopyOf.eraAddr {W : World} {base : Nat} {s t : SV} (h : CopyOf W base s t) {i : Nat} {z : ZV} (hz : t.zones[i]? = some z) (hl : 0 < z.eras.length) : ∃ g, z.A = some ⟨g, 0, none⟩ ∧ base ≤ g ∧ g < W.heap.size := by
  have hr := h.zones.2.eras i z hz
  rcases hr.2 with ⟨_, q⟩ | ⟨g, cap, cur, hv, hb, hh, _⟩
  · omega
  · injection hv with hA
    exact ⟨g, hA, hb, (Array.getElem?_eq_some_iff.1 hh).1⟩
/-- the eras in front of a place are changed, the others stay -/
def part30 (G : EV → EV) (Z Y : List ZV) (i k : Nat) : Prop :=
  Y.length = Z.length ∧ ∀ (a : Nat) (z y : ZV), Z[a]? = some z → Y[a]? = some y → y.name = z.name ∧ y.eras.length = z.eras.length ∧ ∀ (b : Nat) (e : EV), z.eras[b]? = some e → y.eras[b]? = some (if a < i ∨ (a = i ∧ b < k) then G e else e)
theorem part30.start {G : EV → EV} {Z Y : List ZV} (h : zSame14 Y Z) : part30 G Z Y 0 0 := ⟨h.1, fun a z y hz hy => by
  obtain ⟨h1, h2⟩ := h.2 a y z (List.getElem?_eq_some_iff.1 hy).1 hy hz
  refine ⟨h1, by rw [h2], fun b e he => ?_⟩
  rw [if_neg (by omega), h2]
  exact he⟩
theorem part30.step {G : EV → EV} {Z Y : List ZV} {i k : Nat} {z y : ZV} {e : EV} (h : part30 G Z Y i k) (hz : Z[i]? = some z) (hy : Y[i]? = some y) (he : z.eras[k]? = some e) : part30 G Z (Y.set i { y with eras := y.eras.set k (G e) }) i (k + 1) := ⟨by rw [List.length_set]; exact h.1, fun a z' y' hz' hy' => by
  by_cases hi : i = a
  · subst hi
    rw [hz] at hz'
    injection hz' with hz'
    subst hz'
    rw [List.getElem?_set_self (List.getElem?_eq_some_iff.1 hy).1] at hy'
    injection hy' with hy'
    subst hy'
    obtain ⟨h1, h2, h3⟩ := h.2 i z y hz hy
    refine ⟨h1, by show (y.eras.set k (G e)).length = _; rw [List.length_set]; exact h2, fun b x hx => ?_⟩
    show (y.eras.set k (G e))[b]? = _
    by_cases hb : k = b
    · subst hb
      rw [List.getElem?_set_self (by rw [h2]; exact (List.getElem?_eq_some_iff.1 he).1), if_pos (by omega)]
      rw [he] at hx
      injection hx with hx
      rw [hx]
    · rw [List.getElem?_set_ne hb, h3 b x hx]
      by_cases hlt : b < k
      · rw [if_pos (by omega), if_pos (by omega)]
      · rw [if_neg (by omega), if_neg (by omega)]
  · rw [List.getElem?_set_ne hi] at hy'
    obtain ⟨h1, h2, h3⟩ := h.2 a z' y' hz' hy'
    refine ⟨h1, h2, fun b x hx => ?_⟩
    rw [h3 b x hx]
    by_cases hlt : a < i
    · rw [if_pos (by omega), if_pos (by omega)]
    · rw [if_neg (by omega), if_neg (by omega)]⟩
theorem part30.skip {G : EV → EV} {Z Y : List ZV} {i k : Nat} {z : ZV} {e : EV} (h : part30 G Z Y i k) (hz : Z[i]? = some z) (he : z.eras[k]? = some e) (hG : G e = e) : part30 G Z Y i (k + 1) := ⟨h.1, fun a z' y' hz' hy' => by
  obtain ⟨h1, h2, h3⟩ := h.2 a z' y' hz' hy'
  refine ⟨h1, h2, fun b x hx => ?_⟩
  rw [h3 b x hx]
  by_cases hlt : a < i ∨ (a = i ∧ b < k)
  · rw [if_pos hlt, if_pos (by omega)]
  · by_cases hq : a = i ∧ b = k
    · obtain ⟨rfl, rfl⟩ := hq
      rw [hz] at hz'
      injection hz' with hz'
      subst hz'
      rw [he] at hx
      injection hx with hx
      subst hx
      rw [if_neg hlt, if_pos (by omega), hG]
    · rw [if_neg hlt, if_neg (by omega)]⟩
theorem part30.zone {G : EV → EV} {Z Y : List ZV} {i k : Nat} {z : ZV} (h : part30 G Z Y i k) (hz : Z[i]? = some z) (hk : z.eras.length ≤ k) : part30 G Z Y (i + 1) 0 := ⟨h.1, fun a z' y' hz' hy' => by
  obtain ⟨h1, h2, h3⟩ := h.2 a z' y' hz' hy'
  refine ⟨h1, h2, fun b x hx => ?_⟩
  rw [h3 b x hx]
  by_cases hlt : a < i
  · rw [if_pos (by omega), if_pos (by omega)]
  · by_cases hq : a = i
    · subst hq
      rw [hz] at hz'
      injection hz' with hz'
      subst hz'
      have := (List.getElem?_eq_some_iff.1 hx).1
      rw [if_pos (by omega), if_pos (by omega)]
    · rw [if_neg (by omega), if_neg (by omega)]⟩
/-- the era of the written source at the place itself -/
theorem part30.at_ {G : EV → EV} {Z Y : List ZV} {i k : Nat} {z : ZV} {e : EV} (h : part30 G Z Y i k) (hz : Z[i]? = some z) (he : z.eras[k]? = some e) : ∃ y, Y[i]? = some y ∧ y.eras[k]? = some e := by
  have hl := (List.getElem?_eq_some_iff.1 hz).1
  obtain ⟨y, hy⟩ : ∃ y, Y[i]? = some y := ⟨_, List.getElem?_eq_getElem (by rw [h.1]; exact hl)⟩
  refine ⟨y, hy, ?_⟩
  rw [(h.2 i z y hz hy).2.2 k e he, if_neg (by omega)]
def mapE (G : EV → EV) (z : ZV) : ZV := { z with eras := z.eras.map G }
def mapS (G : EV → EV) (s : SV) : SV := { s with zones := s.zones.map (mapE G) }
theorem part30.all {G : EV → EV} {Z Y : List ZV} {i : Nat} (h : part30 G Z Y i 0) (hi : Z.length ≤ i) : zSame14 Y (Z.map (mapE G)) := ⟨by rw [List.length_map]; exact h.1, fun a y z' ha hy hz' => by
  rw [List.getElem?_map] at hz'
  obtain ⟨z, hz, rfl⟩ := Option.map_eq_some_iff.1 hz'
  obtain ⟨h1, h2, h3⟩ := h.2 a z y hz hy
  refine ⟨h1, List.ext_getElem? fun b => ?_⟩
  show _ = (z.eras.map G)[b]?
  rw [List.getElem?_map]
  by_cases hb : b < z.eras.length
  · rw [h3 b _ (List.getElem?_eq_getElem hb), List.getElem?_eq_getElem hb, if_pos (by have := (List.getElem?_eq_some_iff.1 hz).1; omega)]
    rfl
  · rw [List.getElem?_eq_none (by omega), List.getElem?_eq_none (by omega)]
    rfl⟩
end Go.Proofs.YtlideagcmhlkeaaDoor

/- The walks of the reference's two and Parse (chapter 20). -/
namespace Go.Proofs.YtlideagcmhlkeaaDoor
open Go.RowKit
set_option linter.unusedVariables false

end Go.Proofs.YtlideagcmhlkeaaDoor

/- The walks of numeric.sum and of the reference's sum (chapter 20). -/
namespace Go.Proofs.YtlideagcmhlkeaaDoor
open Go.RowKit
set_option linter.unusedVariables false

theorem wrap_hi (n : Int) (h0 : 9223372036854775808 ≤ n) (h1 : n ≤ 18446744073709551615) : wrap64 n = n - 18446744073709551616 := by
  unfold wrap64; omega
theorem wrap_lo (n : Int) (h0 : n < -9223372036854775808) (h1 : -18446744073709551616 ≤ n) : wrap64 n = n + 18446744073709551616 := by
  unfold wrap64; omega
set_option maxHeartbeats 400000 in
theorem sum_fit (a b : Int) (w : World) (a0 : -9223372036854775808 ≤ a) (a1 : a ≤ 9223372036854775807) (b0 : -9223372036854775808 ≤ b) (b1 : b ≤ 9223372036854775807)
    (h0 : -9223372036854775808 ≤ a + b) (h1 : a + b ≤ 9223372036854775807) :
    Calls Tryd.prog 91 #[.int .i64 a, .int .i64 b] w fun e w' => e = .returned (.tuple #[.int .i64 (a + b), .bool true]) ∧ w = w' := by
  by_cases hb : 0 < b
  · have hc : a < a + b := by omega
    go_enter Tryd.func91, Tryd.ntmps91
    go_wp2_with fail
    go_ret2
    exact ⟨rfl, rfl⟩
  · have hc : ¬ a < a + b := by omega
    go_enter Tryd.func91, Tryd.ntmps91
    go_wp2_with fail
    go_ret2
    exact ⟨rfl, rfl⟩
set_option maxHeartbeats 400000 in
theorem sum_lo (a b : Int) (w : World) (a0 : -9223372036854775808 ≤ a) (a1 : a ≤ 9223372036854775807) (b0 : -9223372036854775808 ≤ b) (b1 : b ≤ 9223372036854775807) (h : a + b < -9223372036854775808) :
    Calls Tryd.prog 91 #[.int .i64 a, .int .i64 b] w fun e w' => e = .returned (.tuple #[.int .i64 (a + b + 18446744073709551616), .bool false]) ∧ w = w' := by
  have hw := wrap_lo (a + b) h (by omega)
  have hb : decide (0 < b) = false := decide_eq_false (by omega)
  have hc : a < a + b + 18446744073709551616 := by omega
  have HW := Lib.hid hw
  go_enter Tryd.func91, Tryd.ntmps91
  go_wp2_with fail
  go_ret2
  exact ⟨by rw [← HW.out]; rfl, rfl⟩
set_option maxHeartbeats 400000 in
theorem sum_hi (a b : Int) (w : World) (a0 : -9223372036854775808 ≤ a) (a1 : a ≤ 9223372036854775807) (b0 : -9223372036854775808 ≤ b) (b1 : b ≤ 9223372036854775807) (h : 9223372036854775807 < a + b) :
    Calls Tryd.prog 91 #[.int .i64 a, .int .i64 b] w fun e w' => e = .returned (.tuple #[.int .i64 (a + b - 18446744073709551616), .bool false]) ∧ w = w' := by
  have hw := wrap_hi (a + b) (by omega) (by omega)
  have hb : 0 < b := by omega
  have hc : decide (a < a + b - 18446744073709551616) = false := decide_eq_false (by omega)
  have HW := Lib.hid hw
  go_enter Tryd.func91, Tryd.ntmps91
  go_wp2_with fail
  go_ret2
  exact ⟨by rw [← HW.out]; rfl, rfl⟩
end Go.Proofs.YtlideagcmhlkeaaDoor

/- The walk of numeric.joined (chapter 20). -/
namespace Go.Proofs.YtlideagcmhlkeaaDoor
open Go.RowKit
set_option linter.unusedVariables false

/-- the numbers of offsets, with a slash between two of them, or the error -/
def P20.jFrom (off : Int) (acc : List (List UInt8)) : List Int → List UInt8 × Int
  | [] => (Lib.join acc [47], 0)
  | x :: l => if P20.text (off + x) = [] then ([], 3) else P20.jFrom off (acc ++ [P20.text (off + x)]) l
theorem jFrom_one (off x : Int) : P20.jFrom off [] [x] = P20.one (P20.text (off + x)) := by
  rw [P20.jFrom, P20.jFrom, P20.one]
  by_cases h : P20.text (off + x) = []
  · rw [if_pos h, if_pos h]
  · rw [if_neg h, if_neg h]; simp [Lib.join]
theorem jFrom_two (off x y : Int) : P20.jFrom off [] [x, y] = P20.both (P20.text (off + x)) (P20.text (off + y)) := by
  rw [P20.jFrom, P20.jFrom, P20.jFrom, P20.both]
  by_cases h : P20.text (off + x) = []
  · rw [if_pos h, if_pos (.inl h)]
  · rw [if_neg h]
    by_cases h' : P20.text (off + y) = []
    · rw [if_pos h', if_pos (.inr h')]
    · rw [if_neg h', if_neg (by simp [h, h'])]; simp [Lib.join]
theorem jFrom_step {off : Int} {acc : List (List UInt8)} {L : List Int} {k : Nat} {x : Int} (h : L[k]? = some x) (ht : P20.text (off + x) ≠ []) : P20.jFrom off acc (L.drop k) = P20.jFrom off (acc ++ [P20.text (off + x)]) (L.drop (k + 1)) := by
  have hk := (List.getElem?_eq_some_iff.mp h).1
  rw [List.drop_eq_getElem_cons hk, (List.getElem?_eq_some_iff.mp h).2, P20.jFrom, if_neg ht]
theorem jFrom_bad {off : Int} {acc : List (List UInt8)} {L : List Int} {k : Nat} {x : Int} (h : L[k]? = some x) (ht : P20.text (off + x) = []) : P20.jFrom off acc (L.drop k) = ([], 3) := by
  have hk := (List.getElem?_eq_some_iff.mp h).1
  rw [List.drop_eq_getElem_cons hk, (List.getElem?_eq_some_iff.mp h).2, P20.jFrom, if_pos ht]
theorem text_le (x : Int) : (P20.text x).length ≤ 7 := by have := P20.text_len x; omega
theorem join_len (acc : List (List UInt8)) (h2 : acc.length ≤ 2) (h7 : ∀ t ∈ acc, t.length ≤ 7) : (Lib.join acc [47]).length ≤ 15 := by
  match acc, h2 with
  | [], _ => simp [Lib.join]
  | [a], _ => have := h7 a (by simp); simp [Lib.join]; omega
  | [a, b], _ => have := h7 a (by simp); have := h7 b (by simp); simp [Lib.join]; omega
def svals (acc : List (List UInt8)) : List Value := acc.map fun t => .string (str t)
theorem svals_snoc (acc : List (List UInt8)) (t : List UInt8) : svals (acc ++ [t]) = svals acc ++ [.string (str t)] := List.map_append
theorem infoStr : (Tryd.prog.info? 9).map (fun i => (i.zero, i.size, i.bytes)) = some (some (.string ⟨#[]⟩), 1, 16) := by kernel_rfl
theorem join_any (acc : List (List UInt8)) (B cap : Nat) (W : World) (h2 : acc.length ≤ 2) (h7 : ∀ t ∈ acc, t.length ≤ 7) (hB : B < W.heap.size) (hcap : acc.length ≤ cap) (hc : ∀ k u, (svals acc)[k]? = some u → W.cell? ⟨B, k, none⟩ = some u) :
    Calls Tryd.prog 92 #[.slice (some ⟨B, 0, none⟩) acc.length cap, .string ⟨#[47]⟩] W fun e w' => e = .returned (.string (str (Lib.join acc [47]))) ∧ Below W.heap.size W w' := by
  have hm : (acc.map str).map (fun x => x.data.toList) = acc := by rw [List.map_map]; exact List.map_id _
  have hjl := join_len acc h2 h7
  have q := Tryd.strings_Join B 0 cap (acc.map str) ⟨#[47]⟩ W (fun j x hx => by
    rw [Nat.zero_add]
    rw [List.getElem?_map] at hx
    cases ha : acc[j]? with
    | none => rw [ha] at hx; cases hx
    | some t =>
      rw [ha] at hx
      injection hx with hx
      rw [← hx]
      exact hc j _ (by unfold svals; rw [List.getElem?_map, ha]; rfl)) hB (by rw [List.length_map]; omega) (by rw [List.length_map]; exact hcap) (by rw [hm]; exact Nat.le_trans hjl (by decide))
  rw [hm, List.length_map] at q
  exact q
theorem sum_over_all (a b : Int) (a0 : -9223372036854775808 ≤ a) (a1 : a ≤ 9223372036854775807) (b0 : -9223372036854775808 ≤ b) (b1 : b ≤ 9223372036854775807) (h : a + b < -9223372036854775808 ∨ 9223372036854775807 < a + b) :
    ∃ C : Int, -9223372036854775808 ≤ C ∧ C ≤ 9223372036854775807 ∧ Hid (∀ W, Calls Tryd.prog 91 #[.int .i64 a, .int .i64 b] W fun e w' => e = .returned (.tuple #[.int .i64 C, .bool false]) ∧ W = w') := by
  by_cases h' : a + b < -9223372036854775808
  · refine ⟨a + b + 18446744073709551616, by omega, by omega, fun W => ?_⟩
    exact sum_lo a b W a0 a1 b0 b1 h'
  · refine ⟨a + b - 18446744073709551616, by omega, by omega, fun W => ?_⟩
    exact sum_hi a b W a0 a1 b0 b1 (by omega)
/-- integers in a block -/
def IntsIn (w : World) (B : Nat) (L : List Int) : Prop := B < w.heap.size ∧ ∀ k x, L[k]? = some x → w.cell? ⟨B, k, none⟩ = some (.int .i64 x)
theorem IntsIn.below {w w' : World} {B : Nat} {L : List Int} (h : IntsIn w B L) (hb : Below w.heap.size w w') : IntsIn w' B L :=
  ⟨Nat.lt_of_lt_of_le h.1 hb.size, fun k x hx => (hb.cell (p := ⟨B, k, none⟩) h.1).trans (h.2 k x hx)⟩
theorem IntsIn.alloc {w : World} {B : Nat} {L : List Int} (h : IntsIn w B L) (ob : Obj) : IntsIn (w.alloc ob) B L := h.below ((Below.refl _ _).alloc (Nat.le_refl _) ob)
theorem IntsIn.grown {w w' : World} {base B n size : Nat} {e : TypeId} {v : Value} {xs : List Value} {L : List Int} (h : IntsIn w B L) (ho : w.ownsRow base e size v n xs) (hg : w.grownBy w' v.ownBlock) (hlt : B < base) : IntsIn w' B L :=
  ⟨Nat.lt_of_lt_of_le h.1 hg.size, fun k x hx => by
    rw [← h.2 k x hx]
    exact World.cell?_of_block (hg.block B h.1 fun q => by have := (ho.lt B q.symm).1; omega)⟩

set_option maxRecDepth 100000 in
set_option maxHeartbeats 8000000 in
theorem joined_any (off : Int) (B c : Nat) (L : List Int) (w : World) (o0 : -9223372036854775808 ≤ off) (o1 : off ≤ 9223372036854775807) (hL0 : 0 < L.length) (hL2 : L.length ≤ 2) (hb64 : ∀ x ∈ L, -9223372036854775808 ≤ x ∧ x ≤ 9223372036854775807) (hI : IntsIn w B L) :
    Calls Tryd.prog 54 #[.int .i64 off, .slice (some ⟨B, 0, none⟩) L.length c] w fun e w' => e = .returned (.tuple #[.string (str (P20.jFrom off [] L).1), .int .i64 (P20.jFrom off [] L).2]) ∧ Below w.heap.size w w' := by
  obtain ⟨R, hRR⟩ : ∃ R, R = P20.jFrom off [] L := ⟨_, rfl⟩
  rw [← hRR]
  have HR : Hid (P20.jFrom off [] (L.drop 0) = R) := Lib.hid hRR.symm
  clear hRR
  have hli : (L.length : Int) ≤ 2 := by omega
  have hlp : (0 : Int) < (L.length : Int) := by omega
  have HB64 := Lib.hid hb64
  have HBlt := Lib.hid hI.1
  have hO : w.ownsRow w.heap.size 9 1 (.slice none 0 0) ([] : List (List UInt8)).length (svals []) := ⟨rfl, .inl ⟨rfl, rfl⟩⟩
  clear hb64
  go_enter Tryd.func54, Tryd.ntmps54
  go_wp2_with fail
  go_loopw [6, 14] (fun v i wr => ∃ (k : Nat) (acc : List (List UInt8)), k ≤ L.length ∧ acc.length = k ∧ i = .int .i64 k ∧ wr.ownsRow w.heap.size 9 1 v acc.length (svals acc) ∧ Hid (∀ t ∈ acc, t.length ≤ 7) ∧ Hid (P20.jFrom off acc (L.drop k) = R) ∧ IntsIn wr B L ∧ Below w.heap.size w wr) (fun _ i _ => L.length - (intOf i).toNat)
  case atStart => exact ⟨0, [], Nat.zero_le _, rfl, rfl, hO, fun t ht => by simp at ht, HR, hI, Below.refl _ _⟩
  case round =>
    clear HR hO hI
    obtain ⟨k, acc, hk, hak, rfl, hO, H7, HR, hI, hb⟩ := hrel
    have HAK := Lib.hid hak
    clear hak
    by_cases hlt : k < L.length
    · obtain ⟨x, hx⟩ : ∃ x, L[k]? = some x := ⟨_, List.getElem?_eq_getElem hlt⟩
      have c0 := hI.2 k x hx
      obtain ⟨x0, x1⟩ := HB64.out x (List.mem_of_getElem? hx)
      have hki : (k : Int) < (L.length : Int) := by omega
      by_cases hf : -9223372036854775808 ≤ off + x ∧ off + x ≤ 9223372036854775807
      · obtain ⟨f0, f1⟩ := hf
        have cS : Hid (∀ W, Calls Tryd.prog 91 #[.int .i64 off, .int .i64 x] W fun e w' => e = .returned (.tuple #[.int .i64 (off + x), .bool true]) ∧ W = w') := fun W => sum_fit off x W o0 o1 x0 x1 f0 f1
        have cT : Hid (∀ W, Calls Tryd.prog 24 #[.int .i64 (off + x)] W fun e w' => e = .returned (.string (str (P20.text (off + x)))) ∧ Below W.heap.size W w') := fun W => ntext_any (off + x) W f0 f1
        have hst := fun q => jFrom_step (off := off) (acc := acc) hx q
        have hbd := fun q => jFrom_bad (off := off) (acc := acc) hx q
        have ht7 := text_le (off + x)
        generalize P20.text (off + x) = T at cT hst hbd ht7
        generalize off + x = Y at cS cT f0 f1
        by_cases hT : T = []
        · have HG := Lib.hid (HR.out.symm.trans (hbd hT))
          subst hT
          clear hst hbd hx HR hO
          go_wp2_with fail
          refine (cS.out _).mono ?_
          rintro e w1 ⟨rfl, rfl⟩
          go_wp2_with fail
          refine (cT.out _).mono ?_
          rintro e w2 ⟨rfl, hc2⟩
          have hb2 := hb.trans (hc2.mono hb.size)
          have n1 : (str []).toList = [] := by rw [ByteArray.toList_eq]; rfl
          clear hb hc2
          go_wp2_with fail
          go_ret2
          exact ⟨by rw [HG.out]; rfl, hb2⟩
        · have HG := Lib.hid ((hst hT).symm.trans HR.out)
          have hTl : 0 < T.length := List.length_pos_iff.2 hT
          obtain ⟨n1, n2⟩ := str_ne hTl
          have HAL := Lib.hid (show acc.length ≤ 1 by have := HAK.out; omega)
          have H72 : Hid (∀ t ∈ acc ++ [T], t.length ≤ 7) := fun t ht => by
            rw [List.mem_append] at ht
            rcases ht with ht | ht
            · exact H7.out t ht
            · rw [List.mem_singleton] at ht; rw [ht]; exact ht7
          have HSN := Lib.hid (svals_snoc acc T)
          have HSL := Lib.hid (show (acc ++ [T]).length = acc.length + 1 by simp)
          clear hst hbd hx HR hT
          go_wp2_with fail
          refine (cS.out _).mono ?_
          rintro e w1 ⟨rfl, rfl⟩
          go_wp2_with fail
          refine (cT.out _).mono ?_
          rintro e w2 ⟨rfl, hc2⟩
          have hb2 := hb.trans (hc2.mono hb.size)
          have hNB : Hid (Blk (w2.alloc (.cells #[.string (str T)] 9)) w2.heap.size 9 #[.string (str T)]) := Lib.hid (Blk.new _ _ _)
          have HO := Lib.hid ((own_below hO hc2).alloc (.cells #[.string (str T)] 9))
          have HI := Lib.hid ((hI.below hc2).alloc (.cells #[.string (str T)] 9))
          have HB := Lib.hid (hb2.alloc hb2.size (.cells #[.string (str T)] 9))
          obtain ⟨i0, hi, hz0, hz1, hz2⟩ := info_parts infoStr
          clear hb hc2 hO hI hb2 cS cT c0
          go_wp2_with (at_builtin; refine wpList_append_own _ rfl _ _ 30 rfl w.heap.size 9 i0 (.string ⟨#[]⟩) 1 16 Tryd.underlying30 hi hz0 hz1 hz2 rfl (by decide) _ _ _ rfl HO.out ⟨w2.heap.size, 0, none⟩ 1 1 [.string (str T)] rfl rfl (blk_cells hNB.out) (by simp [Value.oneCell']) (by have := HAL.out; simp only [maxLen]; omega) (by have := HAL.out; omega) HB.out.size ?_)
          intro v1 wa hown hgr hne
          have hb3 := own_grown HB.out HO.out hgr HB.out.size (Nat.le_refl _)
          have hI2 := HI.out.grown HO.out hgr HBlt.out
          rw [← HSN.out, ← HSL.out] at hown
          clear hgr hne HO HI HB hNB HSN
          go_wp2_with fail
          go_roundw
          case rel => exact ⟨k + 1, acc ++ [T], by omega, by rw [HSL.out, HAK.out], by go_num, hown, H72, HG, hI2, hb3⟩
          case measure => simp [intOf]; omega
      · have hT : P20.text (off + x) = [] := P20.text_out (by omega)
        have HG := Lib.hid (HR.out.symm.trans (jFrom_bad (off := off) (acc := acc) hx hT))
        obtain ⟨C, C0, C1, cS0⟩ : ∃ C : Int, -9223372036854775808 ≤ C ∧ C ≤ 9223372036854775807 ∧ Hid (∀ W, Calls Tryd.prog 91 #[.int .i64 off, .int .i64 x] W fun e w' => e = .returned (.tuple #[.int .i64 C, .bool false]) ∧ W = w') := sum_over_all off x o0 o1 x0 x1 (by omega)
        have cT : Hid (∀ W, Calls Tryd.prog 24 #[.int .i64 C] W fun e w' => e = .returned (.string (str (P20.text C))) ∧ Below W.heap.size W w') := fun W => ntext_any C W C0 C1
        generalize P20.text C = T at cT
        clear hx HR hO hT hf
        go_wp2_with fail
        refine (cS0.out _).mono ?_
        rintro e w1 ⟨rfl, rfl⟩
        go_wp2_with fail
        refine (cT.out _).mono ?_
        rintro e w2 ⟨rfl, hc2⟩
        have hb2 := hb.trans (hc2.mono hb.size)
        clear hb hc2
        go_wp2_with fail
        go_ret2
        exact ⟨by rw [HG.out]; rfl, hb2⟩
    · obtain rfl : k = L.length := by omega
      have hki : ¬ (L.length : Int) < (L.length : Int) := by omega
      obtain ⟨B2, cap, rfl, hB0, hB1, hcap, hcs⟩ := own_form hO (by have := HAK.out; omega)
      have HG : Hid (R = (Lib.join acc [47], 0)) := by
        have q := HR.out
        rw [List.drop_length] at q
        exact Lib.hid q.symm
      have cJ : Hid (Calls Tryd.prog 92 #[.slice (some ⟨B2, 0, none⟩) acc.length cap, .string ⟨#[47]⟩] wr fun e w' => e = .returned (.string (str (Lib.join acc [47]))) ∧ Below wr.heap.size wr w') := Lib.hid (join_any acc B2 cap wr (by have := HAK.out; omega) H7.out hB1 hcap hcs)
      clear hO hI hcs HR
      go_wp2_with fail
      refine cJ.out.mono ?_
      rintro e w2 ⟨rfl, hc2⟩
      have hb2 := hb.trans (hc2.mono hb.size)
      clear hb hc2
      go_wp2_with fail
      go_ret2
      exact ⟨by rw [HG.out]; rfl, hb2⟩
end Go.Proofs.YtlideagcmhlkeaaDoor

/- The walks of ruleset.Other and of the reference's Other (chapters 16, 20). -/
namespace Go.Proofs.YtlideagcmhlkeaaDoor
open Go.RowKit
set_option linter.unusedVariables false

def svs (L : List RV) : List Int := L.map (·.save)
theorem svs_drop {L : List RV} {k : Nat} {r : RV} (h : L[k]? = some r) : (svs L).drop k = r.save :: (svs L).drop (k + 1) := by
  have hk : k < (svs L).length := by rw [svs, List.length_map]; exact (List.getElem?_eq_some_iff.mp h).1
  rw [List.drop_eq_getElem_cons hk]
  congr 1
  have := (List.getElem?_eq_some_iff.mp h).2
  simp [svs, this]
theorem of_zero {X : Int} {L : List RV} {k : Nat} {r : RV} (h : L[k]? = some r) (hz : r.save = 0) : P20.otherFrom X ((svs L).drop k) = P20.otherFrom X ((svs L).drop (k + 1)) := by
  rw [svs_drop h, P20.otherFrom, if_pos hz]
theorem of_bad {X : Int} {L : List RV} {k : Nat} {r : RV} (h : L[k]? = some r) (hz : r.save ≠ 0) (hx : X ≠ 0) (hr : r.save ≠ X) : P20.otherFrom X ((svs L).drop k) = (0, false) := by
  rw [svs_drop h, P20.otherFrom, if_neg hz, if_pos ⟨hx, hr⟩]
theorem of_new {X : Int} {L : List RV} {k : Nat} {r : RV} (h : L[k]? = some r) (hz : r.save ≠ 0) (hx : ¬ (X ≠ 0 ∧ r.save ≠ X)) : P20.otherFrom X ((svs L).drop k) = P20.otherFrom r.save ((svs L).drop (k + 1)) := by
  rw [svs_drop h, P20.otherFrom, if_neg hz, if_neg hx]
theorem of_end (X : Int) (L : List RV) : P20.otherFrom X ((svs L).drop L.length) = (X, decide (X ≠ 0)) := by
  rw [List.drop_eq_nil_of_le (by rw [svs, List.length_map]; exact Nat.le_refl _)]; rfl
theorem dne (X : Int) : decide (X ≠ 0) = (X != 0) := by
  rw [Bool.eq_iff_iff]; simp

set_option maxRecDepth 100000 in
set_option maxHeartbeats 4000000 in
theorem other_any (A : Option Addr) (L : List RV) (c : Nat) (w : World) (hl : L.length ≤ 1000000) (hR : RulesIn w A L) :
    Calls Tryd.prog 15 #[.slice A L.length c] w fun e w' => e = .returned (.tuple #[.int .i64 (P20.other (svs L)).1, .bool (P20.other (svs L)).2]) ∧ Below w.heap.size w w' := by
  obtain ⟨R, hRR⟩ : ∃ R, R = P20.other (svs L) := ⟨_, rfl⟩
  rw [← hRR]
  have HR : Hid (P20.otherFrom 0 ((svs L).drop 0) = R) := Lib.hid hRR.symm
  clear hRR
  have hli : (L.length : Int) ≤ 1000000 := by omega
  go_enter Tryd.func15, Tryd.ntmps15
  go_wp2_with fail
  go_loopw [4, 9] (fun x i wr => ∃ (k : Nat) (X : Int), k ≤ L.length ∧ i = .int .i64 k ∧ x = .int .i64 X ∧ Hid (P20.otherFrom X ((svs L).drop k) = R) ∧ RulesIn wr A L ∧ Below w.heap.size w wr) (fun _ i _ => L.length - (intOf i).toNat)
  case atStart => exact ⟨0, 0, Nat.zero_le _, rfl, rfl, HR, hR, Below.refl _ _⟩
  case round =>
    clear HR hR
    obtain ⟨k, X, hk, rfl, rfl, HR, hR, hb⟩ := hrel
    by_cases hlt : k < L.length
    · obtain ⟨r, hr⟩ : ∃ r, L[k]? = some r := ⟨_, List.getElem?_eq_getElem hlt⟩
      obtain ⟨b, o, rfl, hlb, c0, c1, c2, c3, c4, c5, c6, c7, c8, c9, c10⟩ := hR.get k r hr
      have hki : (k : Int) < (L.length : Int) := by omega
      have z0 := fun q => of_zero (X := X) hr q
      have z1 := fun q => of_bad (X := X) hr q
      have z2 := fun q => of_new (X := X) hr q
      obtain ⟨nm, fr, tl, mo, dk, dw, dd, sc, bs, sv, lt⟩ := r
      simp only at c0 c1 c2 c3 c4 c5 c6 c7 c8 c9 c10 z0 z1 z2
      have hR2 := Lib.hid (hR.alloc (.cells #[.string nm, .int .i64 fr, .int .i64 tl, .int .i64 mo, .int .i64 dk, .int .i64 dw, .int .i64 dd, .int .i64 sc, .int .i64 bs, .int .i64 sv, .string lt] 83))
      have hb2 := hb.alloc hb.size (.cells #[.string nm, .int .i64 fr, .int .i64 tl, .int .i64 mo, .int .i64 dk, .int .i64 dw, .int .i64 dd, .int .i64 sc, .int .i64 bs, .int .i64 sv, .string lt] 83)
      by_cases hz : sv = 0
      · have HG := Lib.hid (z0 hz)
        have e1 : (sv == 0) = true := by rw [beq_iff_eq]; exact hz
        have e2 : (sv != 0) = false := by rw [bne_eq_false_iff_eq]; exact hz
        clear z0 z1 z2 hr hR
        clear hz
        go_wp2_with fail
        go_roundw
        case rel => exact ⟨k + 1, X, by omega, by go_num, rfl, Lib.hid (HG.out.symm.trans HR.out), hR2.out, hb2⟩
        case measure => simp [intOf]; omega
      · have e1 : (sv == 0) = false := by rw [beq_eq_false_iff_ne]; exact hz
        have e2 : (sv != 0) = true := by rw [bne_iff_ne]; exact hz
        by_cases hx : X = 0
        · have HG := Lib.hid (z2 hz (fun q => q.1 hx))
          have e3 : (X != 0) = false := by rw [bne_eq_false_iff_eq]; exact hx
          clear z0 z1 z2 hr hR
          clear hz hx
          go_wp2_with fail
          go_roundw
          case rel => exact ⟨k + 1, sv, by omega, by go_num, rfl, Lib.hid (HG.out.symm.trans HR.out), hR2.out, hb2⟩
          case measure => simp [intOf]; omega
        · have e3 : (X != 0) = true := by rw [bne_iff_ne]; exact hx
          by_cases hq : sv = X
          · have HG := Lib.hid (z2 hz (fun q => q.2 hq))
            have e4 : (sv != X) = false := by rw [bne_eq_false_iff_eq]; exact hq
            clear z0 z1 z2 hr hR
            clear hz hx hq
            go_wp2_with fail
            go_roundw
            case rel => exact ⟨k + 1, sv, by omega, by go_num, rfl, Lib.hid (HG.out.symm.trans HR.out), hR2.out, hb2⟩
            case measure => simp [intOf]; omega
          · have HG := Lib.hid (z1 hz hx hq)
            have e4 : (sv != X) = true := by rw [bne_iff_ne]; exact hq
            clear z0 z1 z2 hr hR
            clear hz hx hq
            go_wp2_with fail
            go_ret2
            exact ⟨by rw [← HR.out, HG.out]; rfl, hb2⟩
    · obtain rfl : k = L.length := by omega
      have HG := Lib.hid ((of_end X L).symm.trans HR.out)
      rw [dne] at HG
      have hki : ¬ (L.length : Int) < (L.length : Int) := by omega
      clear HR
      go_wp2_with fail
      go_ret2
      exact ⟨by rw [← HG.out]; rfl, hb⟩
end Go.Proofs.YtlideagcmhlkeaaDoor

/- The walks of numeric.Expansion and of the reference's Expansion (chapter 20). -/
namespace Go.Proofs.YtlideagcmhlkeaaDoor
open Go.RowKit
set_option linter.unusedVariables false

theorem otherFrom_bd : ∀ (l : List Int) (x : Int), (-9223372036854775808 ≤ x ∧ x ≤ 9223372036854775807) → (∀ y ∈ l, -9223372036854775808 ≤ y ∧ y ≤ 9223372036854775807) → -9223372036854775808 ≤ (P20.otherFrom x l).1 ∧ (P20.otherFrom x l).1 ≤ 9223372036854775807
  | [], x, hx, _ => hx
  | r :: l, x, hx, h => by
    rw [P20.otherFrom]
    split
    · exact otherFrom_bd l x hx fun y hy => h y (List.mem_cons_of_mem _ hy)
    · split
      · exact ⟨by decide, by decide⟩
      · exact otherFrom_bd l r (h r (List.mem_cons_self ..)) fun y hy => h y (List.mem_cons_of_mem _ hy)
theorem other_bd (l : List Int) (h : ∀ y ∈ l, -9223372036854775808 ≤ y ∧ y ≤ 9223372036854775807) : -9223372036854775808 ≤ (P20.other l).1 ∧ (P20.other l).1 ≤ 9223372036854775807 := otherFrom_bd l 0 ⟨by decide, by decide⟩ h
/-- the saves are numbers of the machine -/
def SvOk (L : List RV) : Prop := ∀ y ∈ svs L, -9223372036854775808 ≤ y ∧ y ≤ 9223372036854775807
theorem exp_none (off save : Int) (l : List Int) : P20.expansion 0 off save l = P20.jFrom off [] [0] := by rw [jFrom_one, Int.add_zero]; rfl
theorem exp_fixed (off save : Int) (l : List Int) : P20.expansion 1 off save l = P20.jFrom off [] [save] := by rw [jFrom_one]; rfl
theorem exp_is (off save : Int) (l : List Int) (h : (P20.other l).2 = true) : P20.expansion 2 off save l = P20.jFrom off [] [0, (P20.other l).1] := by
  rw [jFrom_two, Int.add_zero]
  show (if (P20.other l).2 = true then _ else _) = _
  rw [if_pos h]
theorem exp_isnt (off save : Int) (l : List Int) (h : (P20.other l).2 = false) : P20.expansion 2 off save l = if l.any (fun r => decide (r ≠ 0)) then ([], 14) else P20.jFrom off [] [0] := by
  rw [jFrom_one, Int.add_zero]
  show (if (P20.other l).2 = true then _ else _) = _
  rw [if_neg (by rw [h]; decide)]
theorem exp_else (kind off save : Int) (l : List Int) (h : kind < 0 ∨ 2 < kind) : P20.expansion kind off save l = ([], 2) := by
  unfold P20.expansion
  rw [if_neg (by omega), if_neg (by omega), if_neg (by omega)]
theorem any_hit {L : List RV} {k : Nat} {r : RV} (h : L[k]? = some r) (hz : r.save ≠ 0) : (svs L).any (fun r => decide (r ≠ 0)) = true := by
  rw [List.any_eq_true]
  exact ⟨r.save, List.mem_map.2 ⟨r, List.mem_of_getElem? h, rfl⟩, decide_eq_true hz⟩
theorem any_no {L : List RV} (h : ∀ j r, j < L.length → L[j]? = some r → r.save = 0) : (svs L).any (fun r => decide (r ≠ 0)) = false := by
  rw [List.any_eq_false]
  intro y hy
  obtain ⟨r, hr, rfl⟩ := List.mem_map.1 hy
  obtain ⟨j, hj⟩ := List.mem_iff_getElem?.1 hr
  have := h j r (List.getElem?_eq_some_iff.mp hj).1 hj
  simpa using this
theorem ints_one {w : World} {B : Nat} {e : TypeId} {x : Int} (h : Blk w B e #[.int .i64 x]) : IntsIn w B [x] := ⟨h.lt, fun k y hy => by
  rw [h.cell k]
  match k, hy with
  | 0, hy => injection hy with hy; rw [← hy]; rfl⟩
theorem ints_two {w : World} {B : Nat} {e : TypeId} {x y : Int} (h : Blk w B e #[.int .i64 x, .int .i64 y]) : IntsIn w B [x, y] := ⟨h.lt, fun k z hz => by
  rw [h.cell k]
  match k, hz with
  | 0, hz => injection hz with hz; rw [← hz]; rfl
  | 1, hz => injection hz with hz; rw [← hz]; rfl⟩

set_option maxRecDepth 100000 in
set_option maxHeartbeats 8000000 in
theorem expansion_any (off kind save : Int) (set fmt : ByteArray) (ui : Bool) (uy um dk dw dd asec ab : Int) (A : Option Addr) (L : List RV) (c : Nat) (w : World) (o64 : -9223372036854775808 ≤ off ∧ off ≤ 9223372036854775807) (s64 : -9223372036854775808 ≤ save ∧ save ≤ 9223372036854775807) (hl : L.length ≤ 1000000) (hsv : SvOk L) (hR : RulesIn w A L) :
    Calls Tryd.prog 18 #[.agg #[.int .i64 off, .int .i64 kind, .int .i64 save, .string set, .string fmt, .bool ui, .int .i64 uy, .int .i64 um, .int .i64 dk, .int .i64 dw, .int .i64 dd, .int .i64 asec, .int .i64 ab], .slice A L.length c] w fun e w' => e = .returned (.tuple #[.string (str (P20.expansion kind off save (svs L)).1), .int .i64 (P20.expansion kind off save (svs L)).2]) ∧ Below w.heap.size w w' := by
  have hE := Blk.new w 47 #[.int .i64 off, .int .i64 kind, .int .i64 save, .string set, .string fmt, .bool ui, .int .i64 uy, .int .i64 um, .int .i64 dk, .int .i64 dw, .int .i64 dd, .int .i64 asec, .int .i64 ab]
  have hb0 : Below w.heap.size w (w.alloc (.cells #[.int .i64 off, .int .i64 kind, .int .i64 save, .string set, .string fmt, .bool ui, .int .i64 uy, .int .i64 um, .int .i64 dk, .int .i64 dw, .int .i64 dd, .int .i64 asec, .int .i64 ab] 47)) := (Below.refl _ _).alloc (Nat.le_refl _) _
  have hR0 := hR.alloc (.cells #[.int .i64 off, .int .i64 kind, .int .i64 save, .string set, .string fmt, .bool ui, .int .i64 uy, .int .i64 um, .int .i64 dk, .int .i64 dw, .int .i64 dd, .int .i64 asec, .int .i64 ab] 47)
  have hli : (L.length : Int) ≤ 1000000 := by omega
  obtain ⟨o0, o1⟩ := o64
  obtain ⟨s0, s1⟩ := s64
  have cJ1 : Hid (∀ (x : Int) (B : Nat) (W : World), (-9223372036854775808 ≤ x ∧ x ≤ 9223372036854775807) → IntsIn W B [x] → Calls Tryd.prog 54 #[.int .i64 off, .slice (some ⟨B, 0, none⟩) 1 1] W fun e w' => e = .returned (.tuple #[.string (str (P20.jFrom off [] [x]).1), .int .i64 (P20.jFrom off [] [x]).2]) ∧ Below W.heap.size W w') := fun x B W hx hI =>
    joined_any off B 1 [x] W o0 o1 (by simp) (by simp) (fun y hy => by rw [List.mem_singleton] at hy; rw [hy]; exact hx) hI
  have cJ2 : Hid (∀ (x y : Int) (B : Nat) (W : World), (-9223372036854775808 ≤ x ∧ x ≤ 9223372036854775807) → (-9223372036854775808 ≤ y ∧ y ≤ 9223372036854775807) → IntsIn W B [x, y] → Calls Tryd.prog 54 #[.int .i64 off, .slice (some ⟨B, 0, none⟩) 2 2] W fun e w' => e = .returned (.tuple #[.string (str (P20.jFrom off [] [x, y]).1), .int .i64 (P20.jFrom off [] [x, y]).2]) ∧ Below W.heap.size W w') := fun x y B W hx hy hI =>
    joined_any off B 2 [x, y] W o0 o1 (by simp) (by simp) (fun z hz => by
      simp only [List.mem_cons, List.not_mem_nil, or_false] at hz
      rcases hz with rfl | rfl
      · exact hx
      · exact hy) hI
  by_cases hk0 : kind = 0
  · subst hk0
    rw [exp_none]
    clear hR hR0
    have hN := ints_one (Blk.newAt (w.alloc (.cells #[.int .i64 off, .int .i64 0, .int .i64 save, .string set, .string fmt, .bool ui, .int .i64 uy, .int .i64 um, .int .i64 dk, .int .i64 dw, .int .i64 dd, .int .i64 asec, .int .i64 ab] 47)) (w.heap.size + 1) (by simp) 2 #[.int .i64 0])
    have hb1 := hb0.alloc hb0.size (.cells #[.int .i64 0] 2)
    have cJ := cJ1.out 0 _ _ ⟨by decide, by decide⟩ hN
    generalize P20.jFrom off [] [0] = R at cJ ⊢
    have CJ := Lib.hid cJ
    clear cJ hN cJ1 cJ2 hE hb0
    go_enter Tryd.func18, Tryd.ntmps18
    go_wp2_with fail
    refine CJ.out.mono ?_
    rintro e w1 ⟨rfl, hc1⟩
    have hb2 := hb1.trans (hc1.mono hb1.size)
    clear CJ hb1 hc1
    go_wp2_with fail
    go_ret2
    exact ⟨rfl, hb2⟩
  by_cases hk1 : kind = 1
  · subst hk1
    rw [exp_fixed]
    clear hR hR0
    have hN := ints_one (Blk.newAt (w.alloc (.cells #[.int .i64 off, .int .i64 1, .int .i64 save, .string set, .string fmt, .bool ui, .int .i64 uy, .int .i64 um, .int .i64 dk, .int .i64 dw, .int .i64 dd, .int .i64 asec, .int .i64 ab] 47)) (w.heap.size + 1) (by simp) 2 #[.int .i64 save])
    have hb1 := hb0.alloc hb0.size (.cells #[.int .i64 save] 2)
    have cJ := cJ1.out save _ _ ⟨s0, s1⟩ hN
    generalize P20.jFrom off [] [save] = R at cJ ⊢
    have CJ := Lib.hid cJ
    clear cJ hN cJ1 cJ2 hE hb0
    go_enter Tryd.func18, Tryd.ntmps18
    go_wp2_with fail
    refine CJ.out.mono ?_
    rintro e w1 ⟨rfl, hc1⟩
    have hb2 := hb1.trans (hc1.mono hb1.size)
    clear CJ hb1 hc1
    go_wp2_with fail
    go_ret2
    exact ⟨rfl, hb2⟩
  by_cases hk2 : kind = 2
  · subst hk2
    have cO : Hid (∀ W, RulesIn W A L → Calls Tryd.prog 15 #[.slice A L.length c] W fun e w' => e = .returned (.tuple #[.int .i64 (P20.other (svs L)).1, .bool (P20.other (svs L)).2]) ∧ Below W.heap.size W w') := fun W h => other_any A L c W hl h
    obtain ⟨x0, x1⟩ := other_bd (svs L) hsv
    have e1 := exp_is off save (svs L)
    have e2 := exp_isnt off save (svs L)
    obtain ⟨X, hX⟩ : ∃ X, X = (P20.other (svs L)).1 := ⟨_, rfl⟩
    rw [← hX] at x0 x1 e1 cO
    clear hX
    generalize (P20.other (svs L)).2 = I at e1 e2 cO
    clear hR
    cases I with
    | true =>
      rw [e1 rfl]
      clear e1 e2
      have cJ3 : Hid (∀ (B : Nat) (W : World), IntsIn W B [0, X] → Calls Tryd.prog 54 #[.int .i64 off, .slice (some ⟨B, 0, none⟩) 2 2] W fun e w' => e = .returned (.tuple #[.string (str (P20.jFrom off [] [0, X]).1), .int .i64 (P20.jFrom off [] [0, X]).2]) ∧ Below W.heap.size W w') := fun B W hI => cJ2.out 0 X B W ⟨by decide, by decide⟩ ⟨x0, x1⟩ hI
      generalize P20.jFrom off [] [0, X] = R at cJ3 ⊢
      go_enter Tryd.func18, Tryd.ntmps18
      go_wp2_with fail
      refine (cO.out _ hR0).mono ?_
      rintro e w1 ⟨rfl, hc1⟩
      have hE1 := hE.below hc1 hE.lt
      have hb1 := hb0.trans (hc1.mono hb0.size)
      have k0 : w1.cell? ⟨w.heap.size, 0, none⟩ = some (.int .i64 off) := (hE1.cell 0).trans rfl
      have hN := ints_two (Blk.new w1 2 #[.int .i64 0, .int .i64 X])
      have hb2 := hb1.alloc hb1.size (.cells #[.int .i64 0, .int .i64 X] 2)
      have cJ := cJ3.out _ _ hN
      have CJ := Lib.hid cJ
      clear cJ hN cJ1 cJ2 cJ3 hE hb0 hE1 hb1 hc1 cO hR0
      go_wp2_with fail
      refine CJ.out.mono ?_
      rintro e w2 ⟨rfl, hc2⟩
      have hb3 := hb2.trans (hc2.mono hb2.size)
      clear CJ hb2 hc2
      go_wp2_with fail
      go_ret2
      exact ⟨rfl, hb3⟩
    | false =>
      obtain ⟨R, hRR⟩ : ∃ R, R = P20.expansion 2 off save (svs L) := ⟨_, rfl⟩
      rw [← hRR]
      have HR := Lib.hid (hRR.trans (e2 rfl))
      clear e1 e2 hRR x0 x1
      go_enter Tryd.func18, Tryd.ntmps18
      go_wp2_with fail
      refine (cO.out _ hR0).mono ?_
      rintro e w1 ⟨rfl, hc1⟩
      have hE1 := hE.below hc1 hE.lt
      have hb1 := hb0.trans (hc1.mono hb0.size)
      have hR1 := hR0.below hc1
      clear hE hb0 hR0 hc1 cO
      go_wp2_with fail
      go_loopw [47] (fun i wr => ∃ k : Nat, k ≤ L.length ∧ i = .int .i64 k ∧ Hid (∀ j r, j < k → L[j]? = some r → r.save = 0) ∧ RulesIn wr A L ∧ Blk wr w.heap.size 47 #[.int .i64 off, .int .i64 2, .int .i64 save, .string set, .string fmt, .bool ui, .int .i64 uy, .int .i64 um, .int .i64 dk, .int .i64 dw, .int .i64 dd, .int .i64 asec, .int .i64 ab] ∧ Below w.heap.size w wr) (fun i _ => L.length - (intOf i).toNat)
      case atStart => exact ⟨0, Nat.zero_le _, rfl, fun j r hj => absurd hj (Nat.not_lt_zero _), hR1, hE1, hb1⟩
      case round =>
        clear hR1 hE1 hb1
        obtain ⟨k, hk, rfl, HN, hR, hE, hb⟩ := hrel
        by_cases hlt : k < L.length
        · obtain ⟨r, hr⟩ : ∃ r, L[k]? = some r := ⟨_, List.getElem?_eq_getElem hlt⟩
          obtain ⟨b, o, rfl, hlb, c0, c1, c2, c3, c4, c5, c6, c7, c8, c9, c10⟩ := hR.get k r hr
          have hki : (k : Int) < (L.length : Int) := by omega
          have z0 := fun q => any_hit hr q
          have z1 : r.save = 0 → ∀ j r', j < k + 1 → L[j]? = some r' → r'.save = 0 := fun q j r' hj hr' => by
            rcases Nat.lt_succ_iff_lt_or_eq.mp hj with hj | hj
            · exact HN.out j r' hj hr'
            · rw [hj, hr] at hr'; injection hr' with hr'; rw [← hr']; exact q
          obtain ⟨nm, fr, tl, mo, rdk, rdw, rdd, sc, bs, sv, lt⟩ := r
          simp only at c0 c1 c2 c3 c4 c5 c6 c7 c8 c9 c10 z0 z1
          have hR2 := Lib.hid (hR.alloc (.cells #[.string nm, .int .i64 fr, .int .i64 tl, .int .i64 mo, .int .i64 rdk, .int .i64 rdw, .int .i64 rdd, .int .i64 sc, .int .i64 bs, .int .i64 sv, .string lt] 83))
          have hE2 := Lib.hid (hE.alloc (.cells #[.string nm, .int .i64 fr, .int .i64 tl, .int .i64 mo, .int .i64 rdk, .int .i64 rdw, .int .i64 rdd, .int .i64 sc, .int .i64 bs, .int .i64 sv, .string lt] 83))
          have hb2 := hb.alloc hb.size (.cells #[.string nm, .int .i64 fr, .int .i64 tl, .int .i64 mo, .int .i64 rdk, .int .i64 rdw, .int .i64 rdd, .int .i64 sc, .int .i64 bs, .int .i64 sv, .string lt] 83)
          clear hR hE hb hr
          by_cases hz : sv = 0
          · have HZ := Lib.hid (z1 hz)
            have e1 : (sv != 0) = false := by rw [bne_eq_false_iff_eq]; exact hz
            clear hz z0 z1
            go_wp2_with fail
            go_roundw
            case rel => exact ⟨k + 1, by omega, by go_num, HZ, hR2.out, hE2.out, hb2⟩
            case measure => simp [intOf]; omega
          · have HG : Hid (R = ([], 14)) := Lib.hid (HR.out.trans (if_pos (z0 hz)))
            have e1 : (sv != 0) = true := by rw [bne_iff_ne]; exact hz
            clear hz z0 z1
            go_wp2_with fail
            go_ret2
            exact ⟨by rw [HG.out]; rfl, hb2⟩
        · obtain rfl : k = L.length := by omega
          have hki : ¬ (L.length : Int) < (L.length : Int) := by omega
          have hno := any_no HN.out
          have HG := Lib.hid (HR.out.trans (if_neg (by rw [hno]; decide)))
          have k0 : wr.cell? ⟨w.heap.size, 0, none⟩ = some (.int .i64 off) := (hE.cell 0).trans rfl
          have hN := ints_one (Blk.new wr 2 #[.int .i64 0])
          have hb2 := hb.alloc hb.size (.cells #[.int .i64 0] 2)
          have cJ := cJ1.out 0 _ _ ⟨by decide, by decide⟩ hN
          generalize P20.jFrom off [] [0] = Z at cJ HG
          have CJ := Lib.hid cJ
          clear cJ hN cJ1 cJ2 hE hb hR hno HN HR
          go_wp2_with fail
          refine CJ.out.mono ?_
          rintro e w2 ⟨rfl, hc2⟩
          have hb3 := hb2.trans (hc2.mono hb2.size)
          clear CJ hb2 hc2
          go_wp2_with fail
          go_ret2
          exact ⟨by rw [HG.out]; rfl, hb3⟩
  rw [exp_else kind off save (svs L) (by omega)]
  have q0 : (kind == 0) = false := by rw [beq_eq_false_iff_ne]; exact hk0
  have q1 : (kind == 1) = false := by rw [beq_eq_false_iff_ne]; exact hk1
  have q2 : (kind == 2) = false := by rw [beq_eq_false_iff_ne]; exact hk2
  clear hk0 hk1 hk2 hE hR hR0 cJ1 cJ2
  go_enter Tryd.func18, Tryd.ntmps18
  go_wp2_with fail
  go_ret2
  exact ⟨rfl, hb0⟩
-- REF
end Go.Proofs.YtlideagcmhlkeaaDoor

/- Plain mathematics of FORMATs (chapter 21): abbreviations, cuts, kinds, parts; no program in sight. -/
namespace Go.Proofs.YtlideagcmhlkeaaDoor.P21

/-- an ASCII letter, as a number and as a byte -/
def isLr (r : Nat) : Bool := (decide (65 ≤ r) && decide (r ≤ 90)) || (decide (97 ≤ r) && decide (r ≤ 122))
def isL (c : UInt8) : Bool := isLr c.toNat
theorem isLr_high {r : Nat} (h : 128 ≤ r) : isLr r = false := by
  unfold isLr
  rw [decide_eq_false (show ¬ r ≤ 90 by omega), decide_eq_false (show ¬ r ≤ 122 by omega), Bool.and_false, Bool.and_false]; rfl
/-- an abbreviation: three to six letters -/
def abbr (l : List UInt8) : Bool := decide (3 ≤ l.length) && decide (l.length ≤ 6) && l.all isL
/-- what stands around the first slash, around the first %s -/
def slash (l : List UInt8) : List UInt8 × List UInt8 × Bool := Lib.cut l [47]
def pct (l : List UInt8) : List UInt8 × List UInt8 × Bool := Lib.cut l [37, 115]
def letter (l : List UInt8) : Bool := (pct l).2.2 && (((pct l).1 ++ (pct l).2.1).all isL && decide (((pct l).1 ++ (pct l).2.1).length ≤ 5))
def num (l : List UInt8) : Bool := decide ((P20.parse l).2 = 0)
def kind (l : List UInt8) : Int :=
  if abbr l = true then 1
  else if ((slash l).2.2 && abbr (slash l).1 && abbr (slash l).2.1) = true then 2
  else if letter l = true then 3
  else if l = [37, 122] then 4
  else if (num l || ((slash l).2.2 && num (slash l).1 && num (slash l).2.1)) = true then 5
  else 0
def two (l : List UInt8) : Bool := (slash l).2.2 && (decide (kind l = 2) || decide (kind l = 5))
/-- the abbreviation, and the error's number -/
def out (t : List UInt8) (is : Bool) : List UInt8 × Int := if is = true then (t, 0) else ([], 15)
def abbrv (f : List UInt8) (off save : Int) (lt : List UInt8) : List UInt8 × Int :=
  if two f = true then (if save = 0 then ((slash f).1, 0) else ((slash f).2.1, 0))
  else if kind f = 3 then out ((pct f).1 ++ lt ++ (pct f).2.1) (abbr ((pct f).1 ++ lt ++ (pct f).2.1))
  else if kind f = 4 then out (P20.text (off + save)) (decide (P20.text (off + save) ≠ []))
  else if kind f = 0 then ([], 15)
  else (f, 0)
theorem kind_cases (l : List UInt8) : kind l = 0 ∨ kind l = 1 ∨ kind l = 2 ∨ kind l = 3 ∨ kind l = 4 ∨ kind l = 5 := by
  unfold kind
  repeat' split
  all_goals simp

/-- cuts by places -/
theorem cut_at {l sep : List UInt8} {i : Nat} (hi : i ≤ l.length) (ho : Lib.occAt l sep i = true) (hn : ∀ j, j < i → Lib.occAt l sep j = false) : Lib.cut l sep = (l.take i, l.drop (i + sep.length), true) := by
  have h := Lib.index_first hi ho hn
  unfold Lib.cut
  rw [h, if_pos (by omega)]; rfl
theorem cut_no {l sep : List UInt8} (hn : ∀ j, j ≤ l.length → Lib.occAt l sep j = false) : Lib.cut l sep = (l, [], false) := by
  have h := Lib.index_none hn
  unfold Lib.cut
  rw [h, if_neg (by omega)]
theorem cut_cases (l sep : List UInt8) : (Lib.cut l sep = (l, [], false) ∧ ∀ j, j ≤ l.length → Lib.occAt l sep j = false) ∨ ∃ i, i ≤ l.length ∧ Lib.occAt l sep i = true ∧ (∀ j, j < i → Lib.occAt l sep j = false) ∧ Lib.cut l sep = (l.take i, l.drop (i + sep.length), true) := by
  rcases Lib.index_spec l sep with ⟨h1, h2⟩ | ⟨i, h1, h2, h3, h4⟩
  · exact .inl ⟨cut_no h2, h2⟩
  · exact .inr ⟨i, h2, h3, h4, cut_at h2 h3 h4⟩
theorem beq_dec (c a : UInt8) : (c == a) = decide (a = c) := by rw [Bool.eq_iff_iff, beq_iff_eq, decide_eq_true_eq]; exact eq_comm
theorem occ1 (l : List UInt8) (c : UInt8) (i : Nat) : Lib.occAt l [c] i = decide (l[i]? = some c) := by
  unfold Lib.occAt
  rw [← List.head?_drop]
  cases l.drop i with
  | nil => simp
  | cons a t =>
    simp only [List.isPrefixOf, List.head?_cons, Option.some.injEq, Bool.and_true]
    exact beq_dec c a
theorem occ2 (l : List UInt8) (c d : UInt8) (i : Nat) : Lib.occAt l [c, d] i = (decide (l[i]? = some c) && decide (l[i + 1]? = some d)) := by
  unfold Lib.occAt
  rw [← List.head?_drop, show l[i + 1]? = (l.drop i)[1]? by rw [List.getElem?_drop]]
  cases l.drop i with
  | nil => simp
  | cons a t => cases t with
    | nil => simp [List.isPrefixOf]
    | cons b t =>
      simp only [List.isPrefixOf, List.head?_cons, List.getElem?_cons_succ, List.getElem?_cons_zero, Option.some.injEq, Bool.and_true]
      rw [beq_dec, beq_dec]
theorem cut1_at {l : List UInt8} {c : UInt8} {i : Nat} (h : l[i]? = some c) (hn : ∀ j, j < i → l[j]? ≠ some c) : Lib.cut l [c] = (l.take i, l.drop (i + 1), true) := by
  have hi := (List.getElem?_eq_some_iff.1 h).1
  exact cut_at (by omega) (by rw [occ1]; exact decide_eq_true h) fun j hj => by rw [occ1]; exact decide_eq_false (hn j hj)
/-- a slash in the string: of which kinds it can be -/
theorem slash_mem {l : List UInt8} (h : (slash l).2.2 = true) : (47 : UInt8) ∈ l := by
  rcases cut_cases l [47] with ⟨q, _⟩ | ⟨i, _, ho, _, _⟩
  · unfold slash at h; rw [q] at h; cases h
  · rw [occ1] at ho
    exact List.mem_of_getElem? (of_decide_eq_true ho)
theorem letter_mem {l : List UInt8} (h : letter l = true) : ∀ c ∈ l, isL c = true ∨ c = 37 ∨ c = 115 := by
  unfold letter at h
  simp only [Bool.and_eq_true] at h
  obtain ⟨h1, h2, _⟩ := h
  rcases cut_cases l [37, 115] with ⟨q, _⟩ | ⟨i, hi, ho, _, q⟩
  · unfold pct at h1; rw [q] at h1; cases h1
  · unfold pct at h2
    rw [q] at h2
    simp only [List.all_append, Bool.and_eq_true, List.all_eq_true] at h2
    rw [occ2] at ho
    simp only [Bool.and_eq_true, decide_eq_true_eq] at ho
    intro c hc
    obtain ⟨k, hk, rfl⟩ := List.getElem_of_mem hc
    by_cases k1 : k < i
    · exact .inl (h2.1 _ (List.mem_of_getElem? (i := k) (by rw [List.getElem?_take_of_lt k1, List.getElem?_eq_getElem hk])))
    · by_cases k2 : k = i
      · subst k2
        rw [List.getElem?_eq_getElem hk] at ho
        exact .inr (.inl (Option.some.inj ho.1))
      · by_cases k3 : k = i + 1
        · subst k3
          rw [List.getElem?_eq_getElem hk] at ho
          exact .inr (.inr (Option.some.inj ho.2))
        · refine .inl (h2.2 _ (List.mem_of_getElem? (i := k - (i + 2)) ?_))
          rw [List.getElem?_drop, show i + ([37, 115] : List UInt8).length + (k - (i + 2)) = k by simp only [List.length_cons, List.length_nil]; omega, List.getElem?_eq_getElem hk]
theorem two_eq (l : List UInt8) : two l = ((slash l).2.2 && decide (kind l ≠ 0)) := by
  unfold two
  by_cases hs : (slash l).2.2 = true
  · have hm := slash_mem hs
    have h1 : kind l ≠ 1 := by
      intro h
      have ha : abbr l = true := by
        by_cases q : abbr l = true
        · exact q
        · unfold kind at h
          rw [if_neg q] at h
          repeat' split at h
          all_goals simp at h
      unfold abbr at ha
      simp only [Bool.and_eq_true, List.all_eq_true] at ha
      have := ha.2 _ hm
      revert this; decide
    have h3 : kind l ≠ 3 := by
      intro h
      have ha : letter l = true := by
        by_cases q : letter l = true
        · exact q
        · unfold kind at h
          rw [if_neg (c := letter l = true) q] at h
          repeat' split at h
          all_goals simp at h
      rcases letter_mem ha _ hm with q | q | q
      · revert q; decide
      · revert q; decide
      · revert q; decide
    have h4 : kind l ≠ 4 := by
      intro h
      have ha : l = [37, 122] := by
        by_cases q : l = [37, 122]
        · exact q
        · unfold kind at h
          rw [if_neg (c := l = [37, 122]) q] at h
          repeat' split at h
          all_goals simp at h
      rw [ha] at hm
      revert hm; decide
    rw [hs, Bool.true_and, Bool.true_and]
    rcases kind_cases l with q | q | q | q | q | q <;> rw [q] <;> first | rfl | (exfalso; first | exact h1 q | exact h3 q | exact h4 q)
  · rw [Bool.not_eq_true] at hs
    rw [hs]; rfl
/-- all runes letters: all bytes letters -/
theorem idx_from (s : ByteArray) : ∀ (n pos : Nat), s.size ≤ pos + n → (Lib.idxFuncFrom (fun r => !isLr r) true s n pos = -1 ↔ (s.data.toList.drop pos).all isL = true)
  | 0, pos, h => by
    rw [List.drop_eq_nil_of_le (by rw [← Lib.size_eq]; omega)]
    simp [Lib.idxFuncFrom]
  | n + 1, pos, h => by
    unfold Lib.idxFuncFrom
    by_cases hp : pos < s.size
    · rw [if_pos hp]
      have hl : pos < s.data.toList.length := by rw [← Lib.size_eq]; exact hp
      rw [List.drop_eq_getElem_cons hl, List.all_cons]
      have hbyte : s.data.toList[pos] = s[pos]'hp := by
        have := Lib.data_getElem? s pos hp
        rw [List.getElem?_eq_getElem hl] at this
        exact Option.some.inj this
      rw [hbyte]
      by_cases ha : (s[pos]'hp).toNat < 128
      · rw [decode_ascii s pos hp ha]
        show ((if (!isLr (s[pos]'hp).toNat) = true then (pos : Int) else Lib.idxFuncFrom (fun r => !isLr r) true s n (pos + 1)) = -1) ↔ _
        by_cases hL : isLr (s[pos]'hp).toNat = true
        · rw [if_neg (by rw [hL]; decide), idx_from s n (pos + 1) (by omega)]
          unfold isL at *
          rw [hL, Bool.true_and]
        · rw [Bool.not_eq_true] at hL
          rw [if_pos (by rw [hL]; rfl)]
          unfold isL
          rw [hL, Bool.false_and]
          constructor
          · intro q; omega
          · intro q; cases q
      · have hh := (decode_high s pos hp (by omega)).1
        have hL : isLr (s[pos]'hp).toNat = false := isLr_high (by omega)
        rw [if_pos (by rw [isLr_high hh]; rfl)]
        unfold isL
        rw [hL, Bool.false_and]
        constructor
        · intro q; omega
        · intro q; cases q
    · rw [if_neg hp, List.drop_eq_nil_of_le (by rw [← Lib.size_eq]; omega)]
      simp
theorem idx_all (s : ByteArray) : Lib.idxFunc (fun r => !isLr r) true s = -1 ↔ s.data.toList.all isL = true := by
  have := idx_from s s.size 0 (by omega)
  rwa [List.drop_zero] at this
theorem idx_lt (s : ByteArray) : decide (Lib.idxFunc (fun r => !isLr r) true s < 0) = s.data.toList.all isL := by
  have h := idx_all s
  rcases Lib.idxFuncFrom_range (fun r => !isLr r) true s s.size 0 with q | ⟨q, _⟩
  · have q' : Lib.idxFunc (fun r => !isLr r) true s = -1 := q
    rw [q', h.1 q']; rfl
  · have q' : 0 ≤ Lib.idxFunc (fun r => !isLr r) true s := q
    rw [decide_eq_false (by omega)]
    cases hx : s.data.toList.all isL with
    | false => rfl
    | true => have := h.2 hx; omega
end Go.Proofs.YtlideagcmhlkeaaDoor.P21

/- Chapter 30 in plain words: what Expand and Contract answer. No function of the program. -/
namespace Go.Proofs.YtlideagcmhlkeaaDoor
open Go.RowKit
set_option linter.unusedVariables false

/-- the rules of a set -/
def ofSet (L : List RV) (nm : ByteArray) : List RV := L.filter (fun r => decide (r.name = nm))
/-- what stands for %z in an era -/
def num30 (R : List RV) (e : EV) : ByteArray × Int := (str (P20.expansion e.kind e.off e.save (svs (if e.kind = 2 then ofSet R e.set else []))).1, (P20.expansion e.kind e.off e.save (svs (if e.kind = 2 then ofSet R e.set else []))).2)
/-- the era with a new FORMAT -/
def fmtE (F : EV → ByteArray × Int) (e : EV) : EV := { e with fmt := (F e).1 }
/-- the eras in front of a place have no error -/
def okTo30 (F : EV → ByteArray × Int) (Z : List ZV) (i k : Nat) : Prop := ∀ (a b : Nat) (z : ZV) (e : EV), Z[a]? = some z → z.eras[b]? = some e → (a < i ∨ (a = i ∧ b < k)) → (F e).2 = 0
/-- the first error, 0 if there is none -/
def ErrIs (F : EV → ByteArray × Int) (Z : List ZV) (x : Int) : Prop := (x = 0 ∧ okTo30 F Z Z.length 0) ∨ (x ≠ 0 ∧ ∃ (i k : Nat) (z : ZV) (e : EV), Z[i]? = some z ∧ z.eras[k]? = some e ∧ okTo30 F Z i k ∧ (F e).2 = x)
theorem okTo30.zero (F : EV → ByteArray × Int) (Z : List ZV) : okTo30 F Z 0 0 := fun a b z e _ _ h => by omega
theorem okTo30.step {F : EV → ByteArray × Int} {Z : List ZV} {i k : Nat} {z : ZV} {e : EV} (h : okTo30 F Z i k) (hz : Z[i]? = some z) (he : z.eras[k]? = some e) (h0 : (F e).2 = 0) : okTo30 F Z i (k + 1) := fun a b z' e' hz' he' hp => by
  by_cases hq : a = i ∧ b = k
  · obtain ⟨rfl, rfl⟩ := hq
    rw [hz] at hz'
    injection hz' with hz'
    subst hz'
    rw [he] at he'
    injection he' with he'
    subst he'
    exact h0
  · exact h a b z' e' hz' he' (by omega)
theorem okTo30.zone {F : EV → ByteArray × Int} {Z : List ZV} {i k : Nat} {z : ZV} (h : okTo30 F Z i k) (hz : Z[i]? = some z) (hk : z.eras.length ≤ k) : okTo30 F Z (i + 1) 0 := fun a b z' e' hz' he' hp => by
  by_cases hq : a = i
  · subst hq
    rw [hz] at hz'
    injection hz' with hz'
    subst hz'
    have := (List.getElem?_eq_some_iff.1 he').1
    exact h a b z e' hz he' (by omega)
  · exact h a b z' e' hz' he' (by omega)
theorem ErrIs.ok {F : EV → ByteArray × Int} {Z : List ZV} {i : Nat} (h : okTo30 F Z i 0) (hi : Z.length ≤ i) : ErrIs F Z 0 := .inl ⟨rfl, fun a b z e hz he _ => h a b z e hz he (by have := (List.getElem?_eq_some_iff.1 hz).1; omega)⟩
theorem ErrIs.bad {F : EV → ByteArray × Int} {Z : List ZV} {i k : Nat} {z : ZV} {e : EV} (h : okTo30 F Z i k) (hz : Z[i]? = some z) (he : z.eras[k]? = some e) (h0 : (F e).2 ≠ 0) : ErrIs F Z (F e).2 := .inr ⟨h0, i, k, z, e, hz, he, h, rfl⟩
theorem ErrIs.uniq {F : EV → ByteArray × Int} {Z : List ZV} {x y : Int} (hx : ErrIs F Z x) (hy : ErrIs F Z y) : x = y := by
  rcases hx with ⟨rfl, hx⟩ | ⟨hx0, i, k, z, e, hz, he, hok, rfl⟩
  · rcases hy with ⟨rfl, _⟩ | ⟨hy0, i, k, z, e, hz, he, hok, rfl⟩
    · rfl
    · exact absurd (hx i k z e hz he (by have := (List.getElem?_eq_some_iff.1 hz).1; omega)) hy0
  · rcases hy with ⟨rfl, hy⟩ | ⟨hy0, i', k', z', e', hz', he', hok', rfl⟩
    · exact absurd (hy i k z e hz he (by have := (List.getElem?_eq_some_iff.1 hz).1; omega)) hx0
    · by_cases h1 : i < i' ∨ (i = i' ∧ k < k')
      · exact absurd (hok' i k z e hz he h1) hx0
      · by_cases h2 : i' < i ∨ (i' = i ∧ k' < k)
        · exact absurd (hok i' k' z' e' hz' he' h2) hy0
        · obtain rfl : i = i' := by omega
          obtain rfl : k = k' := by omega
          rw [hz] at hz'
          injection hz' with hz'
          subst hz'
          rw [he] at he'
          injection he' with he'
          subst he'
          rfl
theorem ErrIs.same {F : EV → ByteArray × Int} {Z Y : List ZV} {x : Int} (h : zSame14 Z Y) (hx : ErrIs F Y x) : ErrIs F Z x := by
  have key : ∀ (a : Nat) (z : ZV), Z[a]? = some z → ∃ y, Y[a]? = some y ∧ z.eras = y.eras := fun a z hz => by
    have hl := (List.getElem?_eq_some_iff.1 hz).1
    obtain ⟨y, hy⟩ : ∃ y, Y[a]? = some y := ⟨_, List.getElem?_eq_getElem (by rw [← h.1]; exact hl)⟩
    exact ⟨y, hy, (h.2 a z y hl hz hy).2⟩
  have mono : ∀ i k, okTo30 F Y i k → okTo30 F Z i k := fun i k hok a b z e hz he hp => by
    obtain ⟨y, hy, hye⟩ := key a z hz
    rw [hye] at he
    exact hok a b y e hy he hp
  rcases hx with ⟨rfl, hx⟩ | ⟨hx0, i, k, y, e, hy, he, hok, rfl⟩
  · exact .inl ⟨rfl, by rw [h.1]; exact mono _ _ hx⟩
  · have hl := (List.getElem?_eq_some_iff.1 hy).1
    obtain ⟨z, hz⟩ : ∃ z, Z[i]? = some z := ⟨_, List.getElem?_eq_getElem (by rw [h.1]; exact hl)⟩
    refine .inr ⟨hx0, i, k, z, e, hz, ?_, mono _ _ hok, rfl⟩
    rw [(h.2 i z y (by rw [h.1]; exact hl) hz hy).2]
    exact he
/-- the FORMAT that Expand makes -/
def exF (R : List RV) (e : EV) : ByteArray × Int := if e.fmt = ⟨#[37, 122]⟩ then num30 R e else (e.fmt, 0)
/-- the FORMAT that Contract makes -/
def coF (R : List RV) (e : EV) : ByteArray × Int :=
  if P21.kind (P4.bl e.fmt) = 5 then (if (num30 R e).2 = 0 then (if (num30 R e).1 = e.fmt then (⟨#[37, 122]⟩, 0) else (⟨#[]⟩, 15)) else (⟨#[]⟩, (num30 R e).2)) else (e.fmt, 0)
/-- the empty source -/
def nilS : SV := ⟨none, 0, [], none, 0, [], none, 0, [], none, 0, []⟩
/-- what a change of all FORMATs gives -/
structure Res30 (F : EV → ByteArray × Int) (s t : SV) (x : Int) : Prop where
  err : ErrIs F s.zones x
  yes : x = 0 → sSame14 t (mapS (fmtE F) s)
  no : x ≠ 0 → sSame14 t nilS
/-- a source that is small enough to be copied, with numbers of the machine -/
structure Few30 (s : SV) : Prop where
  lens : s.rules.length ≤ 1000 ∧ s.zones.length ≤ 1000 ∧ s.links.length ≤ 1000 ∧ s.shifts.length ≤ 1000
  eras : ∀ z ∈ s.zones, z.eras.length ≤ 1000
  nums : ∀ z ∈ s.zones, ∀ e ∈ z.eras, (-9223372036854775808 ≤ e.off ∧ e.off ≤ 9223372036854775807) ∧ (-9223372036854775808 ≤ e.save ∧ e.save ≤ 9223372036854775807) ∧ e.fmt.size ≤ 1000000
  saves : SvOk s.rules
end Go.Proofs.YtlideagcmhlkeaaDoor

/- A law on regions that draw their order, by what each operation leaves: each operation is walked once, whatever the order. No function of the program. -/
namespace Go.Proofs.YtlideagcmhlkeaaDoor
open Go
set_option linter.unusedVariables false

/-- what must stand ahead of operation i -/
def rdeps (ops : Array Oper) (i : Nat) : List Nat := match ops[i]? with
  | some o => (o.after.toList.filter (Region.binds .any)).map (·.on)
  | none => []
def rdst (ops : Array Oper) (i : Nat) : Option Nat := (ops[i]?).bind (·.dst)
def upd (y : Nat → Value) (d : Option Nat) (v : Value) : Nat → Value := match d with
  | some d => fun k => if k = d then v else y k
  | none => y
theorem ready_spec {ops : Array Oper} {listed : Array Bool} {i : Nat} (h : i ∈ Region.ready .any ops listed) : i < ops.size ∧ listed.getD i true = false ∧ ∀ d ∈ rdeps ops i, listed.getD d false = true := by
  unfold Region.ready at h
  rw [List.mem_filter, List.mem_range] at h
  obtain ⟨h1, h2⟩ := h
  rw [Array.getElem?_eq_getElem h1] at h2
  simp only [Option.map_some, Option.getD_some, Bool.and_eq_true, Bool.not_eq_true', Array.all_eq_true_iff_forall_mem, Bool.or_eq_true] at h2
  refine ⟨h1, h2.1, fun d hd => ?_⟩
  unfold rdeps at hd
  rw [Array.getElem?_eq_getElem h1] at hd
  simp only [List.mem_map, List.mem_filter, Array.mem_toList_iff] at hd
  obtain ⟨e, ⟨he, hb⟩, rfl⟩ := hd
  rcases h2.2 e he with q | q
  · rw [hb] at q; cases q
  · exact q
theorem ready_of {ops : Array Oper} {listed : Array Bool} {i : Nat} (h1 : i < ops.size) (h2 : listed.getD i true = false) (h3 : ∀ d ∈ rdeps ops i, listed.getD d false = true) : i ∈ Region.ready .any ops listed := by
  unfold Region.ready
  rw [List.mem_filter, List.mem_range]
  refine ⟨h1, ?_⟩
  rw [Array.getElem?_eq_getElem h1]
  simp only [Option.map_some, Option.getD_some, Bool.and_eq_true, Bool.not_eq_true', Array.all_eq_true_iff_forall_mem, Bool.or_eq_true]
  refine ⟨h2, fun e he => ?_⟩
  by_cases hb : Region.binds .any e = true
  · refine .inr (h3 e.on ?_)
    unfold rdeps
    rw [Array.getElem?_eq_getElem h1]
    simp only [List.mem_map, List.mem_filter, Array.mem_toList_iff]
    exact ⟨e, ⟨he, hb⟩, rfl⟩
  · exact .inl (by simpa using hb)
/-- the operations of which nothing is left open stand ahead of it -/
theorem all_listed {ops : Array Oper} {listed : Array Bool} (hs : listed.size = ops.size) (hlt : ∀ i, i < ops.size → ∀ d ∈ rdeps ops i, d < i) (h : Region.ready .any ops listed = []) : ∀ i, i < ops.size → listed.getD i false = true := by
  intro i
  induction i using Nat.strongRecOn with
  | ind i ih =>
    intro hi
    cases q : listed.getD i false with
    | true => rfl
    | false =>
      have q' : listed.getD i true = false := by
        rw [Array.getD_eq_getD_getElem?, Array.getElem?_eq_getElem (by omega)] at q ⊢
        exact q
      have := ready_of hi q' fun d hd => ih d (hlt i hi d hd) (Nat.lt_trans (hlt i hi d hd) hi)
      rw [h] at this; cases this

section
variable {P : Program} {ops : Array Oper} {Q : Exit → Act → World → Prop}
def unl (listed : Array Bool) : Nat := (listed.toList.filter (fun b => !b)).length
theorem unl_set {listed : Array Bool} {i : Nat} (h : listed.getD i true = false) : unl (listed.setIfInBounds i true) + 1 = unl listed := by
  unfold unl
  rw [Array.toList_setIfInBounds]
  rw [Array.getD_eq_getD_getElem?, ← Array.getElem?_toList] at h
  generalize listed.toList = l at h ⊢
  induction l generalizing i with
  | nil => simp at h
  | cons b l ih =>
    cases i with
    | zero =>
      simp at h
      subst h
      simp
    | succ i =>
      rw [List.getElem?_cons_succ] at h
      rw [List.set_cons_succ]
      cases b <;> simp [ih h]
theorem unl_zero {listed : Array Bool} (h : unl listed = 0) (i : Nat) : listed.getD i true = true := by
  unfold unl at h
  have := List.length_eq_zero_iff.1 h
  rw [List.filter_eq_nil_iff] at this
  rw [Array.getD_eq_getD_getElem?]
  cases q : listed[i]? with
  | none => rfl
  | some b =>
    have hb : b ∈ listed.toList := by rw [← Array.getElem?_toList] at q; exact List.mem_of_getElem? q
    have := this b hb
    simpa using this
/-- whatever the order, by an invariant -/
theorem wpAny_inv (I : Array Bool → Act → World → Prop) (hstep : ∀ listed a w i, I listed a w → i ∈ Region.ready .any ops listed → wpOp P ops Q i (fun a' w' => I (listed.setIfInBounds i true) a' w') a w)
    (hdone : ∀ listed a w, I listed a w → Region.ready .any ops listed = [] → Q .normal a w) : ∀ (fuel : Nat) (listed : Array Bool) (a : Act) (w : World), unl listed ≤ fuel → I listed a w → wpAny P .any ops Q fuel listed a w
  | 0, listed, a, w, hu, h => by
    have hr : Region.ready .any ops listed = [] := by
      apply List.eq_nil_iff_forall_not_mem.2
      intro i hi
      have h1 := (ready_spec hi).2.1
      rw [unl_zero (by omega) i] at h1; cases h1
    exact ⟨hr, hdone _ _ _ h hr⟩
  | fuel + 1, listed, a, w, hu, h => ⟨fun hr => hdone _ _ _ h hr, fun i hi => wpOp_mono (fun a' w' h' => wpAny_inv I hstep hdone fuel _ a' w' (by have := unl_set (ready_spec hi).2.1; omega) h') (hstep _ _ _ _ h hi)⟩

/-- what operation j has left: a value that is known ahead, or what X says -/
def Left17 (ops : Array Oper) (val : Nat → Option Value) (X : Nat → (Nat → Value) → World → Prop) (j : Nat) (y : Nat → Value) (w : World) : Prop :=
  match val j with
  | some v => ∀ d, rdst ops j = some d → y d = v
  | none => X j y w
theorem Left17.known {val : Nat → Option Value} {X : Nat → (Nat → Value) → World → Prop} {j : Nat} {y : Nat → Value} {w : World} (h : Left17 ops val X j y w) {v : Value} (hv : val j = some v) {d : Nat} (hd : rdst ops j = some d) : y d = v := by
  unfold Left17 at h; rw [hv] at h; exact h d hd
theorem Left17.other {val : Nat → Option Value} {X : Nat → (Nat → Value) → World → Prop} {j : Nat} {y : Nat → Value} {w : World} (h : Left17 ops val X j y w) (hv : val j = none) : X j y w := by
  unfold Left17 at h; rw [hv] at h; exact h
/-- THE LAW: each operation by itself, behind those that must stand ahead of it. fr: the frame by the slots that the region makes; val: the values known ahead; X: what the others leave, by the slots Kx; G: what a step may do to the world. -/
theorem wp_region_inv {id : Nat} {a : Act} {w : World} (fr : (Nat → Value) → Act) (y0 : Nat → Value) (val : Nat → Option Value) (X : Nat → (Nat → Value) → World → Prop) (Kx : Nat → List Nat) (G : World → World → Prop) (S : World → Prop)
    (hm : P.follows .mixedOrders = true) (ha : a = fr y0) (hS : S w.drew)
    (hlt : ∀ i, i < ops.size → ∀ d ∈ rdeps ops i, d < i)
    (hput : ∀ i d, i < ops.size → rdst ops i = some d → ∀ y v, (fr y).put (some d) v = fr (upd y (some d) v))
    (hloc : ∀ j, j < ops.size → val j = none → ∀ y y' w, (∀ k ∈ Kx j, y k = y' k) → X j y w → X j y' w)
    (hmono : ∀ j, j < ops.size → val j = none → (∃ i, i < ops.size ∧ i ≠ j ∧ i ∉ rdeps ops j) → ∀ y w w', G w w' → X j y w → X j y w')
    (hap : ∀ i j, i < ops.size → j < ops.size → i ≠ j → i ∉ rdeps ops j → ∀ d, rdst ops i = some d → (rdst ops j ≠ some d) ∧ (val j = none → d ∉ Kx j))
    (hstep : ∀ i, i < ops.size → ∀ o, ops[i]? = some o → ∀ y w, S w → (∀ d ∈ rdeps ops i, Left17 ops val X d y w) →
      ∀ K' : Act → World → Prop, Shut (∀ v a' w', a' = (fr y).put o.dst v → G w w' → S w' → (val i = some v ∨ (val i = none ∧ X i (upd y o.dst v) w')) → K' a' w') →
        if Region.wanted o (yielded ops (fr y).tmps) = true then Oper.wp P o (fr y) w K' Q else K' ((fr y).put o.dst undef) w)
    (hdone : ∀ y w, S w → (∀ j, j < ops.size → Left17 ops val X j y w) → Q .normal (fr y) w) : (Code.region id ops true).wp P Q a w := by
  refine wp_region_any hm ?_
  refine wpAny_inv (fun listed a w => listed.size = ops.size ∧ ∃ y, a = fr y ∧ S w ∧ (∀ j, listed.getD j false = true → j < ops.size ∧ Left17 ops val X j y w) ∧ ∀ j, listed.getD j false = true → ∀ d ∈ rdeps ops j, listed.getD d false = true) ?_ ?_ _ _ _ _ ?_ ?_
  · rintro listed a w i ⟨hsz, y, rfl, hSw, hl, hcl⟩ hi
    obtain ⟨h1, h2, h3⟩ := ready_spec hi
    have ho : ops[i]? = some (ops[i]'h1) := Array.getElem?_eq_getElem h1
    refine wpOp_step ho fun K' hK => ?_
    refine hstep i h1 _ ho y w hSw (fun d hd => (hl d (h3 d hd)).2) K' ?_
    intro v a' w' ha' hG hS' hnew
    refine hK _ _ ⟨by rw [Array.size_setIfInBounds]; exact hsz, upd y (ops[i]'h1).dst v, ?_, hS', ?_, ?_⟩
    · rw [ha']
      cases hd : (ops[i]'h1).dst with
      | none => rfl
      | some d => exact hput i d h1 (by unfold rdst; rw [ho]; exact hd) y v
    · intro j hj
      by_cases hij : j = i
      · subst hij
        refine ⟨h1, ?_⟩
        unfold Left17
        rcases hnew with hv | ⟨hv, hx⟩
        · rw [hv]
          intro d hd
          have hd' : (ops[j]'h1).dst = some d := by unfold rdst at hd; rw [ho] at hd; exact hd
          rw [hd']
          show (if d = d then v else y d) = v
          rw [if_pos rfl]
        · rw [hv]; exact hx
      · have hj' : listed.getD j false = true := by
          rw [Array.getD_eq_getD_getElem?, Array.getElem?_setIfInBounds, if_neg (fun q => hij q.symm)] at hj
          rw [Array.getD_eq_getD_getElem?]; exact hj
        obtain ⟨hjn, hf⟩ := hl j hj'
        have hni : i ∉ rdeps ops j := fun q => by
          have := hcl j hj' i q
          rw [Array.getD_eq_getD_getElem?] at this h2
          cases e : listed[i]? with
          | none => rw [e] at this; cases this
          | some b => rw [e] at this h2; simp at this h2; rw [this] at h2; cases h2
        refine ⟨hjn, ?_⟩
        cases hd : (ops[i]'h1).dst with
        | none =>
          unfold Left17 at hf ⊢
          cases hv : val j with
          | some u => rw [hv] at hf; exact hf
          | none => rw [hv] at hf; exact hmono j hjn hv ⟨i, h1, fun q => hij q.symm, hni⟩ y w w' hG hf
        | some d =>
          obtain ⟨a1, a2⟩ := hap i j h1 hjn (fun q => hij q.symm) hni d (by unfold rdst; rw [ho]; exact hd)
          unfold Left17 at hf ⊢
          cases hv : val j with
          | some u =>
            rw [hv] at hf
            intro d' hd'
            have hne : d' ≠ d := fun q => a1 (by rw [hd', q])
            show (if d' = d then v else y d') = u
            rw [if_neg hne]; exact hf d' hd'
          | none =>
            rw [hv] at hf
            refine hloc j hjn hv y _ w' (fun k hk => ?_) (hmono j hjn hv ⟨i, h1, fun q => hij q.symm, hni⟩ y w w' hG hf)
            have hne : k ≠ d := fun q => a2 hv (by rw [← q]; exact hk)
            show y k = if k = d then v else y k
            rw [if_neg hne]
    · intro j hj d hd
      have key : ∀ k, listed.getD k false = true → (listed.setIfInBounds i true).getD k false = true := fun k hk => by
        rw [Array.getD_eq_getD_getElem?] at hk ⊢
        rw [Array.getElem?_setIfInBounds]
        split
        · split
          · rfl
          · rename_i q1 q2; subst q1; rw [Array.getElem?_eq_none (by omega)] at hk; cases hk
        · exact hk
      by_cases hij : j = i
      · subst hij; exact key d (h3 d hd)
      · have hj' : listed.getD j false = true := by
          rw [Array.getD_eq_getD_getElem?, Array.getElem?_setIfInBounds, if_neg (fun q => hij q.symm)] at hj
          rw [Array.getD_eq_getD_getElem?]; exact hj
        exact key d (hcl j hj' d hd)
  · rintro listed a w ⟨hsz, y, rfl, hSw, hl, _⟩ hr
    exact hdone y w hSw fun j hj => (hl j (all_listed hsz hlt hr j hj)).2
  · unfold unl
    rw [Array.toList_replicate]
    simp
  · refine ⟨Array.size_replicate, y0, ha, hS, fun j hj => ?_, fun j hj => ?_⟩
    all_goals
      rw [Array.getD_eq_getD_getElem?, Array.getElem?_replicate] at hj
      split at hj <;> cases hj
/-- slots and what must stand ahead, read off the operations -/
def shapeOf (ops : List Oper) : List (Option Nat × List Nat) := ops.map fun o => (o.dst, (o.after.toList.filter (Region.binds .any)).map (·.on))
def sdst (sh : List (Option Nat × List Nat)) (i : Nat) : Option Nat := (sh.getD i (none, [])).1
def sdeps (sh : List (Option Nat × List Nat)) (i : Nat) : List Nat := (sh.getD i (none, [])).2
theorem rdst_shape {l : List Oper} {sh : List (Option Nat × List Nat)} (h : shapeOf l = sh) (i : Nat) : rdst l.toArray i = sdst sh i := by
  subst h
  unfold rdst sdst shapeOf
  rw [List.getD_eq_getElem?_getD, List.getElem?_map, List.getElem?_toArray]
  cases l[i]? <;> rfl
theorem rdeps_shape {l : List Oper} {sh : List (Option Nat × List Nat)} (h : shapeOf l = sh) (i : Nat) : rdeps l.toArray i = sdeps sh i := by
  subst h
  unfold rdeps sdeps shapeOf
  rw [List.getD_eq_getElem?_getD, List.getElem?_map, List.getElem?_toArray]
  cases l[i]? <;> rfl
/-- each stands behind those ahead of it; no two write one slot, nor one that another's facts speak of -/
def shapeOk (sh : List (Option Nat × List Nat)) (sp : Nat → Bool) (Kx : Nat → List Nat) : Bool :=
  (List.range sh.length).all fun i => (sdeps sh i).all (fun d => decide (d < i)) && (List.range sh.length).all fun j => (i == j) || (sdeps sh j).contains i || match sdst sh i with
    | none => true
    | some d => (sdst sh j != some d) && (!sp j || !(Kx j).contains d)
/-- what operation j has left, by the shape -/
def LeftS (sh : List (Option Nat × List Nat)) (val : Nat → Option Value) (X : Nat → (Nat → Value) → World → Prop) (j : Nat) (y : Nat → Value) (w : World) : Prop :=
  match val j with
  | some v => ∀ d, sdst sh j = some d → y d = v
  | none => X j y w
theorem LeftS.of {l : List Oper} {sh : List (Option Nat × List Nat)} (hsh : shapeOf l = sh) {val : Nat → Option Value} {X : Nat → (Nat → Value) → World → Prop} {j : Nat} {y : Nat → Value} {w : World} (h : Left17 l.toArray val X j y w) : LeftS sh val X j y w := by
  unfold Left17 at h
  unfold LeftS
  cases hv : val j with
  | none => rw [hv] at h; exact h
  | some v => rw [hv] at h; exact fun d hd => h d (by rw [rdst_shape hsh]; exact hd)
/-- all others stand ahead of operation j -/
def lastB (sh : List (Option Nat × List Nat)) (j : Nat) : Bool := (List.range sh.length).all fun i => (i == j) || (sdeps sh j).contains i
def valOf (sp : Nat → Bool) (vals : List Value) (j : Nat) : Option Value := if sp j = true then none else some (vals.getD j undef)
/-- a step of the law: operation i alone -/
def StepOk (P : Program) (ops : Array Oper) (Q : Exit → Act → World → Prop) (fr : (Nat → Value) → Act) (sh : List (Option Nat × List Nat)) (sp : Nat → Bool) (vals : List Value) (X : Nat → (Nat → Value) → World → Prop) (G : World → World → Prop) (S : World → Prop) (i : Nat) (o : Oper) : Prop :=
  ∀ y w, S w → (∀ d, (sdeps sh i).contains d = true → LeftS sh (valOf sp vals) X d y w) →
    ∀ K' : Act → World → Prop, Shut (∀ v a' w', a' = (fr y).put o.dst v → G w w' → S w' → (valOf sp vals i = some v ∨ (valOf sp vals i = none ∧ X i (upd y o.dst v) w')) → K' a' w') →
      if Region.wanted o (yielded ops (fr y).tmps) = true then Oper.wp P o (fr y) w K' Q else K' ((fr y).put o.dst undef) w
def StepsOk (P : Program) (ops : Array Oper) (Q : Exit → Act → World → Prop) (fr : (Nat → Value) → Act) (sh : List (Option Nat × List Nat)) (sp : Nat → Bool) (vals : List Value) (X : Nat → (Nat → Value) → World → Prop) (G : World → World → Prop) (S : World → Prop) (i : Nat) (l : List Oper) : Prop :=
  ∀ k o, l[k]? = some o → StepOk P ops Q fr sh sp vals X G S (i + k) o
section
variable {fr : (Nat → Value) → Act} {sh : List (Option Nat × List Nat)} {sp : Nat → Bool} {vals : List Value} {X : Nat → (Nat → Value) → World → Prop} {G : World → World → Prop} {S : World → Prop}
theorem StepsOk.nil {i : Nat} : StepsOk P ops Q fr sh sp vals X G S i [] := fun k o h => by simp at h
theorem StepsOk.cons {i : Nat} {o : Oper} {l : List Oper} (h : StepOk P ops Q fr sh sp vals X G S i o) (hl : StepsOk P ops Q fr sh sp vals X G S (i + 1) l) : StepsOk P ops Q fr sh sp vals X G S i (o :: l) := fun k o' ho => by
  cases k with
  | zero => rw [List.getElem?_cons_zero] at ho; injection ho with ho; subst ho; exact h
  | succ k =>
    rw [List.getElem?_cons_succ] at ho
    have := hl k o' ho
    rwa [show i + 1 + k = i + (k + 1) by omega] at this
/-- a step whose value is known ahead -/
theorem StepOk.known {i : Nat} {o : Oper} (hi : sp i = false) (h : ∀ y w, S w → (∀ d, (sdeps sh i).contains d = true → LeftS sh (valOf sp vals) X d y w) →
    ∀ K' : Act → World → Prop, Shut (∀ a' w', a' = (fr y).put o.dst (vals.getD i undef) → G w w' → S w' → K' a' w') →
      if Region.wanted o (yielded ops (fr y).tmps) = true then Oper.wp P o (fr y) w K' Q else K' ((fr y).put o.dst undef) w) : StepOk P ops Q fr sh sp vals X G S i o :=
  fun y w hS hd K' hK => h y w hS hd K' fun a' w' ha hG hS' => hK _ a' w' ha hG hS' (.inl (by unfold valOf; rw [if_neg (by rw [hi]; decide)]))
/-- a step whose value is not known ahead -/
theorem StepOk.other {i : Nat} {o : Oper} (hi : sp i = true) (h : ∀ y w, S w → (∀ d, (sdeps sh i).contains d = true → LeftS sh (valOf sp vals) X d y w) →
    ∀ K' : Act → World → Prop, Shut (∀ v a' w', a' = (fr y).put o.dst v → G w w' → S w' → X i (upd y o.dst v) w' → K' a' w') →
      if Region.wanted o (yielded ops (fr y).tmps) = true then Oper.wp P o (fr y) w K' Q else K' ((fr y).put o.dst undef) w) : StepOk P ops Q fr sh sp vals X G S i o :=
  fun y w hS hd K' hK => h y w hS hd K' fun v a' w' ha hG hS' hx => hK v a' w' ha hG hS' (.inr ⟨by unfold valOf; rw [if_pos hi], hx⟩)
end
/-- THE LAW, by the shape -/
theorem wp_region_shape {id : Nat} {l : List Oper} {Q : Exit → Act → World → Prop} {a : Act} {w : World} (sh : List (Option Nat × List Nat)) (fr : (Nat → Value) → Act) (y0 : Nat → Value) (sp : Nat → Bool) (vals : List Value) (X : Nat → (Nat → Value) → World → Prop) (Kx : Nat → List Nat) (G : World → World → Prop) (S : World → Prop)
    (hm : P.follows .mixedOrders = true) (hsh : shapeOf l = sh) (hok : shapeOk sh sp Kx = true) (ha : a = fr y0) (hS : S w.drew)
    (hput : ∀ d ∈ sh.filterMap (·.1), ∀ y v, (fr y).put (some d) v = fr (upd y (some d) v))
    (hloc : ∀ j, sp j = true → ∀ y y' w, (∀ k ∈ Kx j, y k = y' k) → X j y w → X j y' w)
    (hmono : ∀ j, sp j = true → lastB sh j = false → ∀ y w w', G w w' → X j y w → X j y w')
    (hstep : StepsOk P l.toArray Q fr sh sp vals X G S 0 l)
    (hdone : ∀ y w, S w → (∀ j, j < sh.length → LeftS sh (valOf sp vals) X j y w) → Q .normal (fr y) w) : (Code.region id l.toArray true).wp P Q a w := by
  have hlen : l.length = sh.length := by rw [← hsh]; unfold shapeOf; rw [List.length_map]
  have hsz : l.toArray.size = sh.length := by rw [List.size_toArray, hlen]
  have hsp : ∀ j, valOf sp vals j = none → sp j = true := fun j h => by
    unfold valOf at h; split at h
    · assumption
    · cases h
  have hok' := hok
  unfold shapeOk at hok'
  rw [List.all_eq_true] at hok'
  refine wp_region_inv fr y0 (valOf sp vals) X Kx G S hm ha hS ?_ ?_ ?_ ?_ ?_ ?_ ?_
  · intro i hi d hd
    rw [hsz] at hi
    rw [rdeps_shape hsh] at hd
    have := hok' i (List.mem_range.2 hi)
    rw [Bool.and_eq_true, List.all_eq_true] at this
    exact of_decide_eq_true (this.1 d hd)
  · intro i d hi hd y v
    rw [rdst_shape hsh] at hd
    refine hput d (List.mem_filterMap.2 ⟨sh.getD i (none, []), ?_, hd⟩) y v
    rw [hsz] at hi
    rw [List.getD_eq_getElem?_getD, List.getElem?_eq_getElem hi]
    exact List.getElem_mem _
  · intro j _ hv; exact hloc j (hsp j hv)
  · intro j _ hv ⟨i, hi, hij, hni⟩
    refine hmono j (hsp j hv) ?_
    unfold lastB
    rw [List.all_eq_false]
    refine ⟨i, List.mem_range.2 (by rw [← hsz]; exact hi), ?_⟩
    rw [rdeps_shape hsh] at hni
    simp [hij, hni]
  · intro i j hi hj hij hni d hd
    rw [hsz] at hi hj
    rw [rdeps_shape hsh] at hni
    rw [rdst_shape hsh] at hd ⊢
    have := hok' i (List.mem_range.2 hi)
    rw [Bool.and_eq_true, List.all_eq_true, List.all_eq_true] at this
    have q := this.2 j (List.mem_range.2 hj)
    rw [hd] at q
    simp only [Bool.or_eq_true, beq_iff_eq, Bool.and_eq_true, bne_iff_ne, Bool.not_eq_true', List.contains_iff_mem] at q
    rcases q with (q | q) | ⟨q1, q2⟩
    · exact absurd q hij
    · exact absurd q hni
    · refine ⟨q1, fun hv hk => ?_⟩
      rcases q2 with q2 | q2
      · rw [hsp j hv] at q2; cases q2
      · rw [List.contains_iff_mem.2 hk] at q2; cases q2
  · intro i hi o ho y w hSw hd K' hK
    have hs := hstep i o (by rw [List.getElem?_toArray] at ho; exact ho)
    rw [Nat.zero_add] at hs
    exact hs y w hSw (fun d hd' => LeftS.of hsh (hd d (by rw [rdeps_shape hsh]; exact List.contains_iff_mem.1 hd'))) K' hK
  · intro y w hSw h
    exact hdone y w hSw fun j hj => LeftS.of hsh (h j (by rw [hsz]; exact hj))
/-- a fact that an operation has left -/
theorem LeftS.val {sh : List (Option Nat × List Nat)} {sp : Nat → Bool} {vals : List Value} {X : Nat → (Nat → Value) → World → Prop} {j : Nat} {y : Nat → Value} {w : World} (h : LeftS sh (valOf sp vals) X j y w) {d : Nat} (hj : sp j = false) (hd : sdst sh j = some d) : y d = vals.getD j undef := by
  unfold LeftS valOf at h
  rw [if_neg (by rw [hj]; decide)] at h
  exact h d hd
theorem LeftS.ex {sh : List (Option Nat × List Nat)} {sp : Nat → Bool} {vals : List Value} {X : Nat → (Nat → Value) → World → Prop} {j : Nat} {y : Nat → Value} {w : World} (h : LeftS sh (valOf sp vals) X j y w) (hj : sp j = true) : X j y w := by
  unfold LeftS valOf at h
  rw [if_pos hj] at h
  exact h
end
end Go.Proofs.YtlideagcmhlkeaaDoor

/- What the steps of a drawn region keep that makes a source: rows of its own, and the box of the source. No function of the program. -/
namespace Go.Proofs.YtlideagcmhlkeaaDoor
open Go.RowKit
set_option linter.unusedVariables false

/-- blocks that hold no source stay as they are; boxes of sources stay boxes of sources -/
structure GS (W W' : World) : Prop where
  far : ∀ (g : Nat) (e : TypeId) (cur : Array Value), e ≠ 32 → W.heap[g]? = some (.cells cur e (0, 0)) → W'.heap[g]? = some (.cells cur e (0, 0))
  own : ∀ g, (∃ a b c d, Blk W g 32 #[a, b, c, d]) → ∃ a b c d, Blk W' g 32 #[a, b, c, d]
theorem GS.refl (W : World) : GS W W := ⟨fun _ _ _ _ h => h, fun _ h => h⟩
theorem GS.below {W W' : World} (h : Below W.heap.size W W') : GS W W' :=
  ⟨fun g e cur _ hb => (h.block g (Array.getElem?_eq_some_iff.1 hb).1).trans hb, fun g ⟨a, b, c, d, hb⟩ => ⟨a, b, c, d, hb.below h hb.lt⟩⟩
theorem GS.alloc (W : World) (ob : Obj) : GS W (W.alloc ob) := GS.below ((Below.refl _ W).alloc (Nat.le_refl _) ob)
theorem GS.trans {A B C : World} (h : GS A B) (k : GS B C) : GS A C := ⟨fun g e cur he hb => k.far g e cur he (h.far g e cur he hb), fun g hb => k.own g (h.own g hb)⟩
theorem GS.set_ {W : World} {g : Nat} {a b c d : Value} (hb : Blk W g 32 #[a, b, c, d]) (n : Nat) (u : Value) : GS W (W.setCell ⟨g, n, none⟩ u) := by
  refine ⟨fun g' e cur he h' => (Below.heap_setCell W _ u g' (fun q => he ?_)).trans h', fun g' ⟨a', b', c', d', hb'⟩ => ?_⟩
  · have q' : g' = g := q
    subst q'
    unfold Blk at hb
    rw [hb] at h'
    injection h' with h'
    injection h' with _ h' _
    exact h'.symm
  · by_cases q : g' = g
    · subst q
      have := hb.set_ n u
      match n with
      | 0 | 1 | 2 | 3 => exact ⟨_, _, _, _, this⟩
      | n + 4 =>
        rw [Array.setIfInBounds, dif_neg (by simp)] at this
        exact ⟨_, _, _, _, this⟩
    · exact ⟨a', b', c', d', hb'.far q u⟩
theorem GS.row {α : Type} {W W' : World} {base : Nat} {e : TypeId} {m : Nat} {f : α → List Value} {A : Option Addr} {c : Nat} {L : List α} (hg : GS W W') (he : e ≠ 32) (h : RowOf W base e m f A c L) : RowOf W' base e m f A c L := by
  refine ⟨h.1, ?_⟩
  rcases h.2 with q | ⟨g, cap, cur, hv, hb, hh, hr⟩
  · exact .inl q
  · exact .inr ⟨g, cap, cur, hv, hb, hg.far g e cur he hh, hr⟩
theorem GS.zones {W W' : World} {base : Nat} {Z Y : List ZV} (hg : GS W W') (h : ZonesIn W base Z Y) : ZonesIn W' base Z Y := ⟨h.same, fun i y hy => hg.row (by decide) (h.eras i y hy), h.apart⟩
theorem passS {W W' : World} {p : Nat → Prop} (hg : GS W W') (h : ∃ g, p g ∧ ∃ a b c d, Blk W g 32 #[a, b, c, d]) : ∃ g, p g ∧ ∃ a b c d, Blk W' g 32 #[a, b, c, d] := by
  obtain ⟨g, h1, h3⟩ := h
  exact ⟨g, h1, hg.own g h3⟩
theorem passR {α : Type} {W W' : World} {base : Nat} {e : TypeId} {m : Nat} {f : α → List Value} {L : List α} {p : Option Addr → Nat → Prop} (hg : GS W W') (he : e ≠ 32) (h : ∃ A c, p A c ∧ RowOf W base e m f A c L) : ∃ A c, p A c ∧ RowOf W' base e m f A c L := by
  obtain ⟨A, c, h1, h2⟩ := h
  exact ⟨A, c, h1, hg.row he h2⟩
theorem GS.setHi {A B : World} (h : GS A B) {g n : Nat} (hg : A.heap.size ≤ g) (u : Value) : GS A (B.setCell ⟨g, n, none⟩ u) :=
  ⟨fun g' e cur he hb => (Below.heap_setCell B _ u g' (by have := (Array.getElem?_eq_some_iff.1 hb).1; show g' ≠ g; omega)).trans (h.far g' e cur he hb), fun g' hb => by
    obtain ⟨a, b, c, d, hq⟩ := h.own g' hb
    obtain ⟨_, _, _, _, hq0⟩ := hb
    exact ⟨a, b, c, d, hq.far (by have := hq0.lt; show g' ≠ g; omega) u⟩⟩
/-- a source that boxes of sources can be written beside -/
def SrcG (W : World) (t : SV) : Prop := ∀ W', GS W W' → SrcIn W' t
theorem SrcG.src {W : World} {t : SV} (h : SrcG W t) : SrcIn W t := h W (GS.refl W)
theorem SrcG.step {W W' : World} {t : SV} (h : SrcG W t) (hg : GS W W') : SrcG W' t := fun V hv => h V (hg.trans hv)
theorem SrcG.below {W W' : World} {t : SV} (h : SrcG W t) (hb : Below W.heap.size W W') : SrcG W' t := h.step (GS.below hb)
/-- a whole source is written into its box -/
theorem GS.set4 {W : World} {g : Nat} {a b c d : Value} (hb : Blk W g 32 #[a, b, c, d]) (a' b' c' d' : Value) : GS W ((((W.setCell ⟨g, 0, none⟩ a').setCell ⟨g, 1, none⟩ b').setCell ⟨g, 2, none⟩ c').setCell ⟨g, 3, none⟩ d') ∧ Blk ((((W.setCell ⟨g, 0, none⟩ a').setCell ⟨g, 1, none⟩ b').setCell ⟨g, 2, none⟩ c').setCell ⟨g, 3, none⟩ d') g 32 #[a', b', c', d'] := by
  have t1 : Blk _ g 32 #[a', b, c, d] := hb.set_ 0 a'
  have t2 : Blk _ g 32 #[a', b', c, d] := t1.set_ 1 b'
  have t3 : Blk _ g 32 #[a', b', c', d] := t2.set_ 2 c'
  exact ⟨(GS.set_ hb 0 a').trans ((GS.set_ t1 1 b').trans ((GS.set_ t2 2 c').trans (GS.set_ t3 3 d'))), t3.set_ 3 d'⟩
theorem below_set4 {n : Nat} {w W : World} (h : Below n w W) {g : Nat} (hg : n ≤ g) (a b c d : Value) : Below n w ((((W.setCell ⟨g, 0, none⟩ a).setCell ⟨g, 1, none⟩ b).setCell ⟨g, 2, none⟩ c).setCell ⟨g, 3, none⟩ d) :=
  (((h.setCell (p := ⟨g, 0, none⟩) hg a).setCell (p := ⟨g, 1, none⟩) hg b).setCell (p := ⟨g, 2, none⟩) hg c).setCell (p := ⟨g, 3, none⟩) hg d
/-- a literal of no elements -/
def Lit0 (W : World) (base : Nat) (e : TypeId) (m : Nat) (v : Value) : Prop := ∃ B, v = .slice (some ⟨B, 0, none⟩) 0 0 ∧ W.ownsRow base e m (.slice (some ⟨B, 0, none⟩) 0 0) 0 []
theorem Lit0.pass {W W' : World} {base : Nat} {e : TypeId} {m : Nat} {v : Value} (hg : GS W W') (he : e ≠ 32) (h : Lit0 W base e m v) : Lit0 W' base e m v := by
  obtain ⟨B, h1, h2⟩ := h
  refine ⟨B, h1, h2.1, ?_⟩
  rcases h2.2 with q | ⟨g, cap, cur, hv, hb, hh, hr⟩
  · exact .inl q
  · exact .inr ⟨g, cap, cur, hv, hb, hg.far g e cur he hh, hr⟩
theorem Lit0.made {base : Nat} {e : TypeId} {m : Nat} (W : World) (hb : base ≤ W.heap.size) : Lit0 (W.alloc (.cells #[] e)) base e m (.slice (some ⟨W.heap.size, 0, none⟩) 0 0) := ⟨_, rfl, World.ownsRow_made W #[] 0 hb (Nat.zero_le _) (by simp)⟩
theorem CopyOf.gs {W W' : World} {base : Nat} {s t : SV} (h : CopyOf W base s t) (hg : GS W W') : CopyOf W' base s t :=
  ⟨⟨h.rules.1, hg.row (by decide) h.rules.2⟩, ⟨hg.row (by decide) h.zones.1, hg.zones h.zones.2⟩, ⟨h.links.1, hg.row (by decide) h.links.2⟩, ⟨h.shifts.1, hg.row (by decide) h.shifts.2⟩⟩
theorem CopyOf.srcG {W : World} {base : Nat} {s t : SV} (h : CopyOf W base s t) : SrcG W t := fun _ hg => (h.gs hg).src
/-- a row of one call's own, for one that began earlier -/
theorem RowOf.low {α : Type} {W : World} {b b' : Nat} {e : TypeId} {m : Nat} {f : α → List Value} {A : Option Addr} {c : Nat} {L : List α} (h : RowOf W b e m f A c L) (hb : b' ≤ b) : RowOf W b' e m f A c L := own_base h hb
end Go.Proofs.YtlideagcmhlkeaaDoor

/- The law on regions that draw their order (Rinv), with one operation that parts the region: what holds ahead of it and behind it may differ. No function of the program. -/
namespace Go.Proofs.YtlideagcmhlkeaaDoor
open Go
set_option linter.unusedVariables false

section
variable {P : Program} {ops : Array Oper} {Q : Exit → Act → World → Prop}
/-- THE LAW with one operation (q) that parts the region in two: what holds ahead of it and behind it may differ. Each operation by itself, behind those that must stand ahead of it. fr: the frame by the slots that the region makes; val: the values known ahead; X: what the others leave, by the slots Kx; G: what a step may do to the world. -/
theorem wp_region_invB {id : Nat} {a : Act} {w : World} (fr : (Nat → Value) → Act) (y0 : Nat → Value) (val : Nat → Option Value) (X : Nat → (Nat → Value) → World → Prop) (Kx : Nat → List Nat) (q : Nat) (G : Bool → World → World → Prop) (S : Bool → World → Prop)
    (hm : P.follows .mixedOrders = true) (ha : a = fr y0) (hS : S false w.drew)
    (hlt : ∀ i, i < ops.size → ∀ d ∈ rdeps ops i, d < i)
    (hput : ∀ i d, i < ops.size → rdst ops i = some d → ∀ y v, (fr y).put (some d) v = fr (upd y (some d) v))
    (hloc : ∀ j, j < ops.size → val j = none → ∀ y y' w, (∀ k ∈ Kx j, y k = y' k) → X j y w → X j y' w)
    (hmono : ∀ j, j < ops.size → val j = none → (∃ i, i < ops.size ∧ i ≠ j ∧ i ∉ rdeps ops j) → ∀ b, (j = q → b = true) → ∀ y w w', G b w w' → X j y w → X j y w')
    (hap : ∀ i j, i < ops.size → j < ops.size → i ≠ j → i ∉ rdeps ops j → ∀ d, rdst ops i = some d → (rdst ops j ≠ some d) ∧ (val j = none → d ∉ Kx j))
    (hstep : ∀ i, i < ops.size → ∀ o, ops[i]? = some o → ∀ y w b, ((i = q ∨ i ∈ rdeps ops q → b = false) ∧ (q ∈ rdeps ops i → b = true)) → S b w → (∀ d ∈ rdeps ops i, Left17 ops val X d y w) →
      ∀ K' : Act → World → Prop, Shut (∀ v a' w', a' = (fr y).put o.dst v → G b w w' → S (b || decide (i = q)) w' → (val i = some v ∨ (val i = none ∧ X i (upd y o.dst v) w')) → K' a' w') →
        if Region.wanted o (yielded ops (fr y).tmps) = true then Oper.wp P o (fr y) w K' Q else K' ((fr y).put o.dst undef) w)
    (hdone : ∀ y w, S (decide (q < ops.size)) w → (∀ j, j < ops.size → Left17 ops val X j y w) → Q .normal (fr y) w) : (Code.region id ops true).wp P Q a w := by
  refine wp_region_any hm ?_
  refine wpAny_inv (fun listed a w => listed.size = ops.size ∧ ∃ y, a = fr y ∧ S (listed.getD q false) w ∧ (∀ j, listed.getD j false = true → j < ops.size ∧ Left17 ops val X j y w) ∧ ∀ j, listed.getD j false = true → ∀ d ∈ rdeps ops j, listed.getD d false = true) ?_ ?_ _ _ _ _ ?_ ?_
  · rintro listed a w i ⟨hsz, y, rfl, hSw, hl, hcl⟩ hi
    obtain ⟨h1, h2, h3⟩ := ready_spec hi
    have ho : ops[i]? = some (ops[i]'h1) := Array.getElem?_eq_getElem h1
    refine wpOp_step ho fun K' hK => ?_
    have hfl : i = q ∨ i ∈ rdeps ops q → listed.getD q false = false := by
      rintro (e | e)
      · subst e
        rw [Array.getD_eq_getD_getElem?] at h2 ⊢
        cases e2 : listed[i]? with
        | none => rfl
        | some b => rw [e2] at h2; exact h2
      · cases hb : listed.getD q false with
        | false => rfl
        | true =>
          have := hcl q hb i e
          rw [Array.getD_eq_getD_getElem?] at this h2
          cases e2 : listed[i]? with
          | none => rw [e2] at this; cases this
          | some b => rw [e2] at this h2; simp at this h2; rw [this] at h2; cases h2
    refine hstep i h1 _ ho y w _ ⟨hfl, fun e => h3 q e⟩ hSw (fun d hd => (hl d (h3 d hd)).2) K' ?_
    intro v a' w' ha' hG hS' hnew
    have hflag : (listed.setIfInBounds i true).getD q false = (listed.getD q false || decide (i = q)) := by
      rw [Array.getD_eq_getD_getElem?, Array.getElem?_setIfInBounds]
      by_cases e : i = q
      · subst e
        rw [if_pos rfl, if_pos (by omega), decide_eq_true rfl, Bool.or_true]
        rfl
      · rw [if_neg e, decide_eq_false e, Bool.or_false, Array.getD_eq_getD_getElem?]
    refine hK _ _ ⟨by rw [Array.size_setIfInBounds]; exact hsz, upd y (ops[i]'h1).dst v, ?_, by rw [hflag]; exact hS', ?_, ?_⟩
    · rw [ha']
      cases hd : (ops[i]'h1).dst with
      | none => rfl
      | some d => exact hput i d h1 (by unfold rdst; rw [ho]; exact hd) y v
    · intro j hj
      by_cases hij : j = i
      · subst hij
        refine ⟨h1, ?_⟩
        unfold Left17
        rcases hnew with hv | ⟨hv, hx⟩
        · rw [hv]
          intro d hd
          have hd' : (ops[j]'h1).dst = some d := by unfold rdst at hd; rw [ho] at hd; exact hd
          rw [hd']
          show (if d = d then v else y d) = v
          rw [if_pos rfl]
        · rw [hv]; exact hx
      · have hj' : listed.getD j false = true := by
          rw [Array.getD_eq_getD_getElem?, Array.getElem?_setIfInBounds, if_neg (fun q => hij q.symm)] at hj
          rw [Array.getD_eq_getD_getElem?]; exact hj
        obtain ⟨hjn, hf⟩ := hl j hj'
        have hni : i ∉ rdeps ops j := fun q' => by
          have := hcl j hj' i q'
          rw [Array.getD_eq_getD_getElem?] at this h2
          cases e : listed[i]? with
          | none => rw [e] at this; cases this
          | some b => rw [e] at this h2; simp at this h2; rw [this] at h2; cases h2
        refine ⟨hjn, ?_⟩
        cases hd : (ops[i]'h1).dst with
        | none =>
          unfold Left17 at hf ⊢
          cases hv : val j with
          | some u => rw [hv] at hf; exact hf
          | none => rw [hv] at hf; exact hmono j hjn hv ⟨i, h1, fun q => hij q.symm, hni⟩ _ (fun e => by rw [← e]; exact hj') y w w' hG hf
        | some d =>
          obtain ⟨a1, a2⟩ := hap i j h1 hjn (fun q => hij q.symm) hni d (by unfold rdst; rw [ho]; exact hd)
          unfold Left17 at hf ⊢
          cases hv : val j with
          | some u =>
            rw [hv] at hf
            intro d' hd'
            have hne : d' ≠ d := fun q => a1 (by rw [hd', q])
            show (if d' = d then v else y d') = u
            rw [if_neg hne]; exact hf d' hd'
          | none =>
            rw [hv] at hf
            refine hloc j hjn hv y _ w' (fun k hk => ?_) (hmono j hjn hv ⟨i, h1, fun q => hij q.symm, hni⟩ _ (fun e => by rw [← e]; exact hj') y w w' hG hf)
            have hne : k ≠ d := fun q => a2 hv (by rw [← q]; exact hk)
            show y k = if k = d then v else y k
            rw [if_neg hne]
    · intro j hj d hd
      have key : ∀ k, listed.getD k false = true → (listed.setIfInBounds i true).getD k false = true := fun k hk => by
        rw [Array.getD_eq_getD_getElem?] at hk ⊢
        rw [Array.getElem?_setIfInBounds]
        split
        · split
          · rfl
          · rename_i q1 q2; subst q1; rw [Array.getElem?_eq_none (by omega)] at hk; cases hk
        · exact hk
      by_cases hij : j = i
      · subst hij; exact key d (h3 d hd)
      · have hj' : listed.getD j false = true := by
          rw [Array.getD_eq_getD_getElem?, Array.getElem?_setIfInBounds, if_neg (fun q => hij q.symm)] at hj
          rw [Array.getD_eq_getD_getElem?]; exact hj
        exact key d (hcl j hj' d hd)
  · rintro listed a w ⟨hsz, y, rfl, hSw, hl, _⟩ hr
    refine hdone y w ?_ fun j hj => (hl j (all_listed hsz hlt hr j hj)).2
    by_cases hq : q < ops.size
    · rw [all_listed hsz hlt hr q hq] at hSw
      rw [decide_eq_true hq]
      exact hSw
    · rw [Array.getD_eq_getD_getElem?, Array.getElem?_eq_none (by omega)] at hSw
      rw [decide_eq_false hq]
      exact hSw
  · unfold unl
    rw [Array.toList_replicate]
    simp
  · refine ⟨Array.size_replicate, y0, ha, ?_, fun j hj => ?_, fun j hj => ?_⟩
    · have : (Array.replicate ops.size false).getD q false = false := by
        rw [Array.getD_eq_getD_getElem?, Array.getElem?_replicate]
        split <;> rfl
      rw [this]
      exact hS
    all_goals
      rw [Array.getD_eq_getD_getElem?, Array.getElem?_replicate] at hj
      split at hj <;> cases hj
/-- a step of the law: operation i alone -/
def StepOkB (P : Program) (ops : Array Oper) (Q : Exit → Act → World → Prop) (fr : (Nat → Value) → Act) (sh : List (Option Nat × List Nat)) (sp : Nat → Bool) (vals : List Value) (X : Nat → (Nat → Value) → World → Prop) (q : Nat) (G : Bool → World → World → Prop) (S : Bool → World → Prop) (i : Nat) (o : Oper) : Prop :=
  ∀ y w b, ((i = q ∨ (sdeps sh q).contains i = true → b = false) ∧ ((sdeps sh i).contains q = true → b = true)) → S b w → (∀ d, (sdeps sh i).contains d = true → LeftS sh (valOf sp vals) X d y w) →
    ∀ K' : Act → World → Prop, Shut (∀ v a' w', a' = (fr y).put o.dst v → G b w w' → S (b || decide (i = q)) w' → (valOf sp vals i = some v ∨ (valOf sp vals i = none ∧ X i (upd y o.dst v) w')) → K' a' w') →
      if Region.wanted o (yielded ops (fr y).tmps) = true then Oper.wp P o (fr y) w K' Q else K' ((fr y).put o.dst undef) w
def StepsOkB (P : Program) (ops : Array Oper) (Q : Exit → Act → World → Prop) (fr : (Nat → Value) → Act) (sh : List (Option Nat × List Nat)) (sp : Nat → Bool) (vals : List Value) (X : Nat → (Nat → Value) → World → Prop) (q : Nat) (G : Bool → World → World → Prop) (S : Bool → World → Prop) (i : Nat) (l : List Oper) : Prop :=
  ∀ k o, l[k]? = some o → StepOkB P ops Q fr sh sp vals X q G S (i + k) o
section
variable {fr : (Nat → Value) → Act} {sh : List (Option Nat × List Nat)} {sp : Nat → Bool} {vals : List Value} {X : Nat → (Nat → Value) → World → Prop} {q : Nat} {G : Bool → World → World → Prop} {S : Bool → World → Prop}
theorem StepsOkB.nil {i : Nat} : StepsOkB P ops Q fr sh sp vals X q G S i [] := fun k o h => by simp at h
theorem StepsOkB.cons {i : Nat} {o : Oper} {l : List Oper} (h : StepOkB P ops Q fr sh sp vals X q G S i o) (hl : StepsOkB P ops Q fr sh sp vals X q G S (i + 1) l) : StepsOkB P ops Q fr sh sp vals X q G S i (o :: l) := fun k o' ho => by
  cases k with
  | zero => rw [List.getElem?_cons_zero] at ho; injection ho with ho; subst ho; exact h
  | succ k =>
    rw [List.getElem?_cons_succ] at ho
    have := hl k o' ho
    rwa [show i + 1 + k = i + (k + 1) by omega] at this
/-- a step whose value is known ahead -/
theorem StepOkB.known {i : Nat} {o : Oper} (hi : sp i = false) (h : ∀ y w b, ((i = q ∨ (sdeps sh q).contains i = true → b = false) ∧ ((sdeps sh i).contains q = true → b = true)) → S b w → (∀ d, (sdeps sh i).contains d = true → LeftS sh (valOf sp vals) X d y w) →
    ∀ K' : Act → World → Prop, Shut (∀ a' w', a' = (fr y).put o.dst (vals.getD i undef) → G b w w' → S (b || decide (i = q)) w' → K' a' w') →
      if Region.wanted o (yielded ops (fr y).tmps) = true then Oper.wp P o (fr y) w K' Q else K' ((fr y).put o.dst undef) w) : StepOkB P ops Q fr sh sp vals X q G S i o :=
  fun y w b hb hS hd K' hK => h y w b hb hS hd K' fun a' w' ha hG hS' => hK _ a' w' ha hG hS' (.inl (by unfold valOf; rw [if_neg (by rw [hi]; decide)]))
/-- a step whose value is not known ahead -/
theorem StepOkB.other {i : Nat} {o : Oper} (hi : sp i = true) (h : ∀ y w b, ((i = q ∨ (sdeps sh q).contains i = true → b = false) ∧ ((sdeps sh i).contains q = true → b = true)) → S b w → (∀ d, (sdeps sh i).contains d = true → LeftS sh (valOf sp vals) X d y w) →
    ∀ K' : Act → World → Prop, Shut (∀ v a' w', a' = (fr y).put o.dst v → G b w w' → S (b || decide (i = q)) w' → X i (upd y o.dst v) w' → K' a' w') →
      if Region.wanted o (yielded ops (fr y).tmps) = true then Oper.wp P o (fr y) w K' Q else K' ((fr y).put o.dst undef) w) : StepOkB P ops Q fr sh sp vals X q G S i o :=
  fun y w b hb hS hd K' hK => h y w b hb hS hd K' fun v a' w' ha hG hS' hx => hK v a' w' ha hG hS' (.inr ⟨by unfold valOf; rw [if_pos hi], hx⟩)
end
/-- THE LAW with one operation that parts the region, by the shape -/
theorem wp_region_shapeB {id : Nat} {l : List Oper} {Q : Exit → Act → World → Prop} {a : Act} {w : World} (sh : List (Option Nat × List Nat)) (fr : (Nat → Value) → Act) (y0 : Nat → Value) (sp : Nat → Bool) (vals : List Value) (X : Nat → (Nat → Value) → World → Prop) (Kx : Nat → List Nat) (q : Nat) (G : Bool → World → World → Prop) (S : Bool → World → Prop)
    (hm : P.follows .mixedOrders = true) (hsh : shapeOf l = sh) (hok : shapeOk sh sp Kx = true) (ha : a = fr y0) (hS : S false w.drew)
    (hput : ∀ d ∈ sh.filterMap (·.1), ∀ y v, (fr y).put (some d) v = fr (upd y (some d) v))
    (hloc : ∀ j, sp j = true → ∀ y y' w, (∀ k ∈ Kx j, y k = y' k) → X j y w → X j y' w)
    (hmono : ∀ j, sp j = true → lastB sh j = false → ∀ b, (j = q → b = true) → ∀ y w w', G b w w' → X j y w → X j y w')
    (hstep : StepsOkB P l.toArray Q fr sh sp vals X q G S 0 l)
    (hdone : ∀ y w, S (decide (q < sh.length)) w → (∀ j, j < sh.length → LeftS sh (valOf sp vals) X j y w) → Q .normal (fr y) w) : (Code.region id l.toArray true).wp P Q a w := by
  have hlen : l.length = sh.length := by rw [← hsh]; unfold shapeOf; rw [List.length_map]
  have hsz : l.toArray.size = sh.length := by rw [List.size_toArray, hlen]
  have hsp : ∀ j, valOf sp vals j = none → sp j = true := fun j h => by
    unfold valOf at h; split at h
    · assumption
    · cases h
  have hok' := hok
  unfold shapeOk at hok'
  rw [List.all_eq_true] at hok'
  refine wp_region_invB fr y0 (valOf sp vals) X Kx q G S hm ha hS ?_ ?_ ?_ ?_ ?_ ?_ ?_
  · intro i hi d hd
    rw [hsz] at hi
    rw [rdeps_shape hsh] at hd
    have := hok' i (List.mem_range.2 hi)
    rw [Bool.and_eq_true, List.all_eq_true] at this
    exact of_decide_eq_true (this.1 d hd)
  · intro i d hi hd y v
    rw [rdst_shape hsh] at hd
    refine hput d (List.mem_filterMap.2 ⟨sh.getD i (none, []), ?_, hd⟩) y v
    rw [hsz] at hi
    rw [List.getD_eq_getElem?_getD, List.getElem?_eq_getElem hi]
    exact List.getElem_mem _
  · intro j _ hv; exact hloc j (hsp j hv)
  · intro j _ hv ⟨i, hi, hij, hni⟩
    refine hmono j (hsp j hv) ?_
    unfold lastB
    rw [List.all_eq_false]
    refine ⟨i, List.mem_range.2 (by rw [← hsz]; exact hi), ?_⟩
    rw [rdeps_shape hsh] at hni
    simp [hij, hni]
  · intro i j hi hj hij hni d hd
    rw [hsz] at hi hj
    rw [rdeps_shape hsh] at hni
    rw [rdst_shape hsh] at hd ⊢
    have := hok' i (List.mem_range.2 hi)
    rw [Bool.and_eq_true, List.all_eq_true, List.all_eq_true] at this
    have qq := this.2 j (List.mem_range.2 hj)
    rw [hd] at qq
    simp only [Bool.or_eq_true, beq_iff_eq, Bool.and_eq_true, bne_iff_ne, Bool.not_eq_true', List.contains_iff_mem] at qq
    rcases qq with (qq | qq) | ⟨q1, q2⟩
    · exact absurd qq hij
    · exact absurd qq hni
    · refine ⟨q1, fun hv hk => ?_⟩
      rcases q2 with q2 | q2
      · rw [hsp j hv] at q2; cases q2
      · rw [List.contains_iff_mem.2 hk] at q2; cases q2
  · intro i hi o ho y w b hb hSw hd K' hK
    have hs := hstep i o (by rw [List.getElem?_toArray] at ho; exact ho)
    rw [Nat.zero_add] at hs
    exact hs y w b ⟨fun e => hb.1 (e.imp (fun x => x) fun e => by rw [rdeps_shape hsh]; exact List.contains_iff_mem.1 e), fun e => hb.2 (by rw [rdeps_shape hsh]; exact List.contains_iff_mem.1 e)⟩ hSw (fun d hd' => LeftS.of hsh (hd d (by rw [rdeps_shape hsh]; exact List.contains_iff_mem.1 hd'))) K' hK
  · intro y w hSw h
    exact hdone y w (by rw [← hsz]; exact hSw) fun j hj => LeftS.of hsh (h j (by rw [hsz]; exact hj))

end
end Go.Proofs.YtlideagcmhlkeaaDoor

/- What the steps keep of a drawn region in which a row of one type grows. No function of the program. -/
namespace Go.Proofs.YtlideagcmhlkeaaDoor
open Go.RowKit
set_option linter.unusedVariables false

/-- what a step keeps: blocks stay as they are but for boxes of sources and, ahead of the part, rows of one type below N -/
structure GT (T : TypeId) (N : Nat) (b : Bool) (W W' : World) : Prop where
  far : ∀ (g : Nat) (e : TypeId) (cur : Array Value), e ≠ 32 → (e ≠ T ∨ N ≤ g ∨ b = true) → W.heap[g]? = some (.cells cur e (0, 0)) → W'.heap[g]? = some (.cells cur e (0, 0))
  own : ∀ g, (∃ a b c d, Blk W g 32 #[a, b, c, d]) → ∃ a b c d, Blk W' g 32 #[a, b, c, d]
theorem GT.gs {T : TypeId} {N : Nat} (b : Bool) {W W' : World} (h : GS W W') : GT T N b W W' := ⟨fun g e cur he _ hb => h.far g e cur he hb, h.own⟩
theorem GT.refl (T : TypeId) (N : Nat) (b : Bool) (W : World) : GT T N b W W := GT.gs b (GS.refl W)
theorem GT.below {T : TypeId} {N : Nat} (b : Bool) {W W' : World} (h : Below W.heap.size W W') : GT T N b W W' := GT.gs b (GS.below h)
theorem GT.row {T : TypeId} {N : Nat} {b : Bool} {α : Type} {W W' : World} {base : Nat} {e : TypeId} {m : Nat} {f : α → List Value} {A : Option Addr} {c : Nat} {L : List α} (hg : GT T N b W W') (he : e ≠ 32) (hz : e ≠ T) (h : RowOf W base e m f A c L) : RowOf W' base e m f A c L := by
  refine ⟨h.1, ?_⟩
  rcases h.2 with q | ⟨g, cap, cur, hv, hb, hh, hr⟩
  · exact .inl q
  · exact .inr ⟨g, cap, cur, hv, hb, hg.far g e cur he (.inl hz) hh, hr⟩
theorem GT.rowT {T : TypeId} {N : Nat} {α : Type} {W W' : World} {base : Nat} {e : TypeId} {m : Nat} {f : α → List Value} {A : Option Addr} {c : Nat} {L : List α} (hg : GT T N true W W') (he : e ≠ 32) (h : RowOf W base e m f A c L) : RowOf W' base e m f A c L := by
  refine ⟨h.1, ?_⟩
  rcases h.2 with q | ⟨g, cap, cur, hv, hb, hh, hr⟩
  · exact .inl q
  · exact .inr ⟨g, cap, cur, hv, hb, hg.far g e cur he (.inr (.inr rfl)) hh, hr⟩
theorem GT.grown {T : TypeId} (hT : T ≠ 32) {N : Nat} {W W' : World} {α : Type} {m : Nat} {f : α → List Value} {b1 zc : Nat} {zA : Option Addr} {Y : List α} (hz : RowOf W b1 T m f zA zc Y) (hK : ∀ K, (Value.slice zA Y.length zc).ownBlock = some K → K < N) (hgr : W.grownBy W' (Value.slice zA Y.length zc).ownBlock) : GT T N false W W' := by
  refine ⟨fun g e cur he hh hb => (hgr.block g (Array.getElem?_eq_some_iff.1 hb).1 fun q => ?_).trans hb, fun g ⟨a, b, c, d, hb⟩ => ⟨a, b, c, d, (hgr.block g hb.lt fun q => ?_).trans hb⟩⟩
  · obtain ⟨cur', hc⟩ := block_of hz q.symm
    rw [hb] at hc
    injection hc with hc
    injection hc with _ hc _
    have := hK g q.symm
    rcases hh with h | h | h
    · exact h hc
    · omega
    · cases h
  · obtain ⟨cur', hc⟩ := block_of hz q.symm
    unfold Blk at hb
    rw [hb] at hc
    injection hc with hc
    injection hc with _ hc _
    exact hT hc.symm
end Go.Proofs.YtlideagcmhlkeaaDoor

/- The sources of the examples of chapter 30: one zone with an era, a set of rules with some saves. -/
namespace Go.Proofs.YtlideagcmhlkeaaDoor
open Go.RowKit Go.Lib
set_option linter.unusedVariables false
set_option linter.unusedSimpArgs false

/-- the rule at a place, with a save -/
def mk1 (k : Nat) (y : Int) : RV := ⟨⟨#[82]⟩, 1900 + k, 1900 + k, 1, 1, 0, 1, 0, 0, y, ⟨#[]⟩⟩
def oneRs (sv : List Int) : List RV := sv.mapIdx fun k y => mk1 k y
theorem oneRs_len (sv : List Int) : (oneRs sv).length = sv.length := by unfold oneRs; simp
theorem oneRs_snoc {sv : List Int} {k : Nat} {y : Int} (h : sv[k]? = some y) : oneRs (sv.take (k + 1)) = oneRs (sv.take k) ++ [mk1 k y] := by
  have hk := (List.getElem?_eq_some_iff.1 h).1
  rw [List.take_add_one, h]
  unfold oneRs
  rw [List.mapIdx_append]
  simp [List.length_take, Nat.min_eq_left (Nat.le_of_lt hk)]
/-- a block of one element, read as a slice -/
theorem one_cells {α : Type} {m : Nat} {f : α → List Value} {W : World} {g : Nat} {t : TypeId} {cs : Array Value} {x : α} (h : Blk W g t cs) (hx : cs.toList = f x) : CellsIn m f W (some ⟨g, 0, none⟩) [x] := by
  intro k r hr
  cases k with
  | succ k => simp at hr
  | zero =>
    rw [List.getElem?_cons_zero] at hr
    injection hr with hr
    subst hr
    refine ⟨g, 0, rfl, h.lt, fun j u hu => ?_⟩
    rw [← hx] at hu
    rw [show 0 + 0 * m + j = j by omega]
    exact (h.cell j).trans (by rw [← Array.getElem?_toList]; exact hu)
/-- where the walk of one stands; b: the rule is appended -/
structure Eo (w W : World) (e : EV) (rA : Option Addr) (rc : Nat) (R : List RV) (b : Bool) (W0 : World) : Prop where
  res : Blk W (w.heap.size + 1) 32 #[.slice none 0 0, .slice none 0 0, .slice none 0 0, .slice none 0 0]
  ers : Blk W (w.heap.size + 1 + 1) 47 #[.int .i64 e.off, .int .i64 e.kind, .int .i64 e.save, .string e.set, .string e.fmt, .bool e.ui, .int .i64 e.uy, .int .i64 e.um, .int .i64 e.dk, .int .i64 e.dw, .int .i64 e.dd, .int .i64 e.asec, .int .i64 e.ab]
  zns : Blk W (w.heap.size + 1 + 1 + 1) 39 #[.string ⟨#[65]⟩, .slice (some ⟨w.heap.size + 1 + 1, 0, none⟩) 1 1]
  own : ∃ v, Blk W (w.heap.size + 1 + 1 + 1 + 1) 32 #[v, .slice (some ⟨w.heap.size + 1 + 1 + 1, 0, none⟩) 1 1, .slice none 0 0, .slice none 0 0] ∧ (b = false → v = .slice rA R.length rc)
  bel : Below w.heap.size w W
  le : W0.heap.size ≤ W.heap.size
  ahead : b = false → RowOf W (w.heap.size + 1 + 1 + 1 + 1 + 1) 83 11 RV.cells rA rc R ∧ Below W0.heap.size W0 W
theorem Eo.or {w W W0 : World} {e : EV} {rA : Option Addr} {rc : Nat} {R : List RV} {b x : Bool} (h : Eo w W e rA rc R b W0) : Eo w W e rA rc R (b || x) W0 :=
  ⟨h.res, h.ers, h.zns, by obtain ⟨v, h1, h2⟩ := h.own; exact ⟨v, h1, fun q => h2 (Bool.or_eq_false_iff.1 q).1⟩, h.bel, h.le, fun q => h.ahead (Bool.or_eq_false_iff.1 q).1⟩
theorem Eo.below {w W W' W0 : World} {e : EV} {rA : Option Addr} {rc : Nat} {R : List RV} {b : Bool} (h : Eo w W e rA rc R b W0) (hb : Below W.heap.size W W') : Eo w W' e rA rc R b W0 :=
  ⟨h.res.below hb h.res.lt, h.ers.below hb h.ers.lt, h.zns.below hb h.zns.lt, by obtain ⟨v, h1, h2⟩ := h.own; exact ⟨v, h1.below hb h1.lt, h2⟩, h.bel.trans (hb.mono h.bel.size), Nat.le_trans h.le hb.size, fun q => ⟨(h.ahead q).1.below hb, (h.ahead q).2.trans (hb.mono h.le)⟩⟩
theorem Eo.grown {w W W' W0 : World} {e : EV} {rA : Option Addr} {rc : Nat} {R : List RV} (h : Eo w W e rA rc R false W0) (hz : RowOf W (w.heap.size + 1 + 1 + 1 + 1 + 1) 83 11 RV.cells rA rc R) (hgr : W.grownBy W' (Value.slice rA R.length rc).ownBlock) : Eo w W' e rA rc R true W0 :=
  ⟨blk_grown h.res hz hgr (by omega), blk_grown h.ers hz hgr (by omega), blk_grown h.zns hz hgr (by omega), by obtain ⟨v, h1, h2⟩ := h.own; exact ⟨v, blk_grown h1 hz hgr (by omega), fun q => by cases q⟩, own_grown h.bel hz hgr h.bel.size (by omega), Nat.le_trans h.le hgr.size, fun q => by cases q⟩
theorem Eo.set1 {w W W0 : World} {e : EV} {rA : Option Addr} {rc : Nat} {R : List RV} (h : Eo w W e rA rc R true W0) {v : Value} (hv : Blk W (w.heap.size + 1 + 1 + 1 + 1) 32 #[v, .slice (some ⟨w.heap.size + 1 + 1 + 1, 0, none⟩) 1 1, .slice none 0 0, .slice none 0 0]) (u : Value) : Eo w (W.setCell ⟨w.heap.size + 1 + 1 + 1 + 1, 0, none⟩ u) e rA rc R true W0 :=
  ⟨h.res.far (by show _ ≠ w.heap.size + 1 + 1 + 1 + 1; omega) u, h.ers.far (by show _ ≠ w.heap.size + 1 + 1 + 1 + 1; omega) u, h.zns.far (by show _ ≠ w.heap.size + 1 + 1 + 1 + 1; omega) u, ⟨u, hv.set_ 0 u, fun q => by cases q⟩, h.bel.setCell (by show w.heap.size ≤ w.heap.size + 1 + 1 + 1 + 1; omega) u, by simpa using h.le, fun q => by cases q⟩
set_option maxRecDepth 100000 in
set_option maxHeartbeats 16000000 in
theorem one_any (e : EV) (A : Option Addr) (c : Nat) (sv : List Int) (w : World) (hl : sv.length ≤ 100) (hC : CellsIn 1 (fun y : Int => [Value.int .i64 y]) w A sv) :
    Calls Tryd.prog 26 #[.agg #[.int .i64 e.off, .int .i64 e.kind, .int .i64 e.save, .string e.set, .string e.fmt, .bool e.ui, .int .i64 e.uy, .int .i64 e.um, .int .i64 e.dk, .int .i64 e.dw, .int .i64 e.dd, .int .i64 e.asec, .int .i64 e.ab], .slice A sv.length c] w fun x w' => ∃ (t : SV), x = .returned (.agg #[.slice t.rA t.rules.length t.rc, .slice t.zA t.zones.length t.zc, .slice t.kA t.links.length t.kc, .slice t.hA t.shifts.length t.hc]) ∧ SrcG w' t ∧ (t.rules = oneRs sv ∧ (∃ eA ec, t.zones = [⟨⟨#[65]⟩, eA, ec, [e]⟩]) ∧ t.links = [] ∧ t.shifts = []) ∧ Below w.heap.size w w' := by
  have hb1 := (Below.refl w.heap.size w).alloc (Nat.le_refl _) (.cells #[.int .i64 e.off, .int .i64 e.kind, .int .i64 e.save, .string e.set, .string e.fmt, .bool e.ui, .int .i64 e.uy, .int .i64 e.um, .int .i64 e.dk, .int .i64 e.dw, .int .i64 e.dd, .int .i64 e.asec, .int .i64 e.ab] 47)
  have hb2 := hb1.alloc (by simp) (.cells #[.slice none 0 0, .slice none 0 0, .slice none 0 0, .slice none 0 0] 32)
  have hb3 := hb2.alloc (by simp; omega) (.cells #[.int .i64 e.off, .int .i64 e.kind, .int .i64 e.save, .string e.set, .string e.fmt, .bool e.ui, .int .i64 e.uy, .int .i64 e.um, .int .i64 e.dk, .int .i64 e.dw, .int .i64 e.dd, .int .i64 e.asec, .int .i64 e.ab] 47)
  have hb4 := hb3.alloc (by simp; omega) (.cells #[.string ⟨#[65]⟩, .slice (some ⟨w.heap.size + 1 + 1, 0, none⟩) 1 1] 39)
  have hb5 := hb4.alloc (by simp; omega) (.cells #[.slice none 0 0, .slice (some ⟨w.heap.size + 1 + 1 + 1, 0, none⟩) 1 1, .slice none 0 0, .slice none 0 0] 32)
  have hE0 := Lib.hid (show Eo w _ e none 0 (oneRs (sv.take 0)) false _ from ⟨(((Blk.newAt (w.alloc (.cells #[.int .i64 e.off, .int .i64 e.kind, .int .i64 e.save, .string e.set, .string e.fmt, .bool e.ui, .int .i64 e.uy, .int .i64 e.um, .int .i64 e.dk, .int .i64 e.dw, .int .i64 e.dd, .int .i64 e.asec, .int .i64 e.ab] 47)) (w.heap.size + 1) (by simp) 32 #[.slice none 0 0, .slice none 0 0, .slice none 0 0, .slice none 0 0]).alloc (.cells #[.int .i64 e.off, .int .i64 e.kind, .int .i64 e.save, .string e.set, .string e.fmt, .bool e.ui, .int .i64 e.uy, .int .i64 e.um, .int .i64 e.dk, .int .i64 e.dw, .int .i64 e.dd, .int .i64 e.asec, .int .i64 e.ab] 47)).alloc (.cells #[.string ⟨#[65]⟩, .slice (some ⟨w.heap.size + 1 + 1, 0, none⟩) 1 1] 39)).alloc (.cells #[.slice none 0 0, .slice (some ⟨w.heap.size + 1 + 1 + 1, 0, none⟩) 1 1, .slice none 0 0, .slice none 0 0] 32),
    ((Blk.newAt ((w.alloc (.cells #[.int .i64 e.off, .int .i64 e.kind, .int .i64 e.save, .string e.set, .string e.fmt, .bool e.ui, .int .i64 e.uy, .int .i64 e.um, .int .i64 e.dk, .int .i64 e.dw, .int .i64 e.dd, .int .i64 e.asec, .int .i64 e.ab] 47)).alloc (.cells #[.slice none 0 0, .slice none 0 0, .slice none 0 0, .slice none 0 0] 32)) (w.heap.size + 1 + 1) (by simp) 47 #[.int .i64 e.off, .int .i64 e.kind, .int .i64 e.save, .string e.set, .string e.fmt, .bool e.ui, .int .i64 e.uy, .int .i64 e.um, .int .i64 e.dk, .int .i64 e.dw, .int .i64 e.dd, .int .i64 e.asec, .int .i64 e.ab]).alloc (.cells #[.string ⟨#[65]⟩, .slice (some ⟨w.heap.size + 1 + 1, 0, none⟩) 1 1] 39)).alloc (.cells #[.slice none 0 0, .slice (some ⟨w.heap.size + 1 + 1 + 1, 0, none⟩) 1 1, .slice none 0 0, .slice none 0 0] 32),
    (Blk.newAt (((w.alloc (.cells #[.int .i64 e.off, .int .i64 e.kind, .int .i64 e.save, .string e.set, .string e.fmt, .bool e.ui, .int .i64 e.uy, .int .i64 e.um, .int .i64 e.dk, .int .i64 e.dw, .int .i64 e.dd, .int .i64 e.asec, .int .i64 e.ab] 47)).alloc (.cells #[.slice none 0 0, .slice none 0 0, .slice none 0 0, .slice none 0 0] 32)).alloc (.cells #[.int .i64 e.off, .int .i64 e.kind, .int .i64 e.save, .string e.set, .string e.fmt, .bool e.ui, .int .i64 e.uy, .int .i64 e.um, .int .i64 e.dk, .int .i64 e.dw, .int .i64 e.dd, .int .i64 e.asec, .int .i64 e.ab] 47)) (w.heap.size + 1 + 1 + 1) (by simp) 39 #[.string ⟨#[65]⟩, .slice (some ⟨w.heap.size + 1 + 1, 0, none⟩) 1 1]).alloc (.cells #[.slice none 0 0, .slice (some ⟨w.heap.size + 1 + 1 + 1, 0, none⟩) 1 1, .slice none 0 0, .slice none 0 0] 32),
    ⟨_, Blk.newAt ((((w.alloc (.cells #[.int .i64 e.off, .int .i64 e.kind, .int .i64 e.save, .string e.set, .string e.fmt, .bool e.ui, .int .i64 e.uy, .int .i64 e.um, .int .i64 e.dk, .int .i64 e.dw, .int .i64 e.dd, .int .i64 e.asec, .int .i64 e.ab] 47)).alloc (.cells #[.slice none 0 0, .slice none 0 0, .slice none 0 0, .slice none 0 0] 32)).alloc (.cells #[.int .i64 e.off, .int .i64 e.kind, .int .i64 e.save, .string e.set, .string e.fmt, .bool e.ui, .int .i64 e.uy, .int .i64 e.um, .int .i64 e.dk, .int .i64 e.dw, .int .i64 e.dd, .int .i64 e.asec, .int .i64 e.ab] 47)).alloc (.cells #[.string ⟨#[65]⟩, .slice (some ⟨w.heap.size + 1 + 1, 0, none⟩) 1 1] 39)) (w.heap.size + 1 + 1 + 1 + 1) (by simp) 32 #[.slice none 0 0, .slice (some ⟨w.heap.size + 1 + 1 + 1, 0, none⟩) 1 1, .slice none 0 0, .slice none 0 0], fun _ => by simp [oneRs]⟩, hb5, Nat.le_refl _, fun _ => ⟨World.ownsRow_nil .., Below.refl _ _⟩⟩)
  have HC := Lib.hid hC
  have hl2 : (sv.length : Int) ≤ 100 := by omega
  clear hC hb1 hb2 hb3 hb4 hb5
  go_enter Tryd.func26, Tryd.ntmps26
  go_wp2_with fail
  go_loopw [6] (fun i W => ∃ k : Nat, k ≤ sv.length ∧ i = .int .i64 k ∧ ∃ rA rc, Eo w W e rA rc (oneRs (sv.take k)) false W ∧ w.heap.size + 1 + 1 + 1 + 1 + 1 ≤ W.heap.size) (fun i _ => sv.length - (intOf i).toNat)
  case atStart => exact ⟨0, Nat.zero_le _, rfl, none, 0, hE0.out, by simp⟩
  case round =>
    clear hE0
    obtain ⟨k, hk, rfl, rA, rc, heo, hgl⟩ := hrel
    by_cases hlt : k < sv.length
    · have hki : (k : Int) < (sv.length : Int) := by omega
      have hk0 : (0 : Int) ≤ (k : Int) := by omega
      obtain ⟨yv, hy⟩ : ∃ y, sv[k]? = some y := ⟨_, List.getElem?_eq_getElem hlt⟩
      obtain ⟨gb, ob, rfl, hgb, hyc⟩ := HC.out k yv hy
      have HY0 := Lib.hid (show w.cell? ⟨gb, ob + k, none⟩ = some (.int .i64 yv) from by simpa using hyc 0 _ rfl)
      have HGB := Lib.hid hgb
      have HSN := Lib.hid (oneRs_snoc hy)
      have HRL : Hid ((oneRs (sv.take k)).length ≤ 100) := Lib.hid (by rw [oneRs_len, List.length_take]; omega)
      have HGL := Lib.hid hgl; have HLT := Lib.hid hlt
      have HZ0 : Hid (∀ K, (Value.slice rA (oneRs (sv.take k)).length rc).ownBlock = some K → K < wr.heap.size) := Lib.hid fun K hK => (World.ownsRow.lt (heo.ahead rfl).1 K hK).2
      have hS0 := heo
      have w1900 : IntKind.i64.wrap (1900 + (k : Int)) = 1900 + (k : Int) := IntWalk.i64_in _ (by omega)
      clear heo hgl hlt hy hyc hgb
      have HS0 := Lib.hid hS0
      clear hS0
      go_wp2_with fail
      have hS0 := HS0.out
      clear HS0
      refine wp_region_shapeB [(some 18, []), (some 19, [0]), (some 20, []), (some 21, [2]), (some 22, []), (some 23, [4]), (some 24, []), (some 25, []), (some 26, []), (some 27, [7, 8]), (some 28, [9]), (some 29, [3, 5, 6, 10]), (some 30, [11]), (some 31, [1, 12]), (some 32, [0, 1, 2, 3, 4, 5, 6, 7, 8, 9, 10, 11, 12, 13]), (none, [14, 13, 13, 0, 1, 2, 3, 4, 5, 6, 7, 8, 9, 10, 11, 12, 13])] (fun y => { tmps := #[.agg #[.int .i64 e.off, .int .i64 e.kind, .int .i64 e.save, .string e.set, .string e.fmt, .bool e.ui, .int .i64 e.uy, .int .i64 e.um, .int .i64 e.dk, .int .i64 e.dw, .int .i64 e.dd, .int .i64 e.asec, .int .i64 e.ab], .slice (some ⟨gb, ob, none⟩) sv.length c, .pointer (some ⟨w.heap.size, 0, none⟩), undef, .pointer (some ⟨w.heap.size + 1, 0, none⟩), .pointer (some ⟨w.heap.size + 1 + 1 + 1 + 1, 0, none⟩), .int .i64 k, .agg #[.int .i64 e.off, .int .i64 e.kind, .int .i64 e.save, .string e.set, .string e.fmt, .bool e.ui, .int .i64 e.uy, .int .i64 e.um, .int .i64 e.dk, .int .i64 e.dw, .int .i64 e.dd, .int .i64 e.asec, .int .i64 e.ab], .slice (some ⟨w.heap.size + 1 + 1, 0, none⟩) 1 1, .agg #[.string ⟨#[65]⟩, .slice (some ⟨w.heap.size + 1 + 1, 0, none⟩) 1 1], .slice (some ⟨w.heap.size + 1 + 1 + 1, 0, none⟩) 1 1, .agg #[.slice none 0 0, .slice (some ⟨w.heap.size + 1 + 1 + 1, 0, none⟩) 1 1, .slice none 0 0, .slice none 0 0], .int .i64 k, .slice (some ⟨gb, ob, none⟩) sv.length c, .int .i64 sv.length, .bool true, u16, u17, y 18, y 19, y 20, y 21, y 22, y 23, y 24, y 25, y 26, y 27, y 28, y 29, y 30, y 31, y 32, undef], defers := [] }) (fun k => match k with | 18 => u18 | 19 => u19 | 20 => u20 | 21 => u21 | 22 => u22 | 23 => u23 | 24 => u24 | 25 => u25 | 26 => u26 | 27 => u27 | 28 => u28 | 29 => u29 | 30 => u30 | 31 => u31 | 32 => u32 | _ => undef) (fun j => j == 12 || j == 13 || j == 15) [.pointer (some ⟨w.heap.size + 1 + 1 + 1 + 1, 0, none⟩), .slice rA (oneRs (sv.take k)).length rc, .int .i64 k, .int .i64 (1900 + (k : Int)), .int .i64 k, .int .i64 (1900 + (k : Int)), .agg #[.int .i64 1, .int .i64 0, .int .i64 1], .slice (some ⟨gb, ob, none⟩) sv.length c, .int .i64 k, .pointer (some ⟨gb, ob + k, none⟩), .int .i64 yv, .agg #[.string ⟨#[82]⟩, .int .i64 (1900 + (k : Int)), .int .i64 (1900 + (k : Int)), .int .i64 1, .int .i64 1, .int .i64 0, .int .i64 1, .int .i64 0, .int .i64 0, .int .i64 yv, .string ⟨#[]⟩], undef, undef, .pointer (some ⟨w.heap.size + 1 + 1 + 1 + 1, 0, none⟩), undef] (fun j y W => match j with | 12 => ∃ B, y 30 = .slice (some ⟨B, 0, none⟩) 1 1 ∧ wr.heap.size ≤ B ∧ Blk W B 83 #[.string ⟨#[82]⟩, .int .i64 (1900 + (k : Int)), .int .i64 (1900 + (k : Int)), .int .i64 1, .int .i64 1, .int .i64 0, .int .i64 1, .int .i64 0, .int .i64 0, .int .i64 yv, .string ⟨#[]⟩] | 13 => ∃ rA' rc', y 31 = .slice rA' ((oneRs (sv.take k)).length + 1) rc' ∧ RowOf W (w.heap.size + 1 + 1 + 1 + 1 + 1) 83 11 RV.cells rA' rc' (oneRs (sv.take k) ++ [mk1 k yv]) | 15 => ∃ rA' rc', RowOf W (w.heap.size + 1 + 1 + 1 + 1 + 1) 83 11 RV.cells rA' rc' (oneRs (sv.take k) ++ [mk1 k yv]) ∧ Blk W (w.heap.size + 1 + 1 + 1 + 1) 32 #[.slice rA' ((oneRs (sv.take k)).length + 1) rc', .slice (some ⟨w.heap.size + 1 + 1 + 1, 0, none⟩) 1 1, .slice none 0 0, .slice none 0 0] | _ => True) (fun j => match j with | 12 => [30] | 13 => [31] | 15 => [] | _ => []) 13 (fun b => GT 83 wr.heap.size b) (fun b W => Eo w W e rA rc (oneRs (sv.take k)) b wr) (by kernel_rfl) (by kernel_rfl) (by decide +kernel) rfl (hS0.below (Below.refl _ _).drew) ?hput5 ?hloc5 ?hmono5 ?hstep5 ?hdone5
      case hput5 =>
        intro d hd y v
        simp only [List.filterMap_cons, List.filterMap_nil, List.mem_cons, List.not_mem_nil, or_false] at hd
        rcases hd with rfl | rfl | rfl | rfl | rfl | rfl | rfl | rfl | rfl | rfl | rfl | rfl | rfl | rfl | rfl
        all_goals rfl
      case hloc5 =>
        intro j hj y y' W hk hx
        have hj' : j = 12 ∨ j = 13 ∨ j = 15 := by simpa [or_assoc] using hj
        rcases hj' with rfl | rfl | rfl
        · simp only [List.forall_mem_cons, List.not_mem_nil, false_imp_iff, implies_true, and_true] at hk
          show _
          simpa only [hk] using hx
        · simp only [List.forall_mem_cons, List.not_mem_nil, false_imp_iff, implies_true, and_true] at hk
          show _
          simpa only [hk] using hx
        · skip
          exact hx
      case hmono5 =>
        intro j hj hlast b hbq y W W' hg hx
        have hj' : j = 12 ∨ j = 13 ∨ j = 15 := by simpa [or_assoc] using hj
        rcases hj' with rfl | rfl | rfl
        · obtain ⟨B, h1, h3, h4⟩ := hx; exact ⟨B, h1, h3, hg.far _ _ _ (by decide) (.inr (.inl h3)) h4⟩
        · obtain ⟨rA', rc', h1, h2⟩ := hx; have hb1 := hbq rfl; subst hb1; exact ⟨rA', rc', h1, hg.rowT (by decide) h2⟩
        · exact absurd hlast (by decide)
      case hdone5 =>
        intro y5 W5 hS hd
        have x15 : (fun (y : Nat → Value) (W : World) => ∃ rA' rc', RowOf W (w.heap.size + 1 + 1 + 1 + 1 + 1) 83 11 RV.cells rA' rc' (oneRs (sv.take k) ++ [mk1 k yv]) ∧ Blk W (w.heap.size + 1 + 1 + 1 + 1) 32 #[.slice rA' ((oneRs (sv.take k)).length + 1) rc', .slice (some ⟨w.heap.size + 1 + 1 + 1, 0, none⟩) 1 1, .slice none 0 0, .slice none 0 0]) y5 W5 := (hd 15 (by decide)).ex rfl
        obtain ⟨rA', rc', h1, h2⟩ := x15
        have HE7 := Lib.hid (show Eo w W5 e rA' rc' (oneRs (sv.take (k + 1))) false W5 from by
          rw [HSN.out]
          exact ⟨hS.res, hS.ers, hS.zns, ⟨_, by rw [List.length_append]; exact h2, fun _ => rfl⟩, hS.bel, Nat.le_refl _, fun _ => ⟨h1, Below.refl _ _⟩⟩)
        have HGL7 := Lib.hid (Nat.le_trans HGL.out hS.le)
        clear hd hS h1 h2
        go_wp2_with fail
        go_roundw
        case rel => exact ⟨k + 1, by have := HLT.out; omega, by go_num, rA', rc', HE7.out, HGL7.out⟩
        case measure => have := HLT.out; simp [intOf]; omega
      case hstep5 =>
        refine StepsOkB.cons (StepOkB.known rfl fun y W b hbq hS hd K' hK => ?_) ?_
        · skip
          clear hd
          go_simp
          exact hK.out _ _ rfl (GT.refl _ _ _ _) hS.or
        refine StepsOkB.cons (StepOkB.known rfl fun y W b hbq hS hd K' hK => ?_) ?_
        · skip
          have e18 : y 18 = .pointer (some ⟨w.heap.size + 1 + 1 + 1 + 1, 0, none⟩) := (hd 0 rfl).val rfl rfl
          clear hd
          have hb1 := hbq.1 (.inr rfl)
          subst hb1
          obtain ⟨v, hv, hv2⟩ := hS.own
          obtain rfl := hv2 rfl
          have hc := (hv.cell 0).trans rfl
          go_simp
          exact hK.out _ _ (by first | rfl | (simp only [e18]; done) | (simp only [e18]; rfl)) (GT.refl _ _ _ _) hS.or
        refine StepsOkB.cons (StepOkB.known rfl fun y W b hbq hS hd K' hK => ?_) ?_
        · skip
          clear hd
          go_simp
          exact hK.out _ _ rfl (GT.refl _ _ _ _) hS.or
        refine StepsOkB.cons (StepOkB.known rfl fun y W b hbq hS hd K' hK => ?_) ?_
        · skip
          have e20 : y 20 = .int .i64 k := (hd 2 rfl).val rfl rfl
          clear hd
          go_simp
          exact hK.out _ _ (by first | rfl | (simp only [e20]; done) | (simp only [e20]; rfl)) (GT.refl _ _ _ _) hS.or
        refine StepsOkB.cons (StepOkB.known rfl fun y W b hbq hS hd K' hK => ?_) ?_
        · skip
          clear hd
          go_simp
          exact hK.out _ _ rfl (GT.refl _ _ _ _) hS.or
        refine StepsOkB.cons (StepOkB.known rfl fun y W b hbq hS hd K' hK => ?_) ?_
        · skip
          have e22 : y 22 = .int .i64 k := (hd 4 rfl).val rfl rfl
          clear hd
          go_simp
          exact hK.out _ _ (by first | rfl | (simp only [e22]; done) | (simp only [e22]; rfl)) (GT.refl _ _ _ _) hS.or
        refine StepsOkB.cons (StepOkB.known rfl fun y W b hbq hS hd K' hK => ?_) ?_
        · skip
          clear hd
          go_simp
          exact hK.out _ _ rfl (GT.refl _ _ _ _) hS.or
        refine StepsOkB.cons (StepOkB.known rfl fun y W b hbq hS hd K' hK => ?_) ?_
        · skip
          clear hd
          go_simp
          exact hK.out _ _ rfl (GT.refl _ _ _ _) hS.or
        refine StepsOkB.cons (StepOkB.known rfl fun y W b hbq hS hd K' hK => ?_) ?_
        · skip
          clear hd
          go_simp
          exact hK.out _ _ rfl (GT.refl _ _ _ _) hS.or
        refine StepsOkB.cons (StepOkB.known rfl fun y W b hbq hS hd K' hK => ?_) ?_
        · skip
          have e25 : y 25 = .slice (some ⟨gb, ob, none⟩) sv.length c := (hd 7 rfl).val rfl rfl
          have e26 : y 26 = .int .i64 k := (hd 8 rfl).val rfl rfl
          clear hd
          go_simp
          exact hK.out _ _ (by first | rfl | (simp only [e25, e26]; done) | (simp only [e25, e26]; rfl)) (GT.refl _ _ _ _) hS.or
        refine StepsOkB.cons (StepOkB.known rfl fun y W b hbq hS hd K' hK => ?_) ?_
        · skip
          have e27 : y 27 = .pointer (some ⟨gb, ob + k, none⟩) := (hd 9 rfl).val rfl rfl
          clear hd
          have hc := (hS.bel.cell (p := ⟨gb, ob + k, none⟩) HGB.out).trans HY0.out
          go_simp
          exact hK.out _ _ (by first | rfl | (simp only [e27]; done) | (simp only [e27]; rfl)) (GT.refl _ _ _ _) hS.or
        refine StepsOkB.cons (StepOkB.known rfl fun y W b hbq hS hd K' hK => ?_) ?_
        · skip
          have e21 : y 21 = .int .i64 (1900 + (k : Int)) := (hd 3 rfl).val rfl rfl
          have e23 : y 23 = .int .i64 (1900 + (k : Int)) := (hd 5 rfl).val rfl rfl
          have e24 : y 24 = .agg #[.int .i64 1, .int .i64 0, .int .i64 1] := (hd 6 rfl).val rfl rfl
          have e28 : y 28 = .int .i64 yv := (hd 10 rfl).val rfl rfl
          clear hd
          go_simp
          exact hK.out _ _ (by first | rfl | (simp only [e21, e23, e24, e28]; done) | (simp only [e21, e23, e24, e28]; rfl)) (GT.refl _ _ _ _) hS.or
        refine StepsOkB.cons (StepOkB.other rfl fun y W b hbq hS hd K' hK => ?_) ?_
        · skip
          have e29 : y 29 = .agg #[.string ⟨#[82]⟩, .int .i64 (1900 + (k : Int)), .int .i64 (1900 + (k : Int)), .int .i64 1, .int .i64 1, .int .i64 0, .int .i64 1, .int .i64 0, .int .i64 0, .int .i64 yv, .string ⟨#[]⟩] := (hd 11 rfl).val rfl rfl
          clear hd
          have hle := hS.le
          have hal := (Below.refl W.heap.size W).alloc (Nat.le_refl _) (.cells #[.string ⟨#[82]⟩, .int .i64 (1900 + (k : Int)), .int .i64 (1900 + (k : Int)), .int .i64 1, .int .i64 1, .int .i64 0, .int .i64 1, .int .i64 0, .int .i64 0, .int .i64 yv, .string ⟨#[]⟩] 83)
          go_simp
          exact hK.out _ _ _ (by first | rfl | (simp only [e29]; done) | (simp only [e29]; rfl)) (GT.below _ hal) (hS.below hal).or (show ∃ B, _ = Value.slice (some ⟨B, 0, none⟩) 1 1 ∧ wr.heap.size ≤ B ∧ Blk _ B 83 #[.string ⟨#[82]⟩, .int .i64 (1900 + (k : Int)), .int .i64 (1900 + (k : Int)), .int .i64 1, .int .i64 1, .int .i64 0, .int .i64 1, .int .i64 0, .int .i64 0, .int .i64 yv, .string ⟨#[]⟩] from ⟨_, rfl, hle, Blk.new W _ _⟩)
        refine StepsOkB.cons (StepOkB.other rfl fun y W b hbq hS hd K' hK => ?_) ?_
        · skip
          have e19 : y 19 = .slice rA (oneRs (sv.take k)).length rc := (hd 1 rfl).val rfl rfl
          have x12 : (fun (y : Nat → Value) (W : World) => ∃ B, y 30 = .slice (some ⟨B, 0, none⟩) 1 1 ∧ wr.heap.size ≤ B ∧ Blk W B 83 #[.string ⟨#[82]⟩, .int .i64 (1900 + (k : Int)), .int .i64 (1900 + (k : Int)), .int .i64 1, .int .i64 1, .int .i64 0, .int .i64 1, .int .i64 0, .int .i64 0, .int .i64 yv, .string ⟨#[]⟩]) y W := (hd 12 rfl).ex rfl
          clear hd
          have hb1 := hbq.1 (.inl rfl)
          subst hb1
          obtain ⟨B, h1, h3, h4⟩ := x12
          have hle := hS.le
          obtain ⟨hz, hbw⟩ := hS.ahead rfl
          obtain ⟨i1, hi, hz0, hz1, hz2⟩ := info_parts infoRuleC
          refine step_append_own (by rfl) _ _ 27 (by rfl) (w.heap.size + 1 + 1 + 1 + 1 + 1) 83 i1 _ 11 104 Tryd.underlying27 hi hz0 hz1 hz2 rfl (by decide) (.slice rA (oneRs (sv.take k)).length rc) (oneRs (sv.take k)).length ((oneRs (sv.take k)).flatMap RV.cells) (by first | rfl | (simp only [e19]; rfl)) hz ⟨B, 0, none⟩ 1 1 (mk1 k yv).cells (by first | rfl | (simp only [h1]; rfl)) rfl (blk_cells h4) (one_rule _) (by have := HRL.out; simp only [maxLen]; omega) (by have := HRL.out; omega) (Nat.le_trans HGL.out hle) ?_
          intro v1 w6 hown hgr
          obtain ⟨rA', rc', rfl⟩ := row_is hown
          have hG := GT.grown (by decide) hz HZ0.out hgr
          exact hK.out _ _ _ rfl hG (hS.grown hz hgr) (show ∃ rA'' rc'', _ = Value.slice rA'' ((oneRs (sv.take k)).length + 1) rc'' ∧ RowOf _ (w.heap.size + 1 + 1 + 1 + 1 + 1) 83 11 RV.cells rA'' rc'' (oneRs (sv.take k) ++ [mk1 k yv]) from ⟨rA', rc', rfl, by unfold RowOf; rw [List.length_append, List.flatMap_append, List.flatMap_singleton]; exact hown⟩)
        refine StepsOkB.cons (StepOkB.known rfl fun y W b hbq hS hd K' hK => ?_) ?_
        · skip
          clear hd
          go_simp
          exact hK.out _ _ rfl (GT.refl _ _ _ _) hS.or
        refine StepsOkB.cons (StepOkB.other rfl fun y W b hbq hS hd K' hK => ?_) ?_
        · skip
          have x13 : (fun (y : Nat → Value) (W : World) => ∃ rA' rc', y 31 = .slice rA' ((oneRs (sv.take k)).length + 1) rc' ∧ RowOf W (w.heap.size + 1 + 1 + 1 + 1 + 1) 83 11 RV.cells rA' rc' (oneRs (sv.take k) ++ [mk1 k yv])) y W := (hd 13 rfl).ex rfl
          have e32 : y 32 = .pointer (some ⟨w.heap.size + 1 + 1 + 1 + 1, 0, none⟩) := (hd 14 rfl).val rfl rfl
          clear hd
          have hb1 := hbq.2 rfl
          subst hb1
          obtain ⟨rA', rc', h1, h2⟩ := x13
          obtain ⟨v, hv, _⟩ := hS.own
          have k1 := (hv.cell 0).trans rfl
          have f1 := hv.frozen 0
          have t1 := hv.set_ 0 (.slice rA' ((oneRs (sv.take k)).length + 1) rc')
          have q1 := GS.set_ hv 0 (.slice rA' ((oneRs (sv.take k)).length + 1) rc')
          have hs' := hS.set1 hv (.slice rA' ((oneRs (sv.take k)).length + 1) rc')
          have HH := Lib.hid (And.intro t1 (And.intro q1 hs'))
          clear t1 q1 hs'
          go_simp
          exact hK.out undef _ _ (by first | rfl | (simp only [h1]; done) | (simp only [h1, e32]; rfl)) (GT.gs _ HH.out.2.1) HH.out.2.2 (show ∃ rA' rc', RowOf _ (w.heap.size + 1 + 1 + 1 + 1 + 1) 83 11 RV.cells rA' rc' (oneRs (sv.take k) ++ [mk1 k yv]) ∧ Blk _ (w.heap.size + 1 + 1 + 1 + 1) 32 #[.slice rA' ((oneRs (sv.take k)).length + 1) rc', .slice (some ⟨w.heap.size + 1 + 1 + 1, 0, none⟩) 1 1, .slice none 0 0, .slice none 0 0] from ⟨rA', rc', HH.out.2.1.row (by decide) h2, HH.out.1⟩)
        exact StepsOkB.nil
    · obtain rfl : k = sv.length := by omega
      rw [List.take_length] at heo
      obtain ⟨v, hv, hv2⟩ := heo.own
      obtain rfl := hv2 rfl
      have p0 := (hv.cell 0).trans rfl; have p1 := (hv.cell 1).trans rfl; have p2 := (hv.cell 2).trans rfl; have p3 := (hv.cell 3).trans rfl
      have r0 := (heo.res.cell 0).trans rfl; have r1 := (heo.res.cell 1).trans rfl; have r2 := (heo.res.cell 2).trans rfl; have r3 := (heo.res.cell 3).trans rfl
      have g0 := heo.res.frozen 0; have g1 := heo.res.frozen 1; have g2 := heo.res.frozen 2; have g3 := heo.res.frozen 3
      have hG := GS.set4 heo.res (.slice rA (oneRs sv).length rc) (.slice (some ⟨w.heap.size + 1 + 1 + 1, 0, none⟩) 1 1) (.slice none 0 0) (.slice none 0 0)
      have k0 := (hG.2.cell 0).trans rfl; have k1 := (hG.2.cell 1).trans rfl; have k2 := (hG.2.cell 2).trans rfl; have k3 := (hG.2.cell 3).trans rfl
      have HG := Lib.hid hG.1; have HE := Lib.hid heo
      clear heo hG hv hv2
      go_wp2_with fail
      refine bodyPost_ret (v := .agg #[.slice rA (oneRs sv).length rc, .slice (some ⟨w.heap.size + 1 + 1 + 1, 0, none⟩) 1 1, .slice none 0 0, .slice none 0 0]) (by simp [results, Tryd.results26, go_sem, k0, k1, k2, k3]) rfl ?_
      refine ⟨⟨rA, rc, oneRs sv, some ⟨w.heap.size + 1 + 1 + 1, 0, none⟩, 1, [⟨⟨#[65]⟩, some ⟨w.heap.size + 1 + 1, 0, none⟩, 1, [e]⟩], none, 0, [], none, 0, []⟩, rfl, fun V hV => ?_, ⟨rfl, ⟨_, _, rfl⟩, rfl, rfl⟩, below_set4 HE.out.bel (Nat.le_succ _) _ _ _ _⟩
      have hg := HG.out.trans hV
      have hz := hg.far _ _ _ (by decide) HE.out.zns
      have he := hg.far _ _ _ (by decide) HE.out.ers
      refine ⟨(hg.row (by decide) (HE.out.ahead rfl).1).cellsIn len_rule, one_cells hz (by rfl), fun k r h => by simp at h, fun k r h => by simp at h, fun z hm => ?_⟩
      obtain rfl := List.mem_singleton.1 hm
      exact one_cells he (by rfl)
set_option maxRecDepth 100000 in
set_option maxHeartbeats 8000000 in
theorem named_any (off : Int) (f : ByteArray) (w : World) :
    Calls Tryd.prog 25 #[.int .i64 off, .string f] w fun x w' => x = .returned (.agg #[.int .i64 off, .int .i64 2, .int .i64 0, .string ⟨#[82]⟩, .string f, .bool false, .int .i64 0, .int .i64 0, .int .i64 0, .int .i64 0, .int .i64 0, .int .i64 0, .int .i64 0]) ∧ Below w.heap.size w w' := by
  go_enter Tryd.func25, Tryd.ntmps25
  go_wp2_with fail
  refine bodyPost_ret (v := .agg #[.int .i64 off, .int .i64 2, .int .i64 0, .string ⟨#[82]⟩, .string f, .bool false, .int .i64 0, .int .i64 0, .int .i64 0, .int .i64 0, .int .i64 0, .int .i64 0, .int .i64 0]) (by simp [results, Tryd.results25, go_sem]) rfl ?_
  exact ⟨rfl, (Below.refl _ _).alloc (Nat.le_refl _) _⟩
end Go.Proofs.YtlideagcmhlkeaaDoor

/- slices.Clone of rules, links, eras and strings: a row of the call's own. -/
namespace Go.Proofs.YtlideagcmhlkeaaDoor
open Go.RowKit
set_option linter.unusedVariables false
set_option linter.unusedSimpArgs false

theorem len_str (b : ByteArray) : ((fun b : ByteArray => [Value.string b]) b).length = 1 := rfl
theorem one_str (b : ByteArray) : ∀ u ∈ (fun b : ByteArray => [Value.string b]) b, u.oneCell' = true := fun u hu => by rw [List.mem_singleton.1 hu]; rfl
set_option maxRecDepth 100000 in
set_option maxHeartbeats 4000000 in
theorem clone_rule (A : Option Addr) (c : Nat) (L : List RV) (w : World) (hl : L.length ≤ 1000000) (hC : CellsIn 11 RV.cells w A L) :
    Calls Tryd.prog 84 #[.slice A L.length c] w fun e w' => ∃ A' c', e = .returned (.slice A' L.length c') ∧ RowOf w' w.heap.size 83 11 RV.cells A' c' L ∧ Below w.heap.size w w' := by
  have hq := fun (w : World) (a : Option Addr) (n c n' c' : Nat) => Lib.run_eql_slice_nil (P := Tryd.prog) w 27 83 a n c n' c' Tryd.underlying27
  cases A with
  | none =>
    obtain rfl : L = [] := by
      cases L with
      | nil => rfl
      | cons x L => obtain ⟨b, o, h, _⟩ := hC 0 x rfl; cases h
    go_enter Tryd.func84, Tryd.ntmps84
    go_wp2_with fail
    go_ret
    exact ⟨none, 0, rfl, World.ownsRow_nil .., Below.refl _ _⟩
  | some a =>
    obtain ⟨i1, hi, hz0, hz1, hz2⟩ := info_parts infoRuleC
    have hal := (Below.refl w.heap.size w).alloc (Nat.le_refl _) (.cells #[] 83)
    have HIN := Lib.hid (in_news len_rule (by decide) (hC.below hal))
    have HMD := Lib.hid (World.ownsRow_made (base := w.heap.size) (e := 83) (size := 11) w #[] 0 (Nat.le_refl _) (Nat.zero_le _) (by simp))
    have HFL := Lib.hid (fl_len len_rule L)
    have H1S := Lib.hid (one_fl one_rule L)
    have HAL := Lib.hid hal
    clear hC hal
    go_enter Tryd.func84, Tryd.ntmps84
    go_wp2_with (at_builtin; refine wpList_append_lit rfl _ _ 27 rfl w.heap.size 83 i1 _ 11 104 w.heap.size Tryd.underlying27 hi hz0 hz1 hz2 rfl (by decide) rfl HMD.out (some a) L.length c (L.flatMap RV.cells) rfl HFL.out HIN.out H1S.out (by simp only [maxLen]; omega) (by omega) (by simp) ?_)
    intro A' c' w1 hown hgrow
    have hbl : Below w.heap.size w w1 := HAL.out.grown hgrow (by simp) (by intro k hk; cases hk)
    clear hi hz0 hz1 hz2
    go_wp2_with fail
    go_ret
    exact ⟨_, _, rfl, hown, hbl⟩
set_option maxRecDepth 100000 in
set_option maxHeartbeats 4000000 in
theorem clone_link (A : Option Addr) (c : Nat) (L : List KV) (w : World) (hl : L.length ≤ 1000000) (hC : CellsIn 2 KV.cells w A L) :
    Calls Tryd.prog 85 #[.slice A L.length c] w fun e w' => ∃ A' c', e = .returned (.slice A' L.length c') ∧ RowOf w' w.heap.size 94 2 KV.cells A' c' L ∧ Below w.heap.size w w' := by
  have hq := fun (w : World) (a : Option Addr) (n c n' c' : Nat) => Lib.run_eql_slice_nil (P := Tryd.prog) w 29 94 a n c n' c' Tryd.underlying29
  cases A with
  | none =>
    obtain rfl : L = [] := by
      cases L with
      | nil => rfl
      | cons x L => obtain ⟨b, o, h, _⟩ := hC 0 x rfl; cases h
    go_enter Tryd.func85, Tryd.ntmps85
    go_wp2_with fail
    go_ret
    exact ⟨none, 0, rfl, World.ownsRow_nil .., Below.refl _ _⟩
  | some a =>
    obtain ⟨i1, hi, hz0, hz1, hz2⟩ := info_parts infoLink
    have hal := (Below.refl w.heap.size w).alloc (Nat.le_refl _) (.cells #[] 94)
    have HIN := Lib.hid (in_news len_link (by decide) (hC.below hal))
    have HMD := Lib.hid (World.ownsRow_made (base := w.heap.size) (e := 94) (size := 2) w #[] 0 (Nat.le_refl _) (Nat.zero_le _) (by simp))
    have HFL := Lib.hid (fl_len len_link L)
    have H1S := Lib.hid (one_fl one_link L)
    have HAL := Lib.hid hal
    clear hC hal
    go_enter Tryd.func85, Tryd.ntmps85
    go_wp2_with (at_builtin; refine wpList_append_lit rfl _ _ 29 rfl w.heap.size 94 i1 _ 2 32 w.heap.size Tryd.underlying29 hi hz0 hz1 hz2 rfl (by decide) rfl HMD.out (some a) L.length c (L.flatMap KV.cells) rfl HFL.out HIN.out H1S.out (by simp only [maxLen]; omega) (by omega) (by simp) ?_)
    intro A' c' w1 hown hgrow
    have hbl : Below w.heap.size w w1 := HAL.out.grown hgrow (by simp) (by intro k hk; cases hk)
    clear hi hz0 hz1 hz2
    go_wp2_with fail
    go_ret
    exact ⟨_, _, rfl, hown, hbl⟩
set_option maxRecDepth 100000 in
set_option maxHeartbeats 4000000 in
theorem clone_era (A : Option Addr) (c : Nat) (L : List EV) (w : World) (hl : L.length ≤ 1000000) (hC : CellsIn 13 EV.cells w A L) :
    Calls Tryd.prog 87 #[.slice A L.length c] w fun e w' => ∃ A' c', e = .returned (.slice A' L.length c') ∧ RowOf w' w.heap.size 47 13 EV.cells A' c' L ∧ Below w.heap.size w w' := by
  have hq := fun (w : World) (a : Option Addr) (n c n' c' : Nat) => Lib.run_eql_slice_nil (P := Tryd.prog) w 37 47 a n c n' c' Tryd.underlying37
  cases A with
  | none =>
    obtain rfl : L = [] := by
      cases L with
      | nil => rfl
      | cons x L => obtain ⟨b, o, h, _⟩ := hC 0 x rfl; cases h
    go_enter Tryd.func87, Tryd.ntmps87
    go_wp2_with fail
    go_ret
    exact ⟨none, 0, rfl, World.ownsRow_nil .., Below.refl _ _⟩
  | some a =>
    obtain ⟨i1, hi, hz0, hz1, hz2⟩ := info_parts infoEra
    have hal := (Below.refl w.heap.size w).alloc (Nat.le_refl _) (.cells #[] 47)
    have HIN := Lib.hid (in_news len_era (by decide) (hC.below hal))
    have HMD := Lib.hid (World.ownsRow_made (base := w.heap.size) (e := 47) (size := 13) w #[] 0 (Nat.le_refl _) (Nat.zero_le _) (by simp))
    have HFL := Lib.hid (fl_len len_era L)
    have H1S := Lib.hid (one_fl one_era L)
    have HAL := Lib.hid hal
    clear hC hal
    go_enter Tryd.func87, Tryd.ntmps87
    go_wp2_with (at_builtin; refine wpList_append_lit rfl _ _ 37 rfl w.heap.size 47 i1 _ 13 120 w.heap.size Tryd.underlying37 hi hz0 hz1 hz2 rfl (by decide) rfl HMD.out (some a) L.length c (L.flatMap EV.cells) rfl HFL.out HIN.out H1S.out (by simp only [maxLen]; omega) (by omega) (by simp) ?_)
    intro A' c' w1 hown hgrow
    have hbl : Below w.heap.size w w1 := HAL.out.grown hgrow (by simp) (by intro k hk; cases hk)
    clear hi hz0 hz1 hz2
    go_wp2_with fail
    go_ret
    exact ⟨_, _, rfl, hown, hbl⟩
set_option maxRecDepth 100000 in
set_option maxHeartbeats 4000000 in
theorem clone_str (A : Option Addr) (c : Nat) (L : List ByteArray) (w : World) (hl : L.length ≤ 1000000) (hC : CellsIn 1 (fun b : ByteArray => [Value.string b]) w A L) :
    Calls Tryd.prog 86 #[.slice A L.length c] w fun e w' => ∃ A' c', e = .returned (.slice A' L.length c') ∧ RowOf w' w.heap.size 9 1 (fun b : ByteArray => [Value.string b]) A' c' L ∧ Below w.heap.size w w' := by
  have hq := fun (w : World) (a : Option Addr) (n c n' c' : Nat) => Lib.run_eql_slice_nil (P := Tryd.prog) w 30 9 a n c n' c' Tryd.underlying30
  cases A with
  | none =>
    obtain rfl : L = [] := by
      cases L with
      | nil => rfl
      | cons x L => obtain ⟨b, o, h, _⟩ := hC 0 x rfl; cases h
    go_enter Tryd.func86, Tryd.ntmps86
    go_wp2_with fail
    go_ret
    exact ⟨none, 0, rfl, World.ownsRow_nil .., Below.refl _ _⟩
  | some a =>
    obtain ⟨i1, hi, hz0, hz1, hz2⟩ := info_parts infoStrC
    have hal := (Below.refl w.heap.size w).alloc (Nat.le_refl _) (.cells #[] 9)
    have HIN := Lib.hid (in_news len_str (by decide) (hC.below hal))
    have HMD := Lib.hid (World.ownsRow_made (base := w.heap.size) (e := 9) (size := 1) w #[] 0 (Nat.le_refl _) (Nat.zero_le _) (by simp))
    have HFL := Lib.hid (fl_len len_str L)
    have H1S := Lib.hid (one_fl one_str L)
    have HAL := Lib.hid hal
    clear hC hal
    go_enter Tryd.func86, Tryd.ntmps86
    go_wp2_with (at_builtin; refine wpList_append_lit rfl _ _ 30 rfl w.heap.size 9 i1 _ 1 16 w.heap.size Tryd.underlying30 hi hz0 hz1 hz2 rfl (by decide) rfl HMD.out (some a) L.length c (L.flatMap (fun b : ByteArray => [Value.string b])) rfl HFL.out HIN.out H1S.out (by simp only [maxLen]; omega) (by omega) (by simp) ?_)
    intro A' c' w1 hown hgrow
    have hbl : Below w.heap.size w w1 := HAL.out.grown hgrow (by simp) (by intro k hk; cases hk)
    clear hi hz0 hz1 hz2
    go_wp2_with fail
    go_ret
    exact ⟨_, _, rfl, hown, hbl⟩
end Go.Proofs.YtlideagcmhlkeaaDoor
