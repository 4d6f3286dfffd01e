/- The walks of ruleset.Other and of the reference's Other (chapters 16, 20). -/
import Derived.Test.YtmhciidliicheaaDoorRules
import Derived.Test.YtmhciidliicheaaDoorPlain20b
namespace Go.Proofs.YtmhciidliicheaaDoor
open Go.RowKit
set_option linter.unusedVariables false

def svs (L : List RV) : List Int := L.map (·.save)
theorem svs_drop {L : List RV} {k : Nat} {r : RV} (h : L[k]? = some r) : (svs L).drop k = r.save :: (svs L).drop (k + 1) := by
  have hk : k < (svs L).length := by rw [svs, List.length_map]; exact (List.getElem?_eq_some_iff.mp h).1
  rw [List.drop_eq_getElem_cons hk]
  congr 1
  have := (List.getElem?_eq_some_iff.mp h).2
  simp [svs, this]
theorem of_zero {X : Int} {L : List RV} {k : Nat} {r : RV} (h : L[k]? = some r) (hz : r.save = 0) : P20.otherFrom X ((svs L).drop k) = P20.otherFrom X ((svs L).drop (k + 1)) := by
  rw [svs_drop h, P20.otherFrom, if_pos hz]
theorem of_bad {X : Int} {L : List RV} {k : Nat} {r : RV} (h : L[k]? = some r) (hz : r.save ≠ 0) (hx : X ≠ 0) (hr : r.save ≠ X) : P20.otherFrom X ((svs L).drop k) = (0, false) := by
  rw [svs_drop h, P20.otherFrom, if_neg hz, if_pos ⟨hx, hr⟩]
theorem of_new {X : Int} {L : List RV} {k : Nat} {r : RV} (h : L[k]? = some r) (hz : r.save ≠ 0) (hx : ¬ (X ≠ 0 ∧ r.save ≠ X)) : P20.otherFrom X ((svs L).drop k) = P20.otherFrom r.save ((svs L).drop (k + 1)) := by
  rw [svs_drop h, P20.otherFrom, if_neg hz, if_neg hx]
theorem of_end (X : Int) (L : List RV) : P20.otherFrom X ((svs L).drop L.length) = (X, decide (X ≠ 0)) := by
  rw [List.drop_eq_nil_of_le (by rw [svs, List.length_map]; exact Nat.le_refl _)]; rfl
theorem dne (X : Int) : decide (X ≠ 0) = (X != 0) := by
  rw [Bool.eq_iff_iff]; simp

set_option maxRecDepth 100000 in
set_option maxHeartbeats 4000000 in
theorem other_any (A : Option Addr) (L : List RV) (c : Nat) (w : World) (hl : L.length ≤ 1000000) (hR : RulesIn w A L) :
    Calls Tryd.prog 33 #[.slice A L.length c] w fun e w' => e = .returned (.tuple #[.int .i64 (P20.other (svs L)).1, .bool (P20.other (svs L)).2]) ∧ Below w.heap.size w w' := by
  obtain ⟨R, hRR⟩ : ∃ R, R = P20.other (svs L) := ⟨_, rfl⟩
  rw [← hRR]
  have HR : Hid (P20.otherFrom 0 ((svs L).drop 0) = R) := Lib.hid hRR.symm
  clear hRR
  have hli : (L.length : Int) ≤ 1000000 := by omega
  go_enter Tryd.func33, Tryd.ntmps33
  go_wp2_with fail
  go_loopw [4, 9] (fun x i wr => ∃ (k : Nat) (X : Int), k ≤ L.length ∧ i = .int .i64 k ∧ x = .int .i64 X ∧ Hid (P20.otherFrom X ((svs L).drop k) = R) ∧ RulesIn wr A L ∧ Below w.heap.size w wr) (fun _ i _ => L.length - (intOf i).toNat)
  case atStart => exact ⟨0, 0, Nat.zero_le _, rfl, rfl, HR, hR, Below.refl _ _⟩
  case round =>
    clear HR hR
    obtain ⟨k, X, hk, rfl, rfl, HR, hR, hb⟩ := hrel
    by_cases hlt : k < L.length
    · obtain ⟨r, hr⟩ : ∃ r, L[k]? = some r := ⟨_, List.getElem?_eq_getElem hlt⟩
      obtain ⟨b, o, rfl, hlb, c0, c1, c2, c3, c4, c5, c6, c7, c8, c9, c10⟩ := hR.get k r hr
      have hki : (k : Int) < (L.length : Int) := by omega
      have z0 := fun q => of_zero (X := X) hr q
      have z1 := fun q => of_bad (X := X) hr q
      have z2 := fun q => of_new (X := X) hr q
      obtain ⟨nm, fr, tl, mo, dk, dw, dd, sc, bs, sv, lt⟩ := r
      simp only at c0 c1 c2 c3 c4 c5 c6 c7 c8 c9 c10 z0 z1 z2
      have hR2 := Lib.hid (hR.alloc (.cells #[.string nm, .int .i64 fr, .int .i64 tl, .int .i64 mo, .int .i64 dk, .int .i64 dw, .int .i64 dd, .int .i64 sc, .int .i64 bs, .int .i64 sv, .string lt] 38))
      have hb2 := hb.alloc hb.size (.cells #[.string nm, .int .i64 fr, .int .i64 tl, .int .i64 mo, .int .i64 dk, .int .i64 dw, .int .i64 dd, .int .i64 sc, .int .i64 bs, .int .i64 sv, .string lt] 38)
      by_cases hz : sv = 0
      · have HG := Lib.hid (z0 hz)
        have e1 : (sv == 0) = true := by rw [beq_iff_eq]; exact hz
        have e2 : (sv != 0) = false := by rw [bne_eq_false_iff_eq]; exact hz
        clear z0 z1 z2 hr hR
        clear hz
        go_wp2_with fail
        go_roundw
        case rel => exact ⟨k + 1, X, by omega, by go_num, rfl, Lib.hid (HG.out.symm.trans HR.out), hR2.out, hb2⟩
        case measure => simp [intOf]; omega
      · have e1 : (sv == 0) = false := by rw [beq_eq_false_iff_ne]; exact hz
        have e2 : (sv != 0) = true := by rw [bne_iff_ne]; exact hz
        by_cases hx : X = 0
        · have HG := Lib.hid (z2 hz (fun q => q.1 hx))
          have e3 : (X != 0) = false := by rw [bne_eq_false_iff_eq]; exact hx
          clear z0 z1 z2 hr hR
          clear hz hx
          go_wp2_with fail
          go_roundw
          case rel => exact ⟨k + 1, sv, by omega, by go_num, rfl, Lib.hid (HG.out.symm.trans HR.out), hR2.out, hb2⟩
          case measure => simp [intOf]; omega
        · have e3 : (X != 0) = true := by rw [bne_iff_ne]; exact hx
          by_cases hq : sv = X
          · have HG := Lib.hid (z2 hz (fun q => q.2 hq))
            have e4 : (sv != X) = false := by rw [bne_eq_false_iff_eq]; exact hq
            clear z0 z1 z2 hr hR
            clear hz hx hq
            go_wp2_with fail
            go_roundw
            case rel => exact ⟨k + 1, sv, by omega, by go_num, rfl, Lib.hid (HG.out.symm.trans HR.out), hR2.out, hb2⟩
            case measure => simp [intOf]; omega
          · have HG := Lib.hid (z1 hz hx hq)
            have e4 : (sv != X) = true := by rw [bne_iff_ne]; exact hq
            clear z0 z1 z2 hr hR
            clear hz hx hq
            go_wp2_with fail
            go_ret2
            exact ⟨by rw [← HR.out, HG.out]; rfl, hb2⟩
    · obtain rfl : k = L.length := by omega
      have HG := Lib.hid ((of_end X L).symm.trans HR.out)
      rw [dne] at HG
      have hki : ¬ (L.length : Int) < (L.length : Int) := by omega
      clear HR
      go_wp2_with fail
      go_ret2
      exact ⟨by rw [← HG.out]; rfl, hb⟩
end Go.Proofs.YtmhciidliicheaaDoor
