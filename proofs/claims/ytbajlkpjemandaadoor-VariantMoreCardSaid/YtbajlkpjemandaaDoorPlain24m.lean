/- Plain mathematics for VariantMore (chapter 24): which errors a source has in the three forms; no program in sight. -/
import Derived.Test.YtbajlkpjemandaaDoorPlain24
import Derived.Test.YtbajlkpjemandaaDoorVar24d
namespace Go.Proofs.YtbajlkpjemandaaDoor
set_option linter.unusedVariables false
namespace P24
/-- a rule with a save below 0 -/
def anyNeg (L : List RV) : Bool := L.any fun r => decide (r.save < 0)
theorem negR3 : negR 3 = fun r : RV => decide (r.save < 0) := by funext r; simp [negR, neg]
theorem negR1 : ∀ L : List RV, first (negR 1) L = -1 := fun L => first_none fun a _ => by simp [negR, neg]
theorem negR2 : ∀ L : List RV, first (negR 2) L = -1 := fun L => first_none fun a _ => by simp [negR, neg]
theorem neg3_any (L : List RV) : (0 ≤ first (negR 3) L) ↔ anyNeg L = true := by
  unfold anyNeg
  rw [negR3, List.any_eq_true]
  constructor
  · intro h
    refine Classical.byContradiction fun q => ?_
    rw [first_none (p := fun r : RV => decide (r.save < 0)) (fun a ha => by
      cases hx : decide (a.save < 0) with
      | false => rfl
      | true => exact absurd ⟨a, ha, hx⟩ q)] at h
    omega
  · rintro ⟨a, ha, hx⟩
    refine Classical.byContradiction fun q => ?_
    rw [first_no (p := fun r : RV => decide (r.save < 0)) (by omega) a ha] at hx
    cases hx
theorem bad32 : badV 3 = badV 2 := by funext e; simp [badV, badE, made, num]
theorem zb32 : ∀ (L : List ZV) (i : Int), zb 3 L i = zb 2 L i
  | [], _ => rfl
  | z :: L, i => by rw [zb, zb, bad32, zb32 L]
theorem zb_none {n : Int} : ∀ {L : List ZV} {i : Int}, zb n L i = none → ∀ z ∈ L, ∀ e ∈ z.eras, badV n e = false
  | [], _, _, z, hz, _, _ => by simp at hz
  | y :: L, i, h, z, hz, e, he => by
    rw [zb] at h
    by_cases hy : 0 ≤ first (badV n) y.eras
    · rw [if_pos hy] at h; cases h
    · rw [if_neg hy] at h
      rcases List.mem_cons.1 hz with rfl | hz
      · exact first_no (by omega) e he
      · exact zb_none h z hz e he
def none? (n : Int) (s : SV) : Bool := (zb n s.zones 0).isNone
theorem none_is {n : Int} {s : SV} (h : none? n s = true) : zb n s.zones 0 = none := by unfold none? at h; exact Option.isNone_iff_eq_none.1 h
theorem none_not {n : Int} {s : SV} (h : none? n s = false) : ∃ i k, zb n s.zones 0 = some (i, k) := by
  unfold none? at h
  cases q : zb n s.zones 0 with
  | none => rw [q] at h; cases h
  | some x => exact ⟨x.1, x.2, rfl⟩
/-- the three errors -/
theorem err12 {n : Int} (hn : n = 1 ∨ n = 2) (s : SV) : (check s n).2 = if none? n s = true ∧ ¬ 0 < s.shifts.length then 0 else 17 := by
  have hf : isForm n = true := by rcases hn with rfl | rfl <;> rfl
  have hr : first (negR n) s.rules < 0 := by
    rcases hn with rfl | rfl
    · rw [negR1]; decide
    · rw [negR2]; decide
  have hs : shift n = false := by rcases hn with rfl | rfl <;> rfl
  cases h : none? n s with
  | false =>
    obtain ⟨i, k, q⟩ := none_not h
    rw [check_zone hf hr q]; simp
  | true =>
    rw [check_none hf hr (none_is h)]
    by_cases hl : 0 < s.shifts.length
    · rw [if_pos ⟨hl, hs⟩, if_neg (by simp [hl])]
    · rw [if_neg (by simp [hl]), if_pos ⟨rfl, hl⟩]
theorem err3 (s : SV) : (check s 3).2 = if none? 2 s = true ∧ anyNeg s.rules = false then 0 else 17 := by
  have h3 : none? 3 s = none? 2 s := by unfold none?; rw [zb32]
  cases hb : anyNeg s.rules with
  | true =>
    rw [check_rule rfl ((neg3_any _).2 hb)]; simp
  | false =>
    have hr : first (negR 3) s.rules < 0 := by
      refine Classical.byContradiction fun q => ?_
      rw [(neg3_any _).1 (by omega)] at hb; cases hb
    cases h : none? 2 s with
    | false =>
      obtain ⟨i, k, q⟩ := none_not (h3.trans h)
      rw [check_zone rfl hr q]; simp
    | true =>
      rw [check_none rfl hr (none_is (h3.trans h))]; simp [shift]
/-- neither numbers nor %z -/
theorem more_no {s : SV} (h1 : none? 1 s = true) (h2 : none? 2 s = true) {z : ZV} (hz : z ∈ s.zones) {e : EV} (he : e ∈ z.eras) : (P20.parse (P4.bl e.fmt)).2 ≠ 0 ∧ P4.bl e.fmt ≠ [37, 122] := by
  have a := zb_none (none_is h1) z hz e he
  have b := zb_none (none_is h2) z hz e he
  simp only [badV, badE, made, num, Bool.or_eq_false_iff, Bool.and_eq_false_iff, decide_eq_false_iff_not] at a b
  refine ⟨fun q => ?_, fun q => ?_⟩
  · have k5 := P21.kind5 (l := P4.bl e.fmt) (by unfold P21.num; rw [q]; rfl)
    rcases a.2 with x | x
    · exact x k5
    · revert x; decide
  · rw [q, P21.kind_z] at b
    rcases b.1 with x | x
    · exact x rfl
    · revert x; decide
end P24
end Go.Proofs.YtbajlkpjemandaaDoor
